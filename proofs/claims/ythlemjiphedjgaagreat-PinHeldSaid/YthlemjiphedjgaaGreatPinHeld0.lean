/- A part of the proof: PinHeld returns true for every input: Mostly moves and frees no object that is held, moves none that is pinned, and leaves what is kept as it is, but for addresses (P18.1, P18.4) Conditions: none. -/
import Derived.Calls
import Derived.Orders
import Derived.Below
import Derived.Laws.AppendOwn
import Derived.MapKept
import Derived.Laws.StructEq
import Derived.Laws.Cover3
import Derived.Laws.Pointers
import Derived.Laws.MakeOwn
import Derived.ChangeKeysEq
import Derived.RangeFuncIn
import Derived.RangeFuncLeaves
import Derived.RangeFuncRecord
import Derived.OrdersIn
set_option linter.unusedVariables false
set_option linter.unusedSimpArgs false
set_option linter.defProp false
set_option maxRecDepth 100000
namespace Go.Cs
theorem oM{p:Prop}(h:p:=by omega):p:=h
theorem dK{p:Prop}(h:p:=by decide +kernel):p:=h
theorem sM{p:Prop}(h:p:=by simp):p:=h
theorem dE{p:Prop}(h:p:=by decide):p:=h
end Go.Cs
namespace Go.Cs
def GA:=@Option.some.injEq
def GD:=@Option.map_eq_some_iff
def Jk:=@Option.bind_eq_some_iff
def Jr:=@List.getElem?_eq_getElem
def KV:=@List.getElem?_set_ne
def Va:=@List.getElem?_set_self
def Bo:=@List.getD_eq_getElem?_getD
def IJ:=@List.getElem?_append_left
def lX8:=@List.getElem?_append_right
def lX9:=@List.getElem?_eq_none
def Kr:=@List.getElem?_map
def ZK:=@List.getElem?_eq_some_iff
def Vo:=@Array.getElem?_eq_some_iff
def J6:=@Nat.lt_of_lt_of_le
def J2:=@Nat.le_trans
def JV:=@List.mem_of_getElem?
def QT:=@List.mem_cons_self
def VA:=@List.mem_cons_of_mem
def Qe:=@List.take_of_length_le
def Ge2:=@List.drop_of_length_le
def Qi:=@List.length_append
def Kt:=@Int.toNat_natCast
def Gw:=@decide_eq_false
def Gz:=@decide_eq_true
def Ig:=@List.getElem?_set
def GlE:=@List.getElem?_append
def Ld:=@List.length_pos_iff
def KI:=@List.mem_map
def K_:=@List.mem_append
def Ad:=@List.mem_singleton
def AV:=@List.eq_nil_of_length_eq_zero
def NH:=@Bool.and_eq_true
def Lp:=@List.find?_some
def VB:=@Nat.lt_or_ge
def IX:=@List.getElem?_range
def QY:=@List.length_map
def Iq:=@beq_eq_false_iff_ne
def Zx:=@List.getElem?_take
def Z7:=@List.getElem?_drop
def GkG:=@Array.getElem?_eq_getElem
def GjQ:=@Array.getElem?_toList
def Gky:=@Array.size_setIfInBounds
def GnR:=@Array.getElem?_setIfInBounds_ne
def Ij:=@List.map_append
def Nl:=@List.take_add_one
def Z4:=@Option.toList_some
end Go.Cs
namespace Go.Cs
open Go
inductive CV where
 |int (k:IntKind) (n:Int)
 |bool (b:Bool)
 |ptr (b o:Nat)
 |nilPtr
 |slice (b o len cap GN:Nat) (tail:Bool)
 |Gd
 |func (f:Nat) (caps:List CV)
 |nilFunc
 |GJ (b:Nat)
 |Uk
 |iface (t:Nat) (x:CV)
 |nilIface
 |GfH (name:String) (x:CV)
 |yld (b:Nat)
 |agg (cs:List CV)
 |Jj (vs:List CV)
 deriving Inhabited
abbrev CV.undef:CV:=.Jj []
abbrev CV.i(n:Int):CV:=.int .i64 n
inductive Mode where
 |rw|ro|dead|map
 deriving DecidableEq,Inhabited
structure JE where
 cells:List CV
 mode:Mode
 GN:Nat
 deriving Inhabited
abbrev Gb:=List JE
def cellsOf:CV→List CV
 |.agg cs=>cs
 |v=>[v]
def leaf:CV→Bool
 |.agg _|.Jj _=>false
 |_=>true
def splice(l:List CV)(o:Nat)(vs:List CV):List CV:=l.take o++vs++l.drop (o+vs.length)
def QW(H:Gb)(b o:Nat):Option CV:=
 match H[b]? with
 |some blk=>if blk.mode=.dead∨blk.mode=.map then none else blk.cells[o]?
 |none=>none
def JD(H:Gb)(b o n:Nat):Option (List CV):=
 match H[b]? with
 |some blk=>if blk.mode=.dead∨blk.mode=.map then none else if o+n≤blk.cells.length then some ((blk.cells.drop o).take n)else none
 |none=>none
def Nh(H:Gb)(b o:Nat)(vs:List CV):Option Gb:=
 match H[b]? with
 |some blk=>if blk.mode=.rw∧o+vs.length≤blk.cells.length∧vs.all leaf=true then some (H.set b {blk with cells:=splice blk.cells o vs})else none
 |none=>none
inductive Jy where
 |tmp (t:Nat)
 |const (v:CV)
 deriving Inhabited
abbrev Env:=Nat→CV
def Env.ev(E:Env):Jy→CV
 |.tmp t=>E t
 |.const v=>v
def Env.upd(E:Env)(d:Nat)(v:CV):Env:=fun t=>if t=d then v else E t
def Env.put(E:Env)(d:Option Nat)(v:CV):Env:=
 match d with
 |some d=>E.upd d v
 |none=>E
inductive Kc where
 |Km (x:Jy)
 |pick (c a b:Jy)
 |new (cells:List CV)
 |box (x:Jy)
 |build (zero:List CV) (parts:List (Nat×Nat×Jy))
 |buildSlice (GN:Nat) (cells:List CV) (len:Nat) (parts:List (Nat×Nat×Jy))
 |load (agg:Bool) (n:Nat) (a:Jy)
 |store (n:Nat) (a v:Jy)
 |nilCheck (x:Jy)
 |bin (op:BinOp) (x y:Jy)
 |shift (op:BinOp) (x y:Jy)
 |conv (k:IntKind) (x:Jy)
 |mm (big:Bool) (l:List Jy)
 |NI (n GN:Nat) (x i:Jy)
 |Fg (l:List Nat) (i:Jy)
 |Gbx (n:Nat) (x i:Jy)
 |eqv (neg:Bool) (ty:Nat) (x y:Jy)
 |eqs (neg:Bool) (n:Nat) (x y:Jy)
 |eqb (neg:Bool) (n:Nat) (x y:Jy)
 |not (x:Jy)
 |Ug (f:Nat) (caps:List Jy)
 |makeSlice (GN:Nat) (zero:List CV) (l c:Jy)
 |slice (GN:Nat) (x:Jy) (lo hi mx:Option Jy)
 |field (off:Nat) (x:Jy)
 |index (GN:Nat) (x i:Jy)
 |extract (x:Jy) (i:Nat)
 |len (x:Jy)
 |append (GN:Nat) (s x:Jy)
 |copy (GN:Nat) (d s:Jy)
 |clear (zero:List CV) (s:Jy)
 |call (f:Nat) (args:List Jy)
 |KH (g:Jy) (args:List Jy)
 |Gm9 (t:Nat) (x:Jy)
 |GaU (name:String) (x:Jy)
 |Bc (g:Jy) (args:List Jy) (IE:List (Nat×String×Nat))
 |Sk (name:String) (x:Jy) (args:List Jy) (IE:List (Nat×String×Nat))
 |Yf
 |Vn (ok:Bool) (k:IntKind) (zero:CV) (m x:Jy)
 |Ya (m:Jy)
 |QS (k:IntKind) (m x v:Jy)
 |YO (k:IntKind) (m x:Jy)
 |QI (m:Jy)
 |Bp (x:Jy)
 |KJ (g:Nat) (x:Jy)
 deriving Inhabited
def Ko(op:BinOp)(k:IntKind)(a b:Int):Option CV:=
 match op with
 |.add=>some (.int k (k.wrap (a+b)))
 |.sub=>some (.int k (k.wrap (a-b)))
 |.mul=>some (.int k (k.wrap (a*b)))
 |.quo=>if b=0 then none else some (.int k (k.wrap (a.tdiv b)))
 |.rem=>if b=0 then none else some (.int k (a.tmod b))
 |.eql=>some (.bool (a==b))
 |.neq=>some (.bool (a != b))
 |.lss=>some (.bool (decide (a<b)))
 |.leq=>some (.bool (decide (a≤b)))
 |.gtr=>some (.bool (decide (a>b)))
 |.geq=>some (.bool (decide (a≥b)))
 |.and=>some (.int k (k.wrap (BitVec.ofInt k.bits a &&& BitVec.ofInt k.bits b).toNat))
 |.or=>some (.int k (k.wrap (BitVec.ofInt k.bits a ||| BitVec.ofInt k.bits b).toNat))
 |.xor=>some (.int k (k.wrap (BitVec.ofInt k.bits a ^^^ BitVec.ofInt k.bits b).toNat))
 |.andNot=>some (.int k (k.wrap (BitVec.ofInt k.bits a &&& ~~~BitVec.ofInt k.bits b).toNat))
 |_=>none
def shiftOp(op:BinOp)(k:IntKind)(a b:Int):Option CV:=
 if b<0 then none else
 match op with
 |.shl=>some (.int k (k.wrap (a*2 ^ min b.toNat k.bits)))
 |.shr=>some (.int k (a.fdiv (2 ^ min b.toNat k.bits)))
 |_=>none
def mm2(big:Bool):CV→CV→Option CV
 |.int k x,.int _ y=>some (.int k (if big then(if y>x then y else x)else(if y<x then y else x)))
 |_,_=>none
def Gj7(big:Bool):List CV→Option CV
 |[]=>none
 |x::r=>r.foldlM (mm2 big) x
def VG:List CV→List CV→Option Bool
 |[],[]=>some true
 |.bool a::r,.bool b::r'=>(VG r r').map fun t=>(a==b)&&t
 |_,_=>none
def Qn:List CV→List CV→Option Bool
 |[],[]=>some true
 |.int k a::r,.int k' b::r'=>if k=k' then(Qn r r').map fun t=>(a==b)&&t else none
 |_,_=>none
def Oj:Nat→CV→CV→Option Bool
 |0,.bool a,.bool b=>some (a==b)
 |1,.nilPtr,.nilPtr=>some true
 |1,.nilPtr,.ptr _ _=>some false
 |1,.ptr _ _,.nilPtr=>some false
 |2,.Gd,.Gd=>some true
 |2,.Gd,.slice .. =>some false
 |2,.slice ..,.Gd=>some false
 |_,_,_=>none
def fill(cells:List CV):List (Nat×Nat×CV)→Option (List CV)
 |[]=>some cells
 |(off,size,v)::rest=>if(cellsOf v).length=size∧off+size≤cells.length then fill (splice cells off (cellsOf v)) rest else none
def KM(E:Env)(ps:List (Nat×Nat×Jy)):List (Nat×Nat×CV):=ps.map fun p=>(p.1,p.2.1,E.ev p.2.2)
abbrev J9:Nat:=16777216
def elems(H:Gb)(GN:Nat):CV→Option (Nat×List CV)
 |.Gd=>some (0,[])
 |.slice b o len _ _ _=>if len=0 then some (0,[])else(JD H b o (len*GN)).map fun cs=>(len,cs)
 |_=>none
def NQ(H:Gb)(GN:Nat)(s:CV)(n:Nat)(new:List CV):Option (Option JE×(Nat→CV)):=
 match s with
 |.Gd=>if n=0 then some (none,fun _=>s)else if n≤J9 then some (some ⟨new,.rw,GN⟩,fun k=>.slice k 0 n n GN true)else none
 |.slice b o len cap e tail=>
  if n=0 then some (none,fun _=>s)
  else if tail=false∧cap<len+n∧len+n≤J9 then
   (if len=0 then some []else JD H b o (len*GN)).map fun old=>(some ⟨old++new,.rw,GN⟩,fun k=>.slice k 0 (len+n) (len+n) GN true)
  else none
 |_=>none
def Ju(H:Gb)(GN:Nat)(s:CV)(n:Nat)(new:List CV):Option (CV×Gb):=
 match s with
 |.Gd=>if n=0 then some (s,H)else if n≤J9 then some (.slice H.length 0 n n GN true,H++[⟨new,.rw,GN⟩])else none
 |.slice b o len cap e tail=>
  if n=0 then some (s,H)
  else if len+n≤cap then(Nh H b (o+len*GN) new).map fun H'=>(.slice b o (len+n) cap e tail,H')
  else if len+n≤J9 then
   (if len=0 then some []else JD H b o (len*GN)).bind fun old=>
    if tail then
     match H[b]? with
     |some blk=>if blk.mode=.rw∧e=GN∧o+cap*GN=blk.cells.length∧new.all leaf=true then
      some (.slice H.length 0 (len+n) (len+n) GN true,H.set b {blk with mode:=.dead}++[⟨old++new,.rw,GN⟩])else none
     |none=>none
    else some (.slice H.length 0 (len+n) (len+n) GN true,H++[⟨old++new,.rw,GN⟩])
  else none
 |_=>none
def UA(k:IntKind)(n:Int):List CV→Nat→Option (Option (Nat×CV))
 |[],_=>some none
 |.Jj [.int k' n',v]::r,i=>if k=k' then(if n==n' then some (some (i,v))else UA k n r (i+1))else none
 |_::_,_=>none
def QN:List CV→List CV
 |[.agg es]=>es
 |es=>es
def VP:List CV→Bool
 |[.agg _]=>true
 |_=>false
def entriesOf(H:Gb):CV→Option (List CV)
 |.Uk=>some []
 |.GJ b=>match H[b]? with
  |some blk=>if blk.mode=.map∧blk.GN=0 then some (QN blk.cells)else none
  |none=>none
 |_=>none
def mapOf(H:Gb):CV→Option (Nat×List CV)
 |.GJ b=>match H[b]? with
  |some ⟨es,.map,0⟩=>if VP es then none else some (b,es)
  |_=>none
 |_=>none
def Qm(H:Gb)(ok:Bool)(k:IntKind)(zero m x:CV):Option CV:=
 match x with
 |.int k' n=>if k=k' then(entriesOf H m).bind fun es=>(UA k n es 0).map fun r=>
   match r with
   |some (_,v)=>if ok then .Jj [v,.bool true]else v
   |none=>if ok then .Jj [zero,.bool false]else zero
  else none
 |_=>none
def Jq(H:Gb)(b:Nat)(es:List CV):Option Gb:=
 match H[b]? with
 |some blk=>if blk.mode=.map∧blk.GN=0∧VP blk.cells=false then some (H.set b {blk with cells:=es})else none
 |none=>none
def Qj(H:Gb)(k:IntKind)(m x v:CV):Option Gb:=
 match m,x with
 |.GJ b,.int k' n=>if k=k'∧leaf v=true then(entriesOf H m).bind fun es=>(UA k n es 0).bind fun r=>
   match r with
   |some (i,_)=>Jq H b (es.set i (.Jj [.int k n,v]))
   |none=>Jq H b (es++[.Jj [.int k n,v]])
  else none
 |_,_=>none
def U5(H:Gb)(k:IntKind)(m x:CV):Option Gb:=
 match m,x with
 |.GJ b,.int k' n=>if k=k' then(entriesOf H m).bind fun es=>(UA k n es 0).bind fun r=>
   match r with
   |some (i,_)=>Jq H b (es.eraseIdx i)
   |none=>Jq H b es
  else none
 |.Uk,.int k' _=>if k=k' then some H else none
 |_,_=>none
def bound(E:Env)(x:Jy)(m:Nat):Option Nat:=
 match E.ev x with
 |.int _ i=>if 0≤i∧i≤(m:Int)then some i.toNat else none
 |_=>none
def Aa(E:Env)(x:Option Jy)(m d:Nat):Option Nat:=
 match x with
 |some v=>bound E v m
 |none=>some d
def Ay(E:Env)(len cap:Nat)(lo hi mx:Option Jy):Option (Nat×Nat×Nat):=
 if mx.isSome=true∧hi.isNone=true then none else
 (Aa E mx cap cap).bind fun m=>(Aa E hi m len).bind fun h=>(Aa E lo h 0).bind fun l=>some (l,h,m)
def sliceTo(E:Env)(GN:Nat)(x:CV)(lo hi mx:Option Jy):Option CV:=
 match x with
 |.Gd=>(Ay E 0 0 lo hi mx).map fun _=>.Gd
 |.slice b o len cap e tail=>if e=GN∧len≤cap then(Ay E len cap lo hi mx).map fun r=>.slice b (o+r.1*GN) (r.2.1-r.1) (r.2.2-r.1) e (tail&&mx.isNone)else none
 |_=>none
def G7(op:Kc)(E:Env)(H:Gb):Option (Option JE×(Nat→CV)):=
 match op with
 |.Km x=>some (none,fun _=>E.ev x)
 |.pick c a b=>match E.ev c with|.bool t=>some (none,fun _=>if t then E.ev a else E.ev b)|_=>none
 |.new cells=>some (some ⟨cells,.rw,0⟩,fun k=>.ptr k 0)
 |.Yf=>some (some ⟨[],.map,0⟩,fun k=>.GJ k)
 |.box x=>some (some ⟨cellsOf (E.ev x),.rw,0⟩,fun k=>.ptr k 0)
 |.build zero parts=>(fill zero (KM E parts)).map fun cs=>(none,fun _=>.agg cs)
 |.buildSlice GN cells len parts=>(fill cells (KM E parts)).map fun cs=>(some ⟨cs,.rw,GN⟩,fun k=>.slice k 0 len len GN false)
 |.load agg n a=>match E.ev a with
  |.ptr b o=>if agg then(JD H b o n).map fun cs=>(none,fun _=>.agg cs)else(QW H b o).map fun v=>(none,fun _=>v)
  |_=>none
 |.nilCheck x=>match E.ev x with
  |.ptr b o=>some (none,fun _=>.ptr b o)
  |.iface t c=>some (none,fun _=>.iface t c)
  |_=>none
 |.Gm9 t x=>some (none,fun _=>.iface t (E.ev x))
 |.GaU name x=>some (none,fun _=>.GfH name (E.ev x))
 |.bin op x y=>match E.ev x,E.ev y with
  |.int k a,.int k' b=>if k=k' then(Ko op k a b).map fun v=>(none,fun _=>v)else none
  |_,_=>none
 |.shift op x y=>match E.ev x,E.ev y with
  |.int k a,.int _ b=>(shiftOp op k a b).map fun v=>(none,fun _=>v)
  |_,_=>none
 |.conv k x=>match E.ev x with|.int _ n=>some (none,fun _=>.int k (k.wrap n))|_=>none
 |.mm big l=>(Gj7 big (l.map E.ev)).map fun v=>(none,fun _=>v)
 |.NI n GN x i=>match E.ev x,E.ev i with
  |.ptr b o,.int _ i=>if 0≤i∧i<(n:Int)then some (none,fun _=>.ptr b (o+i.toNat*GN))else none
  |_,_=>none
 |.Fg l i=>match E.ev i with
  |.int _ i=>if 0≤i then(l[i.toNat]?).map fun(v:Nat)=>(none,fun _=>CV.int .u8 (v:Int))else none
  |_=>none
 |.Gbx n x i=>match E.ev x,E.ev i with
  |.agg cs,.int _ i=>if 0≤i∧i<(n:Int)then(cs[i.toNat]?).map fun v=>(none,fun _=>v)else none
  |_,_=>none
 |.eqb neg n x y=>match E.ev x,E.ev y with
  |.agg xs,.agg ys=>if xs.length=n then(VG xs ys).map fun t=>(none,fun _=>.bool (if neg then !t else t))else none
  |_,_=>none
 |.eqv neg ty x y=>(Oj ty (E.ev x) (E.ev y)).map fun t=>(none,fun _=>.bool (if neg then !t else t))
 |.eqs neg n x y=>match E.ev x,E.ev y with
  |.agg xs,.agg ys=>if xs.length=n then(Qn xs ys).map fun t=>(none,fun _=>.bool (if neg then !t else t))else none
  |_,_=>none
 |.not x=>match E.ev x with|.bool t=>some (none,fun _=>.bool !t)|_=>none
 |.Ug f caps=>some (none,fun _=>.func f (caps.map E.ev))
 |.makeSlice GN zero l c=>match E.ev l,E.ev c with
  |.int .i64 l,.int .i64 c=>if 0≤l∧l≤c∧c≤(J9:Int)then
   some (some ⟨(List.replicate c.toNat zero).flatten,.rw,GN⟩,fun k=>.slice k 0 l.toNat c.toNat GN false)else none
  |_,_=>none
 |.slice GN x lo hi mx=>(sliceTo E GN (E.ev x) lo hi mx).map fun v=>(none,fun _=>v)
 |.field off x=>match E.ev x with|.ptr b o=>some (none,fun _=>.ptr b (o+off))|_=>none
 |.index GN x i=>match E.ev x,E.ev i with
  |.slice b o len _ _ _,.int _ i=>if 0≤i∧i<(len:Int)then some (none,fun _=>.ptr b (o+i.toNat*GN))else none
  |_,_=>none
 |.extract x i=>match E.ev x with|.Jj vs=>vs[i]?.map fun v=>(none,fun _=>v)|_=>none
 |.len x=>match E.ev x with
  |.slice _ _ len _ _ _=>some (none,fun _=>.i len)
  |.Gd=>some (none,fun _=>.i 0)
  |_=>none
 |.append GN s x=>(elems H GN (E.ev x)).bind fun p=>NQ H GN (E.ev s) p.1 p.2
 |.Vn ok k z m x=>(Qm H ok k z (E.ev m) (E.ev x)).map fun v=>(none,fun _=>v)
 |.Ya m=>(entriesOf H (E.ev m)).map fun es=>(none,fun _=>.i es.length)
 |.store .. |.copy .. |.clear .. |.call .. |.KH .. |.Bc .. |.Sk .. |.QS .. |.YO .. |.QI .. |.Bp .. |.KJ .. =>none
def Gcl(a:Int):List Int→List Int
 |[]=>[a]
 |b::l=>if a≤b then a::b::l else b::Gcl a l
def NC:List Int→List Int
 |[]=>[]
 |a::l=>Gcl a (NC l)
def FU(n:Int):Bool:=decide (-9223372036854775808≤n)&&decide (n≤9223372036854775807)
def ZX:List CV→Option (List Int)
 |[]=>some []
 |.int .i64 n::r=>(ZX r).map (n::·)
 |_::_=>none
def keysOf:List CV→Option (List Int)
 |[]=>some []
 |.Jj [.int .i64 n,_]::r=>(keysOf r).map (n::·)
 |_::_=>none
def made(H:Gb)(m:Option JE×(Nat→CV)):CV×Gb:=
 match m.1 with
 |none=>(m.2 H.length,H)
 |some b=>(m.2 H.length,H++[b])
def UZ(op:Kc)(E:Env)(H:Gb):Option (CV×Gb):=
 match op with
 |.store n a v=>match E.ev a with
  |.ptr b o=>if(cellsOf (E.ev v)).length=n then(Nh H b o (cellsOf (E.ev v))).map fun H'=>(.undef,H')else none
  |_=>none
 |.append GN s x=>(elems H GN (E.ev x)).bind fun p=>Ju H GN (E.ev s) p.1 p.2
 |.copy GN d s=>match E.ev d,E.ev s with
  |.slice b o len _ _ _,.slice b' o' len' _ _ _=>
   if min len' len=0 then some (.i 0,H)else
   (JD H b' o' (min len' len*GN)).bind fun cs=>(Nh H b o cs).map fun H'=>(.i (min len' len:Nat),H')
  |.Gd,.slice .. =>some (.i 0,H)
  |.slice ..,.Gd=>some (.i 0,H)
  |.Gd,.Gd=>some (.i 0,H)
  |_,_=>none
 |.clear zero s=>match E.ev s with
  |.slice b o len _ _ _=>if len=0 then some (.Jj [],H)else(Nh H b o (List.replicate len zero).flatten).map fun H'=>(.Jj [],H')
  |.Gd=>some (.Jj [],H)
  |_=>none
 |.QS k m x v=>(Qj H k (E.ev m) (E.ev x) (E.ev v)).map fun H'=>(.undef,H')
 |.YO k m x=>(U5 H k (E.ev m) (E.ev x)).map fun H'=>(.Jj [],H')
 |.QI m=>match E.ev m with
  |.GJ b=>(Jq H b []).map fun H'=>(.Jj [],H')
  |.Uk=>some (.Jj [],H)
  |_=>none
 |.Bp x=>match E.ev x with
  |.slice b o len _ e _=>if len=0 then some (.Jj [],H)else if e=1∧len≤J9 then(JD H b o len).bind fun cs=>(ZX cs).bind fun l=>(Nh H b o ((NC l).map .i)).map fun H'=>(.Jj [],H')else none
  |.Gd=>some (.Jj [],H)
  |_=>none
 |.KJ g x=>match E.ev x with
  |.func f [.ptr b 0]=>if f=g then match H[b]? with
    |some ⟨[m],.rw,0⟩=>(mapOf H m).bind fun y=>(keysOf y.2).bind fun l=>
     if l.length=0 then some (.Gd,H)else if l.length≤J9∧l.all FU=true then some (.slice H.length 0 l.length l.length 1 true,H++[⟨(NC l).map .i,.rw,1⟩])else none
    |_=>none
   else none
  |_=>none
 |op=>(G7 op E H).map (made H)
structure GH where
 dst:Option Nat
 guard:Option (Nat×Bool)
 op:Kc
 deriving Inhabited
structure G8 where
 s:GH
 no:Nat
 kind:Nat
 low:Nat
 deriving Inhabited
structure RM where
 m:Jy
 it:Nat
 nx:Nat
 more:Nat
 pair:Nat
 id:Nat
 live:List Nat
 deriving Inhabited
inductive Gn where
 |skip
 |region (ops:List GH)
 |QK (ops:List G8)
 |seq (a b:Gn)
 |cond (c:Jy) (a b:Gn)
 |block (id:Nat) (c:Gn)
 |loop (c:Gn)
 |Nc (g:Jy) (ps:List Nat) (n z:Nat)
 |Qv (q:RM) (body rest:Gn)
 |exit (id:Nat)
 |ret
 deriving Inhabited
def wr:Gn→List Nat
 |.region ops=>ops.filterMap (·.dst)
 |.QK ops=>ops.filterMap (·.s.dst)
 |.seq a b=>wr a++wr b
 |.cond _ a b=>wr a++wr b
 |.block _ c=>wr c
 |.loop c=>wr c
 |_=>[]
def Kc.rd:Kc→Option (List Jy)
 |.Km x=>some [x]
 |.load _ _ x=>some [x]
 |.store _ x y=>some [x,y]
 |.call _ l=>some l
 |_=>none
def Jy.in(D:List Nat):Jy→Bool
 |.tmp t=>D.contains t
 |_=>false
def WE(D:List Nat):Gn→Bool
 |.region ops=>ops.all fun s=>s.guard.isNone&&(match s.op.rd with|some l=>l.all fun x=>!x.in D|none=>false)
 |.seq a b=>WE D a&&WE D b
 |.ret=>true
 |.skip=>true
 |_=>false
inductive Yh where
 |tmp (t:Nat)
 |cell (t:Nat) (agg:Bool) (n:Nat)
 deriving Inhabited
structure Gj where
 n:Nat
 round:Nat
 body:Gn
 res:List Yh
 deriving Inhabited
abbrev J5:=Nat→Option Gj
inductive CX where
 |normal
 |exit (id:Nat)
 |ret
 deriving DecidableEq,Inhabited
def wanted(g:Option (Nat×Bool))(E:Env):Bool:=
 match g with
 |none=>true
 |some (t,want)=>match E t with
  |.bool b=>b==want
  |_=>false
abbrev GQ:=Nat→List CV→Gb→Option (CV×Gb)
def Eu(IE:List (Nat×String×Nat))(t:Nat)(name:String):Option Nat:=(IE.find? fun e=>e.1==t&&e.2.1==name).map (·.2.2)
def G9(s:Int)(ps env:List CV)(z:Nat):JE:=⟨[.i s,.Jj ps,.Jj env],.map,z+1⟩
def Qx(env:List CV):List CV→List CV→List CV
 |.int _ t::ps,v::vs=>Qx (env.set t.toNat v) ps vs
 |_,_=>env
abbrev RB:Nat:=1000000
def KO(F:GQ)(b z:Nat)(r:CV×Gb):Option (CV×Gb):=
 match r.1,r.2[b]? with
 |.Jj env,some ⟨[.int .i64 s,.Jj ps,.Jj e0],.map,z0+1⟩=>
  if s=0∧z0=z then
   (F (RB+z+1) env (r.2.set b (G9 1 ps e0 z))).bind fun r=>
    match r.1,r.2[b]? with
    |.int .i64 j,some ⟨[.int .i64 _,.Jj ps',.Jj env'],.map,z'+1⟩=>some (.bool (j==0),r.2.set b (G9 (if j=0 then 0 else j+1) ps' env' z'))
    |_,_=>none
  else none
 |_,_=>none
def yieldOf(F:GQ)(b:Nat)(args:List CV)(H:Gb):Option (CV×Gb):=
 match H[b]? with
 |some ⟨[.int .i64 s,.Jj ps,.Jj env],.map,z+1⟩=>
  if s=0∧args.length=ps.length then(F (RB+z) (Qx env ps args) H).bind (KO F b z)else none
 |_=>none
def JY(F:GQ)(op:Kc)(E:Env)(H:Gb):Option (CV×Gb):=
 match op with
 |.call f args=>F f (args.map E.ev) H
 |.KH g args=>match E.ev g with
  |.func f caps=>if f<RB then F f (args.map E.ev++caps) H else none
  |.yld b=>yieldOf F b (args.map E.ev) H
  |_=>none
 |.Bc g args IE=>match E.ev g with
  |.func f caps=>if f<RB then F f (args.map E.ev++caps) H else none
  |.GfH name (.iface t x)=>(Eu IE t name).bind fun f=>F f (x::args.map E.ev) H
  |.yld b=>yieldOf F b (args.map E.ev) H
  |_=>none
 |.Sk name x args IE=>match E.ev x with
  |.iface t x=>(Eu IE t name).bind fun f=>F f (x::args.map E.ev) H
  |_=>none
 |op=>UZ op E H
def Qs(F:GQ)(s:GH)(E:Env)(H:Gb):Option (Env×Gb):=
 if wanted s.guard E then(JY F s.op E H).map fun p=>(E.put s.dst p.1,p.2)else some (E.put s.dst .undef,H)
def JW(F:GQ):List GH→Env→Gb→Option (Env×Gb)
 |[],E,H=>some (E,H)
 |s::r,E,H=>(Qs F s E H).bind fun p=>JW F r p.1 p.2
open Classical in
noncomputable def AU(F:GQ):List G8→Env→Gb→List Gb→Option (Env×Gb)
 |[],E,H,_=>some (E,H)
 |d::r,E,H,hs=>
  if wanted d.s.guard E=false then AU F r (E.put d.s.dst .undef) H (if d.kind=3 then H::hs else hs)
  else if d.kind=3 then(JY F d.s.op E H).bind fun p=>AU F r (E.put d.s.dst p.1) p.2 (H::hs)
  else(G7 d.s.op E H).bind fun m=>
   if d.kind=1→∀H'∈hs.take (hs.length-d.low),G7 d.s.op E H'=some m then
    AU F r (E.put d.s.dst (made H m).1) (made H m).2 hs else none
def entry(args:List CV):Env:=fun t=>args.getD t .undef
def Ia(E:Env)(H:Gb):Yh→Option CV
 |.tmp t=>some (E t)
 |.cell t agg n=>match E t with
  |.ptr b o=>if agg then(JD H b o n).map .agg else QW H b o
  |_=>none
def Qu(E:Env)(H:Gb):List Yh→Option (List CV)
 |[]=>some []
 |r::rs=>(Ia E H r).bind fun v=>(Qu E H rs).map (v::·)
def results(cf:Gj)(E:Env)(H:Gb):Option CV:=
 (Qu E H cf.res).map fun|[v]=>v|vs=>.Jj vs
def CX.code:CX→Int
 |.normal=>0
 |.ret=>1
 |.exit id=>id+2
def leave(cf:Gj)(r:CX×Env×Gb):Option (CV×Gb):=
 if cf.round=2 then some (.i r.1.code,r.2.2)else
 if cf.round=1 then(match r.1 with|.normal=>some (.Jj ((List.range cf.n).map r.2.1),r.2.2)|_=>none)else
 match r.1 with
 |.normal|.ret=>(results cf r.2.1 r.2.2).map fun v=>(v,r.2.2)
 |.exit _=>none
def CX.inBlock(id:Nat):CX→CX
 |.exit id'=>if id'=id then .normal else .exit id'
 |x=>x
def ND(F:GQ)(g:CV)(ps:List Nat)(n z:Nat)(E:Env)(H:Gb):Option (CV×Gb):=
 match g with
 |.func f caps=>if f<RB then F f (.yld H.length::caps) (H++[G9 0 (ps.map fun(t:Nat)=>CV.i (t:Int)) ((List.range n).map E) z])else none
 |_=>none
def Ux(E:Env)(b:Nat)(r:CV×Gb):Option (CX×Env×Gb):=
 match r.2[b]? with
 |some ⟨[.int .i64 s,.Jj _,.Jj _],.map,_+1⟩=>
  if s=0 then some (.normal,E,r.2.set b ⟨[],.dead,0⟩)
  else if s=2 then some (.ret,E,r.2.set b ⟨[],.dead,0⟩)
  else if 3≤s then some (.exit (s-3).toNat,E,r.2.set b ⟨[],.dead,0⟩)
  else none
 |_=>none
def RM.beg(q:RM)(e:CV)(E:Env):Env:=
 match e with
 |.Jj [k,v]=>((E.upd q.nx (.Jj [.bool true,k,v])).upd q.more (.bool true)).upd q.pair (.Jj [k,v])
 |_=>E
def RM.fin(q:RM)(E:Env):Env:=(E.upd q.nx (.Jj [.bool false])).upd q.more (.bool false)
open Classical in
noncomputable def Kb(R:Env→Gb→Option (CX×Env×Gb))(q:RM)(mb:Nat)(es:List CV)(it:Nat):List CV→Env→Gb→Option (CX×Env×Gb)
 |[],E,H=>some (.normal,q.fin E,H)
 |e::l,E,H=>(R (q.beg e E) H).bind fun r=>
  if r.2.2[mb]?=some ⟨[.agg es],.map,0⟩∧r.2.1 q.it=.ptr it 0 then
   match r.1 with
   |.normal=>Kb R q mb es it l r.2.1 r.2.2
   |_=>some r
  else none
def Np(id:Nat)(R:Env→Gb→Option (CX×Env×Gb))(r:CX×Env×Gb):Option (CX×Env×Gb):=
 match r.1.inBlock id with
 |.normal=>R r.2.1 r.2.2
 |x=>some (x,r.2.1,r.2.2)
def Bg(live:List Nat)(E:Env):Env:=fun t=>if live.contains t then E t else .undef
noncomputable def JF(Rb Rr:Env→Gb→Option (CX×Env×Gb))(q:RM)(mb:Nat)(es:List CV)(E:Env)(H:Gb)(l:List CV):Option (CX×Env×Gb):=
 (Kb Rb q mb es H.length l (E.upd q.it (.ptr H.length 0)) (H.set mb ⟨[.agg es],.map,0⟩++[⟨[],.dead,0⟩])).bind fun r=>Np q.id Rr (r.1,r.2.1,r.2.2.set mb ⟨es,.map,0⟩)
def Left(live:List Nat)(n:Nat)(y r:CX×Env×Gb):Prop:=
 r.1=y.1∧r.2.1=Bg live y.2.1∧y.2.2.length≤r.2.2.length∧r.2.2=y.2.2.take n++List.replicate (r.2.2.length-n) ⟨[],.dead,0⟩
def OkR(Rb Rr:Env→Gb→Option (CX×Env×Gb))(q:RM)(mb:Nat)(es:List CV)(E:Env)(H:Gb)(r:CX×Env×Gb):Prop:=
 ∀l,l.Perm es→∃z,JF Rb Rr q mb es E H l=some z∧Left q.live H.length z r
open Classical in
noncomputable def pick{α:Type}(p:α→Prop):Option α:=if h:∃r,p r then some h.choose else none
noncomputable def KG(Rb Rr:Env→Gb→Option (CX×Env×Gb))(q:RM)(m:CV)(E:Env)(H:Gb):Option (CX×Env×Gb):=
 (mapOf H m).bind fun y=>pick (OkR Rb Rr q y.1 y.2 E H)
noncomputable def ev(p:J5):Nat→Gn→Env→Gb→Option (CX×Env×Gb)
 |0,_,_,_=>none
 |n+1,c,E,H=>
  let F:GQ:=fun f args H=>(p f).bind fun cf=>if args.length≤cf.n then(ev p n cf.body (entry args) H).bind (leave cf)else none
  match c with
  |.skip=>some (.normal,E,H)
  |.region ops=>(JW F ops E H).map fun q=>(.normal,q.1,q.2)
  |.QK ops=>(AU F ops E H []).map fun q=>(.normal,q.1,q.2)
  |.seq a b=>(ev p n a E H).bind fun r=>match r.1 with|.normal=>ev p n b r.2.1 r.2.2|_=>some r
  |.cond c a b=>match E.ev c with|.bool t=>ev p n (if t then a else b) E H|_=>none
  |.block id c=>(ev p n c E H).map fun r=>(r.1.inBlock id,r.2)
  |.loop c=>(ev p n c E H).bind fun r=>match r.1 with|.normal=>ev p n (.loop c) r.2.1 r.2.2|_=>some r
  |.Nc g ps k z=>(ND F (E.ev g) ps k z E H).bind (Ux E H.length)
  |.Qv q b r=>KG (ev p n b) (ev p n r) q (E.ev q.m) E H
  |.exit id=>some (.exit id,E,H)
  |.ret=>some (.ret,E,H)
noncomputable def Kk(p:J5)(n:Nat):GQ:=fun f args H=>(p f).bind fun cf=>if args.length≤cf.n then(ev p n cf.body (entry args) H).bind (leave cf)else none
end Go.Cs
namespace Go.Cs
open Go
def Zd:Value→Option CV
 |.bool b=>some (.bool b)
 |.int k n=>some (.int k n)
 |.pointer none=>some .nilPtr
 |.slice none 0 0=>some .Gd
 |.nilFunc=>some .nilFunc
 |.map none=>some .Uk
 |.nilIface=>some .nilIface
 |_=>none
def Jt{α:Type}:List (Option α)→Option (List α)
 |[]=>some []
 |none::_=>none
 |some a::r=>(Jt r).map (a::·)
def Ua:Operand→Option Jy
 |.tmp t=>some (.tmp t)
 |.const v=>(Zd v).map .const
 |.func f=>some (.const (.func f []))
 |.global _=>none
def XE(l:Array Operand):Option (List Jy):=Jt (l.toList.map Ua)
def Ih:Option Operand→Option (Option Jy)
 |none=>some none
 |some x=>(Ua x).map some
def zeroOf(P:Program)(t:TypeId):Option (List CV):=
 (P.info? t).bind fun i=>i.zero.bind fun v=>Jt (v.cells.toList.map Zd)
def YG(P:Program)(t:TypeId):Option Bool:=
 (P.underlying t).map fun d=>match d with|.struct _|.array _ _=>true|_=>false
def Kv(P:Program)(t:TypeId):Option TypeId:=
 match P.underlying t with
 |some (.slice e)=>some e
 |_=>none
def YZ(P:Program)(t:TypeId):Bool:=
 match P.underlying t with
 |some (.struct fs)=>!P.stoodInHeld t&&!P.eqGuardType P.depth t&&
  fs.toList.zipIdx.all fun(f,i)=>f.name != "_" &&f.offset==i&&(match P.underlying f.type with|some (.int _)=>true|_=>false)
 |_=>false
def EM(P:Program)(t:TypeId):Option (IntKind×CV):=
 match P.underlying t with
 |some (.map k e)=>match P.underlying k,(P.info? e).bind (·.zero)with
  |some (.int kd),some v=>(Zd v).map fun z=>(kd,z)
  |_,_=>none
 |_=>none
def sizeT(P:Program)(t:TypeId):Option Nat:=(P.info? t).map (·.size)
def MO(P:Program)(t:TypeId):Option Nat:=(P.info? t).map (·.bytes)
def Yq(P:Program)(place:Nat→Option (Nat×Nat))(parts:Array (Nat×Operand)):Option (List (Nat×Nat×Jy)):=
 Jt (parts.toList.map fun(i,x)=>(place i).bind fun q=>(Ua x).map fun y=>(q.1,q.2,y))
def SK(P:Program)(t:TypeId):Bool:=match P.underlying t with|some .bool=>true|_=>false
def GbU(s p:String)(n:Nat):Bool:=s.toList.take p.toList.length==p.toList&&s.toList.length==n
def Ggx(s:String):Option (List Int):=
 if GbU s "dustcart/weak.headShape" 23 then some [8,1,3]else if GbU s "dustcart/weak.entryShape" 24 then some [3,1,2]else none
def EF(P:Program)(g:Nat):Option (List Int):=(P.globals[g]?).bind fun x=>Ggx x.name
def MB(P:Program)(t:TypeId)(g:Nat):Option Kc:=(EF P g).bind fun zs=>
 if YG P t=some true∧sizeT P t=some zs.length then some (.Km (.const (.agg (zs.map (.int .i64)))))else none
def Qf{α:Type}(b:Bool)(x:Option α):Option α:=if b then x else none
def Yu(P:Program):List (Nat×String×Nat):=
 (List.range P.types.size).flatMap fun t=>match P.info? t,P.underlying t with
  |some i,some (.struct fs)=>if fs.isEmpty then i.methods.toList.filterMap fun m0=>
    match i.methods.find? (fun m=>m.name==m0.name)with
    |some m=>match m.func with
     |some (f,false)=>if m.path.isEmpty&&decide (f<RB)then some (t,m0.name,f)else none
     |_=>none
    |none=>none
   else []
  |_,_=>[]
def O6(P:Program)(c:Call):Option Kc:=
 match c.callee with
 |.value (.func f)=>(XE c.args).bind fun l=>Qf (decide (f<RB)) (some (.call f l))
 |.value (.tmp t)=>(XE c.args).map fun l=>match Yu P with|[]=>.KH (.tmp t) l|IE=>.Bc (.tmp t) l IE
 |.invoke recv name=>(Ua recv).bind fun x=>(XE c.args).map fun l=>.Sk name x l (Yu P)
 |.builtin .delete=>match c.args.toList,c.argTypes[0]? with
  |[m,x],some t=>(EM P t).bind fun q=>(Ua m).bind fun m=>(Ua x).map fun x=>.YO q.1 m x
  |_,_=>none
 |.builtin .len=>match c.args.toList,c.argTypes[0]? with
  |[x],some t=>match EM P t with
   |some _=>(Ua x).map .Ya
   |none=>(Kv P t).bind fun _=>(Ua x).map .len
  |_,_=>none
 |.builtin .max=>match c.argTypes[0]? with
  |some t=>match P.underlying t with|some (.int _)=>(XE c.args).map (.mm true)|_=>none
  |none=>none
 |.builtin .min=>match c.argTypes[0]? with
  |some t=>match P.underlying t with|some (.int _)=>(XE c.args).map (.mm false)|_=>none
  |none=>none
 |.builtin .append=>match c.args.toList,c.argTypes.toList with
  |[s,x],[t,u]=>(Kv P t).bind fun e=>(Kv P u).bind fun _=>(sizeT P e).bind fun n=>(MO P e).bind fun b=>(zeroOf P e).bind fun z=>
    (Ua s).bind fun s=>(Ua x).bind fun x=>Qf (decide (0<n)&&decide (0<b)&&decide (b≤4096)&&decide (z.length=n)) (some (.append n s x))
  |_,_=>none
 |.builtin .copy=>match c.args.toList,c.argTypes.toList with
  |[d,s],[t,u]=>(Kv P t).bind fun e=>(Kv P u).bind fun _=>(sizeT P e).bind fun n=>(Ua d).bind fun d=>(Ua s).map fun s=>.copy n d s
  |_,_=>none
 |.builtin .clear=>match c.args.toList,c.argTypes[0]? with
  |[s],some t=>match EM P t with
   |some _=>(Ua s).map .QI
   |none=>(Kv P t).bind fun e=>(zeroOf P e).bind fun z=>(Ua s).map fun s=>.clear z s
  |_,_=>none
 |_=>none
def GC(P:Program)(op:Op):Option Kc:=
 match op with
 |.move x|.assign x=>(Ua x).map .Km
 |.pick c a b=>(Ua c).bind fun c=>(Ua a).bind fun a=>(Ua b).map fun b=>.pick c a b
 |.alloc t=>(zeroOf P t).map .new
 |.box _ x=>(Ua x).map .box
 |.build t parts=>match P.underlying t with
  |some (.struct fs)=>(zeroOf P t).bind fun z=>(Jt (fs.toList.map fun f=>(sizeT P f.type).map fun n=>(f.offset,n))).bind fun pl=>
    (Yq P (pl[·]?) parts).map fun ps=>.build z ps
  |some (.array _ e)=>(zeroOf P t).bind fun z=>(sizeT P e).bind fun n=>(Yq P (fun i=>some (i*n,n)) parts).map fun ps=>.build z ps
  |_=>none
 |.buildSlice t len parts=>(Kv P t).bind fun e=>(sizeT P e).bind fun n=>(zeroOf P e).bind fun z=>
   (Yq P (fun i=>some (i*n,n)) parts).bind fun ps=>
    Qf (decide (0<n)&&decide (z.length=n)&&decide (len*n≤65536)) (some (.buildSlice n (List.replicate len z).flatten len ps))
 |.load t (.global g)=>MB P t g
 |.load t a=>(YG P t).bind fun g=>(sizeT P t).bind fun n=>(Ua a).map fun a=>.load g n a
 |.store t a v=>(sizeT P t).bind fun n=>(Ua a).bind fun a=>(Ua v).map fun v=>.store n a v
 |.nilCheck x=>(Ua x).map .nilCheck
 |.binOp op t x y _=>(Ua x).bind fun x=>(Ua y).bind fun y=>
   match P.underlying t with
   |some (.int _)=>(match op with|.shl=>some (.shift .shl x y)|.shr=>some (.shift .shr x y)|op=>some (.bin op x y))
   |some .bool=>(match op with|.eql=>some (.eqv false 0 x y)|.neq=>some (.eqv true 0 x y)|_=>none)
   |some (.pointer _)=>(match op with|.eql=>some (.eqv false 1 x y)|.neq=>some (.eqv true 1 x y)|_=>none)
   |some (.slice _)=>(match op with|.eql=>some (.eqv false 2 x y)|.neq=>some (.eqv true 2 x y)|_=>none)
   |some (.array l e)=>Qf (SK P e&&sizeT P e==some 1&&YG P e==some false&&!P.eqGuardType P.depth t) (match op with|.eql=>some (.eqb false l x y)|.neq=>some (.eqb true l x y)|_=>none)
   |some (.struct fs)=>Qf (YZ P t) (match op with|.eql=>some (.eqs false fs.size x y)|.neq=>some (.eqs true fs.size x y)|_=>none)
   |_=>none
 |.unOp .not _ x=>(Ua x).map .not
 |.makeFunc (.method name) first caps=>match first.toList with
  |[x]=>if caps.isEmpty then(Ua x).map (.GaU name)else none
  |_=>none
 |.makeInterface t x=>match P.underlying t with
  |some (.struct _)=>(Ua x).map (.Gm9 t)
  |_=>none
 |.makeFunc (.func f) first caps=>if first.isEmpty then(XE caps).map (.Ug f)else none
 |.makeSlice t l c=>(Kv P t).bind fun e=>(sizeT P e).bind fun n=>(MO P e).bind fun b=>(zeroOf P e).bind fun z=>(Ua l).bind fun l=>(Ua c).bind fun c=>
   Qf (decide (0<n)&&decide (z.length=n)&&decide (b≤4096)) (some (.makeSlice n z l c))
 |.slice t x lo hi mx=>(Kv P t).bind fun e=>(sizeT P e).bind fun n=>(Ua x).bind fun x=>(Ih lo).bind fun lo=>(Ih hi).bind fun hi=>(Ih mx).map fun mx=>.slice n x lo hi mx
 |.fieldAddr s x f=>match P.underlying s with
  |some (.struct fs)=>(fs[f]?).bind fun fd=>(sizeT P fd.type).bind fun n=>(Ua x).bind fun x=>Qf (decide (n≠0)) (some (.field fd.offset x))
  |_=>none
 |.index t (.const (.string s)) i=>match P.underlying t with
  |some .string=>(Ua i).map (.Fg (s.data.toList.map UInt8.toNat))
  |_=>none
 |.index t (.tmp x) i=>match P.underlying t with
  |some (.array l e)=>Qf (sizeT P e==some 1&&YG P e==some false) ((Ua (.tmp x)).bind fun x=>(Ua i).map fun i=>.Gbx l x i)
  |_=>none
 |.indexAddr t x i=>match P.underlying t with
  |some (.array l e)=>(sizeT P e).bind fun n=>(Ua x).bind fun x=>(Ua i).map fun i=>.NI l n x i
  |some (.slice e)=>(sizeT P e).bind fun n=>(Ua x).bind fun x=>(Ua i).map fun i=>.index n x i
  |_=>none
 |.convert s d x=>match P.underlying s,P.underlying d with
  |some (.int _),some (.int k)=>(Ua x).map (.conv k)
  |_,_=>none
 |.makeMap t none=>(EM P t).map fun _=>.Yf
 |.lookup t m x ok=>(EM P t).bind fun q=>(Ua m).bind fun m=>(Ua x).map fun x=>.Vn ok q.1 q.2 m x
 |.mapUpdate t m x v=>(EM P t).bind fun q=>(Ua m).bind fun m=>(Ua x).bind fun x=>(Ua v).map fun v=>.QS q.1 m x v
 |.extract x i=>(Ua x).map fun x=>.extract x i
 |.call c=>O6 P c
 |_=>none
def UY(ops:Array Oper)(g:Option (Nat×Bool)):Option (Option (Nat×Bool)):=
 match g with
 |none=>some none
 |some (j,b)=>((ops[j]?).bind (·.dst)).map fun t=>some (t,b)
def Nr(P:Program)(n:Nat)(ops:Array Oper)(o:Oper):Option GH:=
 (UY ops o.guard).bind fun g=>(GC P o.op).bind fun op=>
  Qf (match o.dst with|some d=>decide (d<n)|none=>true) (some ⟨o.dst,g,op⟩)
def kindOf:Kc→Nat
 |.load .. =>1
 |.append .. =>2
 |.Vn .. |.Ya .. =>1
 |.store .. |.copy .. |.clear .. |.call .. |.KH .. |.Bc .. |.Sk .. |.QS .. |.YO .. |.QI .. |.Bp .. |.KJ .. =>3
 |_=>0
def Qp(o:Oper):List Nat:=(o.after.toList.filter (Region.binds .any)).map (·.on)
def Ma(ops:List Oper):List (List Nat):=
 ops.foldl (fun acc o=>acc++[(Qp o).foldl (fun l j=>l++(j::acc.getD j []).filter fun x=>!l.contains x) []]) []
def Ja:Jy→List Nat
 |.tmp t=>[t]
 |.const _=>[]
def Nq:Option Jy→List Nat
 |some x=>Ja x
 |none=>[]
def Kc.tmps:Kc→List Nat
 |.Km x|.box x|.nilCheck x|.not x|.field _ x|.extract x _|.len x|.load _ _ x|.clear _ x=>Ja x
 |.pick a b c=>Ja a++Ja b++Ja c
 |.new _=>[]
 |.build _ ps|.buildSlice _ _ _ ps=>ps.flatMap fun p=>Ja p.2.2
 |.conv _ x|.Fg _ x=>Ja x
 |.shift _ x y|.NI _ _ x y=>Ja x++Ja y
 |.mm _ l=>l.flatMap Ja
 |.Yf=>[]
 |.Ya m|.QI m=>Ja m
 |.Vn _ _ _ m x|.YO _ m x=>Ja m++Ja x
 |.QS _ m x v=>Ja m++Ja x++Ja v
 |.store _ x y|.bin _ x y|.eqv _ _ x y|.eqs _ _ x y|.eqb _ _ x y|.Gbx _ x y|.makeSlice _ _ x y|.index _ x y|.append _ x y|.copy _ x y=>Ja x++Ja y
 |.Ug _ l|.call _ l=>l.flatMap Ja
 |.slice _ x a b c=>Ja x++Nq a++Nq b++Nq c
 |.KH g l|.Bc g l _|.Sk _ g l _=>Ja g++l.flatMap Ja
 |.Gm9 _ x|.GaU _ x|.Bp x|.KJ _ x=>Ja x
def GH.reads(s:GH):List Nat:=s.op.tmps++(match s.guard with|some (t,_)=>[t]|none=>[])
def Gk7(an:List (List Nat))(i j:Nat):Bool:=decide (i=j)||(an.getD j []).contains i||(an.getD i []).contains j
def GcE(ss:List GH)(an:List (List Nat)):List Nat:=
 ss.zipIdx.map fun(s,i)=>
  if kindOf s.op=2 then(if ss.zipIdx.all fun(r,j)=>kindOf r.op<2||Gk7 an i j then 3 else 1)else kindOf s.op
def Gpc(an:List (List Nat))(ks:List Nat)(j:Nat):Nat:=((an.getD j []).eraseDups.filter fun i=>ks.getD i 0==3).length
def changing(ks:List Nat):List Nat:=(List.range ks.length).filter fun i=>ks.getD i 0==3
def Gds(an:List (List Nat))(ks:List Nat)(j:Nat):Nat:=
 if ks.getD j 0==3 then((changing ks).takeWhile fun m=>decide (m≠j)).length
 else((changing ks).takeWhile fun m=>!(an.getD m []).contains j).length
def Gkj(an:List (List Nat))(ks:List Nat):List Nat:=
 (List.range ((changing ks).length+1)).flatMap fun p=>
  ((List.range ks.length).filter fun j=>Gds an ks j==p&&ks.getD j 0 != 3)++((List.range ks.length).filter fun j=>Gds an ks j==p&&ks.getD j 0==3)
def Py(ss:List GH)(an:List (List Nat))(ks:List Nat):List G8:=
 (Gkj an ks).map fun j=>{s:=ss.getD j default,no:=j,kind:=ks.getD j 0,low:=Gpc an ks j}
def Goe(ops:List Oper)(an:List (List Nat)):Bool:=
 ops.zipIdx.all fun(o,j)=>(an.getD j []).all fun i=>(Qp o).any fun e=>decide (e<j)&&(decide (i=e)||(an.getD e []).contains i)
def dOk(ops:List Oper)(ss:List GH)(an:List (List Nat))(l:List G8):Bool:=
 Goe ops an&&(ops.zipIdx.all fun(o,i)=>(Qp o).all fun j=>decide (j<i))&&decide (l.length=ops.length)&&decide (ss.length=ops.length)&&
 (l.all fun d=>decide (d.no<ops.length)&&(d.kind==0||d.kind==1||d.kind==3)&&(d.kind != 0||kindOf d.s.op==0))&&
 ((List.range ops.length).all fun j=>l.any fun d=>d.no==j&&ss[j]?.any fun s=>s.dst==d.s.dst)&&
 (l.zipIdx.all fun(d,q)=>l.zipIdx.all fun(c,r)=>
  (decide (q=r)||d.no != c.no)&&
  (
   match c.s.dst with
   |none=>true
   |some t=>(decide (q=r)||d.s.dst != some t)&&(!d.s.reads.contains t||(decide (r<q)&&(an.getD d.no []).contains c.no)||(decide (q≤r)&&(decide (q=r)||(an.getD c.no []).contains d.no))))&&
  (!(c.kind==3&&decide (r<q)&&(d.kind==3||decide (((l.take r).filter fun x=>x.kind==3).length<d.low)))||(an.getD d.no []).contains c.no)&&
  (!(d.kind==3&&c.kind != 3&&decide (r<q))||(an.getD d.no []).contains c.no))&&
 (l.zipIdx.all fun(d,q)=>decide (d.low≤((l.take q).filter fun x=>x.kind==3).length))
def roundsIn:Code→List (Array Tmp×Code×Code)
 |.seq a b|.cond _ a b=>roundsIn a++roundsIn b
 |.block _ c|.loop c|.scope c=>roundsIn c
 |.rangeFunc _ ps a c=>[(ps,a,c)]
 |_=>[]
def Rp(f k:Nat):Nat:=(f*16+k)*2
def Jv(P:Program)(f n:Nat)(top:Bool)(k:Nat):Code→Option Gn
 |.skip=>some .skip
 |.region _ ops draw=>(Jt (ops.toList.map (Nr P n ops))).bind fun ss=>
  if draw then Qf (dOk ops.toList ss (Ma ops.toList) (Py ss (Ma ops.toList) (GcE ss (Ma ops.toList)))) (some (.QK (Py ss (Ma ops.toList) (GcE ss (Ma ops.toList)))))else some (.region ss)
 |.seq a b=>(Jv P f n top k a).bind fun a'=>(Jv P f n top (k+(roundsIn a).length) b).map fun b=>.seq a' b
 |.cond c a b=>(Ua c).bind fun c=>(Jv P f n top k a).bind fun a'=>(Jv P f n top (k+(roundsIn a).length) b).map fun b=>.cond c a' b
 |.block id c=>(Jv P f n top k c).map (.block id)
 |.loop c=>(Jv P f n top k c).map .loop
 |.rangeFunc g ps _ _=>(Ua g).bind fun g=>Qf (top&&decide (k<16)&&ps.toList.all fun t=>decide (t<n)) (some (.Nc g ps.toList n (Rp f k)))
 |.exit id=>some (.exit id)
 |.ret=>some .ret
 |_=>none
def Uv(P:Program):ResultVar→Option Yh
 |.tmp t=>some (.tmp t)
 |.cell a t=>(YG P t).bind fun g=>(sizeT P t).map fun n=>.cell a g n
structure IY where
 i:Nat
 ops:Array Oper
 out:Nat
 j:Nat
 Pe:Array Oper
 more:Nat
 Gav:Nat
 nid:Nat
 k:Nat
 AY:Array Oper
 code:Code
def IY.of(l:IY):Code:=
 .seq (.region l.i l.ops false) (.block l.out (.loop (.seq (.region l.j l.Pe false) (.seq (.cond (.tmp l.more) .skip (.exit l.Gav)) (.block l.nid (.seq (.region l.k l.AY false) l.code))))))
def Ghw:Code→Option IY
 |.seq (.region i ops false) (.block out (.loop (.seq (.region j Pe false) (.seq (.cond (.tmp more) .skip (.exit Gav)) (.block nid (.seq (.region k AY false) code))))))=>some ⟨i,ops,out,j,Pe,more,Gav,nid,k,AY,code⟩
 |_=>none
structure GhN where
 t:TypeId
 m:Operand
 it:Nat
 nx:Nat
 more:Nat
 pair:Nat
def Gjo(l:IY):Option GhN:=
 match l.ops.back?,l.Pe.toList,l.AY[0]? with
 |some r,[o1,o2],some e=>
  match r.op,o1.op,o2.op,e.op,r.dst,o1.dst,o2.dst,e.dst with
  |.range t m,.next (.tmp it1) false,.extract (.tmp nx1) 0,.entry (.tmp it2),some it,some nx,some more,some pair=>
   Qf (it1==it&&it2==it&&nx1==nx&&more==l.more&&l.Gav==l.out&&r.guard.isNone&&o1.guard.isNone&&o2.guard.isNone&&e.guard.isNone&&it != nx&&it != more&&it != pair&&nx != more&&nx != pair&&more != pair) (some ⟨t,m,it,nx,more,pair⟩)
  |_,_,_,_,_,_,_,_=>none
 |_,_,_=>none
def GhN.wr(o:GhN)(c:Gn):List Nat:=o.it::o.nx::o.more::o.pair::Cs.wr c
def Al(P:Program)(f n:Nat)(live:List Nat):Code→Option Gn
 |.seq a b=>
  match Ghw a with
  |some l=>(Gjo l).bind fun o=>(EM P o.t).bind fun _=>(Ua o.m).bind fun m=>
   (Jt (l.ops.toList.dropLast.map (Nr P n l.ops))).bind fun pre=>(Jt (l.AY.toList.tail.map (Nr P n l.AY))).bind fun Ga=>
   (Jv P f n false 0 l.code).bind fun c=>(Jv P f n false 0 b).bind fun r=>
   Qf (decide (o.it<n)&&decide (o.nx<n)&&decide (o.more<n)&&decide (o.pair<n)&&WE (o.wr (.seq (.region Ga) c)) r&&live.all fun t=>!(o.wr (.seq (.region Ga) c)).contains t)
    (some (.seq (.seq (.region pre) (.Qv ⟨m,o.it,o.nx,o.more,o.pair,l.out,(List.range n).filter fun t=>!(o.wr (.seq (.region Ga) c)).contains t⟩ (.block l.nid (.seq (.region Ga) c)) .skip)) r))
  |none=>(Jv P f n false 0 a).bind fun a'=>(Al P f n live b).map fun b'=>.seq a' b'
 |_=>none
def Yh.GdM:Yh→Nat
 |.tmp t=>t
 |.cell t _ _=>t
def isSort(fn:Func):Bool:=GbU fn.name "slices.Sort" 22
def isSorted(fn:Func):Bool:=GbU fn.name "slices.Sorted" 18
def Gm5(fn:Func):Bool:=GbU fn.name "maps.Keys" 34
def GaZ(P:Program):Option Nat:=(List.range P.funcs.size).find? fun g=>match P.funcs[g]? with|some fn=>Gm5 fn|none=>false
def GbM(P:Program)(fn:Func):Option Gj:=
 if isSort fn=true∧fn.body.isSome=true then some ⟨1,0,.region [⟨none,none,.Bp (.tmp 0)⟩],[]⟩
 else if isSorted fn=true∧fn.body.isSome=true then(GaZ P).map fun g=>⟨1,0,.region [⟨some 1,none,.KJ g (.tmp 0)⟩],[.tmp 1]⟩
 else none
def Xt(P:Program)(f:Nat)(fn:Func):Option Gj:=
 Qf (fn.name != "runtime.NumGoroutine")
  (fn.body.bind fun c=>(Jt (fn.results.toList.map (Uv P))).bind fun rs=>
   match Jv P f fn.ntmps true 0 c with
   |some b=>some ⟨fn.ntmps,0,b,rs⟩
   |none=>(Al P f fn.ntmps (rs.map Yh.GdM) c).map fun b=>⟨fn.ntmps,0,b,rs⟩)
def VN(P:Program)(z:Nat):Option (Nat×Func×Array Tmp×Code×Code):=
 (P.funcs[z/2/16]?).bind fun fn=>fn.body.bind fun c=>((roundsIn c)[z/2 % 16]?).map fun r=>(z/2/16,fn,r)
def EL(P:Program)(z:Nat):Option Gj:=
 (VN P z).bind fun r=>
  if z % 2=0 then(Jv P r.1 r.2.1.ntmps false 0 r.2.2.2.1).map fun c=>⟨r.2.1.ntmps,1,c,[]⟩
  else(Jv P r.1 r.2.1.ntmps false 0 r.2.2.2.2).map fun c=>⟨r.2.1.ntmps,2,c,[]⟩
def K7(P:Program):J5:=fun f=>if f<RB then(P.funcs[f]?).bind fun fn=>match GbM P fn with|some cf=>some cf|none=>Xt P f fn else EL P (f-RB)
end Go.Cs
namespace Go.Cs.A
abbrev t(n:Nat):Jy:=.tmp n
abbrev c(v:CV):Jy:=.const v
abbrev i(n:Int):CV:=.int .i64 n
abbrev k(n:Int):Jy:=.const (.int .i64 n)
abbrev S(a b:Gn):Gn:=.seq a b
abbrev R(l:List GH):Gn:=.region l
abbrev D(l:List G8):Gn:=.QK l
abbrev B(n:Nat)(a:Gn):Gn:=.block n a
abbrev W(a:Gn):Gn:=.loop a
abbrev X(n:Nat):Gn:=.exit n
abbrev C(n:Nat)(a b:Gn):Gn:=.cond (.tmp n) a b
abbrev e(d:Nat)(o:Kc):GH:=⟨some d,none,o⟩
abbrev u(o:Kc):GH:=⟨none,none,o⟩
abbrev gt(t:Nat)(s:GH):GH:=⟨s.dst,some (t,true),s.op⟩
abbrev gf(t:Nat)(s:GH):GH:=⟨s.dst,some (t,false),s.op⟩
abbrev m(d x:Nat):GH:=⟨some d,none,.Km (.tmp x)⟩
abbrev n(d:Nat)(x:Int):GH:=⟨some d,none,.Km (.const (.int .i64 x))⟩
abbrev nb(d:Nat)(x:Bool):GH:=⟨some d,none,.Km (.const (.bool x))⟩
abbrev l(d n x:Nat):GH:=⟨some d,none,.load false n (.tmp x)⟩
abbrev lg(d n x:Nat):GH:=⟨some d,none,.load true n (.tmp x)⟩
abbrev f(d n x:Nat):GH:=⟨some d,none,.field n (.tmp x)⟩
abbrev z(d x:Nat):GH:=⟨some d,none,.nilCheck (.tmp x)⟩
abbrev x(d n x y:Nat):GH:=⟨some d,none,.index n (.tmp x) (.tmp y)⟩
abbrev ex(d x n:Nat):GH:=⟨some d,none,.extract (.tmp x) n⟩
abbrev le(d x:Nat):GH:=⟨some d,none,.len (.tmp x)⟩
abbrev no(d x:Nat):GH:=⟨some d,none,.not (.tmp x)⟩
abbrev bo(d x:Nat):GH:=⟨some d,none,.box (.tmp x)⟩
abbrev b(d:Nat)(o:BinOp)(x y:Nat):GH:=⟨some d,none,.bin o (.tmp x) (.tmp y)⟩
abbrev bk(d:Nat)(o:BinOp)(x:Nat)(y:Int):GH:=⟨some d,none,.bin o (.tmp x) (.const (.int .i64 y))⟩
abbrev an(d x y:Nat):GH:=⟨some d,none,.pick (.tmp x) (.tmp y) (.const (.bool false))⟩
abbrev or(d x y:Nat):GH:=⟨some d,none,.pick (.tmp x) (.const (.bool true)) (.tmp y)⟩
abbrev ap(d n x y:Nat):GH:=⟨some d,none,.append n (.tmp x) (.tmp y)⟩
abbrev st(n x y:Nat):GH:=⟨none,none,.store n (.tmp x) (.tmp y)⟩
abbrev ca(d f:Nat)(l:List Jy):GH:=⟨some d,none,.call f l⟩
abbrev q1(d f a:Nat):GH:=⟨some d,none,.call f [.tmp a]⟩
abbrev q2(d f a b:Nat):GH:=⟨some d,none,.call f [.tmp a,.tmp b]⟩
abbrev q3(d f a b c:Nat):GH:=⟨some d,none,.call f [.tmp a,.tmp b,.tmp c]⟩
abbrev q4(d f a b c e:Nat):GH:=⟨some d,none,.call f [.tmp a,.tmp b,.tmp c,.tmp e]⟩
abbrev q5(d f a b c e g:Nat):GH:=⟨some d,none,.call f [.tmp a,.tmp b,.tmp c,.tmp e,.tmp g]⟩
abbrev Q(l:List GH):Gn:=.seq (.region l) .ret
abbrev T(l:List GH)(a:Gn):Gn:=.seq (.region l) a
abbrev I(n:Nat)(a:Gn):Gn:=.cond (.tmp n) a .skip
abbrev J(n:Nat)(a:Gn):Gn:=.cond (.tmp n) .skip a
abbrev r(n:Nat):Yh:=.tmp n
end Go.Cs.A
namespace Go.Cs
open Go Go.RowKit
structure Z6 where
 c:Nat
 s:Nat
 GN:Nat
 size:Nat
abbrev Mu:=Nat→Option Z6
mutual
def V(μ:Mu):CV→Value→Prop
 |.int k n,v=>v=.int k n
 |.bool b,v=>v=.bool b
 |.ptr b o,v=>∃m,μ b=some m∧v=.pointer (some ⟨m.c,m.s+o,none⟩)
 |.nilPtr,v=>v=.pointer none
 |.slice b o len cap e tail,v=>∃m cap' off,μ b=some m∧m.GN=e∧v=.slice (some ⟨m.c,off,none⟩) len cap'∧len≤cap'∧(if tail=true then cap≤cap' else cap'=cap)∧(cap'=0∨off=m.s+o)∧off+cap'*m.GN≤m.size
 |.Gd,v=>v=.slice none 0 0
 |.func f caps,v=>∃vs,v=.func (.func f) #[] vs∧VL μ caps vs.toList
 |.nilFunc,v=>v=.nilFunc
 |.GJ b,v=>∃m,μ b=some m∧v=.map (some m.c)
 |.Uk,v=>v=.map none
 |.iface t x,v=>∃u,v=.iface t u∧V μ x u
 |.nilIface,v=>v=.nilIface
 |.GfH name x,v=>∃u,v=.func (.method name) #[u] #[]∧V μ x u
 |.yld b,v=>∃m,μ b=some m∧v=.func (.yield m.c) #[] #[]
 |.agg cs,v=>∃vs,v=.agg vs∧VL μ cs vs.toList
 |.Jj cs,v=>∃vs,v=.tuple vs∧VL μ cs vs.toList
def VL(μ:Mu):List CV→List Value→Prop
 |[],vs=>vs=[]
 |c::cs,vs=>∃v rest,vs=v::rest∧V μ c v∧VL μ cs rest
end
mutual
theorem V.mono{μ ν:Mu}(h:∀b m,μ b=some m→ν b=some m):∀(c:CV)(v:Value),V μ c v→V ν c v
 |.int k n,v,e=>by simpa[V]using e
 |.bool b,v,e=>by simpa[V]using e
 |.ptr b o,v,e=>by
  simp only[V]at e⊢
  grind
 |.nilPtr,v,e=>by simpa[V]using e
 |.slice b o len cap z tail,v,e=>by
  simp only[V]at e⊢
  grind
 |.Gd,v,e=>by simpa[V]using e
 |.func f caps,v,e=>by
  simp only[V]at e⊢
  obtain⟨vs,e,hl⟩:=e
  exact⟨vs,e,VL.mono h caps _ hl⟩
 |.nilFunc,v,e=>by simpa[V]using e
 |.GJ b,v,e=>by
  simp only[V]at e⊢
  grind
 |.Uk,v,e=>by simpa[V]using e
 |.iface t x,v,e=>by
  simp only[V]at e⊢
  obtain⟨u,e,hu⟩:=e
  exact⟨u,e,V.mono h x u hu⟩
 |.nilIface,v,e=>by simpa[V]using e
 |.GfH name x,v,e=>by
  simp only[V]at e⊢
  obtain⟨u,e,hu⟩:=e
  exact⟨u,e,V.mono h x u hu⟩
 |.yld b,v,e=>by
  simp only[V]at e⊢
  grind
 |.agg cs,v,e=>by
  simp only[V]at e⊢
  obtain⟨vs,e,hl⟩:=e
  exact⟨vs,e,VL.mono h cs _ hl⟩
 |.Jj cs,v,e=>by
  simp only[V]at e⊢
  obtain⟨vs,e,hl⟩:=e
  exact⟨vs,e,VL.mono h cs _ hl⟩
theorem VL.mono{μ ν:Mu}(h:∀b m,μ b=some m→ν b=some m):∀(cs:List CV)(vs:List Value),VL μ cs vs→VL ν cs vs
 |[],vs,e=>by simpa[VL]using e
 |c::cs,vs,e=>by
  simp only[VL]at e⊢
  obtain⟨v,rest,e,hv,hl⟩:=e
  exact⟨v,rest,e,V.mono h c v hv,VL.mono h cs rest hl⟩
end
theorem VL.length{μ:Mu}:∀{cs:List CV}{vs:List Value},VL μ cs vs→vs.length=cs.length
 |[],_,e=>by simp only[VL]at e;simp[e]
 |_::cs,_,e=>by
  simp only[VL]at e
  obtain⟨v,rest,rfl,_,hl⟩:=e
  simp[VL.length hl]
theorem VL.get{μ:Mu}:∀{cs:List CV}{vs:List Value},VL μ cs vs→∀{i:Nat}{c:CV},cs[i]?=some c→∃v,vs[i]?=some v∧V μ c v
 |[],_,_,i,c,h=>by simp at h
 |c::cs,_,e,i,d,h=>by
  simp only[VL]at e
  obtain⟨v,rest,rfl,hv,hl⟩:=e
  cases i with
  |zero=>grind
  |succ i=>simpa using VL.get hl (by simpa using h)
theorem VL.Aq{μ:Mu}:∀{cs:List CV}{vs:List Value},vs.length=cs.length→(∀(i:Nat)(c:CV),cs[i]?=some c→∃v,vs[i]?=some v∧V μ c v)→VL μ cs vs
 |[],vs,hl,_=>by simp only[VL];exact List.length_eq_zero_iff.1 hl
 |c::cs,vs,hl,h=>by
  match vs,hl with
  |v::rest,hl=>
   simp only[VL]
   refine⟨v,rest,rfl,?_,VL.Aq (by simpa using hl) fun i d hd=>?_⟩
   ·obtain⟨u,hu,hv⟩:=h 0 c rfl
    simp at hu;subst hu;exact hv
   ·obtain⟨u,hu,hv⟩:=h (i+1) d (by simpa using hd)
    exact⟨u,by simpa using hu,hv⟩
theorem VL.append{μ:Mu}{Ga bs:List CV}{xs ys:List Value}(h:VL μ Ga xs)(k:VL μ bs ys):VL μ (Ga++bs) (xs++ys):=by
 induction Ga generalizing xs with
 |nil=>simp only[VL]at h;subst h;exact k
 |cons a Ga ih=>
  simp only[VL]at h
  obtain⟨v,rest,rfl,hv,hl⟩:=h
  simp only[List.cons_append,VL]
  grind
theorem VL.take{μ:Mu}{Ga:List CV}{xs:List Value}(h:VL μ Ga xs)(n:Nat):VL μ (Ga.take n) (xs.take n):=by
 refine VL.Aq (by simp[h.length]) fun i c hc=>?_
 rw[Zx]at hc⊢
 split at hc
 ·rename_i hi;obtain⟨v,hv,hV⟩:=h.get hc;grind
 ·cases hc
theorem VL.drop{μ:Mu}{Ga:List CV}{xs:List Value}(h:VL μ Ga xs)(n:Nat):VL μ (Ga.drop n) (xs.drop n):=by
 refine VL.Aq (by simp[h.length]) fun i c hc=>?_
 rw[Z7]at hc⊢
 exact h.get hc
theorem VL.splice{μ:Mu}{Ga bs:List CV}{xs ys:List Value}(h:VL μ Ga xs)(k:VL μ bs ys)(o:Nat):VL μ (splice Ga o bs) (xs.take o++ys++xs.drop (o+ys.length)):=by
 unfold Cs.splice
 rw[k.length]
 exact((h.take o).append k).append (h.drop _)
theorem V.cells{μ:Mu}{c:CV}{v:Value}(h:V μ c v):VL μ (cellsOf c) v.cells.toList:=by
 cases c<;>simp only[V]at h<;>try (obtain⟨vs,rfl,hl⟩:=h;exact hl)
 all_goals
  simp only[cellsOf,VL]
  refine⟨v,[],?_,?_,rfl⟩
  ·first
   |(subst h;rfl)
   |(obtain⟨m,_,rfl⟩:=h;rfl)
   |(obtain⟨m,c',off,_,_,rfl,_⟩:=h;rfl)
   |(obtain⟨vs,rfl,hl⟩:=h;rfl)
  ·simpa only[V]using h
theorem V.leaf{μ:Mu}{c:CV}{v:Value}(h:V μ c v)(hl:leaf c=true):v.oneCell'=true:=by
 cases c<;>simp only[V]at h<;>first
  |(subst h;rfl)
  |(obtain⟨m,_,rfl⟩:=h;rfl)
  |(obtain⟨m,c',off,_,_,rfl,_⟩:=h;rfl)
  |(obtain⟨vs,rfl,_⟩:=h;first|rfl|simp[Cs.leaf]at hl)
theorem VL.leaf{μ:Mu}{cs:List CV}{vs:List Value}(h:VL μ cs vs)(hl:cs.all Cs.leaf=true):∀v∈vs,v.oneCell'=true:=by
 induction cs generalizing vs with
 |nil=>simp only[VL]at h;subst h;simp
 |cons c cs ih=>
  simp only[VL]at h
  obtain⟨v,rest,rfl,hv,hr⟩:=h
  simp only[List.all_cons,NH]at hl
  intro u hu
  rcases List.mem_cons.1 hu with rfl|hu
  ·exact hv.leaf hl.1
  ·exact ih hr hl.2 u hu
theorem Bu(w:World)(o:Obj)(i:Nat)(h:i<w.heap.size):(w.alloc o).heap[i]?=w.heap[i]?:=by
 show(w.heap.push o)[i]?=w.heap[i]?
 grind
theorem BN(w:World)(o:Obj):(w.alloc o).heap[w.heap.size]?=some o:=by
 show(w.heap.push o)[w.heap.size]?=some o
 simp
def JX(μ:Mu):List CV→List MapEntry→Prop
 |[],es=>es=[]
 |c::cs,es=>∃k n v e rest,c=.Jj [.int k n,v]∧es=e::rest∧e.key=.int k n∧V μ v e.val∧Cs.leaf v=true∧JX μ cs rest
theorem JX.mono{μ ν:Mu}(h:∀b m,μ b=some m→ν b=some m):∀{cs:List CV}{es:List MapEntry},JX μ cs es→JX ν cs es
 |[],es,e=>e
 |c::cs,es,e=>by
  obtain⟨k,n,v,x,rest,h1,h2,h3,h4,h5,h6⟩:=e
  exact⟨k,n,v,x,rest,h1,h2,h3,V.mono h _ _ h4,h5,JX.mono h h6⟩
structure Bs extends World where
 rnd:Nat→Nat→Nat→Array Tmp→Code→Code→Prop
 frz:Nat→Obj→Prop
def StR(s:Int)(r:Loop):Prop:=
 (s=0∧r.state=.ready∧r.pending=none)∨s=1∨(s=2∧r.state=.done∧r.pending=some .ret)∨∃id:Nat,s=id+3∧r.state=.done∧r.pending=some (.exit id)
def Ea(B:Bs)(μ:Mu)(blk:JE)(r:Loop):Prop:=
 ∃s env z,blk=G9 s (r.params.toList.map fun(t:Nat)=>CV.i (t:Int)) env z∧StR s r∧(∀t,V μ (env.getD t .undef) (r.tmps.getD t undef))∧env.length≤r.tmps.size∧B.rnd z env.length r.fn r.params r.assign r.body
theorem Ea.mono{B:Bs}{μ ν:Mu}(h:∀b m,μ b=some m→ν b=some m){blk:JE}{r:Loop}(e:Ea B μ blk r):Ea B ν blk r:=by
 obtain⟨s,env,z,h1,h2,h3,h4⟩:=e
 exact⟨s,env,z,h1,h2,fun t=>V.mono h _ _ (h3 t),h4⟩
def Ie(B:Bs)(μ:Mu)(c:Nat)(blk:JE)(ob:Obj):Prop:=
 (blk.GN=0∧∃es cl,ob=.map es cl∧JX μ (QN blk.cells) es.toList∧MapKept.Stamped es cl∧(VP blk.cells=true→B.frz c ob))∨∃r,ob=.loop r∧Ea B μ blk r
theorem Ie.mono{B:Bs}{μ ν:Mu}{c:Nat}(h:∀b m,μ b=some m→ν b=some m){blk:JE}{ob:Obj}(e:Ie B μ c blk ob):Ie B ν c blk ob:=by
 rcases e with⟨h1,es,cl,h2,h3,h4⟩|⟨r,h1,h2⟩
 ·exact .inl ⟨h1,es,cl,h2,h3.mono h,h4⟩
 ·exact .inr ⟨r,h1,h2.mono h⟩
theorem Ie.map{B:Bs}{μ:Mu}{c:Nat}{blk:JE}{ob:Obj}(e:Ie B μ c blk ob)(h:blk.GN=0):∃es cl,ob=.map es cl∧JX μ (QN blk.cells) es.toList∧MapKept.Stamped es cl∧(VP blk.cells=true→B.frz c ob):=by
 rcases e with⟨_,h1⟩|⟨r,_,s,env,z,h1,_⟩
 ·exact h1
 ·rw[h1]at h;cases h
theorem Ie.loop{B:Bs}{μ:Mu}{c:Nat}{blk:JE}{ob:Obj}(e:Ie B μ c blk ob)(h:blk.GN≠0):∃r,ob=.loop r∧Ea B μ blk r:=by
 rcases e with⟨h1,_⟩|h1
 ·exact absurd h1 h
 ·exact h1
theorem UO{μ:Mu}{cs:List CV}{es:List MapEntry}(h:JX μ cs es):QN cs=cs∧VP cs=false:=by
 cases cs with
 |nil=>exact⟨rfl,rfl⟩
 |cons c l=>
  obtain⟨k,n,v,e,rest,rfl,_⟩:=h
  exact⟨by cases l<;>rfl,by cases l<;>rfl⟩
theorem JX.Gms{B:Bs}{μ:Mu}{c:Nat}{blk:JE}{es:Array MapEntry}{cl:Nat}(h0:blk.GN=0)(h:JX μ blk.cells es.toList∧MapKept.Stamped es cl):Ie B μ c blk (.map es cl):=
 .inl ⟨h0,es,cl,rfl,by rw[(UO h.1).1];exact h.1,h.2,fun e=>by rw[(UO h.1).2]at e;cases e⟩
structure JZ(K:Nat→Option Obj)(B:Bs)(μ:Mu)(H:Gb)(w:World):Prop where
 base:Below B.heap.size B.toWorld w
 kept:∀c o,K c=some o→w.heap[c]?=some o
 blk:∀b blk m,H[b]?=some blk→blk.mode≠.dead→blk.mode≠.map→μ b=some m→∃arr T fz,w.heap[m.c]?=some (.cells arr T fz)∧
  (∀(i:Nat)(c:CV),blk.cells[i]?=some c→∃v,arr[m.s+i]?=some v∧V μ c v)∧
  (blk.mode=.rw→m.GN=blk.GN∧arr.size=m.size∧((blk.GN=0→m.s=0)∧m.s+blk.cells.length≤m.size)∧fz=(0,0)∧B.heap.size≤m.c∧K m.c=none)∧
  (blk.mode=.ro→m.c<B.heap.size)
 inj:∀b1 b2 k1 k2 m1 m2,H[b1]?=some k1→H[b2]?=some k2→k1.mode=.rw∨k1.mode=.map→k2.mode≠.dead→b1≠b2→μ b1=some m1→μ b2=some m2→m1.c≠m2.c
 mp:∀b blk m,H[b]?=some blk→blk.mode=.map→μ b=some m→∃ob,w.heap[m.c]?=some ob∧Ie B μ m.c blk ob∧B.heap.size≤m.c∧K m.c=none
theorem JZ.congr{K:Nat→Option Obj}{B:Bs}{μ ν:Mu}{H:Gb}{w:World}(h:JZ K B μ H w)(he:∀b,b<H.length→ν b=μ b)(hm:∀b m,μ b=some m→ν b=some m):JZ K B ν H w:=by
 have lt:∀{b:Nat}{k:JE},H[b]?=some k→b<H.length:=fun e=>(ZK.1 e).1
 refine⟨h.base,h.kept,fun b k m hb hd hd' hv=>?_,fun b1 b2 k1 k2 m1 m2 h1 h2 r1 r2 hne e1 e2=>?_,fun b k m hb hd hv=>?_⟩
 rotate_left 2
 ·rw[he b (lt hb)]at hv
  obtain⟨ob,hw,hr,hB,hK⟩:=h.mp b k m hb hd hv
  exact⟨ob,hw,hr.mono hm,hB,hK⟩
 ·rw[he b (lt hb)]at hv
  obtain⟨arr,T,fz,hw,hc,hr⟩:=h.blk b k m hb hd hd' hv
  exact⟨arr,T,fz,hw,fun i c hi=>let ⟨v,hv,hV⟩:=hc i c hi;⟨v,hv,V.mono hm _ _ hV⟩,hr⟩
 ·rw[he b1 (lt h1)]at e1
  rw[he b2 (lt h2)]at e2
  exact h.inj b1 b2 k1 k2 m1 m2 h1 h2 r1 r2 hne e1 e2
theorem JZ.same{K:Nat→Option Obj}{B:Bs}{μ:Mu}{H:Gb}{w w':World}(h:JZ K B μ H w)(hh:w'.heap=w.heap)(ho:w'.os=w.os)(ht:w'.tape=w.tape)(hu:w'.output=w.output):JZ K B μ H w':=
 ⟨⟨ho.trans h.base.os,ht.trans h.base.tape,hu.trans h.base.output,by rw[hh];exact h.base.size,fun k hk=>by rw[hh];exact h.base.block k hk⟩,
  fun c o hc=>by rw[hh];exact h.kept c o hc,fun b k m hb hd hd' hv=>by rw[hh];exact h.blk b k m hb hd hd' hv,h.inj,fun b k m hb hd hv=>by rw[hh];exact h.mp b k m hb hd hv⟩
theorem JZ.QW{K:Nat→Option Obj}{B:Bs}{μ:Mu}{H:Gb}{w:World}(h:JZ K B μ H w){b o:Nat}{c:CV}{m:Z6}(hl:QW H b o=some c)(hm:μ b=some m):
  ∃v,w.cell? ⟨m.c,m.s+o,none⟩=some v∧V μ c v:=by
 unfold Cs.QW at hl
 split at hl
 ·rename_i k hk
  split at hl
  ·cases hl
  ·rename_i hd
   obtain⟨arr,T,fz,hw,hc,_⟩:=h.blk b k m hk (fun e=>hd (.inl e)) (fun e=>hd (.inr e)) hm
   obtain⟨v,hv,hV⟩:=hc o c hl
   exact⟨v,by simp[World.cell?,hw,hv],hV⟩
 ·cases hl
theorem JZ.JD{K:Nat→Option Obj}{B:Bs}{μ:Mu}{H:Gb}{w:World}(h:JZ K B μ H w){b o n:Nat}{cs:List CV}{m:Z6}(hl:JD H b o n=some cs)(hm:μ b=some m):
  cs.length=n∧∃vs,VL μ cs vs∧∀j v,vs[j]?=some v→w.cell? ⟨m.c,m.s+o+j,none⟩=some v:=by
 unfold Cs.JD at hl
 split at hl
 ·rename_i k hk
  split at hl
  ·cases hl
  ·rename_i hd
   split at hl
   ·rename_i hle
    simp only[GA]at hl
    subst hl
    obtain⟨arr,T,fz,hw,hc,_⟩:=h.blk b k m hk (fun e=>hd (.inl e)) (fun e=>hd (.inr e)) hm
    have hlen:((k.cells.drop o).take n).length=n:=by simp;omega
    refine⟨hlen,(List.range n).map (fun j=>arr.getD (m.s+o+j) undef),?_,?_⟩
    ·refine VL.Aq (by simp;omega) fun i c hi=>?_
     have hin:i<n:=by grind
     rw[Zx,if_pos hin,Z7]at hi
     obtain⟨v,hv,hV⟩:=hc _ c hi
     refine⟨v,?_,hV⟩
     simp only[Kr,IX hin,Option.map_some]
     rw[Array.getD_eq_getD_getElem?,show m.s+o+i=m.s+(o+i)from by omega,hv]
     rfl
    ·intro j v hv
     simp only[Kr]at hv
     by_cases hj:j<n
     ·rw[IX hj]at hv
      simp only[Option.map_some,GA]at hv
      have hx:k.cells[o+j]?=some (k.cells[o+j]'oM):=Jr oM
      obtain⟨u,hu,_⟩:=hc _ _ hx
      rw[Array.getD_eq_getD_getElem?,show m.s+o+j=m.s+(o+j)from by omega,hu]at hv
      simp at hv
      subst hv
      simp[World.cell?,hw,show m.s+o+j=m.s+(o+j)from by omega,hu]
     grind
   ·cases hl
 ·cases hl
theorem Bh{l vs:List CV}{o:Nat}(h:o+vs.length≤l.length):(splice l o vs).length=l.length:=by
 simp[splice];omega
theorem JZ.write{K:Nat→Option Obj}{B:Bs}{μ:Mu}{H:Gb}{w:World}(h:JZ K B μ H w){b o:Nat}{cs:List CV}{vs:List Value}{H':Gb}{m:Z6}(hs:Nh H b o cs=some H')(hm:μ b=some m)(hv:VL μ cs vs):
  ∃arr T,w.heap[m.c]?=some (.cells arr T (0,0))∧m.s+o+vs.length≤arr.size∧(∀v∈vs,v.oneCell'=true)∧
   JZ K B μ H' (w.setRow m.c (arr.toList.take (m.s+o)++vs++arr.toList.drop (m.s+o+vs.length)).toArray)∧H'.length=H.length:=by
 unfold Nh at hs
 split at hs
 ·rename_i k hk
  split at hs
  ·rename_i hc
   obtain⟨hrw,hle,RF⟩:=hc
   simp only[GA]at hs
   subst hs
   have hd:k.mode≠.dead:=by rw[hrw];decide
   obtain⟨arr,T,fz,hw,hcell,hr,_⟩:=h.blk b k m hk hd (by rw[hrw];decide) hm
   obtain⟨he,hsz,hfits,rfl,hB,hK⟩:=hr hrw
   have hfit:m.s+o+vs.length≤arr.size:=by rw[hv.length,hsz];omega
   refine⟨arr,T,hw,hfit,hv.leaf RF,⟨?_,?_,?_,?_,?_⟩,sM⟩
   ·refine h.base.trans ⟨rfl,rfl,rfl,sM,fun q hq=>setRow_other w m.c q _ oM⟩
   ·intro c x hx
    have hne:c≠m.c:=fun e=>by rw[e,hK]at hx;cases hx
    rw[setRow_other w m.c c _ hne]
    exact h.kept c x hx
   ·intro b' k' m' hb' hd' hd2 hm'
    by_cases hbb:b'=b
    ·subst hbb
     rw[hm]at hm'
     simp only[GA]at hm'
     subst hm'
     have hlt:b'<H.length:=(ZK.1 hk).1
     rw[Va hlt]at hb'
     simp only[GA]at hb'
     subst hb'
     have hlen:(arr.toList.take (m.s+o)++vs++arr.toList.drop (m.s+o+vs.length)).length=arr.size:=by simp;omega
     refine⟨_,T,(0,0),setRow_heap w m.c arr _ T (0,0) hw,fun i c hi=>?_,fun _=>⟨he,?_,?_,rfl,hB,hK⟩,fun e=>by rw[hrw]at e;cases e⟩
     ·dsimp only at hi
      rw[List.getElem?_toArray]
      unfold splice at hi
      have hol:o≤k.cells.length:=by omega
      have G2v:m.s+o≤arr.toList.length:=by simp;omega
      by_cases h1:i<o
      ·rw[List.append_assoc,IJ (by simp;omega),Zx,if_pos h1]at hi
       grind
      ·by_cases h2:i<o+cs.length
       ·rw[List.append_assoc,lX8 (by simp;omega),IJ (by simp;omega)]at hi
        rw[List.append_assoc,lX8 (by simp;omega),IJ (by simp[hv.length];omega)]
        obtain⟨v,hv,hV⟩:=hv.get hi
        grind
       ·rw[List.append_assoc,lX8 (by simp;omega),lX8 (by simp;omega),Z7]at hi
        rw[List.append_assoc,lX8 (by simp;omega),lX8 (by simp[hv.length];omega),Z7]
        obtain⟨v,hv',hV⟩:=hcell _ c hi
        refine⟨v,?_,hV⟩
        rw[GjQ,←hv']
        congr 1
        simp[hv.length]
        omega
     ·rw[List.size_toArray,hlen,hsz]
     ·rw[Bh hle];exact hfits
    ·rw[KV (Ne.symm hbb)]at hb'
     obtain⟨arr',T',fz',hw',hc',hr'⟩:=h.blk b' k' m' hb' hd' hd2 hm'
     have hne:m'.c≠m.c:=Ne.symm (h.inj b b' k k' m m' hk hb' (.inl hrw) hd' (Ne.symm hbb) hm hm')
     exact⟨arr',T',fz',by rw[setRow_other w m.c m'.c _ hne];exact hw',hc',hr'⟩
   ·intro b1 b2 k1 k2 m1 m2 h1 h2 r1 r2 hne e1 e2
    have get:∀{b':Nat}{k':JE},(H.set b {k with cells:=splice k.cells o cs})[b']?=some k'→∃k'',H[b']?=some k''∧k''.mode=k'.mode:=by
     grind
    obtain⟨q1,g1,f1⟩:=get h1
    obtain⟨q2,g2,f2⟩:=get h2
    exact h.inj b1 b2 q1 q2 m1 m2 g1 g2 (by rw[f1];exact r1) (f2▸r2) hne e1 e2
   ·intro b' k' m' hb' hd' hm'
    have hbb:b'≠b:=by
     grind
    rw[KV (Ne.symm hbb)]at hb'
    obtain⟨ob,hw',hr',hB',hK'⟩:=h.mp b' k' m' hb' hd' hm'
    have hne:m'.c≠m.c:=Ne.symm (h.inj b b' k k' m m' hk hb' (.inl hrw) (by rw[hd'];decide) (Ne.symm hbb) hm hm')
    exact⟨ob,by rw[setRow_other w m.c m'.c _ hne];exact hw',hr',hB',hK'⟩
  ·cases hs
 ·cases hs
theorem JZ.alloc{K:Nat→Option Obj}{B:Bs}{μ:Mu}{H:Gb}{w:World}(h:JZ K B μ H w)(o:Obj):JZ (fun c=>if c=w.heap.size then some o else K c) B μ H (w.alloc o):=by
 have old:∀{c:Nat},c<w.heap.size→(w.alloc o).heap[c]?=w.heap[c]?:=fun hc=>Bu w o _ hc
 refine⟨h.base.alloc h.base.size o,fun c x hx=>?_,fun b k m hb hd hd' hm=>?_,h.inj,fun b k m hb hd hm=>?_⟩
 rotate_left 2
 ·obtain⟨ob,hw,hr,hB,hK⟩:=h.mp b k m hb hd hm
  grind
 ·by_cases hc:c=w.heap.size
  ·rw[if_pos hc]at hx
   simp only[GA]at hx
   subst hx;subst hc
   exact BN w _
  ·rw[if_neg hc]at hx
   have:=h.kept c x hx
   grind
 ·obtain⟨arr,T,fz,hw,hc,hr⟩:=h.blk b k m hb hd hd' hm
  grind
def Mu.set(μ:Mu)(b:Nat)(m:Z6):Mu:=fun k=>if k=b then some m else μ k
theorem Mu.set_self(μ:Mu)(b:Nat)(m:Z6):μ.set b m b=some m:=by simp[Mu.set]
theorem Mu.Jz(μ:Mu){b k:Nat}(m:Z6)(h:k≠b):μ.set b m k=μ k:=by simp[Mu.set,h]
theorem JZ.adopt{K:Nat→Option Obj}{B:Bs}{μ:Mu}{H:Gb}{w:World}(h:JZ K B μ H w){c:Nat}{arr:Array Value}{T:TypeId}(hK:K c=some (.cells arr T))(hB:B.heap.size≤c)
  {k:JE}(hk:k.mode=.rw){s:Nat}(hl:(k.GN=0→s=0)∧s+k.cells.length≤arr.size)(hμ:μ H.length=some ⟨c,s,k.GN,arr.size⟩)
  (hv:∀(i:Nat)(x:CV),k.cells[i]?=some x→∃v,arr[s+i]?=some v∧V μ x v):
  JZ (fun d=>if d=c then none else K d) B μ (H++[k]) w:=by
 have hw:=h.kept c _ hK
 have get:∀{b:Nat}{q:JE},(H++[k])[b]?=some q→(b<H.length∧H[b]?=some q)∨(b=H.length∧q=k):=by
  grind
 have far:∀{b:Nat}{q:JE}{m:Z6},H[b]?=some q→q.mode=.rw∨q.mode=.map→μ b=some m→m.c≠c:=by
  intro b q m hb hq hm e
  rcases hq with hq|hq
  case inr=>
   obtain⟨_,_,_,_,this⟩:=h.mp b q m hb hq hm
   rw[e,hK]at this
   cases this
  obtain⟨_,_,_,_,_,hr⟩:=h.blk b q m hb (by rw[hq];decide) (by rw[hq];decide) hm
  grind
 refine⟨h.base,fun d x hx=>?_,fun b q m hb hd hd' hm=>?_,fun b1 b2 k1 k2 m1 m2 h1 h2 r1 r2 hne e1 e2=>?_,fun b q m hb hd hm=>?_⟩
 rotate_left 3
 ·rcases get hb with⟨_,hb⟩|⟨rfl,rfl⟩
  ·obtain⟨ob,hw',hr,hB',hK'⟩:=h.mp b q m hb hd hm
   grind
  ·rw[hk]at hd;cases hd
 ·split at hx
  ·cases hx
  ·exact h.kept d x hx
 ·rcases get hb with⟨_,hb⟩|⟨rfl,rfl⟩
  ·obtain⟨a,T',fz,hw',hc,hr⟩:=h.blk b q m hb hd hd' hm
   grind
  grind
 ·rcases get h1 with⟨_,h1⟩|⟨l1,q1⟩<;>rcases get h2 with⟨_,h2⟩|⟨l2,q2⟩
  ·exact h.inj b1 b2 k1 k2 m1 m2 h1 h2 r1 r2 hne e1 e2
  ·grind
  ·rw[l1,hμ]at e1;simp only[GA]at e1;subst e1
   cases hmd:k2.mode with
   |rw=>exact Ne.symm (far h2 (.inl hmd) e2)
   |map=>exact Ne.symm (far h2 (.inr hmd) e2)
   |ro=>
    obtain⟨_,_,_,_,_,hr2⟩:=h.blk b2 k2 m2 h2 r2 (by rw[hmd];decide) e2
    have:=hr2.2 hmd;dsimp only;omega
   |dead=>exact absurd hmd r2
  ·exact absurd (l1.trans l2.symm) hne
theorem JZ.kill{K:Nat→Option Obj}{B:Bs}{μ:Mu}{H:Gb}{w:World}(h:JZ K B μ H w){b:Nat}{k:JE}(hb:H[b]?=some k):JZ K B μ (H.set b {k with mode:=.dead}) w:=by
 have get:∀{b':Nat}{k':JE},(H.set b {k with mode:=.dead})[b']?=some k'→k'.mode≠.dead→H[b']?=some k':=by
  grind
 refine⟨h.base,h.kept,fun b' k' m hb' hd hd' hm=>h.blk b' k' m (get hb' hd) hd hd' hm,fun b1 b2 k1 k2 m1 m2 h1 h2 r1 r2 hne e1 e2=>?_,fun b' k' m hb' hd hm=>h.mp b' k' m (get hb' (by rw[hd];decide)) hd hm⟩
 exact h.inj b1 b2 k1 k2 m1 m2 (get h1 (by grind)) (get h2 r2) r1 r2 hne e1 e2
theorem JZ.own{K:Nat→Option Obj}{B:Bs}{μ:Mu}{H:Gb}{w:World}(h:JZ K B μ H w){b:Nat}{k:JE}{m:Z6}(hb:H[b]?=some k) (hrw:k.mode=.rw) (hm:μ b=some m):
  ∃arr T,w.heap[m.c]?=some (.cells arr T)∧arr.size=m.size∧m.GN=k.GN∧((k.GN=0→m.s=0)∧m.s+k.cells.length≤m.size)∧B.heap.size≤m.c∧
   JZ (fun d=>if d=m.c then some (.cells arr T)else K d) B μ (H.set b {k with mode:=.dead}) w:=by
 obtain⟨arr,T,fz,hw,hc,hr⟩:=h.blk b k m hb (by rw[hrw];decide) (by rw[hrw];decide) hm
 obtain⟨a1,a2,a3,rfl,a5,a6⟩:=hr.1 hrw
 refine⟨arr,T,hw,a2,a1,a3,a5,?_⟩
 have hk:=h.kill hb
 refine⟨hk.base,fun d x hx=>?_,fun b' k' m' hb' hd hd' hm'=>?_,hk.inj,fun b' k' m' hb' hd hm'=>?_⟩
 ·split at hx
  ·grind
  ·exact hk.kept d x hx
 ·obtain⟨a,T',fz,hw',hc',hr'⟩:=hk.blk b' k' m' hb' hd hd' hm'
  refine⟨a,T',fz,hw',hc',fun e=>?_,hr'.2⟩
  obtain⟨c1,c2,c3,c4,c5,c6⟩:=hr'.1 e
  have hne:b≠b':=fun e'=>by
   grind
  rw[KV hne]at hb'
  have:=h.inj b b' k k' m m' hb hb' (.inl hrw) hd hne hm hm'
  grind
 ·obtain⟨ob,hw',hr',hB',hK'⟩:=hk.mp b' k' m' hb' hd hm'
  have hne:b≠b':=fun e'=>by
   grind
  rw[KV hne]at hb'
  have:=h.inj b b' k k' m m' hb hb' (.inl hrw) (by rw[hd];decide) hne hm hm'
  grind
theorem JZ.newObj{K:Nat→Option Obj}{B:Bs}{μ:Mu}{H:Gb}{w:World}(h:JZ K B μ H w){e z:Nat}(hμ:μ H.length=some ⟨w.heap.size,0,e,z⟩)(hK:K w.heap.size=none){k:JE}(hk:k.mode=.map){x:Obj}(hr:Ie B μ w.heap.size k x):
  JZ K B μ (H++[k]) (w.alloc x):=by
 have old:∀{c:Nat},c<w.heap.size→(w.alloc x).heap[c]?=w.heap[c]?:=fun hc=>Bu w _ _ hc
 have get:∀{b:Nat}{q:JE},(H++[k])[b]?=some q→(b<H.length∧H[b]?=some q)∨(b=H.length∧q=k):=by
  grind
 have small:∀{b:Nat}{q:JE}{m:Z6},H[b]?=some q→q.mode≠.dead→μ b=some m→m.c<w.heap.size:=by
  intro b q m hb hd hm
  by_cases hq:q.mode=.map
  ·obtain⟨_,hw,_⟩:=h.mp b q m hb hq hm
   grind
  ·obtain⟨_,_,_,hw,_⟩:=h.blk b q m hb hd hq hm
   grind
 refine⟨h.base.alloc h.base.size _,fun c y hx=>?_,fun b q m hb hd hd' hm=>?_,fun b1 b2 k1 k2 m1 m2 h1 h2 r1 r2 hne e1 e2=>?_,fun b q m hb hd hm=>?_⟩
 ·have:=h.kept c y hx
  grind
 ·rcases get hb with⟨_,hb⟩|⟨rfl,rfl⟩
  ·obtain⟨arr,T,fz,hw,hr⟩:=h.blk b q m hb hd hd' hm
   grind
  ·exact absurd hk hd'
 ·rcases get h1 with⟨_,h1⟩|⟨l1,q1⟩<;>rcases get h2 with⟨_,h2⟩|⟨l2,q2⟩
  ·exact h.inj b1 b2 k1 k2 m1 m2 h1 h2 r1 r2 hne e1 e2
  ·grind
  ·grind
  ·exact absurd (l1.trans l2.symm) hne
 ·rcases get hb with⟨_,hb⟩|⟨rfl,rfl⟩
  ·obtain⟨ob,hw,hr⟩:=h.mp b q m hb hd hm
   grind
  ·rw[hμ]at hm;simp only[GA]at hm;subst hm
   exact⟨x,BN w _,hr,h.base.size,hK⟩
theorem JZ.setObj{K:Nat→Option Obj}{B:Bs}{μ:Mu}{H:Gb}{w:World}(h:JZ K B μ H w){b:Nat}{k:JE}{m:Z6}(hb:H[b]?=some k) (hk:k.mode=.map) (hm:μ b=some m)
  {k2:JE} (hk2:k2.mode=.map) {x:Obj} (hr:Ie B μ m.c k2 x):
  JZ K B μ (H.set b k2) {w with heap:=w.heap.setIfInBounds m.c x}:=by
 obtain⟨_,hw,_,hB,hK⟩:=h.mp b k m hb hk hm
 have hlt:=(Vo.1 hw).1
 have hlb:=(ZK.1 hb).1
 have Si:∀{c:Nat},c≠m.c→(w.heap.setIfInBounds m.c x)[c]?=w.heap[c]?:=fun hc=>by simp[Ne.symm hc]
 have get:∀{b':Nat}{k':JE},(H.set b k2)[b']?=some k'→∃k'',H[b']?=some k''∧k''.mode=k'.mode∧(b'≠b→k''=k'):=by
  grind
 refine⟨h.base.trans ⟨rfl,rfl,rfl,sM,fun q hq=>Si oM⟩,fun c y hx=>?_,fun b' q m' hb' hd hd' hm'=>?_,fun b1 b2 k1 k2 m1 m2 h1 h2 r1 r2 hne e1 e2=>?_,fun b' q m' hb' hd hm'=>?_⟩
 ·have hne:c≠m.c:=fun e=>by rw[e,hK]at hx;cases hx
  rw[Si hne];exact h.kept c y hx
 ·obtain⟨q',g1,g2,g3⟩:=get hb'
  have hbb:b'≠b:=fun e=>by
   grind
  have:=g3 hbb;subst this
  obtain⟨arr,T,fz,hw',hr'⟩:=h.blk b' q' m' g1 hd hd' hm'
  exact⟨arr,T,fz,by rw[Si (Ne.symm (h.inj b b' k q' m m' hb g1 (.inr hk) hd (Ne.symm hbb) hm hm'))];exact hw',hr'⟩
 ·obtain⟨q1,g1,f1,_⟩:=get h1
  obtain⟨q2,g2,f2,_⟩:=get h2
  exact h.inj b1 b2 q1 q2 m1 m2 g1 g2 (by rw[f1];exact r1) (by rw[f2];exact r2) hne e1 e2
 ·obtain⟨q',g1,g2,g3⟩:=get hb'
  by_cases hbb:b'=b
  ·grind
  ·have:=g3 hbb;subst this
   obtain⟨ob,hw',hr'⟩:=h.mp b' q' m' g1 hd hm'
   exact⟨ob,by rw[Si (Ne.symm (h.inj b b' k q' m m' hb g1 (.inr hk) (by rw[hd];decide) (Ne.symm hbb) hm hm'))];exact hw',hr'⟩
theorem JZ.there{K:Nat→Option Obj}{B:Bs}{μ:Mu}{H:Gb}{w:World}(h:JZ K B μ H w){b:Nat}{k:JE}{m:Z6}(hb:H[b]?=some k) (hd:k.mode≠.dead) (hm:μ b=some m):m.c<w.heap.size:=by
 by_cases hq:k.mode=.map
 ·obtain⟨_,hw,_⟩:=h.mp b k m hb hq hm
  grind
 ·obtain⟨_,_,_,hw,_⟩:=h.blk b k m hb hd hq hm
  grind
theorem JZ.loose{K:Nat→Option Obj}{B:Bs}{μ:Mu}{H:Gb}{w:World}(h:JZ K B μ H w){b:Nat}{k:JE}{m:Z6}(hb:H[b]?=some k) (hd:k.mode=.rw∨k.mode=.map) (hm:μ b=some m):K m.c=none:=by
 rcases hd with hd|hd
 ·obtain⟨_,_,_,_,_,hr,_⟩:=h.blk b k m hb (by rw[hd];decide) (by rw[hd];decide) hm
  exact(hr hd).2.2.2.2.2
 ·obtain⟨_,_,_,_,hK⟩:=h.mp b k m hb hd hm
  exact hK
theorem JZ.Zf{K:Nat→Option Obj}{B:Bs}{μ:Mu}{H:Gb}{w:World}(h:JZ K B μ H w){c:Nat}{o:Obj}(hc:K c=some o)(hB:B.heap.size≤c){b:Nat}{k:JE}{m:Z6}(hb:H[b]?=some k) (hd:k.mode≠.dead) (hm:μ b=some m):m.c≠c:=by
 intro e
 cases hmd:k.mode with
 |rw=>have:=h.loose hb (.inl hmd) hm;rw[e,hc]at this;cases this
 |map=>have:=h.loose hb (.inr hmd) hm;rw[e,hc]at this;cases this
 |ro=>
  obtain⟨_,_,_,_,_,_,hro⟩:=h.blk b k m hb hd (by rw[hmd];decide) hm
  have:=hro hmd;omega
 |dead=>exact hd hmd
end Go.Cs
namespace Go.Cs
open Go Go.RowKit
theorem OU{ν:Mu}{v:Value}{c:CV}(h:Zd v=some c):V ν c v:=by
 unfold Zd at h
 split at h<;>first|(simp only[GA]at h;subst h;simp[V])|cases h
theorem Jd{ν:Mu}{E:Env}{a:Act}{x:Operand}{y:Jy}(h:Ua x=some y)(hE:∀t∈Ja y,V ν (E t) (a.tmps.getD t undef)):V ν (E.ev y) (a.eval x):=by
 cases x with
 |tmp t=>
  simp only[Ua,GA]at h
  subst h
  exact hE t (by simp[Ja])
 |const v=>
  simp only[Ua,GD]at h
  obtain⟨c,hc,rfl⟩:=h
  exact OU hc
 |global g=>cases h
 |func f=>
  simp only[Ua,GA]at h
  subst h
  simp only[Env.ev,Act.eval,V]
  exact⟨#[],rfl,by simp[VL]⟩
theorem Kw{α:Type}:∀{l:List (Option α)}{r:List α},Jt l=some r→r.length=l.length
 |[],r,h=>by simp only[Jt,GA]at h;subst h;rfl
 |none::_,r,h=>by cases h
 |some a::l,r,h=>by
  simp only[Jt,GD]at h
  obtain⟨q,hq,rfl⟩:=h
  simp[Kw hq]
theorem KX{α:Type}:∀{l:List (Option α)}{r:List α},Jt l=some r→∀{i:Nat}{x:α},r[i]?=some x→l[i]?=some (some x)
 |[],r,h,i,x,hx=>by simp only[Jt,GA]at h;subst h;simp at hx
 |none::_,r,h,_,_,_=>by cases h
 |some a::l,r,h,i,x,hx=>by
  simp only[Jt,GD]at h
  obtain⟨q,hq,rfl⟩:=h
  cases i with
  |zero=>simpa using hx
  |succ i=>simpa using KX hq (by simpa using hx)
theorem Uu{ν:Mu}{E:Env}{a:Act}{l:Array Operand}{r:List Jy}(h:XE l=some r)(hE:∀t∈r.flatMap Ja,V ν (E t) (a.tmps.getD t undef)):
  VL ν (r.map E.ev) (l.map a.eval).toList:=by
 unfold XE at h
 refine VL.Aq (by simp[Kw h]) fun i c hc=>?_
 rw[Kr,GD]at hc
 obtain⟨y,hy,rfl⟩:=hc
 have hx:=KX h hy
 rw[Kr,GD]at hx
 obtain⟨x,hx,hxy⟩:=hx
 refine⟨a.eval x,by grind,Jd hxy fun t ht=>hE t ?_⟩
 grind
theorem U7{P:Program}{t:TypeId}{z:List CV}(ν:Mu)(h:zeroOf P t=some z):∃i v,P.info? t=some i∧i.zero=some v∧VL ν z v.cells.toList:=by
 unfold zeroOf at h
 rw[Jk]at h
 obtain⟨i,hi,h⟩:=h
 rw[Jk]at h
 obtain⟨v,hv,h⟩:=h
 refine⟨i,v,hi,hv,VL.Aq (by simp[Kw h]) fun j c hc=>?_⟩
 have hx:=KX h hc
 rw[Kr,GD]at hx
 obtain⟨x,hx,hxy⟩:=hx
 exact⟨x,hx,OU hxy⟩
theorem IV(off:Nat):∀(vs:List Value)(k:Nat)(cs:Array Value),off+k+vs.length≤cs.size→
  ((vs.zipIdx k).foldl (fun cs (c,j)=>cs.setIfInBounds (off+j) c) cs).toList=cs.toList.take (off+k)++vs++cs.toList.drop (off+k+vs.length)
 |[],k,cs,_=>by simp
 |v::vs,k,cs,h=>by
  simp only[List.length_cons]at h
  rw[List.zipIdx_cons,List.foldl_cons,IV off vs (k+1) _ (by simp;omega)]
  have e:=list_seg_step cs.toList (off+k) v vs (by simp;omega)
  grind
theorem Ggh{ν:Mu}{place:Nat→Option (Nat×Nat)}:∀{ps:List (Nat×Value)}{qs:List (Nat×Nat×CV)}{cs zs:List CV}{arr:Array Value},
  qs.length=ps.length→(∀(i:Nat)(q:Nat×Nat×CV),qs[i]?=some q→∃p,ps[i]?=some p∧place p.1=some (q.1,q.2.1)∧V ν q.2.2 p.2)→
  VL ν cs arr.toList→fill cs qs=some zs→∃out,Instr.fill place arr ps=some out∧VL ν zs out.toList
 |[],[],cs,zs,arr,_,_,hv,hf=>by
  simp only[fill,GA]at hf
  subst hf
  exact⟨arr,rfl,hv⟩
 |p::ps,q::qs,cs,zs,arr,hl,h,hv,hf=>by
  obtain⟨off,size,c⟩:=q
  simp only[fill]at hf
  split at hf
  ·rename_i hc
   obtain⟨hc1,hc2⟩:=hc
   obtain⟨p',hp',hpl,hV⟩:=h 0 _ rfl
   simp at hp'
   subst hp'
   obtain⟨i,v⟩:=p
   dsimp only at hpl hV
   have hcl:=hV.cells
   have hlen:v.cells.size=size:=by have:=hcl.length;simp at this;omega
   have hal:arr.size=cs.length:=by have:=hv.length;simpa using this
   simp only[Instr.fill,hpl]
   rw[if_neg (by simp;omega)]
   have Goi:(v.cells.zipIdx.foldl (fun cs x=>cs.setIfInBounds (off+x.2) x.1) arr).toList=arr.toList.take off++v.cells.toList++arr.toList.drop (off+v.cells.toList.length):=by
    have:=IV off v.cells.toList 0 arr (by simp;omega)
    simp only[Nat.add_zero]at this
    rw[←this,←Array.foldl_toList,Array.toList_zipIdx]
   refine Ggh (by simpa using hl) (fun i q hq=>by simpa using h (i+1) q (by simpa using hq)) ?_ hf
   rw[Goi]
   exact hv.splice hcl off
  ·cases hf
 |[],_::_,_,_,_,hl,_,_,_=>by simp at hl
 |_::_,[],_,_,_,hl,_,_,_=>by simp at hl
theorem ZT{P:Program}{ν:Mu}{E:Env}{a:Act}{place:Nat→Option (Nat×Nat)}{parts:Array (Nat×Operand)}{ps:List (Nat×Nat×Jy)}(h:Yq P place parts=some ps)
  (hE:∀t∈ps.flatMap (fun p=>Ja p.2.2),V ν (E t) (a.tmps.getD t undef)){cs zs:List CV}{arr:Array Value}(hv:VL ν cs arr.toList)(hf:fill cs (KM E ps)=some zs):
  ∃out,Instr.fill place arr (parts.map fun x=>(x.1,a.eval x.2)).toList=some out∧VL ν zs out.toList:=by
 unfold Yq at h
 refine Ggh (by simp[KM,Kw h]) (fun i q hq=>?_) hv hf
 simp only[KM,Kr,GD]at hq
 obtain⟨y,hy,rfl⟩:=hq
 have hx:=KX h hy
 rw[Kr,GD]at hx
 obtain⟨x,hx,hxy⟩:=hx
 obtain⟨j,x⟩:=x
 rw[Jk]at hxy
 obtain⟨pl,hpl,hxy⟩:=hxy
 rw[GD]at hxy
 obtain⟨z,hz,rfl⟩:=hxy
 refine⟨(j,a.eval x),by grind,hpl,Jd hz fun t ht=>hE t ?_⟩
 grind
end Go.Cs
namespace Go.Cs
open Go Go.RowKit
structure Streams(w w':World):Prop where
 os:w'.os=w.os
 tape:w'.tape=w.tape
 output:w'.output=w.output
theorem Streams.refl(w:World):Streams w w:=⟨rfl,rfl,rfl⟩
def Ku:Obj→Nat
 |.cells arr _ _=>arr.size
 |_=>0
def Bj(ν:Mu)(blk:JE)(m:Z6)(x:Obj):Prop:=
 (blk.mode=.rw∧m.s=0∧m.GN=blk.GN∧∃arr T,x=.cells arr T∧m.size=arr.size∧blk.cells.length≤arr.size∧∀(i:Nat)(c:CV),blk.cells[i]?=some c→∃v,arr[i]?=some v∧V ν c v)∨
 (blk.mode=.map∧blk.GN=0∧∃es cl,x=.map es cl∧JX ν blk.cells es.toList∧MapKept.Stamped es cl)
theorem Bj.mono{ν ρ:Mu}(h:∀b m,ν b=some m→ρ b=some m){blk:JE}{m:Z6}{x:Obj}(f:Bj ν blk m x):Bj ρ blk m x:=by
 rcases f with⟨h1,h2,h3,arr,T,h4,h5,h6,h7⟩|⟨h1,h0,es,cl,h2,h3⟩
 ·exact .inl ⟨h1,h2,h3,arr,T,h4,h5,h6,fun i c hc=>let ⟨v,k1,k2⟩:=h7 i c hc;⟨v,k1,V.mono h _ _ k2⟩⟩
 ·exact .inr ⟨h1,h0,es,cl,h2,h3.1.mono h,h3.2⟩
theorem Bj.mode{ν:Mu}{blk:JE}{m:Z6}{x:Obj}(f:Bj ν blk m x):blk.mode=.rw∨blk.mode=.map:=by
 rcases f with⟨h1,_⟩|⟨h1,_⟩
 ·exact .inl h1
 ·exact .inr h1
def Vw(P:Program)(s:Sem Next)(w:World)(m:Option JE×(Nat→CV))(ν:Mu):Prop:=
 ∃v' w',s.run P w=.ok (.value v') w'∧Streams w w'∧
  match m.1 with
  |none=>w'.heap=w.heap∧∀k,V ν (m.2 k) v'
  |some blk=>∃x,w'.heap=w.heap.push x∧Bj ν blk ⟨w.heap.size,0,blk.GN,Ku x⟩ x∧
   ∀(ρ:Mu)(k:Nat),(∀b m,ν b=some m→ρ b=some m)→ρ k=some ⟨w.heap.size,0,blk.GN,Ku x⟩→V ρ (m.2 k) v'
theorem Vw.stay{P:Program}{s:Sem Next}{w:World}{f:Nat→CV}{ν:Mu}{v':Value}(h:s.run P w=.ok (.value v') w)(hv:∀k,V ν (f k) v'):Vw P s w (none,f) ν:=
 ⟨v',w,h,.refl w,rfl,hv⟩
theorem Vw.made{P:Program}{s:Sem Next}{w:World}{f:Nat→CV}{ν:Mu}{v':Value}{cells:List CV}{GN:Nat}{arr:Array Value}{T:TypeId}(h:s.run P w=.ok (.value v') (w.alloc (.cells arr T)))
  (hc:VL ν cells arr.toList)(hv:∀(ρ:Mu)(k:Nat),(∀b m,ν b=some m→ρ b=some m)→ρ k=some ⟨w.heap.size,0,GN,arr.size⟩→V ρ (f k) v'):Vw P s w (some ⟨cells,.rw,GN⟩,f) ν:=by
 refine⟨v',_,h,⟨rfl,rfl,rfl⟩,.cells arr T,rfl,.inl ⟨rfl,rfl,rfl,arr,T,rfl,rfl,?_,fun i x hi=>?_⟩,hv⟩
 ·have:=hc.length;simp at this;simp[this]
 ·obtain⟨v,hv,hV⟩:=hc.get hi;exact⟨v,by simpa using hv,hV⟩
section
variable {P : Program} {ν : Mu} {E : Env} {a : Act} {w : World} {H : Gb} {K : Nat → Option Obj} {B : Bs}
theorem BO{t:TypeId}{g:Bool}(h:YG P t=some g):(isAgg t).run P w=.ok g w:=by
 unfold YG at h
 rw[GD]at h
 obtain⟨d,hd,rfl⟩:=h
 simp only[isAgg,Sem.run_bind,run_underlying hd,Result.andThen_ok]
 cases d<;>rfl
theorem Ze{t:TypeId}{n:Nat}(h:sizeT P t=some n):∃i,P.info? t=some i∧i.size=n:=by
 unfold sizeT at h
 simp_all
theorem JC{t:TypeId}{n:Nat}(h:sizeT P t=some n):(sizeOf t).run P w=.ok n w:=by
 obtain⟨i,hi,rfl⟩:=Ze h
 simp[sizeOf,typeInfo,hi]
theorem YT{t:TypeId}{i:TypeInfo}(h:P.info? t=some i):(typeInfo t).run P w=.ok i w:=by simp[typeInfo,h]
theorem Kq{t:TypeId}{i:TypeInfo}{v:Value}(h:P.info? t=some i)(hz:i.zero=some v):(zeroValue t).run P w=.ok v w:=by simp[zeroValue,typeInfo,h,hz]
theorem Js{t e:TypeId}(h:Kv P t=some e):P.underlying t=some (.slice e):=by
 unfold Kv at h
 grind
theorem GI{α:Type}{b:Bool}{x:Option α}{r:α}(h:Qf b x=some r):b=true∧x=some r:=by
 unfold Qf at h
 grind
theorem Mr(hS:JZ K B ν H w){t:TypeId}{g:Bool}{n b o:Nat}(hg:YG P t=some g)(hn:sizeT P t=some n){v:CV}(hl:(if g=true then(JD H b o n).map .agg else QW H b o)=some v){m:Z6}(hm:ν b=some m):
  ∃v',(loadVar t ⟨m.c,m.s+o,none⟩).run P w=.ok v' w∧V ν v v':=by
 simp only[loadVar,Sem.run_bind,BO hg,Result.andThen_ok]
 cases g with
 |true=>
  simp only[if_true,GD]at hl⊢
  obtain⟨cs,hcs,rfl⟩:=hl
  obtain⟨hlen,vs,hvs,hcell⟩:=hS.JD hcs hm
  have hvl:vs.length=n:=by rw[hvs.length,hlen]
  have hr:=run_loadCells_list (P:=P) w ⟨m.c,m.s+o,none⟩ vs (fun j v hv=>by rw[Addr.add_lit];exact hcell j v hv)
  rw[hvl]at hr
  refine⟨.agg vs.toArray,by simp[JC hn,hr],?_⟩
  simp only[V]
  exact⟨_,rfl,by simpa using hvs⟩
 |false=>
  simp only[Bool.false_eq_true,if_false]at hl⊢
  obtain⟨v',hv',hV⟩:=hS.QW hl hm
  exact⟨v',by simp[hv'],hV⟩
theorem GjG{op:BinOp}{t:TypeId}{x y:Operand}{k:IntKind}{p q:Int}{r:CV}(hx:a.eval x=.int k p)(hy:a.eval y=.int k q)(h:Ko op k p q=some r):
  ∃v',(do eqGuard op t x y (a.eval x) (a.eval y);binOp op t (a.eval x) (a.eval y):Sem Value).run P w=.ok v' w∧V ν r v':=by
 rw[hx,hy]
 cases op<;>simp only[Ko]at h
 case quo=>
  split at h
  ·cases h
  ·rename_i h0;simp only[GA]at h;subst h;exact⟨.int k (k.wrap (p.tdiv q)),by simp[binOp,eqGuard,Op.intDiv,h0],by simp[V]⟩
 case rem=>
  split at h
  ·cases h
  ·rename_i h0;simp only[GA]at h;subst h;exact⟨.int k (p.tmod q),by simp[binOp,eqGuard,Op.intDiv,h0],by simp[V]⟩
 all_goals first
  |cases h;done
  |(simp only[GA]at h;subst h;refine⟨_,by simp[binOp,eqGuard,Op.intArith,Op.intCmp,Op.intBits];rfl,?_⟩;simp[V])
theorem GeW{op:BinOp}{t:TypeId}{x y:Operand}{k k':IntKind}{p q:Int}{r:CV}(hx:a.eval x=.int k p)(hy:a.eval y=.int k' q)(h:shiftOp op k p q=some r):
  ∃v',(do eqGuard op t x y (a.eval x) (a.eval y);binOp op t (a.eval x) (a.eval y):Sem Value).run P w=.ok v' w∧V ν r v':=by
 rw[hx,hy]
 unfold shiftOp at h
 split at h
 ·cases h
 ·rename_i h0
  cases op<;>simp only[GA]at h<;>first
   |cases h;done
   |(subst h;refine⟨_,by simp[binOp,eqGuard,Op.shift,h0];rfl,?_⟩;simp[V])
theorem DN(d:Nat)(xs ys:Array Value):∀(fs:List Field)(k:Nat)(cs ds:List CV)(r:Bool),
  (∀i f,fs[i]?=some f→f.name≠ "_" ∧f.offset=k+i∧∃kd,P.underlying f.type=some (.int kd))→
  VL ν cs (xs.toList.drop k)→VL ν ds (ys.toList.drop k)→cs.length=fs.length→Qn cs ds=some r→
  (Op.eqFields (d+1) xs ys fs).run P w=.ok r w
 |[],k,cs,ds,r,_,hx,hy,hl,he=>by
  match cs,ds,hl,he with
  |[],[],_,he=>simp only[Qn,GA]at he;subst he;simp[Op.eqFields]
 |f::fs,k,cs,ds,r,hf,hx,hy,hl,he=>by
  obtain⟨hname,hoff,hty⟩:=hf 0 f rfl
  simp only[Nat.add_zero]at hoff
  match cs,ds,hl with
  |c::cs,[],_=>cases c<;>simp[Qn]at he
  |c::cs,e::ds,hl=>
   have hx1:=hx
   have hy1:=hy
   simp only[VL]at hx1 hy1
   obtain⟨v,xr,hxe,hxv,Pd⟩:=hx1
   obtain⟨u,yr,hye,hyv,hyr⟩:=hy1
   have gx:xs[k]?=some v:=by
    have:(xs.toList.drop k)[0]?=some v:=by rw[hxe];rfl
    simpa[Z7]using this
   have gy:ys[k]?=some u:=by
    have:(ys.toList.drop k)[0]?=some u:=by rw[hye];rfl
    simpa[Z7]using this
   have dx:xs.toList.drop (k+1)=xr:=by rw[←List.drop_drop (i:=1) (j:=k)]<;>simp[hxe,Nat.add_comm]
   have dy:ys.toList.drop (k+1)=yr:=by rw[←List.drop_drop (i:=1) (j:=k)]<;>simp[hye,Nat.add_comm]
   have part:∀(zs:Array Value)(z:Value),zs[k]?=some z→(part f.type zs f.offset).run P w=.ok z w:=by
    intro zs z hz
    have hna:(isAgg f.type).run P w=.ok false w:=by
     obtain⟨kd,h⟩:=hty;simp[isAgg,run_underlying h]
    simp only[Go.part,Sem.run_bind,hna,Result.andThen_ok,Bool.false_eq_true,if_false,hoff,hz,Sem.run_pure]
   have rest:=fun r' (he':Qn cs ds=some r')=>DN d xs ys fs (k+1) cs ds r' (fun i g hg=>by
    have:=hf (i+1) g (by simpa using hg)
    exact⟨this.1,oM,this.2.2⟩) (by rw[dx];exact Pd) (by rw[dy];exact hyr) (by simpa using hl) he'
   simp only[Op.eqFields,hname,ne_eq,not_false_eq_true,if_true,Sem.run_bind,part _ _ gx,part _ _ gy,Result.andThen_ok]
   cases c<;>cases e<;>simp only[Qn]at he<;>try (cases he;done)
   ·rename_i k1 p k2 q
    split at he
    ·rename_i hk
     subst hk
     rw[GD]at he
     obtain⟨r',he',hr⟩:=he
     simp only[V]at hxv hyv
     subst hxv;subst hyv
     obtain⟨kd,h⟩:=hty
     rw[run_equalIn_int w d f.type k1 kd p q h]
     simp only[Result.andThen_ok]
     cases hpq:(p==q)
     ·simp[hpq]at hr;subst hr;simp
     grind
    ·cases he
theorem F_(d:Nat){e:TypeId}(hb:P.underlying e=some .bool)(xs ys:Array Value):∀(n k:Nat)(cs ds:List CV)(r:Bool),
  VL ν cs (xs.toList.drop k)→VL ν ds (ys.toList.drop k)→cs.length=n→VG cs ds=some r→
  (Op.eqItems (d+1) e 1 xs ys (List.range' k n)).run P w=.ok r w
 |0,k,cs,ds,r,hx,hy,hl,he=>by
  match cs,ds,hl,he with
  |[],[],_,he=>simp only[VG,GA]at he;subst he;simp[Op.eqItems]
 |n+1,k,cs,ds,r,hx,hy,hl,he=>by
  match cs,ds,hl with
  |c::cs,[],_=>cases c<;>simp[VG]at he
  |c::cs,g::ds,hl=>
   have hx1:=hx
   have hy1:=hy
   simp only[VL]at hx1 hy1
   obtain⟨v,xr,hxe,hxv,Pd⟩:=hx1
   obtain⟨u,yr,hye,hyv,hyr⟩:=hy1
   have gx:xs[k]?=some v:=by
    have:(xs.toList.drop k)[0]?=some v:=by rw[hxe];rfl
    simpa[Z7]using this
   have gy:ys[k]?=some u:=by
    have:(ys.toList.drop k)[0]?=some u:=by rw[hye];rfl
    simpa[Z7]using this
   have dx:xs.toList.drop (k+1)=xr:=by rw[←List.drop_drop (i:=1) (j:=k)]<;>simp[hxe,Nat.add_comm]
   have dy:ys.toList.drop (k+1)=yr:=by rw[←List.drop_drop (i:=1) (j:=k)]<;>simp[hye,Nat.add_comm]
   have part:∀(zs:Array Value)(z:Value),zs[k]?=some z→(part e zs (k*1)).run P w=.ok z w:=by
    intro zs z hz
    have hna:(isAgg e).run P w=.ok false w:=by simp[isAgg,run_underlying hb]
    simp only[Go.part,Sem.run_bind,hna,Result.andThen_ok,Bool.false_eq_true,if_false,Nat.mul_one,hz,Sem.run_pure]
   have rest:=fun r' (he':VG cs ds=some r')=>F_ d hb xs ys n (k+1) cs ds r' (by rw[dx];exact Pd) (by rw[dy];exact hyr) (by simpa using hl) he'
   simp only[List.range'_succ,Op.eqItems,Sem.run_bind,part _ _ gx,part _ _ gy,Result.andThen_ok]
   cases c<;>cases g<;>simp only[VG]at he<;>try (cases he;done)
   ·rename_i p q
    rw[GD]at he
    obtain⟨r',he',hr⟩:=he
    simp only[V]at hxv hyv
    subst hxv;subst hyv
    rw[run_equalIn_bool w d e p q hb]
    simp only[Result.andThen_ok]
    cases hpq:(p==q)
    ·simp[hpq]at hr;subst hr;simp
    grind
theorem Gjf{t e:TypeId}{n:Nat}{x y:Operand}{cs ds:List CV}{r:Bool}{vx vy:Value}(hu:P.underlying t=some (.array n e))(hb:SK P e=true)(hs:sizeT P e=some 1)(hg:P.eqGuardType P.depth t=false)
  (hx:V ν (.agg cs) vx)(hy:V ν (.agg ds) vy)(he:VG cs ds=some r)(hl:cs.length=n):
  (eqGuard .eql t x y vx vy).run P w=.ok () w∧(eqGuard .neq t x y vx vy).run P w=.ok () w∧
  (binOp .eql t vx vy).run P w=.ok (.bool r) w∧(binOp .neq t vx vy).run P w=.ok (.bool (!r)) w:=by
 have hbu:P.underlying e=some .bool:=by
  unfold SK at hb
  grind
 obtain⟨i,hi,hsz⟩:=Ze hs
 simp only[V]at hx hy
 obtain⟨xs,rfl,hxs⟩:=hx
 obtain⟨ys,rfl,hys⟩:=hy
 have hc:P.cellsOf e=1:=by simp[Program.cellsOf,hi,hsz]
 have heq:(Op.equalIn 10000 t (.agg xs) (.agg ys)).run P w=.ok r w:=by
  rw[show(10000:Nat)=9999+1 from rfl,run_equalIn_array w 9999 xs ys hu hi,hc,List.range_eq_range']
  exact F_ 9998 hbu xs ys n 0 cs ds r (by simpa using hxs) (by simpa using hys) hl he
 exact⟨run_eqGuard_agg w .eql t x y xs ys hg,run_eqGuard_agg w .neq t x y xs ys hg,by rw[run_eql_struct,heq];rfl,by rw[run_neq_struct,heq];rfl⟩
theorem Gao{t:TypeId}(h:YZ P t=true):∃fs,P.underlying t=some (.struct fs)∧P.stoodInHeld t=false∧P.eqGuardType P.depth t=false∧
  ∀i f,fs.toList[i]?=some f→f.name≠ "_" ∧f.offset=0+i∧∃kd,P.underlying f.type=some (.int kd):=by
 unfold YZ at h
 split at h
 ·rename_i fs hu
  simp only[NH,Bool.not_eq_true']at h
  obtain⟨⟨h1,h2⟩,h3⟩:=h
  refine⟨fs,hu,h1,h2,fun i f hf=>?_⟩
  rw[List.all_eq_true]at h3
  have hm:(f,i)∈fs.toList.zipIdx:=by
   grind
  grind
 ·cases h
theorem Tv{t:TypeId}{x y:Operand}{cs ds:List CV}{r:Bool}{vx vy:Value}(hf:YZ P t=true)(hx:V ν (.agg cs) vx)(hy:V ν (.agg ds) vy)(he:Qn cs ds=some r)(hl:∃fs,P.underlying t=some (.struct fs)∧cs.length=fs.size):
  (eqGuard .eql t x y vx vy).run P w=.ok () w∧(eqGuard .neq t x y vx vy).run P w=.ok () w∧
  (binOp .eql t vx vy).run P w=.ok (.bool r) w∧(binOp .neq t vx vy).run P w=.ok (.bool (!r)) w:=by
 obtain⟨fs,hu,h1,h2,h3⟩:=Gao hf
 simp only[V]at hx hy
 obtain⟨xs,rfl,hxs⟩:=hx
 obtain⟨ys,rfl,hys⟩:=hy
 obtain⟨fs',hu',hlen⟩:=hl
 rw[hu]at hu'
 simp only[GA,TypeDesc.struct.injEq]at hu'
 subst hu'
 have hfo:P.fieldsOf t=fs:=by simp[Program.fieldsOf,hu]
 have hrun:=DN (P:=P) (w:=w) 9998 xs ys fs.toList 0 cs ds r h3 (by simpa using hxs) (by simpa using hys) (by simpa using hlen) he
 have heq:(Op.equalIn 10000 t (.agg xs) (.agg ys)).run P w=.ok r w:=by
  rw[show(10000:Nat)=9999+1 from rfl,run_equalIn_agg w 9999 t xs ys (by rw[hfo];exact hu) h1,hfo]
  exact hrun
 exact⟨run_eqGuard_agg w .eql t x y xs ys h2,run_eqGuard_agg w .neq t x y xs ys h2,by rw[run_eql_struct,heq];rfl,by rw[run_neq_struct,heq];rfl⟩
end
end Go.Cs
namespace Go.Cs
open Go Go.RowKit
theorem wrap_small{n:Int}(h:0≤n)(h':n≤16777216):IntKind.i64.wrap n=n:=by
 have e:n % (2 ^ 64:Int)=n:=by omega
 simp only[IntKind.wrap,IntKind.bits,IntKind.signed,e]
 grind
section
variable {P : Program} {ν : Mu} {E : Env} {a : Act} {w : World} {H : Gb} {K : Nat → Option Obj} {B : Bs}
theorem U_{x:Operand}{y:Jy}(h:Ua x=some y)(hE:∀t∈Ja y,V ν (E t) (a.tmps.getD t undef)){m m' r:Nat}{code:BoundsCode}(hb:bound E y m=some r)(hm:m≤m'):
  (Instr.sliceBound (a.eval x) m' code).run P w=.ok r w∧r≤m:=by
 have hv:=Jd h hE
 unfold bound at hb
 split at hb
 ·rename_i k i he
  split at hb
  ·rename_i hc
   simp only[GA]at hb
   subst hb
   rw[he]at hv
   simp only[V]at hv
   rw[hv]
   have:0≤i∧i≤(m':Int):=⟨hc.1,oM⟩
   exact⟨by simp[Instr.sliceBound,asIntOf,this],oM⟩
  ·cases hb
 ·cases hb
theorem Um{x:Option Operand}{y:Option Jy}(h:Ih x=some y):(x=none∧y=none)∨∃p q,x=some p∧y=some q∧Ua p=some q:=by
 cases x with
 |none=>simp only[Ih,GA]at h;exact .inl ⟨rfl,h.symm⟩
 |some p=>
  simp only[Ih,GD]at h
  grind
theorem Bn{lo hi mx:Option Operand}{lo' hi' mx':Option Jy}{len cap cap':Nat}{r:Nat×Nat×Nat}(hlo:Ih lo=some lo')(hhi:Ih hi=some hi')(hmx:Ih mx=some mx')
  (hE:∀t∈Nq lo'++Nq hi'++Nq mx',V ν (E t) (a.tmps.getD t undef))(hl:len≤cap)(hc:cap≤cap')(h:Ay E len cap lo' hi' mx'=some r):
  (Instr.sliceBounds true len cap' (lo.map a.eval) (hi.map a.eval) (mx.map a.eval)).run P w=.ok (r.1,r.2.1,if mx'.isSome then r.2.2 else cap') w∧r.1≤r.2.1∧r.2.1≤r.2.2∧r.2.2≤cap∧(mx'.isSome=false→r.2.2=cap):=by
 have El:∀q,lo'=some q→∀t∈Ja q,V ν (E t) (a.tmps.getD t undef):=fun q hq t ht=>hE t (by simp[hq,Nq,ht])
 have Eh:∀q,hi'=some q→∀t∈Ja q,V ν (E t) (a.tmps.getD t undef):=fun q hq t ht=>hE t (by simp[hq,Nq,ht])
 have Em:∀q,mx'=some q→∀t∈Ja q,V ν (E t) (a.tmps.getD t undef):=fun q hq t ht=>hE t (by simp[hq,Nq,ht])
 unfold Ay at h
 split at h
 ·cases h
 ·rename_i hmh
  rw[Jk]at h
  obtain⟨m,hm,h⟩:=h
  rw[Jk]at h
  obtain⟨hh,hhh,h⟩:=h
  rw[Jk]at h
  obtain⟨l,hll,h⟩:=h
  simp only[GA]at h
  subst h
  unfold Instr.sliceBounds
  rcases Um hmx with⟨rfl,rfl⟩|⟨pm,qm,rfl,rfl,hpm⟩
  ·simp only[Aa,GA]at hm
   subst hm
   rcases Um hhi with⟨rfl,rfl⟩|⟨ph,qh,rfl,rfl,hph⟩
   ·simp only[Aa,GA]at hhh
    subst hhh
    rcases Um hlo with⟨rfl,rfl⟩|⟨pl,ql,rfl,rfl,hpl⟩
    ·simp only[Aa,GA]at hll
     subst hll
     simp;omega
    ·obtain⟨r1,r2⟩:=U_ (P:=P) (w:=w) (code:=.sliceB) hpl (El _ rfl) hll (Nat.le_refl _)
     simp[r1];omega
   ·obtain⟨h1,h2⟩:=U_ (P:=P) (w:=w) (code:=.sliceAcap) hph (Eh _ rfl) hhh hc
    rcases Um hlo with⟨rfl,rfl⟩|⟨pl,ql,rfl,rfl,hpl⟩
    ·simp only[Aa,GA]at hll
     subst hll
     simp[h1];omega
    ·obtain⟨r1,r2⟩:=U_ (P:=P) (w:=w) (code:=.sliceB) hpl (El _ rfl) hll (Nat.le_refl _)
     simp[h1,r1];omega
  ·obtain⟨m1,m2⟩:=U_ (P:=P) (w:=w) (code:=.slice3Acap) hpm (Em _ rfl) hm hc
   rcases Um hhi with⟨rfl,rfl⟩|⟨ph,qh,rfl,rfl,hph⟩
   ·simp at hmh
   ·obtain⟨h1,h2⟩:=U_ (P:=P) (w:=w) (code:=.slice3B) hph (Eh _ rfl) hhh (Nat.le_refl _)
    rcases Um hlo with⟨rfl,rfl⟩|⟨pl,ql,rfl,rfl,hpl⟩
    ·simp only[Aa,GA]at hll
     subst hll
     simp[m1,h1];omega
    ·obtain⟨r1,r2⟩:=U_ (P:=P) (w:=w) (code:=.slice3C) hpl (El _ rfl) hll (Nat.le_refl _)
     simp[m1,h1,r1];omega
theorem Gd1{t e:TypeId}{n:Nat}{x:Operand}{y:Jy}{lo hi mx:Option Operand}{lo' hi' mx':Option Jy}{r:CV}
  (hu:P.underlying t=some (.slice e))(hn:sizeT P e=some n)(hx:Ua x=some y)(hlo:Ih lo=some lo')(hhi:Ih hi=some hi')(hmx:Ih mx=some mx')
  (hE:∀t∈Kc.tmps (.slice n y lo' hi' mx'),V ν (E t) (a.tmps.getD t undef))(h:sliceTo E n (E.ev y) lo' hi' mx'=some r):
  ∃v',(Instr.sliceAt t (a.eval x) (lo.map a.eval) (hi.map a.eval) (mx.map a.eval)).run P w=.ok v' w∧V ν r v':=by
 have hv:=Jd hx (fun t ht=>hE t (by simp[Kc.tmps,ht]))
 have hE':∀t∈Nq lo'++Nq hi'++Nq mx',V ν (E t) (a.tmps.getD t undef):=fun t ht=>hE t (by simp[Kc.tmps]at ht⊢;rcases ht with h|h|h<;>simp[h])
 generalize E.ev y=cy at*
 unfold sliceTo at h
 simp only[Instr.sliceAt,Sem.run_bind,run_underlying hu,Result.andThen_ok,Instr.slice]
 split at h
 ·simp only[V]at hv
  rw[hv]
  rw[GD]at h
  obtain⟨q,hq,rfl⟩:=h
  obtain⟨hr,h1,h2,h3,h4⟩:=Bn (P:=P) (w:=w) (cap':=0) hlo hhi hmx hE' (Nat.le_refl 0) (Nat.le_refl 0) hq
  have e1:q.2.2=0:=by omega
  have e2:q.2.1=0:=by omega
  have e3:q.1=0:=by omega
  refine⟨.slice none 0 0,?_,by simp[V]⟩
  simp[hr,JC hn,e1,e2,e3]
 ·rename_i b o len cap e' tail
  split at h
  ·rename_i hlc
   obtain⟨rfl,hlc⟩:=hlc
   rw[GD]at h
   obtain⟨q,hq,rfl⟩:=h
   simp only[V]at hv
   obtain⟨m,cap',off,hb,hez,he,hlen,htail,hoff,hfit⟩:=hv
   have hcc:cap≤cap':=by split at htail<;>omega
   obtain⟨hr,h1,h2,h3,h4⟩:=Bn (P:=P) (w:=w) hlo hhi hmx hE' hlc hcc hq
   rw[he]
   generalize hM:(if mx'.isSome=true then q.2.2 else cap')=M at hr
   have hMc:M≤cap':=by rw[←hM];split<;>omega
   have hMh:q.2.1≤M:=by rw[←hM];split<;>omega
   refine⟨.slice (if M=q.1 then some ⟨m.c,off,none⟩else some ((⟨m.c,off,none⟩:Addr).add (q.1*e'))) (q.2.1-q.1) (M-q.1),by simp[hr,JC hn],?_⟩
   simp only[V]
   rcases Nat.eq_or_lt_of_le (J2 h1 hMh)with heq|hlt
   ·refine⟨m,0,off,hb,hez,by grind,oM,?_,.inl rfl,?_⟩
    ·grind
    omega
   ·have hcap0:0<cap':=by omega
    have ZI:off=m.s+o:=by rcases hoff with h|h<;>omega
    refine⟨m,M-q.1,off+q.1*e',hb,hez,by rw[if_neg oM];simp[Addr.add_lit],oM,?_,.inr (by rw[ZI];omega),?_⟩
    ·split
     ·grind
     ·rename_i ht
      cases Gj5:mx'.isSome with
      |true=>rw[Gj5]at hM;simp at hM;omega
      |false=>
       rw[Gj5]at hM
       simp at hM
       have h5:=h4 Gj5
       have:tail=false:=by
        cases tail
        ·rfl
        ·simp at ht;simp[ht]at Gj5
       grind
    ·rw[hez]at hfit⊢
     have:q.1*e'+(M-q.1)*e'=M*e':=by rw[←Nat.add_mul];congr 1;omega
     have h6:M*e'≤cap'*e':=Nat.mul_le_mul_right _ hMc
     omega
  ·cases h
 ·cases h
end
end Go.Cs
namespace Go.Cs
open Go Go.RowKit
theorem nextslicecap_le{need old:Nat}(h:old<need):Builtin.nextslicecap need old≤2*need+1024:=by
 unfold Builtin.nextslicecap
 split
 ·omega
 ·split
  ·omega
  ·rw[growBy_four]
   repeat' split
   all_goals omega
theorem EA{P:Program}{w w':World}{s:Sem Value}{v:Value}(h:s.run P w=.ok v w'):(do pure (.value (←s)):Sem Next).run P w=.ok (.value v) w':=by simp[h]
section
variable {P : Program} {ν : Mu} {E : Env} {a : Act} {w : World} {H : Gb} {K : Nat → Option Obj} {B : Bs}
structure GeF(P:Program)(t u:TypeId)(n:Nat)(e:TypeId)(i:TypeInfo)(z:Value):Prop where
 ht:P.underlying t=some (.slice e)
 hu:∃e',P.underlying u=some (.slice e')
 hi:P.info? e=some i
 hz:i.zero=some z
 hn:i.size=n
 hzl:z.cells.size=n
 hb:i.bytes≤4096
 hpos:0<n
theorem ZG{t u ty e:TypeId}{n:Nat}{i:TypeInfo}{z:Value}(hT:GeF P t u n e i z){base:Option Addr}{sLen sCap:Nat}{x:Value}{k:Nat}{old new:Array Value}(hx:(Builtin.lenOf x).run P w=.ok k w)
  (hgrow:sCap<sLen+k)(hmax:sLen+k≤J9)(hold:∀w',w'.heap=w.heap→(Builtin.firstCells n sLen (.slice base sLen sCap)).run P w'=.ok old w')
  (hnew:∀w',w'.heap=w.heap→(Builtin.firstCells n k x).run P w'=.ok new w')(hos:old.size=sLen*n)(hns:new.size=k*n):
  ∃cap' rest,(Builtin.append_ #[t,u] ty #[.slice base sLen sCap,x]).run P w=.ok (.slice (some ⟨w.heap.size,0,none⟩) (sLen+k) cap') (w.drew.alloc (.cells (old++new++rest) e))∧
   sLen+k≤cap'∧(old++new++rest).size=cap'*n:=by
 obtain⟨e',hu⟩:=hT.hu
 have hd:∀w',w'.heap=w.heap→(Builtin.firstCells n sLen (.slice base sLen sCap)).run P w'=.ok old w':=hold
 have h1:=hold w.drew rfl
 have h2:=hnew w.drew rfl
 have hcap:=nextslicecap_le hgrow
 have hbig:¬(Builtin.nextslicecap (sLen+k) sCap*i.bytes>2 ^ 48):=by
  have:Builtin.nextslicecap (sLen+k) sCap*i.bytes≤(2*(sLen+k)+1024)*4096:=Nat.mul_le_mul hcap hT.hb
  simp only[J9]at hmax
  omega
 have hmx:¬((IntKind.i64.max:Int)<(sLen:Int)+(k:Int)):=by
  have:IntKind.i64.max=9223372036854775807:=by decide
  simp only[J9]at hmax
  omega
 refine⟨sLen+k+w.tape w.drawn (.appendCap (sLen+k) sCap e) % (2 ^ 63-(sLen+k)),Builtin.zeroCells z.cells (sLen+k+w.tape w.drawn (.appendCap (sLen+k) sCap e) % (2 ^ 63-(sLen+k))-(sLen+k)),?_,oM,?_⟩
 ·have hng:¬(sLen+k≤sCap):=by omega
  simp[Builtin.append_,run_underlying hT.ht,run_underlying hu,sizeOf,typeInfo,hT.hi,hx,hng,hmx,hT.hn,Question.forced,Question.cut,h1,h2,zeroValue,hT.hz,hbig]
  rw[if_neg (by simp only[J9]at hmax;omega)]
  simp[newRow]
  all_goals rfl
 ·simp only[Array.size_append,hos,hns,size_zeroCells,hT.hzl,←Nat.add_mul]
  congr 1
  omega
theorem Rf{c:CV}{v:Value}(h:V ν c v){GN:Nat}{q:Nat×List CV}(he:elems H GN c=some q):(Builtin.lenOf v).run P w=.ok q.1 w:=by
 unfold elems at he
 split at he
 ·simp only[GA]at he;subst he
  simp only[V]at h;subst h;simp[Builtin.lenOf]
 ·simp only[V]at h
  obtain⟨m,c',off,hb,_,rfl,_⟩:=h
  split at he
  ·rename_i h0;simp only[GA]at he;subst he;subst h0;simp[Builtin.lenOf]
  ·rw[GD]at he
   obtain⟨cs,_,rfl⟩:=he
   simp[Builtin.lenOf]
 ·cases he
theorem A7(hS:JZ K B ν H w){c:CV}{v:Value}(h:V ν c v){GN:Nat}{q:Nat×List CV}(he:elems H GN c=some q):
  ∃new:Array Value,VL ν q.2 new.toList∧new.size=q.1*GN∧∀w',w'.heap=w.heap→(Builtin.firstCells GN q.1 v).run P w'=.ok new w':=by
 unfold elems at he
 split at he
 ·simp only[GA]at he;subst he
  simp only[V]at h;subst h
  exact⟨#[],by simp[VL],sM,fun w' _=>run_firstCells_none w' _ _ _ _⟩
 ·simp only[V]at h
  obtain⟨m,c',off,hb,_,rfl,hl,_,ho,_⟩:=h
  split at he
  ·rename_i h0;simp only[GA]at he;subst he;subst h0
   refine⟨#[],by simp[VL],sM,fun w' _=>?_⟩
   exact run_firstCells_some w' GN 0 _ _ _ [] sM sM
  ·rename_i h0
   rw[GD]at he
   obtain⟨cs,hcs,rfl⟩:=he
   obtain⟨hlen,vs,hvs,hcell⟩:=hS.JD hcs hb
   have hoff:=ho.resolve_left oM
   refine⟨vs.toArray,by simpa using hvs,by simp[hvs.length,hlen],fun w' hw'=>?_⟩
   refine run_firstCells_some w' GN _ _ _ _ vs (by rw[hvs.length,hlen]) fun j u hu=>?_
   rw[Addr.add_lit,hoff]
   have:=hcell j u hu
   simp only[World.cell?]at this⊢
   rw[hw']
   exact this
 ·cases he
theorem Ec(hS:JZ K B ν H w){t u ty e:TypeId}{n:Nat}{i:TypeInfo}{z:Value}(hT:GeF P t u n e i z){s x:CV}{sv xv:Value}(hs:V ν s sv)(hx:V ν x xv){q:Nat×List CV}(he:elems H n x=some q)
  {m:Option JE×(Nat→CV)}(h:NQ H n s q.1 q.2=some m):Vw P (do pure (.value (←Builtin.append_ #[t,u] ty #[sv,xv]))) w m ν:=by
 have hlen:=Rf (P:=P) (w:=w) hx he
 obtain⟨new,Wl,hns,hnew⟩:=A7 (P:=P) hS hx he
 obtain⟨e',hu⟩:=hT.hu
 have stay:∀(base:Option Addr)(l c:Nat),q.1=0→sv=.slice base l c→l≤c→(Builtin.append_ #[t,u] ty #[sv,xv]).run P w=.ok sv w:=by
  intro base l c h0 hsv hlc
  have hn0:=hnew w rfl
  rw[h0]at hn0
  have hnz:new=#[]:=by rw[h0]at hns;simp at hns;exact hns
  rw[hnz]at hn0
  cases base<;>simp[Builtin.append_,run_underlying hT.ht,run_underlying hu,sizeOf,typeInfo,hT.hi,hlen,h0,hsv,hlc,hT.hn,hn0,storeCells]
 unfold NQ at h
 split at h
 ·simp only[V]at hs
  split at h
  ·rename_i h0
   simp only[GA]at h;subst h
   refine Vw.stay (v':=sv) ?_ (fun _=>by simp only[V];exact hs)
   simp_all
  ·rename_i h0
   split at h
   ·rename_i hmax
    simp only[GA]at h;subst h
    subst hs
    obtain⟨cap',rest,hr,hge,hsz⟩:=ZG (P:=P) (w:=w) (ty:=ty) (base:=none) (sLen:=0) (sCap:=0) (old:=#[]) hT hlen oM oM (fun w' _=>run_firstCells_none w' _ _ _ _) hnew sM hns
    refine⟨_,_,EA hr,⟨rfl,rfl,rfl⟩,.cells _ e,rfl,.inl ⟨rfl,rfl,rfl,_,e,rfl,rfl,?_,fun j c hj=>?_⟩,fun ρ k hρ hk=>?_⟩
    ·dsimp only
     rw[hsz]
     have:=Wl.length
     grind
    ·obtain⟨v,hv,hV⟩:=Wl.get hj
     grind
    ·simp only[V]
     refine⟨_,cap',0,hk,rfl,sM,oM,by simp;omega,.inr sM,?_⟩
     dsimp only[Ku]
     rw[hsz]
     omega
   ·cases h
 ·rename_i b o len cap ez tail
  simp only[V]at hs
  obtain⟨mm,cap',off,hb,hez,hsv,hl,htail,hoff,hfit⟩:=hs
  split at h
  ·rename_i h0
   simp only[GA]at h;subst h
   refine Vw.stay (v':=sv) ?_ (fun _=>by simp only[V];grind)
   simp[stay _ _ _ h0 hsv hl]
  ·rename_i h0
   split at h
   ·rename_i hc
    obtain⟨rfl,hcl,hmax⟩:=hc
    simp only[Bool.false_eq_true,if_false]at htail
    subst htail
    rw[GD]at h
    obtain⟨Gpd,hold,rfl⟩:=h
    have:∃old:Array Value,VL ν Gpd old.toList∧old.size=len*n∧∀w',w'.heap=w.heap→(Builtin.firstCells n len sv).run P w'=.ok old w':=by
     have he':elems H n (.slice b o len cap' ez false)=some (len,Gpd):=by
      unfold elems
      grind
     exact A7 (P:=P) hS (by simp only[V];grind) he'
    obtain⟨old,hov,hos,WB⟩:=this
    rw[hsv]at WB⊢
    obtain⟨cap2,rest,hr,hge,hsz⟩:=ZG (P:=P) (w:=w) (ty:=ty) hT hlen hcl hmax WB hnew hos hns
    refine⟨_,_,EA hr,⟨rfl,rfl,rfl⟩,.cells _ e,rfl,.inl ⟨rfl,rfl,rfl,_,e,rfl,rfl,?_,fun j c hj=>?_⟩,fun ρ k hρ hk=>?_⟩
    ·dsimp only
     rw[hsz,Qi,←hov.length,←Wl.length]
     grind
    ·obtain⟨v,hv,hV⟩:=(hov.append Wl).get hj
     grind
    ·simp only[V]
     refine⟨_,cap2,0,hk,rfl,sM,hge,by simp;exact hge,.inr sM,?_⟩
     dsimp only[Ku]
     rw[hsz]
     omega
   ·cases h
 ·cases h
end
end Go.Cs
namespace Go.Cs
open Go Go.RowKit
section
variable {P : Program} {ν : Mu} {E : Env} {a : Act} {w : World} {H : Gb} {K : Nat → Option Obj} {B : Bs}
theorem Ve{t:TypeId}{q:IntKind×CV}(h:EM P t=some q):∃k e i v,P.underlying t=some (.map k e)∧P.underlying k=some (.int q.1)∧P.info? e=some i∧i.zero=some v∧Zd v=some q.2:=by
 unfold EM at h
 split at h
 ·rename_i k e hu
  split at h
  ·rename_i kd v hk hz
   rw[GD]at h
   obtain⟨z,hz',rfl⟩:=h
   rw[Jk]at hz
   grind
  ·cases h
 ·cases h
theorem JX.length:∀{cs:List CV}{es:List MapEntry},JX ν cs es→es.length=cs.length
 |[],es,e=>by simp only[JX]at e;subst e;rfl
 |c::cs,es,e=>by
  obtain⟨k,n,v,x,rest,rfl,rfl,h3,h4,h5,h6⟩:=e
  simp[JX.length h6]
theorem AA{kd:IntKind}{n:Int}:∀{cs:List CV}{es:List MapEntry}{i:Nat}{r:Option (Nat×CV)},JX ν cs es→UA kd n cs i=some r→
  match r with
  |none=>Instr.findNow (.int kd) (.int kd n) es i=some none
  |some (j,v)=>∃u,Instr.findNow (.int kd) (.int kd n) es i=some (some (j,u))∧V ν v u∧i≤j∧∃x,es[j-i]?=some x∧x.key=.int kd n
 |[],es,i,r,hr,h=>by
  simp only[JX]at hr
  subst hr
  simp only[UA,GA]at h
  subst h
  rfl
 |c::cs,es,i,r,hr,h=>by
  obtain⟨k,m,v,x,rest,rfl,rfl,h3,h4,h5,h6⟩:=hr
  simp only[UA]at h
  split at h
  ·rename_i hk
   subst hk
   split at h
   ·rename_i he
    simp only[GA]at h
    subst h
    have hnm:n=m:=by simpa using he
    refine⟨x.val,?_,h4,Nat.le_refl _,x,sM,by rw[h3,hnm]⟩
    simp[Instr.findNow,h3,Instr.sameNow,he]
   ·rename_i he
    have he':(n==m)=false:=by simpa using he
    have ih:=AA h6 h
    have step:Instr.findNow (.int kd) (.int kd n) (x::rest) i=Instr.findNow (.int kd) (.int kd n) rest (i+1):=by
     simp[Instr.findNow,h3,Instr.sameNow,he']
    grind
  ·cases h
theorem MQ{kd:IntKind}{n:Int}:∀{cs:List CV}{es:List MapEntry}{i:Nat},JX ν cs es→UA kd n cs i=some none→∀x∈es,x.key≠.int kd n
 |[],es,i,hr,h=>by simp only[JX]at hr;subst hr;simp
 |c::cs,es,i,hr,h=>by
  obtain⟨k,m,v,x,rest,rfl,rfl,h3,h4,h5,h6⟩:=hr
  simp only[UA]at h
  split at h
  ·rename_i hk
   split at h
   ·cases h
   ·rename_i he
    intro y hy
    rcases List.mem_cons.1 hy with rfl|hy
    ·grind
    ·exact MQ h6 h y hy
  ·cases h
theorem VI(hS:JZ K B ν H w){c:CV}{v:Value}(h:V ν c v){es:List CV}(he:entriesOf H c=some es):
  (v=.map none∧es=[])∨∃b m k xs cl,c=.GJ b∧ν b=some m∧H[b]?=some k∧(k.mode=.map∧k.GN=0)∧QN k.cells=es∧v=.map (some m.c)∧w.heap[m.c]?=some (.map xs cl)∧JX ν es xs.toList∧MapKept.Stamped xs cl:=by
 unfold entriesOf at he
 split at he
 ·simp only[V]at h
  grind
 ·rename_i b
  simp only[V]at h
  obtain⟨m,hm,rfl⟩:=h
  split at he
  ·rename_i k hk
   split at he
   ·rename_i hd
    simp only[GA]at he
    obtain⟨ob,hw,Yi,_⟩:=hS.mp b k m hk hd.1 hm
    obtain⟨xs,cl,rfl,hr,hst,-⟩:=Yi.map hd.2
    grind
   ·cases he
  ·cases he
 ·cases he
theorem Gcf(hS:JZ K B ν H w){c:CV}{v:Value}(h:V ν c v){es:List CV}(he:entriesOf H c=some es){t k e ty:TypeId}(hu:P.underlying t=some (.map k e)):
  (Builtin.len_ #[t] ty #[v]).run P w=.ok (.int .i64 es.length) w:=by
 rcases VI hS h he with⟨rfl,rfl⟩|⟨b,m,q,xs,cl,rfl,hm,hq,hd,hes,rfl,hw,hr,-⟩
 ·simp[Builtin.len_,run_underlying hu,goInt]
 ·have hl:xs.size=es.length:=by simpa using hr.length
  simp[Builtin.len_,run_underlying hu,MapKept.run_getObj_map hw,goInt,hl]
theorem Gb8(hS:JZ K B ν H w){c x:CV}{v u:Value}(h:V ν c v)(hx:V ν x u){t:TypeId}{q:IntKind×CV}(hq:EM P t=some q){ok:Bool}{r:CV}(hr:Qm H ok q.1 q.2 c x=some r):
  ∃v',(Instr.lookup t v u ok).run P w=.ok v' w∧V ν r v':=by
 obtain⟨kt,e,i,z,hu,hk,hi,hz,hzl⟩:=Ve hq
 unfold Qm at hr
 split at hr
 ·rename_i k' n
  split at hr
  ·rename_i hkk
   subst hkk
   rw[Jk]at hr
   obtain⟨es,hes,hr⟩:=hr
   rw[GD]at hr
   obtain⟨f,hf,hr⟩:=hr
   simp only[V]at hx
   subst hx
   have ck:∀b,(Instr.checkKey b 10000 kt (.int q.1 n)).run P w=.ok () w:=fun b=>MapKept.run_checkKey hk (by simp[MapKept.IsKey]) b 9999
   have main:∀xs:Array MapEntry,JX ν es xs.toList→(∀s:Array MapEntry→Sem Value,True)→
     ∃v',(do
      Instr.checkKey xs.isEmpty 10000 kt (.int q.1 n)
      let (v,ok')←match←Instr.findKey kt (.int q.1 n) xs.toList with
       |some (_,v)=>pure (v,true)
       |none=>pure (←zeroValue e,false)
      pure (if ok then .tuple #[v,.bool ok']else v):Sem Value).run P w=.ok v' w∧V ν r v':=by
    intro xs hR _
    have hfr:=AA hR hf
    cases f with
    |none=>
     simp only at hfr hr
     have hfk:=MapKept.run_findKey (w:=w) hk hfr
     have hzV:V ν q.2 z:=OU hzl
     cases ok with
     |true=>
      simp only[if_true]at hr
      subst hr
      exact⟨.tuple #[z,.bool false],by simp[ck,hfk,Kq hi hz],by simp[V,VL,hzV]⟩
     |false=>
      simp only[Bool.false_eq_true,if_false]at hr
      subst hr
      exact⟨z,by simp[ck,hfk,Kq hi hz],hzV⟩
    |some p=>
     obtain⟨j,vv⟩:=p
     simp only at hfr hr
     obtain⟨uu,hfr,hV,_⟩:=hfr
     have hfk:=MapKept.run_findKey (w:=w) hk hfr
     cases ok with
     |true=>
      simp only[if_true]at hr
      subst hr
      exact⟨.tuple #[uu,.bool true],by simp[ck,hfk],by simp[V,VL,hV]⟩
     |false=>
      simp only[Bool.false_eq_true,if_false]at hr
      subst hr
      exact⟨uu,by simp[ck,hfk],hV⟩
   rcases VI hS h hes with⟨rfl,rfl⟩|⟨b,m,kk,xs,cl,rfl,hm,hq',hd,hes',rfl,hw,hR,-⟩
   ·obtain⟨v',h1,h2⟩:=main #[] rfl (fun _=>trivial)
    refine⟨v',?_,h2⟩
    simp only[Instr.lookup,Sem.run_bind,run_underlying hu,Result.andThen_ok,Sem.run_pure]at h1⊢
    exact h1
   ·obtain⟨v',h1,h2⟩:=main xs hR (fun _=>trivial)
    refine⟨v',?_,h2⟩
    simp only[Instr.lookup,Sem.run_bind,run_underlying hu,Result.andThen_ok,Sem.run_pure,MapKept.run_getObj_map hw]at h1⊢
    exact h1
  ·cases hr
 ·cases hr
theorem JX.modify{k:IntKind}{n:Int}{y:CV}{f:MapEntry→MapEntry}(hf:∀e,(f e).key=.int k n∧V ν y (f e).val)(hy:Cs.leaf y=true):
  ∀{cs:List CV}{es:List MapEntry}{i:Nat},JX ν cs es→i<cs.length→JX ν (cs.set i (.Jj [.int k n,y])) (es.modify i f)
 |[],_,_,_,h=>by simp at h
 |c::cs,es,i,hr,h=>by
  obtain⟨k',m,v,x,rest,rfl,rfl,h3,h4,h5,h6⟩:=hr
  cases i with
  |zero=>exact⟨k,n,y,f x,rest,rfl,sM,(hf x).1,(hf x).2,hy,h6⟩
  |succ i=>exact⟨k',m,v,x,rest.modify i f,rfl,sM,h3,h4,h5,JX.modify hf hy h6 (by simpa using h)⟩
theorem JX.push{k:IntKind}{n:Int}{y:CV}{e:MapEntry}(hk:e.key=.int k n)(hv:V ν y e.val)(hy:Cs.leaf y=true):
  ∀{cs:List CV}{es:List MapEntry},JX ν cs es→JX ν (cs++[.Jj [.int k n,y]]) (es++[e])
 |[],es,hr=>by simp only[JX]at hr;subst hr;exact⟨k,n,y,e,[],rfl,rfl,hk,hv,hy,rfl⟩
 |c::cs,es,hr=>by
  obtain⟨k',m,v,x,rest,rfl,rfl,h3,h4,h5,h6⟩:=hr
  exact⟨k',m,v,x,rest++[e],rfl,rfl,h3,h4,h5,JX.push hk hv hy h6⟩
theorem JX.erase:∀{cs:List CV}{es:List MapEntry}(i:Nat),JX ν cs es→JX ν (cs.eraseIdx i) (es.eraseIdx i)
 |[],es,i,hr=>by simp only[JX]at hr;subst hr;simp[JX]
 |c::cs,es,i,hr=>by
  obtain⟨k',m,v,x,rest,rfl,rfl,h3,h4,h5,h6⟩:=hr
  cases i with
  |zero=>simpa using h6
  |succ i=>exact⟨k',m,v,x,rest.eraseIdx i,rfl,sM,h3,h4,h5,JX.erase i h6⟩
theorem NN(hS:JZ K B ν H w){b:Nat}{m:Z6}{k:JE}(hm:ν b=some m)(hb:H[b]?=some k) (hk:k.mode=.map∧k.GN=0) {cs:List CV} {es:Array MapEntry} {cl:Nat} (hr:JX ν cs es.toList) (hst:MapKept.Stamped es cl) {H':Gb} (h:Jq H b cs=some H'):
  JZ K B ν H' {w with heap:=w.heap.setIfInBounds m.c (.map es cl)}:=by
 unfold Jq at h
 rw[hb]at h
 simp only at h
 split at h
 case isFalse=>cases h
 rw[GA]at h
 subst h
 exact hS.setObj hb hk.1 hm (k2:={k with cells:=cs}) hk.1 (.inl ⟨hk.2,es,cl,rfl,by rw[(UO hr).1];exact hr,hst,fun e=>by rw[(UO hr).2]at e;cases e⟩)
theorem Gcp(hS:JZ K B ν H w){c x y:CV}{v u uy:Value}(h:V ν c v)(hx:V ν x u)(hy:V ν y uy){t:TypeId}{q:IntKind×CV}(hq:EM P t=some q){H':Gb}(hr:Qj H q.1 c x y=some H'):
  ∃w',(Instr.mapUpdate t v u uy).run P w=.ok () w'∧JZ K B ν H' w':=by
 obtain⟨kt,e,i,z,hu,hk,hi,hz,hzl⟩:=Ve hq
 unfold Qj at hr
 split at hr
 ·rename_i b k' n
  split at hr
  ·rename_i hc
   obtain⟨rfl,RF⟩:=hc
   simp only[Jk]at hr
   obtain⟨es,hes,f,hf,hr⟩:=hr
   simp only[V]at hx
   subst hx
   rcases VI hS h hes with⟨rfl,rfl⟩|⟨b',m,kk,xs,cl,hbb,hm,hb',hd,hes',rfl,hw,hR,hst⟩
   ·simp only[V]at h
    grind
   simp only[CV.GJ.injEq]at hbb
   subst hbb
   have ck:∀b,(Instr.checkKey b 10000 kt (.int q.1 n)).run P w=.ok () w:=fun b=>MapKept.run_checkKey hk (by simp[MapKept.IsKey]) b 9999
   have hfr:=AA hR hf
   cases f with
   |none=>
    simp only at hfr hr
    have hfk:=MapKept.run_findKey (w:=w) hk hfr
    refine⟨_,?_,NN hS hm hb' hd (es:=xs.push {key:=.int q.1 n,val:=uy,born:=cl}) (cl:=cl+1) (by simpa using hR.push (e:={key:=.int q.1 n,val:=uy,born:=cl}) rfl hy RF) (MapKept.stamped_push hst (MQ hR hf)) hr⟩
    simp[Instr.mapUpdate,run_underlying hu,MapKept.run_getObj_map hw,ck,hfk,MapKept.run_setObj_map _ hw]
   |some p=>
    obtain⟨j,vv⟩:=p
    simp only at hfr hr
    obtain⟨uu,hfr,hV,_,x0,hx0,hxk⟩:=hfr
    have hfk:=MapKept.run_findKey (w:=w) hk hfr
    have hx1:xs[j]?=some x0:=by simpa using hx0
    have hjl:j<es.length:=by
     have:=hR.length
     grind
    have hkt:(Instr.keyThatStays (.int q.1 n) (.int q.1 n)).run P w=.ok (.int q.1 n) w:=MapKept.run_keyThatStays (d:=.int q.1) (by simp[MapKept.IsKey])
    refine⟨_,?_,NN hS hm hb' hd (es:=xs.modify j fun e=>{e with key:=.int q.1 n,val:=uy}) (cl:=cl) (by simpa using hR.modify (f:=fun e=>{e with key:=.int q.1 n,val:=uy}) (fun e=>⟨rfl,hy⟩) RF hjl) (MapKept.stamped_modify hst _ _ (fun _ _=>rfl) (fun e _ he=>by grind)) hr⟩
    simp[Instr.mapUpdate,run_underlying hu,MapKept.run_getObj_map hw,ck,hfk,hx1,hxk,hkt,MapKept.run_setObj_map _ hw]
  ·cases hr
 ·cases hr
theorem GbC(hS:JZ K B ν H w){c x:CV}{v u:Value}(h:V ν c v)(hx:V ν x u){t ty t2:TypeId}{q:IntKind×CV}(hq:EM P t=some q){H':Gb}(hr:U5 H q.1 c x=some H'){ts:Array TypeId}(hts:ts[0]?=some t):
  ∃w',(Builtin.delete_ ts ty #[v,u]).run P w=.ok (.tuple #[]) w'∧JZ K B ν H' w':=by
 obtain⟨kt,e,i,z,hu,hk,hi,hz,hzl⟩:=Ve hq
 unfold U5 at hr
 split at hr
 ·rename_i b k' n
  split at hr
  ·rename_i hc
   subst hc
   simp only[Jk]at hr
   obtain⟨es,hes,f,hf,hr⟩:=hr
   simp only[V]at hx
   subst hx
   rcases VI hS h hes with⟨rfl,rfl⟩|⟨b',m,kk,xs,cl,hbb,hm,hb',hd,hes',rfl,hw,hR,hst⟩
   ·simp only[V]at h
    grind
   simp only[CV.GJ.injEq]at hbb
   subst hbb
   have ck:∀b,(Instr.checkKey b 10000 kt (.int q.1 n)).run P w=.ok () w:=fun b=>MapKept.run_checkKey hk (by simp[MapKept.IsKey]) b 9999
   have hfr:=AA hR hf
   cases f with
   |none=>
    simp only at hfr hr
    have hfk:=MapKept.run_findKey (w:=w) hk hfr
    refine⟨_,?_,NN hS hm hb' hd (es:=xs) (cl:=cl) hR hst hr⟩
    simp[Builtin.delete_,hts,run_underlying hu,MapKept.run_getObj_map hw,ck,hfk,MapKept.run_setObj_map _ hw]
   |some p=>
    obtain⟨j,vv⟩:=p
    simp only at hfr hr
    obtain⟨uu,hfr,hV,_,x0,hx0,hxk⟩:=hfr
    have hfk:=MapKept.run_findKey (w:=w) hk hfr
    refine⟨_,?_,NN hS hm hb' hd (es:=xs.eraseIdxIfInBounds j) (cl:=cl) (by
     have:=hR.erase j
     simp_all) (MapKept.stamped_erase hst _) hr⟩
    simp[Builtin.delete_,hts,run_underlying hu,MapKept.run_getObj_map hw,ck,hfk,MapKept.run_setObj_map _ hw]
  ·cases hr
 ·rename_i k' n
  split at hr
  ·rename_i hc
   subst hc
   simp only[GA]at hr
   subst hr
   simp only[V]at h hx
   subst h;subst hx
   have ck:∀b,(Instr.checkKey b 10000 kt (.int q.1 n)).run P w=.ok () w:=fun b=>MapKept.run_checkKey hk (by simp[MapKept.IsKey]) b 9999
   exact⟨w,by simp[Builtin.delete_,hts,run_underlying hu,ck],hS⟩
  ·cases hr
 ·cases hr
theorem SF(hS:JZ K B ν H w){b:Nat}{v:Value}(h:V ν (.GJ b) v){t ty:TypeId}{q:IntKind×CV}(hq:EM P t=some q){H':Gb}(hr:Jq H b []=some H'){ts:Array TypeId}(hts:ts[0]?=some t):
  ∃w',(Builtin.clear_ ts ty #[v]).run P w=.ok (.tuple #[]) w'∧JZ K B ν H' w':=by
 obtain⟨kt,e,i,z,hu,hk,hi,hz,hzl⟩:=Ve hq
 simp only[V]at h
 obtain⟨m,hm,rfl⟩:=h
 have hr':=hr
 unfold Jq at hr'
 split at hr'
 ·rename_i k hb
  split at hr'
  ·rename_i hd
   obtain⟨ob,hw,Yi,_⟩:=hS.mp b k m hb hd.1 hm
   obtain⟨xs,cl,rfl,hR,-⟩:=Yi.map hd.2.1
   refine⟨_,?_,NN hS hm hb ⟨hd.1,hd.2.1⟩ (es:=#[]) (cl:=cl) (show JX ν [] []from rfl) (MapKept.stamped_empty cl) hr⟩
   simp[Builtin.clear_,hts,run_underlying hu,MapKept.run_getObj_map hw,MapKept.run_setObj_map _ hw]
  ·cases hr'
 ·cases hr'
end
end Go.Cs
namespace Go.Cs
open Go Go.RowKit
section
variable {P : Program} {ν : Mu} {E : Env} {a : Act} {w : World} {H : Gb} {K : Nat → Option Obj} {B : Bs}
theorem GR{o:Oper}{s:Sem Value}(h:execOp a.eval o=(do pure (.value (←s)))){v:Value}{w':World}(hr:s.run P w=.ok v w'):(execOp a.eval o).run P w=.ok (.value v) w':=by
 rw[h];exact EA hr
theorem Zb{zs:List CV}{vs:List Value}(h:VL ν zs vs)(k:Nat):VL ν (List.replicate k zs).flatten (List.replicate k vs).flatten:=by
 induction k with
 |zero=>simp[VL]
 |succ k ih=>simp only[List.replicate_succ,List.flatten_cons];exact h.append ih
theorem EU(z:Array Value)(k:Nat):((Array.range (k*z.size)).map (z[· % z.size]!)).toList=(List.replicate k z.toList).flatten:=by
 induction k with
 |zero=>simp
 |succ k ih=>
  rw[List.replicate_succ',List.flatten_append,←ih]
  simp only[Array.toList_map,Array.toList_range,List.flatten_cons,List.flatten_nil,List.append_nil]
  rw[Nat.succ_mul,List.range_add,Ij,List.map_map]
  congr 1
  apply List.ext_getElem?
  intro i
  rw[Kr]
  rcases VB i z.size with hi|hi
  ·rw[IX hi]
   simp only[Option.map_some,Function.comp,Nat.mul_add_mod_self_right,Nat.mod_eq_of_lt hi]
   grind
  grind
theorem Zw(d:Nat){t e:TypeId}(p:Option Addr)(h:P.underlying t=some (.pointer e)):(Op.equalIn (d+1) t (.pointer none) (.pointer p)).run P w=.ok p.isNone w:=by
 simp[Op.equalIn,run_underlying h]
theorem Ip(d:Nat){t e:TypeId}(p:Addr)(h:P.underlying t=some (.pointer e)):(Op.equalIn (d+1) t (.pointer (some p)) (.pointer none)).run P w=.ok false w:=by
 simp[Op.equalIn,run_underlying h]
theorem VE(d:Nat){t e:TypeId}(p:Option Addr)(l c:Nat)(h:P.underlying t=some (.slice e)):(Op.equalIn (d+1) t (.slice none 0 0) (.slice p l c)).run P w=.ok p.isNone w:=by
 simp[Op.equalIn,run_underlying h]
theorem Dv(d:Nat){t e:TypeId}(p:Addr)(l c:Nat)(h:P.underlying t=some (.slice e)):(Op.equalIn (d+1) t (.slice (some p) l c) (.slice none 0 0)).run P w=.ok false w:=by
 simp[Op.equalIn,run_underlying h]
theorem Qt{t:TypeId}{x y:Operand}{vx vy:Value}{r:Bool}(h1:eqGuard .eql t x y vx vy=pure ())(h2:eqGuard .neq t x y vx vy=pure ())
  (h3:binOp .eql t vx vy=(do pure (.bool (←Op.equal t vx vy))))(h4:binOp .neq t vx vy=(do pure (.bool (!(←Op.equal t vx vy)))))(h:(Op.equalIn 10000 t vx vy).run P w=.ok r w):
  (do eqGuard .eql t x y vx vy;binOp .eql t vx vy:Sem Value).run P w=.ok (.bool r) w∧(do eqGuard .neq t x y vx vy;binOp .neq t vx vy:Sem Value).run P w=.ok (.bool (!r)) w:=by
 rw[h1,h2,h3,h4]
 simp[Op.equal,Op.maxDepth,h]
theorem Gkb{t:TypeId}{x y:Operand}{c d:CV}{vx vy:Value}{r:Bool}{ty:Nat}(hx:V ν c vx)(hy:V ν d vy)(he:Oj ty c d=some r)
  (ht:(ty=0→P.underlying t=some .bool)∧(ty=1→∃e,P.underlying t=some (.pointer e))∧(ty=2→∃e,P.underlying t=some (.slice e))):
  (do eqGuard .eql t x y vx vy;binOp .eql t vx vy:Sem Value).run P w=.ok (.bool r) w∧(do eqGuard .neq t x y vx vy;binOp .neq t vx vy:Sem Value).run P w=.ok (.bool (!r)) w:=by
 unfold Oj at he
 split at he
 ·simp only[GA]at he;subst he
  simp only[V]at hx hy;subst hx;subst hy
  exact Qt (eqGuard_at_bool ..) (eqGuard_at_bool ..) rfl rfl (run_equalIn_bool w 9999 t _ _ (ht.1 rfl))
 ·obtain⟨e,hu⟩:=ht.2.1 rfl
  simp only[GA]at he;subst he
  simp only[V]at hx hy;subst hx;subst hy
  exact Qt (eqGuard_at_pointer ..) (eqGuard_at_pointer ..) rfl rfl (Zw 9999 none hu)
 ·obtain⟨e,hu⟩:=ht.2.1 rfl
  simp only[GA]at he;subst he
  simp only[V]at hx hy;subst hx;obtain⟨m,_,rfl⟩:=hy
  exact Qt (eqGuard_at_pointer ..) (eqGuard_at_pointer ..) rfl rfl (Zw 9999 (some _) hu)
 ·obtain⟨e,hu⟩:=ht.2.1 rfl
  simp only[GA]at he;subst he
  simp only[V]at hx hy;subst hy;obtain⟨m,_,rfl⟩:=hx
  exact Qt (eqGuard_at_pointer ..) (eqGuard_at_pointer ..) rfl rfl (Ip 9999 _ hu)
 ·obtain⟨e,hu⟩:=ht.2.2 rfl
  simp only[GA]at he;subst he
  simp only[V]at hx hy;subst hx;subst hy
  exact Qt (eqGuard_at_slice ..) (eqGuard_at_slice ..) rfl rfl (VE 9999 none 0 0 hu)
 ·obtain⟨e,hu⟩:=ht.2.2 rfl
  simp only[GA]at he;subst he
  simp only[V]at hx hy;subst hx;obtain⟨m,c',off,_,_,rfl,_⟩:=hy
  exact Qt (eqGuard_at_slice ..) (eqGuard_at_slice ..) rfl rfl (VE 9999 (some _) _ _ hu)
 ·obtain⟨e,hu⟩:=ht.2.2 rfl
  simp only[GA]at he;subst he
  simp only[V]at hx hy;subst hy;obtain⟨m,c',off,_,_,rfl,_⟩:=hx
  exact Qt (eqGuard_at_slice ..) (eqGuard_at_slice ..) rfl rfl (Dv 9999 _ _ _ hu)
 ·cases he
theorem Mx:∀(l:List Field)(pl:List (Nat×Nat)),Jt (l.map fun f=>(sizeT P f.type).map fun n=>(f.offset,n))=some pl→
  (l.mapM fun f=>Prod.mk f.offset<$>sizeOf f.type:Sem (List (Nat×Nat))).run P w=.ok pl w
 |[],pl,h=>by simp only[List.map_nil,Jt,GA]at h;subst h;simp
 |f::l,pl,h=>by
  simp only[List.map_cons]at h
  cases hn:sizeT P f.type with
  |none=>rw[hn]at h;cases h
  |some n=>
   rw[hn]at h
   simp only[Option.map_some,Jt,GD]at h
   obtain⟨q,hq,rfl⟩:=h
   have ih:=Mx l q hq
   rw[List.mapM_cons]
   simp[JC hn,ih]
theorem Hr:∀{qs:List (Nat×Nat×CV)}{cs zs:List CV},fill cs qs=some zs→zs.length=cs.length
 |[],cs,zs,h=>by simp only[fill,GA]at h;subst h;rfl
 |q::qs,cs,zs,h=>by
  obtain⟨off,size,c⟩:=q
  simp only[fill]at h
  split at h
  ·rename_i hc
   rw[Hr h,Bh oM]
  ·cases h
theorem Su{dst:Option Tmp}{type:TypeId}{pos:String}{after:Array Edge}{guard:Option (Nat×Bool)}{op:BinOp}{t yt:TypeId}{x y:Operand}{x' y':Jy}{ty:Nat}{op':Kc}{m:Option JE×(Nat→CV)}
  (hx:Ua x=some x')(hy:Ua y=some y')(hE:∀t∈op'.tmps,V ν (E t) (a.tmps.getD t undef))(hm:G7 op' E H=some m)
  (hc:(match op with|.eql=>some (Kc.eqv false ty x' y')|.neq=>some (.eqv true ty x' y')|_=>none)=some op')
  (ht:(ty=0→P.underlying t=some .bool)∧(ty=1→∃e,P.underlying t=some (.pointer e))∧(ty=2→∃e,P.underlying t=some (.slice e))):
  Vw P (execOp a.eval ⟨dst,.binOp op t x y yt,type,pos,after,guard⟩) w m ν:=by
 have:∃neg,op'=.eqv neg ty x' y'∧(if neg then op=.neq else op=.eql):=by
  grind
 obtain⟨neg,rfl,hneg⟩:=this
 have h1:=Jd hx (fun t ht=>hE t (by simp[Kc.tmps,ht]))
 have h2:=Jd hy (fun t ht=>hE t (by simp[Kc.tmps,ht]))
 simp only[G7,GD]at hm
 obtain⟨v,hv,rfl⟩:=hm
 obtain⟨g1,g2⟩:=Gkb (P:=P) (w:=w) (x:=x) (y:=y) h1 h2 hv ht
 cases neg with
 |true=>
  simp only[if_true]at hneg
  subst hneg
  exact Vw.stay (v':=.bool (!v)) (GR rfl g2) fun _=>by simp[V]
 |false=>
  simp only[Bool.false_eq_true,if_false]at hneg
  subst hneg
  exact Vw.stay (v':=.bool v) (GR rfl g1) fun _=>by simp[V]
theorem GcA(big:Bool):∀(l:List CV)(vs:List Value)(c:CV)(u:Value){r:CV},VL ν l vs→V ν c u→l.foldlM (mm2 big) c=some r→
  ∃v',(vs.foldlM (if big then Builtin.max2 else Builtin.min2) u:Sem Value).run P w=.ok v' w∧V ν r v'
 |[],vs,c,u,r,hl,hu,h=>by
  simp only[VL]at hl
  simp_all
 |d::l,vs,c,u,r,hl,hu,h=>by
  simp only[VL]at hl
  obtain⟨v,rest,rfl,hv,hl⟩:=hl
  simp only[List.foldlM_cons,Option.bind_eq_bind,Jk]at h
  obtain⟨q,hq,h⟩:=h
  unfold mm2 at hq
  split at hq
  ·rename_i k x k' y
   simp only[GA]at hq
   simp only[V]at hu hv
   subst hu;subst hv
   obtain⟨v',hr,hV⟩:=GcA big l rest q (.int k (if big then(if y>x then y else x)else(if y<x then y else x))) hl (by rw[←hq];simp[V]) h
   refine⟨v',?_,hV⟩
   rw[List.foldlM_cons]
   cases big<;>simpa[Builtin.max2,Builtin.min2]using hr
  ·cases hq
theorem GfK(big:Bool){l:List CV}{vs:Array Value}{r:CV}(ts:Array TypeId)(ty:TypeId)(hl:VL ν l vs.toList)(h:Gj7 big l=some r):
  ∃v',((if big then Builtin.max_ else Builtin.min_) ts ty vs).run P w=.ok v' w∧V ν r v':=by
 cases l with
 |nil=>cases h
 |cons c l=>
  simp only[VL]at hl
  obtain⟨v,rest,hvs,hv,hl⟩:=hl
  obtain⟨v',hr,hV⟩:=GcA (P:=P) (w:=w) big l rest c v hl hv h
  refine⟨v',?_,hV⟩
  cases big
  ·simpa[Builtin.min_,hvs]using hr
  ·simpa[Builtin.max_,hvs]using hr
def ZR(P:Program)(w:World):Prop:=∀g zs,EF P g=some zs→∃T fz,w.heap[g]?=some (.cells (zs.map (Value.int .i64)).toArray T fz)
theorem GgA{P:Program}{K:Nat→Option Obj}{B:Bs}{ν:Mu}{H:Gb}{w:World}(hG:ZR P B.toWorld)(hS:JZ K B ν H w){t:TypeId}{g:Nat}{zs:List Int}(hz:EF P g=some zs)(ha:YG P t=some true)(hn:sizeT P t=some zs.length):
  ∃v',(loadVar t ⟨g,0,none⟩).run P w=.ok v' w∧V ν (.agg (zs.map (.int .i64))) v':=by
 obtain⟨T,fz,hc⟩:=hG g zs hz
 have hw:w.heap[g]?=some (.cells (zs.map (Value.int .i64)).toArray T fz):=by rw[hS.base.block g (Vo.1 hc).1];exact hc
 have hr:=run_loadCells_list (P:=P) w ⟨g,0,none⟩ (zs.map (Value.int .i64)) (fun j v hv=>by
  rw[Addr.add_lit,Nat.zero_add];simp only[World.cell?,hw];simpa using hv)
 rw[QY]at hr
 refine⟨.agg (zs.map (Value.int .i64)).toArray,?_,?_⟩
 ·simp only[loadVar,Sem.run_bind,BO ha,Result.andThen_ok,if_true]
  simp[JC hn,hr]
 ·simp only[V]
  refine⟨_,rfl,?_⟩
  simp only[List.toList_toArray]
  clear hr hn hc hw hz
  induction zs with
  |nil=>simp[VL]
  |cons z zs ih=>simp only[List.map_cons,VL];exact⟨_,_,rfl,by simp[V],ih⟩
theorem Ggy(hG:ZR P B.toWorld)(hS:JZ K B ν H w){o:Oper}{op':Kc}(hc:GC P o.op=some op')(hE:∀t∈op'.tmps,V ν (E t) (a.tmps.getD t undef)){m:Option JE×(Nat→CV)}(hm:G7 op' E H=some m):
  Vw P (execOp a.eval o) w m ν:=by
 obtain⟨dst,oop,type,pos,after,guard⟩:=o
 dsimp only at hc
 cases oop with
 |move x|assign x=>
  simp only[GC,GD]at hc
  obtain⟨y,hy,rfl⟩:=hc
  simp only[G7,GA]at hm
  subst hm
  exact Vw.stay (v':=a.eval x) (by simp[execOp]) fun _=>Jd hy hE
 |pick c p q=>
  simp only[GC,Jk,GD]at hc
  obtain⟨c',hc',p',hp,q',hq,rfl⟩:=hc
  have h1:=Jd hc' (fun t ht=>hE t (by simp[Kc.tmps,ht]))
  have h2:=Jd hp (fun t ht=>hE t (by simp[Kc.tmps,ht]))
  have h3:=Jd hq (fun t ht=>hE t (by simp[Kc.tmps,ht]))
  simp only[G7]at hm
  split at hm
  ·rename_i t ht
   simp only[GA]at hm
   subst hm
   rw[ht]at h1
   simp only[V]at h1
   refine Vw.stay (v':=if t then a.eval p else a.eval q) (by simp[execOp,h1,asBool]) fun _=>?_
   grind
  ·cases hm
 |alloc t=>
  simp only[GC,GD]at hc
  obtain⟨z,hz,rfl⟩:=hc
  obtain⟨i,v,hi,hv,hV⟩:=U7 ν hz
  simp only[G7,GA]at hm
  subst hm
  refine Vw.made (v':=.pointer (some ⟨w.heap.size,0,none⟩)) (arr:=v.cells) (T:=t) ?_ hV fun ρ k _ hk=>?_
  ·simp[execOp,Instr.alloc,Kq hi hv,newVar,newRow]
  ·simp only[V];exact⟨_,hk,rfl⟩
 |box t x=>
  simp only[GC,GD]at hc
  obtain⟨y,hy,rfl⟩:=hc
  have h1:=Jd hy hE
  simp only[G7,GA]at hm
  subst hm
  refine Vw.made (v':=.pointer (some ⟨w.heap.size,0,none⟩)) (arr:=(a.eval x).cells) (T:=t) ?_ h1.cells fun ρ k _ hk=>?_
  ·simp[execOp,Instr.box,newVar,newRow]
  ·simp only[V];exact⟨_,hk,rfl⟩
 |build t parts=>
  simp only[GC]at hc
  split at hc
  ·rename_i fs hu
   simp only[Jk,GD]at hc
   obtain⟨z,hz,pl,hpl,ps,hps,rfl⟩:=hc
   obtain⟨i,v,hi,hv,hV⟩:=U7 ν hz
   simp only[G7,GD]at hm
   obtain⟨cs,hcs,rfl⟩:=hm
   obtain⟨out,hout,hVo⟩:=ZT hps (fun t ht=>hE t (by simpa[Kc.tmps]using ht)) hV hcs
   refine Vw.stay (v':=.agg out) ?_ fun _=>by simp only[V];exact⟨_,rfl,hVo⟩
   have Gal:=hout
   simp only[Array.toList_map]at Gal
   simp[execOp,Instr.build,Kq hi hv,run_underlying hu,Array.mapM_eq_mapM_toList,Mx _ _ hpl,Gal]
  ·rename_i l e hu
   simp only[Jk,GD]at hc
   obtain⟨z,hz,n,hn,ps,hps,rfl⟩:=hc
   obtain⟨i,v,hi,hv,hV⟩:=U7 ν hz
   simp only[G7,GD]at hm
   obtain⟨cs,hcs,rfl⟩:=hm
   obtain⟨out,hout,hVo⟩:=ZT hps (fun t ht=>hE t (by simpa[Kc.tmps]using ht)) hV hcs
   refine Vw.stay (v':=.agg out) ?_ fun _=>by simp only[V];exact⟨_,rfl,hVo⟩
   have Gal:=hout
   simp only[Array.toList_map]at Gal
   simp[execOp,Instr.build,Kq hi hv,run_underlying hu,JC hn,Gal]
  ·cases hc
 |buildSlice t len parts=>
  simp only[GC,Jk]at hc
  obtain⟨e,he,n,hn,z,hz,ps,hps,hg⟩:=hc
  obtain⟨hgd,hop⟩:=GI hg
  simp only[GA]at hop
  subst hop
  simp only[NH,decide_eq_true_eq]at hgd
  obtain⟨⟨hn0,hzl⟩,hlim⟩:=hgd
  obtain⟨i,v,hi,hv,hV⟩:=U7 ν hz
  have hvs:v.cells.size=n:=by have:=hV.length;simp at this;omega
  simp only[G7,GD]at hm
  obtain⟨cs,hcs,rfl⟩:=hm
  have hz0:=Zb hV len
  have hzr:((Array.range (len*n)).map (v.cells[· % v.cells.size]!)).toList=(List.replicate len v.cells.toList).flatten:=by rw[←hvs];exact EU _ _
  rw[←hzr]at hz0
  obtain⟨out,hout,hVo⟩:=ZT hps (fun t ht=>hE t (by simpa[Kc.tmps]using ht)) hz0 hcs
  have hos:out.size=len*n:=by
   have h1:=hVo.length
   have h2:=Hr hcs
   simp_all
  refine Vw.made (v':=.slice (some ⟨w.heap.size,0,none⟩) len len) (arr:=out) (T:=e) ?_ hVo fun ρ k _ hk=>?_
  ·have hlt:¬(len*n>2 ^ 24):=by omega
   refine GR (s:=Instr.buildSlice t len (parts.map fun x=>(x.1,a.eval x.2))) rfl ?_
   simp only[Instr.buildSlice,Sem.run_bind,run_underlying (Js he),Result.andThen_ok,JC hn,if_neg hlt,Sem.run_pure]
   rcases Nat.eq_zero_or_pos len with h0|h0
   ·subst h0
    simp only[Nat.zero_mul,Array.range_zero',Array.map_empty]at hout
    simp only[Nat.zero_mul,if_true,Sem.run_pure,Result.andThen_ok,Array.range_zero',Array.map_empty,hout]
    simp[newRow]
   ·have hne:¬(len*n=0):=by have:=Nat.mul_pos h0 hn0;omega
    simp only[if_neg hne,Sem.run_bind,Kq hi hv,Result.andThen_ok,Sem.run_pure,hout]
    simp[newRow]
  ·simp only[V]
   refine⟨_,len,0,hk,rfl,rfl,Nat.le_refl _,sM,.inr sM,?_⟩
   dsimp only
   omega
 |load t x=>
  cases x with
  |global g0=>
   simp only[GC,MB,Jk]at hc
   obtain⟨zs,hz,hc⟩:=hc
   split at hc
   ·rename_i hcc
    simp only[GA]at hc
    subst hc
    obtain⟨v',hr,hV⟩:=GgA (P:=P) hG hS hz hcc.1 hcc.2
    simp only[G7,GA]at hm
    subst hm
    exact Vw.stay (v':=v') (by simp[execOp,Instr.loadAt,Act.eval,Instr.sureAddr,hr]) fun _=>hV
   ·cases hc
  |_=>
   simp only[GC,Jk,GD]at hc
   obtain⟨g,hg,n,hn,y,hy,rfl⟩:=hc
   have h1:=Jd hy hE
   simp only[G7]at hm
   split at hm
   ·rename_i b o hb
    rw[hb]at h1
    simp only[V]at h1
    obtain⟨mm,hmm,he⟩:=h1
    have key:∃v,(if g=true then(JD H b o n).map .agg else QW H b o)=some v∧m=(none,fun _=>v):=by
     split at hm
     ·rename_i hgt
      rw[GD]at hm
      obtain⟨cs,hcs,rfl⟩:=hm
      grind
     ·rename_i hgt
      rw[GD]at hm
      grind
    obtain⟨v,hv,rfl⟩:=key
    obtain⟨v',hr,hV⟩:=Mr (P:=P) hS hg hn hv hmm
    exact Vw.stay (v':=v') (by simp[execOp,Instr.loadAt,he,Instr.sureAddr,hr]) fun _=>hV
   ·cases hm
 |nilCheck x=>
  simp only[GC,GD]at hc
  obtain⟨y,hy,rfl⟩:=hc
  have h1:=Jd hy hE
  simp only[G7]at hm
  split at hm
  ·rename_i b o hb
   simp only[GA]at hm
   subst hm
   rw[hb]at h1
   have h2:=h1
   simp only[V]at h2
   obtain⟨mm,hmm,he⟩:=h2
   exact Vw.stay (v':=a.eval x) (by simp[execOp,he]) fun _=>h1
  ·rename_i t c hb
   simp only[GA]at hm
   subst hm
   rw[hb]at h1
   have h2:=h1
   simp only[V]at h2
   obtain⟨u,he,_⟩:=h2
   exact Vw.stay (v':=a.eval x) (by simp[execOp,he]) fun _=>h1
  ·cases hm
 |binOp op t x y yt=>
  simp only[GC,Jk]at hc
  obtain⟨x',hx,y',hy,hc⟩:=hc
  split at hc
  ·have hop:op'=.bin op x' y'∨op'=.shift op x' y':=by grind
   rcases hop with hop|hop
   case inr=>
    subst hop
    have h1:=Jd hx (fun t ht=>hE t (by simp[Kc.tmps,ht]))
    have h2:=Jd hy (fun t ht=>hE t (by simp[Kc.tmps,ht]))
    simp only[G7]at hm
    split at hm
    ·rename_i k p k' q e1 e2
     rw[GD]at hm
     obtain⟨v,hv,rfl⟩:=hm
     rw[e1]at h1
     rw[e2]at h2
     simp only[V]at h1 h2
     obtain⟨v',hr,hV⟩:=GeW (P:=P) (w:=w) (ν:=ν) (t:=t) h1 h2 hv
     exact Vw.stay (v':=v') (GR rfl hr) fun _=>hV
    ·cases hm
   subst hop
   have h1:=Jd hx (fun t ht=>hE t (by simp[Kc.tmps,ht]))
   have h2:=Jd hy (fun t ht=>hE t (by simp[Kc.tmps,ht]))
   simp only[G7]at hm
   split at hm
   ·rename_i k p k' q e1 e2
    split at hm
    ·rename_i hk
     subst hk
     rw[GD]at hm
     obtain⟨v,hv,rfl⟩:=hm
     rw[e1]at h1
     rw[e2]at h2
     simp only[V]at h1 h2
     obtain⟨v',hr,hV⟩:=GjG (P:=P) (w:=w) (ν:=ν) (t:=t) h1 h2 hv
     exact Vw.stay (v':=v') (GR rfl hr) fun _=>hV
    ·cases hm
   ·cases hm
  ·rename_i hu
   exact Su hx hy hE hm hc ⟨fun _=>hu,sM,sM⟩
  ·rename_i e hu
   exact Su hx hy hE hm hc ⟨sM,fun _=>⟨e,hu⟩,sM⟩
  ·rename_i e hu
   exact Su hx hy hE hm hc ⟨sM,sM,fun _=>⟨e,hu⟩⟩
  ·rename_i l e hu
   obtain⟨hgd,hop⟩:=GI hc
   simp only[NH,beq_iff_eq,Bool.not_eq_true']at hgd
   obtain⟨⟨⟨hb,hs⟩,ha⟩,hgt⟩:=hgd
   have:∃neg,op'=.eqb neg l x' y'∧(if neg then op=.neq else op=.eql):=by
    grind
   obtain⟨neg,rfl,hneg⟩:=this
   have h1:=Jd hx (fun t ht=>hE t (by simp[Kc.tmps,ht]))
   have h2:=Jd hy (fun t ht=>hE t (by simp[Kc.tmps,ht]))
   simp only[G7]at hm
   split at hm
   ·rename_i xs ys e1 e2
    split at hm
    ·rename_i hl
     rw[GD]at hm
     obtain⟨v,hv,rfl⟩:=hm
     rw[e1]at h1
     rw[e2]at h2
     obtain⟨g1,g2,g3,g4⟩:=Gjf (P:=P) (w:=w) (x:=x) (y:=y) hu hb hs hgt h1 h2 hv hl
     cases neg with
     |true=>
      simp only[if_true]at hneg
      subst hneg
      exact Vw.stay (v':=.bool (!v)) (GR rfl (by simp[g2,g4])) fun _=>by simp[V]
     |false=>
      simp only[Bool.false_eq_true,if_false]at hneg
      subst hneg
      exact Vw.stay (v':=.bool v) (GR rfl (by simp[g1,g3])) fun _=>by simp[V]
    ·cases hm
   ·cases hm
  ·rename_i fs hu
   obtain⟨hgd,hop⟩:=GI hc
   have:∃neg,op'=.eqs neg fs.size x' y'∧(if neg then op=.neq else op=.eql):=by
    grind
   obtain⟨neg,rfl,hneg⟩:=this
   have h1:=Jd hx (fun t ht=>hE t (by simp[Kc.tmps,ht]))
   have h2:=Jd hy (fun t ht=>hE t (by simp[Kc.tmps,ht]))
   simp only[G7]at hm
   split at hm
   ·rename_i xs ys e1 e2
    split at hm
    ·rename_i hl
     rw[GD]at hm
     obtain⟨v,hv,rfl⟩:=hm
     rw[e1]at h1
     rw[e2]at h2
     obtain⟨g1,g2,g3,g4⟩:=Tv (P:=P) (w:=w) (x:=x) (y:=y) hgd h1 h2 hv ⟨fs,hu,hl⟩
     cases neg with
     |true=>
      simp only[if_true]at hneg
      subst hneg
      exact Vw.stay (v':=.bool (!v)) (GR rfl (by simp[g2,g4])) fun _=>by simp[V]
     |false=>
      simp only[Bool.false_eq_true,if_false]at hneg
      subst hneg
      exact Vw.stay (v':=.bool v) (GR rfl (by simp[g1,g3])) fun _=>by simp[V]
    ·cases hm
   ·cases hm
  ·cases hc
 |unOp op t x=>
  cases op with
  |not=>
   simp only[GC,GD]at hc
   obtain⟨y,hy,rfl⟩:=hc
   have h1:=Jd hy hE
   simp only[G7]at hm
   split at hm
   ·rename_i b hb
    simp only[GA]at hm
    subst hm
    rw[hb]at h1
    simp only[V]at h1
    exact Vw.stay (v':=.bool !b) (by simp[execOp,h1,Op.unary]) fun _=>by simp[V]
   ·cases hm
  |_=>cases hc
 |makeInterface t x=>
  simp only[GC]at hc
  split at hc
  ·rename_i fs hu
   rw[GD]at hc
   obtain⟨y,hy,rfl⟩:=hc
   have h1:=Jd hy hE
   simp only[G7,GA]at hm
   subst hm
   exact Vw.stay (v':=.iface t (a.eval x)) (GR rfl (by simp[Instr.makeInterface,run_underlying hu])) fun _=>by simp only[V];exact⟨_,rfl,h1⟩
  ·cases hc
 |makeFunc fn first caps=>
  cases fn with
  |method name=>
   simp only[GC]at hc
   split at hc
   ·rename_i x hf
    split at hc
    ·rename_i hcp
     rw[GD]at hc
     obtain⟨y,hy,rfl⟩:=hc
     have h1:=Jd hy hE
     have hf':first=#[x]:=by grind
     have hc':caps=#[]:=by simpa using hcp
     simp only[G7,GA]at hm
     subst hm
     exact Vw.stay (v':=.func (.method name) #[a.eval x] #[]) (GR rfl (by simp[Instr.makeFunc,hf',hc'])) fun _=>by simp only[V];exact⟨_,rfl,h1⟩
    ·cases hc
   ·cases hc
  |func f=>
   simp only[GC]at hc
   split at hc
   ·rename_i hf
    rw[GD]at hc
    obtain⟨l,hl,rfl⟩:=hc
    have h1:=Uu hl (fun t ht=>hE t (by simpa[Kc.tmps]using ht))
    simp only[G7,GA]at hm
    subst hm
    have hf':first=#[]:=by simpa using hf
    refine Vw.stay (v':=.func (.func f) #[] (caps.map a.eval)) (by simp[execOp,Instr.makeFunc,hf']) fun _=>?_
    simp only[V]
    exact⟨_,rfl,h1⟩
   ·cases hc
  |_=>cases hc
 |makeSlice t l c=>
  simp only[GC,Jk]at hc
  obtain⟨e,he,n,hn,b,hb,z,hz,l',hl,c',hcc,hg⟩:=hc
  obtain⟨hgd,hop⟩:=GI hg
  simp only[GA]at hop
  subst hop
  simp only[NH,decide_eq_true_eq]at hgd
  obtain⟨⟨hn0,hzl⟩,hb4⟩:=hgd
  obtain⟨i,v,hi,hv,hV⟩:=U7 ν hz
  have hvs:v.cells.size=n:=by have:=hV.length;simp at this;omega
  have hby:i.bytes=b:=by simp only[MO,hi,Option.map_some,GA]at hb;exact hb
  have h1:=Jd hl (fun t ht=>hE t (by simp[Kc.tmps,ht]))
  have h2:=Jd hcc (fun t ht=>hE t (by simp[Kc.tmps,ht]))
  simp only[G7]at hm
  split at hm
  ·rename_i l0 c0 e1 e2
   split at hm
   ·rename_i hlc
    simp only[GA]at hm
    subst hm
    rw[e1]at h1
    rw[e2]at h2
    simp only[V]at h1 h2
    obtain⟨cn,rfl⟩:=Int.eq_ofNat_of_zero_le (show 0≤c0 by omega)
    obtain⟨ln,rfl⟩:=Int.eq_ofNat_of_zero_le hlc.1
    simp only[J9]at hlc
    have w1:IntKind.i64.wrap (ln:Int)=ln:=wrap_small oM oM
    have w2:IntKind.i64.wrap (cn:Int)=cn:=wrap_small oM oM
    have hbig:¬((2:Int) ^ 48<(b:Int)*(cn:Int)):=by
     have hle:b*cn≤4096*16777216:=Nat.mul_le_mul hb4 oM
     omega
    have hz0:=Zb hV cn
    rw[←EU,hvs]at hz0
    simp only[Kt]
    refine Vw.made (v':=.slice (some ⟨w.heap.size,0,none⟩) ln cn) (arr:=(Array.range (cn*n)).map (v.cells[· % n]!)) (T:=e) ?_ hz0 fun ρ k _ hk=>?_
    ·refine GR (s:=Instr.makeSlice t (a.eval l) (a.eval c)) rfl ?_
     rw[h1,h2]
     have hcl:¬((cn:Int)<0):=by omega
     have hll:¬((ln:Int)<0):=by omega
     have Gr6:¬((cn:Int)<(ln:Int)):=by omega
     rcases Nat.eq_zero_or_pos cn with h0|h0
     ·subst h0
      have hl0:ln=0:=by omega
      subst hl0
      simp only[Instr.makeSlice,run_underlying (Js he),asInt,asIntOf,YT hi,hby,JC hn,Sem.run_bind,Result.andThen_ok,Sem.run_pure]
      simp[newRow,IntKind.wrap,IntKind.bits,JC hn,Array.range_zero']
     ·have hne:¬(cn*n=0):=by have:=Nat.mul_pos h0 hn0;omega
      have hbig':decide ((b:Int)*(cn:Int)>2 ^ 48)=false:=by simpa using hbig
      have hcl':decide ((cn:Int)<0)=false:=by simp
      have GqE:decide ((ln:Int)<0)=false:=by simp
      have GqQ:decide ((ln:Int)>(cn:Int))=false:=by simpa using Gr6
      simp only[Instr.makeSlice,run_underlying (Js he),asInt,asIntOf,YT hi,hby,JC hn,Sem.run_bind,Result.andThen_ok,Sem.run_pure,w1,w2,hbig',hcl',GqE,GqQ,Bool.or_false,Bool.false_eq_true,if_false,Kt,if_neg hne,Kq hi hv,run_askRoom,hvs]
      simp[newRow]
    ·simp only[V]
     refine⟨_,cn,0,hk,rfl,rfl,oM,sM,.inr sM,?_⟩
     simp
   ·cases hm
  ·cases hm
 |slice t x lo hi mx=>
  simp only[GC,Jk,GD]at hc
  obtain⟨e,he,n,hn,x',hx,lo',hlo,hi',hhi,mx',hmx,rfl⟩:=hc
  simp only[G7,GD]at hm
  obtain⟨v,hv,rfl⟩:=hm
  obtain⟨v',hr,hV⟩:=Gd1 (P:=P) (w:=w) (Js he) hn hx hlo hhi hmx hE hv
  exact Vw.stay (v':=v') (by simp[execOp,hr]) fun _=>hV
 |fieldAddr s x f=>
  simp only[GC]at hc
  split at hc
  ·rename_i fs hu
   simp only[Jk]at hc
   obtain⟨fd,hfd,n,hn,x',hx,hg⟩:=hc
   obtain⟨hgd,hop⟩:=GI hg
   simp only[GA]at hop
   subst hop
   simp only[decide_eq_true_eq,ne_eq]at hgd
   have h1:=Jd hx hE
   simp only[G7]at hm
   split at hm
   ·rename_i b o hb
    simp only[GA]at hm
    subst hm
    rw[hb]at h1
    simp only[V]at h1
    obtain⟨mm,hmm,he⟩:=h1
    refine Vw.stay (v':=.pointer (some ⟨mm.c,mm.s+(o+fd.offset),none⟩)) ?_ fun _=>by simp only[V];exact⟨mm,hmm,rfl⟩
    simp[execOp,Instr.fieldAt,run_underlying hu,hfd,he,Instr.sureAddr,fieldPlace,JC hn,hgd,Addr.add_lit,Nat.add_assoc]
   ·cases hm
  ·cases hc
 |convert s d x=>
  simp only[GC]at hc
  split at hc
  ·rename_i ks kd hus hud
   simp only[GD]at hc
   obtain⟨y,hy,rfl⟩:=hc
   have h1:=Jd hy hE
   simp only[G7]at hm
   split at hm
   ·rename_i k n hb
    simp only[GA]at hm
    subst hm
    rw[hb]at h1
    simp only[V]at h1
    exact Vw.stay (v':=.int kd (kd.wrap n)) (GR (s:=convert s d (a.eval x)) rfl (by simp[convert,run_underlying hus,run_underlying hud,h1,Conv.intToInt])) fun _=>by simp[V]
   ·cases hm
  ·cases hc
 |indexAddr t x ix=>
  simp only[GC]at hc
  split at hc
  case h_1 l e hu=>
   simp only[Jk,GD]at hc
   obtain⟨n,hn,x',hx,i',hi,rfl⟩:=hc
   have h1:=Jd hx (fun t ht=>hE t (by simp[Kc.tmps,ht]))
   have h2:=Jd hi (fun t ht=>hE t (by simp[Kc.tmps,ht]))
   simp only[G7]at hm
   split at hm
   ·rename_i b o k i hb hik
    split at hm
    ·rename_i hlt
     simp only[GA]at hm
     subst hm
     rw[hb]at h1
     rw[hik]at h2
     simp only[V]at h1 h2
     obtain⟨mm,hmm,hxe⟩:=h1
     refine Vw.stay (v':=.pointer (some ⟨mm.c,mm.s+(o+i.toNat*n),none⟩)) ?_ fun _=>by simp only[V];exact⟨mm,hmm,rfl⟩
     simp[execOp,Instr.indexAt,run_underlying hu,h2,hxe,asIntOf,Instr.sureAddr,hlt,JC hn,Addr.add_lit,Nat.add_assoc]
    ·cases hm
   ·cases hm
  case h_3=>cases hc
  rename_i e he0
  have he:Kv P t=some e:=by simp[Kv,he0]
  simp only[Jk,GD]at hc
  obtain⟨n,hn,x',hx,i',hi,rfl⟩:=hc
  have h1:=Jd hx (fun t ht=>hE t (by simp[Kc.tmps,ht]))
  have h2:=Jd hi (fun t ht=>hE t (by simp[Kc.tmps,ht]))
  simp only[G7]at hm
  split at hm
  ·rename_i b o len cap ez tl k i hb hik
   split at hm
   ·rename_i hlt
    simp only[GA]at hm
    subst hm
    rw[hb]at h1
    rw[hik]at h2
    simp only[V]at h1 h2
    obtain⟨mm,cap',off,hmm,hez,hxe,hlc,ht,hoff,hfit⟩:=h1
    have ZI:=hoff.resolve_left oM
    refine Vw.stay (v':=.pointer (some ⟨mm.c,mm.s+(o+i.toNat*n),none⟩)) ?_ fun _=>by simp only[V];exact⟨mm,hmm,rfl⟩
    simp[execOp,Instr.indexAt,run_underlying (Js he),h2,hxe,asIntOf,hlt,JC hn,Addr.add_lit,ZI,Nat.add_assoc]
   ·cases hm
  ·cases hm
 |index t x i=>
  cases x with
  |const v=>
   cases v with
   |string s=>
    simp only[GC]at hc
    split at hc
    ·rename_i hu
     rw[GD]at hc
     obtain⟨i',hi',rfl⟩:=hc
     have h1:=Jd hi' (fun t ht=>hE t (by simpa[Kc.tmps]using ht))
     simp only[G7]at hm
     split at hm
     ·rename_i k z hz
      rw[hz]at h1
      simp only[V]at h1
      split at hm
      ·rename_i h0
       rw[GD]at hm
       obtain⟨v,hv,rfl⟩:=hm
       rw[Kr,GD]at hv
       obtain⟨c,hc',rfl⟩:=hv
       have hg:s[z.toNat]?=some c:=by
        rw[GjQ,Vo]at hc'
        obtain⟨hlt,rfl⟩:=hc'
        exact getElem?_pos s z.toNat hlt
       exact Vw.stay (v':=.int .u8 c.toNat) (by
        have hev:a.eval (.const (.string s))=.string s:=rfl
        simp[execOp,hev,Instr.index,run_underlying hu,h1,asIntOf,h0,hg]) fun _=>by simp[V]
      ·cases hm
     ·cases hm
    ·cases hc
   |_=>cases hc
  |tmp x=>
   simp only[GC]at hc
   split at hc
   ·rename_i l e hu
    obtain⟨hgd,hop⟩:=GI hc
    simp only[NH,beq_iff_eq]at hgd
    obtain⟨hs,ha⟩:=hgd
    rw[Jk]at hop
    obtain⟨x',hx',hop⟩:=hop
    rw[GD]at hop
    obtain⟨i',hi',rfl⟩:=hop
    have h1:=Jd hx' (fun t ht=>hE t (by simp[Kc.tmps,ht]))
    have h2:=Jd hi' (fun t ht=>hE t (by simp[Kc.tmps,ht]))
    simp only[G7]at hm
    split at hm
    ·rename_i cs k z e1 e2
     split at hm
     ·rename_i h0
      rw[GD]at hm
      obtain⟨c,hc',rfl⟩:=hm
      rw[e1]at h1
      rw[e2]at h2
      simp only[V]at h1 h2
      obtain⟨xs,hxe,hxs⟩:=h1
      obtain⟨v',hv1,hv2⟩:=VL.get hxs hc'
      have hg:xs[z.toNat]?=some v':=by simpa using hv1
      have hna:(isAgg e).run P w=.ok false w:=BO ha
      exact Vw.stay (v':=v') (by
       simp[execOp,hxe,h2,Instr.index,run_underlying hu,asIntOf,h0.1,h0.2,JC hs,Go.part,hna,hg]) fun _=>hv2
     ·cases hm
    ·cases hm
   ·cases hc
  |_=>cases hc
 |makeMap t r=>
  cases r with
  |none=>
   simp only[GC,GD]at hc
   obtain⟨_,_,rfl⟩:=hc
   simp only[G7,GA]at hm
   subst hm
   refine⟨.map (some w.heap.size),w.alloc (.map #[] 0),by simp[execOp,Instr.makeMap],⟨rfl,rfl,rfl⟩,.map #[] 0,rfl,.inr ⟨rfl,rfl,#[],0,rfl,rfl,MapKept.stamped_empty 0⟩,fun ρ k _ hk=>?_⟩
   simp only[V];exact⟨_,hk,rfl⟩
  |some r=>cases hc
 |mapUpdate t p x v=>
  simp only[GC,Jk,GD]at hc
  obtain⟨_,_,_,_,_,_,_,_,rfl⟩:=hc
  cases hm
 |lookup t p x ok=>
  simp only[GC,Jk,GD]at hc
  obtain⟨q,hq,p',hp,x',hx,rfl⟩:=hc
  have h1:=Jd hp (fun t ht=>hE t (by simp[Kc.tmps,ht]))
  have h2:=Jd hx (fun t ht=>hE t (by simp[Kc.tmps,ht]))
  simp only[G7,GD]at hm
  obtain⟨v,hv,rfl⟩:=hm
  obtain⟨v',hr,hV⟩:=Gb8 (P:=P) hS h1 h2 hq hv
  exact Vw.stay (v':=v') (GR rfl hr) fun _=>hV
 |extract x ix=>
  simp only[GC,GD]at hc
  obtain⟨y,hy,rfl⟩:=hc
  have h1:=Jd hy hE
  simp only[G7]at hm
  split at hm
  ·rename_i vs hvs
   rw[GD]at hm
   obtain⟨v,hv,rfl⟩:=hm
   rw[hvs]at h1
   simp only[V]at h1
   obtain⟨us,hus,hl⟩:=h1
   obtain⟨u,hu,hV⟩:=hl.get hv
   have hu':us[ix]?=some u:=by simpa using hu
   exact Vw.stay (v':=u) (by simp[execOp,hus,Instr.extract,hu']) fun _=>hV
  ·cases hm
 |call c=>
  obtain⟨callee,args,argTypes⟩:=c
  simp only[GC,O6]at hc
  split at hc
  ·rw[Jk]at hc
   obtain⟨l,hl,hc⟩:=hc
   obtain⟨_,hc⟩:=GI hc
   simp only[GA]at hc
   subst hc
   cases hm
  ·simp only[GD]at hc
   obtain⟨l,hl,hop⟩:=hc
   split at hop<;>(subst hop;cases hm)
  ·simp only[Jk,GD]at hc
   obtain⟨_,_,_,_,rfl⟩:=hc
   cases hm
  ·split at hc
   ·simp only[Jk,GD]at hc
    obtain⟨_,_,_,_,_,_,rfl⟩:=hc
    cases hm
   ·cases hc
  ·split at hc
   ·rename_i x t hxs ht
    have ha:args=#[x]:=by grind
    subst ha
    split at hc
    ·rename_i q hq
     simp only[GD]at hc
     obtain⟨y,hy,rfl⟩:=hc
     have h1:=Jd hy hE
     simp only[G7,GD]at hm
     obtain⟨es,hes,rfl⟩:=hm
     obtain⟨k,e,_,_,hu,_⟩:=Ve hq
     have hat:argTypes[0]?=some t:=ht
     refine Vw.stay (v':=.int .i64 es.length) ?_ fun _=>by simp[V]
     refine GR (s:=Builtin.len_ argTypes type #[a.eval x]) (by simp[execOp,resolve,invoke,builtin]) ?_
     have:=Gcf (P:=P) hS h1 hes (ty:=type) hu
     simpa[Builtin.len_,hat]using this
    simp only[Jk,GD]at hc
    obtain⟨e,he,y,hy,rfl⟩:=hc
    have h1:=Jd hy hE
    simp only[G7]at hm
    split at hm
    ·rename_i b o len cap ez tl hb
     simp only[GA]at hm
     subst hm
     rw[hb]at h1
     simp only[V]at h1
     obtain⟨mm,cap',off,hmm,hez,hxe,_⟩:=h1
     refine Vw.stay (v':=.int .i64 len) ?_ fun _=>by simp[V]
     simp[execOp,resolve,invoke,builtin,Builtin.len_,ht,run_underlying (Js he),hxe,goInt]
    ·rename_i hb
     simp only[GA]at hm
     subst hm
     rw[hb]at h1
     simp only[V]at h1
     refine Vw.stay (v':=.int .i64 0) ?_ fun _=>by simp[V]
     simp[execOp,resolve,invoke,builtin,Builtin.len_,ht,run_underlying (Js he),h1,goInt]
    ·cases hm
   ·cases hc
  ·split at hc
   ·split at hc
    ·simp only[GD]at hc
     obtain⟨l,hl,rfl⟩:=hc
     simp only[G7,GD]at hm
     obtain⟨v,hv,rfl⟩:=hm
     obtain⟨v',hr,hV⟩:=GfK (P:=P) (w:=w) true argTypes type (Uu hl (fun t ht=>hE t (by simpa[Kc.tmps]using ht))) hv
     exact Vw.stay (v':=v') (GR (s:=Builtin.max_ argTypes type (args.map a.eval)) (by simp[execOp,resolve,invoke,builtin]) (by simpa using hr)) fun _=>hV
    ·cases hc
   ·cases hc
  ·split at hc
   ·split at hc
    ·simp only[GD]at hc
     obtain⟨l,hl,rfl⟩:=hc
     simp only[G7,GD]at hm
     obtain⟨v,hv,rfl⟩:=hm
     obtain⟨v',hr,hV⟩:=GfK (P:=P) (w:=w) false argTypes type (Uu hl (fun t ht=>hE t (by simpa[Kc.tmps]using ht))) hv
     exact Vw.stay (v':=v') (GR (s:=Builtin.min_ argTypes type (args.map a.eval)) (by simp[execOp,resolve,invoke,builtin]) (by simpa using hr)) fun _=>hV
    ·cases hc
   ·cases hc
  ·split at hc
   ·rename_i s x t u hxs hts
    simp only[Jk]at hc
    obtain⟨e,he,e',he',n,hn,b,hb,z,hz,s',hs,x',hx,hg⟩:=hc
    obtain⟨hgd,hop⟩:=GI hg
    simp only[GA]at hop
    subst hop
    simp only[NH,decide_eq_true_eq]at hgd
    obtain⟨⟨⟨hn0,hb0⟩,hb4⟩,hzl⟩:=hgd
    obtain⟨i,v,hi,hv,hV⟩:=U7 ν hz
    have ha:args=#[s,x]:=by grind
    have hat:argTypes=#[t,u]:=by grind
    subst ha;subst hat
    have h1:=Jd hs (fun t ht=>hE t (by simp[Kc.tmps,ht]))
    have h2:=Jd hx (fun t ht=>hE t (by simp[Kc.tmps,ht]))
    simp only[G7,Jk]at hm
    obtain⟨q,hq,hm⟩:=hm
    have hT:GeF P t u n e i v:=by
     refine⟨Js he,⟨e',Js he'⟩,hi,hv,?_,?_,?_,hn0⟩
     ·obtain⟨i',hi',rfl⟩:=Ze hn
      grind
     ·have:=hV.length;simp at this;omega
     ·simp only[MO,hi,Option.map_some,GA]at hb;omega
    have:=Ec (P:=P) (ty:=type) hS hT h1 h2 hq hm
    simpa[execOp,resolve,invoke,builtin]using this
   ·cases hc
  ·split at hc
   ·simp only[Jk,GD]at hc
    obtain⟨_,_,_,_,_,_,_,_,_,_,rfl⟩:=hc
    cases hm
   ·cases hc
  ·split at hc
   ·split at hc
    ·simp only[GD]at hc
     obtain⟨_,_,rfl⟩:=hc
     cases hm
    simp only[Jk,GD]at hc
    obtain⟨_,_,_,_,_,_,rfl⟩:=hc
    cases hm
   ·cases hc
  ·cases hc
 |store t x v=>
  simp only[GC,Jk,GD]at hc
  obtain⟨_,_,_,_,_,_,rfl⟩:=hc
  cases hm
 |_=>simp only[GC]at hc;cases hc
end
end Go.Cs
namespace Go.Cs
open Go Go.RowKit
structure St(K:Nat→Option Obj)(B:Bs)(L:Nat)(ν:Mu)(H:Gb)(w:World):Prop where
 Nw:JZ K B ν H w
 dom:∀b,H.length≤b→b<L→ν b=none
structure Ext(L:Nat)(H:Gb)(ν:Mu)(H':Gb)(ν':Mu):Prop where
 len:H.length≤H'.length
 same:∀b,b<H.length→ν' b=ν b
 far:∀b,L≤b→ν' b=ν b
theorem Ext.refl(L:Nat)(H:Gb)(ν:Mu):Ext L H ν H ν:=⟨Nat.le_refl _,fun _ _=>rfl,fun _ _=>rfl⟩
theorem Ext.trans{L:Nat}{H H1 H2:Gb}{ν ν1 ν2:Mu}(h:Ext L H ν H1 ν1)(k:Ext L H1 ν1 H2 ν2):Ext L H ν H2 ν2:=
 ⟨J2 h.len k.len,fun b hb=>(k.same b (J6 hb h.len)).trans (h.same b hb),fun b hb=>(k.far b hb).trans (h.far b hb)⟩
theorem Ext.mono{K:Nat→Option Obj}{B:Bs}{L:Nat}{H H':Gb}{ν ν':Mu}{w:World}(h:Ext L H ν H' ν')(hS:St K B L ν H w):∀b m,ν b=some m→ν' b=some m:=by
 intro b m hm
 rcases VB b H.length with hb|hb
 ·rw[h.same b hb];exact hm
 ·rcases VB b L with hl|hl
  ·rw[hS.dom b hb hl]at hm;cases hm
  ·rw[h.far b hl];exact hm
def Fr(rd:Option Nat):Fence:={Fence.wide with round:=rd}
theorem Oo{rd:Option Nat}{p:Prop}(h:(Fr rd).depth.isSome=true):p:=by
 have:(none:Option Nat).isSome=true:=h
 cases this
def XD(P:Program)(z N _fn:Nat)(ps:Array Tmp)(a c:Code):Prop:=z % 2=0∧(∀t∈ps.toList,t<N)∧∃f0 f,VN P z=some (f0,f,ps,a,c)∧f.ntmps=N
structure Wh(P:Program)(B:Bs):Prop where
 rnd:B.rnd=XD P
 glob:ZR P B.toWorld
def XC(v:CV)(x:Exit):Prop:=(v=.i 0∧x=.normal)∨(v=.i 1∧x=.ret)∨∃id:Nat,v=.i (id+2)∧x=.exit id
def D5(P:Program)(F:GQ):Prop:=∀f args H r,F f args H=some r→H.length≤r.2.length∧
 (f<RB→(∃fn,P.funcs[f]?=some fn∧fn.name≠ "runtime.NumGoroutine" ∧fn.body.isSome=true)∧
  ∀K B L ν w (args':Array Value),Wh P B→r.2.length≤L→St K B L ν H w→VL ν args args'.toList→
   Calls P f args' w fun e w'=>∃v' ν',e=.returned v'∧St K B L ν' r.2 w'∧V ν' r.1 v'∧Ext L H ν r.2 ν')∧
 (∀z N fn ps a c,XD P z N fn ps a c→
  (f=RB+z→∃env,r.1=.Jj env∧env.length=N∧∀K B L ν w tmps l dp,Wh P B→r.2.length≤L→St K B L ν H w→(∀t,V ν (args.getD t .undef) (tmps.getD t undef))→N≤tmps.size→
   a.wpIn (Fr (some l)) dp P (fun x a1 w1=>∃ν',x=.normal∧a1.defers=[]∧N≤a1.tmps.size∧(∀t,V ν' (env.getD t .undef) (a1.tmps.getD t undef))∧St K B L ν' r.2 w1∧Ext L H ν r.2 ν') {tmps,defers:=[]} w)∧
  (f=RB+z+1→∀K B L ν w tmps l dp,Wh P B→r.2.length≤L→St K B L ν H w→(∀t,V ν (args.getD t .undef) (tmps.getD t undef))→N≤tmps.size→
   c.wpIn (Fr (some l)) dp P (fun x a1 w1=>∃ν',XC r.1 x∧St K B L ν' r.2 w1∧Ext L H ν r.2 ν') {tmps,defers:=[]} w))
theorem UQ{P:Program}{o:Oper}{op:Kc}(h:GC P o.op=some op):∀c,o.op≠.defer c:=by
 intro c e
 rw[e]at h
 cases h
section
variable {P : Program} {F : GQ} {ν : Mu} {E : Env} {a : Act} {w : World} {H : Gb} {K : Nat → Option Obj} {B : Bs} {L : Nat} {rd : Option Nat} {dp : Nat}
theorem JZ.free(h:JZ K B ν H w):K w.heap.size=none:=by
 cases hk:K w.heap.size with
 |none=>rfl
 |some o=>have:=(Vo.1 (h.kept _ _ hk)).1;omega
theorem St.push(h:St K B L ν H w)(hL:H.length<L){w':World}{arr:Array Value}{T:TypeId}(hh:w'.heap=w.heap.push (.cells arr T))(hs:Streams w w'){k:JE}(hk:k.mode=.rw)(hl:k.cells.length≤arr.size)
  (hv:∀(i:Nat)(x:CV),k.cells[i]?=some x→∃v,arr[i]?=some v∧V ν x v):
  St K B L (ν.set H.length ⟨w.heap.size,0,k.GN,arr.size⟩) (H++[k]) w'∧Ext L H ν (H++[k]) (ν.set H.length ⟨w.heap.size,0,k.GN,arr.size⟩):=by
 have hmono:∀b m,ν b=some m→(ν.set H.length ⟨w.heap.size,0,k.GN,arr.size⟩) b=some m:=by
  intro b m hm
  have hb:b≠H.length:=fun e=>by rw[e,h.dom _ (Nat.le_refl _) hL]at hm;cases hm
  rw[Mu.Jz _ _ hb];exact hm
 have h1:=(h.Nw.alloc (.cells arr T)).same (w':=w') hh hs.os hs.tape hs.output
 have h2:=h1.congr (ν:=ν.set H.length ⟨w.heap.size,0,k.GN,arr.size⟩) (fun b hb=>Mu.Jz _ _ oM) hmono
 have h3:=h2.adopt (c:=w.heap.size) (arr:=arr) (T:=T) (s:=0) sM h.Nw.base.size hk (by simpa using hl) (Mu.set_self _ _ _)
  (fun i x hx=>by obtain⟨v,hv',hV⟩:=hv i x hx;exact⟨v,by simpa using hv',V.mono hmono _ _ hV⟩)
 have hK:(fun d=>if d=w.heap.size then none else if d=w.heap.size then some (Obj.cells arr T)else K d)=K:=by
  funext d
  by_cases hd:d=w.heap.size
  ·rw[if_pos hd,hd];exact h.Nw.free.symm
  ·rw[if_neg hd,if_neg hd]
 rw[hK]at h3
 exact⟨⟨h3,fun b hb hl=>by simp at hb;rw[Mu.Jz _ _ oM];exact h.dom b oM hl⟩,⟨sM,fun b hb=>Mu.Jz _ _ oM,fun b hb=>Mu.Jz _ _ oM⟩⟩
theorem St.GkT(h:St K B L ν H w)(hL:H.length<L){w':World}{x:Obj}(hh:w'.heap=w.heap.push x)(hs:Streams w w'){k:JE}(hf:Bj ν k ⟨w.heap.size,0,k.GN,Ku x⟩ x):
  St K B L (ν.set H.length ⟨w.heap.size,0,k.GN,Ku x⟩) (H++[k]) w'∧Ext L H ν (H++[k]) (ν.set H.length ⟨w.heap.size,0,k.GN,Ku x⟩):=by
 rcases hf with⟨h1,h2,h3,arr,T,rfl,h5,h6,h7⟩|⟨h1,h0,es,cl,rfl,h3⟩
 ·exact h.push hL hh hs h1 h6 h7
 ·have hmono:∀b m,ν b=some m→(ν.set H.length ⟨w.heap.size,0,k.GN,0⟩) b=some m:=by
   intro b m hm
   have hb:b≠H.length:=fun e=>by rw[e,h.dom _ (Nat.le_refl _) hL]at hm;cases hm
   rw[Mu.Jz _ _ hb];exact hm
  have g2:=h.Nw.congr (ν:=ν.set H.length ⟨w.heap.size,0,k.GN,0⟩) (fun b hb=>Mu.Jz _ _ oM) hmono
  have g3:=g2.newObj (e:=k.GN) (z:=0) (Mu.set_self _ _ _) h.Nw.free h1 (JX.Gms h0 ⟨h3.1.mono hmono,h3.2⟩)
  have g4:=g3.same (w':=w') hh hs.os hs.tape hs.output
  exact⟨⟨g4,fun b hb hl=>by simp at hb;rw[Mu.Jz _ _ oM];exact h.dom b oM hl⟩,⟨sM,fun b hb=>Mu.Jz _ _ oM,fun b hb=>Mu.Jz _ _ oM⟩⟩
theorem JZ.Gl2(h:JZ K B ν H w){c:Nat}{arr Z0:Array Value}{T:TypeId}(hc:K c=some (.cells arr T))(hB:B.heap.size≤c):
  JZ (fun d=>if d=c then some (.cells Z0 T)else K d) B ν H (w.setRow c Z0):=by
 have hw:=h.kept c _ hc
 refine⟨h.base.trans ⟨rfl,rfl,rfl,sM,fun q hq=>setRow_other w c q _ oM⟩,fun d x hx=>?_,fun b k m hb hd hd' hm=>?_,h.inj,fun b k m hb hd hm=>?_⟩
 ·split at hx
  ·rename_i e;subst e;simp only[GA]at hx;subst hx;exact setRow_heap w d arr Z0 T (0,0) hw
  ·rename_i e;rw[setRow_other w c d _ e];exact h.kept d x hx
 rotate_left
 ·obtain⟨ob,hw',hr,hB',hK'⟩:=h.mp b k m hb hd hm
  have hne:m.c≠c:=h.Zf hc hB hb (by rw[hd];decide) hm
  exact⟨ob,by rw[setRow_other w c m.c _ hne];exact hw',hr,hB',by rw[if_neg hne];exact hK'⟩
 ·obtain⟨a,T',fz,hw',hcc,hr,hro⟩:=h.blk b k m hb hd hd' hm
  have hne:m.c≠c:=h.Zf hc hB hb hd hm
  refine⟨a,T',fz,by rw[setRow_other w c m.c _ hne];exact hw',hcc,fun e=>?_,hro⟩
  grind
def Next.after(rd:Option Nat)(dp:Nat)(P:Program)(o:Oper)(a:Act)(w:World)(K:Nat→Option Obj)(B:Bs)(L:Nat)(H:Gb)(ν:Mu)(r:CV×Gb):Prop:=
 ∀(next:Act→World→Prop)(Q:Exit→Act→World→Prop),(∀v' w' ν',St K B L ν' r.2 w'→V ν' r.1 v'→Ext L H ν r.2 ν'→next (a.put o.dst v') w')→o.wpIn (Fr rd) dp P a w next Q
theorem J7{o:Oper}(hnd:∀c,o.op≠.defer c){r:CV×Gb}{v':Value}{w':World}{ν':Mu}(h:(execOp a.eval o).run P w=.ok (.value v') w')(hS:St K B L ν' r.2 w')(hV:V ν' r.1 v')(hE:Ext L H ν r.2 ν'):Next.after rd dp P o a w K B L H ν r:=
 fun next Q hn=>by
  refine⟨fun _ _=>trivial,?_⟩
  rw[Oper.semAt_eq _ _ _ hnd,h]
  exact hn v' w' ν' hS hV hE
theorem I_{o:Oper}(hnd:∀c,o.op≠.defer c){r:CV×Gb}{w':World}{ν':Mu}(h:(execOp a.eval o).run P w=.ok .skip w')(hS:St K B L ν' r.2 w')(hr:r.1=.undef)(hE:Ext L H ν r.2 ν'):Next.after rd dp P o a w K B L H ν r:=
 fun next Q hn=>by
  refine⟨fun _ _=>trivial,?_⟩
  rw[Oper.semAt_eq _ _ _ hnd,h]
  exact hn undef w' ν' hS (by rw[hr];simp only[V];exact⟨#[],rfl,by simp[VL]⟩) hE
theorem Vb(hG:ZR P B.toWorld)(hS:St K B L ν H w){o:Oper}{op:Kc}(hc:GC P o.op=some op)(hE:∀t∈op.tmps,V ν (E t) (a.tmps.getD t undef)){m:Option JE×(Nat→CV)}(hm:G7 op E H=some m)(hL:(made H m).2.length≤L):
  Next.after rd dp P o a w K B L H ν (made H m):=by
 obtain⟨v',w',hr,hs,hh⟩:=Ggy (P:=P) hG hS.Nw hc hE hm
 obtain⟨ob,f⟩:=m
 cases ob with
 |none=>
  obtain⟨hw,hv⟩:=hh
  exact J7 (UQ hc) hr ⟨hS.Nw.same hw hs.os hs.tape hs.output,hS.dom⟩ (hv _) (Ext.refl _ _ _)
 |some k=>
  obtain⟨x,hw,hf,hp⟩:=hh
  obtain⟨h1,h2⟩:=hS.GkT (by simp[made]at hL;omega) hw hs hf
  exact J7 (UQ hc) hr h1 (hp _ _ (h2.mono hS) (Mu.set_self _ _ _)) h2
theorem Ge0(hS:St K B L ν H w){t:TypeId}{n b o:Nat}{x:CV}{xv:Value}(hn:sizeT P t=some n){m:Z6}(hm:ν b=some m)(hx:V ν x xv)(hl:(cellsOf x).length=n){H':Gb}(hs:Nh H b o (cellsOf x)=some H'):
  ∃w',(storeVar t ⟨m.c,m.s+o,none⟩ xv).run P w=.ok () w'∧St K B L ν H' w'∧H'.length=H.length:=by
 obtain⟨arr,T,hw,hfit,h1,hS',hlen⟩:=hS.Nw.write hs hm hx.cells
 have hsz:xv.cells.size=n:=by have:=hx.cells.length;simp at this;omega
 have hr:=run_storeCells_at P m.c (m.s+o) T xv.cells.toList 0 arr w hw (by simpa using hfit) h1
 simp only[Nat.add_zero]at hr
 refine⟨_,?_,⟨hS',fun b' hb' hl'=>hS.dom b' oM hl'⟩,hlen⟩
 simp only[storeVar,Sem.run_bind,JC hn,Result.andThen_ok,hsz,ne_eq,not_true_eq_false,if_false,hr]
theorem Tn(hS:St K B L ν H w){b o:Nat}{cs:List CV}{vs:List Value}{m:Z6}(hm:ν b=some m)(hv:VL ν cs vs){H':Gb}(hs:Nh H b o cs=some H'):
  ∃w',(storeCells ⟨m.c,m.s+o,none⟩ vs).run P w=.ok () w'∧St K B L ν H' w'∧H'.length=H.length:=by
 obtain⟨arr,T,hw,hfit,h1,hS',hlen⟩:=hS.Nw.write hs hm hv
 have hr:=run_storeCells_at P m.c (m.s+o) T vs 0 arr w hw (by simpa using hfit) h1
 simp only[Nat.add_zero]at hr
 exact⟨_,hr,⟨hS',fun b' hb' hl'=>hS.dom b' oM hl'⟩,hlen⟩
theorem FN{t u ty e:TypeId}{n:Nat}{i:TypeInfo}{z:Value}(hT:GeF P t u n e i z){ad:Addr}{sLen sCap:Nat}{x:Value}{k:Nat}{new:Array Value}(hx:(Builtin.lenOf x).run P w=.ok k w)
  (hroom:sLen+k≤sCap)(hnew:(Builtin.firstCells n k x).run P w=.ok new w){w':World}(hst:(storeCells (ad.add (sLen*n)) new.toList).run P w=.ok () w'):
  (Builtin.append_ #[t,u] ty #[.slice (some ad) sLen sCap,x]).run P w=.ok (.slice (some ad) (sLen+k) sCap) w':=by
 obtain⟨e',hu⟩:=hT.hu
 simp[Builtin.append_,run_underlying hT.ht,run_underlying hu,sizeOf,typeInfo,hT.hi,hx,hT.hn,hroom,hnew,hst]
theorem Gb1(hS:St K B L ν H w){t u ty e:TypeId}{n:Nat}{i:TypeInfo}{z:Value}(hT:GeF P t u n e i z){s x:CV}{sv xv:Value}(hs:V ν s sv)(hx:V ν x xv){q:Nat×List CV}(he:elems H n x=some q)
  {r:CV×Gb}(h:Ju H n s q.1 q.2=some r)(hL:r.2.length≤L):∃v' w' ν',(Builtin.append_ #[t,u] ty #[sv,xv]).run P w=.ok v' w'∧St K B L ν' r.2 w'∧V ν' r.1 v'∧Ext L H ν r.2 ν':=by
 have steady:∀m,NQ H n s q.1 q.2=some m→r=made H m→∃v' w' ν',(Builtin.append_ #[t,u] ty #[sv,xv]).run P w=.ok v' w'∧St K B L ν' r.2 w'∧V ν' r.1 v'∧Ext L H ν r.2 ν':=by
  intro m hm hr
  subst hr
  obtain⟨v',w',hrun,hst,hh⟩:=Ec (P:=P) (ty:=ty) hS.Nw hT hs hx he hm
  have hrun':(Builtin.append_ #[t,u] ty #[sv,xv]).run P w=.ok v' w':=by
   simp only[Sem.run_bind]at hrun
   generalize (Builtin.append_ #[t,u] ty #[sv,xv]).run P w=g at*
   cases g with
   |ok v2 w2=>simp_all
   |halt x w2=>simp at hrun
  obtain⟨ob,f⟩:=m
  cases ob with
  |none=>
   obtain⟨hw,hv⟩:=hh
   exact⟨v',w',ν,hrun',⟨hS.Nw.same hw hst.os hst.tape hst.output,hS.dom⟩,hv _,Ext.refl _ _ _⟩
  |some k=>
   obtain⟨x,hw,hf,hp⟩:=hh
   obtain⟨h1,h2⟩:=hS.GkT (by simp[made]at hL;omega) hw hst hf
   exact⟨v',w',_,hrun',h1,hp _ _ (h2.mono hS) (Mu.set_self _ _ _),h2⟩
 unfold Ju at h
 split at h
 ·split at h
  ·rename_i h0
   simp only[GA]at h
   exact steady (none,fun _=>.Gd) (by unfold NQ;simp only[if_pos h0]) h.symm
  ·rename_i h0
   split at h
   ·rename_i hmax
    simp only[GA]at h
    exact steady (some ⟨q.2,.rw,n⟩,fun k=>.slice k 0 q.1 q.1 n true) (by unfold NQ;simp only[if_neg h0,if_pos hmax]) h.symm
   ·cases h
 ·rename_i b o len cap ez tail
  split at h
  ·rename_i h0
   simp only[GA]at h
   exact steady (none,fun _=>.slice b o len cap ez tail) (by unfold NQ;simp only[if_pos h0]) h.symm
  ·rename_i h0
   have hlen:=Rf (P:=P) (w:=w) hx he
   obtain⟨new,Wl,hns,hnew⟩:=A7 (P:=P) hS.Nw hx he
   have hs2:=hs
   simp only[V]at hs2
   obtain⟨mm,cap',off,hb,hez,hsv,hl,htail,hoff,hfit⟩:=hs2
   have hcc:cap≤cap':=by split at htail<;>omega
   split at h
   ·
    rename_i hroom
    rw[GD]at h
    obtain⟨H',hH',rfl⟩:=h
    have ZI:=hoff.resolve_left oM
    obtain⟨w',hst,hS',hlen'⟩:=Tn (P:=P) hS hb Wl hH'
    subst hsv
    refine⟨_,w',ν,FN hT hlen oM (hnew w rfl) (w':=w') (by rw[Addr.add_lit,ZI,Nat.add_assoc];exact hst),hS',?_,⟨by dsimp only;omega,fun _ _=>rfl,fun _ _=>rfl⟩⟩
    simp only[V]
    grind
   ·rename_i hroom
    split at h
    ·rename_i hmax
     rw[Jk]at h
     obtain⟨old,hold,h⟩:=h
     cases tail with
     |false=>
      simp only[Bool.false_eq_true,if_false,GA]at h
      exact steady (some ⟨old++q.2,.rw,n⟩,fun k=>.slice k 0 (len+q.1) (len+q.1) n true) (by unfold NQ;grind) h.symm
     |true=>
      simp only[if_true]at h htail
      split at h
      ·rename_i blk hblk
       split at h
       ·rename_i hcond
        obtain⟨hrw,hee,hend,RF⟩:=hcond
        simp only[GA]at h
        subst h
        have GwT:old.length=len*n:=by
         split at hold
         ·grind
         ·exact(hS.Nw.JD hold hb).1
        have Gxg:q.2.length=q.1*n:=by have:=Wl.length;simp at this;omega
        by_cases hin:len+q.1≤cap'
        ·
         obtain⟨arr,T,hwm,Gh5,Guc,hfits,hBc,hown⟩:=hS.Nw.own hblk hrw hb
         have hKn:K mm.c=none:=by
          exact hS.Nw.loose hblk (.inl hrw) hb
         have ZI:=hoff.resolve_left oM
         rw[ZI,hez,hee]at hfit
         have h1:(len+q.1)*n≤cap'*n:=Nat.mul_le_mul_right _ hin
         rw[Nat.add_mul]at h1
         have Xn:mm.s+(o+len*n)+new.toList.length≤arr.size:=by
          grind
         have hr:=run_storeCells_at P mm.c (mm.s+(o+len*n)) T new.toList 0 arr w hwm (by simpa using Xn) (Wl.leaf RF)
         simp only[Nat.add_zero]at hr
         generalize Go5:(arr.toList.take (mm.s+(o+len*n))++new.toList++arr.toList.drop (mm.s+(o+len*n)+new.toList.length)).toArray=Z0 at hr
         have hsz2:Z0.size=arr.size:=by grind
         have hmono:∀b' m',ν b'=some m'→(ν.set H.length ⟨mm.c,mm.s+o,n,Z0.size⟩) b'=some m':=by
          intro b' m' hm'
          have hb':b'≠H.length:=fun e=>by rw[e,hS.dom _ (Nat.le_refl _) (by simp at hL;omega)]at hm';cases hm'
          rw[Mu.Jz _ _ hb'];exact hm'
         have hre:=hown.Gl2 (c:=mm.c) (arr:=arr) (Z0:=Z0) (T:=T) sM hBc
         have Gv1:=hre.congr (ν:=ν.set H.length ⟨mm.c,mm.s+o,n,Z0.size⟩) (fun b' hb'=>Mu.Jz _ _ (by simp at hb';omega)) hmono
         have had:=Gv1.adopt (k:=⟨old++q.2,.rw,n⟩) (c:=mm.c) (arr:=Z0) (T:=T) (s:=mm.s+o) sM hBc rfl
          (by
            refine⟨fun e=>?_,?_⟩
            ·have:=hT.hpos;dsimp only at e;omega
            grind) (by simp only[List.length_set];exact Mu.set_self _ _ _) (fun i c hi=>by
           dsimp only at hi
           by_cases hlt:i<old.length
           ·rw[IJ hlt]at hi
            have hl0:len≠0:=fun e=>by grind
            rw[if_neg hl0]at hold
            obtain⟨_,vs,hvs,hcell⟩:=hS.Nw.JD hold hb
            obtain⟨v,hv,hV⟩:=hvs.get hi
            have hc2:=hcell i v hv
            simp only[World.cell?,hwm]at hc2
            refine⟨v,?_,V.mono hmono _ _ hV⟩
            grind
           ·rw[lX8 oM]at hi
            obtain⟨v,hv,hV⟩:=Wl.get hi
            refine⟨v,?_,V.mono hmono _ _ hV⟩
            have hvl:=(ZK.1 hv).1
            rw[←Go5,List.getElem?_toArray,List.append_assoc,lX8 (by simp;omega),IJ (by simp at Xn hvl⊢;omega),←hv]
            congr 1
            grind)
         have hKK:(fun d=>if d=mm.c then none else if d=mm.c then some (Obj.cells Z0 T)else if d=mm.c then some (Obj.cells arr T)else K d)=K:=by
          grind
         rw[hKK]at had
         subst hsv
         refine⟨_,_,_,FN hT hlen hin (hnew w rfl) (by rw[Addr.add_lit,ZI,Nat.add_assoc];exact hr),⟨had,fun b' hb' hl'=>?_⟩,?_,⟨sM,fun b' hb'=>Mu.Jz _ _ oM,fun b' hb'=>Mu.Jz _ _ (by simp at hL;omega)⟩⟩
         ·simp at hb'
          rw[Mu.Jz _ _ oM]
          exact hS.dom b' oM hl'
         ·simp only[V]
          refine⟨_,cap',off,Mu.set_self _ _ _,rfl,rfl,hin,by simp;omega,.inr (by rw[ZI];simp),?_⟩
          grind
        ·
         have Gh8:St K B L ν (H.set b {blk with mode:=.dead}) w:=⟨hS.Nw.kill hblk,fun b' hb' hl'=>hS.dom b' (by simpa using hb') hl'⟩
         have:∃Gep:Array Value,VL ν old Gep.toList∧Gep.size=len*n∧∀w',w'.heap=w.heap→(Builtin.firstCells n len sv).run P w'=.ok Gep w':=by
          have he':elems H n (.slice b o len cap ez true)=some (len,old):=by
           unfold elems
           grind
          exact A7 (P:=P) hS.Nw hs he'
         obtain⟨Gep,hov,hos,WB⟩:=this
         rw[hsv]at WB
         subst hsv
         obtain⟨cap2,rest,hr,hge,hsz⟩:=ZG (P:=P) (w:=w) (ty:=ty) hT hlen oM hmax WB hnew hos hns
         obtain⟨h1,h2⟩:=Gh8.push (by simp at hL⊢;omega) (k:=⟨old++q.2,.rw,n⟩) (w':=w.drew.alloc (.cells (Gep++new++rest) e)) (arr:=Gep++new++rest) (T:=e) rfl ⟨rfl,rfl,rfl⟩ rfl
          (by
           grind)
          (fun j c hj=>by
           obtain⟨v,hv,hV⟩:=(hov.append Wl).get hj
           grind)
         refine⟨_,_,_,hr,h1,?_,⟨sM,fun b' hb'=>?_,fun b' hb'=>h2.far b' hb'⟩⟩
         ·simp only[V]
          refine⟨_,cap2,0,by rw[List.length_set];exact Mu.set_self _ _ _,rfl,rfl,hge,by simp;exact hge,.inr sM,?_⟩
          grind
         ·rw[List.length_set]
          exact Mu.Jz _ _ oM
       ·cases h
      ·cases h
    ·cases h
 ·cases h
end
end Go.Cs
namespace Go.Cs
open Go
def Le{α:Type}(x y:Option α):Prop:=∀r,x=some r→y=some r
theorem Le.refl{α:Type}(x:Option α):Le x x:=fun _ h=>h
theorem Le.trans{α:Type}{x y z:Option α}(h:Le x y)(k:Le y z):Le x z:=fun r e=>k r (h r e)
theorem Le.none{α:Type}(y:Option α):Le Option.none y:=fun _ h=>by cases h
theorem Le.bind{α β:Type}{x y:Option α}{f g:α→Option β}(h:Le x y)(k:∀a,Le (f a) (g a)):Le (x.bind f) (y.bind g):=by
 intro r e
 cases hx:x with
 |none=>rw[hx]at e;cases e
 |some a=>rw[hx]at e;rw[h a hx];exact k a r e
theorem Le.map{α β:Type}{x y:Option α}(f:α→β)(h:Le x y):Le (x.map f) (y.map f):=by
 intro r e
 cases hx:x with
 |none=>rw[hx]at e;cases e
 |some a=>rw[hx]at e;rw[h a hx];exact e
def GQ.le(F G:GQ):Prop:=∀f a H,Le (F f a H) (G f a H)
theorem Ee{F G:GQ}(h:F.le G)(b z:Nat)(r:CV×Gb):Le (KO F b z r) (KO G b z r):=by
 unfold KO
 split
 ·split
  ·exact Le.bind (h _ _ _) fun _=>Le.refl _
  ·exact Le.refl _
 ·exact Le.refl _
theorem Oi{F G:GQ}(h:F.le G)(b:Nat)(args:List CV)(H:Gb):Le (yieldOf F b args H) (yieldOf G b args H):=by
 unfold yieldOf
 split
 ·split
  ·exact Le.bind (h _ _ _) fun _=>Ee h _ _ _
  ·exact Le.refl _
 ·exact Le.refl _
theorem OM{F G:GQ}(h:F.le G)(g:CV)(ps:List Nat)(n z:Nat)(E:Env)(H:Gb):Le (ND F g ps n z E H) (ND G g ps n z E H):=by
 unfold ND
 split
 ·split
  ·exact h _ _ _
  ·exact Le.refl _
 ·exact Le.refl _
theorem GbY{F G:GQ}(h:F.le G)(op:Kc)(E:Env)(H:Gb):Le (JY F op E H) (JY G op E H):=by
 unfold JY
 cases op with
 |call f args=>exact h _ _ _
 |KH g args=>
  dsimp only
  cases E.ev g<;>first|exact Le.refl _|exact Oi h _ _ _|(dsimp only;split<;>first|exact h _ _ _|exact Le.refl _)
 |Bc g args IE=>
  dsimp only
  split
  ·split
   ·exact h _ _ _
   ·exact Le.refl _
  ·exact Le.bind (Le.refl _) fun _=>h _ _ _
  ·exact Oi h _ _ _
  ·exact Le.refl _
 |Sk name x args IE=>
  dsimp only
  split
  ·exact Le.bind (Le.refl _) fun _=>h _ _ _
  ·exact Le.refl _
 |_=>exact Le.refl _
theorem RA{F G:GQ}(h:F.le G)(s:GH)(E:Env)(H:Gb):Le (Qs F s E H) (Qs G s E H):=by
 unfold Qs
 cases wanted s.guard E
 ·exact Le.refl _
 ·exact Le.map _ (GbY h _ _ _)
theorem Dm{F G:GQ}(h:F.le G):∀(l:List GH)(E:Env)(H:Gb),Le (JW F l E H) (JW G l E H)
 |[],_,_=>Le.refl _
 |s::r,E,H=>by
  unfold JW
  exact Le.bind (RA h s E H) fun p=>Dm h r p.1 p.2
theorem Fj{F G:GQ}(h:F.le G):∀(l:List G8)(E:Env)(H:Gb)(hs:List Gb),Le (AU F l E H hs) (AU G l E H hs)
 |[],_,_,_=>Le.refl _
 |d::r,E,H,hs=>by
  unfold AU
  split
  ·exact Fj h r _ _ _
  ·split
   ·exact Le.bind (GbY h _ _ _) fun p=>Fj h r _ _ _
   ·refine Le.bind (Le.refl _) fun m=>?_
    split
    ·exact Fj h r _ _ _
    ·exact Le.refl _
theorem VF{p:J5}{n m:Nat}(h:∀c E H,Le (ev p n c E H) (ev p m c E H)):(Kk p n).le (Kk p m):=by
 intro f a H
 unfold Kk
 refine Le.bind (Le.refl _) fun cf=>?_
 split
 ·exact Le.bind (h _ _ _) fun r=>Le.refl _
 ·exact Le.refl _
theorem Zc{R S:Env→Gb→Option (CX×Env×Gb)}(h:∀E H,Le (R E H) (S E H))(q:RM)(mb:Nat)(es:List CV)(it:Nat):∀(l:List CV)(E:Env)(H:Gb),Le (Kb R q mb es it l E H) (Kb S q mb es it l E H)
 |[],E,H=>Le.refl _
 |e::l,E,H=>by
  unfold Kb
  refine Le.bind (h _ _) fun r=>?_
  split
  ·cases r.1 with
   |normal=>exact Zc h q mb es it l _ _
   |exit id=>exact Le.refl _
   |ret=>exact Le.refl _
  ·exact Le.refl _
theorem FL{R S:Env→Gb→Option (CX×Env×Gb)}(h:∀E H,Le (R E H) (S E H))(id:Nat)(r:CX×Env×Gb):Le (Np id R r) (Np id S r):=by
 unfold Np
 cases r.1.inBlock id with
 |normal=>exact h _ _
 |exit i=>exact Le.refl _
 |ret=>exact Le.refl _
theorem Hq{Rb Rr Sb Sr:Env→Gb→Option (CX×Env×Gb)}(hb:∀E H,Le (Rb E H) (Sb E H))(hr:∀E H,Le (Rr E H) (Sr E H))(q:RM)(mb:Nat)(es:List CV)(E:Env)(H:Gb)(l:List CV):
  Le (JF Rb Rr q mb es E H l) (JF Sb Sr q mb es E H l):=by
 unfold JF
 exact Le.bind (Zc hb _ _ _ _ _ _ _) fun r=>FL hr q.id _
theorem Gdv{α:Type}{p:α→Prop}{r:α}(h:pick p=some r):p r:=by
 unfold pick at h
 split at h
 ·rename_i hx;cases h;exact hx.choose_spec
 ·cases h
theorem Gj4{α:Type}{p:α→Prop}{r:α}(h:p r):∃x,pick p=some x∧p x:=by
 have hx:∃r,p r:=⟨r,h⟩
 exact⟨hx.choose,by unfold pick;rw[dif_pos hx],hx.choose_spec⟩
theorem VW{Rb Rr:Env→Gb→Option (CX×Env×Gb)}{q:RM}{m:CV}{E:Env}{H:Gb}{r:CX×Env×Gb}(h:KG Rb Rr q m E H=some r):
  ∃mb es,mapOf H m=some (mb,es)∧OkR Rb Rr q mb es E H r:=by
 unfold KG at h
 rw[Jk]at h
 obtain⟨⟨mb,es⟩,he,h⟩:=h
 exact⟨mb,es,he,Gdv h⟩
theorem WG{Rb Rr:Env→Gb→Option (CX×Env×Gb)}{q:RM}{m:CV}{E:Env}{H:Gb}{r:CX×Env×Gb}{mb:Nat}{es:List CV}(he:mapOf H m=some (mb,es))(h:OkR Rb Rr q mb es E H r):
  ∃x,KG Rb Rr q m E H=some x∧OkR Rb Rr q mb es E H x:=by
 unfold KG
 rw[he]
 exact Gj4 h
theorem HZ{Rb Rr Sb Sr:Env→Gb→Option (CX×Env×Gb)}{q:RM}{m:CV}{E:Env}{H:Gb}{r:CX×Env×Gb}(h:KG Rb Rr q m E H=some r)
  (hl:∀mb es l,l.Perm es→∀z,mapOf H m=some (mb,es)→JF Rb Rr q mb es E H l=some z→JF Sb Sr q mb es E H l=some z):KG Sb Sr q m E H=some r:=by
 obtain⟨mb,es,he,ho⟩:=VW h
 rw[←h]
 unfold KG
 rw[he,Option.bind_some,Option.bind_some]
 congr 1
 funext x
 apply propext
 constructor
 ·intro hx l p
  obtain⟨z,hz,-⟩:=ho l p
  obtain⟨y,hy,hL⟩:=hx l p
  rw[hl mb es l p z he hz]at hy
  cases hy
  exact⟨z,hz,hL⟩
 ·intro hx l p
  obtain⟨z,hz,hL⟩:=hx l p
  exact⟨z,hl mb es l p z he hz,hL⟩
theorem ZU{Rb Rr Sb Sr:Env→Gb→Option (CX×Env×Gb)}(hb:∀E H,Le (Rb E H) (Sb E H))(hr:∀E H,Le (Rr E H) (Sr E H))(q:RM)(m:CV)(E:Env)(H:Gb):
  Le (KG Rb Rr q m E H) (KG Sb Sr q m E H):=fun _ h=>
 HZ h fun _ _ _ _ _ _ hz=>Hq hb hr _ _ _ _ _ _ _ hz
def laid{α:Type}(a:α):List α→List (List α)
 |[]=>[[a]]
 |b::l=>(a::b::l)::(laid a l).map (b::·)
def orders{α:Type}:List α→List (List α)
 |[]=>[[]]
 |a::l=>(orders l).flatMap (laid a)
theorem Wo{α:Type}{a:α}:∀(s t:List α),s++a::t∈laid a (s++t)
 |[],[]=>by simp[laid]
 |[],b::t=>by simp[laid]
 |b::s,t=>by
  simp only[List.cons_append,laid,List.mem_cons,KI]
  exact .inr ⟨_,Wo s t,rfl⟩
theorem BM{α:Type}:∀(l p:List α),p.Perm l→p∈orders l
 |[],p,h=>by rw[List.Perm.eq_nil h];simp[orders]
 |a::l,p,h=>by
  have ha:a∈p:=h.mem_iff.2 QT
  obtain⟨s,t,rfl⟩:=List.append_of_mem ha
  have h1:(s++t).Perm l:=(List.perm_middle.symm.trans h).cons_inv
  simp only[orders,List.mem_flatMap]
  exact⟨s++t,BM l _ h1,Wo s t⟩
theorem Ot{α:Type}{p:Nat→α→Prop}(hm:∀n m a,n≤m→p n a→p m a):∀(l:List α),(∀a∈l,∃n,p n a)→∃n,∀a∈l,p n a
 |[],_=>⟨0,sM⟩
 |a::l,h=>by
  obtain⟨n,hn⟩:=h a QT
  obtain⟨m,hm'⟩:=Ot hm l fun b hb=>h b (VA _ hb)
  refine⟨max n m,fun b hb=>?_⟩
  grind
theorem Kh(p:J5)(n:Nat)(c:Gn)(E:Env)(H:Gb):ev p (n+1) c E H=
  (match c with
  |.skip=>some (.normal,E,H)
  |.region ops=>(JW (Kk p n) ops E H).map fun q=>(.normal,q.1,q.2)
  |.QK ops=>(AU (Kk p n) ops E H []).map fun q=>(.normal,q.1,q.2)
  |.seq a b=>(ev p n a E H).bind fun r=>match r.1 with|.normal=>ev p n b r.2.1 r.2.2|_=>some r
  |.cond c a b=>match E.ev c with|.bool t=>ev p n (if t then a else b) E H|_=>none
  |.block id c=>(ev p n c E H).map fun r=>(r.1.inBlock id,r.2)
  |.loop c=>(ev p n c E H).bind fun r=>match r.1 with|.normal=>ev p n (.loop c) r.2.1 r.2.2|_=>some r
  |.Nc g ps k z=>(ND (Kk p n) (E.ev g) ps k z E H).bind (Ux E H.length)
  |.Qv q b r=>KG (ev p n b) (ev p n r) q (E.ev q.m) E H
  |.exit id=>some (.exit id,E,H)
  |.ret=>some (.ret,E,H)):=by
 cases c<;>rfl
theorem BS(p:J5):∀(n:Nat)(c:Gn)(E:Env)(H:Gb),Le (ev p n c E H) (ev p (n+1) c E H)
 |0,_,_,_=>Le.none _
 |n+1,c,E,H=>by
  have ih:=BS p n
  rw[Kh p n,Kh p (n+1)]
  cases c with
  |skip=>exact Le.refl _
  |region ops=>exact Le.map _ (Dm (VF ih) _ _ _)
  |QK ops=>exact Le.map _ (Fj (VF ih) _ _ _ _)
  |seq a b=>exact Le.bind (ih _ _ _) fun r=>by cases r.1<;>first|exact ih _ _ _|exact Le.refl _
  |cond c a b=>
   show Le (match E.ev c with|.bool t=>ev p n (if t then a else b) E H|_=>none) (match E.ev c with|.bool t=>ev p (n+1) (if t then a else b) E H|_=>none)
   cases E.ev c<;>first|exact ih _ _ _|exact Le.refl _
  |block id c=>exact Le.map _ (ih _ _ _)
  |loop c=>exact Le.bind (ih _ _ _) fun r=>by cases r.1<;>first|exact ih _ _ _|exact Le.refl _
  |Nc g ps k z=>exact Le.bind (OM (VF ih) _ _ _ _ _ _) fun r=>Le.refl _
  |Qv q b r=>exact ZU (ih b) (ih r) _ _ _ _
  |exit id=>exact Le.refl _
  |ret=>exact Le.refl _
theorem VD(p:J5){n m:Nat}(h:n≤m)(c:Gn)(E:Env)(H:Gb):Le (ev p n c E H) (ev p m c E H):=by
 induction h with
 |refl=>exact Le.refl _
 |step _ ih=>exact ih.trans (BS p _ c E H)
theorem Vu(p:J5){n m:Nat}(h:n≤m):(Kk p n).le (Kk p m):=VF (VD p h)
open Classical in
noncomputable def lim{α:Type}(f:Nat→Option α):Option α:=if h:∃r n,f n=some r then some h.choose else none
theorem Xh{α:Type}{f:Nat→Option α}(hm:∀n m,n≤m→Le (f n) (f m)){r:α}:lim f=some r↔∃n,f n=some r:=by
 unfold lim
 constructor
 ·intro h
  split at h
  ·grind
  ·cases h
 ·rintro ⟨n,hn⟩
  have hh:∃r n,f n=some r:=⟨r,n,hn⟩
  rw[dif_pos hh]
  obtain⟨m,hm'⟩:=hh.choose_spec
  have e1:=hm n (max n m) (Nat.le_max_left _ _) _ hn
  have e2:=hm m (max n m) (Nat.le_max_right _ _) _ hm'
  rw[e1]at e2
  simpa using e2.symm
noncomputable def den(p:J5)(c:Gn)(E:Env)(H:Gb):Option (CX×Env×Gb):=lim fun n=>ev p n c E H
noncomputable def run(p:J5):GQ:=fun f a H=>lim fun n=>Kk p n f a H
theorem Kz{p:J5}{c:Gn}{E:Env}{H:Gb}{r:CX×Env×Gb}:den p c E H=some r↔∃n,ev p n c E H=some r:=
 Xh fun _ _ h=>VD p h c E H
theorem NR{p:J5}{f:Nat}{a:List CV}{H:Gb}{r:CV×Gb}:run p f a H=some r↔∃n,Kk p n f a H=some r:=
 Xh fun _ _ h=>Vu p h f a H
theorem F4(p:J5)(n:Nat):(Kk p n).le (run p):=fun _ _ _ r h=>NR.2 ⟨n,h⟩
theorem XB{α:Type}{x y:Option α}(h:∀r,x=some r↔y=some r):x=y:=by
 cases hx:x with
 |none=>
  cases hy:y with
  |none=>rfl
  |some r=>grind
 |some r=>exact((h r).1 hx).symm
theorem LY{p:J5}{b z:Nat}{q:CV×Gb}{r:CV×Gb}(h:KO (run p) b z q=some r):∃n,KO (Kk p n) b z q=some r:=by
 unfold KO at*
 split at h
 ·rename_i env s ps e0 z h1 h2
  split at h
  ·rename_i hc
   rw[Jk]at h
   obtain⟨q,hq,h⟩:=h
   obtain⟨n,hn⟩:=NR.1 hq
   grind
  ·cases h
 ·cases h
theorem Dz{p:J5}{b:Nat}{args:List CV}{H:Gb}{r:CV×Gb}(h:yieldOf (run p) b args H=some r):∃n,yieldOf (Kk p n) b args H=some r:=by
 unfold yieldOf at*
 split at h
 ·rename_i s ps env z hb
  split at h
  ·rename_i hc
   rw[Jk]at h
   obtain⟨q,hq,h⟩:=h
   obtain⟨n,hn⟩:=NR.1 hq
   obtain⟨m,hm⟩:=LY h
   exact⟨max n m,by
    simp only[hc,and_self,if_true]
    rw[Vu p (Nat.le_max_left n m) _ _ _ _ hn,Option.bind_some]
    exact Ee (Vu p (Nat.le_max_right n m)) _ _ _ _ hm⟩
  ·cases h
 ·cases h
theorem Te{p:J5}{g:CV}{ps:List Nat}{k z:Nat}{E:Env}{H:Gb}{r:CV×Gb}(h:ND (run p) g ps k z E H=some r):∃n,ND (Kk p n) g ps k z E H=some r:=by
 unfold ND at*
 split at h
 ·split at h
  ·rename_i hf;simp only[if_pos hf];exact NR.1 h
  ·cases h
 ·cases h
theorem Xo{p:J5}{op:Kc}{E:Env}{H:Gb}{r:CV×Gb}(h:JY (run p) op E H=some r):∃n,JY (Kk p n) op E H=some r:=by
 unfold JY at*
 cases op with
 |call f args=>exact NR.1 h
 |KH g args=>
  dsimp only at h⊢
  cases hg:E.ev g<;>simp only[hg]at h⊢<;>first
   |exact Dz h
   |(
     rename_i f caps
     by_cases hf:f<RB
     ·simp only[if_pos hf]at h⊢;exact NR.1 h
     ·rw[if_neg hf]at h;cases h)
   |cases h
 |Bc g args IE=>
  dsimp only at h⊢
  split at h
  ·split at h
   ·rename_i hf;simp only[if_pos hf];exact NR.1 h
   ·cases h
  ·rw[Jk]at h
   obtain⟨f,hf,h⟩:=h
   obtain⟨n,hn⟩:=NR.1 h
   exact⟨n,by rw[hf];exact hn⟩
  ·exact Dz h
  ·cases h
 |Sk name x args IE=>
  dsimp only at h⊢
  split at h
  ·rw[Jk]at h
   obtain⟨f,hf,h⟩:=h
   obtain⟨n,hn⟩:=NR.1 h
   exact⟨n,by rw[hf];exact hn⟩
  ·cases h
 |_=>exact⟨0,h⟩
theorem Ga9{p:J5}{s:GH}{E:Env}{H:Gb}{r:Env×Gb}(h:Qs (run p) s E H=some r):∃n,Qs (Kk p n) s E H=some r:=by
 unfold Qs at*
 cases hw:wanted s.guard E<;>simp only[hw]at h⊢
 ·exact⟨0,h⟩
 ·simp only[if_true,GD]at h
  obtain⟨q,hq,rfl⟩:=h
  obtain⟨n,hn⟩:=Xo hq
  exact⟨n,by simp[hn]⟩
theorem O8{p:J5}:∀{l:List GH}{E:Env}{H:Gb}{r:Env×Gb},JW (run p) l E H=some r→∃n,JW (Kk p n) l E H=some r
 |[],_,_,_,h=>⟨0,h⟩
 |s::l,E,H,r,h=>by
  unfold JW at h
  rw[Jk]at h
  obtain⟨q,hq,hr⟩:=h
  obtain⟨n,hn⟩:=Ga9 hq
  obtain⟨m,hm⟩:=O8 hr
  refine⟨max n m,?_⟩
  unfold JW
  rw[RA (Vu p (Nat.le_max_left n m)) s E H _ hn,Option.bind_some]
  exact Dm (Vu p (Nat.le_max_right n m)) l _ _ _ hm
theorem Dw{p:J5}:∀{l:List G8}{E:Env}{H:Gb}{hs:List Gb}{r:Env×Gb},AU (run p) l E H hs=some r→∃n,AU (Kk p n) l E H hs=some r
 |[],_,_,_,_,h=>⟨0,h⟩
 |d::l,E,H,hs,r,h=>by
  unfold AU at h
  by_cases hw:wanted d.s.guard E=false
  ·rw[if_pos hw]at h
   obtain⟨n,hn⟩:=Dw h
   exact⟨n,by unfold AU;rw[if_pos hw];exact hn⟩
  ·rw[if_neg hw]at h
   by_cases h3:d.kind=3
   ·rw[if_pos h3,Jk]at h
    obtain⟨q,hq,hr⟩:=h
    obtain⟨n,hn⟩:=Xo hq
    obtain⟨m,hm⟩:=Dw hr
    refine⟨max n m,?_⟩
    unfold AU
    rw[if_neg hw,if_pos h3,GbY (Vu p (Nat.le_max_left n m)) _ _ _ _ hn,Option.bind_some]
    exact Fj (Vu p (Nat.le_max_right n m)) _ _ _ _ _ hm
   ·rw[if_neg h3,Jk]at h
    obtain⟨q,hq,hr⟩:=h
    split at hr
    ·rename_i h1
     obtain⟨m,hm⟩:=Dw hr
     exact⟨m,by unfold AU;grind⟩
    ·cases hr
theorem Dt{p:J5}{b:Gn}{q:RM}{mb:Nat}{es:List CV}{it:Nat}:∀{l:List CV}{E:Env}{H:Gb}{r:CX×Env×Gb},Kb (den p b) q mb es it l E H=some r→∃n,Kb (ev p n b) q mb es it l E H=some r
 |[],E,H,r,h=>⟨0,h⟩
 |e::l,E,H,r,h=>by
  unfold Kb at h
  rw[Jk]at h
  obtain⟨u,hu,h⟩:=h
  obtain⟨n,hn⟩:=Kz.1 hu
  split at h
  case isFalse=>cases h
  rename_i hes
  cases hx:u.1 with
  |normal=>
   simp only[hx]at h
   obtain⟨k,hk⟩:=Dt h
   refine⟨max n k,?_⟩
   unfold Kb
   rw[VD p (Nat.le_max_left n k) _ _ _ _ hn,Option.bind_some,if_pos hes]
   simp only[hx]
   exact Zc (fun E H=>VD p (Nat.le_max_right n k) b E H) _ _ _ _ _ _ _ _ hk
  |exit i=>exact⟨n,by unfold Kb;grind⟩
  |ret=>exact⟨n,by unfold Kb;grind⟩
theorem Pb{p:J5}{c:Gn}{id:Nat}{q r:CX×Env×Gb}(h:Np id (den p c) q=some r):∃n,Np id (ev p n c) q=some r:=by
 unfold Np at*
 cases hx:q.1.inBlock id with
 |normal=>simp only[hx]at h⊢;exact Kz.1 h
 |exit i=>simp_all
 |ret=>simp_all
theorem Ph{p:J5}{b c:Gn}{q:RM}{mb:Nat}{es:List CV}{E:Env}{H:Gb}{l:List CV}{r:CX×Env×Gb}(h:JF (den p b) (den p c) q mb es E H l=some r):
  ∃n,JF (ev p n b) (ev p n c) q mb es E H l=some r:=by
 unfold JF at h
 rw[Jk]at h
 obtain⟨u,hu,hy⟩:=h
 obtain⟨n,hn⟩:=Dt hu
 obtain⟨k,hk⟩:=Pb hy
 refine⟨max n k,?_⟩
 unfold JF
 rw[Zc (fun E H=>VD p (Nat.le_max_left n k) b E H) _ _ _ _ _ _ _ _ hn,Option.bind_some,FL (fun E H=>VD p (Nat.le_max_right n k) c E H) _ _ _ hk]
theorem TN{p:J5}{b c:Gn}{q:RM}{m:CV}{E:Env}{H:Gb}{r:CX×Env×Gb}:
  (∃n,KG (ev p n b) (ev p n c) q m E H=some r)↔KG (den p b) (den p c) q m E H=some r:=by
 constructor
 ·rintro ⟨n,h⟩
  exact ZU (fun E H r h=>Kz.2 ⟨n,h⟩) (fun E H r h=>Kz.2 ⟨n,h⟩) _ _ _ _ _ h
 ·intro h
  obtain⟨mb,es,he,ho⟩:=VW h
  obtain⟨n,hn⟩:=Ot (p:=fun n l=>l.Perm es→∀z,JF (den p b) (den p c) q mb es E H l=some z→JF (ev p n b) (ev p n c) q mb es E H l=some z)
   (fun n k l hnk h hl z hz=>Hq (fun E H=>VD p hnk b E H) (fun E H=>VD p hnk c E H) _ _ _ _ _ _ _ (h hl z hz)) (orders es) (fun l _=>by
    by_cases hl:l.Perm es
    ·obtain⟨z,hz,-⟩:=ho l hl
     obtain⟨n,hn⟩:=Ph hz
     exact⟨n,fun _ y hy=>by rw[hz]at hy;cases hy;exact hn⟩
    ·exact⟨0,fun h=>absurd h hl⟩)
  refine⟨n,HZ h fun mb' es' l hl z he' hz=>?_⟩
  rw[he]at he'
  cases he'
  exact hn l (BM es l hl) hl z hz
theorem UE(p:J5)(c:Gn)(E:Env)(H:Gb):den p c E H=
  (match c with
  |.skip=>some (.normal,E,H)
  |.region ops=>(JW (run p) ops E H).map fun q=>(.normal,q.1,q.2)
  |.QK ops=>(AU (run p) ops E H []).map fun q=>(.normal,q.1,q.2)
  |.seq a b=>(den p a E H).bind fun r=>match r.1 with|.normal=>den p b r.2.1 r.2.2|_=>some r
  |.cond c a b=>match E.ev c with|.bool t=>den p (if t then a else b) E H|_=>none
  |.block id c=>(den p c E H).map fun r=>(r.1.inBlock id,r.2)
  |.loop c=>(den p c E H).bind fun r=>match r.1 with|.normal=>den p (.loop c) r.2.1 r.2.2|_=>some r
  |.Nc g ps k z=>(ND (run p) (E.ev g) ps k z E H).bind (Ux E H.length)
  |.Qv q b r=>KG (den p b) (den p r) q (E.ev q.m) E H
  |.exit id=>some (.exit id,E,H)
  |.ret=>some (.ret,E,H)):=by
 apply XB
 intro r
 rw[Kz]
 have up:(∃n,ev p n c E H=some r)↔∃n,ev p (n+1) c E H=some r:=
  ⟨fun⟨n,h⟩=>⟨n,BS p n c E H r h⟩,fun⟨n,h⟩=>⟨n+1,h⟩⟩
 rw[up]
 simp only[Kh]
 have two:∀(a b:Gn)(r:CX×Env×Gb),(∃n,((ev p n a E H).bind fun r=>match r.1 with|.normal=>ev p n b r.2.1 r.2.2|_=>some r)=some r)↔
   ((den p a E H).bind fun r=>match r.1 with|.normal=>den p b r.2.1 r.2.2|_=>some r)=some r:=by
  intro a b r
  constructor
  ·rintro ⟨n,h⟩
   rw[Jk]at h⊢
   obtain⟨q,hq,hr⟩:=h
   refine⟨q,Kz.2 ⟨n,hq⟩,?_⟩
   cases hx:q.1<;>simp only[hx]at hr⊢<;>first|exact Kz.2 ⟨n,hr⟩|exact hr
  ·intro h
   rw[Jk]at h
   obtain⟨q,hq,hr⟩:=h
   obtain⟨n,hn⟩:=Kz.1 hq
   cases hx:q.1<;>simp only[hx]at hr
   ·obtain⟨m,hm⟩:=Kz.1 hr
    refine⟨max n m,?_⟩
    rw[VD p (Nat.le_max_left n m) _ _ _ _ hn,Option.bind_some]
    simp only[hx]
    exact VD p (Nat.le_max_right n m) _ _ _ _ hm
   all_goals grind
 cases c with
 |skip=>simp
 |region ops=>
  simp only[GD]
  constructor
  ·rintro ⟨n,q,hq,rfl⟩;exact⟨q,Dm (F4 p n) _ _ _ _ hq,rfl⟩
  ·rintro ⟨q,hq,rfl⟩;obtain⟨n,hn⟩:=O8 hq;exact⟨n,q,hn,rfl⟩
 |QK ops=>
  simp only[GD]
  constructor
  ·rintro ⟨n,q,hq,rfl⟩;exact⟨q,Fj (F4 p n) _ _ _ _ _ hq,rfl⟩
  ·rintro ⟨q,hq,rfl⟩;obtain⟨n,hn⟩:=Dw hq;exact⟨n,q,hn,rfl⟩
 |seq a b=>exact two a b r
 |cond c a b=>
  cases hc:E.ev c<;>simp only[hc]<;>first|exact Kz.symm|simp
 |block id c=>
  simp only[GD]
  constructor
  ·rintro ⟨n,q,hq,rfl⟩;exact⟨q,Kz.2 ⟨n,hq⟩,rfl⟩
  ·rintro ⟨q,hq,rfl⟩;obtain⟨n,hn⟩:=Kz.1 hq;exact⟨n,q,hn,rfl⟩
 |loop c=>exact two c (.loop c) r
 |Nc g ps k z=>
  simp only[Jk]
  constructor
  ·rintro ⟨n,q,hq,hr⟩;exact⟨q,OM (F4 p n) _ _ _ _ _ _ _ hq,hr⟩
  ·rintro ⟨q,hq,hr⟩;obtain⟨n,hn⟩:=Te hq;exact⟨n,q,hn,hr⟩
 |Qv q b c=>exact TN
 |exit id=>simp
 |ret=>simp
theorem run_eq{p:J5}{f:Nat}{cf:Gj}(hf:p f=some cf)(a:List CV)(ha:a.length≤cf.n)(H:Gb):
  run p f a H=(den p cf.body (entry a) H).bind (leave cf):=by
 apply XB
 intro r
 rw[NR]
 simp only[Kk,hf,Option.bind_some,if_pos ha]
 constructor
 ·rintro ⟨n,h⟩
  rw[Jk]at h⊢
  obtain⟨q,hq,hr⟩:=h
  exact⟨q,Kz.2 ⟨n,hq⟩,hr⟩
 ·intro h
  rw[Jk]at h
  obtain⟨q,hq,hr⟩:=h
  obtain⟨n,hn⟩:=Kz.1 hq
  exact⟨n,by rw[hn];exact hr⟩
def Y9(F:GQ):Prop:=∀f a H r,F f a H=some r→H.length≤r.2.length
theorem Vt{H H':Gb}{b o:Nat}{vs:List CV}(h:Nh H b o vs=some H'):H'.length=H.length:=by
 unfold Nh at h
 grind
theorem Mq(H:Gb)(m:Option JE×(Nat→CV)):H.length≤(made H m).2.length:=by
 unfold made
 split<;>simp
theorem TJ{H:Gb}{GN n:Nat}{s:CV}{new:List CV}{r:CV×Gb}(h:Ju H GN s n new=some r):H.length≤r.2.length:=by
 unfold Ju at h
 split at h
 ·grind
 ·split at h
  ·grind
  ·split at h
   ·rw[GD]at h
    obtain⟨H',hs,rfl⟩:=h
    exact Nat.le_of_eq (Vt hs).symm
   ·split at h
    ·rw[Jk]at h
     grind
    ·cases h
 ·cases h
theorem QV{H H':Gb}{b:Nat}{es:List CV}(h:Jq H b es=some H'):H'.length=H.length:=by
 unfold Jq at h
 grind
theorem DT{H H':Gb}{k:IntKind}{m x v:CV}(h:Qj H k m x v=some H'):H'.length=H.length:=by
 unfold Qj at h
 split at h
 ·split at h
  ·simp only[Jk]at h
   obtain⟨es,_,r,_,h⟩:=h
   split at h<;>exact QV h
  ·cases h
 ·cases h
theorem DX{H H':Gb}{k:IntKind}{m x:CV}(h:U5 H k m x=some H'):H'.length=H.length:=by
 unfold U5 at h
 split at h
 ·split at h
  ·simp only[Jk]at h
   obtain⟨es,_,r,_,h⟩:=h
   split at h<;>exact QV h
  ·cases h
 ·grind
 ·cases h
theorem Gjq{op:Kc}{E:Env}{H:Gb}{r:CV×Gb}(h:UZ op E H=some r):H.length≤r.2.length:=by
 have steady:(G7 op E H).map (made H)=some r→H.length≤r.2.length:=by
  intro h
  rw[GD]at h
  obtain⟨m,_,rfl⟩:=h
  exact Mq H m
 cases op with
 |store n x y=>
  simp only[UZ]at h
  split at h
  ·split at h
   ·rw[GD]at h
    obtain⟨H',hs,rfl⟩:=h
    exact Nat.le_of_eq (Vt hs).symm
   ·cases h
  ·cases h
 |append n s x=>
  simp only[UZ,Jk]at h
  obtain⟨q,_,h⟩:=h
  exact TJ h
 |copy n d s=>
  simp only[UZ]at h
  split at h
  ·split at h
   ·grind
   ·rw[Jk]at h
    obtain⟨cs,_,h⟩:=h
    rw[GD]at h
    obtain⟨H',hs,rfl⟩:=h
    exact Nat.le_of_eq (Vt hs).symm
  all_goals grind
 |clear z s=>
  simp only[UZ]at h
  split at h
  ·split at h
   ·grind
   ·rw[GD]at h
    obtain⟨H',hs,rfl⟩:=h
    exact Nat.le_of_eq (Vt hs).symm
  all_goals grind
 |QS k m x v=>
  simp only[UZ,GD]at h
  obtain⟨H',hs,rfl⟩:=h
  exact Nat.le_of_eq (DT hs).symm
 |YO k m x=>
  simp only[UZ,GD]at h
  obtain⟨H',hs,rfl⟩:=h
  exact Nat.le_of_eq (DX hs).symm
 |QI m=>
  simp only[UZ]at h
  split at h
  ·rw[GD]at h
   obtain⟨H',hs,rfl⟩:=h
   exact Nat.le_of_eq (QV hs).symm
  ·grind
  ·cases h
 |Bp x=>
  simp only[UZ]at h
  split at h
  ·split at h
   ·grind
   ·split at h
    ·simp only[Jk,GD]at h
     obtain⟨cs,_,l,_,H',hs,rfl⟩:=h
     exact Nat.le_of_eq (Vt hs).symm
    ·cases h
  ·grind
  ·cases h
 |KJ g x=>
  simp only[UZ]at h
  split at h
  ·split at h
   ·split at h
    ·simp only[Jk]at h
     grind
    ·cases h
   ·cases h
  ·cases h
 |_=>exact steady h
theorem O_{F:GQ}(hF:Y9 F){b z:Nat}{q:CV×Gb}{r:CV×Gb}(h:KO F b z q=some r):q.2.length≤r.2.length:=by
 unfold KO at h
 split at h
 ·split at h
  ·rw[Jk]at h
   obtain⟨q,hq,h⟩:=h
   have:=hF _ _ _ _ hq
   grind
  ·cases h
 ·cases h
theorem FY{F:GQ}(hF:Y9 F){b:Nat}{args:List CV}{H:Gb}{r:CV×Gb}(h:yieldOf F b args H=some r):H.length≤r.2.length:=by
 unfold yieldOf at h
 split at h
 ·split at h
  ·rw[Jk]at h
   obtain⟨q,hq,h⟩:=h
   exact J2 (hF _ _ _ _ hq) (O_ hF h)
  ·cases h
 ·cases h
theorem Ga2{F:GQ}(hF:Y9 F){g:CV}{ps:List Nat}{k z:Nat}{E:Env}{H:Gb}{r:CV×Gb}(h:ND F g ps k z E H=some r):H.length+1≤r.2.length:=by
 unfold ND at h
 split at h
 ·split at h
  ·have:=hF _ _ _ _ h;simpa using this
  ·cases h
 ·cases h
theorem YF{E:Env}{b:Nat}{r:CV×Gb}{q:CX×Env×Gb}(h:Ux E b r=some q):q.2.2.length=r.2.length∧q.2.1=E:=by
 unfold Ux at h
 grind
theorem EC{cf:Gj}{r:CX×Env×Gb}{q:CV×Gb}(h:leave cf r=some q):q.2=r.2.2:=by
 unfold leave at h
 split at h
 ·grind
 split at h
 ·grind
 ·split at h
  ·rw[GD]at h;obtain⟨v,_,rfl⟩:=h;rfl
  ·rw[GD]at h;obtain⟨v,_,rfl⟩:=h;rfl
  ·cases h
theorem TH{F:GQ}(hF:Y9 F){op:Kc}{E:Env}{H:Gb}{r:CV×Gb}(h:JY F op E H=some r):H.length≤r.2.length:=by
 cases op with
 |call f args=>exact hF _ _ _ _ h
 |KH g args=>
  simp only[JY]at h
  split at h
  ·split at h
   ·exact hF _ _ _ _ h
   ·cases h
  ·exact FY hF h
  ·cases h
 |Bc g args IE=>
  simp only[JY]at h
  split at h
  ·split at h
   ·exact hF _ _ _ _ h
   ·cases h
  ·rw[Jk]at h
   obtain⟨f,_,h⟩:=h
   exact hF _ _ _ _ h
  ·exact FY hF h
  ·cases h
 |Sk name x args IE=>
  simp only[JY]at h
  split at h
  ·rw[Jk]at h
   obtain⟨f,_,h⟩:=h
   exact hF _ _ _ _ h
  ·cases h
 |_=>simp only[JY]at h;exact Gjq h
theorem Aw{F:GQ}(hF:Y9 F):∀{l:List GH}{E:Env}{H:Gb}{r:Env×Gb},JW F l E H=some r→H.length≤r.2.length
 |[],E,H,r,h=>by simp only[JW,GA]at h;subst h;exact Nat.le_refl _
 |s::l,E,H,r,h=>by
  simp only[JW,Jk]at h
  obtain⟨q,hq,hr⟩:=h
  refine J2 ?_ (Aw hF hr)
  unfold Qs at hq
  split at hq
  ·rw[GD]at hq
   obtain⟨p,hp,rfl⟩:=hq
   exact TH hF hp
  grind
theorem Iw{F:GQ}(hF:Y9 F):∀{l:List G8}{E:Env}{H:Gb}{hs:List Gb}{r:Env×Gb},AU F l E H hs=some r→H.length≤r.2.length
 |[],E,H,hs,r,h=>by simp only[AU,GA]at h;subst h;exact Nat.le_refl _
 |d::l,E,H,hs,r,h=>by
  unfold AU at h
  split at h
  ·exact Iw hF h
  ·split at h
   ·rw[Jk]at h
    obtain⟨q,hq,hr⟩:=h
    exact J2 (TH hF hq) (Iw hF hr)
   ·rw[Jk]at h
    obtain⟨m,_,hr⟩:=h
    split at hr
    ·exact J2 (Mq H m) (Iw hF hr)
    ·cases hr
theorem VZ{R:Env→Gb→Option (CX×Env×Gb)}(hR:∀E H r,R E H=some r→H.length≤r.2.2.length){q:RM}{mb:Nat}{es:List CV}{it:Nat}:∀{l:List CV}{E:Env}{H:Gb}{r:CX×Env×Gb},Kb R q mb es it l E H=some r→H.length≤r.2.2.length
 |[],E,H,r,h=>by
  simp only[Kb,GA]at h;subst h;exact Nat.le_refl _
 |e::l,E,H,r,h=>by
  unfold Kb at h
  rw[Jk]at h
  obtain⟨u,hu,h⟩:=h
  have:=hR _ _ _ hu
  split at h
  ·split at h
   ·exact J2 this (VZ hR h)
   grind
  ·cases h
theorem UW{R:Env→Gb→Option (CX×Env×Gb)}(hR:∀E H r,R E H=some r→H.length≤r.2.2.length){id:Nat}{q r:CX×Env×Gb}(h:Np id R q=some r):q.2.2.length≤r.2.2.length:=by
 unfold Np at h
 grind
theorem RQ{Rb Rr:Env→Gb→Option (CX×Env×Gb)}(hb:∀E H r,Rb E H=some r→H.length≤r.2.2.length)(hr:∀E H r,Rr E H=some r→H.length≤r.2.2.length){q:RM}{mb:Nat}{es:List CV}{E:Env}{H:Gb}{l:List CV}{r:CX×Env×Gb}
  (h:JF Rb Rr q mb es E H l=some r):H.length≤r.2.2.length:=by
 unfold JF at h
 rw[Jk]at h
 obtain⟨u,hu,hy⟩:=h
 have h1:=VZ hb hu
 have h2:=UW hr hy
 simp only[Qi,List.length_cons,List.length_nil,List.length_set]at h1 h2
 omega
theorem KT(p:J5):∀(n:Nat){c:Gn}{E:Env}{H:Gb}{r:CX×Env×Gb},ev p n c E H=some r→H.length≤r.2.2.length
 |0,_,_,_,_,h=>by cases h
 |n+1,c,E,H,r,h=>by
  have hF:Y9 (Kk p n):=by
   intro f a H r h
   unfold Kk at h
   rw[Jk]at h
   obtain⟨cf,_,h⟩:=h
   split at h
   ·rw[Jk]at h
    obtain⟨q,hq,hl⟩:=h
    rw[EC hl]
    exact KT p n hq
   ·cases h
  rw[Kh]at h
  cases c with
  |skip=>grind
  |region ops=>rw[GD]at h;obtain⟨q,hq,rfl⟩:=h;exact Aw hF hq
  |QK ops=>rw[GD]at h;obtain⟨q,hq,rfl⟩:=h;exact Iw hF hq
  |seq a b=>
   rw[Jk]at h
   obtain⟨q,hq,h⟩:=h
   have h1:=KT p n hq
   split at h
   ·exact J2 h1 (KT p n h)
   grind
  |cond c a b=>
   dsimp only at h
   split at h
   ·exact KT p n h
   ·cases h
  |block id c=>
   rw[GD]at h
   obtain⟨q,hq,rfl⟩:=h
   have:=KT p n hq
   exact this
  |loop c=>
   rw[Jk]at h
   obtain⟨q,hq,h⟩:=h
   have h1:=KT p n hq
   split at h
   ·exact J2 h1 (KT p n h)
   grind
  |Nc g ps k z=>
   rw[Jk]at h
   obtain⟨q,hq,h⟩:=h
   have h1:=Ga2 hF hq
   have h2:=(YF h).1
   omega
  |Qv q b c=>
   obtain⟨mb,es,_,h⟩:=VW h
   obtain⟨z,hz,-,-,hl,-⟩:=h es (List.Perm.refl _)
   exact J2 (RQ (fun E H r h=>KT p n h) (fun E H r h=>KT p n h) hz) hl
  |exit id=>grind
  |ret=>grind
theorem Yv(p:J5)(n:Nat):Y9 (Kk p n):=by
 intro f a H r h
 unfold Kk at h
 rw[Jk]at h
 obtain⟨cf,_,h⟩:=h
 split at h
 ·rw[Jk]at h
  obtain⟨q,hq,hl⟩:=h
  rw[EC hl]
  exact KT p n hq
 ·cases h
end Go.Cs
namespace Go.Cs
open Go Go.RowKit
section
variable {P : Program} {F : GQ} {ν : Mu} {E : Env} {a : Act} {w : World} {H : Gb} {K : Nat → Option Obj} {B : Bs} {L : Nat} {rd : Option Nat} {dp : Nat}
theorem NW{f:Nat}{fn:Func}(h1:P.funcs[f]?=some fn) (h2:fn.name≠ "runtime.NumGoroutine") (h3:fn.body.isSome=true) (args:Array Value):
  (callFunc f args).run P w=.ok (.enter f args) w:=by
 obtain⟨c,hc⟩:=Option.isSome_iff_exists.1 h3
 simp[callFunc,h1,h2,hc]
theorem Vv(hF:D5 P F)(hBr:Wh P B)(hS:St K B L ν H w){o:Oper}(hnd:∀c,o.op≠.defer c){f:Nat}{args:List CV}{args':Array Value}{r:CV×Gb}(hf:f<RB)(h:F f args H=some r)(hL:r.2.length≤L)(hv:VL ν args args'.toList)
  (hr:∀fn,P.funcs[f]?=some fn→fn.name≠ "runtime.NumGoroutine" →fn.body.isSome=true→(execOp a.eval o).run P w=.ok (.enter f args') w):Next.after rd dp P o a w K B L H ν r:=by
 obtain⟨⟨fn,h1,h2,h3⟩,Gbh⟩:=(hF f args H r h).2.1 hf
 intro next Q hn
 refine⟨fun _ _=>trivial,?_⟩
 rw[Oper.semAt_eq _ _ _ hnd,hr fn h1 h2 h3,Oper.uponIn_enter]
 refine⟨Oo,?_⟩
 have hc:CallsIn Fence.wide (dp-1) P f args' w _:=callsIn_wide.2 (Gbh K B L ν w args' hBr hL hS hv)
 refine CallsIn.mono (show CallsIn (Fr rd) (dp-1) P f args' w _ from hc) fun e w' he=>?_
 grind
theorem GgE(l:List CV)(p t:Nat)(v:CV)(hp:p<l.length):(l.set p v).getD t .undef=if t=p then v else l.getD t .undef:=by
 grind
theorem XH:∀(ps:List Nat)(args:List CV)(vals:List Value)(env:List CV)(tmps:Array Value),VL ν args vals→args.length=ps.length→(∀t∈ps,t<env.length)→env.length≤tmps.size→
  (∀t,V ν (env.getD t .undef) (tmps.getD t undef))→
  ((ps.zip vals).foldl (fun(tm:Array Value)(q:Nat×Value)=>tm.setIfInBounds q.1 q.2) tmps).size=tmps.size∧
  ∀t,V ν ((Qx env (ps.map fun(t:Nat)=>CV.i (t:Int)) args).getD t .undef) (((ps.zip vals).foldl (fun(tm:Array Value)(q:Nat×Value)=>tm.setIfInBounds q.1 q.2) tmps).getD t undef)
 |[],args,vals,env,tmps,_,_,_,_,h=>⟨sM,by cases args<;>simpa[Qx]using h⟩
 |p::ps,[],vals,env,tmps,_,hl,_,_,_=>by simp at hl
 |p::ps,c::args,vals,env,tmps,hv,hl,hp,hs,h=>by
  simp only[VL]at hv
  obtain⟨v,rest,rfl,hv1,hv2⟩:=hv
  have hpl:p<env.length:=hp p QT
  obtain⟨e1,e2⟩:=XH ps args rest (env.set p c) (tmps.setIfInBounds p v) hv2 (by simpa using hl) (fun t ht=>by grind) (by simpa using hs) (fun t=>by
   rw[GgE _ _ _ _ hpl]
   by_cases ht:t=p
   ·subst ht;rw[if_pos rfl,Array.getD_eq_getD_getElem?,Array.getElem?_setIfInBounds_self_of_lt oM];exact hv1
   ·rw[if_neg ht,Array.getD_eq_getD_getElem?,GnR (Ne.symm ht),←Array.getD_eq_getD_getElem?];exact h t)
  refine⟨by simpa using e1,fun t=>?_⟩
  have:=e2 t
  simpa[Qx]using this
theorem St.turn(hS:St K B L ν H w){b:Nat}{k:JE}{m:Z6}(hb:H[b]?=some k) (hk:k.mode=.map) (hm:ν b=some m) {k2:JE} (hk2:k2.mode=.map) {x:Obj} (hr:Ie B ν m.c k2 x):
  St K B L ν (H.set b k2) (w.putObj m.c x):=
 ⟨hS.Nw.setObj hb hk hm hk2 hr,fun b' hb' hl=>hS.dom b' (by simpa using hb') hl⟩
theorem Ga7{s s':Int}{ps ps' env env':List CV}{z z':Nat}(h:(⟨[.int .i64 s,.Jj ps,.Jj env],.map,z+1⟩:JE)=G9 s' ps' env' z'):s=s'∧ps=ps'∧env=env'∧z=z':=by
 simp only[G9,JE.mk.injEq,List.cons.injEq,CV.int.injEq,CV.Jj.injEq,Nat.add_right_cancel_iff,and_true,true_and]at h
 grind
theorem DZ(hS:St K B L ν H w){b:Nat}{s:Int}{ps env:List CV}{z:Nat}{m:Z6}(hb:H[b]?=some ⟨[.int .i64 s,.Jj ps,.Jj env],.map,z+1⟩) (hm:ν b=some m):
  ∃r,w.heap[m.c]?=some (.loop r)∧ps=(r.params.toList.map fun(t:Nat)=>CV.i (t:Int))∧StR s r∧(∀t,V ν (env.getD t .undef) (r.tmps.getD t undef))∧env.length≤r.tmps.size∧B.rnd z env.length r.fn r.params r.assign r.body:=by
 obtain⟨ob,hw,Yi,-,-⟩:=hS.Nw.mp b _ m hb rfl hm
 obtain⟨r,rfl,s',env',z',h1,h2,h3,h4,h5⟩:=Yi.loop sM
 obtain⟨rfl,rfl,rfl,rfl⟩:=Ga7 h1
 exact⟨r,hw,rfl,h2,h3,h4,h5⟩
theorem StR.ready{r:Loop}(h:StR 0 r):r.state=.ready∧r.pending=none:=by
 rcases h with⟨_,h⟩|h|⟨h,_⟩|⟨id,h,_⟩
 ·exact h
 ·cases h
 ·cases h
 ·omega
theorem FW(hF:D5 P F)(hBr:Wh P B)(hS:St K B L ν H w){o:Oper}(hnd:∀c,o.op≠.defer c){b:Nat}{m:Z6}(hm:ν b=some m){args:List CV}{args':Array Value}{r:CV×Gb}(h:yieldOf F b args H=some r)
  (hL:r.2.length≤L)(hv:VL ν args args'.toList)(hr:(execOp a.eval o).run P w=(Instr.yield m.c args').run P w):Next.after rd dp P o a w K B L H ν r:=by
 unfold yieldOf at h
 split at h
 case h_2=>cases h
 rename_i s ps env z hb
 split at h
 case isFalse=>cases h
 rename_i hc
 obtain⟨rfl,hlen⟩:=hc
 rw[Jk]at h
 obtain⟨q,hq,h⟩:=h
 obtain⟨r0,hw0,rfl,Ghk,hV0,hsz0,hrnd⟩:=DZ hS hb hm
 obtain⟨GqI,-⟩:=Ghk.ready
 rw[hBr.rnd]at hrnd
 have Gh5:args'.size=r0.params.size:=by have:=hv.length;simp at this hlen;omega
 obtain⟨hq1,-,hq2⟩:=hF _ _ _ _ hq
 obtain⟨G0W,he1,hl1,hassign⟩:=(hq2 z _ _ _ _ _ hrnd).1 rfl
 obtain⟨q1,qH⟩:=q
 simp only at he1 hq1
 subst he1
 obtain⟨hsz1,hV1⟩:=XH (ν:=ν) r0.params.toList args args'.toList env r0.tmps hv (by simpa using hlen) hrnd.2.1 hsz0 hV0
 intro next Q hn
 refine⟨fun _ _=>trivial,?_⟩
 rw[Oper.semAt_eq _ _ _ hnd,hr,run_yield hw0 Gh5,Oper.uponIn_round]
 refine⟨Oo,?_⟩
 unfold KO at h
 split at h
 case h_2=>cases h
 rename_i Gxo s2 ps2 e2 z2 hh1 hb2
 simp only[CV.Jj.injEq]at hh1
 subst hh1
 simp only at hb2
 split at h
 case isFalse=>cases h
 rename_i hc2
 obtain⟨rfl,rfl⟩:=hc2
 rw[Jk]at h
 obtain⟨p,hp,h⟩:=h
 obtain⟨hp1,-,hp2⟩:=hF _ _ _ _ hp
 have hbody:=(hp2 z2 _ _ _ _ _ hrnd).2 rfl
 obtain⟨p1,pH⟩:=p
 simp only at h hp1
 split at h
 case h_2=>cases h
 rename_i j s3 ps3 e3 z3 hb3
 simp only[GA]at h
 subst h
 simp only[List.length_set]at hL hp1
 have hbl:b<H.length:=(ZK.1 hb).1
 have hF2:F.le F:=fun _ _ _=>Le.refl _
 refine roundIn_of_wpIn (F:=Fr rd) trivial (wpIn_mono (hassign K B L ν w ((r0.params.zip args').foldl (fun tmps (t,a)=>tmps.setIfInBounds t a) r0.tmps) m.c (dp-1) hBr (by dsimp only;omega) hS ?_ ?_) fun x a1 w1 hx=>?_)
 ·intro t
  have:=hV1 t
  rw[←Array.foldl_toList,Array.toList_zip]
  exact this
 ·rw[←Array.foldl_toList,Array.toList_zip]
  grind
 obtain⟨ν1,rfl,hd1,hs1,hVa,hS1,hE1⟩:=hx
 have hm1:ν1 b=some m:=by rw[hE1.same b hbl];exact hm
 obtain⟨r1,hw1,rfl,GmM,Gsw,Gop,GnP⟩:=DZ hS1 hb2 hm1
 obtain⟨GjT,Gs9⟩:=GmM.ready
 refine⟨_,run_beginRound hw1 GjT,?_⟩
 have GuN:=hS1.turn hb2 rfl hm1 (k2:=G9 1 (r1.params.toList.map fun(t:Nat)=>CV.i (t:Int)) e2 z2) rfl (x:=.loop {r1 with state:=.busy}) (.inr ⟨_,rfl,1,e2,z2,rfl,.inr (.inl rfl),Gsw,Gop,GnP⟩)
 obtain⟨t1,d1⟩:=a1
 simp only at hd1 hs1 hVa
 subst hd1
 refine wpIn_mono (hbody K B L ν1 _ t1 m.c (dp-1) hBr oM GuN hVa hs1) fun x a2 w2 hx=>?_
 obtain⟨ν2,hxc,hS2,hE2⟩:=hx
 have hm2:ν2 b=some m:=by rw[hE2.same b (by simp only[List.length_set];omega)];exact hm1
 obtain⟨r3,hw3,rfl,Gmy,hV3,GvP,Go6⟩:=DZ hS2 hb3 hm2
 have hE:∀k2:JE,Ext L H ν (pH.set b k2) ν2:=fun k2=>hE1.trans (Ext.trans (⟨sM,fun _ _=>rfl,fun _ _=>rfl⟩:Ext L qH ν1 (qH.set b (G9 1 (r1.params.toList.map fun(t:Nat)=>CV.i (t:Int)) e2 z2)) ν1) (hE2.trans ⟨sM,fun _ _=>rfl,fun _ _=>rfl⟩))
 have fin:∀(jump:Option Code)(s':Int),StR s' {r3 with state:=if jump.isNone then .ready else .done,pending:=jump}→∃v w',(Instr.endRound m.c jump).run P w2=.ok v w'∧v=.bool jump.isNone∧St K B L ν2 (pH.set b (G9 s' (r3.params.toList.map fun(t:Nat)=>CV.i (t:Int)) e3 z3)) w':=by
  intro jump s' hs'
  exact⟨_,_,run_endRound jump hw3,rfl,hS2.turn hb3 rfl hm2 rfl (.inr ⟨_,rfl,s',e3,z3,rfl,hs',hV3,GvP,Go6⟩)⟩
 rcases hxc with⟨hj,rfl⟩|⟨hj,rfl⟩|⟨id,hj,rfl⟩
 ·simp only[CV.i,CV.int.injEq,true_and]at hj
  subst hj
  obtain⟨v,w',e1,rfl,e3⟩:=fin none 0 (.inl ⟨rfl,rfl,rfl⟩)
  exact⟨_,_,e1,hn _ _ ν2 e3 (by simp[V]) (hE _)⟩
 ·simp only[CV.i,CV.int.injEq,true_and]at hj
  subst hj
  obtain⟨v,w',e1,rfl,e3⟩:=fin (some .ret) 2 (.inr (.inr (.inl ⟨rfl,rfl,rfl⟩)))
  exact⟨_,_,e1,hn _ _ ν2 e3 (by simp[V]) (hE _)⟩
 ·simp only[CV.i,CV.int.injEq,true_and]at hj
  subst hj
  obtain⟨v,w',e1,rfl,e3⟩:=fin (some (.exit id)) (id+3) (.inr (.inr (.inr ⟨id,rfl,rfl,rfl⟩)))
  refine⟨_,_,e1,hn _ _ ν2 ?_ ?_ (hE _)⟩
  ·grind
  ·simp only[V];simp;omega
theorem Zl{t:Nat}{name:String}{f:Nat}(h:Eu (Yu P) t name=some f):
  ∃i m fs,P.info? t=some i∧P.underlying t=some (.struct fs)∧i.methods.find? (fun m=>m.name==name)=some m∧m.func=some (f,false)∧m.path.isEmpty=true∧f<RB:=by
 unfold Eu at h
 rw[GD]at h
 obtain⟨e,he,rfl⟩:=h
 have hm:=List.mem_of_find?_eq_some he
 have hp:=Lp he
 simp only[NH,beq_iff_eq]at hp
 obtain⟨hp1,hp2⟩:=hp
 unfold Yu at hm
 grind
theorem Aj{t:Nat}{name:String}{f:Nat}(h:Eu (Yu P) t name=some f)(v:Value)(args:Array Value):
  (callMethod (.iface t v) name args).run P w=(callFunc f (#[v]++args)).run P w:=by
 obtain⟨i,m,fs,hi,hu,hf,hg,GpB,-⟩:=Zl h
 have hp:m.path=#[]:=by simpa using GpB
 have hd:0<Made.depth:=by decide
 obtain⟨n,hn⟩:∃n,P.types.size+Made.depth=n+1:=⟨P.types.size+Made.depth-1,oM⟩
 simp[callMethod,hn,method,YT hi,hf,hp,follow,hg,receiverAt,run_underlying hu,Place.get]
def Xb:Kc→Bool
 |.store .. |.append .. |.copy .. |.clear .. |.call .. |.KH .. |.Bc .. |.Sk .. |.QS .. |.YO .. |.QI .. |.Bp .. |.KJ .. =>false
 |_=>true
theorem Vi{op:Kc}(h:Xb op=true):JY F op E H=(G7 op E H).map (made H):=by
 cases op<;>first|rfl|cases h
theorem Gcg{oop:Op}{op:Kc}(h:GC P oop=some op):Xb op=true∨(∃t x v,oop=.store t x v)∨(∃c,oop=.call c)∨∃t p x v,oop=.mapUpdate t p x v:=by
 cases oop with
 |store t x v=>exact .inr (.inl ⟨t,x,v,rfl⟩)
 |call c=>exact .inr (.inr (.inl ⟨c,rfl⟩))
 |makeMap t r=>
  cases r with
  |none=>
   simp only[GC,GD]at h
   obtain⟨_,_,rfl⟩:=h
   exact .inl rfl
  |some r=>cases h
 |mapUpdate t p x v=>grind
 |index t x i=>
  refine .inl ?_
  cases x with
  |const v=>
   cases v with
   |string s=>
    simp only[GC]at h
    split at h
    ·rw[GD]at h
     obtain⟨_,_,rfl⟩:=h
     rfl
    ·cases h
   |_=>cases h
  |tmp x=>
   simp only[GC]at h
   split at h
   ·obtain⟨_,h⟩:=GI h
    simp only[Jk,GD]at h
    obtain⟨_,_,_,_,rfl⟩:=h
    rfl
   ·cases h
  |_=>cases h
 |load t x=>
  refine .inl ?_
  cases x<;>simp only[GC,MB,Jk,GD]at h
  case global=>
   obtain⟨zs,_,h⟩:=h
   split at h
   ·simp only[GA]at h;subst h;rfl
   ·cases h
  all_goals (obtain⟨_,_,_,_,_,_,rfl⟩:=h;rfl)
 |binOp op' t x y yt=>
  simp only[GC,Jk]at h
  obtain⟨_,_,_,_,h⟩:=h
  refine .inl ?_
  split at h
  ·cases op'<;>simp at h<;>(subst h;rfl)
  ·cases op'<;>simp at h<;>(subst h;rfl)
  ·cases op'<;>simp at h<;>(subst h;rfl)
  ·cases op'<;>simp at h<;>(subst h;rfl)
  ·obtain⟨_,h⟩:=GI h
   cases op'<;>simp at h<;>(subst h;rfl)
  ·obtain⟨_,h⟩:=GI h
   cases op'<;>simp at h<;>(subst h;rfl)
  ·cases h
 |build t parts=>
  simp only[GC]at h
  split at h
  ·simp only[Jk,GD]at h
   obtain⟨_,_,_,_,_,_,rfl⟩:=h
   exact .inl rfl
  ·simp only[Jk,GD]at h
   obtain⟨_,_,_,_,_,_,rfl⟩:=h
   exact .inl rfl
  ·cases h
 |fieldAddr t x f=>
  simp only[GC]at h
  split at h
  ·simp only[Jk]at h
   obtain⟨_,_,_,_,_,_,h⟩:=h
   obtain⟨_,h⟩:=GI h
   simp only[GA]at h
   subst h
   exact .inl rfl
  ·cases h
 |buildSlice t n parts=>
  simp only[GC,Jk]at h
  obtain⟨_,_,_,_,_,_,_,_,h⟩:=h
  obtain⟨_,h⟩:=GI h
  simp only[GA]at h
  subst h
  exact .inl rfl
 |makeSlice t l c=>
  simp only[GC,Jk]at h
  obtain⟨_,_,_,_,_,_,_,_,_,_,_,_,h⟩:=h
  obtain⟨_,h⟩:=GI h
  simp only[GA]at h
  subst h
  exact .inl rfl
 |convert s d x=>
  simp only[GC]at h
  split at h
  ·simp only[GD]at h
   obtain⟨_,_,rfl⟩:=h
   exact .inl rfl
  ·cases h
 |indexAddr t x ix=>
  simp only[GC]at h
  split at h
  ·simp only[Jk,GD]at h
   obtain⟨_,_,_,_,_,_,rfl⟩:=h
   exact .inl rfl
  ·simp only[Jk,GD]at h
   obtain⟨_,_,_,_,_,_,rfl⟩:=h
   exact .inl rfl
  ·cases h
 |unOp op' t x=>
  cases op'<;>simp only[GC,GD]at h<;>first|cases h;done|(obtain⟨_,_,rfl⟩:=h;exact .inl rfl)
 |makeInterface t x=>
  simp only[GC]at h
  split at h
  ·simp only[GD]at h
   obtain⟨_,_,rfl⟩:=h
   exact .inl rfl
  ·cases h
 |makeFunc fn first caps=>
  cases fn<;>simp only[GC]at h<;>first|cases h;done|skip
  ·split at h
   ·simp only[GD]at h
    obtain⟨_,_,rfl⟩:=h
    exact .inl rfl
   ·cases h
  ·split at h
   ·split at h
    ·simp only[GD]at h
     obtain⟨_,_,rfl⟩:=h
     exact .inl rfl
    ·cases h
   ·cases h
 |_=>
  simp only[GC,Jk,GD]at h
  first
  |cases h;done
  |(obtain⟨_,_,rfl⟩:=h;exact .inl rfl)
  |(obtain⟨_,_,_,_,rfl⟩:=h;exact .inl rfl)
  |(obtain⟨_,_,_,_,_,_,rfl⟩:=h;exact .inl rfl)
  |(obtain⟨_,_,_,_,_,_,_,_,rfl⟩:=h;exact .inl rfl)
  |(obtain⟨_,_,_,_,_,_,_,_,_,_,rfl⟩:=h;exact .inl rfl)
  |(obtain⟨_,_,_,_,_,_,_,_,_,_,_,_,rfl⟩:=h;exact .inl rfl)
theorem GbG(hF:D5 P F)(hBr:Wh P B)(hS:St K B L ν H w){o:Oper}{op:Kc}(hc:GC P o.op=some op)(hE:∀t∈op.tmps,V ν (E t) (a.tmps.getD t undef)){r:CV×Gb}(h:JY F op E H=some r)(hL:r.2.length≤L):
  Next.after rd dp P o a w K B L H ν r:=by
 have hnd:=UQ hc
 rcases Gcg hc with hst|⟨t,x,v,ho⟩|⟨c,ho⟩|⟨t,p,x,v,ho⟩
 rotate_left 3
 ·have hc':=hc
  rw[ho]at hc'
  simp only[GC,Jk,GD]at hc'
  obtain⟨q,hq,p',hp,x',hx,v',hv,rfl⟩:=hc'
  have h1:=Jd hp (fun t ht=>hE t (by simp[Kc.tmps,ht]))
  have h2:=Jd hx (fun t ht=>hE t (by simp[Kc.tmps,ht]))
  have h3:=Jd hv (fun t ht=>hE t (by simp[Kc.tmps,ht]))
  simp only[JY,UZ,GD]at h
  obtain⟨H',hH,rfl⟩:=h
  obtain⟨w',hr,hS'⟩:=Gcp (P:=P) hS.Nw h1 h2 h3 hq hH
  have hlen:=DT hH
  refine I_ hnd (w':=w') (ν':=ν) ?_ ⟨hS',fun b' hb' hl'=>hS.dom b' (by dsimp only at hb';omega) hl'⟩ rfl ⟨by dsimp only;omega,fun _ _=>rfl,fun _ _=>rfl⟩
  simp[execOp,ho,hr]
 ·rw[Vi hst,GD]at h
  obtain⟨m,hm,rfl⟩:=h
  exact Vb hBr.glob hS hc hE hm hL
 ·have hc':=hc
  rw[ho]at hc'
  simp only[GC,Jk,GD]at hc'
  obtain⟨n,hn,x',hx,v',hv,rfl⟩:=hc'
  have h1:=Jd hx (fun t ht=>hE t (by simp[Kc.tmps,ht]))
  have h2:=Jd hv (fun t ht=>hE t (by simp[Kc.tmps,ht]))
  simp only[JY,UZ]at h
  split at h
  ·rename_i b off hb
   split at h
   ·rename_i hl
    rw[GD]at h
    obtain⟨H',hs,rfl⟩:=h
    rw[hb]at h1
    simp only[V]at h1
    obtain⟨m,hm,he⟩:=h1
    obtain⟨w',hr,hS',hlen⟩:=Ge0 (P:=P) hS hn hm h2 hl hs
    refine I_ hnd (w':=w') (ν':=ν) ?_ hS' rfl ⟨by dsimp only;omega,fun _ _=>rfl,fun _ _=>rfl⟩
    simp[execOp,ho,Instr.storeAt,he,Instr.sureAddr,hr]
   ·cases h
  ·cases h
 ·obtain⟨callee,args,argTypes⟩:=c
  have hc':=hc
  rw[ho]at hc'
  simp only[GC,O6]at hc'
  split at hc'
  ·rename_i f
   rw[Jk]at hc'
   obtain⟨l,hl,hc'⟩:=hc'
   obtain⟨hfb,hc'⟩:=GI hc'
   simp only[GA]at hc'
   subst hc'
   simp only[JY]at h
   refine Vv hF hBr hS hnd (of_decide_eq_true hfb) h hL (Uu hl (fun t ht=>hE t (by simpa[Kc.tmps]using ht))) fun fn h1 h2 h3=>?_
   simp[execOp,ho,resolve,Act.eval,Deferred.ofValue,invoke,NW h1 h2 h3]
  ·rename_i t
   simp only[GD]at hc'
   obtain⟨l,hl,hop⟩:=hc'
   split at hop
   ·subst hop
    simp only[JY]at h
    split at h
    ·rename_i f caps hf
     have h1:V ν (E t) (a.tmps.getD t undef):=hE t (by simp[Kc.tmps,Ja])
     simp only[Env.ev]at hf
     rw[hf]at h1
     simp only[V]at h1
     obtain⟨vs,hvs,hvl⟩:=h1
     split at h
     case isFalse=>cases h
     rename_i hfb
     have hargs:=Uu (a:=a) (ν:=ν) (E:=E) hl (fun t ht=>hE t (by simp[Kc.tmps]at ht⊢;exact .inr ht))
     refine Vv (args':=args.map a.eval++vs) hF hBr hS hnd hfb h hL (by rw[Array.toList_append];exact hargs.append hvl) fun fn h1 h2 h3=>?_
     have he:a.eval (.tmp t)=.func (.func f) #[] vs:=hvs
     simp[execOp,ho,resolve,he,Deferred.ofValue,invoke,NW h1 h2 h3]
    ·rename_i b hf
     have h1:V ν (E t) (a.tmps.getD t undef):=hE t (by simp[Kc.tmps,Ja])
     simp only[Env.ev]at hf
     rw[hf]at h1
     simp only[V]at h1
     obtain⟨m,hm,hvs⟩:=h1
     have hargs:=Uu (a:=a) (ν:=ν) (E:=E) hl (fun t ht=>hE t (by simp[Kc.tmps]at ht⊢;exact .inr ht))
     refine FW (args':=args.map a.eval) hF hBr hS hnd hm h hL hargs ?_
     have he:a.eval (.tmp t)=.func (.yield m.c) #[] #[]:=hvs
     simp[execOp,ho,resolve,he,Deferred.ofValue,invoke]
    ·cases h
   ·rename_i htb
    subst hop
    simp only[JY]at h
    split at h
    ·rename_i f caps hf
     have h1:V ν (E t) (a.tmps.getD t undef):=hE t (by simp[Kc.tmps,Ja])
     simp only[Env.ev]at hf
     rw[hf]at h1
     simp only[V]at h1
     obtain⟨vs,hvs,hvl⟩:=h1
     split at h
     case isFalse=>cases h
     rename_i hfb
     have hargs:=Uu (a:=a) (ν:=ν) (E:=E) hl (fun t ht=>hE t (by simp[Kc.tmps]at ht⊢;exact .inr ht))
     refine Vv (args':=args.map a.eval++vs) hF hBr hS hnd hfb h hL (by rw[Array.toList_append];exact hargs.append hvl) fun fn h1 h2 h3=>?_
     have he:a.eval (.tmp t)=.func (.func f) #[] vs:=hvs
     simp[execOp,ho,resolve,he,Deferred.ofValue,invoke,NW h1 h2 h3]
    ·rename_i name ty x hf
     rw[Jk]at h
     obtain⟨f,hmf,h⟩:=h
     have h1:V ν (E t) (a.tmps.getD t undef):=hE t (by simp[Kc.tmps,Ja])
     simp only[Env.ev]at hf
     rw[hf]at h1
     simp only[V]at h1
     obtain⟨u,hu,u',rfl,hux⟩:=h1
     have hargs:=Uu (a:=a) (ν:=ν) (E:=E) hl (fun t ht=>hE t (by simp[Kc.tmps]at ht⊢;exact .inr ht))
     refine Vv (args':=#[u']++args.map a.eval) hF hBr hS hnd (Zl hmf).choose_spec.choose_spec.choose_spec.2.2.2.2.2 h hL (by rw[Array.toList_append];simp only[VL,List.cons_append,List.nil_append];exact⟨_,_,rfl,hux,hargs⟩) fun fn h1 h2 h3=>?_
     have he:a.eval (.tmp t)=.func (.method name) #[.iface ty u'] #[]:=hu
     have hcm:=Aj (w:=w) hmf u' (args.map a.eval)
     have hex:(#[Value.iface ty u']++args.map a.eval).extract 1 (#[Value.iface ty u']++args.map a.eval).size=args.map a.eval:=by
      simp_all
     have hget:(#[Value.iface ty u']++args.map a.eval)[0]?=some (.iface ty u'):=by rw[Array.getElem?_append_left sM];rfl
     simp only[execOp,ho,resolve,he,Deferred.ofValue,Sem.run_bind,Sem.run_pure,Result.andThen_ok,invoke,hget,hex,hcm,NW h1 h2 h3]
    ·rename_i b hf
     have h1:V ν (E t) (a.tmps.getD t undef):=hE t (by simp[Kc.tmps,Ja])
     simp only[Env.ev]at hf
     rw[hf]at h1
     simp only[V]at h1
     obtain⟨m,hm,hvs⟩:=h1
     have hargs:=Uu (a:=a) (ν:=ν) (E:=E) hl (fun t ht=>hE t (by simp[Kc.tmps]at ht⊢;exact .inr ht))
     refine FW (args':=args.map a.eval) hF hBr hS hnd hm h hL hargs ?_
     have he:a.eval (.tmp t)=.func (.yield m.c) #[] #[]:=hvs
     simp[execOp,ho,resolve,he,Deferred.ofValue,invoke]
    ·cases h
  ·rename_i recv name
   simp only[Jk,GD]at hc'
   obtain⟨x,hx,l,hl,rfl⟩:=hc'
   simp only[JY]at h
   split at h
   ·rename_i ty y hf
    rw[Jk]at h
    obtain⟨f,hmf,h⟩:=h
    have h1:=Jd hx (fun t ht=>hE t (by simp[Kc.tmps,ht]))
    rw[hf]at h1
    simp only[V]at h1
    obtain⟨u',hu,hux⟩:=h1
    have hargs:=Uu (a:=a) (ν:=ν) (E:=E) hl (fun t ht=>hE t (by simp[Kc.tmps]at ht⊢;exact .inr ht))
    refine Vv (args':=#[u']++args.map a.eval) hF hBr hS hnd (Zl hmf).choose_spec.choose_spec.choose_spec.2.2.2.2.2 h hL (by rw[Array.toList_append];simp only[VL,List.cons_append,List.nil_append];exact⟨_,_,rfl,hux,hargs⟩) fun fn h1 h2 h3=>?_
    have hcm:=Aj (w:=w) hmf u' (args.map a.eval)
    have hex:(#[Value.iface ty u']++args.map a.eval).extract 1 (#[Value.iface ty u']++args.map a.eval).size=args.map a.eval:=by
     simp_all
    have hget:(#[Value.iface ty u']++args.map a.eval)[0]?=some (.iface ty u'):=by rw[Array.getElem?_append_left sM];rfl
    simp only[execOp,ho,resolve,hu,Sem.run_bind,Sem.run_pure,Result.andThen_ok,invoke,hget,hex,hcm,NW h1 h2 h3]
   ·cases h
  ·split at hc'
   ·rename_i p x t hxs hts
    simp only[Jk,GD]at hc'
    obtain⟨q,hq,p',hp,x',hx,rfl⟩:=hc'
    have ha:args=#[p,x]:=by grind
    subst ha
    have h1:=Jd hp (fun t ht=>hE t (by simp[Kc.tmps,ht]))
    have h2:=Jd hx (fun t ht=>hE t (by simp[Kc.tmps,ht]))
    simp only[JY,UZ,GD]at h
    obtain⟨H',hH,rfl⟩:=h
    obtain⟨w',hr,hS'⟩:=GbC (P:=P) hS.Nw h1 h2 (ty:=o.type) (t2:=t) hq hH (ts:=argTypes) hts
    have hlen:=DX hH
    refine J7 hnd (v':=.tuple #[]) (w':=w') (ν':=ν) ?_ ⟨hS',fun b' hb' hl'=>hS.dom b' (by dsimp only at hb';omega) hl'⟩ (by simp[V,VL]) ⟨by dsimp only;omega,fun _ _=>rfl,fun _ _=>rfl⟩
    simp[execOp,ho,resolve,invoke,builtin,hr]
   ·cases hc'
  ·split at hc'
   ·split at hc'
    ·simp only[GD]at hc'
     obtain⟨_,_,rfl⟩:=hc'
     rw[Vi rfl,GD]at h
     obtain⟨m,hm,rfl⟩:=h
     exact Vb hBr.glob hS hc hE hm hL
    simp only[Jk,GD]at hc'
    obtain⟨_,_,_,_,rfl⟩:=hc'
    rw[Vi rfl,GD]at h
    obtain⟨m,hm,rfl⟩:=h
    exact Vb hBr.glob hS hc hE hm hL
   ·cases hc'
  ·split at hc'
   ·split at hc'
    ·simp only[GD]at hc'
     obtain⟨_,_,rfl⟩:=hc'
     rw[Vi rfl,GD]at h
     obtain⟨m,hm,rfl⟩:=h
     exact Vb hBr.glob hS hc hE hm hL
    ·cases hc'
   ·cases hc'
  ·split at hc'
   ·split at hc'
    ·simp only[GD]at hc'
     obtain⟨_,_,rfl⟩:=hc'
     rw[Vi rfl,GD]at h
     obtain⟨m,hm,rfl⟩:=h
     exact Vb hBr.glob hS hc hE hm hL
    ·cases hc'
   ·cases hc'
  ·split at hc'
   ·rename_i s x t u hxs hts
    simp only[Jk]at hc'
    obtain⟨e,he,e',he',n,hn,b,hb,z,hz,s',hs,x',hx,hg⟩:=hc'
    obtain⟨hgd,hop⟩:=GI hg
    simp only[GA]at hop
    subst hop
    simp only[NH,decide_eq_true_eq]at hgd
    obtain⟨⟨⟨hn0,hb0⟩,hb4⟩,hzl⟩:=hgd
    obtain⟨i,v,hi,hv,hV⟩:=U7 ν hz
    have ha:args=#[s,x]:=by grind
    have hat:argTypes=#[t,u]:=by grind
    subst ha;subst hat
    have h1:=Jd hs (fun t ht=>hE t (by simp[Kc.tmps,ht]))
    have h2:=Jd hx (fun t ht=>hE t (by simp[Kc.tmps,ht]))
    simp only[JY,UZ,Jk]at h
    obtain⟨q,hq,h⟩:=h
    have hT:GeF P t u n e i v:=by
     refine⟨Js he,⟨e',Js he'⟩,hi,hv,?_,?_,?_,hn0⟩
     ·obtain⟨i',hi',rfl⟩:=Ze hn
      grind
     ·have:=hV.length;simp at this;omega
     ·simp only[MO,hi,Option.map_some,GA]at hb;omega
    obtain⟨v',w',ν',hr,hS',hV',hx'⟩:=Gb1 (P:=P) (ty:=o.type) hS hT h1 h2 hq h hL
    exact J7 hnd (v':=v') (by simp[execOp,ho,resolve,invoke,builtin,hr]) hS' hV' hx'
   ·cases hc'
  ·split at hc'
   ·rename_i d s t u hxs hts
    simp only[Jk,GD]at hc'
    obtain⟨e,he,e',he',n,hn,d',hd,s',hs,rfl⟩:=hc'
    have ha:args=#[d,s]:=by grind
    have hat:argTypes=#[t,u]:=by grind
    subst ha;subst hat
    have h1:=Jd hd (fun t ht=>hE t (by simp[Kc.tmps,ht]))
    have h2:=Jd hs (fun t ht=>hE t (by simp[Kc.tmps,ht]))
    have hu:=Js he
    have idle:∀(db sb:Option Addr)(dl dc sl sc:Nat),a.eval d=.slice db dl dc→a.eval s=.slice sb sl sc→Nat.min sl dl=0→(execOp a.eval o).run P w=.ok (.value (.int .i64 0)) w:=by
     intro db sb dl dc sl sc e1 e2 e3
     have hf:(Builtin.firstCells n 0 (.slice sb sl sc)).run P w=.ok #[] w:=by
      cases sb with
      |none=>exact run_firstCells_none w _ _ _ _
      |some ad=>exact run_firstCells_some w n 0 ad sl sc [] sM sM
     cases db<;>simp[execOp,ho,resolve,invoke,builtin,Builtin.copy_,run_underlying hu,e1,e2,Builtin.lenOf,e3,JC hn,hf,goInt,storeCells]
    simp only[JY,UZ]at h
    split at h
    ·rename_i b1 o1 l1 c1 z1 t1 b2 o2 l2 c2 z2 t2 e1 e2
     rw[e1]at h1
     rw[e2]at h2
     simp only[V]at h1 h2
     obtain⟨m1,k1,f1,hm1,hz1,hv1,hl1,ht1,ho1,GoE⟩:=h1
     obtain⟨m2,k2,f2,hm2,hz2,hv2,hl2,ht2,ho2,Xn⟩:=h2
     split at h
     ·rename_i h0
      simp only[GA]at h
      subst h
      exact J7 hnd (idle _ _ _ _ _ _ hv1 hv2 h0) hS (by simp[V]) (Ext.refl _ _ _)
     ·rename_i h0
      rw[Jk]at h
      obtain⟨cs,hcs,h⟩:=h
      rw[GD]at h
      obtain⟨H',hH',rfl⟩:=h
      have f1':=ho1.resolve_left oM
      have f2':=ho2.resolve_left oM
      obtain⟨hlen,vs,hvs,hcell⟩:=hS.Nw.JD hcs hm2
      obtain⟨w',hst,hS',hle⟩:=Tn (P:=P) hS hm1 hvs hH'
      have hf:(Builtin.firstCells n (Nat.min l2 l1) (.slice (some ⟨m2.c,f2,none⟩) l2 k2)).run P w=.ok vs.toArray w:=
       run_firstCells_some w n _ _ _ _ vs (by rw[hvs.length,hlen]) fun j u hu=>by rw[Addr.add_lit,f2'];exact hcell j u hu
      refine J7 hnd (v':=.int .i64 (min l2 l1:Nat)) (w':=w') (ν':=ν) ?_ hS' (by simp[V]) ⟨by dsimp only;omega,fun _ _=>rfl,fun _ _=>rfl⟩
      have hst':(storeCells ⟨m1.c,f1,none⟩ vs).run P w=.ok () w':=by rw[f1'];exact hst
      simp[execOp,ho,resolve,invoke,builtin,Builtin.copy_,run_underlying hu,hv1,hv2,Builtin.lenOf,JC hn,hf,goInt,hst']
    ·rename_i b2 o2 l2 c2 z2 t2 e1 e2
     rw[e1]at h1
     rw[e2]at h2
     simp only[V]at h1 h2
     obtain⟨m2,k2,f2,hm2,hz2,hv2,_⟩:=h2
     simp only[GA]at h
     subst h
     exact J7 hnd (idle _ _ _ _ _ _ h1 hv2 (Nat.min_zero _)) hS (by simp[V]) (Ext.refl _ _ _)
    ·rename_i b2 o2 l2 c2 z2 t2 e1 e2
     rw[e1]at h1
     rw[e2]at h2
     simp only[V]at h1 h2
     obtain⟨m2,k2,f2,hm2,hz2,hv2,_⟩:=h1
     simp only[GA]at h
     subst h
     exact J7 hnd (idle _ _ _ _ _ _ hv2 h2 (Nat.zero_min _)) hS (by simp[V]) (Ext.refl _ _ _)
    ·rename_i e1 e2
     rw[e1]at h1
     rw[e2]at h2
     simp only[V]at h1 h2
     simp only[GA]at h
     subst h
     exact J7 hnd (idle _ _ _ _ _ _ h1 h2 (Nat.zero_min _)) hS (by simp[V]) (Ext.refl _ _ _)
    ·cases h
   ·cases hc'
  ·split at hc'
   ·rename_i s t hxs hts
    have ha:args=#[s]:=by grind
    subst ha
    split at hc'
    ·rename_i q hq
     simp only[GD]at hc'
     obtain⟨s',hs,rfl⟩:=hc'
     have h1:=Jd hs hE
     obtain⟨k,e,_,_,hu,_⟩:=Ve hq
     simp only[JY,UZ]at h
     split at h
     ·rename_i b hb
      rw[GD]at h
      obtain⟨H',hH,rfl⟩:=h
      rw[hb]at h1
      obtain⟨w',hr,hS'⟩:=SF (P:=P) hS.Nw h1 (ty:=o.type) hq hH (ts:=argTypes) hts
      have hlen:=QV hH
      refine J7 hnd (v':=.tuple #[]) (w':=w') (ν':=ν) ?_ ⟨hS',fun b' hb' hl'=>hS.dom b' (by dsimp only at hb';omega) hl'⟩ (by simp[V,VL]) ⟨by dsimp only;omega,fun _ _=>rfl,fun _ _=>rfl⟩
      simp[execOp,ho,resolve,invoke,builtin,hr]
     ·rename_i hb
      simp only[GA]at h
      subst h
      rw[hb]at h1
      simp only[V]at h1
      refine J7 hnd (v':=.tuple #[]) (w':=w) (ν':=ν) ?_ hS (by simp[V,VL]) (Ext.refl _ _ _)
      simp[execOp,ho,resolve,invoke,builtin,Builtin.clear_,hts,run_underlying hu,h1]
     ·cases h
    simp only[Jk,GD]at hc'
    obtain⟨e,he,z,hz,s',hs,rfl⟩:=hc'
    have h1:=Jd hs hE
    obtain⟨i,v,hi,hv,hV⟩:=U7 ν hz
    have hu:=Js he
    simp only[JY,UZ]at h
    split at h
    ·rename_i b1 o1 l1 c1 z1 t1 e1
     rw[e1]at h1
     simp only[V]at h1
     obtain⟨m1,k1,f1,hm1,hz1,hv1,hl1,ht1,ho1,GoE⟩:=h1
     split at h
     ·rename_i h0
      subst h0
      simp only[GA]at h
      subst h
      refine J7 hnd (v':=.tuple #[]) (w':=w) (ν':=ν) ?_ hS (by simp[V,VL]) (Ext.refl _ _ _)
      simp[execOp,ho,resolve,invoke,builtin,Builtin.clear_,hts,run_underlying hu,hv1]
     ·rename_i h0
      rw[GD]at h
      obtain⟨H',hH',rfl⟩:=h
      have f1':=ho1.resolve_left oM
      have hz0:=Zb hV l1
      rw[←EU]at hz0
      obtain⟨w',hst,hS',hle⟩:=Tn (P:=P) hS hm1 hz0 hH'
      refine J7 hnd (v':=.tuple #[]) (w':=w') (ν':=ν) ?_ hS' (by simp[V,VL]) ⟨by dsimp only;omega,fun _ _=>rfl,fun _ _=>rfl⟩
      have hst':(storeCells ⟨m1.c,f1,none⟩ (Builtin.zeroCells v.cells l1).toList).run P w=.ok () w':=by rw[f1'];exact hst
      obtain⟨l,rfl⟩:∃l,l1=l+1:=⟨l1-1,oM⟩
      refine GR (s:=Builtin.clear_ argTypes o.type #[a.eval s]) (by simp[execOp,ho,resolve,invoke,builtin]) ?_
      simp only[Builtin.clear_,hv1]
      simp[hts,run_underlying hu,Kq hi hv,hst']
    ·rename_i e1
     rw[e1]at h1
     simp only[V]at h1
     simp only[GA]at h
     subst h
     refine J7 hnd (v':=.tuple #[]) (w':=w) (ν':=ν) ?_ hS (by simp[V,VL]) (Ext.refl _ _ _)
     simp[execOp,ho,resolve,invoke,builtin,Builtin.clear_,hts,run_underlying hu,h1]
    ·cases h
   ·cases hc'
  ·cases hc'
end
end Go.Cs
namespace Go.Cs
open Go Go.RowKit
def Ik(l:List G8)(q:Nat):Nat:=((l.take q).filter fun x=>x.kind==3).length
theorem GdG{l:List G8}{q:Nat}{d:G8}(h:l[q]?=some d):Ik l (q+1)=Ik l q+if d.kind=3 then 1 else 0:=by
 unfold Ik
 rw[Nl,h]
 grind
structure ZC(P:Program)(N:Nat)(ops:Array Oper)(an:List (List Nat))(l:List G8):Prop where
 len:l.length=ops.size
 stmt:∀(q:Nat)(d:G8),l[q]?=some d→∃o,ops[d.no]?=some o∧Nr P N ops o=some d.s
 kind:∀(q:Nat)(d:G8),l[q]?=some d→(d.kind=0∨d.kind=1∨d.kind=3)∧(d.kind=0→kindOf d.s.op=0)
 all:∀j,j<ops.size→∃(q:Nat)(d:G8),l[q]?=some d∧d.no=j
 inj:∀(q r:Nat)(d c:G8),l[q]?=some d→l[r]?=some c→d.no=c.no→q=r
 dst:∀(q r:Nat)(d c:G8)(t:Nat),l[q]?=some d→l[r]?=some c→c.s.dst=some t→d.s.dst=some t→q=r
 reads:∀(q r:Nat)(d c:G8)(t:Nat),l[q]?=some d→l[r]?=some c→c.s.dst=some t→t∈d.s.reads→(r<q∧c.no∈an.getD d.no [])∨(q≤r∧(q=r∨d.no∈an.getD c.no []))
 chain:∀(q r:Nat)(d c:G8),l[q]?=some d→l[r]?=some c→c.kind=3→r<q→(d.kind=3∨Ik l r<d.low)→c.no∈an.getD d.no []
 before:∀(q r:Nat)(d c:G8),l[q]?=some d→l[r]?=some c→d.kind=3→c.kind≠3→r<q→c.no∈an.getD d.no []
 low:∀(q:Nat)(d:G8),l[q]?=some d→d.low≤Ik l q
 anc:∀(j i:Nat)(o:Oper),ops[j]?=some o→i∈an.getD j []→∃e∈Qp o,e<j∧(i=e∨i∈an.getD e [])
 edges:∀(j:Nat)(o:Oper),ops[j]?=some o→∀e∈Qp o,e<j
theorem Vl{α:Type}{l:List α}{f:α×Nat→Bool}(h:l.zipIdx.all f=true){i:Nat}{x:α}(hx:l[i]?=some x):f (x,i)=true:=by
 grind
theorem GmA{P:Program}{N:Nat}{ops:Array Oper}{ss:List GH}(hc:Jt (ops.toList.map (Nr P N ops))=some ss){l:List G8}(hl:∃ks,l=Py ss (Ma ops.toList) ks)
  (hok:dOk ops.toList ss (Ma ops.toList) l=true):ZC P N ops (Ma ops.toList) l:=by
 generalize han:Ma ops.toList=an at*
 unfold dOk at hok
 simp only[NH]at hok
 obtain⟨⟨⟨⟨⟨⟨⟨GvW,GoL⟩,hlen⟩,hsl⟩,hkind⟩,hall⟩,Gdk⟩,hlow⟩:=hok
 simp only[decide_eq_true_eq,Array.length_toList]at hlen hsl
 have hno:∀(q:Nat)(d:G8),l[q]?=some d→d.no<ops.size∧(d.kind=0∨d.kind=1∨d.kind=3)∧(d.kind=0→kindOf d.s.op=0):=by
  grind
 have hpr:∀(q r:Nat)(d c:G8),l[q]?=some d→l[r]?=some c→_:=fun q r d c hd hc=>Vl (Vl Gdk hd) hc
 refine⟨hlen,fun q d hd=>?_,fun q d hd=>(hno q d hd).2,fun j hj=>?_,fun q r d c hd hc' he=>?_,fun q r d c t hd hc' h1 h2=>?_,fun q r d c t hd hc' h1 h2=>?_,fun q r d c hd hc' h1 h2 h3=>?_,
  fun q r d c hd hc' h1 h2 h3=>?_,fun q d hd=>?_,fun j i o ho hi=>?_,fun j o ho e he=>?_⟩
 ·obtain⟨ks,rfl⟩:=hl
  unfold Py at hd
  rw[Kr,GD]at hd
  obtain⟨j,hj,rfl⟩:=hd
  dsimp only
  have hj2:j<ops.size:=(hno q _ (by unfold Py;rw[Kr,hj];rfl)).1
  have hs:ss[j]?=some (ss.getD j default):=by grind
  have hx:=KX hc hs
  grind
 ·rw[List.all_eq_true]at hall
  have:=hall j (List.mem_range.2 (by simpa using hj))
  rw[List.any_eq_true]at this
  obtain⟨d,hd,hdj⟩:=this
  obtain⟨q,hq⟩:=List.mem_iff_getElem?.1 hd
  grind
 ·grind
 ·grind
 ·have:=hpr q r d c hd hc'
  simp_all
 ·have:=hpr q r d c hd hc'
  simp only[NH]at this
  have h4:=this.1.2
  simp only[Bool.or_eq_true,Bool.not_eq_true',List.contains_iff_mem]at h4
  rcases h4 with h|h
  ·have h5:(c.kind==3&&decide (r<q)&&(d.kind==3||decide (((l.take r).filter fun x=>x.kind==3).length<d.low)))=true:=by
    simp only[NH,beq_iff_eq,decide_eq_true_eq,Bool.or_eq_true]
    exact⟨⟨h1,h2⟩,h3⟩
   rw[h5]at h;cases h
  ·exact h
 ·grind
 ·have:=Vl hlow hd
  unfold Ik
  simpa using this
 ·have h1:=Vl GvW (i:=j) (x:=o) (by simpa using ho)
  grind
 ·have h1:=Vl GoL (i:=j) (x:=o) (by simpa using ho)
  grind
theorem Ge3{H:Gb}{b o:Nat}{v:CV}(bs:List JE)(h:QW H b o=some v):QW (H++bs) b o=some v:=by
 unfold QW at*
 grind
theorem Fw{H:Gb}{b o n:Nat}{v:List CV}(bs:List JE)(h:JD H b o n=some v):JD (H++bs) b o n=some v:=by
 unfold JD at*
 grind
theorem Gd7{H:Gb}{n:Nat}{c:CV}{q:Nat×List CV}(bs:List JE)(h:elems H n c=some q):elems (H++bs) n c=some q:=by
 unfold elems at*
 split at h
 ·exact h
 ·split at h
  ·rename_i h0;rw[if_pos h0];exact h
  ·rename_i h0
   rw[if_neg h0]
   rw[GD]at h⊢
   obtain⟨cs,hcs,rfl⟩:=h
   exact⟨cs,Fw bs hcs,rfl⟩
 ·cases h
theorem TL{H:Gb}{GN n:Nat}{s:CV}{new:List CV}{m:Option JE×(Nat→CV)}(bs:List JE)(h:NQ H GN s n new=some m):NQ (H++bs) GN s n new=some m:=by
 unfold NQ at*
 split at h
 ·exact h
 ·split at h
  ·rename_i h0;rw[if_pos h0];exact h
  ·rename_i h0
   rw[if_neg h0]
   split at h
   ·rename_i hc
    rw[if_pos hc]
    rw[GD]at h⊢
    obtain⟨old,ho,rfl⟩:=h
    refine⟨old,?_,rfl⟩
    split at ho
    ·rename_i h0;rw[if_pos h0];exact ho
    ·rename_i h0;rw[if_neg h0];exact Fw bs ho
   ·cases h
 ·cases h
theorem Bl{H:Gb}{c:CV}{es:List CV}(bs:List JE)(h:entriesOf H c=some es):entriesOf (H++bs) c=some es:=by
 unfold entriesOf at h⊢
 grind
theorem Gii{op:Kc}{E:Env}{H:Gb}{m:Option JE×(Nat→CV)}(bs:List JE)(h:G7 op E H=some m):G7 op E (H++bs)=some m:=by
 cases op with
 |load g n a=>
  simp only[G7]at h⊢
  split at h
  ·split at h
   ·rename_i hg
    rw[if_pos hg]
    rw[GD]at h⊢
    obtain⟨cs,hcs,rfl⟩:=h
    exact⟨cs,Fw bs hcs,rfl⟩
   ·rename_i hg
    rw[if_neg hg]
    rw[GD]at h⊢
    obtain⟨v,hv,rfl⟩:=h
    exact⟨v,Ge3 bs hv,rfl⟩
  ·cases h
 |append n s x=>
  simp only[G7,Jk]at h⊢
  obtain⟨q,hq,h⟩:=h
  exact⟨q,Gd7 bs hq,TL bs h⟩
 |Ya m=>
  simp only[G7,GD]at h⊢
  obtain⟨es,hes,rfl⟩:=h
  exact⟨es,Bl bs hes,rfl⟩
 |Vn ok k z m x=>
  simp only[G7,GD]at h⊢
  obtain⟨v,hv,rfl⟩:=h
  refine⟨v,?_,rfl⟩
  unfold Qm at hv⊢
  split at hv
  ·split at hv
   ·rename_i hk
    subst hk
    rw[Jk]at hv
    obtain⟨es,hes,hv⟩:=hv
    simp only[if_true,Bl bs hes,Option.bind_some]
    exact hv
   ·cases hv
  ·cases hv
 |_=>exact h
theorem Gfh{op:Kc}(hk:kindOf op=0)(E:Env)(H H':Gb):G7 op E H=G7 op E H':=by
 cases op<;>first|rfl|cases hk
abbrev DSt:=Env×Gb×List Gb
open Classical in
noncomputable def Yp(F:GQ)(d:G8)(s:DSt):Option DSt:=
 if wanted d.s.guard s.1=false then some (s.1.put d.s.dst .undef,s.2.1,if d.kind=3 then s.2.1::s.2.2 else s.2.2)
 else if d.kind=3 then(JY F d.s.op s.1 s.2.1).map fun p=>(s.1.put d.s.dst p.1,p.2,s.2.1::s.2.2)
 else(G7 d.s.op s.1 s.2.1).bind fun m=>
  if d.kind=1→∀H'∈s.2.2.take (s.2.2.length-d.low),G7 d.s.op s.1 H'=some m then some (s.1.put d.s.dst (made s.2.1 m).1,(made s.2.1 m).2,s.2.2)else none
structure Way(F:GQ)(l:List G8)(st:Nat→DSt):Prop where
 step:∀(q:Nat)(d:G8),l[q]?=some d→Yp F d (st q)=some (st (q+1))
theorem GcS{F:GQ}:∀{l:List G8}{E:Env}{H:Gb}{hs:List Gb}{r:Env×Gb},AU F l E H hs=some r→∃st,st 0=(E,H,hs)∧(st l.length).1=r.1∧(st l.length).2.1=r.2∧Way F l st
 |[],E,H,hs,r,h=>by
  simp only[AU,GA]at h
  subst h
  exact⟨fun _=>(E,H,hs),rfl,rfl,rfl,⟨fun q d hd=>by simp at hd⟩⟩
 |d::l,E,H,hs,r,h=>by
  have key:∃s,Yp F d (E,H,hs)=some s∧AU F l s.1 s.2.1 s.2.2=some r:=by
   unfold AU at h
   unfold Yp
   dsimp only
   split at h
   ·simp_all
   ·rename_i hw
    rw[if_neg hw]
    split at h
    ·rename_i h3
     rw[if_pos h3]
     rw[Jk]at h
     obtain⟨p,hp,h⟩:=h
     exact⟨_,by rw[hp];rfl,h⟩
    ·rename_i h3
     rw[if_neg h3]
     rw[Jk]at h
     obtain⟨m,hm,h⟩:=h
     simp_all
  obtain⟨s,hs1,hs2⟩:=key
  obtain⟨st,h0,h1,h2,h3⟩:=GcS hs2
  refine⟨fun q=>match q with|0=>(E,H,hs)|q+1=>st q,rfl,h1,h2,⟨fun q c hc=>?_⟩⟩
  cases q with
  |zero=>
   grind
  |succ q=>
   simp at hc
   exact h3.step q c hc
section
variable {F : GQ} {l : List G8} {st : Nat → DSt}
theorem Ew{d:G8}{s s':DSt}(h:Yp F d s=some s'):∃v,s'.1=s.1.put d.s.dst v:=by
 unfold Yp at h
 split at h
 ·grind
 ·split at h
  ·rw[GD]at h;grind
  ·rw[Jk]at h
   grind
theorem Gdu(hF:Y9 F){d:G8}{s s':DSt}(h:Yp F d s=some s'):s.2.1.length≤s'.2.1.length:=by
 unfold Yp at h
 split at h
 ·grind
 ·split at h
  ·rw[GD]at h;obtain⟨p,hp,rfl⟩:=h;exact TH hF hp
  ·rw[Jk]at h
   obtain⟨m,_,h⟩:=h
   split at h
   ·simp only[GA]at h;subst h;exact Mq _ _
   ·cases h
theorem Wd{d:G8}{s s':DSt}(h:Yp F d s=some s')(h3:d.kind≠3):s'.2.1=s.2.1∨∃b,s'.2.1=s.2.1++[b]:=by
 unfold Yp at h
 split at h
 ·grind
 ·rw[Jk]at h
  obtain⟨m,_,h⟩:=h
  split at h
  ·simp only[GA]at h;subst h
   unfold made
   grind
  ·cases h
theorem Oc{d:G8}{s s':DSt}(h:Yp F d s=some s'):s'.2.2=if d.kind=3 then s.2.1::s.2.2 else s.2.2:=by
 unfold Yp at h
 split at h
 ·grind
 ·split at h
  ·rename_i h3;rw[GD]at h;grind
  ·rename_i h3
   rw[Jk]at h
   grind
theorem Way.JG(hw:Way F l st)(hF:Y9 F){q q':Nat}(h:q≤q')(hl:q'≤l.length):(st q).2.1.length≤(st q').2.1.length:=by
 induction h with
 |refl=>exact Nat.le_refl _
 |@step k hk ih=>
  exact J2 (ih oM) (Gdu hF (hw.step k _ (Jr oM)))
theorem Way.GaF(hw:Way F l st)(hd:∀(q r:Nat)(d c:G8)(t:Nat),l[q]?=some d→l[r]?=some c→c.s.dst=some t→d.s.dst=some t→q=r) {r q:Nat} {c:G8} {t:Nat} (hc:l[r]?=some c) (ht:c.s.dst=some t) (h:r<q) (hl:q≤l.length):
  (st q).1 t=(st (r+1)).1 t:=by
 induction h with
 |refl=>rfl
 |@step k hk ih=>
  have hx:l[k]?=some (l[k]'oM):=Jr oM
  obtain⟨v,hv⟩:=Ew (hw.step k _ hx)
  rw[←ih oM,hv]
  cases hd':l[k].s.dst with
  |some d=>
   simp only[Env.put,Env.upd]
   grind
  |none=>rfl
theorem Way.L_(hw:Way F l st){q:Nat}{t:Nat}(hl:q≤l.length)(h:∀(r:Nat)(d:G8),l[r]?=some d→d.s.dst≠some t):(st q).1 t=(st 0).1 t:=by
 induction q with
 |zero=>rfl
 |succ k ih=>
  have hx:l[k]?=some (l[k]'oM):=Jr oM
  obtain⟨v,hv⟩:=Ew (hw.step k _ hx)
  rw[←ih oM,hv]
  cases hd':l[k].s.dst with
  |some d=>
   simp only[Env.put,Env.upd]
   grind
  |none=>rfl
theorem Way.GeZ(hw:Way F l st){q:Nat}{t:Nat}(hl:q≤l.length)(h:∀(r:Nat)(d:G8),r<q→l[r]?=some d→d.s.dst≠some t):(st q).1 t=(st 0).1 t:=by
 induction q with
 |zero=>rfl
 |succ k ih=>
  have hx:l[k]?=some (l[k]'oM):=Jr oM
  obtain⟨v,hv⟩:=Ew (hw.step k _ hx)
  rw[←ih oM (fun r d hr=>h r d oM),hv]
  cases hd':l[k].s.dst with
  |some d=>
   simp only[Env.put,Env.upd]
   grind
  |none=>rfl
theorem Way.GmD(hw:Way F l st)(h0:(st 0).2.2=[]){q:Nat}(hl:q≤l.length):(st q).2.2.length=Ik l q:=by
 induction q with
 |zero=>rw[h0];simp[Ik]
 |succ k ih=>
  have hx:l[k]?=some (l[k]'oM):=Jr oM
  rw[Oc (hw.step k _ hx),GdG hx,←ih oM]
  split<;>simp
theorem Way.Gna(hw:Way F l st)(h0:(st 0).2.2=[]){e q low:Nat}{d:G8}(hd:l[e]?=some d) (h3:d.kind=3) (hlow:low≤Ik l e) (h:e<q) (hl:q≤l.length):
  (st e).2.1∈(st q).2.2.take ((st q).2.2.length-low):=by
 induction h with
 |refl=>
  have hle:=hw.GmD h0 (q:=e) oM
  rw[Oc (hw.step e _ hd),if_pos h3,List.length_cons,hle,show Ik l e+1-low=(Ik l e-low)+1 from by omega,List.take_succ_cons]
  exact QT
 |@step k hk ih=>
  have hx:l[k]?=some (l[k]'oM):=Jr oM
  have ih':=ih oM
  rw[Oc (hw.step k _ hx)]
  split
  ·have hle:low≤(st k).2.2.length:=by
    rcases VB (st k).2.2.length low with hlt|hge
    ·rw[show(st k).2.2.length-low=0 from by omega]at ih';simp at ih'
    ·exact hge
   rw[List.length_cons,show(st k).2.2.length+1-low=((st k).2.2.length-low)+1 from by omega,List.take_succ_cons]
   exact VA _ ih'
  ·exact ih'
theorem Way.grows(hw:Way F l st){p q:Nat}(h:p≤q)(hl:q≤l.length)(hs:∀(r:Nat)(d:G8),p≤r→r<q→l[r]?=some d→d.kind≠3):∃bs,(st q).2.1=(st p).2.1++bs:=by
 induction h with
 |refl=>exact⟨[],sM⟩
 |@step k hk ih=>
  obtain⟨bs,hb⟩:=ih oM (fun r d h1 h2=>hs r d h1 oM)
  have hx:l[k]?=some (l[k]'oM):=Jr oM
  rcases Wd (hw.step k _ hx) (hs k _ hk oM hx)with h|⟨b,h⟩
  ·exact⟨bs,by rw[h,hb]⟩
  grind
end
section
variable {P : Program} {N : Nat} {ops : Array Oper} {an : List (List Nat)} {l : List G8}
def Closed(ops:Array Oper)(listed:Array Bool):Prop:=∀(j:Nat)(o:Oper),ops[j]?=some o→listed.getD j false=true→∀e∈Qp o,listed.getD e false=true
theorem Ui(hd:ZC P N ops an l){listed:Array Bool}(hc:Closed ops listed):∀(j:Nat)(o:Oper),ops[j]?=some o→(∀e∈Qp o,listed.getD e false=true)→∀i∈an.getD j [],listed.getD i false=true:=by
 intro j
 induction j using Nat.strongRecOn with
 |_ j ih=>
  intro o ho he i hi
  obtain⟨e,hee,hlt,h⟩:=hd.anc j i o ho hi
  rcases h with rfl|h
  ·exact he _ hee
  ·have hj:j<ops.size:=(Vo.1 ho).1
   have hx:ops[e]?=some (ops[e]'oM):=GkG oM
   exact ih e hlt _ hx (hc e _ hx (he e hee)) i h
end
end Go.Cs
namespace Go.Cs
open Go Go.RowKit
structure ER(D:List Deferred)(ν:Mu)(n:Nat)(E:Env)(a:Act):Prop where
 defers:a.defers=D
 size:n≤a.tmps.size
 val:∀t,V ν (E t) (a.tmps.getD t undef)
 top:∀t,n≤t→E t=.undef
theorem GcB(ν:Mu):V ν CV.undef undef:=by simp[V,VL,undef]
section
variable {P : Program} {F : GQ} {K : Nat → Option Obj} {B : Bs} {L N : Nat} {rd : Option Nat} {dp : Nat} {D : List Deferred}
theorem ER.mono{ν ν':Mu}{E:Env}{a:Act}(h:ER D ν N E a)(hm:∀b m,ν b=some m→ν' b=some m):ER D ν' N E a:=⟨h.defers,h.size,fun t=>V.mono hm _ _ (h.val t),h.top⟩
theorem ER.put{ν:Mu}{E:Env}{a:Act}(h:ER D ν N E a){dst:Option Nat}(hd:∀d,dst=some d→d<N){v:CV}{v':Value}(hv:V ν v v'):ER D ν N (E.put dst v) (a.put dst v'):=by
 cases dst with
 |none=>exact h
 |some d=>
  refine⟨h.defers,by simp only[Act.put,Gky];exact h.size,fun t=>?_,fun t ht=>by
   simp only[Env.put,Env.upd]
   rw[if_neg (by have:=hd d rfl;omega)]
   exact h.top t ht⟩
  simp only[Act.put,Env.put,Env.upd]
  have hlt:d<a.tmps.size:=J6 (hd d rfl) h.size
  by_cases ht:t=d
  ·simp_all
  ·rw[if_neg ht,Array.getD_eq_getD_getElem?,GnR (Ne.symm ht),←Array.getD_eq_getD_getElem?]
   exact h.val t
theorem Gci{ν:Mu}{c:CV}{v:Value}(h:V ν c v)(b:Bool):v=.bool b↔c=.bool b:=by
 cases c<;>simp only[V]at h
 case bool b'=>subst h;simp
 all_goals
  grind
theorem QJ{ops:Array Oper}{o:Oper}{s:GH}(h:Nr P N ops o=some s):∃g op,UY ops o.guard=some g∧GC P o.op=some op∧(∀d,o.dst=some d→d<N)∧s=⟨o.dst,g,op⟩:=by
 unfold Nr at h
 rw[Jk]at h
 obtain⟨g,hg,h⟩:=h
 rw[Jk]at h
 obtain⟨op,hop,h⟩:=h
 obtain⟨hd,h⟩:=GI h
 grind
theorem OW{ν:Mu}{ops:Array Oper}{g:Option (Nat×Bool)}{g':Option (Nat×Bool)}{o:Oper}(ho:o.guard=g)(hg:UY ops g=some g'){E:Env}{a:Act}(hV:∀t b,g'=some (t,b)→V ν (E t) (a.tmps.getD t undef)):
  Region.wanted o (yielded ops a.tmps)=wanted g' E:=by
 unfold Region.wanted wanted
 rw[ho]
 cases g with
 |none=>simp only[UY,GA]at hg;subst hg;rfl
 |some q=>
  obtain⟨j,b⟩:=q
  simp only[UY,GD]at hg
  obtain⟨t,ht,rfl⟩:=hg
  have h1:=hV t b rfl
  dsimp only
  unfold yielded
  rw[ht]
  simp only[Option.bind_some]
  cases hx:a.tmps[t]? with
  |none=>
   rw[Array.getD_eq_getD_getElem?,hx]at h1
   have h2:∀b',E t≠.bool b':=fun b' e=>by have:=(Gci h1 b').2 e;cases this
   grind
  |some v=>
   rw[Array.getD_eq_getD_getElem?,hx]at h1
   simp only[Option.getD_some]at h1
   cases hE:E t with
   |bool b'=>
    have:=(Gci h1 b').2 hE
    subst this
    simp
   |_=>
    have h2:∀b',v≠.bool b':=fun b' e=>by have:=(Gci h1 b').1 e;rw[hE]at this;cases this
    grind
theorem Ll{ν:Mu}{ops:Array Oper}{o:Oper}{g:Option (Nat×Bool)}(hg:UY ops o.guard=some g){E:Env}{a:Act}(hR:ER D ν N E a):
 Region.wanted o (yielded ops a.tmps)=wanted g E:=OW rfl hg fun t _ _=>hR.val t
theorem Gei{ops:Array Oper}{Q Q':Exit→Act→World→Prop}(hq:∀x a w,Q x a w→Q' x a w){i:Nat}{K K':Act→World→Prop}(hk:∀a w,K a w→K' a w){a:Act}{w:World}(h:wpOpIn (Fr rd) dp P ops Q i K a w):wpOpIn (Fr rd) dp P ops Q' i K' a w:=by
 unfold wpOpIn at*
 split
 ·grind
 ·rename_i o ho
  simp only[ho]at h
  split
  ·rename_i hw
   rw[if_pos hw]at h
   refine⟨h.1,?_⟩
   have h:=h.2
   generalize (o.semAt (Fr rd).round a.eval).run P w=r at*
   cases r with
   |ok n w'=>
    cases n<;>simp only[Oper.uponIn]at h⊢<;>first
     |exact hk _ _ h
     |(
      refine⟨h.1,CallsIn.mono h.2 fun e w'' he=>?_⟩
      cases e with
      |returned v=>exact hk _ _ he
      |panicked c=>exact hq _ _ _ he
      |outgrown=>obtain⟨a0,w0,h2⟩:=he;exact⟨a0,w0,hq _ _ _ h2⟩)
     |exact⟨h.1,RowsIn.mono h.2 fun v w'' he=>hk _ _ he⟩
     |(
      refine⟨h.1,RoundIn.mono h.2 fun e w'' he=>?_⟩
      cases e with
      |returned v=>exact hk _ _ he
      |panicked c=>exact hq _ _ _ he
      |outgrown=>obtain⟨a0,w0,h2⟩:=he;exact⟨a0,w0,hq _ _ _ h2⟩)
   |halt x w'=>cases x<;>simp only[Oper.uponIn]at h⊢<;>exact hq _ _ _ h
  grind
theorem OE{ops:Array Oper}{Q Q':Exit→Act→World→Prop}(hq:∀x a w,Q x a w→Q' x a w):∀(l:List Nat)(a:Act)(w:World),wpOpsIn (Fr rd) dp P ops Q l a w→wpOpsIn (Fr rd) dp P ops Q' l a w
 |[],a,w,h=>hq _ _ _ h
 |i::l,a,w,h=>by
  rw[wpOpsIn_cons]at h⊢
  exact Gei hq (fun a w h=>OE hq l a w h) h
def Z5(listed:Array Bool)(j:Nat):Prop:=listed.getD j false=true
theorem YQ{listed:Array Bool}{j:Nat}(hj:j<listed.size)(i:Nat):Z5 (listed.setIfInBounds j true) i↔i=j∨Z5 listed i:=by
 unfold Z5
 by_cases hi:i=j
 ·subst hi
  simp[hj]
 ·rw[getD_set_ne false (Ne.symm hi)]
  simp[hi]
def Mk(l:List G8)(st:Nat→DSt)(listed:Array Bool)(q:Nat):Prop:=∃d,l[q]?=some d∧Z5 listed d.no∧d.kind≠3∧(st (q+1)).2.1.length=(st q).2.1.length+1
structure Inv(D:List Deferred)(K:Nat→Option Obj)(B:Bs)(L N:Nat)(l:List G8)(st:Nat→DSt)(ν0:Mu)(listed:Array Bool)(a:Act)(w:World)(p e:Nat)(ν:Mu)(K':Nat→Option Obj):Prop where
 pe:p≤e
 en:e≤l.length
 GcD:∀(q:Nat)(d:G8),l[q]?=some d→q<p→Z5 listed d.no
 steady:∀(q:Nat)(d:G8),p≤q→q<e→l[q]?=some d→d.kind≠3
 GhP:∀(d:G8),l[e]?=some d→d.kind=3
 later:∀(q:Nat)(d:G8),e≤q→l[q]?=some d→d.kind=3→¬Z5 listed d.no
 Nw:JZ K' B ν (st e).2.1 w
 keeps:∀c o,K c=some o→K' c=some o
 only:∀c o,K' c=some o→K c=some o∨∃q m,e≤q∧Mk l st listed q∧ν (st q).2.1.length=some m∧m.c=c
 extra:∀q,e≤q→Mk l st listed q→∃m blk x,ν (st q).2.1.length=some m∧(st (q+1)).2.1[(st q).2.1.length]?=some blk∧Bj ν blk m x∧
  K' m.c=some x∧K m.c=none∧B.heap.size≤m.c
 apart:∀q q' m m',e≤q→e≤q'→q≠q'→Mk l st listed q→Mk l st listed q'→ν (st q).2.1.length=some m→ν (st q').2.1.length=some m'→m.c≠m'.c
 dom:∀b m,ν b=some m→b<(st p).2.1.length∨(∃q,p≤q∧Mk l st listed q∧b=(st q).2.1.length)∨L≤b
 low:∀b,b<(st 0).2.1.length→ν b=ν0 b
 far:∀b,L≤b→ν b=ν0 b
 defers:a.defers=D
 size:N≤a.tmps.size
 wrote:∀(q:Nat)(d:G8)(t:Nat),l[q]?=some d→Z5 listed d.no→d.s.dst=some t→V ν ((st (q+1)).1 t) (a.tmps.getD t undef)
 I5:∀t,(∀(q:Nat)(d:G8),l[q]?=some d→d.s.dst=some t→¬Z5 listed d.no)→V ν ((st 0).1 t) (a.tmps.getD t undef)
theorem GkW{ν:Mu}{a:Act}(hN:N≤a.tmps.size){dst:Option Nat}(hd:∀d,dst=some d→d<N)(v':Value)(t:Nat):
  (a.put dst v').tmps.getD t undef=if dst=some t then v' else a.tmps.getD t undef:=by
 cases dst with
 |none=>simp[Act.put]
 |some d=>
  simp only[Act.put]
  have hlt:d<a.tmps.size:=J6 (hd d rfl) hN
  by_cases ht:d=t
  ·simp_all
  simp_all
section
variable {ops : Array Oper} {an : List (List Nat)} {l : List G8} {st : Nat → DSt} {ν0 : Mu} {listed : Array Bool} {a : Act} {w : World} {p e : Nat} {ν : Mu} {K' : Nat → Option Obj} {F : GQ}
theorem Inv.Bv(h:Inv D K B L N l st ν0 listed a w p e ν K')(hd:ZC P N ops an l){q:Nat}{d:G8}(hq:l[q]?=some d) (hls:d.no<listed.size) (hdst:∀t,d.s.dst=some t→t<N) {ν':Mu} (hm:∀b m,ν b=some m→ν' b=some m)
  {v:CV} {v':Value} (hv:V ν' v v') (hst:(st (q+1)).1=(st q).1.put d.s.dst v):
  (∀(r:Nat)(c:G8)(t:Nat),l[r]?=some c→Z5 (listed.setIfInBounds d.no true) c.no→c.s.dst=some t→V ν' ((st (r+1)).1 t) ((a.put d.s.dst v').tmps.getD t undef))∧
  (∀t,(∀(r:Nat)(c:G8),l[r]?=some c→c.s.dst=some t→¬Z5 (listed.setIfInBounds d.no true) c.no)→V ν' ((st 0).1 t) ((a.put d.s.dst v').tmps.getD t undef)):=by
 refine⟨fun r c t hr hl ht=>?_,fun t ht=>?_⟩
 ·rw[GkW (ν:=ν) h.size hdst]
  by_cases he:d.s.dst=some t
  ·rw[if_pos he]
   have:r=q:=hd.dst r q c d t hr hq he ht
   subst this
   rw[hst,he]
   simpa[Env.put,Env.upd]using hv
  ·rw[if_neg he]
   rcases(YQ hls c.no).1 hl with h1|h1
   ·have:r=q:=hd.inj r q c d hr hq h1
    grind
   ·exact V.mono hm _ _ (h.wrote r c t hr h1 ht)
 ·rw[GkW (ν:=ν) h.size hdst]
  by_cases he:d.s.dst=some t
  ·exact absurd ((YQ hls d.no).2 (.inl rfl)) (ht q d hq he)
  ·rw[if_neg he]
   exact V.mono hm _ _ (h.I5 t fun r c hr hc hl=>ht r c hr hc ((YQ hls c.no).2 (.inr hl)))
theorem Inv.reads(h:Inv D K B L N l st ν0 listed a w p e ν K')(hd:ZC P N ops an l)(hw:Way F l st)(hcl:Closed ops listed){q:Nat}{d:G8}(hq:l[q]?=some d) {o:Oper} (ho:ops[d.no]?=some o)
  (hr:∀i∈Qp o,Z5 listed i) (hnl:¬Z5 listed d.no):∀t∈d.s.reads,V ν ((st q).1 t) (a.tmps.getD t undef):=by
 intro t ht
 have hql:q<l.length:=(ZK.1 hq).1
 by_cases hx:∃(r:Nat)(c:G8),l[r]?=some c∧c.s.dst=some t
 ·obtain⟨r,c,hrc,hc⟩:=hx
  rcases hd.reads q r d c t hq hrc hc ht with⟨hlt,han⟩|⟨hle,han⟩
  case inr=>
   have hcn:¬Z5 listed c.no:=by
    intro hcl'
    rcases han with rfl|han
    ·grind
    ·obtain⟨oc,hoc,_⟩:=hd.stmt r c hrc
     exact hnl (Ui hd hcl c.no oc hoc (hcl c.no oc hoc hcl') d.no han)
   rw[hw.GeZ oM fun r' c' hr' GlK hc'=>by
    have:=hd.dst r' r c' c t GlK hrc hc hc'
    omega]
   refine h.I5 t fun r' c' GlK hc'=>?_
   have:=hd.dst r' r c' c t GlK hrc hc hc'
   grind
  have hl:=Ui hd hcl d.no o ho hr c.no han
  rw[hw.GaF hd.dst hrc hc hlt oM]
  exact h.wrote r c t hrc hl hc
 ·rw[hw.L_ oM fun r c hrc hc=>hx ⟨r,c,hrc,hc⟩]
  exact h.I5 t fun r c hrc hc=>absurd ⟨r,c,hrc,hc⟩ hx
theorem JZ.fill{μ:Mu}{H:Gb}(h:JZ K B μ H w){b:Nat}{k:JE}(hb:H[b]?=some k) (hμ:μ b=none) {w':World} {x:Obj} (hh:w'.heap=w.heap.push x) (hs:Streams w w')
  (hf:Bj μ k ⟨w.heap.size,0,k.GN,Ku x⟩ x):
  JZ K B (μ.set b ⟨w.heap.size,0,k.GN,Ku x⟩) H w':=by
 have hmono:∀b' m,μ b'=some m→(μ.set b ⟨w.heap.size,0,k.GN,Ku x⟩) b'=some m:=by
  intro b' m hm
  have:b'≠b:=fun e=>by rw[e,hμ]at hm;cases hm
  rw[Mu.Jz _ _ this];exact hm
 have old:∀{c:Nat},c<w.heap.size→w'.heap[c]?=w.heap[c]?:=fun{c} hc=>by rw[hh];exact Bu w x _ hc
 have hnew:w'.heap[w.heap.size]?=some x:=by rw[hh];exact BN w _
 have lt:∀{b':Nat}{k':JE}{m':Z6},H[b']?=some k'→k'.mode≠.dead→μ b'=some m'→m'.c<w.heap.size:=by
  intro b' k' m' h1 h2 h3
  exact h.there h1 h2 h3
 refine⟨?_,fun c o hc=>?_,fun b' k' m' hb' hd hd' hm=>?_,fun b1 b2 k1 k2 m1 m2 h1 h2 r1 r2 hne e1 e2=>?_,fun b' k' m' hb' hd hm=>?_⟩
 rotate_left 4
 ·by_cases hbb:b'=b
  ·subst hbb
   rw[hb]at hb'
   simp only[GA]at hb'
   subst hb'
   rw[Mu.set_self]at hm
   simp only[GA]at hm
   subst hm
   rcases hf with⟨h1,_⟩|⟨h1,h0,es,cl,rfl,h3⟩
   ·rw[hd]at h1;cases h1
   ·exact⟨_,hnew,JX.Gms h0 ⟨h3.1.mono hmono,h3.2⟩,h.base.size,h.free⟩
  ·rw[Mu.Jz _ _ hbb]at hm
   obtain⟨ob,hw,hr,hB',hK'⟩:=h.mp b' k' m' hb' hd hm
   exact⟨ob,by grind,hr.mono hmono,hB',hK'⟩
 ·exact h.base.trans ⟨hs.os,hs.tape,hs.output,by rw[hh];simp,fun q hq=>old (J6 hq h.base.size)⟩
 ·have:=h.kept c o hc
  grind
 ·by_cases hbb:b'=b
  ·subst hbb
   rw[Mu.set_self]at hm
   simp only[GA]at hm
   subst hm
   rw[hb]at hb'
   simp only[GA]at hb'
   subst hb'
   rcases hf with⟨hk,_,_,arr,T,rfl,h5,h6,h7⟩|⟨hk,_⟩
   ·refine⟨arr,T,(0,0),hnew,fun i x hx=>?_,fun _=>⟨rfl,rfl,by simpa[Ku]using h6,rfl,h.base.size,h.free⟩,fun e=>by rw[hk]at e;cases e⟩
    obtain⟨v,hv1,hv2⟩:=h7 i x hx
    exact⟨v,by simpa using hv1,V.mono hmono _ _ hv2⟩
   ·exact absurd hk hd'
  ·rw[Mu.Jz _ _ hbb]at hm
   obtain⟨a,T',fz,hw,hc,hr⟩:=h.blk b' k' m' hb' hd hd' hm
   exact⟨a,T',fz,by rw[old (lt hb' hd hm)];exact hw,fun i x hx=>let ⟨v,h1,h2⟩:=hc i x hx;⟨v,h1,V.mono hmono _ _ h2⟩,hr⟩
 ·have d1:k1.mode≠.dead:=by grind
  by_cases hb1:b1=b
  ·have hb2:b2≠b:=fun e=>hne (hb1.trans e.symm)
   rw[hb1,Mu.set_self]at e1
   simp only[GA]at e1
   subst e1
   rw[Mu.Jz _ _ hb2]at e2
   grind
  ·rw[Mu.Jz _ _ hb1]at e1
   by_cases hb2:b2=b
   ·rw[hb2,Mu.set_self]at e2
    grind
   ·rw[Mu.Jz _ _ hb2]at e2
    exact h.inj b1 b2 k1 k2 m1 m2 h1 h2 r1 r2 hne e1 e2
theorem JZ.join{μ:Mu}{H:Gb}(h:JZ K' B μ H w){ν:Mu}(hsame:∀b,b<H.length→ν b=μ b)(hmono:∀b m,μ b=some m→ν b=some m){bs:List JE}
  (hex:∀(b:Nat)(blk:JE)(m:Z6),H.length≤b→(H++bs)[b]?=some blk→ν b=some m→∃x,Bj ν blk m x∧K' m.c=some x∧B.heap.size≤m.c)
  (hinj:∀b1 b2 m1 m2,H.length≤b1→H.length≤b2→b1<(H++bs).length→b2<(H++bs).length→b1≠b2→ν b1=some m1→ν b2=some m2→m1.c≠m2.c)
  {K2:Nat→Option Obj} (hK:∀c o,K2 c=some o→K' c=some o) (hK2:∀b m,H.length≤b→b<(H++bs).length→ν b=some m→K2 m.c=none):JZ K2 B ν (H++bs) w:=by
 have hKn:∀c,K' c=none→K2 c=none:=by
  intro c hc
  cases h2:K2 c with
  |none=>rfl
  |some o=>rw[hK c o h2]at hc;cases hc
 have lt:∀{b:Nat}{k:JE},(H++bs)[b]?=some k→b<(H++bs).length:=fun e=>(ZK.1 e).1
 have Gfb:∀{b:Nat},b<H.length→(H++bs)[b]?=H[b]?:=fun hb=>IJ hb
 refine⟨h.base,fun c o hc=>h.kept c o (hK c o hc),fun b k m hb hd hd' hm=>?_,fun b1 b2 k1 k2 m1 m2 h1 h2 r1 r2 hne e1 e2=>?_,fun b k m hb hd hm=>?_⟩
 rotate_left 2
 ·rcases VB b H.length with hlt|hge
  ·rw[Gfb hlt]at hb
   rw[hsame b hlt]at hm
   obtain⟨ob,hw,hr,hB',hK'⟩:=h.mp b k m hb hd hm
   exact⟨ob,hw,hr.mono hmono,hB',hKn _ hK'⟩
  ·obtain⟨x,hf,h5,h6⟩:=hex b k m hge hb hm
   rcases hf with⟨h1,_⟩|⟨h1,h0,es,cl,rfl,h3⟩
   ·rw[hd]at h1;cases h1
   ·exact⟨_,h.kept _ _ h5,JX.Gms h0 h3,h6,hK2 b m hge (lt hb) hm⟩
 ·rcases VB b H.length with hlt|hge
  ·rw[Gfb hlt]at hb
   rw[hsame b hlt]at hm
   obtain⟨arr,T,fz,hw,hc,hr,hro⟩:=h.blk b k m hb hd hd' hm
   refine⟨arr,T,fz,hw,fun i x hx=>let ⟨v,h1,h2⟩:=hc i x hx;⟨v,h1,V.mono hmono _ _ h2⟩,fun e=>?_,hro⟩
   grind
  ·obtain⟨x,hf,h5,h6⟩:=hex b k m hge hb hm
   rcases hf with⟨h1,h2,h3,arr,T,rfl,h4,h7,h8⟩|⟨h1,_⟩
   case inr=>exact absurd h1 hd'
   refine⟨arr,T,(0,0),h.kept _ _ h5,fun i x hx=>?_,fun _=>⟨h3,h4.symm,oM,rfl,h6,hK2 b m hge (lt hb) hm⟩,fun e=>by rw[h1]at e;cases e⟩
   grind
 ·rcases VB b1 H.length with hl1|hg1<;>rcases VB b2 H.length with hl2|hg2
  ·rw[Gfb hl1]at h1;rw[Gfb hl2]at h2
   rw[hsame _ hl1]at e1;rw[hsame _ hl2]at e2
   exact h.inj b1 b2 k1 k2 m1 m2 h1 h2 r1 r2 hne e1 e2
  ·rw[Gfb hl1]at h1
   rw[hsame _ hl1]at e1
   have hn:=h.loose h1 r1 e1
   grind
  ·rw[Gfb hl2]at h2
   rw[hsame _ hl2]at e2
   obtain⟨x,_,h5,h6⟩:=hex b1 k1 m1 hg1 h1 e1
   exact Ne.symm (h.Zf h5 h6 h2 r2 e2)
  grind
theorem Way.apart(hw:Way F l st)(Vy:Y9 F){q q':Nat}(h1:Mk l st listed q)(hle:q'≤l.length)(h:q<q'):(st q).2.1.length<(st q').2.1.length:=by
 obtain⟨d,hd,_,_,hlen⟩:=h1
 have:=hw.JG Vy (show q+1≤q' from h) hle
 omega
theorem Mk.lt{q:Nat}(h:Mk l st listed q):q<l.length:=by
 obtain⟨d,hd,_⟩:=h
 grind
theorem Mk.up{q:Nat}(h:Mk l st listed q){d:G8}(hd:l[q]?=some d):Z5 listed d.no:=by
 obtain⟨d',hd',hl,_⟩:=h
 grind
theorem Mk.inj(hw:Way F l st)(Vy:Y9 F){q q':Nat}(h1:Mk l st listed q)(h2:Mk l st listed q')(h:(st q).2.1.length=(st q').2.1.length):q=q':=by
 rcases Nat.lt_trichotomy q q' with h'|h'|h'
 ·have:=Way.apart hw Vy h1 (Nat.le_of_lt h2.lt) h';omega
 ·exact h'
 ·have:=Way.apart hw Vy h2 (Nat.le_of_lt h1.lt) h';omega
theorem Inv.GaI(hG:ZR P B.toWorld)(h:Inv D K B L N l st ν0 listed a w p e ν K')(hd:ZC P N ops an l)(hw:Way F l st)(Vy:Y9 F)(hcl:Closed ops listed)(h0:(st 0).2.2=[])(hend:(st l.length).2.1.length≤L)
  {q:Nat}{d:G8}(hq:l[q]?=some d) (hk:d.kind≠3) (hnl:¬Z5 listed d.no) (hls:d.no<listed.size) {o:Oper} (ho:ops[d.no]?=some o) (hr:∀i∈Qp o,Z5 listed i) {Q:Exit→Act→World→Prop}:
  wpOpIn (Fr rd) dp P ops Q d.no (fun a' w'=>∃ν' K2,Inv D K B L N l st ν0 (listed.setIfInBounds d.no true) a' w' p e ν' K2) a w:=by
 have hql:q<l.length:=(ZK.1 hq).1
 have hpq:p≤q:=Nat.le_of_not_lt fun hlt=>hnl (h.GcD q d hq hlt)
 have hreads:=h.reads hd hw hcl hq ho hr hnl
 obtain⟨o',ho',hcs⟩:=hd.stmt q d hq
 rw[ho]at ho'
 simp only[GA]at ho'
 subst ho'
 obtain⟨g,op,hg,hop,hdN,hs⟩:=QJ hcs
 have hdst:d.s.dst=o.dst:=by rw[hs]
 have hgd:d.s.guard=g:=by rw[hs]
 have GgK:d.s.op=op:=by rw[hs]
 have GkL:∀t,d.s.dst=some t→t<N:=fun t ht=>hdN t (by rw[←hdst];exact ht)
 have hstep:=hw.step q d hq
 unfold Yp at hstep
 have hwant:Region.wanted o (yielded ops a.tmps)=wanted d.s.guard (st q).1:=by
  rw[hgd]
  refine OW rfl hg fun t b hgt=>hreads t ?_
  unfold GH.reads
  rw[hgd,hgt]
  simp
 unfold wpOpIn
 simp only[ho]
 rw[hwant]
 have hset:=YQ hls
 have GnU:∀{r:Nat},Mk l st listed r→Mk l st (listed.setIfInBounds d.no true) r:=fun{r} ⟨c,h1,h2,h3,h4⟩=>⟨c,h1,(hset c.no).2 (.inr h2),h3,h4⟩
 have Gdj:∀{r:Nat},Mk l st (listed.setIfInBounds d.no true) r→Mk l st listed r∨r=q:=fun{r} ⟨c,h1,h2,h3,h4⟩=>by
  rcases(hset c.no).1 h2 with h5|h5
  ·exact .inr (hd.inj r q c d h1 hq h5)
  ·exact .inl ⟨c,h1,h5,h3,h4⟩
 have plain:∀(v:CV)(v':Value)(w':World),(st (q+1)).1=(st q).1.put d.s.dst v→(st (q+1)).2.1.length≠(st q).2.1.length+1→V ν v v'→JZ K' B ν (st e).2.1 w'→
   Inv D K B L N l st ν0 (listed.setIfInBounds d.no true) (a.put d.s.dst v') w' p e ν K':=by
  intro v v' w' hst hlen hv hS
  obtain⟨w1,w2⟩:=h.Bv hd hq hls GkL (ν':=ν) (fun _ _ h=>h) hv hst
  have mk:∀{r:Nat},Mk l st (listed.setIfInBounds d.no true) r→Mk l st listed r:=fun{r} hm=>by
   rcases Gdj hm with h1|h1
   ·exact h1
   ·subst h1;obtain⟨_,_,_,_,h4⟩:=hm;exact absurd h4 hlen
  refine⟨h.pe,h.en,fun r c hr hlt=>(hset c.no).2 (.inr (h.GcD r c hr hlt)),h.steady,h.GhP,fun r c hge hr hk3 hl=>?_,hS,h.keeps,fun c x hx=>?_,fun r hge hm=>h.extra r hge (mk hm),fun r r' m m' a1 a2 a3 a4 a5=>h.apart r r' m m' a1 a2 a3 (mk a4) (mk a5),fun b m hb=>?_,h.low,h.far,?_,?_,w1,w2⟩
  ·rcases(hset c.no).1 hl with h1|h1
   ·have:=hd.inj r q c d hr hq h1
    grind
   ·exact h.later r c hge hr hk3 h1
  ·rcases h.only c x hx with h1|⟨r,m,h1,h2,h3,h4⟩
   ·exact .inl h1
   grind
  ·rcases h.dom b m hb with h1|⟨r,h1,h2,h3⟩|h1
   ·exact .inl h1
   ·grind
   ·exact .inr (.inr h1)
  ·cases hdd:d.s.dst<;>exact h.defers
  ·cases hdd:d.s.dst with
   |none=>exact h.size
   |some t=>simp only[Act.put,Gky];exact h.size
 cases hwd:wanted d.s.guard (st q).1 with
 |false=>
  rw[if_pos hwd]at hstep
  simp only[GA]at hstep
  simp only[Bool.false_eq_true,if_false]
  rw[←hdst]
  exact⟨fun _ _=>trivial,ν,K',plain .undef undef w (by rw[←hstep]) (by rw[←hstep];simp) (GcB ν) h.Nw⟩
 |true=>
  rw[if_neg (by rw[hwd];simp),if_neg hk,Jk]at hstep
  obtain⟨m,hm,hstep⟩:=hstep
  split at hstep
  ·rename_i hck
   simp only[GA]at hstep
   simp only[if_true]
   have hme:G7 d.s.op (st q).1 (st e).2.1=some m:=by
    rcases VB q e with hlt|hge
    ·obtain⟨bs,hb⟩:=hw.grows (Nat.le_of_lt hlt) h.en (fun r c h1 h2 h3=>h.steady r c oM h2 h3)
     rw[hb]
     exact Gii bs hm
    ·rcases(hd.kind q d hq).1 with h1|h1|h1
     ·rw[Gfh ((hd.kind q d hq).2 h1) (st q).1 (st e).2.1 (st q).2.1];exact hm
     ·have hel:e<l.length:=by omega
      have hle:l[e]?=some (l[e]'hel):=Jr hel
      have hk3:=h.GhP _ hle
      have hne:e≠q:=fun heq=>by
       grind
      have hlow:d.low≤Ik l e:=by
       refine Nat.le_of_not_lt fun hlt=>?_
       have han:=hd.chain q e d _ hq hle hk3 oM (.inr hlt)
       exact h.later e _ (Nat.le_refl _) hle hk3 (Ui hd hcl d.no o ho hr _ han)
      exact hck h1 _ (hw.Gna h0 hle hk3 hlow oM oM)
     ·exact absurd h1 hk
   rw[GgK]at hme
   have hE:∀t∈op.tmps,V ν ((st q).1 t) (a.tmps.getD t undef):=fun t ht=>hreads t (by unfold GH.reads;rw[GgK];simp[ht])
   obtain⟨v',w',hrun,hstr,hres⟩:=Ggy (P:=P) hG h.Nw hop hE hme
   refine⟨fun _ _=>trivial,?_⟩
   rw[Oper.semAt_eq _ _ _ (UQ hop),hrun,Oper.uponIn_value,←hdst]
   show∃ν' K2,Inv D K B L N l st ν0 (listed.setIfInBounds d.no true) (a.put d.s.dst v') w' p e ν' K2
   obtain⟨ob,f⟩:=m
   cases ob with
   |none=>
    obtain⟨hwh,hv⟩:=hres
    exact⟨ν,K',plain (f (st q).2.1.length) v' w' (by rw[←hstep];rfl) (by rw[←hstep];simp[made]) (hv _) (h.Nw.same hwh hstr.os hstr.tape hstr.output)⟩
   |some k=>
    obtain⟨xo,hwh,hfr,hval⟩:=hres
    have Gjh:(st (q+1)).2.1=(st q).2.1++[k]:=by rw[←hstep];rfl
    have GmM:(st (q+1)).1=(st q).1.put d.s.dst (f (st q).2.1.length):=by rw[←hstep];rfl
    have hlen1:(st (q+1)).2.1.length=(st q).2.1.length+1:=by rw[Gjh];simp
    have Gzj:(st q).2.1.length<L:=by
     have:=hw.JG Vy (show q+1≤l.length from hql) (Nat.le_refl _)
     omega
    have Got:(st p).2.1.length≤(st q).2.1.length:=hw.JG Vy hpq oM
    have hfree:ν (st q).2.1.length=none:=by
     cases hb:ν (st q).2.1.length with
     |none=>rfl
     |some mm=>
      rcases h.dom _ mm hb with h1|⟨r,h1,h2,h3⟩|h1
      ·omega
      ·have hrl:=h2.lt
       rcases Nat.lt_trichotomy r q with h4|h4|h4
       ·have:=Way.apart hw Vy h2 oM h4;omega
       ·subst h4;exact absurd (h2.up hq) hnl
       ·have:=hw.JG Vy (show q+1≤r from h4) oM;omega
      ·omega
    generalize hν':ν.set (st q).2.1.length ⟨w.heap.size,0,k.GN,Ku xo⟩=ν'
    have hmono:∀b mm,ν b=some mm→ν' b=some mm:=by
     intro b mm hb
     have:b≠(st q).2.1.length:=fun e'=>by rw[e',hfree]at hb;cases hb
     rw[←hν',Mu.Jz _ _ this];exact hb
    have hself:ν' (st q).2.1.length=some ⟨w.heap.size,0,k.GN,Ku xo⟩:=by rw[←hν'];exact Mu.set_self _ _ _
    have hother:∀b,b≠(st q).2.1.length→ν' b=ν b:=fun b hb=>by rw[←hν'];exact Mu.Jz _ _ hb
    have hvv:=hval ν' (st q).2.1.length hmono hself
    obtain⟨w1,w2⟩:=h.Bv hd hq hls GkL hmono hvv GmM
    have Gwk:Mk l st (listed.setIfInBounds d.no true) q:=⟨d,hq,(hset d.no).2 (.inl rfl),hk,hlen1⟩
    have GmT:=h.Nw.free
    have hne:∀{r:Nat},Mk l st listed r→(st r).2.1.length≠(st q).2.1.length:=fun{r} hmr he=>by
     have:=Mk.inj hw Vy (GnU hmr) Gwk he
     subst this
     exact hnl (hmr.up hq)
    have common:∀K2,JZ K2 B ν' (st e).2.1 w'→(∀c x,K c=some x→K2 c=some x)→
      (∀c x,K2 c=some x→K c=some x∨∃r mm,e≤r∧Mk l st (listed.setIfInBounds d.no true) r∧ν' (st r).2.1.length=some mm∧mm.c=c)→
      (∀c x,K' c=some x→K2 c=some x)→
      (e≤q→K2 w.heap.size=some xo∧K w.heap.size=none)→
      Inv D K B L N l st ν0 (listed.setIfInBounds d.no true) (a.put d.s.dst v') w' p e ν' K2:=by
     intro K2 hS2 hk1 hk2 hk3 hk4
     refine⟨h.pe,h.en,fun r c hr hlt=>(hset c.no).2 (.inr (h.GcD r c hr hlt)),h.steady,h.GhP,fun r c hge hr hk3 hl=>?_,hS2,hk1,hk2,fun r hge hm=>?_,fun r r' m1 m2 a1 a2 a3 a4 a5 a6 a7=>?_,fun b mm hb=>?_,fun b hb=>?_,fun b hb=>?_,?_,?_,w1,w2⟩
     ·rcases(hset c.no).1 hl with h1|h1
      ·have:=hd.inj r q c d hr hq h1
       grind
      ·exact h.later r c hge hr hk3 h1
     ·rcases Gdj hm with h1|h1
      ·obtain⟨mm,blk,x',c1,c2,c3,c7,c8,c9⟩:=h.extra r hge h1
       exact⟨mm,blk,x',hmono _ _ c1,c2,c3.mono hmono,hk3 _ _ c7,c8,c9⟩
      ·subst h1
       exact⟨_,k,xo,hself,by rw[Gjh,List.getElem?_concat_length],hfr.mono hmono,(hk4 hge).1,(hk4 hge).2,h.Nw.base.size⟩
     ·have old:∀{r:Nat}{mm:Z6},e≤r→Mk l st listed r→ν' (st r).2.1.length=some mm→mm.c<w.heap.size:=by
       intro r mm hge hmk hm'
       rw[hother _ (hne hmk)]at hm'
       obtain⟨m3,blk,x',c1,_,_,c7,_⟩:=h.extra r hge hmk
       rw[c1]at hm'
       simp only[GA]at hm'
       subst hm'
       exact(Vo.1 (h.Nw.kept _ _ c7)).1
      rcases Gdj a4 with h1|h1<;>rcases Gdj a5 with h2|h2
      ·rw[hother _ (hne h1)]at a6
       rw[hother _ (hne h2)]at a7
       exact h.apart r r' m1 m2 a1 a2 a3 h1 h2 a6 a7
      ·grind
      ·grind
      ·exact absurd (h1.trans h2.symm) a3
     ·by_cases hbq:b=(st q).2.1.length
      ·grind
      ·rw[hother b hbq]at hb
       rcases h.dom b mm hb with h1|⟨r,h1,h2,h3⟩|h1
       ·exact .inl h1
       ·grind
       ·exact .inr (.inr h1)
     ·have:=hw.JG Vy (Nat.zero_le q) oM
      rw[hother b oM];exact h.low b hb
     ·rw[hother b oM];exact h.far b hb
     ·cases hdd:d.s.dst<;>exact h.defers
     ·cases hdd:d.s.dst with
      |none=>exact h.size
      |some t=>simp only[Act.put,Gky];exact h.size
    rcases VB q e with hlt|hge
    ·obtain⟨bs,hb⟩:=hw.grows (show q+1≤e from hlt) h.en (fun r c h1 h2 h3=>h.steady r c oM h2 h3)
     have hblk:(st e).2.1[(st q).2.1.length]?=some k:=by
      grind
     have hS2:=h.Nw.fill hblk hfree hwh hstr hfr
     rw[hν']at hS2
     refine⟨ν',K',common K' hS2 h.keeps (fun c x hx=>?_) (fun _ _ h=>h) (fun hge=>by omega)⟩
     rcases h.only c x hx with h1|⟨r,mm,h1,h2,h3,h4⟩
     ·exact .inl h1
     grind
    ·have hS1:=(h.Nw.alloc xo).same (w':=w') hwh hstr.os hstr.tape hstr.output
     have hel:(st e).2.1.length≤(st q).2.1.length:=hw.JG Vy hge oM
     have hS2:=hS1.congr (ν:=ν') (fun b hb=>hother b oM) hmono
     refine⟨ν',_,common _ hS2 (fun c x hx=>?_) (fun c x hx=>?_) (fun c x hx=>?_) (fun _=>⟨sM,?_⟩)⟩
     ·have h1:=h.keeps c x hx
      grind
     ·split at hx
      ·grind
      ·rcases h.only c x hx with h1|⟨r,mm,h1,h2,h3,h4⟩
       ·exact .inl h1
       grind
     ·grind
     ·cases hK:K w.heap.size with
      |none=>rfl
      |some x=>have:=h.keeps _ _ hK;rw[GmT]at this;cases this
  ·cases hstep
theorem HV(l:List G8)(p:Nat)(hp:p≤l.length):∃e,p≤e∧e≤l.length∧(∀(q:Nat)(d:G8),p≤q→q<e→l[q]?=some d→d.kind≠3)∧∀(d:G8),l[e]?=some d→d.kind=3:=by
 obtain⟨n,hn⟩:∃n,n=l.length-p:=⟨_,rfl⟩
 induction n generalizing p with
 |zero=>
  have:p=l.length:=by omega
  exact⟨p,Nat.le_refl _,hp,fun q d h1 h2=>by omega,fun d hd=>by grind⟩
 |succ n ih=>
  have hlt:p<l.length:=by omega
  have hx:l[p]?=some (l[p]'hlt):=Jr hlt
  grind
theorem Inv.WC(h:Inv D K B L N l st ν0 listed a w p e ν K')(hd:ZC P N ops an l)(hw:Way F l st)(hF:D5 P F)(hBr:Wh P B)(Vy:Y9 F)(hcl:Closed ops listed)(hend:(st l.length).2.1.length≤L)
  {q:Nat}{d:G8}(hq:l[q]?=some d) (hk:d.kind=3) (hnl:¬Z5 listed d.no) (hls:d.no<listed.size) {o:Oper} (ho:ops[d.no]?=some o) (hed:∀i∈Qp o,Z5 listed i) {Q:Exit→Act→World→Prop}:
  wpOpIn (Fr rd) dp P ops Q d.no (fun a' w'=>∃p' e' ν' K2,Inv D K B L N l st ν0 (listed.setIfInBounds d.no true) a' w' p' e' ν' K2) a w:=by
 have hql:q<l.length:=(ZK.1 hq).1
 have hpq:p≤q:=Nat.le_of_not_lt fun hlt=>hnl (h.GcD q d hq hlt)
 have heq:e=q:=by
  rcases Nat.lt_trichotomy e q with hlt|heq|hgt
  ·have hle:l[e]?=some (l[e]'oM):=Jr oM
   have hk3:=h.GhP _ hle
   exact absurd (Ui hd hcl d.no o ho hed _ (hd.chain q e d _ hq hle hk3 hlt (.inl hk))) (h.later e _ (Nat.le_refl _) hle hk3)
  ·exact heq
  ·exact absurd hk (h.steady q d hpq hgt hq)
 subst heq
 have hreads:=h.reads hd hw hcl hq ho hed hnl
 obtain⟨o',ho',hcs⟩:=hd.stmt e d hq
 rw[ho]at ho'
 simp only[GA]at ho'
 subst ho'
 obtain⟨g,op,hg,hop,hdN,hs⟩:=QJ hcs
 have hdst:d.s.dst=o.dst:=by rw[hs]
 have hgd:d.s.guard=g:=by rw[hs]
 have GgK:d.s.op=op:=by rw[hs]
 have GkL:∀t,d.s.dst=some t→t<N:=fun t ht=>hdN t (by rw[←hdst];exact ht)
 have hstep:=hw.step e d hq
 unfold Yp at hstep
 have hwant:Region.wanted o (yielded ops a.tmps)=wanted d.s.guard (st e).1:=by
  rw[hgd]
  refine OW rfl hg fun t b hgt=>hreads t ?_
  unfold GH.reads
  rw[hgd,hgt]
  simp
 unfold wpOpIn
 simp only[ho]
 rw[hwant]
 have hset:=YQ hls
 have GcQ:∀{r:Nat},Mk l st (listed.setIfInBounds d.no true) r↔Mk l st listed r:=by
  intro r
  constructor
  ·rintro ⟨c,h1,h2,h3,h4⟩
   rcases(hset c.no).1 h2 with h5|h5
   ·have:=hd.inj r e c d h1 hq h5
    grind
   ·exact⟨c,h1,h5,h3,h4⟩
  ·rintro ⟨c,h1,h2,h3,h4⟩
   exact⟨c,h1,(hset c.no).2 (.inr h2),h3,h4⟩
 obtain⟨e',he1,he2,he3,he4⟩:=HV l (e+1) hql
 have hlen1:=hw.JG Vy (show e≤e+1 by omega) hql
 have Gw8:=hw.JG Vy he1 he2
 have hlen3:=hw.JG Vy he2 (Nat.le_refl _)
 have Got:=hw.JG Vy hpq h.en
 have GwD:=hw.JG Vy (Nat.zero_le e) h.en
 obtain⟨bs,hbs⟩:=hw.grows he1 he2 he3
 have Gm2:∀{r:Nat},Mk l st listed r→r≠e:=fun{r} hm he=>by subst he;exact hnl (hm.up hq)
 have hfree:∀b,(st e).2.1.length≤b→b<(st (e+1)).2.1.length→ν b=none:=by
  intro b h1 h2
  cases hb:ν b with
  |none=>rfl
  |some mm=>
   rcases h.dom b mm hb with g1|⟨r,g1,g2,g3⟩|g1
   ·omega
   ·have hrl:=g2.lt
    rcases Nat.lt_trichotomy r e with g4|g4|g4
    ·have:=Way.apart hw Vy g2 h.en g4;omega
    ·exact absurd g4 (Gm2 g2)
    ·have:=hw.JG Vy (show e+1≤r from g4) oM;omega
   ·omega
 have finish:∀(v:CV)(v':Value)(w':World)(ν':Mu),(st (e+1)).1=(st e).1.put d.s.dst v→JZ K' B ν' (st (e+1)).2.1 w'→V ν' v v'→(∀b,b<(st e).2.1.length→ν' b=ν b)→(∀b,(st (e+1)).2.1.length≤b→ν' b=ν b)→
   ∃p' e' ν' K2,Inv D K B L N l st ν0 (listed.setIfInBounds d.no true) (a.put d.s.dst v') w' p' e' ν' K2:=by
  intro v v' w' ν' hst hS hv hlow Gmn
  have hmono:∀b mm,ν b=some mm→ν' b=some mm:=by
   grind
  obtain⟨w1,w2⟩:=h.Bv hd hq hls GkL hmono hv hst
  have beyond:∀b mm,(st (e+1)).2.1.length≤b→b<L→ν' b=some mm→∃r,e+1≤r∧Mk l st listed r∧b=(st r).2.1.length∧ν b=some mm:=by
   intro b mm g1 g2 hb
   rw[Gmn b g1]at hb
   rcases h.dom b mm hb with g3|⟨r,g3,g4,g5⟩|g3
   ·omega
   ·refine⟨r,?_,g4,g5,hb⟩
    rcases Nat.lt_trichotomy r e with g6|g6|g6
    ·have:=Way.apart hw Vy g4 h.en g6;omega
    ·exact absurd g6 (Gm2 g4)
    ·exact g6
   ·omega
  classical
  let K2:Nat→Option Obj:=fun c=>if∃r mm,e+1≤r∧r<e'∧Mk l st listed r∧ν (st r).2.1.length=some mm∧mm.c=c then none else K' c
  have hK2:∀c x,K2 c=some x→K' c=some x:=by
   intro c x hx
   simp only[K2]at hx
   simp_all
  have hS2:JZ K2 B ν' ((st (e+1)).2.1++bs) w':=by
   refine hS.join (fun _ _=>rfl) (fun _ _ h=>h) (fun b blk mm g1 g2 g3=>?_) (fun b1 b2 m1 m2 g1 g2 g3 g4 g5 g6 g7=>?_) hK2 (fun b mm g1 g2 g3=>?_)
   ·have hbl:b<((st (e+1)).2.1++bs).length:=(ZK.1 g2).1
    rw[←hbs]at hbl
    obtain⟨r,f1,f2,f3,f4⟩:=beyond b mm g1 oM g3
    obtain⟨m3,Gk9,xo,c1,c2,c3,c7,c8,c9⟩:=h.extra r oM f2
    rw[←f3]at c1 c2
    rw[f4]at c1
    simp only[GA]at c1
    subst c1
    have hre:r<e':=by
     refine Nat.lt_of_not_le fun hle=>?_
     have:=hw.JG Vy hle (Nat.le_of_lt f2.lt)
     omega
    obtain⟨bs',G0K⟩:=hw.grows (show r+1≤e' from hre) he2 (fun q c h1 h2 h3=>he3 q c oM h2 h3)
    have hb2:b<(st (r+1)).2.1.length:=(ZK.1 c2).1
    have:blk=Gk9:=by
     grind
    subst this
    exact⟨xo,c3.mono hmono,c7,c9⟩
   ·rw[←hbs]at g3 g4
    obtain⟨r1,f1,f2,f3,f4⟩:=beyond b1 m1 g1 oM g6
    obtain⟨r2,k1,k2,k3,k4⟩:=beyond b2 m2 g2 oM g7
    refine h.apart r1 r2 m1 m2 oM oM (fun he=>g5 (by rw[f3,k3,he])) f2 k2 (by rw[←f3];exact f4) (by rw[←k3];exact k4)
   ·rw[←hbs]at g2
    obtain⟨r,f1,f2,f3,f4⟩:=beyond b mm g1 oM g3
    have hre:r<e':=by
     refine Nat.lt_of_not_le fun hle=>?_
     have:=hw.JG Vy hle (Nat.le_of_lt f2.lt)
     omega
    simp only[K2]
    rw[if_pos ⟨r,mm,f1,hre,f2,by rw[←f3];exact f4,rfl⟩]
  rw[←hbs]at hS2
  have Grf:∀{r:Nat}{mm:Z6},e'≤r→Mk l st listed r→ν (st r).2.1.length=some mm→K2 mm.c=K' mm.c:=by
   intro r mm hge hmk hm'
   simp only[K2]
   rw[if_neg]
   rintro ⟨r2,m2,f1,f2,f3,f4,f5⟩
   exact h.apart r2 r m2 mm oM oM oM f3 hmk f4 hm' f5
  refine⟨e+1,e',ν',K2,he1,he2,fun r c hr hlt=>(hset c.no).2 ?_,he3,he4,fun r c hge hr hk3 hl=>?_,hS2,fun c x hx=>?_,fun c x hx=>?_,fun r hge hm=>?_,fun r r' m1 m2 a1 a2 a3 a4 a5 a6 a7=>?_,fun b mm hb=>?_,fun b hb=>?_,fun b hb=>?_,?_,?_,w1,w2⟩
  ·rcases VB r e with h1|h1
   ·by_cases hck:c.kind=3
    ·exact .inr (Ui hd hcl d.no o ho hed _ (hd.chain e r d c hq hr hck h1 (.inl hk)))
    ·exact .inr (Ui hd hcl d.no o ho hed _ (hd.before e r d c hq hr hk hck h1))
   grind
  ·rcases(hset c.no).1 hl with h1|h1
   ·have:=hd.inj r e c d hr hq h1
    omega
   ·exact h.later r c oM hr hk3 h1
  ·have h1:=h.keeps c x hx
   simp only[K2]
   rw[if_neg]
   ·exact h1
   ·rintro ⟨r2,m2,f1,f2,f3,f4,f5⟩
    obtain⟨m3,Gk9,xo,c1,_,_,_,c8,_⟩:=h.extra r2 oM f3
    grind
  ·rcases h.only c x (hK2 c x hx)with h1|⟨r,mm,h1,h2,h3,h4⟩
   ·exact .inl h1
   ·refine .inr ⟨r,mm,?_,GcQ.2 h2,hmono _ _ h3,h4⟩
    refine Nat.le_of_not_lt fun hlt=>?_
    have hre:e+1≤r:=by
     have:=Gm2 h2
     omega
    have:K2 c=none:=by simp only[K2];rw[if_pos ⟨r,mm,hre,hlt,h2,h3,h4⟩]
    rw[this]at hx
    cases hx
  ·have hm':=GcQ.1 hm
   obtain⟨m3,Gk9,xo,c1,c2,c3,c7,c8,c9⟩:=h.extra r oM hm'
   exact⟨m3,Gk9,xo,hmono _ _ c1,c2,c3.mono hmono,by rw[Grf hge hm' c1];exact c7,c8,c9⟩
  ·have g1:=hw.JG Vy a1 (Nat.le_of_lt a4.lt)
   have g2:=hw.JG Vy a2 (Nat.le_of_lt a5.lt)
   rw[Gmn _ oM]at a6 a7
   exact h.apart r r' m1 m2 oM oM a3 (GcQ.1 a4) (GcQ.1 a5) a6 a7
  ·grind
  ·rw[hlow b oM];exact h.low b hb
  ·rw[Gmn b oM];exact h.far b hb
  ·cases hdd:d.s.dst<;>exact h.defers
  ·cases hdd:d.s.dst with
   |none=>exact h.size
   |some t=>simp only[Act.put,Gky];exact h.size
 cases hwd:wanted d.s.guard (st e).1 with
 |false=>
  rw[if_pos hwd]at hstep
  simp only[GA]at hstep
  simp only[Bool.false_eq_true,if_false]
  rw[←hdst]
  refine⟨fun _ _=>trivial,?_⟩
  refine finish .undef undef w ν (by rw[←hstep]) ?_ (GcB ν) (fun _ _=>rfl) (fun _ _=>rfl)
  have:(st (e+1)).2.1=(st e).2.1:=by rw[←hstep]
  rw[this]
  exact h.Nw
 |true=>
  rw[if_neg (by rw[hwd];simp),if_pos hk,GD]at hstep
  obtain⟨r,hrr,hstep⟩:=hstep
  simp only[if_true]
  have hr2:(st (e+1)).2.1=r.2:=by rw[←hstep]
  rw[GgK]at hrr
  have hE:∀t∈op.tmps,V ν ((st e).1 t) (a.tmps.getD t undef):=fun t ht=>hreads t (by unfold GH.reads;rw[GgK];simp[ht])
  have hSt:St K' B (st (e+1)).2.1.length ν (st e).2.1 w:=⟨h.Nw,hfree⟩
  refine(GbG hF hBr hSt hop hE hrr (by rw[hr2];exact Nat.le_refl _) _ _ fun v' w' ν' hS' hV' hX'=>?_)
  rw[←hdst]
  refine finish r.1 v' w' ν' (by rw[←hstep]) (by rw[hr2];exact hS'.Nw) hV' hX'.same hX'.far
end
def Vp(n:Nat)(listed:Array Bool):Nat:=((List.range n).filter fun i=>!listed.getD i false).length
theorem Sv{n:Nat}{listed:Array Bool}{j:Nat}(hs:listed.size=n)(hj:j<n)(hn:¬Z5 listed j):Vp n (listed.setIfInBounds j true)<Vp n listed:=by
 unfold Vp
 have hset:=YQ (listed:=listed) (j:=j) oM
 have key:∀(l:List Nat),l.Nodup→j∈l→(l.filter fun i=>!(listed.setIfInBounds j true).getD i false).length<(l.filter fun i=>!listed.getD i false).length∧True:=by
  intro l hnd hm
  have e:(l.filter fun i=>!(listed.setIfInBounds j true).getD i false)=(l.filter fun i=>!listed.getD i false).filter fun i=>i≠j:=by
   rw[List.filter_filter]
   refine List.filter_congr fun i _=>?_
   have:=hset i
   unfold Z5 at this
   grind
  rw[e]
  refine⟨?_,trivial⟩
  have hmem:j∈l.filter fun i=>!listed.getD i false:=by
   rw[List.mem_filter]
   refine⟨hm,?_⟩
   unfold Z5 at hn
   simpa using hn
  exact List.length_filter_lt_length_iff_exists.2 ⟨j,hmem,sM⟩
 grind
theorem Pm{n:Nat}{listed:Array Bool}(h:Vp n listed=0){i:Nat}(hi:i<n):Z5 listed i:=by
 unfold Vp at h
 rw[List.length_eq_zero_iff,List.filter_eq_nil_iff]at h
 have:=h i (List.mem_range.2 hi)
 unfold Z5
 simpa using this
theorem Xw(n i:Nat):¬Z5 (Array.replicate n false) i:=by
 intro hi
 unfold Z5 at hi
 rw[Array.getD_eq_getD_getElem?,Array.getElem?_replicate]at hi
 split at hi<;>cases hi
section
variable {ops : Array Oper} {an : List (List Nat)} {l : List G8} {st : Nat → DSt} {ν0 : Mu} {F : GQ}
theorem Inv.done{listed:Array Bool}{a:Act}{w:World}{p e:Nat}{ν:Mu}{K':Nat→Option Obj}(h:Inv D K B L N l st ν0 listed a w p e ν K')(hd:ZC P N ops an l)(hw:Way F l st)(Vy:Y9 F)(hend:(st l.length).2.1.length≤L)(htop:∀t,N≤t→(st 0).1 t=.undef)
  (hall:∀i,i<ops.size→Z5 listed i):∃ν',St K B L ν' (st l.length).2.1 w∧ER D ν' N (st l.length).1 a∧Ext L (st 0).2.1 ν0 (st l.length).2.1 ν':=by
 have hno:∀{q:Nat}{d:G8},l[q]?=some d→Z5 listed d.no:=by
  intro q d hq
  obtain⟨o,ho,_⟩:=hd.stmt q d hq
  grind
 have he:e=l.length:=by
  refine Nat.le_antisymm h.en (Nat.le_of_not_lt fun hlt=>?_)
  have hx:l[e]?=some (l[e]'hlt):=Jr hlt
  exact h.later e _ (Nat.le_refl _) hx (h.GhP _ hx) (hno hx)
 subst he
 have hK:K'=K:=by
  funext c
  cases hk:K' c with
  |none=>
   cases hk2:K c with
   |none=>rfl
   |some x=>rw[h.keeps c x hk2]at hk;cases hk
  |some x=>
   rcases h.only c x hk with h1|⟨r,m,h1,h2,_⟩
   ·exact h1.symm
   ·have:=h2.lt;omega
 have Gj_:=h.Nw
 rw[hK]at Gj_
 have hpl:=hw.JG Vy h.pe (Nat.le_refl _)
 refine⟨ν,⟨Gj_,fun b h1 h2=>?_⟩,⟨h.defers,h.size,fun t=>?_,fun t ht=>by
  rw[hw.L_ (Nat.le_refl _) fun r c hrc hc=>?_]
  ·exact htop t ht
  ·obtain⟨o,_,ho⟩:=hd.stmt r c hrc
   obtain⟨g,op,_,_,hdl,he⟩:=QJ ho
   grind⟩,⟨hw.JG Vy (Nat.zero_le _) (Nat.le_refl _),h.low,h.far⟩⟩
 ·cases hb:ν b with
  |none=>rfl
  |some m=>
   rcases h.dom b m hb with g|⟨r,g1,g2,g3⟩|g
   ·omega
   ·have:=Way.apart hw Vy g2 (Nat.le_refl _) g2.lt;omega
   ·omega
 ·by_cases hx:∃(r:Nat)(c:G8),l[r]?=some c∧c.s.dst=some t
  ·obtain⟨r,c,hrc,hc⟩:=hx
   rw[hw.GaF hd.dst hrc hc (ZK.1 hrc).1 (Nat.le_refl _)]
   exact h.wrote r c t hrc (hno hrc) hc
  ·rw[hw.L_ (Nat.le_refl _) fun r c hrc hc=>hx ⟨r,c,hrc,hc⟩]
   exact h.I5 t fun r c hrc hc=>absurd ⟨r,c,hrc,hc⟩ hx
theorem Gja(hd:ZC P N ops an l)(hw:Way F l st)(hF:D5 P F)(hBr:Wh P B)(Vy:Y9 F)(h0:(st 0).2.2=[])(hend:(st l.length).2.1.length≤L)(htop:∀t,N≤t→(st 0).1 t=.undef){Q:Exit→Act→World→Prop}
  (hQ:∀a w,(∃ν',St K B L ν' (st l.length).2.1 w∧ER D ν' N (st l.length).1 a∧Ext L (st 0).2.1 ν0 (st l.length).2.1 ν')→Q .normal a w):
  ∀(fuel:Nat)(listed:Array Bool)(a:Act)(w:World),listed.size=ops.size→Closed ops listed→Vp ops.size listed≤fuel→(∃p e ν K',Inv D K B L N l st ν0 listed a w p e ν K')→
  wpAnyIn (Fr rd) dp P .any ops Q fuel listed a w:=by
 intro fuel
 induction fuel with
 |zero=>
  intro listed a w hs hcl hu ⟨p,e,ν,K',h⟩
  have hall:∀i,i<ops.size→Z5 listed i:=fun i hi=>Pm oM hi
  refine⟨?_,hQ _ _ (h.done hd hw Vy hend htop hall)⟩
  rw[List.eq_nil_iff_forall_not_mem]
  intro j hj
  obtain⟨h1,o,ho,_⟩:=mem_ready.1 hj
  have hlt:=(Vo.1 ho).1
  have:=hall j hlt
  unfold Z5 at this
  grind
 |succ fuel ih=>
  intro listed a w hs hcl hu ⟨p,e,ν,K',h⟩
  have edges:∀(o:Oper),(∀e∈o.after,Region.binds .any e=true→listed.getD e.on false=true)↔∀i∈Qp o,Z5 listed i:=by
   intro o
   unfold Qp Z5
   grind
  refine⟨fun hr=>hQ _ _ (h.done hd hw Vy hend htop fun i=>?_),fun j hj=>?_⟩
  ·induction i using Nat.strongRecOn with
   |_ i ihi=>
    intro hi
    have hx:ops[i]?=some (ops[i]'hi):=GkG hi
    by_cases Gon:Z5 listed i
    ·exact Gon
    ·have:i∈Region.ready .any ops listed:=by
      refine mem_ready.2 ⟨?_,_,hx,?_⟩
      ·unfold Z5 at Gon
       grind
      ·exact(edges _).2 fun e he=>ihi e (hd.edges i _ hx e he) (by have:=hd.edges i _ hx e he;omega)
     rw[hr]at this
     cases this
  ·obtain⟨h1,o,ho,h2⟩:=mem_ready.1 hj
   have hlt:=(Vo.1 ho).1
   have hnl:¬Z5 listed j:=by
    unfold Z5
    grind
   have hed:=(edges o).1 h2
   obtain⟨q,d,hq,hdj⟩:=hd.all j hlt
   subst hdj
   have hcl':Closed ops (listed.setIfInBounds d.no true):=by
    intro i o' ho' hi e he
    have hset:=YQ (listed:=listed) (j:=d.no) oM
    rcases(hset i).1 hi with h3|h3
    ·subst h3
     rw[ho]at ho'
     simp only[GA]at ho'
     subst ho'
     exact(hset e).2 (.inr (hed e he))
    ·exact(hset e).2 (.inr (hcl i o' ho' h3 e he))
   have hu':=Sv hs hlt hnl
   have hgo:∀a' w',(∃p e ν K',Inv D K B L N l st ν0 (listed.setIfInBounds d.no true) a' w' p e ν K')→wpAnyIn (Fr rd) dp P .any ops Q fuel (listed.setIfInBounds d.no true) a' w':=
    fun a' w' hI=>ih _ a' w' (by simpa using hs) hcl' oM hI
   by_cases hk:d.kind=3
   ·exact wpOpIn_mono hgo (h.WC hd hw hF hBr Vy hcl hend hq hk hnl oM ho hed)
   ·refine wpOpIn_mono (fun a' w' hI=>hgo a' w' ?_) (h.GaI hBr.glob hd hw Vy hcl h0 hend hq hk hnl oM ho hed)
    grind
end
theorem Ws(hm:P.follows .mixedOrders=true)(hF:D5 P F)(hBr:Wh P B)(Vy:Y9 F){id:Nat}{ops:Array Oper}{ss:List GH}(hc:Jt (ops.toList.map (Nr P N ops))=some ss){l:List G8}(hl:∃ks,l=Py ss (Ma ops.toList) ks)
  (hok:dOk ops.toList ss (Ma ops.toList) l=true)
  {E:Env}{H:Gb}{ν:Mu}{a:Act}{w:World}{r:Env×Gb}(he:AU F l E H []=some r)(hL:r.2.length≤L)(hS:St K B L ν H w)(hR:ER D ν N E a):
  (Code.region id ops true).wpIn (Fr rd) dp P (fun x a' w'=>∃ν',x=.normal∧St K B L ν' r.2 w'∧ER D ν' N r.1 a'∧Ext L H ν r.2 ν') a w:=by
 have hd:=GmA hc hl hok
 obtain⟨st,h0,h1,h2,hw⟩:=GcS he
 have hH0:(st 0).2.1=H:=by rw[h0]
 have hE0:(st 0).1=E:=by rw[h0]
 have hend:(st l.length).2.1.length≤L:=by rw[h2];exact hL
 obtain⟨e,he1,he2,he3,he4⟩:=HV l 0 (Nat.zero_le _)
 refine wpIn_region_any hm (Gja (D:=D) (K:=K) (B:=B) (ν0:=ν) hd hw hF hBr Vy (by rw[h0]) hend (by rw[hE0];exact hR.top) (fun a' w' hq=>?_) ops.size _ a _ sM (fun j o ho hj e he=>?_) ?_ ⟨0,e,ν,K,?_⟩)
 ·grind
 ·exact(Xw _ _ hj).elim
 ·unfold Vp
  grind
 ·have nl:∀i,¬Z5 (Array.replicate ops.size false) i:=Xw _
  have nmk:∀q,¬Mk l st (Array.replicate ops.size false) q:=fun q ⟨d,_,h2,_⟩=>nl _ h2
  obtain⟨bs,hbs⟩:=hw.grows he1 he2 he3
  have hlen:=hw.JG Vy he2 (Nat.le_refl _)
  have hS0:=hS.Nw.same (w':={w with drawn:=w.drawn+1}) rfl rfl rfl rfl
  have Iy:∀b m,H.length≤b→b<((st 0).2.1++bs).length→ν b=some m→False:=by
   intro b m g1 g2 g3
   rw[←hbs]at g2
   rw[hS.dom b g1 oM]at g3
   cases g3
  have hS2:JZ K B ν ((st 0).2.1++bs) {w with drawn:=w.drawn+1}:=by
   rw[hH0]
   rw[hH0]at Iy
   exact hS0.join (fun _ _=>rfl) (fun _ _ h=>h) (fun b blk m g1 g2 g3=>(Iy b m g1 (ZK.1 g2).1 g3).elim) (fun b1 b2 m1 m2 g1 _ g3 _ _ g6 _=>(Iy b1 m1 g1 g3 g6).elim) (fun _ _ h=>h)
    (fun b m g1 g2 g3=>(Iy b m g1 g2 g3).elim)
  rw[←hbs]at hS2
  refine⟨Nat.zero_le _,he2,fun q d hq hlt=>by omega,fun q d g1 g2 g3=>he3 q d g1 g2 g3,he4,fun q d _ _ _ h=>nl _ h,hS2,fun _ _ h=>h,fun c o h=>.inl h,fun q _ hm=>(nmk q hm).elim,fun q q' m m' _ _ _ hm=>(nmk q hm).elim,fun b m hb=>?_,
   fun _ _=>rfl,fun _ _=>rfl,hR.defers,hR.size,fun q d t _ hl=>(nl _ hl).elim,fun t _=>by rw[hE0];exact hR.val t⟩
  rw[hH0]
  rcases VB b H.length with g|g
  ·exact .inl g
  ·rcases VB b L with g2|g2
   ·rw[hS.dom b g g2]at hb;cases hb
   ·exact .inr (.inr g2)
end
end Go.Cs
