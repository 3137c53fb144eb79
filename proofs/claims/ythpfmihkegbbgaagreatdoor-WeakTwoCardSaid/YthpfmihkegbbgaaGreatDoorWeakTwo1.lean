/- A part of the proof: WeakTwo returns true for every input: Kept and Waiting return the kept objects of the document; after Clear with these no weak reference of a kept object leads to one that is not kept, and a second Clear has no effect (P19.1, P19.2) Conditions: none. -/
import Derived.Test.YthpfmihkegbbgaaGreatDoorWeakTwo0
import Derived.Maps.RangeRun
import Derived.Sort.Grow
import Derived.Carry
import Derived.OpenShut
import Derived.Deep.Slices
import Derived.Test.YthpfmihkegbbgaaGreatDoorProg
import Derived.KernelRfl
set_option linter.unusedVariables false
set_option linter.unusedSimpArgs false
set_option linter.defProp false
set_option maxRecDepth 100000
namespace Go.Cs
open Go Go.RowKit
structure ER(D:List Deferred)(ν:Mu)(n:Nat)(E:Env)(a:Act):Prop where
 defers:a.defers=D
 size:n≤a.tmps.size
 val:∀t,V ν (E t) (a.tmps.getD t undef)
 top:∀t,n≤t→E t=.undef
theorem Gbn(ν:Mu):V ν CV.undef undef:=by simp[V,VL,undef]
section
variable {P : Program} {F : Jp} {K : Nat → Option Obj} {B : Bs} {L N : Nat} {rd : Option Nat} {dp : Nat} {D : List Deferred}
theorem ER.mono{ν ν':Mu}{E:Env}{a:Act}(h:ER D ν N E a)(hm:∀b m,ν b=some m→ν' b=some m):ER D ν' N E a:=⟨h.defers,h.size,fun t=>V.mono hm _ _ (h.val t),h.top⟩
theorem ER.put{ν:Mu}{E:Env}{a:Act}(h:ER D ν N E a){dst:Option Nat}(hd:∀d,dst=some d→d<N){v:CV}{v':Value}(hv:V ν v v'):ER D ν N (E.put dst v) (a.put dst v'):=by
 cases dst with
 |none=>exact h
 |some d=>
  refine⟨h.defers,by simp only[Act.put,GhB];exact h.size,fun t=>?_,fun t ht=>by
   simp only[Env.put,Env.upd]
   rw[if_neg (by have:=hd d rfl;omega)]
   exact h.top t ht⟩
  simp only[Act.put,Env.put,Env.upd]
  have hlt:d<a.tmps.size:=JH (hd d rfl) h.size
  by_cases ht:t=d
  ·subst ht
   rw[if_pos rfl,Array.getD_eq_getD_getElem?,Array.getElem?_setIfInBounds_self_of_lt hlt]
   exact hv
  ·rw[if_neg ht,Array.getD_eq_getD_getElem?,GjL (Ne.symm ht),←Array.getD_eq_getD_getElem?]
   exact h.val t
theorem XA{ν:Mu}{c:CV}{v:Value}(h:V ν c v)(b:Bool):v=.bool b↔c=.bool b:=by
 cases c<;>simp only[V]at h
 case bool b'=>subst h;simp
 all_goals
  constructor
  ·intro e
   first
   |(subst h;cases e;done)
   |(obtain⟨m,_,rfl⟩:=h;cases e;done)
   |(obtain⟨m,c',off,_,_,rfl,_⟩:=h;cases e;done)
   |(obtain⟨vs,rfl,_⟩:=h;cases e;done)
  ·intro e;cases e
theorem Q9{ops:Array Oper}{o:Oper}{s:GZ}(h:Na P N ops o=some s):∃g op,UE ops o.guard=some g∧GX P o.op=some op∧(∀d,o.dst=some d→d<N)∧s=⟨o.dst,g,op⟩:=by
 unfold Na at h
 rw[Jt]at h
 obtain⟨g,hg,h⟩:=h
 rw[Jt]at h
 obtain⟨op,hop,h⟩:=h
 obtain⟨hd,h⟩:=G_ h
 simp only[Gx]at h
 refine⟨g,op,hg,hop,fun d e=>?_,h.symm⟩
 rw[e]at hd
 simpa using hd
theorem Lf{ν:Mu}{ops:Array Oper}{g:Option (Nat×Bool)}{g':Option (Nat×Bool)}{o:Oper}(ho:o.guard=g)(hg:UE ops g=some g'){E:Env}{a:Act}(hV:∀t b,g'=some (t,b)→V ν (E t) (a.tmps.getD t undef)):
  Region.wanted o (yielded ops a.tmps)=wanted g' E:=by
 unfold Region.wanted wanted
 rw[ho]
 cases g with
 |none=>simp only[UE,Gx]at hg;subst hg;rfl
 |some q=>
  obtain⟨j,b⟩:=q
  simp only[UE,GR]at hg
  obtain⟨t,ht,rfl⟩:=hg
  have h1:=hV t b rfl
  dsimp only
  unfold yielded
  rw[ht]
  simp only[Option.bind_some]
  cases hx:a.tmps[t]? with
  |none=>
   rw[Array.getD_eq_getD_getElem?,hx]at h1
   have h2:∀b',E t≠.bool b':=fun b' e=>by have:=(XA h1 b').2 e;cases this
   dsimp only
   split
   ·rename_i b' e;exact absurd e (h2 b')
   ·rfl
  |some v=>
   rw[Array.getD_eq_getD_getElem?,hx]at h1
   simp only[Option.getD_some]at h1
   cases hE:E t with
   |bool b'=>
    have:=(XA h1 b').2 hE
    subst this
    simp
   |_=>
    have h2:∀b',v≠.bool b':=fun b' e=>by have:=(XA h1 b').1 e;rw[hE]at this;cases this
    dsimp only
    split
    ·rename_i b' e;simp only[Gx]at e;exact absurd e (h2 b')
    ·rfl
theorem IU{ν:Mu}{ops:Array Oper}{o:Oper}{g:Option (Nat×Bool)}(hg:UE ops o.guard=some g){E:Env}{a:Act}(hR:ER D ν N E a):
 Region.wanted o (yielded ops a.tmps)=wanted g E:=Lf rfl hg fun t _ _=>hR.val t
theorem GbL{ops:Array Oper}{Q Q':Exit→Act→World→Prop}(hq:∀x a w,Q x a w→Q' x a w){i:Nat}{K K':Act→World→Prop}(hk:∀a w,K a w→K' a w){a:Act}{w:World}(h:wpOpIn (Fr rd) dp P ops Q i K a w):wpOpIn (Fr rd) dp P ops Q' i K' a w:=by
 unfold wpOpIn at*
 split
 ·rename_i ho;simp only[ho]at h;exact hk _ _ h
 ·rename_i o ho
  simp only[ho]at h
  split
  ·rename_i hw
   rw[if_pos hw]at h
   refine⟨h.1,?_⟩
   have h:=h.2
   generalize (o.semAt (Fr rd).round a.eval).run P w=r at*
   cases r with
   |ok n w'=>
    cases n<;>simp only[Oper.uponIn]at h⊢<;>first
     |exact hk _ _ h
     |(
      refine⟨h.1,CallsIn.mono h.2 fun e w'' he=>?_⟩
      cases e with
      |returned v=>exact hk _ _ he
      |panicked c=>exact hq _ _ _ he
      |outgrown=>obtain⟨a0,w0,h2⟩:=he;exact⟨a0,w0,hq _ _ _ h2⟩)
     |exact⟨h.1,RowsIn.mono h.2 fun v w'' he=>hk _ _ he⟩
     |(
      refine⟨h.1,RoundIn.mono h.2 fun e w'' he=>?_⟩
      cases e with
      |returned v=>exact hk _ _ he
      |panicked c=>exact hq _ _ _ he
      |outgrown=>obtain⟨a0,w0,h2⟩:=he;exact⟨a0,w0,hq _ _ _ h2⟩)
   |halt x w'=>cases x<;>simp only[Oper.uponIn]at h⊢<;>exact hq _ _ _ h
  ·rename_i hw
   rw[if_neg hw]at h
   exact⟨h.1,hk _ _ h.2⟩
theorem MS{ops:Array Oper}{Q Q':Exit→Act→World→Prop}(hq:∀x a w,Q x a w→Q' x a w):∀(l:List Nat)(a:Act)(w:World),wpOpsIn (Fr rd) dp P ops Q l a w→wpOpsIn (Fr rd) dp P ops Q' l a w
 |[],a,w,h=>hq _ _ _ h
 |i::l,a,w,h=>by
  rw[wpOpsIn_cons]at h⊢
  exact GbL hq (fun a w h=>MS hq l a w h) h
def Zi(listed:Array Bool)(j:Nat):Prop:=listed.getD j false=true
theorem YT{listed:Array Bool}{j:Nat}(hj:j<listed.size)(i:Nat):Zi (listed.setIfInBounds j true) i↔i=j∨Zi listed i:=by
 unfold Zi
 by_cases hi:i=j
 ·subst hi
  simp[hj]
 ·rw[getD_set_ne false (Ne.symm hi)]
  simp[hi]
def Mk(l:List GQ)(st:Nat→DSt)(listed:Array Bool)(q:Nat):Prop:=∃d,l[q]?=some d∧Zi listed d.no∧d.kind≠3∧(st (q+1)).2.1.length=(st q).2.1.length+1
structure Inv(D:List Deferred)(K:Nat→Option Obj)(B:Bs)(L N:Nat)(l:List GQ)(st:Nat→DSt)(ν0:Mu)(listed:Array Bool)(a:Act)(w:World)(p e:Nat)(ν:Mu)(K':Nat→Option Obj):Prop where
 pe:p≤e
 en:e≤l.length
 GaP:∀(q:Nat)(d:GQ),l[q]?=some d→q<p→Zi listed d.no
 steady:∀(q:Nat)(d:GQ),p≤q→q<e→l[q]?=some d→d.kind≠3
 GeH:∀(d:GQ),l[e]?=some d→d.kind=3
 later:∀(q:Nat)(d:GQ),e≤q→l[q]?=some d→d.kind=3→¬Zi listed d.no
 Nh:JZ K' B ν (st e).2.1 w
 keeps:∀c o,K c=some o→K' c=some o
 only:∀c o,K' c=some o→K c=some o∨∃q m,e≤q∧Mk l st listed q∧ν (st q).2.1.length=some m∧m.c=c
 extra:∀q,e≤q→Mk l st listed q→∃m blk x,ν (st q).2.1.length=some m∧(st (q+1)).2.1[(st q).2.1.length]?=some blk∧Fx ν blk m x∧
  K' m.c=some x∧K m.c=none∧B.heap.size≤m.c
 apart:∀q q' m m',e≤q→e≤q'→q≠q'→Mk l st listed q→Mk l st listed q'→ν (st q).2.1.length=some m→ν (st q').2.1.length=some m'→m.c≠m'.c
 dom:∀b m,ν b=some m→b<(st p).2.1.length∨(∃q,p≤q∧Mk l st listed q∧b=(st q).2.1.length)∨L≤b
 low:∀b,b<(st 0).2.1.length→ν b=ν0 b
 far:∀b,L≤b→ν b=ν0 b
 defers:a.defers=D
 size:N≤a.tmps.size
 wrote:∀(q:Nat)(d:GQ)(t:Nat),l[q]?=some d→Zi listed d.no→d.s.dst=some t→V ν ((st (q+1)).1 t) (a.tmps.getD t undef)
 Ip:∀t,(∀(q:Nat)(d:GQ),l[q]?=some d→d.s.dst=some t→¬Zi listed d.no)→V ν ((st 0).1 t) (a.tmps.getD t undef)
theorem Gih{ν:Mu}{a:Act}(hN:N≤a.tmps.size){dst:Option Nat}(hd:∀d,dst=some d→d<N)(v':Value)(t:Nat):
  (a.put dst v').tmps.getD t undef=if dst=some t then v' else a.tmps.getD t undef:=by
 cases dst with
 |none=>simp[Act.put]
 |some d=>
  simp only[Act.put]
  have hlt:d<a.tmps.size:=JH (hd d rfl) hN
  by_cases ht:d=t
  ·subst ht
   rw[if_pos rfl,Array.getD_eq_getD_getElem?,Array.getElem?_setIfInBounds_self_of_lt hlt];rfl
  ·rw[if_neg (by simpa using ht),Array.getD_eq_getD_getElem?,GjL ht,←Array.getD_eq_getD_getElem?]
section
variable {ops : Array Oper} {an : List (List Nat)} {l : List GQ} {st : Nat → DSt} {ν0 : Mu} {listed : Array Bool} {a : Act} {w : World} {p e : Nat} {ν : Mu} {K' : Nat → Option Obj} {F : Jp}
theorem Inv.BA(h:Inv D K B L N l st ν0 listed a w p e ν K')(hd:Ab P N ops an l){q:Nat}{d:GQ}(hq:l[q]?=some d) (hls:d.no<listed.size) (hdst:∀t,d.s.dst=some t→t<N) {ν':Mu} (hm:∀b m,ν b=some m→ν' b=some m)
  {v:CV} {v':Value} (hv:V ν' v v') (hst:(st (q+1)).1=(st q).1.put d.s.dst v):
  (∀(r:Nat)(c:GQ)(t:Nat),l[r]?=some c→Zi (listed.setIfInBounds d.no true) c.no→c.s.dst=some t→V ν' ((st (r+1)).1 t) ((a.put d.s.dst v').tmps.getD t undef))∧
  (∀t,(∀(r:Nat)(c:GQ),l[r]?=some c→c.s.dst=some t→¬Zi (listed.setIfInBounds d.no true) c.no)→V ν' ((st 0).1 t) ((a.put d.s.dst v').tmps.getD t undef)):=by
 refine⟨fun r c t hr hl ht=>?_,fun t ht=>?_⟩
 ·rw[Gih (ν:=ν) h.size hdst]
  by_cases he:d.s.dst=some t
  ·rw[if_pos he]
   have:r=q:=hd.dst r q c d t hr hq he ht
   subst this
   rw[hst,he]
   simpa[Env.put,Env.upd]using hv
  ·rw[if_neg he]
   rcases(YT hls c.no).1 hl with h1|h1
   ·have:r=q:=hd.inj r q c d hr hq h1
    subst this
    rw[hq]at hr
    simp only[Gx]at hr
    subst hr
    exact absurd ht he
   ·exact V.mono hm _ _ (h.wrote r c t hr h1 ht)
 ·rw[Gih (ν:=ν) h.size hdst]
  by_cases he:d.s.dst=some t
  ·exact absurd ((YT hls d.no).2 (.inl rfl)) (ht q d hq he)
  ·rw[if_neg he]
   exact V.mono hm _ _ (h.Ip t fun r c hr hc hl=>ht r c hr hc ((YT hls c.no).2 (.inr hl)))
theorem Inv.reads(h:Inv D K B L N l st ν0 listed a w p e ν K')(hd:Ab P N ops an l)(hw:Way F l st)(hcl:Closed ops listed){q:Nat}{d:GQ}(hq:l[q]?=some d) {o:Oper} (ho:ops[d.no]?=some o)
  (hr:∀i∈Qj o,Zi listed i) (hnl:¬Zi listed d.no):∀t∈d.s.reads,V ν ((st q).1 t) (a.tmps.getD t undef):=by
 intro t ht
 have hql:q<l.length:=(Ni.1 hq).1
 by_cases hx:∃(r:Nat)(c:GQ),l[r]?=some c∧c.s.dst=some t
 ·obtain⟨r,c,hrc,hc⟩:=hx
  rcases hd.reads q r d c t hq hrc hc ht with⟨hlt,han⟩|⟨hle,han⟩
  case inr=>
   have hcn:¬Zi listed c.no:=by
    intro hcl'
    rcases han with rfl|han
    ·rw[hq]at hrc
     simp only[Gx]at hrc
     subst hrc
     exact hnl hcl'
    ·obtain⟨oc,hoc,_⟩:=hd.stmt r c hrc
     exact hnl (Q_ hd hcl c.no oc hoc (hcl c.no oc hoc hcl') d.no han)
   rw[hw.Gb6 oM fun r' c' hr' Gc1 hc'=>by
    have:=hd.dst r' r c' c t Gc1 hrc hc hc'
    omega]
   refine h.Ip t fun r' c' Gc1 hc'=>?_
   have:=hd.dst r' r c' c t Gc1 hrc hc hc'
   subst this
   rw[hrc]at Gc1
   simp only[Gx]at Gc1
   subst Gc1
   exact hcn
  have hl:=Q_ hd hcl d.no o ho hr c.no han
  rw[hw.Tk hd.dst hrc hc hlt oM]
  exact h.wrote r c t hrc hl hc
 ·rw[hw.L_ oM fun r c hrc hc=>hx ⟨r,c,hrc,hc⟩]
  exact h.Ip t fun r c hrc hc=>absurd ⟨r,c,hrc,hc⟩ hx
theorem JZ.fill{μ:Mu}{H:Gb}(h:JZ K B μ H w){b:Nat}{k:JI}(hb:H[b]?=some k) (hμ:μ b=none) {w':World} {x:Obj} (hh:w'.heap=w.heap.push x) (hs:Streams w w')
  (hf:Fx μ k ⟨w.heap.size,0,k.Jf,Ku x⟩ x):
  JZ K B (μ.set b ⟨w.heap.size,0,k.Jf,Ku x⟩) H w':=by
 have hmono:∀b' m,μ b'=some m→(μ.set b ⟨w.heap.size,0,k.Jf,Ku x⟩) b'=some m:=by
  intro b' m hm
  have:b'≠b:=fun e=>by rw[e,hμ]at hm;cases hm
  rw[Mu.J4 _ _ this];exact hm
 have old:∀{c:Nat},c<w.heap.size→w'.heap[c]?=w.heap[c]?:=fun{c} hc=>by rw[hh];exact Bh w x _ hc
 have hnew:w'.heap[w.heap.size]?=some x:=by rw[hh];exact Bj w _
 have lt:∀{b':Nat}{k':JI}{m':Zz},H[b']?=some k'→k'.mode≠.dead→μ b'=some m'→m'.c<w.heap.size:=by
  intro b' k' m' h1 h2 h3
  exact h.there h1 h2 h3
 refine⟨?_,fun c o hc=>?_,fun b' k' m' hb' hd hd' hm=>?_,fun b1 b2 k1 k2 m1 m2 h1 h2 r1 r2 hne e1 e2=>?_,fun b' k' m' hb' hd hm=>?_⟩
 rotate_left 4
 ·by_cases hbb:b'=b
  ·subst hbb
   rw[hb]at hb'
   simp only[Gx]at hb'
   subst hb'
   rw[Mu.set_self]at hm
   simp only[Gx]at hm
   subst hm
   rcases hf with⟨h1,_⟩|⟨h1,h0,es,cl,rfl,h3⟩
   ·rw[hd]at h1;cases h1
   ·exact⟨_,hnew,JY.GjC h0 ⟨h3.1.mono hmono,h3.2⟩,h.base.size,h.free⟩
  ·rw[Mu.J4 _ _ hbb]at hm
   obtain⟨ob,hw,hr,hB',hK'⟩:=h.mp b' k' m' hb' hd hm
   exact⟨ob,by rw[old (lt hb' (by rw[hd];decide) hm)];exact hw,hr.mono hmono,hB',hK'⟩
 ·exact h.base.trans ⟨hs.os,hs.tape,hs.output,by rw[hh];simp,fun q hq=>old (JH hq h.base.size)⟩
 ·have:=h.kept c o hc
  rw[old (N7.1 this).1];exact this
 ·by_cases hbb:b'=b
  ·subst hbb
   rw[Mu.set_self]at hm
   simp only[Gx]at hm
   subst hm
   rw[hb]at hb'
   simp only[Gx]at hb'
   subst hb'
   rcases hf with⟨hk,_,_,arr,T,rfl,h5,h6,h7⟩|⟨hk,_⟩
   ·refine⟨arr,T,(0,0),hnew,fun i x hx=>?_,fun _=>⟨rfl,rfl,by simpa[Ku]using h6,rfl,h.base.size,h.free⟩,fun e=>by rw[hk]at e;cases e⟩
    obtain⟨v,hv1,hv2⟩:=h7 i x hx
    exact⟨v,by simpa using hv1,V.mono hmono _ _ hv2⟩
   ·exact absurd hk hd'
  ·rw[Mu.J4 _ _ hbb]at hm
   obtain⟨a,T',fz,hw,hc,hr⟩:=h.blk b' k' m' hb' hd hd' hm
   exact⟨a,T',fz,by rw[old (lt hb' hd hm)];exact hw,fun i x hx=>let ⟨v,h1,h2⟩:=hc i x hx;⟨v,h1,V.mono hmono _ _ h2⟩,hr⟩
 ·have d1:k1.mode≠.dead:=by rcases r1 with r1|r1<;>(rw[r1];decide)
  by_cases hb1:b1=b
  ·have hb2:b2≠b:=fun e=>hne (hb1.trans e.symm)
   rw[hb1,Mu.set_self]at e1
   simp only[Gx]at e1
   subst e1
   rw[Mu.J4 _ _ hb2]at e2
   have:=lt h2 r2 e2
   dsimp only
   omega
  ·rw[Mu.J4 _ _ hb1]at e1
   by_cases hb2:b2=b
   ·rw[hb2,Mu.set_self]at e2
    simp only[Gx]at e2
    subst e2
    have:=lt h1 d1 e1
    dsimp only
    omega
   ·rw[Mu.J4 _ _ hb2]at e2
    exact h.inj b1 b2 k1 k2 m1 m2 h1 h2 r1 r2 hne e1 e2
theorem JZ.join{μ:Mu}{H:Gb}(h:JZ K' B μ H w){ν:Mu}(hsame:∀b,b<H.length→ν b=μ b)(hmono:∀b m,μ b=some m→ν b=some m){bs:List JI}
  (hex:∀(b:Nat)(blk:JI)(m:Zz),H.length≤b→(H++bs)[b]?=some blk→ν b=some m→∃x,Fx ν blk m x∧K' m.c=some x∧B.heap.size≤m.c)
  (hinj:∀b1 b2 m1 m2,H.length≤b1→H.length≤b2→b1<(H++bs).length→b2<(H++bs).length→b1≠b2→ν b1=some m1→ν b2=some m2→m1.c≠m2.c)
  {K2:Nat→Option Obj} (hK:∀c o,K2 c=some o→K' c=some o) (hK2:∀b m,H.length≤b→b<(H++bs).length→ν b=some m→K2 m.c=none):JZ K2 B ν (H++bs) w:=by
 have hKn:∀c,K' c=none→K2 c=none:=by
  intro c hc
  cases h2:K2 c with
  |none=>rfl
  |some o=>rw[hK c o h2]at hc;cases hc
 have lt:∀{b:Nat}{k:JI},(H++bs)[b]?=some k→b<(H++bs).length:=fun e=>(Ni.1 e).1
 have Gb5:∀{b:Nat},b<H.length→(H++bs)[b]?=H[b]?:=fun hb=>QN hb
 refine⟨h.base,fun c o hc=>h.kept c o (hK c o hc),fun b k m hb hd hd' hm=>?_,fun b1 b2 k1 k2 m1 m2 h1 h2 r1 r2 hne e1 e2=>?_,fun b k m hb hd hm=>?_⟩
 rotate_left 2
 ·rcases QU b H.length with hlt|hge
  ·rw[Gb5 hlt]at hb
   rw[hsame b hlt]at hm
   obtain⟨ob,hw,hr,hB',hK'⟩:=h.mp b k m hb hd hm
   exact⟨ob,hw,hr.mono hmono,hB',hKn _ hK'⟩
  ·obtain⟨x,hf,h5,h6⟩:=hex b k m hge hb hm
   rcases hf with⟨h1,_⟩|⟨h1,h0,es,cl,rfl,h3⟩
   ·rw[hd]at h1;cases h1
   ·exact⟨_,h.kept _ _ h5,JY.GjC h0 h3,h6,hK2 b m hge (lt hb) hm⟩
 ·rcases QU b H.length with hlt|hge
  ·rw[Gb5 hlt]at hb
   rw[hsame b hlt]at hm
   obtain⟨arr,T,fz,hw,hc,hr,hro⟩:=h.blk b k m hb hd hd' hm
   refine⟨arr,T,fz,hw,fun i x hx=>let ⟨v,h1,h2⟩:=hc i x hx;⟨v,h1,V.mono hmono _ _ h2⟩,fun e=>?_,hro⟩
   obtain⟨c1,c2,c3,c4,c5,c6⟩:=hr e
   exact⟨c1,c2,c3,c4,c5,hKn _ c6⟩
  ·obtain⟨x,hf,h5,h6⟩:=hex b k m hge hb hm
   rcases hf with⟨h1,h2,h3,arr,T,rfl,h4,h7,h8⟩|⟨h1,_⟩
   case inr=>exact absurd h1 hd'
   refine⟨arr,T,(0,0),h.kept _ _ h5,fun i x hx=>?_,fun _=>⟨h3,h4.symm,oM,rfl,h6,hK2 b m hge (lt hb) hm⟩,fun e=>by rw[h1]at e;cases e⟩
   rw[h2,Nat.zero_add]
   exact h8 i x hx
 ·rcases QU b1 H.length with hl1|hg1<;>rcases QU b2 H.length with hl2|hg2
  ·rw[Gb5 hl1]at h1;rw[Gb5 hl2]at h2
   rw[hsame _ hl1]at e1;rw[hsame _ hl2]at e2
   exact h.inj b1 b2 k1 k2 m1 m2 h1 h2 r1 r2 hne e1 e2
  ·rw[Gb5 hl1]at h1
   rw[hsame _ hl1]at e1
   have hn:=h.loose h1 r1 e1
   obtain⟨x,_,h5,_⟩:=hex b2 k2 m2 hg2 h2 e2
   intro e;rw[e,h5]at hn;cases hn
  ·rw[Gb5 hl2]at h2
   rw[hsame _ hl2]at e2
   obtain⟨x,_,h5,h6⟩:=hex b1 k1 m1 hg1 h1 e1
   exact Ne.symm (h.Y8 h5 h6 h2 r2 e2)
  ·exact hinj b1 b2 m1 m2 hg1 hg2 (lt h1) (lt h2) hne e1 e2
theorem Way.apart(hw:Way F l st)(Vk:VP F){q q':Nat}(h1:Mk l st listed q)(hle:q'≤l.length)(h:q<q'):(st q).2.1.length<(st q').2.1.length:=by
 obtain⟨d,hd,_,_,hlen⟩:=h1
 have:=hw.JK Vk (show q+1≤q' from h) hle
 omega
theorem Mk.lt{q:Nat}(h:Mk l st listed q):q<l.length:=by
 obtain⟨d,hd,_⟩:=h
 exact(Ni.1 hd).1
theorem Mk.up{q:Nat}(h:Mk l st listed q){d:GQ}(hd:l[q]?=some d):Zi listed d.no:=by
 obtain⟨d',hd',hl,_⟩:=h
 rw[hd]at hd'
 simp only[Gx]at hd'
 subst hd'
 exact hl
theorem Mk.inj(hw:Way F l st)(Vk:VP F){q q':Nat}(h1:Mk l st listed q)(h2:Mk l st listed q')(h:(st q).2.1.length=(st q').2.1.length):q=q':=by
 rcases Nat.lt_trichotomy q q' with h'|h'|h'
 ·have:=Way.apart hw Vk h1 (Nat.le_of_lt h2.lt) h';omega
 ·exact h'
 ·have:=Way.apart hw Vk h2 (Nat.le_of_lt h1.lt) h';omega
theorem Inv.SK(hG:Z0 P B.toWorld)(h:Inv D K B L N l st ν0 listed a w p e ν K')(hd:Ab P N ops an l)(hw:Way F l st)(Vk:VP F)(hcl:Closed ops listed)(h0:(st 0).2.2=[])(hend:(st l.length).2.1.length≤L)
  {q:Nat}{d:GQ}(hq:l[q]?=some d) (hk:d.kind≠3) (hnl:¬Zi listed d.no) (hls:d.no<listed.size) {o:Oper} (ho:ops[d.no]?=some o) (hr:∀i∈Qj o,Zi listed i) {Q:Exit→Act→World→Prop}:
  wpOpIn (Fr rd) dp P ops Q d.no (fun a' w'=>∃ν' K2,Inv D K B L N l st ν0 (listed.setIfInBounds d.no true) a' w' p e ν' K2) a w:=by
 have hql:q<l.length:=(Ni.1 hq).1
 have hpq:p≤q:=Nat.le_of_not_lt fun hlt=>hnl (h.GaP q d hq hlt)
 have hreads:=h.reads hd hw hcl hq ho hr hnl
 obtain⟨o',ho',hcs⟩:=hd.stmt q d hq
 rw[ho]at ho'
 simp only[Gx]at ho'
 subst ho'
 obtain⟨g,op,hg,hop,hdN,hs⟩:=Q9 hcs
 have hdst:d.s.dst=o.dst:=by rw[hs]
 have hgd:d.s.guard=g:=by rw[hs]
 have GdI:d.s.op=op:=by rw[hs]
 have Gh7:∀t,d.s.dst=some t→t<N:=fun t ht=>hdN t (by rw[←hdst];exact ht)
 have hstep:=hw.step q d hq
 unfold VX at hstep
 have hwant:Region.wanted o (yielded ops a.tmps)=wanted d.s.guard (st q).1:=by
  rw[hgd]
  refine Lf rfl hg fun t b hgt=>hreads t ?_
  unfold GZ.reads
  rw[hgd,hgt]
  simp
 unfold wpOpIn
 simp only[ho]
 rw[hwant]
 have hset:=YT hls
 have OO:∀{r:Nat},Mk l st listed r→Mk l st (listed.setIfInBounds d.no true) r:=fun{r} ⟨c,h1,h2,h3,h4⟩=>⟨c,h1,(hset c.no).2 (.inr h2),h3,h4⟩
 have Gbe:∀{r:Nat},Mk l st (listed.setIfInBounds d.no true) r→Mk l st listed r∨r=q:=fun{r} ⟨c,h1,h2,h3,h4⟩=>by
  rcases(hset c.no).1 h2 with h5|h5
  ·exact .inr (hd.inj r q c d h1 hq h5)
  ·exact .inl ⟨c,h1,h5,h3,h4⟩
 have plain:∀(v:CV)(v':Value)(w':World),(st (q+1)).1=(st q).1.put d.s.dst v→(st (q+1)).2.1.length≠(st q).2.1.length+1→V ν v v'→JZ K' B ν (st e).2.1 w'→
   Inv D K B L N l st ν0 (listed.setIfInBounds d.no true) (a.put d.s.dst v') w' p e ν K':=by
  intro v v' w' hst hlen hv hS
  obtain⟨w1,w2⟩:=h.BA hd hq hls Gh7 (ν':=ν) (fun _ _ h=>h) hv hst
  have mk:∀{r:Nat},Mk l st (listed.setIfInBounds d.no true) r→Mk l st listed r:=fun{r} hm=>by
   rcases Gbe hm with h1|h1
   ·exact h1
   ·subst h1;obtain⟨_,_,_,_,h4⟩:=hm;exact absurd h4 hlen
  refine⟨h.pe,h.en,fun r c hr hlt=>(hset c.no).2 (.inr (h.GaP r c hr hlt)),h.steady,h.GeH,fun r c hge hr hk3 hl=>?_,hS,h.keeps,fun c x hx=>?_,fun r hge hm=>h.extra r hge (mk hm),fun r r' m m' a1 a2 a3 a4 a5=>h.apart r r' m m' a1 a2 a3 (mk a4) (mk a5),fun b m hb=>?_,h.low,h.far,?_,?_,w1,w2⟩
  ·rcases(hset c.no).1 hl with h1|h1
   ·have:=hd.inj r q c d hr hq h1
    subst this
    rw[hq]at hr
    simp only[Gx]at hr
    subst hr
    exact hk hk3
   ·exact h.later r c hge hr hk3 h1
  ·rcases h.only c x hx with h1|⟨r,m,h1,h2,h3,h4⟩
   ·exact .inl h1
   ·exact .inr ⟨r,m,h1,OO h2,h3,h4⟩
  ·rcases h.dom b m hb with h1|⟨r,h1,h2,h3⟩|h1
   ·exact .inl h1
   ·exact .inr (.inl ⟨r,h1,OO h2,h3⟩)
   ·exact .inr (.inr h1)
  ·cases hdd:d.s.dst<;>exact h.defers
  ·cases hdd:d.s.dst with
   |none=>exact h.size
   |some t=>simp only[Act.put,GhB];exact h.size
 cases hwd:wanted d.s.guard (st q).1 with
 |false=>
  rw[if_pos hwd]at hstep
  simp only[Gx]at hstep
  simp only[Bool.false_eq_true,if_false]
  rw[←hdst]
  exact⟨fun _ _=>trivial,ν,K',plain .undef undef w (by rw[←hstep]) (by rw[←hstep];simp) (Gbn ν) h.Nh⟩
 |true=>
  rw[if_neg (by rw[hwd];simp),if_neg hk,Jt]at hstep
  obtain⟨m,hm,hstep⟩:=hstep
  split at hstep
  ·rename_i hck
   simp only[Gx]at hstep
   simp only[if_true]
   have hme:GL d.s.op (st q).1 (st e).2.1=some m:=by
    rcases QU q e with hlt|hge
    ·obtain⟨bs,hb⟩:=hw.grows (Nat.le_of_lt hlt) h.en (fun r c h1 h2 h3=>h.steady r c oM h2 h3)
     rw[hb]
     exact GeY bs hm
    ·rcases(hd.kind q d hq).1 with h1|h1|h1
     ·rw[GbX ((hd.kind q d hq).2 h1) (st q).1 (st e).2.1 (st q).2.1];exact hm
     ·have hel:e<l.length:=by omega
      have hle:l[e]?=some (l[e]'hel):=J9 hel
      have hk3:=h.GeH _ hle
      have hne:e≠q:=fun heq=>by
       subst heq
       rw[hq]at hle
       simp only[Gx]at hle
       rw[←hle]at hk3
       exact hk hk3
      have hlow:d.low≤H_ l e:=by
       refine Nat.le_of_not_lt fun hlt=>?_
       have han:=hd.chain q e d _ hq hle hk3 oM (.inr hlt)
       exact h.later e _ (Nat.le_refl _) hle hk3 (Q_ hd hcl d.no o ho hr _ han)
      exact hck h1 _ (hw.GiX h0 hle hk3 hlow oM oM)
     ·exact absurd h1 hk
   rw[GdI]at hme
   have hE:∀t∈op.tmps,V ν ((st q).1 t) (a.tmps.getD t undef):=fun t ht=>hreads t (by unfold GZ.reads;rw[GdI];simp[ht])
   obtain⟨v',w',hrun,hstr,hres⟩:=Geu (P:=P) hG h.Nh hop hE hme
   refine⟨fun _ _=>trivial,?_⟩
   rw[Oper.semAt_eq _ _ _ (U8 hop),hrun,Oper.uponIn_value,←hdst]
   show∃ν' K2,Inv D K B L N l st ν0 (listed.setIfInBounds d.no true) (a.put d.s.dst v') w' p e ν' K2
   obtain⟨ob,f⟩:=m
   cases ob with
   |none=>
    obtain⟨hwh,hv⟩:=hres
    exact⟨ν,K',plain (f (st q).2.1.length) v' w' (by rw[←hstep];rfl) (by rw[←hstep];simp[made]) (hv _) (h.Nh.same hwh hstr.os hstr.tape hstr.output)⟩
   |some k=>
    obtain⟨xo,hwh,hfr,hval⟩:=hres
    have Gf2:(st (q+1)).2.1=(st q).2.1++[k]:=by rw[←hstep];rfl
    have Gi8:(st (q+1)).1=(st q).1.put d.s.dst (f (st q).2.1.length):=by rw[←hstep];rfl
    have hlen1:(st (q+1)).2.1.length=(st q).2.1.length+1:=by rw[Gf2];simp
    have GuH:(st q).2.1.length<L:=by
     have:=hw.JK Vk (show q+1≤l.length from hql) (Nat.le_refl _)
     omega
    have Gk0:(st p).2.1.length≤(st q).2.1.length:=hw.JK Vk hpq oM
    have hfree:ν (st q).2.1.length=none:=by
     cases hb:ν (st q).2.1.length with
     |none=>rfl
     |some mm=>
      rcases h.dom _ mm hb with h1|⟨r,h1,h2,h3⟩|h1
      ·omega
      ·have hrl:=h2.lt
       rcases Nat.lt_trichotomy r q with h4|h4|h4
       ·have:=Way.apart hw Vk h2 oM h4;omega
       ·subst h4;exact absurd (h2.up hq) hnl
       ·have:=hw.JK Vk (show q+1≤r from h4) oM;omega
      ·omega
    generalize hν':ν.set (st q).2.1.length ⟨w.heap.size,0,k.Jf,Ku xo⟩=ν'
    have hmono:∀b mm,ν b=some mm→ν' b=some mm:=by
     intro b mm hb
     have:b≠(st q).2.1.length:=fun e'=>by rw[e',hfree]at hb;cases hb
     rw[←hν',Mu.J4 _ _ this];exact hb
    have hself:ν' (st q).2.1.length=some ⟨w.heap.size,0,k.Jf,Ku xo⟩:=by rw[←hν'];exact Mu.set_self _ _ _
    have hother:∀b,b≠(st q).2.1.length→ν' b=ν b:=fun b hb=>by rw[←hν'];exact Mu.J4 _ _ hb
    have hvv:=hval ν' (st q).2.1.length hmono hself
    obtain⟨w1,w2⟩:=h.BA hd hq hls Gh7 hmono hvv Gi8
    have Gi_:Mk l st (listed.setIfInBounds d.no true) q:=⟨d,hq,(hset d.no).2 (.inl rfl),hk,hlen1⟩
    have XJ:=h.Nh.free
    have hne:∀{r:Nat},Mk l st listed r→(st r).2.1.length≠(st q).2.1.length:=fun{r} hmr he=>by
     have:=Mk.inj hw Vk (OO hmr) Gi_ he
     subst this
     exact hnl (hmr.up hq)
    have common:∀K2,JZ K2 B ν' (st e).2.1 w'→(∀c x,K c=some x→K2 c=some x)→
      (∀c x,K2 c=some x→K c=some x∨∃r mm,e≤r∧Mk l st (listed.setIfInBounds d.no true) r∧ν' (st r).2.1.length=some mm∧mm.c=c)→
      (∀c x,K' c=some x→K2 c=some x)→
      (e≤q→K2 w.heap.size=some xo∧K w.heap.size=none)→
      Inv D K B L N l st ν0 (listed.setIfInBounds d.no true) (a.put d.s.dst v') w' p e ν' K2:=by
     intro K2 hS2 hk1 hk2 hk3 hk4
     refine⟨h.pe,h.en,fun r c hr hlt=>(hset c.no).2 (.inr (h.GaP r c hr hlt)),h.steady,h.GeH,fun r c hge hr hk3 hl=>?_,hS2,hk1,hk2,fun r hge hm=>?_,fun r r' m1 m2 a1 a2 a3 a4 a5 a6 a7=>?_,fun b mm hb=>?_,fun b hb=>?_,fun b hb=>?_,?_,?_,w1,w2⟩
     ·rcases(hset c.no).1 hl with h1|h1
      ·have:=hd.inj r q c d hr hq h1
       subst this
       rw[hq]at hr
       simp only[Gx]at hr
       subst hr
       exact hk hk3
      ·exact h.later r c hge hr hk3 h1
     ·rcases Gbe hm with h1|h1
      ·obtain⟨mm,blk,x',c1,c2,c3,c7,c8,c9⟩:=h.extra r hge h1
       exact⟨mm,blk,x',hmono _ _ c1,c2,c3.mono hmono,hk3 _ _ c7,c8,c9⟩
      ·subst h1
       exact⟨_,k,xo,hself,by rw[Gf2,List.getElem?_concat_length],hfr.mono hmono,(hk4 hge).1,(hk4 hge).2,h.Nh.base.size⟩
     ·have old:∀{r:Nat}{mm:Zz},e≤r→Mk l st listed r→ν' (st r).2.1.length=some mm→mm.c<w.heap.size:=by
       intro r mm hge hmk hm'
       rw[hother _ (hne hmk)]at hm'
       obtain⟨m3,blk,x',c1,_,_,c7,_⟩:=h.extra r hge hmk
       rw[c1]at hm'
       simp only[Gx]at hm'
       subst hm'
       exact(N7.1 (h.Nh.kept _ _ c7)).1
      rcases Gbe a4 with h1|h1<;>rcases Gbe a5 with h2|h2
      ·rw[hother _ (hne h1)]at a6
       rw[hother _ (hne h2)]at a7
       exact h.apart r r' m1 m2 a1 a2 a3 h1 h2 a6 a7
      ·subst h2
       rw[hself]at a7
       simp only[Gx]at a7
       subst a7
       have:=old a1 h1 a6
       dsimp only
       omega
      ·subst h1
       rw[hself]at a6
       simp only[Gx]at a6
       subst a6
       have:=old a2 h2 a7
       dsimp only
       omega
      ·exact absurd (h1.trans h2.symm) a3
     ·by_cases hbq:b=(st q).2.1.length
      ·exact .inr (.inl ⟨q,hpq,Gi_,hbq⟩)
      ·rw[hother b hbq]at hb
       rcases h.dom b mm hb with h1|⟨r,h1,h2,h3⟩|h1
       ·exact .inl h1
       ·exact .inr (.inl ⟨r,h1,OO h2,h3⟩)
       ·exact .inr (.inr h1)
     ·have:=hw.JK Vk (Nat.zero_le q) oM
      rw[hother b oM];exact h.low b hb
     ·rw[hother b oM];exact h.far b hb
     ·cases hdd:d.s.dst<;>exact h.defers
     ·cases hdd:d.s.dst with
      |none=>exact h.size
      |some t=>simp only[Act.put,GhB];exact h.size
    rcases QU q e with hlt|hge
    ·obtain⟨bs,hb⟩:=hw.grows (show q+1≤e from hlt) h.en (fun r c h1 h2 h3=>h.steady r c oM h2 h3)
     have hblk:(st e).2.1[(st q).2.1.length]?=some k:=by
      rw[hb,Gf2,List.append_assoc,M_ (Nat.le_refl _)]
      simp
     have hS2:=h.Nh.fill hblk hfree hwh hstr hfr
     rw[hν']at hS2
     refine⟨ν',K',common K' hS2 h.keeps (fun c x hx=>?_) (fun _ _ h=>h) (fun hge=>by omega)⟩
     rcases h.only c x hx with h1|⟨r,mm,h1,h2,h3,h4⟩
     ·exact .inl h1
     ·exact .inr ⟨r,mm,h1,OO h2,hmono _ _ h3,h4⟩
    ·have hS1:=(h.Nh.alloc xo).same (w':=w') hwh hstr.os hstr.tape hstr.output
     have hel:(st e).2.1.length≤(st q).2.1.length:=hw.JK Vk hge oM
     have hS2:=hS1.congr (ν:=ν') (fun b hb=>hother b oM) hmono
     refine⟨ν',_,common _ hS2 (fun c x hx=>?_) (fun c x hx=>?_) (fun c x hx=>?_) (fun _=>⟨sM,?_⟩)⟩
     ·have h1:=h.keeps c x hx
      have:c≠w.heap.size:=fun e'=>by rw[e',XJ]at h1;cases h1
      rw[if_neg this];exact h1
     ·split at hx
      ·rename_i hc
       exact .inr ⟨q,_,hge,Gi_,hself,hc.symm⟩
      ·rcases h.only c x hx with h1|⟨r,mm,h1,h2,h3,h4⟩
       ·exact .inl h1
       ·exact .inr ⟨r,mm,h1,OO h2,hmono _ _ h3,h4⟩
     ·have:c≠w.heap.size:=fun e'=>by rw[e',XJ]at hx;cases hx
      rw[if_neg this];exact hx
     ·cases hK:K w.heap.size with
      |none=>rfl
      |some x=>have:=h.keeps _ _ hK;rw[XJ]at this;cases this
  ·cases hstep
theorem Fw(l:List GQ)(p:Nat)(hp:p≤l.length):∃e,p≤e∧e≤l.length∧(∀(q:Nat)(d:GQ),p≤q→q<e→l[q]?=some d→d.kind≠3)∧∀(d:GQ),l[e]?=some d→d.kind=3:=by
 obtain⟨n,hn⟩:∃n,n=l.length-p:=⟨_,rfl⟩
 induction n generalizing p with
 |zero=>
  have:p=l.length:=by omega
  exact⟨p,Nat.le_refl _,hp,fun q d h1 h2=>by omega,fun d hd=>by rw[this,En (Nat.le_refl _)]at hd;cases hd⟩
 |succ n ih=>
  have hlt:p<l.length:=by omega
  have hx:l[p]?=some (l[p]'hlt):=J9 hlt
  by_cases h3:(l[p]'hlt).kind=3
  ·exact⟨p,Nat.le_refl _,hp,fun q d h1 h2=>by omega,fun d hd=>by rw[hx]at hd;simp only[Gx]at hd;rw[←hd];exact h3⟩
  ·obtain⟨e,h1,h2,h4,h5⟩:=ih (p+1) hlt oM
   refine⟨e,oM,h2,fun q d g1 g2 g3=>?_,h5⟩
   rcases Nat.eq_or_lt_of_le g1 with heq|hgt
   ·subst heq;rw[hx]at g3;simp only[Gx]at g3;rw[←g3];exact h3
   ·exact h4 q d hgt g2 g3
theorem Inv.Tw(h:Inv D K B L N l st ν0 listed a w p e ν K')(hd:Ab P N ops an l)(hw:Way F l st)(hF:Ei P F)(hBr:Sj P B)(Vk:VP F)(hcl:Closed ops listed)(hend:(st l.length).2.1.length≤L)
  {q:Nat}{d:GQ}(hq:l[q]?=some d) (hk:d.kind=3) (hnl:¬Zi listed d.no) (hls:d.no<listed.size) {o:Oper} (ho:ops[d.no]?=some o) (hed:∀i∈Qj o,Zi listed i) {Q:Exit→Act→World→Prop}:
  wpOpIn (Fr rd) dp P ops Q d.no (fun a' w'=>∃p' e' ν' K2,Inv D K B L N l st ν0 (listed.setIfInBounds d.no true) a' w' p' e' ν' K2) a w:=by
 have hql:q<l.length:=(Ni.1 hq).1
 have hpq:p≤q:=Nat.le_of_not_lt fun hlt=>hnl (h.GaP q d hq hlt)
 have heq:e=q:=by
  rcases Nat.lt_trichotomy e q with hlt|heq|hgt
  ·have hle:l[e]?=some (l[e]'oM):=J9 oM
   have hk3:=h.GeH _ hle
   exact absurd (Q_ hd hcl d.no o ho hed _ (hd.chain q e d _ hq hle hk3 hlt (.inl hk))) (h.later e _ (Nat.le_refl _) hle hk3)
  ·exact heq
  ·exact absurd hk (h.steady q d hpq hgt hq)
 subst heq
 have hreads:=h.reads hd hw hcl hq ho hed hnl
 obtain⟨o',ho',hcs⟩:=hd.stmt e d hq
 rw[ho]at ho'
 simp only[Gx]at ho'
 subst ho'
 obtain⟨g,op,hg,hop,hdN,hs⟩:=Q9 hcs
 have hdst:d.s.dst=o.dst:=by rw[hs]
 have hgd:d.s.guard=g:=by rw[hs]
 have GdI:d.s.op=op:=by rw[hs]
 have Gh7:∀t,d.s.dst=some t→t<N:=fun t ht=>hdN t (by rw[←hdst];exact ht)
 have hstep:=hw.step e d hq
 unfold VX at hstep
 have hwant:Region.wanted o (yielded ops a.tmps)=wanted d.s.guard (st e).1:=by
  rw[hgd]
  refine Lf rfl hg fun t b hgt=>hreads t ?_
  unfold GZ.reads
  rw[hgd,hgt]
  simp
 unfold wpOpIn
 simp only[ho]
 rw[hwant]
 have hset:=YT hls
 have WU:∀{r:Nat},Mk l st (listed.setIfInBounds d.no true) r↔Mk l st listed r:=by
  intro r
  constructor
  ·rintro ⟨c,h1,h2,h3,h4⟩
   rcases(hset c.no).1 h2 with h5|h5
   ·have:=hd.inj r e c d h1 hq h5
    subst this
    rw[hq]at h1
    simp only[Gx]at h1
    subst h1
    exact absurd hk h3
   ·exact⟨c,h1,h5,h3,h4⟩
  ·rintro ⟨c,h1,h2,h3,h4⟩
   exact⟨c,h1,(hset c.no).2 (.inr h2),h3,h4⟩
 obtain⟨e',he1,he2,he3,he4⟩:=Fw l (e+1) hql
 have hlen1:=hw.JK Vk (show e≤e+1 by omega) hql
 have Gs6:=hw.JK Vk he1 he2
 have hlen3:=hw.JK Vk he2 (Nat.le_refl _)
 have Gk0:=hw.JK Vk hpq h.en
 have GrC:=hw.JK Vk (Nat.zero_le e) h.en
 obtain⟨bs,hbs⟩:=hw.grows he1 he2 he3
 have GjB:∀{r:Nat},Mk l st listed r→r≠e:=fun{r} hm he=>by subst he;exact hnl (hm.up hq)
 have hfree:∀b,(st e).2.1.length≤b→b<(st (e+1)).2.1.length→ν b=none:=by
  intro b h1 h2
  cases hb:ν b with
  |none=>rfl
  |some mm=>
   rcases h.dom b mm hb with g1|⟨r,g1,g2,g3⟩|g1
   ·omega
   ·have hrl:=g2.lt
    rcases Nat.lt_trichotomy r e with g4|g4|g4
    ·have:=Way.apart hw Vk g2 h.en g4;omega
    ·exact absurd g4 (GjB g2)
    ·have:=hw.JK Vk (show e+1≤r from g4) oM;omega
   ·omega
 have finish:∀(v:CV)(v':Value)(w':World)(ν':Mu),(st (e+1)).1=(st e).1.put d.s.dst v→JZ K' B ν' (st (e+1)).2.1 w'→V ν' v v'→(∀b,b<(st e).2.1.length→ν' b=ν b)→(∀b,(st (e+1)).2.1.length≤b→ν' b=ν b)→
   ∃p' e' ν' K2,Inv D K B L N l st ν0 (listed.setIfInBounds d.no true) (a.put d.s.dst v') w' p' e' ν' K2:=by
  intro v v' w' ν' hst hS hv hlow Ghn
  have hmono:∀b mm,ν b=some mm→ν' b=some mm:=by
   intro b mm hb
   rcases QU b (st e).2.1.length with g1|g1
   ·rw[hlow b g1];exact hb
   ·rcases QU b (st (e+1)).2.1.length with g2|g2
    ·rw[hfree b g1 g2]at hb;cases hb
    ·rw[Ghn b g2];exact hb
  obtain⟨w1,w2⟩:=h.BA hd hq hls Gh7 hmono hv hst
  have beyond:∀b mm,(st (e+1)).2.1.length≤b→b<L→ν' b=some mm→∃r,e+1≤r∧Mk l st listed r∧b=(st r).2.1.length∧ν b=some mm:=by
   intro b mm g1 g2 hb
   rw[Ghn b g1]at hb
   rcases h.dom b mm hb with g3|⟨r,g3,g4,g5⟩|g3
   ·omega
   ·refine⟨r,?_,g4,g5,hb⟩
    rcases Nat.lt_trichotomy r e with g6|g6|g6
    ·have:=Way.apart hw Vk g4 h.en g6;omega
    ·exact absurd g6 (GjB g4)
    ·exact g6
   ·omega
  classical
  let K2:Nat→Option Obj:=fun c=>if∃r mm,e+1≤r∧r<e'∧Mk l st listed r∧ν (st r).2.1.length=some mm∧mm.c=c then none else K' c
  have hK2:∀c x,K2 c=some x→K' c=some x:=by
   intro c x hx
   simp only[K2]at hx
   split at hx
   ·cases hx
   ·exact hx
  have hS2:JZ K2 B ν' ((st (e+1)).2.1++bs) w':=by
   refine hS.join (fun _ _=>rfl) (fun _ _ h=>h) (fun b blk mm g1 g2 g3=>?_) (fun b1 b2 m1 m2 g1 g2 g3 g4 g5 g6 g7=>?_) hK2 (fun b mm g1 g2 g3=>?_)
   ·have hbl:b<((st (e+1)).2.1++bs).length:=(Ni.1 g2).1
    rw[←hbs]at hbl
    obtain⟨r,f1,f2,f3,f4⟩:=beyond b mm g1 oM g3
    obtain⟨m3,Gg3,xo,c1,c2,c3,c7,c8,c9⟩:=h.extra r oM f2
    rw[←f3]at c1 c2
    rw[f4]at c1
    simp only[Gx]at c1
    subst c1
    have hre:r<e':=by
     refine Nat.lt_of_not_le fun hle=>?_
     have:=hw.JK Vk hle (Nat.le_of_lt f2.lt)
     omega
    obtain⟨bs',GoV⟩:=hw.grows (show r+1≤e' from hre) he2 (fun q c h1 h2 h3=>he3 q c oM h2 h3)
    have hb2:b<(st (r+1)).2.1.length:=(Ni.1 c2).1
    have:blk=Gg3:=by
     rw[←hbs,GoV,QN hb2,c2]at g2
     simpa using g2.symm
    subst this
    exact⟨xo,c3.mono hmono,c7,c9⟩
   ·rw[←hbs]at g3 g4
    obtain⟨r1,f1,f2,f3,f4⟩:=beyond b1 m1 g1 oM g6
    obtain⟨r2,k1,k2,k3,k4⟩:=beyond b2 m2 g2 oM g7
    refine h.apart r1 r2 m1 m2 oM oM (fun he=>g5 (by rw[f3,k3,he])) f2 k2 (by rw[←f3];exact f4) (by rw[←k3];exact k4)
   ·rw[←hbs]at g2
    obtain⟨r,f1,f2,f3,f4⟩:=beyond b mm g1 oM g3
    have hre:r<e':=by
     refine Nat.lt_of_not_le fun hle=>?_
     have:=hw.JK Vk hle (Nat.le_of_lt f2.lt)
     omega
    simp only[K2]
    rw[if_pos ⟨r,mm,f1,hre,f2,by rw[←f3];exact f4,rfl⟩]
  rw[←hbs]at hS2
  have Gpp:∀{r:Nat}{mm:Zz},e'≤r→Mk l st listed r→ν (st r).2.1.length=some mm→K2 mm.c=K' mm.c:=by
   intro r mm hge hmk hm'
   simp only[K2]
   rw[if_neg]
   rintro ⟨r2,m2,f1,f2,f3,f4,f5⟩
   exact h.apart r2 r m2 mm oM oM oM f3 hmk f4 hm' f5
  refine⟨e+1,e',ν',K2,he1,he2,fun r c hr hlt=>(hset c.no).2 ?_,he3,he4,fun r c hge hr hk3 hl=>?_,hS2,fun c x hx=>?_,fun c x hx=>?_,fun r hge hm=>?_,fun r r' m1 m2 a1 a2 a3 a4 a5 a6 a7=>?_,fun b mm hb=>?_,fun b hb=>?_,fun b hb=>?_,?_,?_,w1,w2⟩
  ·rcases QU r e with h1|h1
   ·by_cases hck:c.kind=3
    ·exact .inr (Q_ hd hcl d.no o ho hed _ (hd.chain e r d c hq hr hck h1 (.inl hk)))
    ·exact .inr (Q_ hd hcl d.no o ho hed _ (hd.before e r d c hq hr hk hck h1))
   ·have:r=e:=by omega
    subst this
    rw[hq]at hr
    simp only[Gx]at hr
    subst hr
    exact .inl rfl
  ·rcases(hset c.no).1 hl with h1|h1
   ·have:=hd.inj r e c d hr hq h1
    omega
   ·exact h.later r c oM hr hk3 h1
  ·have h1:=h.keeps c x hx
   simp only[K2]
   rw[if_neg]
   ·exact h1
   ·rintro ⟨r2,m2,f1,f2,f3,f4,f5⟩
    obtain⟨m3,Gg3,xo,c1,_,_,_,c8,_⟩:=h.extra r2 oM f3
    rw[f4]at c1
    simp only[Gx]at c1
    subst c1
    rw[f5,hx]at c8
    cases c8
  ·rcases h.only c x (hK2 c x hx)with h1|⟨r,mm,h1,h2,h3,h4⟩
   ·exact .inl h1
   ·refine .inr ⟨r,mm,?_,WU.2 h2,hmono _ _ h3,h4⟩
    refine Nat.le_of_not_lt fun hlt=>?_
    have hre:e+1≤r:=by
     have:=GjB h2
     omega
    have:K2 c=none:=by simp only[K2];rw[if_pos ⟨r,mm,hre,hlt,h2,h3,h4⟩]
    rw[this]at hx
    cases hx
  ·have hm':=WU.1 hm
   obtain⟨m3,Gg3,xo,c1,c2,c3,c7,c8,c9⟩:=h.extra r oM hm'
   exact⟨m3,Gg3,xo,hmono _ _ c1,c2,c3.mono hmono,by rw[Gpp hge hm' c1];exact c7,c8,c9⟩
  ·have g1:=hw.JK Vk a1 (Nat.le_of_lt a4.lt)
   have g2:=hw.JK Vk a2 (Nat.le_of_lt a5.lt)
   rw[Ghn _ oM]at a6 a7
   exact h.apart r r' m1 m2 oM oM a3 (WU.1 a4) (WU.1 a5) a6 a7
  ·rcases QU b (st (e+1)).2.1.length with g1|g1
   ·exact .inl g1
   ·rcases QU b L with g2|g2
    ·obtain⟨r,f1,f2,f3,_⟩:=beyond b mm g1 g2 hb
     exact .inr (.inl ⟨r,f1,WU.2 f2,f3⟩)
    ·exact .inr (.inr g2)
  ·rw[hlow b oM];exact h.low b hb
  ·rw[Ghn b oM];exact h.far b hb
  ·cases hdd:d.s.dst<;>exact h.defers
  ·cases hdd:d.s.dst with
   |none=>exact h.size
   |some t=>simp only[Act.put,GhB];exact h.size
 cases hwd:wanted d.s.guard (st e).1 with
 |false=>
  rw[if_pos hwd]at hstep
  simp only[Gx]at hstep
  simp only[Bool.false_eq_true,if_false]
  rw[←hdst]
  refine⟨fun _ _=>trivial,?_⟩
  refine finish .undef undef w ν (by rw[←hstep]) ?_ (Gbn ν) (fun _ _=>rfl) (fun _ _=>rfl)
  have:(st (e+1)).2.1=(st e).2.1:=by rw[←hstep]
  rw[this]
  exact h.Nh
 |true=>
  rw[if_neg (by rw[hwd];simp),if_pos hk,GR]at hstep
  obtain⟨r,hrr,hstep⟩:=hstep
  simp only[if_true]
  have hr2:(st (e+1)).2.1=r.2:=by rw[←hstep]
  rw[GdI]at hrr
  have hE:∀t∈op.tmps,V ν ((st e).1 t) (a.tmps.getD t undef):=fun t ht=>hreads t (by unfold GZ.reads;rw[GdI];simp[ht])
  have hSt:St K' B (st (e+1)).2.1.length ν (st e).2.1 w:=⟨h.Nh,hfree⟩
  refine(GaM hF hBr hSt hop hE hrr (by rw[hr2];exact Nat.le_refl _) _ _ fun v' w' ν' hS' hV' Ou=>?_)
  rw[←hdst]
  refine finish r.1 v' w' ν' (by rw[←hstep]) (by rw[hr2];exact hS'.Nh) hV' Ou.same Ou.far
end
def UL(n:Nat)(listed:Array Bool):Nat:=((List.range n).filter fun i=>!listed.getD i false).length
theorem Rc{n:Nat}{listed:Array Bool}{j:Nat}(hs:listed.size=n)(hj:j<n)(hn:¬Zi listed j):UL n (listed.setIfInBounds j true)<UL n listed:=by
 unfold UL
 have hset:=YT (listed:=listed) (j:=j) oM
 have key:∀(l:List Nat),l.Nodup→j∈l→(l.filter fun i=>!(listed.setIfInBounds j true).getD i false).length<(l.filter fun i=>!listed.getD i false).length∧True:=by
  intro l hnd hm
  have e:(l.filter fun i=>!(listed.setIfInBounds j true).getD i false)=(l.filter fun i=>!listed.getD i false).filter fun i=>i≠j:=by
   rw[List.filter_filter]
   refine List.filter_congr fun i _=>?_
   have:=hset i
   unfold Zi at this
   by_cases hi:i=j
   ·subst hi;simp[this.2 (.inl rfl)]
   ·cases hb:listed.getD i false with
    |true=>simp[this.2 (.inr hb)]
    |false=>
     have:(listed.setIfInBounds j true).getD i false=false:=by
      cases hc:(listed.setIfInBounds j true).getD i false with
      |false=>rfl
      |true=>rcases this.1 hc with h|h;exact absurd h hi;rw[hb]at h;cases h
     simp[this,hi]
  rw[e]
  refine⟨?_,trivial⟩
  have hmem:j∈l.filter fun i=>!listed.getD i false:=by
   rw[List.mem_filter]
   refine⟨hm,?_⟩
   unfold Zi at hn
   simpa using hn
  exact List.length_filter_lt_length_iff_exists.2 ⟨j,hmem,sM⟩
 exact(key _ List.nodup_range (List.mem_range.2 hj)).1
theorem OH{n:Nat}{listed:Array Bool}(h:UL n listed=0){i:Nat}(hi:i<n):Zi listed i:=by
 unfold UL at h
 rw[List.length_eq_zero_iff,List.filter_eq_nil_iff]at h
 have:=h i (List.mem_range.2 hi)
 unfold Zi
 simpa using this
theorem Ti(n i:Nat):¬Zi (Array.replicate n false) i:=by
 intro hi
 unfold Zi at hi
 rw[Array.getD_eq_getD_getElem?,Array.getElem?_replicate]at hi
 split at hi<;>cases hi
section
variable {ops : Array Oper} {an : List (List Nat)} {l : List GQ} {st : Nat → DSt} {ν0 : Mu} {F : Jp}
theorem Inv.done{listed:Array Bool}{a:Act}{w:World}{p e:Nat}{ν:Mu}{K':Nat→Option Obj}(h:Inv D K B L N l st ν0 listed a w p e ν K')(hd:Ab P N ops an l)(hw:Way F l st)(Vk:VP F)(hend:(st l.length).2.1.length≤L)(htop:∀t,N≤t→(st 0).1 t=.undef)
  (hall:∀i,i<ops.size→Zi listed i):∃ν',St K B L ν' (st l.length).2.1 w∧ER D ν' N (st l.length).1 a∧Ext L (st 0).2.1 ν0 (st l.length).2.1 ν':=by
 have hno:∀{q:Nat}{d:GQ},l[q]?=some d→Zi listed d.no:=by
  intro q d hq
  obtain⟨o,ho,_⟩:=hd.stmt q d hq
  exact hall _ (N7.1 ho).1
 have he:e=l.length:=by
  refine Nat.le_antisymm h.en (Nat.le_of_not_lt fun hlt=>?_)
  have hx:l[e]?=some (l[e]'hlt):=J9 hlt
  exact h.later e _ (Nat.le_refl _) hx (h.GeH _ hx) (hno hx)
 subst he
 have hK:K'=K:=by
  funext c
  cases hk:K' c with
  |none=>
   cases hk2:K c with
   |none=>rfl
   |some x=>rw[h.keeps c x hk2]at hk;cases hk
  |some x=>
   rcases h.only c x hk with h1|⟨r,m,h1,h2,_⟩
   ·exact h1.symm
   ·have:=h2.lt;omega
 have GgK:=h.Nh
 rw[hK]at GgK
 have hpl:=hw.JK Vk h.pe (Nat.le_refl _)
 refine⟨ν,⟨GgK,fun b h1 h2=>?_⟩,⟨h.defers,h.size,fun t=>?_,fun t ht=>by
  rw[hw.L_ (Nat.le_refl _) fun r c hrc hc=>?_]
  ·exact htop t ht
  ·obtain⟨o,_,ho⟩:=hd.stmt r c hrc
   obtain⟨g,op,_,_,hdl,he⟩:=Q9 ho
   rw[he]at hc
   exact absurd (hdl t hc) (Nat.not_lt.2 ht)⟩,⟨hw.JK Vk (Nat.zero_le _) (Nat.le_refl _),h.low,h.far⟩⟩
 ·cases hb:ν b with
  |none=>rfl
  |some m=>
   rcases h.dom b m hb with g|⟨r,g1,g2,g3⟩|g
   ·omega
   ·have:=Way.apart hw Vk g2 (Nat.le_refl _) g2.lt;omega
   ·omega
 ·by_cases hx:∃(r:Nat)(c:GQ),l[r]?=some c∧c.s.dst=some t
  ·obtain⟨r,c,hrc,hc⟩:=hx
   rw[hw.Tk hd.dst hrc hc (Ni.1 hrc).1 (Nat.le_refl _)]
   exact h.wrote r c t hrc (hno hrc) hc
  ·rw[hw.L_ (Nat.le_refl _) fun r c hrc hc=>hx ⟨r,c,hrc,hc⟩]
   exact h.Ip t fun r c hrc hc=>absurd ⟨r,c,hrc,hc⟩ hx
theorem Ghp(hd:Ab P N ops an l)(hw:Way F l st)(hF:Ei P F)(hBr:Sj P B)(Vk:VP F)(h0:(st 0).2.2=[])(hend:(st l.length).2.1.length≤L)(htop:∀t,N≤t→(st 0).1 t=.undef){Q:Exit→Act→World→Prop}
  (hQ:∀a w,(∃ν',St K B L ν' (st l.length).2.1 w∧ER D ν' N (st l.length).1 a∧Ext L (st 0).2.1 ν0 (st l.length).2.1 ν')→Q .normal a w):
  ∀(fuel:Nat)(listed:Array Bool)(a:Act)(w:World),listed.size=ops.size→Closed ops listed→UL ops.size listed≤fuel→(∃p e ν K',Inv D K B L N l st ν0 listed a w p e ν K')→
  wpAnyIn (Fr rd) dp P .any ops Q fuel listed a w:=by
 intro fuel
 induction fuel with
 |zero=>
  intro listed a w hs hcl hu ⟨p,e,ν,K',h⟩
  have hall:∀i,i<ops.size→Zi listed i:=fun i hi=>OH oM hi
  refine⟨?_,hQ _ _ (h.done hd hw Vk hend htop hall)⟩
  rw[List.eq_nil_iff_forall_not_mem]
  intro j hj
  obtain⟨h1,o,ho,_⟩:=mem_ready.1 hj
  have hlt:=(N7.1 ho).1
  have:=hall j hlt
  unfold Zi at this
  rw[Array.getD_eq_getD_getElem?,O1 oM]at h1 this
  simp at h1 this
  rw[h1]at this
  cases this
 |succ fuel ih=>
  intro listed a w hs hcl hu ⟨p,e,ν,K',h⟩
  have edges:∀(o:Oper),(∀e∈o.after,Region.binds .any e=true→listed.getD e.on false=true)↔∀i∈Qj o,Zi listed i:=by
   intro o
   unfold Qj Zi
   simp only[YX,List.mem_filter,Array.mem_toList_iff]
   constructor
   ·rintro hx i ⟨e,⟨he,hb⟩,rfl⟩;exact hx e he hb
   ·intro hx e he hb;exact hx e.on ⟨e,⟨he,hb⟩,rfl⟩
  refine⟨fun hr=>hQ _ _ (h.done hd hw Vk hend htop fun i=>?_),fun j hj=>?_⟩
  ·induction i using Nat.strongRecOn with
   |_ i ihi=>
    intro hi
    have hx:ops[i]?=some (ops[i]'hi):=O1 hi
    by_cases Ggo:Zi listed i
    ·exact Ggo
    ·have:i∈Region.ready .any ops listed:=by
      refine mem_ready.2 ⟨?_,_,hx,?_⟩
      ·unfold Zi at Ggo
       rw[Array.getD_eq_getD_getElem?,O1 oM]at Ggo⊢
       simpa using Ggo
      ·exact(edges _).2 fun e he=>ihi e (hd.edges i _ hx e he) (by have:=hd.edges i _ hx e he;omega)
     rw[hr]at this
     cases this
  ·obtain⟨h1,o,ho,h2⟩:=mem_ready.1 hj
   have hlt:=(N7.1 ho).1
   have hnl:¬Zi listed j:=by
    unfold Zi
    rw[Array.getD_eq_getD_getElem?,O1 oM]at h1⊢
    simpa using h1
   have hed:=(edges o).1 h2
   obtain⟨q,d,hq,hdj⟩:=hd.all j hlt
   subst hdj
   have hcl':Closed ops (listed.setIfInBounds d.no true):=by
    intro i o' ho' hi e he
    have hset:=YT (listed:=listed) (j:=d.no) oM
    rcases(hset i).1 hi with h3|h3
    ·subst h3
     rw[ho]at ho'
     simp only[Gx]at ho'
     subst ho'
     exact(hset e).2 (.inr (hed e he))
    ·exact(hset e).2 (.inr (hcl i o' ho' h3 e he))
   have hu':=Rc hs hlt hnl
   have hgo:∀a' w',(∃p e ν K',Inv D K B L N l st ν0 (listed.setIfInBounds d.no true) a' w' p e ν K')→wpAnyIn (Fr rd) dp P .any ops Q fuel (listed.setIfInBounds d.no true) a' w':=
    fun a' w' hI=>ih _ a' w' (by simpa using hs) hcl' oM hI
   by_cases hk:d.kind=3
   ·exact wpOpIn_mono hgo (h.Tw hd hw hF hBr Vk hcl hend hq hk hnl oM ho hed)
   ·refine wpOpIn_mono (fun a' w' hI=>hgo a' w' ?_) (h.SK hBr.glob hd hw Vk hcl h0 hend hq hk hnl oM ho hed)
    obtain⟨ν',K2,hI⟩:=hI
    exact⟨p,e,ν',K2,hI⟩
end
theorem TG(hm:P.follows .mixedOrders=true)(hF:Ei P F)(hBr:Sj P B)(Vk:VP F){id:Nat}{ops:Array Oper}{ss:List GZ}(hc:J3 (ops.toList.map (Na P N ops))=some ss){l:List GQ}(hl:∃ks,l=O_ ss (Lg ops.toList) ks)
  (hok:dOk ops.toList ss (Lg ops.toList) l=true)
  {E:Env}{H:Gb}{ν:Mu}{a:Act}{w:World}{r:Env×Gb}(he:AL F l E H []=some r)(hL:r.2.length≤L)(hS:St K B L ν H w)(hR:ER D ν N E a):
  (Code.region id ops true).wpIn (Fr rd) dp P (fun x a' w'=>∃ν',x=.normal∧St K B L ν' r.2 w'∧ER D ν' N r.1 a'∧Ext L H ν r.2 ν') a w:=by
 have hd:=Gjv hc hl hok
 obtain⟨st,h0,h1,h2,hw⟩:=Gby he
 have hH0:(st 0).2.1=H:=by rw[h0]
 have hE0:(st 0).1=E:=by rw[h0]
 have hend:(st l.length).2.1.length≤L:=by rw[h2];exact hL
 obtain⟨e,he1,he2,he3,he4⟩:=Fw l 0 (Nat.zero_le _)
 refine wpIn_region_any hm (Ghp (D:=D) (K:=K) (B:=B) (ν0:=ν) hd hw hF hBr Vk (by rw[h0]) hend (by rw[hE0];exact hR.top) (fun a' w' hq=>?_) ops.size _ a _ sM (fun j o ho hj e he=>?_) ?_ ⟨0,e,ν,K,?_⟩)
 ·obtain⟨ν',g1,g2,g3⟩:=hq
  rw[h2]at g1 g3
  rw[h1]at g2
  rw[hH0]at g3
  exact⟨ν',rfl,g1,g2,g3⟩
 ·exact(Ti _ _ hj).elim
 ·unfold UL
  exact Jr (List.length_filter_le _ _) sM
 ·have nl:∀i,¬Zi (Array.replicate ops.size false) i:=Ti _
  have nmk:∀q,¬Mk l st (Array.replicate ops.size false) q:=fun q ⟨d,_,h2,_⟩=>nl _ h2
  obtain⟨bs,hbs⟩:=hw.grows he1 he2 he3
  have hlen:=hw.JK Vk he2 (Nat.le_refl _)
  have hS0:=hS.Nh.same (w':={w with drawn:=w.drawn+1}) rfl rfl rfl rfl
  have Ii:∀b m,H.length≤b→b<((st 0).2.1++bs).length→ν b=some m→False:=by
   intro b m g1 g2 g3
   rw[←hbs]at g2
   rw[hS.dom b g1 oM]at g3
   cases g3
  have hS2:JZ K B ν ((st 0).2.1++bs) {w with drawn:=w.drawn+1}:=by
   rw[hH0]
   rw[hH0]at Ii
   exact hS0.join (fun _ _=>rfl) (fun _ _ h=>h) (fun b blk m g1 g2 g3=>(Ii b m g1 (Ni.1 g2).1 g3).elim) (fun b1 b2 m1 m2 g1 _ g3 _ _ g6 _=>(Ii b1 m1 g1 g3 g6).elim) (fun _ _ h=>h)
    (fun b m g1 g2 g3=>(Ii b m g1 g2 g3).elim)
  rw[←hbs]at hS2
  refine⟨Nat.zero_le _,he2,fun q d hq hlt=>by omega,fun q d g1 g2 g3=>he3 q d g1 g2 g3,he4,fun q d _ _ _ h=>nl _ h,hS2,fun _ _ h=>h,fun c o h=>.inl h,fun q _ hm=>(nmk q hm).elim,fun q q' m m' _ _ _ hm=>(nmk q hm).elim,fun b m hb=>?_,
   fun _ _=>rfl,fun _ _=>rfl,hR.defers,hR.size,fun q d t _ hl=>(nl _ hl).elim,fun t _=>by rw[hE0];exact hR.val t⟩
  rw[hH0]
  rcases QU b H.length with g|g
  ·exact .inl g
  ·rcases QU b L with g2|g2
   ·rw[hS.dom b g g2]at hb;cases hb
   ·exact .inr (.inr g2)
end
end Go.Cs
namespace Go.Cs
open Go Go.RowKit
def XR:CX→Exit→Prop
 |.normal,x=>x=.normal
 |.exit id,x=>x=.exit id
 |.ret,x=>x=.ret
def Marks(K:Nat→Option Obj)(B:Bs)(K':Nat→Option Obj)(D:List Deferred):Prop:=
 ∃rs:List Nat,D=rs.map (fun r=>{target:=.collected r,args:=#[]})∧rs.Nodup∧∀r∈rs,K' r=some (.deferred (some []))∧K r=none∧B.heap.size≤r
def Pd(K K':Nat→Option Obj):Prop:=∀c o,K c=some o→K' c=some o
def CQ(top:Bool)(D0:List Deferred)(K0:Nat→Option Obj)(B:Bs)(L N:Nat)(H:Gb)(ν:Mu)(r:CX×Env×Gb):Exit→Act→World→Prop:=
 fun x a w=>∃ν' K D,XR r.1 x∧St K B L ν' r.2.2 w∧ER D ν' N r.2.1 a∧Ext L H ν r.2.2 ν'∧Pd K0 K∧Marks K0 B K D∧(top=false→D=D0)
section
variable {P : Program} {F : Jp} {K K0 : Nat → Option Obj} {B : Bs} {L N : Nat} {rd : Option Nat} {dp : Nat} {D D0 : List Deferred} {top : Bool}
theorem CQ.later{H H1:Gb}{ν ν1:Mu}{r:CX×Env×Gb}(h:Ext L H ν H1 ν1){x:Exit}{a:Act}{w:World}(hq:CQ top D0 K B L N H1 ν1 r x a w):CQ top D0 K B L N H ν r x a w:=by
 obtain⟨ν',K',D,h1,h2,h3,h4,h5⟩:=hq
 exact⟨ν',K',D,h1,h2,h3,h.trans h4,h5⟩
theorem Gbh(hF:Ei P F)(hBr:Sj P B)(Vk:VP F)(hK:Pd K0 K)(hM:Marks K0 B K D)(hD:top=false→D=D0){ops:Array Oper}:∀(l:List Nat)(ss:List GZ),ss.length=l.length→(∀(q:Nat)(i:Nat)(s:GZ),l[q]?=some i→ss[q]?=some s→∃o,ops[i]?=some o∧Na P N ops o=some s)→
  ∀(E:Env)(H:Gb)(ν:Mu)(a:Act)(w:World)(r:Env×Gb),K4 F ss E H=some r→r.2.length≤L→St K B L ν H w→ER D ν N E a→
  wpOpsIn (Fr rd) dp P ops (CQ top D0 K0 B L N H ν (.normal,r.1,r.2)) l a w
 |[],[],_,_,E,H,ν,a,w,r,he,_,hS,hR=>by
  simp only[K4,Gx]at he
  subst he
  exact⟨ν,K,D,rfl,hS,hR,Ext.refl _ _ _,hK,hM,hD⟩
 |i::l,s::ss,hl,hs,E,H,ν,a,w,r,he,hL,hS,hR=>by
  obtain⟨o,ho,hc⟩:=hs 0 i s rfl rfl
  have ih:=Gbh hF hBr Vk hK hM hD (ops:=ops) l ss (by simpa using hl) (fun q j t h1 h2=>hs (q+1) j t (by simpa using h1) (by simpa using h2))
  simp only[K4,Jt]at he
  obtain⟨⟨E1,H1⟩,he1,he2⟩:=he
  obtain⟨g,op,hg,hop,hd,rfl⟩:=Q9 hc
  rw[wpOpsIn_cons]
  unfold wpOpIn
  simp only[ho]
  rw[IU hg hR]
  unfold QE at he1
  dsimp only at he1
  split at he1
  ·rename_i hw
   rw[if_pos hw]
   rw[GR]at he1
   obtain⟨v,hv,he1⟩:=he1
   simp only[Prod.mk.injEq]at he1
   obtain⟨rfl,rfl⟩:=he1
   refine GaM hF hBr hS hop (fun t _=>hR.val t) hv (Jr (UG Vk he2) hL) _ _ fun v' w' ν' hS' hV' hx'=>?_
   have hm:=hx'.mono hS
   refine MS ?_ _ _ _ (ih _ _ ν' _ w' r he2 hL hS' ((hR.mono hm).put hd hV'))
   exact fun x a w hq=>CQ.later hx' hq
  ·rename_i hw
   rw[if_neg hw]
   simp only[Gx,Prod.mk.injEq]at he1
   obtain⟨rfl,rfl⟩:=he1
   exact⟨fun _ _=>trivial,ih _ _ ν _ w r he2 hL hS (hR.put hd (by simp[V,VL,undef]))⟩
 |[],_::_,hl,_,_,_,_,_,_,_,_,_,_,_=>by simp at hl
 |_::_,[],hl,_,_,_,_,_,_,_,_,_,_,_=>by simp at hl
theorem Ga4(hF:Ei P F)(hBr:Sj P B)(Vk:VP F)(hK:Pd K0 K)(hM:Marks K0 B K D)(hD:top=false→D=D0){id:Nat}{ops:Array Oper}{ss:List GZ}(hc:J3 (ops.toList.map (Na P N ops))=some ss){E:Env}{H:Gb}{ν:Mu}{a:Act}{w:World}{r:Env×Gb}(he:K4 F ss E H=some r)(hL:r.2.length≤L)
  (hS:St K B L ν H w)(hR:ER D ν N E a):(Code.region id ops false).wpIn (Fr rd) dp P (CQ top D0 K0 B L N H ν (.normal,r.1,r.2)) a w:=by
 refine wpIn_region (Gbh hF hBr Vk hK hM hD (List.range ops.size) ss (by simp[Kv hc]) (fun q i s h1 h2=>?_) E H ν a w r he hL hS hR)
 have hx:=KU hc h2
 rw[Ke,GR]at hx
 obtain⟨o,ho,hs⟩:=hx
 have hq:q<ops.size:=by have:=(Ni.1 h1).1;simpa using this
 rw[ZG hq]at h1
 simp only[Gx]at h1
 subst h1
 exact⟨o,by simpa using ho,hs⟩
theorem least{p:Nat→Prop}(h:∃n,p n):∃n,p n∧∀m,p m→n≤m:=by
 obtain⟨n,hn⟩:=h
 induction n using Nat.strongRecOn with
 |_ n ih=>
  by_cases hx:∃m,m<n∧p m
  ·obtain⟨m,hlt,hp⟩:=hx;exact ih m hlt hp
  ·exact⟨n,hn,fun m hm=>Nat.le_of_not_lt fun hlt=>hx ⟨m,hlt,hm⟩⟩
def Hl(P:Program)(f N:Nat)(c:Code)(k:Nat):Prop:=∀i x,(roundsIn c)[i]?=some x→k+i<16→∃fn,V5 P ((f*16+(k+i))*2)=some (f,fn,x)∧fn.ntmps=N
theorem Hl.left{f:Nat}{c x y:Code}{k:Nat}(h:Hl P f N c k)(e:roundsIn c=roundsIn x++roundsIn y):Hl P f N x k:=fun i q hi hk=>
 h i q (by rw[e,QN (Ni.1 hi).1];exact hi) hk
theorem Hl.right{f:Nat}{c x y:Code}{k:Nat}(h:Hl P f N c k)(e:roundsIn c=roundsIn x++roundsIn y):Hl P f N y (k+(roundsIn x).length):=fun i q hi hk=>by
 have:=h ((roundsIn x).length+i) q (by rw[e,M_ oM];simpa using hi) oM
 rw[←Nat.add_assoc k]at this
 exact this
theorem Pd.refl(K:Nat→Option Obj):Pd K K:=fun _ _ h=>h
theorem Pd.none{K1 K2:Nat→Option Obj}(h:Pd K1 K2){c:Nat}(e:K2 c=none):K1 c=none:=by
 cases hk:K1 c with
 |none=>rfl
 |some o=>rw[h c o hk]at e;cases e
theorem JZ.less{μ:Mu}{H:Gb}{w:World}(h:JZ K B μ H w)(hk:Pd K0 K):JZ K0 B μ H w:=
 ⟨h.base,fun c o e=>h.kept c o (hk c o e),fun b blk m h1 h2 h3 h4=>by
  obtain⟨arr,T,fz,e1,e2,e3,e4⟩:=h.blk b blk m h1 h2 h3 h4
  exact⟨arr,T,fz,e1,e2,fun e=>by obtain⟨c1,c2,c3,c4,c5,c6⟩:=e3 e;exact⟨c1,c2,c3,c4,c5,hk.none c6⟩,e4⟩,
  h.inj,fun b blk m h1 h2 h3=>by obtain⟨ob,e1,e2,e3,e4⟩:=h.mp b blk m h1 h2 h3;exact⟨ob,e1,e2,e3,hk.none e4⟩⟩
theorem St.enter{ν:Mu}{H:Gb}{w:World}(hS:St K B L ν H w)(hL:H.length<L){k:JI}(hk:k.mode=.map){r:Loop}(hr:∀ν',(∀b m,ν b=some m→ν' b=some m)→DI B ν' k r):
  ∃ν',St (fun c=>if c=w.heap.size then some (.deferred (some []))else K c) B L ν' (H++[k]) ((w.alloc (.deferred (some []))).alloc (.loop r))∧Ext L H ν (H++[k]) ν'∧ν' H.length=some ⟨w.heap.size+1,0,k.Jf,0⟩:=by
 have h1:=hS.Nh.alloc (.deferred (some []))
 have hsz:(w.alloc (.deferred (some []))).heap.size=w.heap.size+1:=World.size_alloc _ _
 have hmono:∀b m,ν b=some m→(ν.set H.length ⟨w.heap.size+1,0,k.Jf,0⟩) b=some m:=by
  intro b m hm
  have hb:b≠H.length:=fun e=>by rw[e,hS.dom _ (Nat.le_refl _) hL]at hm;cases hm
  rw[Mu.J4 _ _ hb];exact hm
 have h2:=h1.congr (ν:=ν.set H.length ⟨w.heap.size+1,0,k.Jf,0⟩) (fun b hb=>Mu.J4 _ _ oM) hmono
 have h3:=h2.newObj (e:=k.Jf) (z:=0) (by rw[hsz];exact Mu.set_self _ _ _) (by
  rw[hsz,if_neg oM]
  cases hk:K (w.heap.size+1)with
  |none=>rfl
  |some o=>have:=(N7.1 (hS.Nh.kept _ _ hk)).1;omega) hk (x:=.loop r) (.inr ⟨r,rfl,hr _ hmono⟩)
 exact⟨_,⟨h3,fun b hb hl=>by simp at hb;rw[Mu.J4 _ _ oM];exact hS.dom b oM hl⟩,⟨sM,fun b hb=>Mu.J4 _ _ oM,fun b hb=>Mu.J4 _ _ oM⟩,Mu.set_self _ _ _⟩
theorem JZ.shut{μ:Mu}{H:Gb}{w:World}(h:JZ K B μ H w){b:Nat}{k:JI}{m:Zz}(hb:H[b]?=some k) (hk:k.mode=.map) (hm:μ b=some m) (x:Obj):JZ K B μ (H.set b ⟨[],.dead,0⟩) (w.putObj m.c x):=by
 obtain⟨ob,hw,Vj,hB,hK⟩:=h.mp b k m hb hk hm
 have hlt:=(N7.1 hw).1
 have RG:∀{c:Nat},c≠m.c→(w.heap.setIfInBounds m.c x)[c]?=w.heap[c]?:=fun hc=>by simp[Ne.symm hc]
 have get:∀{b':Nat}{k':JI},(H.set b ⟨[],.dead,0⟩)[b']?=some k'→k'.mode≠.dead→b'≠b∧H[b']?=some k':=by
  intro b' k' hb' hd
  by_cases hbb:b'=b
  ·subst hbb
   rw[KI ((Ni.1 hb).1)]at hb'
   simp only[Gx]at hb'
   subst hb'
   exact absurd rfl hd
  ·rw[JU (Ne.symm hbb)]at hb'
   exact⟨hbb,hb'⟩
 refine⟨h.base.trans ⟨rfl,rfl,rfl,by simp[World.putObj],fun q hq=>RG oM⟩,fun c o hc=>?_,fun b' k' m' hb' hd hd' hm'=>?_,fun b1 b2 k1 k2 m1 m2 h1 h2 r1 r2 hne e1 e2=>?_,fun b' k' m' hb' hd hm'=>?_⟩
 ·have hne:c≠m.c:=fun e=>by rw[e,hK]at hc;cases hc
  exact(RG hne).trans (h.kept c o hc)
 ·obtain⟨hbb,hb'⟩:=get hb' hd
  obtain⟨arr,T,fz,e1,e2⟩:=h.blk b' k' m' hb' hd hd' hm'
  exact⟨arr,T,fz,(RG (Ne.symm (h.inj b b' k k' m m' hb hb' (.inr hk) hd (Ne.symm hbb) hm hm'))).trans e1,e2⟩
 ·obtain⟨g1,h1⟩:=get h1 (by rcases r1 with r1|r1<;>(rw[r1];decide))
  obtain⟨g2,h2⟩:=get h2 r2
  exact h.inj b1 b2 k1 k2 m1 m2 h1 h2 r1 r2 hne e1 e2
 ·obtain⟨hbb,hb'⟩:=get hb' (by rw[hd];decide)
  obtain⟨ob',e1,e2⟩:=h.mp b' k' m' hb' hd hm'
  exact⟨ob',(RG (Ne.symm (h.inj b b' k k' m m' hb hb' (.inr hk) (by rw[hd];decide) (Ne.symm hbb) hm hm'))).trans e1,e2⟩
theorem StR.leaves{s:Int}{r:Loop}(h:StR s r)(h1:s≠1):r.state≠.busy∧((s=0∧r.pending=none)∨(s=2∧r.pending=some .ret)∨∃id:Nat,s=id+3∧r.pending=some (.exit id)):=by
 rcases h with⟨e,h2,h3⟩|e|⟨e,h2,h3⟩|⟨id,e,h2,h3⟩
 ·exact⟨by rw[h2];simp,.inl ⟨e,h3⟩⟩
 ·exact absurd e h1
 ·exact⟨by rw[h2];simp,.inr (.inl ⟨e,h3⟩)⟩
 ·exact⟨by rw[h2];simp,.inr (.inr ⟨id,e,h3⟩)⟩
theorem Z7(hm:P.follows .mixedOrders=true)(hBr:Sj P B){f:Nat}{top:Bool}(htop:top=true→rd=none){D0:List Deferred}:∀(n:Nat),(∀k,k<n→Ei P (Kq (Kn P) k))→∀(c:Code)(k:Nat)(cc:Gu)(E:Env)(H:Gb)(r:CX×Env×Gb),Jw P f N top k c=some cc→(top=true→Hl P f N c k)→ev (Kn P) n cc E H=some r→r.2.2.length≤L→
  ∀(K:Nat→Option Obj)(D:List Deferred)(ν:Mu)(a:Act)(w:World),Pd K0 K→Marks K0 B K D→(top=false→D=D0)→St K B L ν H w→ER D ν N E a→c.wpIn (Fr rd) dp P (fun x a w=>∃ν' K' D',XR r.1 x∧St K' B L ν' r.2.2 w∧ER D' ν' N r.2.1 a∧Ext L H ν r.2.2 ν'∧Pd K0 K'∧Marks K0 B K' D'∧(top=false→D'=D0)) a w
 |0,_,_,_,_,_,_,_,_,_,he,_,_,_,_,_,_,_,_,_,_,_=>by cases he
 |n+1,hF,c,k,cc,E,H,r,hc,hrn,he,hL,K,D,ν,a,w,hK,hM,hD,hS,hR=>by
  have ih:=Z7 hm hBr (f:=f) htop (D0:=D0) n (fun k hk=>hF k oM)
  have hFn:=hF n oM
  rw[KM]at he
  cases c with
  |skip=>
   simp only[Jw,Gx]at hc;subst hc
   simp only[Gx]at he;subst he
   exact wpIn_skip ⟨ν,K,D,rfl,hS,hR,Ext.refl _ _ _,hK,hM,hD⟩
  |region id ops draw=>
   simp only[Jw,Jt]at hc
   obtain⟨ss,hss,hc⟩:=hc
   cases draw with
   |false=>
    simp only[Bool.false_eq_true,if_false,Gx]at hc;subst hc
    rw[GR]at he
    obtain⟨q,hq,rfl⟩:=he
    exact wpIn_mono (Ga4 hFn hBr (QV _ n) hK hM (fun h=>hD h) hss hq hL hS hR) fun x a w h=>h
   |true=>
    simp only[if_true]at hc
    obtain⟨hok,hc⟩:=G_ hc
    simp only[Gx]at hc;subst hc
    rw[GR]at he
    obtain⟨q,hq,rfl⟩:=he
    refine wpIn_mono (TG hm hFn hBr (QV _ n) hss ⟨_,rfl⟩ hok hq hL hS hR) fun x a w hq=>?_
    obtain⟨ν',rfl,h1,h2,h3⟩:=hq
    exact⟨ν',K,D,rfl,h1,h2,h3,hK,hM,hD⟩
  |seq x y=>
   simp only[Jw,Jt,GR]at hc
   obtain⟨x',hx,y',hy,rfl⟩:=hc
   rw[Jt]at he
   obtain⟨q,hq,he⟩:=he
   have hqL:q.2.2.length≤L:=by
    split at he
    ·exact Jr (Kg _ n he) hL
    ·simp only[Gx]at he;subst he;exact hL
   refine wpIn_seq (wpIn_mono (ih x k x' E H q hx (fun h=>(hrn h).left rfl) hq hqL K D ν a w hK hM hD hS hR) fun e a1 w1 h1=>?_)
   obtain⟨ν1,K1,D1,hx1,hS1,RN,hE1,hK1,hM1,hD1⟩:=h1
   obtain⟨cx,E1,H1⟩:=q
   cases cx with
   |normal=>
    simp only[XR]at hx1;subst hx1
    refine wpIn_mono (ih y _ y' E1 H1 r hy (fun h=>(hrn h).right rfl) he hL K1 D1 ν1 a1 w1 hK1 hM1 hD1 hS1 RN) fun e a2 w2 h2=>?_
    obtain⟨ν2,K2,D2,g1,g2,g3,g4,g5⟩:=h2
    exact⟨ν2,K2,D2,g1,g2,g3,hE1.trans g4,g5⟩
   |exit id=>
    simp only[Gx]at he;subst he
    simp only[XR]at hx1;subst hx1
    exact⟨ν1,K1,D1,rfl,hS1,RN,hE1,hK1,hM1,hD1⟩
   |ret=>
    simp only[Gx]at he;subst he
    simp only[XR]at hx1;subst hx1
    exact⟨ν1,K1,D1,rfl,hS1,RN,hE1,hK1,hM1,hD1⟩
  |cond c x y=>
   simp only[Jw,Jt,GR]at hc
   obtain⟨c',hcc,x',hx,y',hy,rfl⟩:=hc
   dsimp only at he
   split at he
   ·rename_i t ht
    have h1:=Jl hcc (fun t _=>hR.val t)
    rw[ht]at h1
    simp only[V]at h1
    refine wpIn_cond h1 ?_
    cases t with
    |true=>exact ih x _ x' E H r hx (fun h=>(hrn h).left rfl) he hL K D ν a w hK hM hD hS hR
    |false=>exact ih y _ y' E H r hy (fun h=>(hrn h).right rfl) he hL K D ν a w hK hM hD hS hR
   ·cases he
  |block id c=>
   simp only[Jw,GR]at hc
   obtain⟨c',hcc,rfl⟩:=hc
   rw[GR]at he
   obtain⟨q,hq,rfl⟩:=he
   refine wpIn_block (wpIn_mono (ih c _ c' E H q hcc (fun h=>hrn h) hq hL K D ν a w hK hM hD hS hR) fun e a1 w1 h1=>?_)
   obtain⟨ν1,K1,D1,hx1,hr1⟩:=h1
   obtain⟨cx,E1,H1⟩:=q
   cases cx with
   |normal=>simp only[XR]at hx1;subst hx1;exact⟨ν1,K1,D1,rfl,hr1⟩
   |exit id'=>
    simp only[XR]at hx1;subst hx1
    by_cases hid:id'=id
    ·simp only[Exit.inBlock,hid,if_true];exact⟨ν1,K1,D1,by simp[CX.inBlock,XR],hr1⟩
    ·simp only[Exit.inBlock,hid,if_false];exact⟨ν1,K1,D1,by simp[CX.inBlock,XR,hid],hr1⟩
   |ret=>simp only[XR]at hx1;subst hx1;exact⟨ν1,K1,D1,rfl,hr1⟩
  |loop c=>
   have hc0:=hc
   simp only[Jw,GR]at hc
   obtain⟨c',hcc,rfl⟩:=hc
   let J:Nat→Act→World→Prop:=fun m a w=>m≤n+1∧∃E H1 ν1 K1 D1,ev (Kn P) m (.loop c') E H1=some r∧St K1 B L ν1 H1 w∧ER D1 ν1 N E a∧Ext L H ν H1 ν1∧Pd K0 K1∧Marks K0 B K1 D1∧(top=false→D1=D0)
   classical
   refine wpIn_loop (fun a w=>∃m,J m a w) (fun a w=>if h:∃m,J m a w then(least h).choose else 0) ⟨n+1,Nat.le_refl _,E,H,ν,K,D,by rw[KM];exact he,hS,hR,Ext.refl _ _ _,hK,hM,hD⟩ fun a1 w1 hI=>?_
   rw[dif_pos hI]
   obtain⟨hle,E1,H1,ν1,K1,D1,hev,hS1,RN,hE1,hK1,hM1,hD1⟩:=(least hI).choose_spec.1
   generalize (least hI).choose=m at*
   cases m with
   |zero=>cases hev
   |succ m=>
    rw[KM]at hev
    dsimp only at hev
    rw[Jt]at hev
    obtain⟨q,hq,hev⟩:=hev
    have hq':=VR (Kn P) (show m≤n by omega) c' E1 H1 q hq
    have hqL:q.2.2.length≤L:=by
     split at hev
     ·exact Jr (Kg _ m hev) hL
     ·simp only[Gx]at hev;subst hev;exact hL
    refine wpIn_mono (ih c _ c' E1 H1 q hcc (fun h=>hrn h) hq' hqL K1 D1 ν1 a1 w1 hK1 hM1 hD1 hS1 RN) fun e a2 w2 h2=>?_
    obtain⟨ν2,K2,D2,hx2,hS2,hR2,hE2,hK2,hM2,hD2⟩:=h2
    obtain⟨cx,E2,H2⟩:=q
    cases cx with
    |normal=>
     simp only[XR]at hx2;subst hx2
     have hJ:J m a2 w2:=⟨oM,E2,H2,ν2,K2,D2,hev,hS2,hR2,hE1.trans hE2,hK2,hM2,hD2⟩
     refine⟨⟨m,hJ⟩,?_⟩
     rw[dif_pos ⟨m,hJ⟩]
     exact Nat.lt_succ_of_le ((least ⟨m,hJ⟩).choose_spec.2 m hJ)
    |exit id=>
     simp only[Gx]at hev;subst hev
     simp only[XR]at hx2;subst hx2
     exact⟨ν2,K2,D2,rfl,hS2,hR2,hE1.trans hE2,hK2,hM2,hD2⟩
    |ret=>
     simp only[Gx]at hev;subst hev
     simp only[XR]at hx2;subst hx2
     exact⟨ν2,K2,D2,rfl,hS2,hR2,hE1.trans hE2,hK2,hM2,hD2⟩
  |rangeFunc g ps x y=>
   simp only[Jw,Jt]at hc
   obtain⟨g',hg,hc⟩:=hc
   obtain⟨hgd,hc⟩:=G_ hc
   simp only[Gx]at hc;subst hc
   simp only[JQ,decide_eq_true_eq,List.all_eq_true]at hgd
   obtain⟨⟨ht,GvT⟩,hps⟩:=hgd
   have hrd:=htop ht
   subst hrd
   obtain⟨fn,hat,hnt⟩:=hrn ht 0 (ps,x,y) rfl oM
   simp only[Nat.add_zero]at hat
   have hrnd:TA P (OM f k) N f ps x y:=⟨by unfold OM;omega,hps,f,fn,hat,hnt⟩
   dsimp only at he
   rw[Jt]at he
   obtain⟨q,hq,he⟩:=he
   have hgv:=Jl hg (fun t _=>hR.val t)
   unfold Ny at hq
   split at hq
   case h_2=>cases hq
   rename_i gf caps hgc
   split at hq
   case isFalse=>cases hq
   rename_i hgf
   rw[hgc]at hgv
   simp only[V]at hgv
   obtain⟨lb,hge,hlb⟩:=hgv
   obtain⟨hl1,hl2⟩:=Yz he
   obtain⟨hq1,hq2,-⟩:=hFn _ _ _ _ hq
   obtain⟨⟨gfn,e1,e2,e3⟩,Gah⟩:=hq2 hgf
   simp only[Nq,List.length_singleton]at hq1
   have Gkb:((List.range N).map E).length=N:=by simp
   refine wpIn_rangeFunc fun f0 _=>?_
   obtain⟨ν1,hS1,hE1,hν1⟩:=hS.enter (k:=Jk 0 (ps.toList.map fun(t:Nat)=>CV.i (t:Int)) ((List.range N).map E) (OM f k)) oM rfl
    (r:={state:=.ready,pending:=none,fn:=f0,tmps:=a.tmps,params:=ps,assign:=x,body:=y,defers:=w.heap.size})
    (fun ν' hmono=>⟨0,(List.range N).map E,OM f k,rfl,.inl ⟨rfl,rfl,rfl⟩,fun t=>by
     rw[Qc]
     rcases QU t N with h|h
     ·rw[Ke,ZG h];exact V.mono hmono _ _ (hR.val t)
     ·rw[En (by rw[Gkb];exact h)]
      have:=hR.val t
      rw[hR.top t h]at this
      exact V.mono hmono _ _ this,by rw[Gkb];exact hR.size,by rw[Gkb,hBr.rnd];exact hrnd⟩)
   have hfree:=hS.Nh.free
   have Gj5:=hE1.mono hS
   have hen:=run_enterLoop_outer (P:=P) (w:=w) f0 a.tmps ps x y
   generalize (w.alloc (.deferred (some []))).alloc (.loop {state:=.ready,pending:=none,fn:=f0,tmps:=a.tmps,params:=ps,assign:=x,body:=y,defers:=w.heap.size})=W1 at hen hS1
   refine⟨_,_,W1,{target:=.fn (.func gf) lb,args:=#[.func (.yield (w.heap.size+1)) #[] #[]]},W1,gf,#[.func (.yield (w.heap.size+1)) #[] #[]]++lb,W1,hen,?_,fun _ _=>trivial,?_,M5,?_⟩
   ·simp only[resolve,hge]
    simp[go_sem]
   ·simp[invoke,go_sem,NV e1 e2 e3]
   have hcl:=Gah _ B L ν1 _ (#[.func (.yield (w.heap.size+1)) #[] #[]]++lb) hBr oM hS1 (by
    rw[Array.toList_append]
    simp only[VL,V,List.cons_append,List.nil_append]
    exact⟨_,_,rfl,⟨_,hν1,rfl⟩,VL.mono Gj5 _ _ hlb⟩)
   have hci:CallsIn Fence.wide (dp-1) P gf (#[.func (.yield (w.heap.size+1)) #[] #[]]++lb) _ _:=callsIn_wide.2 hcl
   refine CallsIn.mono (show CallsIn (Fr none) (dp-1) P gf _ _ _ from hci) fun e w2 hx=>?_
   obtain⟨v',ν2,rfl,hS2,-,hE2⟩:=hx
   have hm2:ν2 H.length=some ⟨w.heap.size+1,0,OM f k+1,0⟩:=by rw[hE2.same _ sM];exact hν1
   obtain⟨q1,qH⟩:=q
   unfold Uq at he
   simp only at he hq1 hl1 hS2
   split at he
   case h_2=>cases he
   rename_i s ps' env' z' hb
   obtain⟨r2,hw2,rfl,Gf2,-,-,-⟩:=D8 hS2 hb hm2
   have hs1:s≠1:=by
    rintro rfl
    rw[if_neg dE,if_neg dE,if_neg dE]at he
    cases he
   obtain⟨hnb,hcases⟩:=Gf2.leaves hs1
   obtain⟨jump,hj⟩:∃j,j=r2.pending:=⟨_,rfl⟩
   refine⟨jump,_,by rw[hj];exact run_endLoop hw2 hnb,?_⟩
   rw[←hj]at hcases
   have hS4:St _ B L ν2 (qH.set H.length ⟨[],.dead,0⟩) (w2.putObj (w.heap.size+1) (.loop {r2 with state:=.exhausted})):=⟨hS2.Nh.shut hb rfl hm2 _,fun b' hb' hl=>hS2.dom b' (by simpa using hb') hl⟩
   have hEx:Ext L H ν (qH.set H.length ⟨[],.dead,0⟩) ν2:=hE1.trans (hE2.trans ⟨sM,fun _ _=>rfl,fun _ _=>rfl⟩)
   have hKs:∀{c:Nat}{o:Obj},K c=some o→c<w.heap.size:=fun h=>(N7.1 (hS.Nh.kept _ _ h)).1
   have post:∀(cx:CX)(xx:Exit),XR cx xx→∃ν' K' D',XR cx xx∧St K' B L ν' (qH.set H.length ⟨[],.dead,0⟩) (w2.putObj (w.heap.size+1) (.loop {r2 with state:=.exhausted}))∧ER D' ν' N E {a with defers:=[{target:=.collected w.heap.size,args:=#[]}]++a.defers}∧Ext L H ν (qH.set H.length ⟨[],.dead,0⟩) ν'∧Pd K0 K'∧Marks K0 B K' D'∧(top=false→D'=D0):=by
    intro cx xx OG
    refine⟨ν2,_,{target:=.collected w.heap.size,args:=#[]}::D,OG,hS4,⟨by rw[hR.defers];rfl,hR.size,fun t=>V.mono (hEx.mono hS) _ _ (hR.val t),hR.top⟩,hEx,fun c o h=>?_,?_,fun h=>by rw[ht]at h;cases h⟩
    ·have:=hKs (hK c o h)
     exact(if_neg oM).trans (hK c o h)
    ·obtain⟨rs,rfl,hnd,hrs⟩:=hM
     refine⟨w.heap.size::rs,rfl,List.nodup_cons.2 ⟨fun hin=>?_,hnd⟩,fun r' hr'=>?_⟩
     ·have:=hKs (hrs _ hin).1;omega
     ·rcases List.mem_cons.1 hr' with rfl|hr'
      ·exact⟨if_pos rfl,hK.none hfree,hS.Nh.base.size⟩
      ·obtain⟨g2,g3,g4⟩:=hrs r' hr'
       have:=hKs g2
       exact⟨(if_neg oM).trans g2,g3,g4⟩
   rcases hcases with⟨rfl,hp⟩|⟨rfl,hp⟩|⟨id,rfl,hp⟩
   ·rw[if_pos rfl,Gx]at he
    subst he
    rw[hp]
    exact post .normal .normal rfl
   ·rw[if_neg dE,if_pos rfl,Gx]at he
    subst he
    rw[hp]
    exact wpIn_ret (post .ret .ret rfl)
   ·rw[if_neg oM,if_neg oM,if_pos oM,Gx,show((id:Int)+3-3).toNat=id from by omega]at he
    subst he
    rw[hp]
    exact wpIn_exit (post (.exit id) (.exit id) rfl)
  |exit id=>
   simp only[Jw,Gx]at hc;subst hc
   simp only[Gx]at he;subst he
   exact wpIn_exit ⟨ν,K,D,rfl,hS,hR,Ext.refl _ _ _,hK,hM,hD⟩
  |ret=>
   simp only[Jw,Gx]at hc;subst hc
   simp only[Gx]at he;subst he
   exact wpIn_ret ⟨ν,K,D,rfl,hS,hR,Ext.refl _ _ _,hK,hM,hD⟩
  |_=>cases hc
end
end Go.Cs
namespace Go.Cs
open Go Go.RowKit
section
variable {P : Program} {F : Jp} {K K0 : Nat → Option Obj} {B : Bs} {L N : Nat} {rd : Option Nat} {dp : Nat} {D D0 : List Deferred}
theorem Marks.nil(K:Nat→Option Obj)(B:Bs):Marks K B K []:=⟨[],rfl,List.nodup_nil,fun _ h=>by cases h⟩
theorem Es(hm:P.follows .mixedOrders=true)(hBr:Sj P B){f n:Nat}(hF:∀k,k<n→Ei P (Kq (Kn P) k)){c:Code}{k:Nat}{cc:Gu}(hc:Jw P f N false k c=some cc){E:Env}{H:Gb}{r:CX×Env×Gb}(he:ev (Kn P) n cc E H=some r)(hL:r.2.2.length≤L){ν:Mu}{a:Act}{w:World}(hS:St K B L ν H w)(hR:ER [] ν N E a):
  c.wpIn (Fr none) 0 P (fun x a w=>∃ν',XR r.1 x∧St K B L ν' r.2.2 w∧ER [] ν' N r.2.1 a∧Ext L H ν r.2.2 ν') a w:=by
 refine wpIn_mono (Z7 (rd:=none) (K0:=K) (D0:=[]) (top:=false) hm hBr (fun h=>by cases h) n hF c k cc E H r hc (fun h=>by cases h) he hL K [] ν a w (Pd.refl K) (Marks.nil K B) (fun _=>rfl) hS hR) fun x a w h=>?_
 obtain⟨ν',K',D',h1,h2,h3,h4,h5,-,h7⟩:=h
 have:=h7 rfl
 subst this
 exact⟨ν',h1,⟨h2.Nh.less h5,h2.dom⟩,h3,h4⟩
theorem Oe(hF:Ei P F)(hBr:Sj P B)(Vk:VP F){ops:Array Oper}{Q:Exit→Act→World→Prop}{l2:List Nat}:∀(l:List Nat)(ss:List GZ),ss.length=l.length→(∀(q:Nat)(i:Nat)(s:GZ),l[q]?=some i→ss[q]?=some s→∃o,ops[i]?=some o∧Na P N ops o=some s)→
  ∀(E:Env)(H:Gb)(ν:Mu)(a:Act)(w:World)(r:Env×Gb),K4 F ss E H=some r→r.2.length≤L→St K B L ν H w→ER D ν N E a→
  (∀ν' a' w',St K B L ν' r.2 w'→ER D ν' N r.1 a'→Ext L H ν r.2 ν'→wpOpsIn (Fr rd) dp P ops Q l2 a' w')→wpOpsIn (Fr rd) dp P ops Q (l++l2) a w
 |[],[],_,_,E,H,ν,a,w,r,he,_,hS,hR,hk=>by
  simp only[K4,Gx]at he
  subst he
  exact hk ν a w hS hR (Ext.refl _ _ _)
 |i::l,s::ss,hl,hs,E,H,ν,a,w,r,he,hL,hS,hR,hk=>by
  obtain⟨o,ho,hc⟩:=hs 0 i s rfl rfl
  have ih:=Oe hF hBr Vk (ops:=ops) (Q:=Q) (l2:=l2) l ss (by simpa using hl) (fun q j t h1 h2=>hs (q+1) j t (by simpa using h1) (by simpa using h2))
  simp only[K4,Jt]at he
  obtain⟨⟨E1,H1⟩,he1,he2⟩:=he
  obtain⟨g,op,hg,hop,hd,rfl⟩:=Q9 hc
  rw[List.cons_append,wpOpsIn_cons]
  unfold wpOpIn
  simp only[ho]
  rw[IU hg hR]
  unfold QE at he1
  dsimp only at he1
  split at he1
  ·rename_i hw
   rw[if_pos hw]
   rw[GR]at he1
   obtain⟨v,hv,he1⟩:=he1
   simp only[Prod.mk.injEq]at he1
   obtain⟨rfl,rfl⟩:=he1
   refine GaM hF hBr hS hop (fun t _=>hR.val t) hv (Jr (UG Vk he2) hL) _ _ fun v' w' ν' hS' hV' hx'=>?_
   have hm:=hx'.mono hS
   exact ih _ _ ν' _ w' r he2 hL hS' ((hR.mono hm).put hd hV') fun ν2 a2 w2 h1 h2 h3=>hk ν2 a2 w2 h1 h2 (hx'.trans h3)
  ·rename_i hw
   rw[if_neg hw]
   simp only[Gx,Prod.mk.injEq]at he1
   obtain⟨rfl,rfl⟩:=he1
   exact⟨fun _ _=>trivial,ih _ _ ν _ w r he2 hL hS (hR.put hd (by simp[V,VL,undef])) hk⟩
 |[],_::_,hl,_,_,_,_,_,_,_,_,_,_,_,_=>by simp at hl
 |_::_,[],hl,_,_,_,_,_,_,_,_,_,_,_,_=>by simp at hl
theorem V8{cs:List CV}(h:VY cs=false):Qy cs=cs:=by
 unfold VY at h
 unfold Qy
 split at h
 ·cases h
 ·rename_i hn
  rfl
theorem JZ.Gel{μ:Mu}{H:Gb}{w:World}(h:JZ K B μ H w){c:Nat}{o:Obj}(hc:K c=some o)(hB:B.heap.size≤c)(x:Obj):JZ (fun d=>if d=c then some x else K d) B μ H (w.putObj c x):=by
 have hlt:c<w.heap.size:=(N7.1 (h.kept c o hc)).1
 have RG:∀{d:Nat},d≠c→(w.heap.setIfInBounds c x)[d]?=w.heap[d]?:=fun hd=>by simp[Ne.symm hd]
 refine⟨h.base.trans ⟨rfl,rfl,rfl,by simp[World.putObj],fun q hq=>RG oM⟩,fun d y hy=>?_,fun b blk m h1 h2 h3 h4=>?_,h.inj,fun b blk m h1 h2 h3=>?_⟩
 ·split at hy
  ·rename_i hd
   subst hd
   simp only[Gx]at hy
   subst hy
   simp[World.putObj,hlt]
  ·rename_i hd;exact(RG hd).trans (h.kept d y hy)
 ·have hne:=h.Y8 hc hB h1 h2 h4
  obtain⟨arr,T,fz,e1,e2,e3,e4⟩:=h.blk b blk m h1 h2 h3 h4
  exact⟨arr,T,fz,(RG hne).trans e1,e2,fun e=>by obtain⟨c1,c2,c3,c4,c5,c6⟩:=e3 e;exact⟨c1,c2,c3,c4,c5,by rw[if_neg hne];exact c6⟩,e4⟩
 ·have hne:=h.Y8 hc hB h1 (by rw[h2];decide) h3
  obtain⟨ob,e1,e2,e3,e4⟩:=h.mp b blk m h1 h2 h3
  exact⟨ob,(RG hne).trans e1,e2,e3,by rw[if_neg hne];exact e4⟩
def Yb(B:Bs)(c:Nat)(o:Obj):Bs:={B with frz:=fun d x=>if d=c then x=o else B.frz d x}
theorem DI.frz{B B':Bs}(hB:B'.rnd=B.rnd){μ:Mu}{blk:JI}{r:Loop}(h:DI B μ blk r):DI B' μ blk r:=by
 obtain⟨s,env,z,h1,h2,h3,h4,h5⟩:=h
 exact⟨s,env,z,h1,h2,h3,h4,by rw[hB];exact h5⟩
theorem JZ.freeze{μ:Mu}{H:Gb}{w:World}(h:JZ K B μ H w){b:Nat}{es:List CV}{m:Zz}(hb:H[b]?=some ⟨es,.map,0⟩) (hz:VY es=false) (hm:μ b=some m) {xs:Array MapEntry} {cl:Nat} (hw:w.heap[m.c]?=some (.map xs cl)):
  JZ K (Yb B m.c (.map xs cl)) μ (H.set b ⟨[.agg es],.map,0⟩) w:=by
 have hlb:=(Ni.1 hb).1
 have get:∀{b':Nat}{k':JI},(H.set b ⟨[.agg es],.map,0⟩)[b']?=some k'→(b'=b∧k'=⟨[.agg es],.map,0⟩)∨(b'≠b∧H[b']?=some k'):=by
  intro b' k' hb'
  by_cases hbb:b'=b
  ·subst hbb
   rw[KI hlb]at hb'
   exact .inl ⟨rfl,by simpa using hb'.symm⟩
  ·rw[JU (Ne.symm hbb)]at hb'
   exact .inr ⟨hbb,hb'⟩
 refine⟨h.base,h.kept,fun b' k' m' h1 h2 h3 h4=>?_,fun b1 b2 k1 k2 m1 m2 h1 h2 r1 r2 hne e1 e2=>?_,fun b' k' m' h1 h2 h3=>?_⟩
 ·rcases get h1 with⟨rfl,rfl⟩|⟨_,g⟩
  ·exact absurd rfl h3
  ·exact h.blk b' k' m' g h2 h3 h4
 ·have up:∀{b':Nat}{k':JI},(H.set b ⟨[.agg es],.map,0⟩)[b']?=some k'→∃k'',H[b']?=some k''∧k''.mode=k'.mode:=by
   intro b' k' hb'
   rcases get hb' with⟨rfl,rfl⟩|⟨_,g⟩
   ·exact⟨_,hb,rfl⟩
   ·exact⟨_,g,rfl⟩
  obtain⟨q1,g1,f1⟩:=up h1
  obtain⟨q2,g2,f2⟩:=up h2
  exact h.inj b1 b2 q1 q2 m1 m2 g1 g2 (by rw[f1];exact r1) (by rw[f2];exact r2) hne e1 e2
 ·rcases get h1 with⟨rfl,rfl⟩|⟨hbb,g⟩
  ·rw[hm]at h3
   simp only[Gx]at h3
   subst h3
   obtain⟨ob,e1,e2,e3,e4⟩:=h.mp b' _ m hb rfl hm
   obtain⟨xs',cl',rfl,f1,f2,f3⟩:=e2.map rfl
   rw[hw]at e1
   simp only[Gx,Obj.map.injEq]at e1
   obtain⟨rfl,rfl⟩:=e1
   rw[V8 hz]at f1
   exact⟨_,hw,.inl ⟨rfl,xs,cl,rfl,f1,f2,fun _=>by simp[Yb]⟩,e3,e4⟩
  ·obtain⟨ob,e1,e2,e3,e4⟩:=h.mp b' k' m' g h2 h3
   refine⟨ob,e1,?_,e3,e4⟩
   rcases e2 with⟨f0,xs',cl',rfl,f1,f2,f3⟩|⟨r,rfl,hr⟩
   ·have hne:m'.c≠m.c:=Ne.symm (h.inj b b' _ k' m m' hb g (.inr rfl) (by rw[h2];decide) (Ne.symm hbb) hm h3)
    exact .inl ⟨f0,xs',cl',rfl,f1,f2,fun e=>by simp only[Yb,if_neg hne];exact f3 e⟩
   ·exact .inr ⟨r,rfl,hr.frz rfl⟩
theorem JZ.thaw{μ:Mu}{H:Gb}{w:World}{m:Zz}{o:Obj}(h:JZ K (Yb B m.c o) μ H w){b:Nat}{es:List CV}(hb:H[b]?=some ⟨[.agg es],.map,0⟩) (hm:μ b=some m) (hz:VY es=false):
  JZ K B μ (H.set b ⟨es,.map,0⟩) w:=by
 have hlb:=(Ni.1 hb).1
 have get:∀{b':Nat}{k':JI},(H.set b ⟨es,.map,0⟩)[b']?=some k'→(b'=b∧k'=⟨es,.map,0⟩)∨(b'≠b∧H[b']?=some k'):=by
  intro b' k' hb'
  by_cases hbb:b'=b
  ·subst hbb
   rw[KI hlb]at hb'
   exact .inl ⟨rfl,by simpa using hb'.symm⟩
  ·rw[JU (Ne.symm hbb)]at hb'
   exact .inr ⟨hbb,hb'⟩
 refine⟨h.base,h.kept,fun b' k' m' h1 h2 h3 h4=>?_,fun b1 b2 k1 k2 m1 m2 h1 h2 r1 r2 hne e1 e2=>?_,fun b' k' m' h1 h2 h3=>?_⟩
 ·rcases get h1 with⟨rfl,rfl⟩|⟨_,g⟩
  ·exact absurd rfl h3
  ·exact h.blk b' k' m' g h2 h3 h4
 ·have up:∀{b':Nat}{k':JI},(H.set b ⟨es,.map,0⟩)[b']?=some k'→∃k'',H[b']?=some k''∧k''.mode=k'.mode:=by
   intro b' k' hb'
   rcases get hb' with⟨rfl,rfl⟩|⟨_,g⟩
   ·exact⟨_,hb,rfl⟩
   ·exact⟨_,g,rfl⟩
  obtain⟨q1,g1,f1⟩:=up h1
  obtain⟨q2,g2,f2⟩:=up h2
  exact h.inj b1 b2 q1 q2 m1 m2 g1 g2 (by rw[f1];exact r1) (by rw[f2];exact r2) hne e1 e2
 ·rcases get h1 with⟨rfl,rfl⟩|⟨hbb,g⟩
  ·rw[hm]at h3
   simp only[Gx]at h3
   subst h3
   obtain⟨ob,e1,e2,e3,e4⟩:=h.mp b' _ m hb rfl hm
   obtain⟨xs',cl',rfl,f1,f2,f3⟩:=e2.map rfl
   exact⟨_,e1,.inl ⟨rfl,xs',cl',rfl,by rw[V8 hz];exact f1,f2,fun e=>by rw[hz]at e;cases e⟩,e3,e4⟩
  ·obtain⟨ob,e1,e2,e3,e4⟩:=h.mp b' k' m' g h2 h3
   refine⟨ob,e1,?_,e3,e4⟩
   rcases e2 with⟨f0,xs',cl',rfl,f1,f2,f3⟩|⟨r,rfl,hr⟩
   ·have hne:m'.c≠m.c:=Ne.symm (h.inj b b' _ k' m m' hb g (.inr rfl) (by rw[h2];decide) (Ne.symm hbb) hm h3)
    exact .inl ⟨f0,xs',cl',rfl,f1,f2,fun e=>by have:=f3 e;simp only[Yb,if_neg hne]at this;exact this⟩
   ·exact .inr ⟨r,rfl,hr.frz rfl⟩
theorem JZ.Gfb{μ:Mu}{H:Gb}{w:World}(h:JZ K B μ H w):JZ K B μ (H++[⟨[],.dead,0⟩]) w:=by
 have get:∀{b:Nat}{k:JI},(H++[⟨[],.dead,0⟩])[b]?=some k→k.mode≠.dead→H[b]?=some k:=by
  intro b k hb hd
  rcases Nat.lt_trichotomy b H.length with hlt|rfl|hgt
  ·rwa[QN hlt]at hb
  ·rw[M_ (Nat.le_refl _)]at hb
   simp only[Nat.sub_self,List.getElem?_cons_zero,Gx]at hb
   subst hb
   exact absurd rfl hd
  ·rw[M_ oM,En (by simp;omega)]at hb
   cases hb
 exact⟨h.base,h.kept,fun b k m h1 h2 h3 h4=>h.blk b k m (get h1 h2) h2 h3 h4,fun b1 b2 k1 k2 m1 m2 h1 h2 r1 r2 hne e1 e2=>h.inj b1 b2 k1 k2 m1 m2 (get h1 (by rcases r1 with r1|r1<;>(rw[r1];decide))) (get h2 r2) r1 r2 hne e1 e2,
  fun b k m h1 h2 h3=>h.mp b k m (get h1 (by rw[h2];decide)) h2 h3⟩
theorem JZ.Gbv{μ:Mu}{H:Gb}{w:World}(h:JZ K B μ H w)(n:Nat):JZ K B μ (KP n H) w:=by
 have get:∀{b:Nat}{k:JI},(KP n H)[b]?=some k→k.mode≠.dead→H[b]?=some k:=by
  intro b k hb hd
  unfold KP at hb
  rcases QU b (H.take n).length with hlt|hge
  ·rw[QN hlt]at hb
   rw[Ze]at hb
   split at hb
   ·exact hb
   ·cases hb
  ·rw[M_ hge]at hb
   have:=JX hb
   rw[List.mem_replicate]at this
   rw[this.2]at hd
   exact absurd rfl hd
 exact⟨h.base,h.kept,fun b k m h1 h2 h3 h4=>h.blk b k m (get h1 h2) h2 h3 h4,fun b1 b2 k1 k2 m1 m2 h1 h2 r1 r2 hne e1 e2=>h.inj b1 b2 k1 k2 m1 m2 (get h1 (by rcases r1 with r1|r1<;>(rw[r1];decide))) (get h2 r2) r1 r2 hne e1 e2,
  fun b k m h1 h2 h3=>h.mp b k m (get h1 (by rw[h2];decide)) h2 h3⟩
theorem JY.split{μ:Mu}:∀{cs:List CV}{s t:List MapEntry}{e:MapEntry},JY μ cs (s++e::t)→∃cs1 c cs2,cs=cs1++c::cs2∧JY μ (cs1++cs2) (s++t)∧∃k n v,c=.Ju [.int k n,v]∧e.key=.int k n∧V μ v e.val
 |[],s,t,e,h=>by
  simp only[JY]at h
  simp at h
 |c::cs,[],t,e,h=>by
  obtain⟨k,n,v,x,rest,rfl,h2,h3,h4,h5,h6⟩:=h
  simp only[List.nil_append,List.cons.injEq]at h2
  obtain⟨rfl,rfl⟩:=h2
  exact⟨[],_,cs,rfl,h6,k,n,v,rfl,h3,h4⟩
 |c::cs,y::s,t,e,h=>by
  obtain⟨k,n,v,x,rest,rfl,h2,h3,h4,h5,h6⟩:=h
  simp only[List.cons_append,List.cons.injEq]at h2
  obtain⟨rfl,rfl⟩:=h2
  obtain⟨cs1,c',cs2,rfl,g1,g2⟩:=JY.split h6
  exact⟨.Ju [.int k n,v]::cs1,c',cs2,rfl,⟨k,n,v,y,_,rfl,rfl,h3,h4,h5,g1⟩,g2⟩
theorem JY.GjH{μ:Mu}{cs:List CV}(h:JY μ cs []):cs=[]:=by
 cases cs with
 |nil=>rfl
 |cons c cs=>obtain⟨k,n,v,x,rest,-,h2,-⟩:=h;cases h2
theorem GbB{xs:Array MapEntry}{seen:Array Nat}{e:MapEntry}(hn:(xs.toList.map (·.born)).Nodup)(he:e∈(leftOf xs seen).toList):
  ∃s t,(leftOf xs seen).toList=s++e::t∧(leftOf xs (seen.push e.born)).toList=s++t:=by
 obtain⟨s,t,hst⟩:=List.append_of_mem he
 refine⟨s,t,hst,?_⟩
 have h1:(leftOf xs (seen.push e.born)).toList=(leftOf xs seen).toList.filter fun x=>!(x.born==e.born):=by
  simp only[leftOf,Array.toList_filter,List.filter_filter]
  refine List.filter_congr fun x _=>?_
  rw[contains_push]
  cases seen.contains x.born<;>cases hx:x.born==e.born<;>rfl
 have h2:((leftOf xs seen).toList.map (·.born)).Nodup:=by
  simp only[leftOf,Array.toList_filter]
  exact(List.filter_sublist.map _).nodup hn
 rw[hst,XE,List.map_cons,List.nodup_append]at h2
 obtain⟨g1,g2,g3⟩:=h2
 rw[List.nodup_cons]at g2
 rw[h1,hst,List.filter_append,List.filter_cons]
 simp only[BEq.rfl,Bool.not_true,Bool.false_eq_true,if_false]
 rw[List.filter_eq_self.2,List.filter_eq_self.2]
 ·intro x hx
  have:x.born≠e.born:=fun h=>g2.1 (h▸List.mem_map_of_mem hx)
  simpa using this
 ·intro x hx
  have:x.born≠e.born:=fun h=>g3 _ (List.mem_map_of_mem hx) _ NC h
  simpa using this
theorem Og{E:Env}{d:Nat}{v:CV}:(E.upd d v) d=v:=by simp[Env.upd]
theorem Gfl{E:Env}{d t:Nat}{v:CV}(h:t≠d):(E.upd d v) t=E t:=by simp[Env.upd,h]
def LA(Rr:Env→Gb→Option (CX×Env×Gb))(q:RM)(mb:Nat)(es:List CV)(n0:Nat)(o:Option (CX×Env×Gb)):Option (CX×Env×Gb):=
 (o.bind fun u=>NJ q.id Rr (u.1,u.2.1,u.2.2.set mb ⟨es,.map,0⟩)).map fun r=>(r.1,Ol q.live r.2.1,KP n0 r.2.2)
def MR(Rb Rr:Env→Gb→Option (CX×Env×Gb))(q:RM)(mb:Nat)(es:List CV)(n0:Nat)(r:CX×Env×Gb)(left:List CV)(E:Env)(H:Gb):Prop:=
 ∀l,l.Perm left→LA Rr q mb es n0 (K5 Rb q mb es n0 l E H)=some r
section
variable {Rb Rr : Env → Gb → Option (CX × Env × Gb)} {q : RM} {mb n0 : Nat} {es : List CV} {r : CX × Env × Gb} {E : Env} {H : Gb}
theorem MR.nil(h:MR Rb Rr q mb es n0 r [] E H):LA Rr q mb es n0 (some (.normal,q.fin E,H))=some r:=h [] (List.Perm.refl _)
theorem MR.step{cs1 cs2:List CV}{c:CV}(h:MR Rb Rr q mb es n0 r (cs1++c::cs2) E H):
  ∃u,Rb (q.beg c E) H=some u∧u.2.2[mb]?=some ⟨[.agg es],.map,0⟩∧u.2.1 q.it=.ptr n0 0∧(u.1=.normal→MR Rb Rr q mb es n0 r (cs1++cs2) u.2.1 u.2.2)∧(u.1≠.normal→LA Rr q mb es n0 (some u)=some r):=by
 have key:∀l',l'.Perm (cs1++cs2)→∃u,Rb (q.beg c E) H=some u∧u.2.2[mb]?=some ⟨[.agg es],.map,0⟩∧u.2.1 q.it=.ptr n0 0∧(u.1=.normal→LA Rr q mb es n0 (K5 Rb q mb es n0 l' u.2.1 u.2.2)=some r)∧(u.1≠.normal→LA Rr q mb es n0 (some u)=some r):=by
  intro l' hl
  have h1:=h (c::l') ((List.Perm.cons c hl).trans List.perm_middle.symm)
  cases hb:Rb (q.beg c E) H with
  |none=>simp[LA,K5,hb]at h1
  |some u=>
   refine⟨u,rfl,?_⟩
   unfold K5 at h1
   rw[hb,Option.bind_some]at h1
   split at h1
   case isFalse=>simp[LA]at h1
   rename_i hc
   refine⟨hc.1,hc.2,fun hn=>?_,fun hn=>?_⟩
   ·simp only[hn]at h1;exact h1
   ·cases hx:u.1 with
    |normal=>exact absurd hx hn
    |exit id=>simp only[hx]at h1;exact h1
    |ret=>simp only[hx]at h1;exact h1
 obtain⟨u,h1,h2,h3,h4,h5⟩:=key _ (List.Perm.refl _)
 refine⟨u,h1,h2,h3,fun hn l' hl=>?_,h5⟩
 obtain⟨u',g1,_,_,g4,_⟩:=key l' hl
 rw[h1]at g1
 simp only[Gx]at g1
 subst g1
 exact g4 hn
end
def Ql(K:Nat→Option Obj)(B:Bs)(L:Nat)(H:Gb)(ν:Mu)(live:List Nat)(r:CX×Env×Gb):Exit→Act→World→Prop:=
 fun x a w=>∃ν',XR r.1 x∧St K B L ν' r.2.2 w∧(a.defers=[]∧∀t∈live,V ν' (r.2.1 t) (a.tmps.getD t undef))∧Ext L H ν r.2.2 ν'
theorem Ub{ops:Array Oper}{Q:Exit→Act→World→Prop}{i:Nat}{l:List Nat}{a:Act}{w:World}{o:Oper}(ho:ops[i]?=some o) (hg:o.guard=none) (hnd:∀c,o.op≠.defer c) {v:Value} {w':World} (h:(execOp a.eval o).run P w=.ok (.value v) w')
  (hk:wpOpsIn (Fr rd) dp P ops Q l (a.put o.dst v) w'):wpOpsIn (Fr rd) dp P ops Q (i::l) a w:=by
 rw[wpOpsIn_cons]
 unfold wpOpIn
 simp only[ho]
 rw[if_pos (by unfold Region.wanted;rw[hg])]
 refine⟨fun _ _=>trivial,?_⟩
 rw[Oper.semAt_eq _ _ _ hnd,h]
 exact hk
theorem WY{l:M9}{o:Gkg}(h:GgI l=some o):∃rg o1 o2 e,l.ops.back?=some rg∧l.OI.toList=[o1,o2]∧l.ZC[0]?=some e∧
  rg.op=.range o.t o.m∧o1.op=.next (.tmp o.it) false∧o2.op=.extract (.tmp o.nx) 0∧e.op=.entry (.tmp o.it)∧rg.dst=some o.it∧o1.dst=some o.nx∧o2.dst=some o.more∧e.dst=some o.pair∧
  l.more=o.more∧l.Tj=l.out∧rg.guard=none∧o1.guard=none∧o2.guard=none∧e.guard=none∧o.it≠o.nx∧o.it≠o.more∧o.it≠o.pair∧o.nx≠o.more∧o.nx≠o.pair∧o.more≠o.pair:=by
 unfold GgI at h
 split at h
 case h_2=>cases h
 rename_i rg o1 o2 e h1 h2 h3
 split at h
 case h_2=>cases h
 rename_i t m it1 nx1 it2 it nx more pair e1 e2 e3 e4 e5 e6 e7 e8
 obtain⟨hc,h⟩:=G_ h
 simp only[Gx]at h
 subst h
 simp only[JQ,beq_iff_eq,bne_iff_ne,ne_eq,Option.isNone_iff_eq_none]at hc
 obtain⟨⟨⟨⟨⟨⟨⟨⟨⟨⟨⟨⟨⟨⟨c1,c2⟩,c3⟩,c4⟩,c5⟩,c6⟩,c7⟩,c8⟩,c9⟩,c10⟩,c11⟩,c12⟩,c13⟩,c14⟩,c15⟩:=hc
 subst c1;subst c2;subst c3;subst c4
 exact⟨rg,o1,o2,e,h1,h2,h3,e1,e2,e3,e4,e5,e6,e7,e8,rfl,c5,c6,c7,c8,c9,c10,c11,c12,c13,c14,c15⟩
theorem R4(hm:P.follows .mixedOrders=true)(hBr:Sj P B){f n:Nat}(hF:∀k,k<n+2→Ei P (Kq (Kn P) k)){l:M9}{o:Gkg}(ho:GgI l=some o){m:J7}
  {Ga:List GZ}(has:J3 (l.ZC.toList.tail.map (Na P N l.ZC))=some Ga){cc:Gu}(hcc:Jw P f N false 0 l.code=some cc){b:Code}{rr:Gu}(hrr:Jw P f N false 0 b=some rr){live:List Nat}
  (hlt:o.it<N∧o.nx<N∧o.more<N∧o.pair<N){mb:Nat}{es:List CV}{r:CX×Env×Gb}(hz:VY es=false)(hL:r.2.2.length≤L){H0:Gb}{ν0:Mu}{mt:Zz}{rb:Nat}(hrb:B.heap.size≤rb)(hKr:K rb=none){xs:Array MapEntry}{cl:Nat}(hst:MapKept.Stamped xs cl)
  {q:RM}(hq:q=⟨m,o.it,o.nx,o.more,o.pair,l.out,live⟩):
  ∀(a:Act)(w:World),(∃left E H ν seen c0,MR (ev (Kn P) (n+2) (.block l.Xc (.seq (.region Ga) cc))) (ev (Kn P) (n+2) rr) q mb es H0.length r left E H∧
   St (fun c=>if c=rb then some (.mapIter (some mt.c) cl seen c0)else K c) (Yb B mt.c (.map xs cl)) L ν H w∧ER [] ν N E a∧Ext L H0 ν0 H ν∧JY ν left (leftOf xs seen).toList∧cl≤c0∧
   H[mb]?=some ⟨[.agg es],.map,0⟩∧E o.it=.ptr H0.length 0∧ν H0.length=some ⟨rb,0,0,0⟩∧ν mb=some mt∧mb<H0.length)→
  (Code.block l.out (.loop (.seq (.region l.j l.OI false) (.seq (.cond (.tmp l.more) .skip (.exit l.Tj)) (.block l.Xc (.seq (.region l.k l.ZC false) l.code)))))).wpIn (Fr none) 0 P (Exit.then (b.wpIn (Fr none) 0 P (Ql K B L H0 ν0 live r)) (Ql K B L H0 ν0 live r)) a w:=by
 obtain⟨rg,o1,o2,e,p1,p2,p3,p4,p5,p6,p7,p8,p9,p10,p11,p12,p13,p14,p15,p16,p17,p18,p19,p20,p21,p22,p23⟩:=WY ho
 subst hq
 intro a w hinv
 have finish:∀(u:CX×Env×Gb)(x:Exit)(a:Act)(w:World)(ν:Mu)(seen:Array Nat)(c0:Nat),XR u.1 x→LA (ev (Kn P) (n+2) rr) ⟨m,o.it,o.nx,o.more,o.pair,l.out,live⟩ mb es H0.length (some u)=some r→
   St (fun c=>if c=rb then some (.mapIter (some mt.c) cl seen c0)else K c) (Yb B mt.c (.map xs cl)) L ν u.2.2 w→ER [] ν N u.2.1 a→Ext L H0 ν0 u.2.2 ν→u.2.2[mb]?=some ⟨[.agg es],.map,0⟩→ν mb=some mt→mb<H0.length→H0.length≤u.2.2.length→
   (match x with
    |.normal=>b.wpIn (Fr none) 0 P (Ql K B L H0 ν0 live r) a w
    |.exit id=>if id=l.out then b.wpIn (Fr none) 0 P (Ql K B L H0 ν0 live r) a w else Ql K B L H0 ν0 live r (.exit id) a w
    |x=>Ql K B L H0 ν0 live r x a w):=by
  intro u x a w ν seen c0 hx hf hS hR hE hfz hmb O5 hlen
  unfold LA at hf
  rw[Option.bind_some,GR]at hf
  obtain⟨y,hy,rfl⟩:=hf
  have hKL:Pd K (fun c=>if c=rb then some (.mapIter (some mt.c) cl seen c0)else K c):=fun c ob hc=>by
   dsimp only
   rw[if_neg (fun e=>by rw[e,hKr]at hc;cases hc)];exact hc
  have hS':St K B L ν (u.2.2.set mb ⟨es,.map,0⟩) w:=⟨(hS.Nh.less hKL).thaw hfz hmb hz,fun b' hb' hl=>hS.dom b' (by simpa using hb') hl⟩
  have hE':Ext L H0 ν0 (u.2.2.set mb ⟨es,.map,0⟩) ν:=hE.trans ⟨sM,fun _ _=>rfl,fun _ _=>rfl⟩
  have hkl:(KP H0.length y.2.2).length=y.2.2.length:=Ki (by
   refine Jr hlen (Jr (Nat.le_of_eq sM) (Q7 (R:=ev (Kn P) (n+2) rr) (fun E H r h=>Kg _ _ h) hy)))
  have rest:∀(y:CX×Env×Gb),ev (Kn P) (n+2) rr u.2.1 (u.2.2.set mb ⟨es,.map,0⟩)=some y→(y.1,Ol live y.2.1,KP H0.length y.2.2).2.2.length≤L→H0.length≤y.2.2.length→b.wpIn (Fr none) 0 P (Ql K B L H0 ν0 live (y.1,Ol live y.2.1,KP H0.length y.2.2)) a w:=by
   intro y hy hL hl
   have hkl:(KP H0.length y.2.2).length=y.2.2.length:=Ki hl
   dsimp only at hL
   rw[hkl]at hL
   refine wpIn_mono (Es hm hBr hF hrr hy hL hS' hR) fun x a w hx=>?_
   obtain⟨ν',h1,h2,h3,h4⟩:=hx
   refine⟨ν',h1,⟨h2.Nh.Gbv _,fun b' hb' hl'=>h2.dom b' (by dsimp only at hb';rw[hkl]at hb';exact hb') hl'⟩,⟨h3.defers,fun t ht=>?_⟩,?_⟩
   ·simp only[Ol,List.contains_iff_mem.2 ht,if_true]
    exact h3.val t
   ·exact⟨by dsimp only;rw[hkl];exact hl,(hE'.trans h4).same,(hE'.trans h4).far⟩
  have out:∀(cx:CX)(xx:Exit),XR cx xx→u.2.2.length≤L→Ql K B L H0 ν0 live (cx,Ol live u.2.1,KP H0.length (u.2.2.set mb ⟨es,.map,0⟩)) xx a w:=by
   intro cx xx hxx hul
   have hk2:(KP H0.length (u.2.2.set mb ⟨es,.map,0⟩)).length=u.2.2.length:=by rw[Ki (by simpa using hlen)];simp
   refine⟨ν,hxx,⟨hS'.Nh.Gbv _,fun b' hb' hl'=>hS.dom b' (by dsimp only at hb';rw[hk2]at hb';exact hb') hl'⟩,⟨hR.defers,fun t ht=>?_⟩,⟨by dsimp only;rw[hk2];exact hlen,hE.same,hE.far⟩⟩
   simp only[Ol,List.contains_iff_mem.2 ht,if_true]
   exact hR.val t
  unfold NJ at hy
  obtain⟨cx,E',H'⟩:=u
  cases cx with
  |normal=>
   simp only[XR]at hx;subst hx
   simp only[CX.inBlock]at hy
   exact rest y hy hL (by dsimp only at hkl hL;exact Jr (by simpa using hlen) (Kg _ _ hy))
  |exit id=>
   simp only[XR]at hx;subst hx
   simp only[CX.inBlock]at hy
   by_cases hid:id=l.out
   ·simp only[hid,if_true]at hy⊢
    exact rest y hy hL (by dsimp only at hkl hL;exact Jr (by simpa using hlen) (Kg _ _ hy))
   ·simp only[hid,if_false,Gx]at hy⊢
    subst hy
    exact out _ _ rfl (by dsimp only at hL;rw[Ki (by simpa using hlen)]at hL;simpa using hL)
  |ret=>
   simp only[XR]at hx;subst hx
   simp only[CX.inBlock,Gx]at hy
   subst hy
   exact out _ _ rfl (by dsimp only at hL;rw[Ki (by simpa using hlen)]at hL;simpa using hL)
 refine wpIn_block ?_
 classical
 let J:Nat→Act→World→Prop:=fun k a w=>∃left E H ν seen c0,left.length=k∧MR (ev (Kn P) (n+2) (.block l.Xc (.seq (.region Ga) cc))) (ev (Kn P) (n+2) rr) ⟨m,o.it,o.nx,o.more,o.pair,l.out,live⟩ mb es H0.length r left E H∧
   St (fun c=>if c=rb then some (.mapIter (some mt.c) cl seen c0)else K c) (Yb B mt.c (.map xs cl)) L ν H w∧ER [] ν N E a∧Ext L H0 ν0 H ν∧JY ν left (leftOf xs seen).toList∧cl≤c0∧
   H[mb]?=some ⟨[.agg es],.map,0⟩∧E o.it=.ptr H0.length 0∧ν H0.length=some ⟨rb,0,0,0⟩∧ν mb=some mt∧mb<H0.length
 obtain⟨Glc,E0',H0',ν0',Qr,c00,hinv⟩:=hinv
 refine wpIn_loop (fun a w=>∃k,J k a w) (fun a w=>if h:∃k,J k a w then(least h).choose else 0) ⟨_,Glc,E0',H0',ν0',Qr,c00,rfl,hinv⟩ fun a1 w1 hI=>?_
 rw[dif_pos hI]
 have hmin:=(least hI).choose_spec
 generalize (least hI).choose=k at hmin⊢
 obtain⟨⟨left,E,H,ν,seen,c0,hk,hall,hS,hR,hE,hMR,hc0,hfz,hit,hνr,hmb,O5⟩,-⟩:=hmin
 have hrow:w1.heap[rb]?=some (.mapIter (some mt.c) cl seen c0):=hS.Nh.kept rb _ (if_pos rfl)
 have hmap:w1.heap[mt.c]?=some (.map xs cl):=by
  obtain⟨ob,g1,g2,-,-⟩:=hS.Nh.mp mb _ mt hfz rfl hmb
  obtain⟨xs',cl',rfl,-,-,g3⟩:=g2.map rfl
  have:=g3 rfl
  simp only[Yb,if_true]at this
  rw[g1,this]
 have hiv:a1.eval (.tmp o.it)=.pointer (some ⟨rb,0,none⟩):=by
  have:=hR.val o.it
  rw[hit]at this
  simp only[V]at this
  obtain⟨mm,h1,h2⟩:=this
  rw[hνr]at h1
  simp only[Gx]at h1
  subst h1
  exact h2
 have hsz:List.range l.OI.size=[0,1]:=by
  have:l.OI.size=2:=by rw[←Array.length_toList,p2];rfl
  rw[this];rfl
 have hget:l.OI[0]?=some o1∧l.OI[1]?=some o2:=by
  constructor<;>(rw[←EM,p2];rfl)
 have Gll:∀c,o1.op≠.defer c:=fun c e=>by rw[p5]at e;cases e
 have GkW:∀c,o2.op≠.defer c:=fun c e=>by rw[p6]at e;cases e
 have Gr2:∀c,e.op≠.defer c:=fun c h=>by rw[p7]at h;cases h
 have TP:N≤a1.tmps.size:=hR.size
 refine wpIn_seq (wpIn_region ?_)
 rw[hsz]
 rcases run_next_at (P:=P) w1 o1.type rb mt.c cl c0 seen xs cl hrow hmap hst.1 hc0 with⟨hl0,hrun⟩|⟨x,hx,w2,hw2,hrun⟩
 ·
  refine Ub hget.1 p15 Gll (v:=.tuple #[.bool false]) (w':=w1) (by simp[execOp,p5,hiv,hrun]) ?_
  have RN:ER [] ν N (E.upd o.nx (.Ju [.bool false])) (a1.put o1.dst (.tuple #[.bool false])):=by
   rw[p9];exact hR.put (dst:=some o.nx) (fun d hd=>by simp only[Gx]at hd;rw[←hd];exact hlt.2.1) (by simp[V,VL])
  have Si:(a1.put o1.dst (.tuple #[.bool false])).eval (.tmp o.nx)=.tuple #[.bool false]:=by
   rw[p9]
   simp[Act.put,Act.eval,Array.getD_eq_getD_getElem?,Array.getElem?_setIfInBounds_self_of_lt (JH hlt.2.1 TP)]
  refine Ub hget.2 p16 GkW (v:=.bool false) (w':=w1) (by simp[execOp,p6,Si,Instr.extract]) ?_
  have hR2:ER [] ν N ((E.upd o.nx (.Ju [.bool false])).upd o.more (.bool false)) ((a1.put o1.dst (.tuple #[.bool false])).put o2.dst (.bool false)):=by
   rw[p10];exact RN.put (dst:=some o.more) (fun d hd=>by simp only[Gx]at hd;rw[←hd];exact hlt.2.2.1) (by simp[V])
  show Exit.then _ _ .normal _ _
  refine wpIn_seq (wpIn_cond (t:=false) ?_ ?_)
  ·have:=hR2.val o.more
   rw[Og]at this
   simp only[V]at this
   rw[p12];exact this
  ·simp only[Bool.false_eq_true,if_false]
   refine wpIn_exit ?_
   have hle0:left=[]:=by
    have:(leftOf xs seen).toList=[]:=Bo (by simpa using hl0)
    rw[this]at hMR
    exact hMR.GjH
   subst hle0
   have:=finish (.normal,_,H) .normal _ w1 ν seen c0 rfl hall.nil hS hR2 hE hfz hmb O5 hE.len
   simp only at this
   show Exit.then _ _ (.exit l.Tj) _ _
   show Exit.inBlock l.out _ (.exit l.Tj) _ _
   simp only[Exit.inBlock,p13,if_true]
   exact this
 ·
  obtain⟨s,t,hs1,hs2⟩:=GbB hst.2.1 hx
  rw[hs1]at hMR
  obtain⟨cs1,c,cs2,rfl,Grr,kd,kn,vv,rfl,hkey,hval⟩:=hMR.split
  obtain⟨u,hu1,hu2,hu3,hu4,hu5⟩:=hall.step
  have GgN:w2.heap=w1.heap∧w2.os=w1.os∧w2.tape=w1.tape∧w2.output=w1.output:=by rcases hw2 with rfl|rfl<;>exact⟨rfl,rfl,rfl,rfl⟩
  have hS2:St (fun c=>if c=rb then some (.mapIter (some mt.c) cl (seen.push x.born) cl)else K c) (Yb B mt.c (.map xs cl)) L ν H (ChangeMaps.setBlock w2 rb (.mapIter (some mt.c) cl (seen.push x.born) cl)):=by
   have h1:=(hS.Nh.same GgN.1 GgN.2.1 GgN.2.2.1 GgN.2.2.2).Gel (c:=rb) (if_pos rfl) hrb (.mapIter (some mt.c) cl (seen.push x.born) cl)
   refine⟨h1.less fun c ob hc=>?_,hS.dom⟩
   dsimp only at hc⊢
   by_cases hcr:c=rb
   ·rw[if_pos hcr]at hc⊢;exact hc
   ·rw[if_neg hcr]at hc⊢;rw[if_neg hcr];exact hc
  generalize hw3:ChangeMaps.setBlock w2 rb (.mapIter (some mt.c) cl (seen.push x.born) cl)=w3 at hrun hS2
  have hrow3:w3.heap[rb]?=some (.mapIter (some mt.c) cl (seen.push x.born) cl):=hS2.Nh.kept rb _ (if_pos rfl)
  have Glg:w3.heap[mt.c]?=some (.map xs cl):=by
   obtain⟨ob,g1,g2,-,-⟩:=hS2.Nh.mp mb _ mt hfz rfl hmb
   obtain⟨xs',cl',rfl,-,-,g3⟩:=g2.map rfl
   have:=g3 rfl
   simp only[Yb,if_true]at this
   rw[g1,this]
  have hent:=run_entry_at (P:=P) w3 rb mt.c cl seen xs cl x hrow3 Glg (mem_left hx).1 hst.2.1
  refine Ub hget.1 p15 Gll (v:=.tuple #[.bool true,x.key,x.val]) (w':=w3) (by simp[execOp,p5,hiv,hrun]) ?_
  have RN:ER [] ν N (E.upd o.nx (.Ju [.bool true,.int kd kn,vv])) (a1.put o1.dst (.tuple #[.bool true,x.key,x.val])):=by
   rw[p9];exact hR.put (dst:=some o.nx) (fun d hd=>by simp only[Gx]at hd;rw[←hd];exact hlt.2.1) (by
    simp only[V,VL]
    exact⟨_,rfl,_,_,rfl,rfl,_,_,rfl,hkey,_,_,rfl,hval,rfl⟩)
  have Si:(a1.put o1.dst (.tuple #[.bool true,x.key,x.val])).eval (.tmp o.nx)=.tuple #[.bool true,x.key,x.val]:=by
   rw[p9]
   simp[Act.put,Act.eval,Array.getD_eq_getD_getElem?,Array.getElem?_setIfInBounds_self_of_lt (JH hlt.2.1 TP)]
  refine Ub hget.2 p16 GkW (v:=.bool true) (w':=w3) (by simp[execOp,p6,Si,Instr.extract]) ?_
  have hR2:ER [] ν N ((E.upd o.nx (.Ju [.bool true,.int kd kn,vv])).upd o.more (.bool true)) ((a1.put o1.dst (.tuple #[.bool true,x.key,x.val])).put o2.dst (.bool true)):=by
   rw[p10];exact RN.put (dst:=some o.more) (fun d hd=>by simp only[Gx]at hd;rw[←hd];exact hlt.2.2.1) (by simp[V])
  show Exit.then _ _ .normal _ _
  refine wpIn_seq (wpIn_cond (t:=true) ?_ ?_)
  ·have:=hR2.val o.more
   rw[Og]at this
   simp only[V]at this
   rw[p12];exact this
  ·simp only[if_true]
   refine wpIn_skip ?_
   show Exit.then _ _ .normal _ _
   generalize ha2:(a1.put o1.dst (.tuple #[.bool true,x.key,x.val])).put o2.dst (.bool true)=a2 at hR2
   have GmZ:a2.eval (.tmp o.it)=.pointer (some ⟨rb,0,none⟩):=by
    have:=hR2.val o.it
    rw[Gfl p19,Gfl p18,hit]at this
    simp only[V]at this
    obtain⟨mm,h1,h2⟩:=this
    rw[hνr]at h1
    simp only[Gx]at h1
    subst h1
    exact h2
   refine wpIn_block ?_
   rw[KM]at hu1
   dsimp only at hu1
   rw[GR]at hu1
   obtain⟨u1,hu1,rfl⟩:=hu1
   rw[KM]at hu1
   dsimp only at hu1
   rw[Jt]at hu1
   obtain⟨u0,hu0,hu1⟩:=hu1
   cases n with
   |zero=>cases hu0
   |succ n=>
   rw[KM]at hu0
   dsimp only at hu0
   rw[GR]at hu0
   obtain⟨v0,hv0,rfl⟩:=hu0
   dsimp only at hu1 hu2 hu3 hu4 hu5
   have huL:u1.2.2.length≤L:=by
    by_cases hn:(u1.1.inBlock l.Xc)=.normal
    ·have h1:=hu4 hn (cs1++cs2) (List.Perm.refl _)
     unfold LA at h1
     rw[GR]at h1
     obtain⟨y,hy,rfl⟩:=h1
     rw[Jt]at hy
     obtain⟨z,hz1,hy⟩:=hy
     have g1:=Vo (fun E H r h=>Kg _ _ h) hz1
     have g2:=Q7 (R:=ev (Kn P) (n+1+2) rr) (fun E H r h=>Kg _ _ h) hy
     simp only[List.length_set]at g2
     dsimp only at hL
     have Gq1:=Kg _ _ hu1
     have Grf:=UG (QV _ _) hv0
     have:=hE.len
     rw[Ki oM]at hL
     omega
    ·have h1:=hu5 hn
     unfold LA at h1
     rw[Option.bind_some,GR]at h1
     obtain⟨y,hy,rfl⟩:=h1
     have g2:=Q7 (R:=ev (Kn P) (n+1+2) rr) (fun E H r h=>Kg _ _ h) hy
     simp only[List.length_set]at g2
     dsimp only at hL
     have Gq1:=Kg _ _ hu1
     have Grf:=UG (QV _ _) hv0
     have:=hE.len
     rw[Ki oM]at hL
     omega
   have hvL:v0.2.length≤L:=Jr (Kg _ _ hu1) huL
   refine wpIn_seq (wpIn_region ?_)
   have hops:List.range l.ZC.size=0::(List.range' 1 (l.ZC.size-1)++[]):=by
    have:0<l.ZC.size:=(N7.1 p3).1
    rw[List.append_nil,List.range_eq_range',show l.ZC.size=(l.ZC.size-1)+1 from by omega,List.range'_succ]
    simp
   rw[hops]
   refine Ub p3 p17 Gr2 (v:=.tuple #[x.key,x.val]) (w':=w3) (by simp[execOp,p7,GmZ,hent]) ?_
   have hR3:ER [] ν N (RM.beg ⟨m,o.it,o.nx,o.more,o.pair,l.out,live⟩ (.Ju [.int kd kn,vv]) E) (a2.put e.dst (.tuple #[x.key,x.val])):=by
    rw[p11];exact hR2.put (dst:=some o.pair) (fun d hd=>by simp only[Gx]at hd;rw[←hd];exact hlt.2.2.2) (by
     simp only[V,VL]
     exact⟨_,rfl,_,_,rfl,hkey,_,_,rfl,hval,rfl⟩)
   have hB':Sj P (Yb B mt.c (.map xs cl)):=⟨hBr.rnd,hBr.glob⟩
   refine Oe (hF n oM) hB' (QV _ _) (List.range' 1 (l.ZC.size-1)) Ga ?_ ?_ _ H ν _ w3 v0 hv0 hvL hS2 hR3 fun ν4 a4 w4 hS4 hR4 hE4=>?_
   ·have:=Kv has
    simp at this
    simp[this]
   ·intro j i st hj hst'
    have h1:=KU has hst'
    rw[Ke,GR]at h1
    obtain⟨oo,hoo,hco⟩:=h1
    have hjl:j<l.ZC.size-1:=by have:=(Ni.1 hj).1;simpa using this
    rw[List.getElem?_range' hjl]at hj
    simp only[Gx]at hj
    subst hj
    refine⟨oo,?_,hco⟩
    rw[List.getElem?_tail]at hoo
    rw[←EM,←hoo]
    congr 1
    omega
   ·show Exit.then _ _ .normal _ _
    refine wpIn_mono (Es hm hB' (fun k hk=>hF k oM) hcc hu1 huL hS4 hR4) fun xx a5 w5 h5=>?_
    obtain⟨ν5,hx5,hS5,hR5,hE5⟩:=h5
    have hE6:Ext L H0 ν0 u1.2.2 ν5:=hE.trans (hE4.trans hE5)
    have hmono:∀b m,ν b=some m→ν5 b=some m:=fun b m h=>hE5.mono hS4 b m (hE4.mono hS2 b m h)
    have go:∀(hn:u1.1.inBlock l.Xc=.normal),(∃k,J k a5 w5)∧(if h:∃k,J k a5 w5 then(least h).choose else 0)<k:=by
     intro hn
     have hJ:J (cs1++cs2).length a5 w5:=⟨cs1++cs2,u1.2.1,u1.2.2,ν5,seen.push x.born,cl,rfl,hu4 hn,hS5,hR5,hE6,by rw[hs2];exact Grr.mono hmono,Nat.le_refl _,hu2,hu3,hmono _ _ hνr,hmono _ _ hmb,O5⟩
     refine⟨⟨_,hJ⟩,?_⟩
     rw[dif_pos ⟨_,hJ⟩]
     have h1:=(least (p:=fun k=>J k a5 w5) ⟨_,hJ⟩).choose_spec.2 _ hJ
     have h2:(cs1++cs2).length<k:=by rw[←hk];simp
     omega
    have stop:∀(hn:u1.1.inBlock l.Xc≠.normal)(xx:Exit),XR (u1.1.inBlock l.Xc) xx→_:=fun hn xx hxx=>finish (u1.1.inBlock l.Xc,u1.2) xx a5 w5 ν5 (seen.push x.born) cl hxx (hu5 hn) hS5 hR5 hE6 hu2 (hmono _ _ hmb) O5 hE6.len
    obtain⟨cx,E5,H5⟩:=u1
    cases cx with
    |normal=>
     simp only[XR]at hx5;subst hx5
     exact go rfl
    |exit id=>
     simp only[XR]at hx5;subst hx5
     by_cases hid:id=l.Xc
     ·have hb:(CX.exit id).inBlock l.Xc=.normal:=by simp[CX.inBlock,hid]
      simp only[Exit.then,Exit.inBlock,hid,if_true]
      exact go hb
     ·have hb:(CX.exit id).inBlock l.Xc=.exit id:=by simp[CX.inBlock,hid]
      simp only[Exit.then,Exit.inBlock,hid,if_false]
      have:=stop (by rw[hb];simp) (.exit id) (by rw[hb];rfl)
      exact this
    |ret=>
     simp only[XR]at hx5;subst hx5
     have hb:CX.ret.inBlock l.Xc=.ret:=rfl
     exact stop (by rw[hb];simp) .ret (by rw[hb];rfl)
theorem GcS{c:Code}{l:M9}(h:Gdu c=some l):c=l.of:=by
 unfold Gdu at h
 split at h
 ·simp only[Gx]at h;subst h;rfl
 ·cases h
theorem OZ{H:Gb}{c:CV}{b:Nat}{es:List CV}(h:mapOf H c=some (b,es)):c=.GU b∧H[b]?=some ⟨es,.map,0⟩∧VY es=false:=by
 unfold mapOf at h
 split at h
 ·rename_i b'
  split at h
  ·rename_i es' hb
   split at h
   ·cases h
   ·rename_i hz
    simp only[Gx,Prod.mk.injEq]at h
    obtain⟨rfl,rfl⟩:=h
    exact⟨rfl,hb,by simpa using hz⟩
  ·cases h
 ·cases h
theorem Ql.later{H H1:Gb}{ν ν1:Mu}{live:List Nat}{r:CX×Env×Gb}(h:Ext L H ν H1 ν1){x:Exit}{a:Act}{w:World}(hq:Ql K B L H1 ν1 live r x a w):Ql K B L H ν live r x a w:=by
 obtain⟨ν',h1,h2,h3,h4⟩:=hq
 exact⟨ν',h1,h2,h3,h.trans h4⟩
theorem GdU(hm:P.follows .mixedOrders=true)(hBr:Sj P B){f:Nat}{live:List Nat}:∀(c:Code)(n:Nat),(∀k,k<n→Ei P (Kq (Kn P) k))→∀(cc:Gu)(E:Env)(H:Gb)(r:CX×Env×Gb),Z_ P f N live c=some cc→ev (Kn P) n cc E H=some r→r.2.2.length≤L→
  ∀(ν:Mu)(a:Act)(w:World),St K B L ν H w→ER [] ν N E a→c.wpIn (Fr none) 0 P (Ql K B L H ν live r) a w:=by
 intro c
 induction c with
 |seq x y ihx ihy=>
  intro n hF cc E H r hc he hL ν a w hS hR
  unfold Z_ at hc
  cases n with
  |zero=>cases he
  |succ n=>
  split at hc
  ·rename_i l hl
   have:=GcS hl
   subst this
   simp only[Jt]at hc
   obtain⟨o,ho,kz,hT,m,hom,pre,hpre,Ga,has,c',hc',rr,hrr,hc⟩:=hc
   obtain⟨hg,hc⟩:=G_ hc
   simp only[Gx]at hc
   subst hc
   simp only[JQ,decide_eq_true_eq]at hg
   obtain⟨⟨⟨g1,g2⟩,g3⟩,g4⟩:=hg
   obtain⟨rg,o1,o2,e,p1,p2,p3,p4,p5,p6,p7,p8,p9,p10,p11,p12,p13,p14,p15,p16,p17,p18,p19,p20,p21,p22,p23⟩:=WY ho
   rw[KM]at he
   dsimp only at he
   rw[Jt]at he
   obtain⟨q0,hq0,he⟩:=he
   cases n with
   |zero=>cases hq0
   |succ n=>
   rw[KM]at hq0
   dsimp only at hq0
   rw[GR]at hq0
   obtain⟨⟨E1,H1⟩,hv,rfl⟩:=hq0
   dsimp only at he
   rw[KM]at he
   dsimp only at he
   have he:=ZI (fun E H=>VR (Kn P) (show n≤n+2 by omega) _ E H) (fun E H=>VR (Kn P) (show n≤n+2 by omega) _ E H) _ _ _ _ _ he
   obtain⟨mb,es,hmo,hall⟩:=Nk.1 he
   obtain⟨hmv,hmb,hz⟩:=OZ hmo
   have hlen1:H1.length+1≤L:=by
    have h1:=hall es (List.Perm.refl _)
    unfold KH at h1
    rw[GR]at h1
    obtain⟨y,hy,rfl⟩:=h1
    rw[Jt]at hy
    obtain⟨u,hu,hy⟩:=hy
    have k1:=Vo (fun E H r h=>Kg _ _ h) hu
    have k2:=Q7 (R:=ev (Kn P) (n+2) rr) (fun E H r h=>Kg _ _ h) hy
    simp only[Nq,List.length_cons,List.length_nil,List.length_set]at k1 k2
    dsimp only at hL
    rw[Ki oM]at hL
    omega
   refine wpIn_seq (wpIn_seq (wpIn_region ?_))
   have hsz:0<l.ops.size:=by
    rcases Nat.eq_zero_or_pos l.ops.size with h|h
    ·rw[Array.back?_eq_getElem?,h]at p1
     simp[Array.eq_empty_of_size_eq_zero h]at p1
    ·exact h
   have hops:List.range l.ops.size=List.range (l.ops.size-1)++[l.ops.size-1]:=by
    rw[←List.range_succ];congr 1;omega
   rw[hops]
   refine Oe (hF n oM) hBr (QV _ _) (List.range (l.ops.size-1)) pre ?_ ?_ _ H ν _ w (E1,H1) hv (by dsimp only;omega) hS hR fun ν1 a1 w1 hS1 RN hE1=>?_
   ·have:=Kv hpre
    simp at this
    simp[this]
   ·intro j i st hj hst'
    have h1:=KU hpre hst'
    rw[Ke,GR]at h1
    obtain⟨oo,hoo,hco⟩:=h1
    have hjl:j<l.ops.size-1:=by have:=(Ni.1 hj).1;simpa using this
    rw[ZG hjl]at hj
    simp only[Gx]at hj
    subst hj
    refine⟨oo,?_,hco⟩
    rw[List.getElem?_dropLast]at hoo
    split at hoo
    ·rw[←EM];exact hoo
    ·cases hoo
   ·dsimp only at hS1 RN hE1
    have hmV:=Jl hom (fun t _=>RN.val t)
    rw[hmv]at hmV
    simp only[V]at hmV
    obtain⟨mt,hmt,hev⟩:=hmV
    obtain⟨ob,Vj,GiQ,hBm,hKm⟩:=hS1.Nh.mp mb _ mt hmb rfl hmt
    obtain⟨xs,cl,rfl,hMR,hst,-⟩:=GiQ.map rfl
    rw[V8 hz]at hMR
    obtain⟨kt,et,_,_,hut,-⟩:=Vd hT
    have hrun:=run_range_map (P:=P) w1 o.t kt et mt.c xs cl hut Vj
    have hrg:l.ops[l.ops.size-1]?=some rg:=by rw[←Array.back?_eq_getElem?];exact p1
    refine Ub hrg p14 (fun c h=>by rw[p4]at h;cases h) (v:=.pointer (some ⟨w1.heap.size,0,none⟩)) (w':=w1.alloc (.mapIter (some mt.c) cl #[] cl)) (by simp[execOp,p4,hev,hrun]) ?_
    show Exit.then _ _ .normal _ _
    have hfree:=hS1.Nh.free
    have O5:=(Ni.1 hmb).1
    let ν2:Mu:=ν1.set H1.length ⟨w1.heap.size,0,0,0⟩
    have hmono:∀b m,ν1 b=some m→ν2 b=some m:=by
     intro b m hm
     have hb:b≠H1.length:=fun e=>by rw[e,hS1.dom _ (Nat.le_refl _) oM]at hm;cases hm
     show ν1.set _ _ b=_
     rw[Mu.J4 _ _ hb];exact hm
    have hsame:∀b,b≠H1.length→ν2 b=ν1 b:=fun b hb=>Mu.J4 _ _ hb
    have h1:=(hS1.Nh.freeze hmb hz hmt Vj).alloc (.mapIter (some mt.c) cl #[] cl)
    have h2:=(h1.congr (ν:=ν2) (fun b hb=>hsame b (by simp at hb;omega)) hmono).Gfb
    have hS2:St (fun c=>if c=w1.heap.size then some (.mapIter (some mt.c) cl #[] cl)else K c) (Yb B mt.c (.map xs cl)) L ν2 (H1.set mb ⟨[.agg es],.map,0⟩++[⟨[],.dead,0⟩]) (w1.alloc (.mapIter (some mt.c) cl #[] cl)):=
     ⟨h2,fun b hb hl=>by simp at hb;rw[hsame b oM];exact hS1.dom b oM hl⟩
    have hR2:ER [] ν2 N (E1.upd o.it (.ptr H1.length 0)) (a1.put rg.dst (.pointer (some ⟨w1.heap.size,0,none⟩))):=by
     rw[p8]
     refine(RN.mono hmono).put (dst:=some o.it) (fun d hd=>by simp only[Gx]at hd;rw[←hd];exact g1) ?_
     simp only[V]
     exact⟨_,Mu.set_self _ _ _,rfl⟩
    have hE2:Ext L H1 ν1 (H1.set mb ⟨[.agg es],.map,0⟩++[⟨[],.dead,0⟩]) ν2:=⟨sM,fun b hb=>hsame b oM,fun b hb=>hsame b oM⟩
    refine wpIn_mono (R4 (K:=K) (B:=B) (L:=L) (N:=N) hm hBr (n:=n) (fun k hk=>hF k oM) ho has hc' hrr (live:=live) ⟨g1,g2,g3,g4⟩ (mb:=mb) (es:=es) (r:=r) hz hL (H0:=H1) (ν0:=ν1) (mt:=mt) (rb:=w1.heap.size) hS1.Nh.base.size hfree hst (q:=_) rfl _ _
     ⟨es,_,_,ν2,#[],cl,fun l' hl'=>hall l' hl',hS2,hR2,hE2,?_,Nat.le_refl _,?_,Og,Mu.set_self _ _ _,hmono _ _ hmt,O5⟩) fun x a w hx=>?_
    ·have:(leftOf xs #[]).toList=xs.toList:=by simp[leftOf]
     rw[this];exact hMR.mono hmono
    ·rw[QN (by simpa using O5),KI O5]
    ·cases x with
     |normal=>exact wpIn_mono hx fun x a w h=>Ql.later hE1 h
     |_=>exact Ql.later hE1 hx
  ·rename_i hl
   simp only[Jt,GR]at hc
   obtain⟨x',hx',y',hy',rfl⟩:=hc
   rw[KM]at he
   dsimp only at he
   rw[Jt]at he
   obtain⟨q,hq,he⟩:=he
   have hqL:q.2.2.length≤L:=by
    split at he
    ·exact Jr (Kg _ n he) hL
    ·simp only[Gx]at he;subst he;exact hL
   refine wpIn_seq (wpIn_mono (Es hm hBr (fun k hk=>hF k oM) hx' hq hqL hS hR) fun e a1 w1 h1=>?_)
   obtain⟨ν1,hx1,hS1,RN,hE1⟩:=h1
   obtain⟨cx,E1,H1⟩:=q
   cases cx with
   |normal=>
    simp only[XR]at hx1;subst hx1
    exact wpIn_mono (ihy n (fun k hk=>hF k oM) y' E1 H1 r hy' he hL ν1 a1 w1 hS1 RN) fun x a w h=>Ql.later hE1 h
   |exit id=>
    simp only[Gx]at he;subst he
    simp only[XR]at hx1;subst hx1
    exact⟨ν1,rfl,hS1,⟨RN.defers,fun t _=>RN.val t⟩,hE1⟩
   |ret=>
    simp only[Gx]at he;subst he
    simp only[XR]at hx1;subst hx1
    exact⟨ν1,rfl,hS1,⟨RN.defers,fun t _=>RN.val t⟩,hE1⟩
 |_=>intro n hF cc E H r hc;simp[Z_]at hc
end
end Go.Cs
namespace Go.Cs
open Go Go.RowKit
theorem EX(a:Int):∀l,(Xk a l).Perm (a::l)
 |[]=>.refl _
 |b::l=>by
  unfold Xk
  split
  ·exact .refl _
  ·exact((EX a l).cons b).trans (.swap a b l)
theorem QW:∀l,(Qd l).Perm l
 |[]=>.refl _
 |a::l=>(EX a _).trans ((QW l).cons a)
theorem FY(a:Int):∀l:List Int,l.Pairwise (·≤·)→(Xk a l).Pairwise (·≤·)
 |[],_=>by simp[Xk]
 |b::l,h=>by
  obtain⟨h1,h2⟩:=List.pairwise_cons.1 h
  unfold Xk
  split
  ·rename_i hab
   refine List.pairwise_cons.2 ⟨fun x hx=>?_,h⟩
   rcases List.mem_cons.1 hx with rfl|hx
   ·exact hab
   ·exact Int.le_trans hab (h1 x hx)
  ·rename_i hab
   refine List.pairwise_cons.2 ⟨fun x hx=>?_,FY a l h2⟩
   rcases List.mem_cons.1 ((EX a l).mem_iff.1 hx)with rfl|hx
   ·omega
   ·exact h1 x hx
theorem U2:∀l,(Qd l).Pairwise (·≤·)
 |[]=>.nil
 |a::l=>FY a _ (U2 l)
theorem V_(l:List Int):(Qd l).length=l.length:=(QW l).length_eq
theorem DU{l m:List Int}(hp:m.Perm l)(hs:m.Pairwise (·≤·)):m=Qd l:=
 List.Perm.eq_of_pairwise (le:=fun a b=>a≤b) (fun a b _ _ h1 h2=>Int.le_antisymm h1 h2) hs (U2 l) (hp.trans (QW l).symm)
theorem Qh(l:List Int):l.mergeSort (fun x y=>decide (x≤y))=Qd l:=
 DU (List.mergeSort_perm _ _) (by
  have:=List.pairwise_mergeSort (le:=fun x y:Int=>decide (x≤y)) (fun a b c h1 h2=>by simp at*;omega) (fun a b=>by simp;omega) l
  exact this.imp sM)
theorem FE:∀{cs:List CV}{l:List Int},LZ cs=some l→cs=l.map .i
 |[],l,h=>by simp only[LZ,Gx]at h;subst h;rfl
 |c::cs,l,h=>by
  unfold LZ at h
  split at h
  ·rename_i heq;cases heq
  ·rename_i n r heq
   simp only[List.cons.injEq]at heq
   obtain⟨rfl,rfl⟩:=heq
   rw[GR]at h
   obtain⟨l',h',rfl⟩:=h
   rw[FE h']
   rfl
  ·cases h
def GdX(P:Program)(f:Nat):Prop:=
 (∀(blk off cap:Nat)(zs:List Int)(w:World),Go.Sort.Holds (Value.int .i64) w blk off zs.toArray→blk<w.heap.size→zs.length≤16777216→
  Calls P f #[.slice (some ⟨blk,off,none⟩) zs.length cap] w fun e w'=>e=.returned (.tuple #[])∧∃n os,w'=Go.Sort.grow (Go.Sort.putRow (Value.int .i64) (Go.Sort.ahead w n) blk off (zs.mergeSort fun x y=>decide (x≤y)).toArray) os)∧
 ∀(p:Option Addr)(cap:Nat)(w:World),Calls P f #[.slice p 0 cap] w fun e w'=>e=.returned (.tuple #[])∧w'=w
def GeB(P:Program)(f g:Nat):Prop:=
 ∀(w:World)(Bm b:Nat)(es:Array MapEntry)(cl:Nat)(ks:List Int),w.cell? ⟨Bm,0,none⟩=some (.map (some b))→w.heap[b]?=some (.map es cl)→MapKept.Stamped es cl→es.toList.map (·.key)=ks.map (Value.int .i64)→ks.length≤16777216→ks.all Hg=true→Bm<w.heap.size→
  Calls P f #[.func (.func g) #[] #[.pointer (some ⟨Bm,0,none⟩)]] w fun e w'=>∃v,e=.returned v∧Below w.heap.size w w'∧
   ((ks=[]∧v=.slice none 0 0)∨ks≠[]∧∃c cap arr T,v=.slice (some ⟨c,0,none⟩) ks.length cap∧w.heap.size≤c∧w'.heap[c]?=some (.cells arr T (0,0))∧ks.length≤cap∧arr.size=cap∧arr.toList.take ks.length=(ks.mergeSort fun x y=>decide (x≤y)).map (Value.int .i64))
def D6(P:Program):Prop:=∀f fn,P.funcs[f]?=some fn→(isSort fn=true→GdX P f)∧(isSorted fn=true→∀g,Xg P=some g→GeB P f g)
section
variable {P : Program} {K : Nat → Option Obj} {B : Bs} {L : Nat}
theorem JZ.grow{μ:Mu}{H:Gb}{w:World}(h:JZ K B μ H w)(os:Array Obj):JZ K B μ H (Go.Sort.grow w os):=by
 have old:∀{c:Nat}{o:Obj},w.heap[c]?=some o→(Go.Sort.grow w os).heap[c]?=some o:=fun hc=>by
  rw[Go.Sort.heap_grow_old _ _ (N7.1 hc).1];exact hc
 exact⟨h.base.trans ⟨rfl,rfl,rfl,by simp[Go.Sort.grow],fun q hq=>Go.Sort.heap_grow_old _ _ (JH hq h.base.size)⟩,fun c o hc=>old (h.kept c o hc),fun b k m h1 h2 h3 h4=>by
  obtain⟨arr,T,fz,e1,e2⟩:=h.blk b k m h1 h2 h3 h4
  exact⟨arr,T,fz,old e1,e2⟩,h.inj,fun b k m h1 h2 h3=>by
  obtain⟨ob,e1,e2⟩:=h.mp b k m h1 h2 h3
  exact⟨ob,old e1,e2⟩⟩
theorem GfN{f:Nat}(hc:GdX P f){x:CV}{E:Env}{H:Gb}{r:CV×Gb}(hx:E 0=x)(h:Vu (.Fq (.tmp 0)) E H=some r){ν:Mu}{w:World}(hS:St K B L ν H w){v:Value}(hv:V ν x v):
  r.1=.Ju []∧Calls P f #[v] w fun e w'=>∃v' ν',e=.returned v'∧St K B L ν' r.2 w'∧V ν' (.Ju []) v'∧Ext L H ν r.2 ν':=by
 simp only[Vu,Env.ev,hx]at h
 have hu:V ν (.Ju []) (.tuple #[]):=by simp[V,VL]
 split at h
 ·rename_i b o len cap e tail
  simp only[V]at hv
  obtain⟨m,cap',off,hm,GoX,rfl,hlc,-,hoff,hfit⟩:=hv
  split at h
  ·rename_i h0
   simp only[Gx]at h
   subst h;subst h0
   refine⟨rfl,(hc.2 _ cap' w).mono ?_⟩
   rintro e w' ⟨rfl,rfl⟩
   exact⟨_,ν,rfl,hS,hu,Ext.refl _ _ _⟩
  ·rename_i h0
   split at h
   case isFalse=>cases h
   rename_i hme
   obtain⟨rfl,hmax⟩:=hme
   simp only[Jt,GR]at h
   obtain⟨cs,hcs,l,hl,H',hst,rfl⟩:=h
   have hcl:=FE hl
   subst hcl
   have Zb:off=m.s+o:=hoff.resolve_left oM
   subst Zb
   have hlen:l.length=len:=by
    have:=(hS.Nh.Km hcs hm).1;simpa using this
   subst hlen
   obtain⟨arr,T,hw,Mi,-,GgK,hHl⟩:=hS.Nh.write (vs:=(Qd l).map (Value.int .i64)) hst hm (by
    refine VL.Ac sM fun i c hi=>?_
    rw[Ke,GR]at hi
    obtain⟨z,hz,rfl⟩:=hi
    exact⟨.int .i64 z,by simp[hz],by simp[V]⟩)
   have hcells:∀j z,l[j]?=some z→arr[m.s+o+j]?=some (.int .i64 z):=by
    intro j z hz
    unfold Km at hcs
    split at hcs
    case h_2=>cases hcs
    rename_i blk hb
    split at hcs
    ·cases hcs
    rename_i hmode
    split at hcs
    case isFalse=>cases hcs
    simp only[Gx]at hcs
    have hj:j<l.length:=(Ni.1 hz).1
    have h1:blk.cells[o+j]?=some (.i z):=by
     have:(l.map CV.i)[j]?=some (.i z):=by simp[hz]
     rw[←hcs,Ze,if_pos oM,Yo]at this
     exact this
    obtain⟨arr',T',fz',e1,e2,-⟩:=hS.Nh.blk b blk m hb (fun e=>hmode (.inl e)) (fun e=>hmode (.inr e)) hm
    rw[hw]at e1
    simp only[Gx,Obj.cells.injEq]at e1
    obtain⟨rfl,rfl,rfl⟩:=e1
    obtain⟨u,hu1,hu2⟩:=e2 _ _ h1
    simp only[V]at hu2
    rw[Nat.add_assoc,hu1,hu2]
   have hH:Go.Sort.Holds (Value.int .i64) w m.c (m.s+o) l.toArray:=by
    intro j hj
    have hj':j<l.length:=by simpa using hj
    have hz:=hcells j l[j] (J9 hj')
    refine⟨?_,by simp[World.frozen?,hw]⟩
    simp only[World.cell?,hw,Option.isSome_none,Bool.false_eq_true,if_false]
    rw[hz]
    simp[hj']
   refine⟨rfl,(hc.1 m.c (m.s+o) cap' l w hH (N7.1 hw).1 hmax).mono ?_⟩
   rintro e w' ⟨rfl,n,os,rfl⟩
   rw[Qh]
   refine⟨_,ν,rfl,⟨JZ.grow (GgK.same (w':=Go.Sort.putRow (Value.int .i64) (Go.Sort.ahead w n) m.c (m.s+o) (Qd l).toArray) ?_ rfl rfl rfl) os,fun b' hb' hl'=>hS.dom b' (by dsimp only at hb';omega) hl'⟩,hu,⟨by dsimp only;omega,fun _ _=>rfl,fun _ _=>rfl⟩⟩
   apply Array.ext_getElem?
   intro k
   by_cases hk:k=m.c
   ·subst hk
    rw[setRow_heap w m.c arr _ T (0,0) hw]
    simp only[Go.Sort.putRow,Go.Sort.mapBlock,Go.Sort.ahead,Array.getElem?_modify,if_true,hw,Option.map_some,Go.Sort.onCells,Gx,Obj.cells.injEq,and_true]
    have hsl:=V_ l
    simp only[Wu,hsl]at Mi
    apply Array.ext_getElem?
    intro i
    simp only[Go.Sort.putCells,Array.getElem?_mapIdx,List.size_toArray,hsl,List.getElem?_toArray,Wu]
    have hlt:m.s+o≤arr.toList.length:=by simp;omega
    rcases QU i (m.s+o)with h1|h1
    ·rw[List.append_assoc,QN (by simp;omega),Ze,if_pos h1,EM]
     cases arr[i]? with
     |none=>rfl
     |some y=>rw[Option.map_some,if_neg oM]
    ·rcases QU i (m.s+o+l.length)with h2|h2
     ·rw[List.append_assoc,M_ (by simp;omega),QN (by simp[hsl];omega)]
      rw[O1 oM,Option.map_some,if_pos ⟨h1,h2⟩]
      simp only[List.length_take,Array.length_toList,Nat.min_eq_left (show m.s+o≤arr.size by omega),Ke]
      have h3:i-(m.s+o)<(Qd l).length:=by omega
      rw[J9 h3,Option.map_some]
      simp[h3]
     ·rw[List.append_assoc,M_ (by simp;omega),M_ (by simp[hsl];omega),Yo]
      have h3:m.s+o+l.length+(i-((List.take (m.s+o) arr.toList).length)-((Qd l).map (Value.int .i64)).length)=i:=by simp[hsl];omega
      rw[h3,EM]
      cases arr[i]? with
      |none=>rfl
      |some y=>rw[Option.map_some,if_neg oM]
   ·rw[setRow_other w m.c k _ hk]
    simp[Go.Sort.putRow,Go.Sort.mapBlock,Go.Sort.ahead,Array.getElem?_modify,Ne.symm hk]
 ·simp only[Gx]at h
  subst h
  simp only[V]at hv
  subst hv
  refine⟨rfl,(hc.2 _ 0 w).mono ?_⟩
  rintro e w' ⟨rfl,rfl⟩
  exact⟨_,ν,rfl,hS,hu,Ext.refl _ _ _⟩
 ·cases h
theorem F5{μ:Mu}:∀{es:List CV}{l:List Int}{xs:List MapEntry},keysOf es=some l→JY μ es xs→xs.map (·.key)=l.map (Value.int .i64)
 |[],l,xs,h,hr=>by
  simp only[keysOf,Gx]at h;subst h
  simp only[JY]at hr;subst hr;rfl
 |e::es,l,xs,h,hr=>by
  obtain⟨k,n,v,x,rest,rfl,rfl,h3,-,-,h6⟩:=hr
  unfold keysOf at h
  split at h
  ·rename_i heq;cases heq
  ·rename_i n' y r heq
   simp only[List.cons.injEq,CV.Ju.injEq,CV.int.injEq,and_true]at heq
   obtain⟨⟨⟨rfl,rfl⟩,rfl⟩,rfl⟩:=heq
   rw[GR]at h
   obtain⟨l',h',rfl⟩:=h
   rw[List.map_cons,List.map_cons,h3,F5 h' h6]
  ·cases h
theorem JZ.below{μ:Mu}{H:Gb}{w w':World}(h:JZ K B μ H w)(hb:Below w.heap.size w w'):JZ K B μ H w':=by
 have old:∀{c:Nat}{o:Obj},w.heap[c]?=some o→w'.heap[c]?=some o:=fun hc=>by
  rw[hb.block _ (N7.1 hc).1];exact hc
 exact⟨⟨hb.os.trans h.base.os,hb.tape.trans h.base.tape,hb.output.trans h.base.output,Jr h.base.size hb.size,fun k hk=>by rw[hb.block k (JH hk h.base.size)];exact h.base.block k hk⟩,fun c o hc=>old (h.kept c o hc),fun b k m h1 h2 h3 h4=>by
  obtain⟨arr,T,fz,e1,e2⟩:=h.blk b k m h1 h2 h3 h4
  exact⟨arr,T,fz,old e1,e2⟩,h.inj,fun b k m h1 h2 h3=>by
  obtain⟨ob,e1,e2⟩:=h.mp b k m h1 h2 h3
  exact⟨ob,old e1,e2⟩⟩
theorem GfL{f g:Nat}(hc:GeB P f g){x:CV}{E:Env}{H:Gb}{r:CV×Gb}(hx:E 0=x)(h:Vu (.KL g (.tmp 0)) E H=some r){ν:Mu}{w:World}(hL:r.2.length≤L)(hS:St K B L ν H w){v:Value}(hv:V ν x v):
  Calls P f #[v] w fun e w'=>∃v' ν',e=.returned v'∧St K B L ν' r.2 w'∧V ν' r.1 v'∧Ext L H ν r.2 ν':=by
 simp only[Vu,Env.ev,hx]at h
 split at h
 case h_2=>cases h
 rename_i f' b
 split at h
 case isFalse=>cases h
 rename_i hfg
 subst hfg
 split at h
 case h_2=>cases h
 rename_i m' hb
 simp only[Jt]at h
 obtain⟨⟨mb,es⟩,hmo,l,hl,h⟩:=h
 obtain⟨rfl,hmb,hz⟩:=OZ hmo
 simp only[V,VL]at hv
 obtain⟨vs,rfl,u,rest,hvs,⟨mt,hmt,rfl⟩,rfl⟩:=hv
 have Grg:vs=#[.pointer (some ⟨mt.c,mt.s+0,none⟩)]:=by rw[←Array.toArray_toList (xs:=vs),hvs]
 subst Grg
 obtain⟨arr,T,fz,hw,hcell,hrw,-⟩:=hS.Nh.blk b _ mt hb (fun e=>by cases e) (fun e=>by cases e) hmt
 obtain⟨-,-,hs0,rfl,-,-⟩:=hrw rfl
 have hs:mt.s=0:=hs0.1 rfl
 obtain⟨v0,hv0,hV0⟩:=hcell 0 _ rfl
 simp only[V]at hV0
 obtain⟨m2,hm2,rfl⟩:=hV0
 obtain⟨ob,Vj,GiQ,-,-⟩:=hS.Nh.mp mb _ m2 hmb rfl hm2
 obtain⟨xs,cl,rfl,hMR,hst,-⟩:=GiQ.map rfl
 rw[V8 hz]at hMR
 rw[hs,Nat.add_zero]at hv0⊢
 have hcl:w.cell? ⟨mt.c,0,none⟩=some (.map (some m2.c)):=by
  simp only[World.cell?,hw,Option.isSome_none,Bool.false_eq_true,if_false]
  exact hv0
 have hks:=F5 hl hMR
 have hmax:l.length≤16777216∧l.all Hg=true:=by
  split at h
  ·rename_i h0
   have:l=[]:=Bo h0
   subst this
   exact⟨sM,rfl⟩
  ·split at h
   ·rename_i hh;exact hh
   ·cases h
 refine(hc w mt.c m2.c xs cl l hcl Vj hst hks hmax.1 hmax.2 (N7.1 hw).1).mono ?_
 rintro e w' ⟨v,rfl,hbel,hcase⟩
 have hSb:=hS.Nh.below hbel
 rcases hcase with⟨rfl,rfl⟩|⟨hne,c,cap,Zg,T2,rfl,hcw,hw2,hcap,harr,htake⟩
 ·simp only[List.length_nil,if_true]at h
  simp only[Gx]at h
  subst h
  exact⟨_,ν,rfl,⟨hSb,hS.dom⟩,by simp[V],Ext.refl _ _ _⟩
 ·by_cases hl0:l.length=0
  ·exact absurd (Bo hl0) hne
  ·rw[if_neg hl0,if_pos hmax]at h
   simp only[Gx]at h
   subst h
   rw[Qh]at htake
   simp only[Nq,List.length_cons,List.length_nil]at hL
   have hfree:∀d,w.heap.size≤d→K d=none:=fun d hd=>by
    cases hk:K d with
    |none=>rfl
    |some o=>have:=(N7.1 (hS.Nh.kept d o hk)).1;omega
   have hk1:JZ (fun d=>if d=c then some (.cells Zg T2)else K d) B ν H w':=by
    refine⟨hSb.base,fun d o hd=>?_,fun b k m h1 h2 h3 h4=>?_,hSb.inj,fun b k m h1 h2 h3=>?_⟩
    ·split at hd
     ·rename_i e;subst e;simp only[Gx]at hd;subst hd;exact hw2
     ·exact hSb.kept d o hd
    ·have hlt:=hS.Nh.there h1 h2 h4
     obtain⟨a1,a2,a3,a4,a5,a6,a7⟩:=hSb.blk b k m h1 h2 h3 h4
     exact⟨a1,a2,a3,a4,a5,fun e=>by obtain⟨c1,c2,c3,c4,c5,c6⟩:=a6 e;exact⟨c1,c2,c3,c4,c5,by rw[if_neg oM];exact c6⟩,a7⟩
    ·have hlt:=hS.Nh.there h1 (by rw[h2];decide) h3
     obtain⟨ob,a1,a2,a3,a4⟩:=hSb.mp b k m h1 h2 h3
     exact⟨ob,a1,a2,a3,by rw[if_neg oM];exact a4⟩
   have hmono:∀b m,ν b=some m→(ν.set H.length ⟨c,0,1,Zg.size⟩) b=some m:=by
    intro b m hm
    have hbn:b≠H.length:=fun e=>by rw[e,hS.dom _ (Nat.le_refl _) oM]at hm;cases hm
    rw[Mu.J4 _ _ hbn];exact hm
   have hk2:=hk1.congr (ν:=ν.set H.length ⟨c,0,1,Zg.size⟩) (fun b hb=>Mu.J4 _ _ oM) hmono
   have hsl:=V_ l
   have hk3:=hk2.adopt (c:=c) (arr:=Zg) (T:=T2) (k:=⟨(Qd l).map .i,.rw,1⟩) (s:=0) sM (Jr hS.Nh.base.size hcw) rfl ⟨fun _=>rfl,by simp[hsl];omega⟩ (Mu.set_self _ _ _) (fun i y hi=>by
    dsimp only at hi
    rw[Ke,GR]at hi
    obtain⟨z,hz',rfl⟩:=hi
    have hil:i<l.length:=by have:=(Ni.1 hz').1;omega
    have h1:(Zg.toList.take l.length)[i]?=some (.int .i64 z):=by rw[htake];simp[hz']
    rw[Ze,if_pos hil,EM]at h1
    exact⟨_,by rw[Nat.zero_add];exact h1,by simp[V]⟩)
   refine⟨_,ν.set H.length ⟨c,0,1,Zg.size⟩,rfl,⟨hk3.less fun d o hd=>?_,fun b' hb' hl'=>?_⟩,?_,⟨sM,fun b' hb'=>Mu.J4 _ _ oM,fun b' hb'=>Mu.J4 _ _ oM⟩⟩
   ·have:d≠c:=fun e=>by rw[e,hfree c hcw]at hd;cases hd
    dsimp only
    rw[if_neg this,if_neg this];exact hd
   ·simp at hb'
    rw[Mu.J4 _ _ oM];exact hS.dom b' oM hl'
   ·simp only[V]
    exact⟨_,cap,0,Mu.set_self _ _ _,rfl,rfl,hcap,by simpa using hcap,.inr rfl,by dsimp only;omega⟩
end
end Go.Cs
namespace Go.Cs
open Go Go.RowKit
section
variable {P : Program} {F : Jp} {K K0 : Nat → Option Obj} {B : Bs} {L N : Nat} {rd : Option Nat} {dp : Nat} {D D0 : List Deferred} {top : Bool}
def YS(tmps:Array Value):ResultVar→Sem Value
 |.tmp t=>pure (tmps.getD t undef)
 |.cell a t=>do loadVar t (←asAddr (tmps.getD a undef))
theorem X_{ν:Mu}{E:Env}{H:Gb}{w:World}{tmps:Array Value}(hS:St K B L ν H w)(hV:∀t,V ν (E t) (tmps.getD t undef)):∀(l:List ResultVar)(rs:List VH)(vs:List CV),J3 (l.map (Uh P))=some rs→Qn E H rs=some vs→
  ∃us,(l.mapM (YS tmps)).run P w=.ok us w∧VL ν vs us
 |[],rs,vs,h,hr=>by
  simp only[List.map_nil,J3,Gx]at h;subst h
  simp only[Qn,Gx]at hr;subst hr
  exact⟨[],sM,by simp[VL]⟩
 |x::l,rs,vs,h,hr=>by
  simp only[List.map_cons]at h
  cases hx:Uh P x with
  |none=>rw[hx]at h;cases h
  |some y=>
   rw[hx]at h
   simp only[J3,GR]at h
   obtain⟨ys,hys,rfl⟩:=h
   simp only[Qn,Jt,GR]at hr
   obtain⟨v,hv,us',GjV,rfl⟩:=hr
   obtain⟨us,hrun,Xd⟩:=X_ hS hV l ys us' hys GjV
   rw[List.mapM_cons]
   cases x with
   |tmp t=>
    simp only[Uh,Gx]at hx;subst hx
    simp only[FQ,Gx]at hv;subst hv
    refine⟨tmps.getD t undef::us,by simp only[YS,Sem.run_bind,Sem.run_pure,Result.andThen_ok,hrun],?_⟩
    simp only[VL]
    exact⟨_,_,rfl,hV t,Xd⟩
   |cell ad t=>
    simp only[Uh,Jt,GR]at hx
    obtain⟨g,hg,n,hn,rfl⟩:=hx
    simp only[FQ]at hv
    split at hv
    ·rename_i b o hb
     have h1:=hV ad
     rw[hb]at h1
     simp only[V]at h1
     obtain⟨m,hm,he⟩:=h1
     obtain⟨v',hr',hV'⟩:=IG (P:=P) hS.Nh hg hn hv hm
     refine⟨v'::us,?_,?_⟩
     ·have h2:(YS tmps (.cell ad t)).run P w=.ok v' w:=by simp only[YS,he,asAddr,Sem.run_bind,Sem.run_pure,Result.andThen_ok,hr']
      simp only[Sem.run_bind,Sem.run_pure,Result.andThen_ok,h2,hrun]
     ·simp only[VL];exact⟨_,_,rfl,hV',Xd⟩
    ·cases hv
theorem JZ.Gjc{μ:Mu}{H:Gb}{w:World}(h:JZ K B μ H w){c:Nat}{o:Obj}(hc:K c=some o)(hB:B.heap.size≤c)(x:Obj):JZ (fun d=>if d=c then none else K d) B μ H (w.putObj c x):=by
 have RG:∀{d:Nat},d≠c→(w.heap.setIfInBounds c x)[d]?=w.heap[d]?:=fun hd=>by simp[Ne.symm hd]
 refine⟨h.base.trans ⟨rfl,rfl,rfl,by simp[World.putObj],fun q hq=>RG oM⟩,fun d y hy=>?_,fun b blk m h1 h2 h3 h4=>?_,h.inj,fun b blk m h1 h2 h3=>?_⟩
 ·split at hy
  ·cases hy
  ·rename_i hd;exact(RG hd).trans (h.kept d y hy)
 ·have hne:=h.Y8 hc hB h1 h2 h4
  obtain⟨arr,T,fz,e1,e2,e3,e4⟩:=h.blk b blk m h1 h2 h3 h4
  exact⟨arr,T,fz,(RG hne).trans e1,e2,fun e=>by obtain⟨c1,c2,c3,c4,c5,c6⟩:=e3 e;exact⟨c1,c2,c3,c4,c5,by rw[if_neg hne];exact c6⟩,e4⟩
 ·have hne:=h.Y8 hc hB h1 (by rw[h2];decide) h3
  obtain⟨ob,e1,e2,e3,e4⟩:=h.mp b blk m h1 h2 h3
  exact⟨ob,(RG hne).trans e1,e2,e3,by rw[if_neg hne];exact e4⟩
theorem Fu{fn:Func}{tmps:Array Value}{R:Ending→World→Prop}{n:Nat}{ν:Mu}{H:Gb}:∀(rs:List Nat)(K':Nat→Option Obj)(w:World),rs.Nodup→(∀r∈rs,K' r=some (.deferred (some []))∧K r=none∧B.heap.size≤r)→Pd K K'→St K' B L ν H w→
  (∀w',St K B L ν H w'→∃v,(Go.results fn tmps).run P w'=.ok v w'∧R (.returned v) w')→LeavesInM Fence.wide n P fn tmps R (rs.map fun r=>{target:=.collected r,args:=#[]}) .returning w
 |[],K',w,_,_,hK,hS,hR=>hR w ⟨hS.Nh.less hK,hS.dom⟩
 |r::rs,K',w,hn,hrs,hK,hS,hR=>by
  obtain⟨h1,h2,h3⟩:=hrs r NC
  refine⟨sM,.inl ⟨r,_,rfl,run_takeDeferred (hS.Nh.kept r _ h1),?_⟩⟩
  refine Fu rs (fun d=>if d=r then none else K' d) _ (List.nodup_cons.1 hn).2 (fun r' hr'=>?_) (fun c o hc=>?_) ⟨hS.Nh.Gjc h1 h3 _,hS.dom⟩ hR
  ·have hne:r'≠r:=fun e=>(List.nodup_cons.1 hn).1 (e▸hr')
   obtain⟨g1,g2,g3⟩:=hrs r' (Um _ hr')
   exact⟨by rw[if_neg hne];exact g1,g2,g3⟩
  ·have hne:c≠r:=fun e=>by rw[e,h2]at hc;cases hc
   exact(if_neg hne).trans (hK c o hc)
theorem ER.entry{ν:Mu}{args:List CV}{tmps:Array Value}(hl:args.length≤N)(hs:N≤tmps.size)(hv:∀t,V ν (args.getD t .undef) (tmps.getD t undef)):ER [] ν N (entry args) {tmps,defers:=[]}:=
 ⟨rfl,hs,hv,fun t ht=>by unfold Cs.entry;rw[Qc,En oM];rfl⟩
theorem Tv{z f0:Nat}{fn:Func}{x:Array Tmp×Code×Code}(h:V5 P z=some (f0,fn,x)):P.funcs[f0]?=some fn∧f0=z/2/16:=by
 unfold V5 at h
 rw[Jt]at h
 obtain⟨g,hg,h⟩:=h
 rw[Jt]at h
 obtain⟨c,hc,h⟩:=h
 rw[GR]at h
 obtain⟨y,hy,h⟩:=h
 simp only[Prod.mk.injEq]at h
 obtain⟨rfl,rfl,rfl⟩:=h
 exact⟨hg,rfl⟩
theorem SS{ν:Mu}{E:Env}{H:Gb}{w:World}{tmps:Array Value}(hS:St K B L ν H w){live:List Nat}(hV:∀t∈live,V ν (E t) (tmps.getD t undef)){l:List ResultVar}{rs:List VH}{vs:List CV}(h:J3 (l.map (Uh P))=some rs)(hl:∀r∈rs,r.GbR∈live)(hr:Qn E H rs=some vs):
  ∃us,(l.mapM (YS tmps)).run P w=.ok us w∧VL ν vs us:=by
 induction l generalizing rs vs with
 |nil=>
  simp only[List.map_nil,J3,Gx]at h;subst h
  simp only[Qn,Gx]at hr;subst hr
  exact⟨[],sM,by simp[VL]⟩
 |cons x l ih=>
  simp only[List.map_cons]at h
  cases hx:Uh P x with
  |none=>rw[hx]at h;cases h
  |some y=>
   rw[hx]at h
   simp only[J3,GR]at h
   obtain⟨ys,hys,rfl⟩:=h
   simp only[Qn,Jt,GR]at hr
   obtain⟨v,hv,us',GjV,rfl⟩:=hr
   obtain⟨us,hrun,Xd⟩:=ih hys (fun r hr=>hl r (Um _ hr)) GjV
   have hy:=hl y NC
   rw[List.mapM_cons]
   cases x with
   |tmp t=>
    simp only[Uh,Gx]at hx;subst hx
    simp only[FQ,Gx]at hv;subst hv
    refine⟨tmps.getD t undef::us,by simp only[YS,Sem.run_bind,Sem.run_pure,Result.andThen_ok,hrun],?_⟩
    simp only[VL]
    exact⟨_,_,rfl,hV t hy,Xd⟩
   |cell ad t=>
    simp only[Uh,Jt,GR]at hx
    obtain⟨g,hg,n,hn,rfl⟩:=hx
    simp only[FQ]at hv
    split at hv
    ·rename_i b o hb
     have h1:=hV ad hy
     rw[hb]at h1
     simp only[V]at h1
     obtain⟨m,hm,he⟩:=h1
     obtain⟨v',hr',hV'⟩:=IG (P:=P) hS.Nh hg hn hv hm
     refine⟨v'::us,?_,?_⟩
     ·have h2:(YS tmps (.cell ad t)).run P w=.ok v' w:=by simp only[YS,he,asAddr,Sem.run_bind,Sem.run_pure,Result.andThen_ok,hr']
      simp only[Sem.run_bind,Sem.run_pure,Result.andThen_ok,h2,hrun]
     ·simp only[VL];exact⟨_,_,rfl,hV',Xd⟩
    ·cases hv
theorem Pf{fn:Func}{cc:Gu}{rs:List VH}(hrs:J3 (fn.results.toList.map (Uh P))=some rs){live:List Nat}(hl:∀r∈rs,r.GbR∈live){ν ν':Mu}{H H':Gb}{E':Env}{ms:List Nat}{K':Nat→Option Obj}{w':World}{a:Act}(hnd:ms.Nodup)(hms:∀r∈ms,K' r=some (.deferred (some []))∧K r=none∧B.heap.size≤r)(hK':Pd K K')(hS':St K' B L ν' H' w')
  (hV:∀t∈live,V ν' (E' t) (a.tmps.getD t undef))(hd:a.defers=ms.map (fun r=>{target:=.collected r,args:=#[]}))(hE':Ext L H ν H' ν'){r:CV×Gb}(hr:(Cs.results ⟨fn.ntmps,0,cc,rs⟩ E' H').map (fun v=>(v,H'))=some r):
  LeavesInM Fence.wide 0 P fn a.tmps (fun e w'=>∃v' ν'',e=.returned v'∧St K B L ν'' r.2 w'∧V ν'' r.1 v'∧Ext L H ν r.2 ν'') a.defers .returning w':=by
 rw[GR]at hr
 obtain⟨v,hv,rfl⟩:=hr
 unfold Cs.results at hv
 rw[GR]at hv
 obtain⟨vs,hvs,rfl⟩:=hv
 rw[hd]
 refine Fu (K:=K) (B:=B) (L:=L) (ν:=ν') (H:=H') ms K' w' hnd hms hK' hS' fun w2 hS2=>?_
 obtain⟨us,hrun,Xd⟩:=SS (P:=P) hS2 hV hrs hl hvs
 have hrun':(Go.results fn a.tmps).run P w2=.ok (if h:us.toArray.size=1 then us.toArray[0]else .tuple us.toArray) w2:=by
  show(Array.mapM (YS a.tmps) fn.results >>= fun vs=>pure (if h:vs.size=1 then vs[0]else .tuple vs):Sem Value).run P w2=_
  rw[Array.mapM_eq_mapM_toList]
  simp only[Sem.run_bind,Sem.run_map,hrun,Result.andThen_ok,Sem.run_pure]
 refine⟨_,hrun',_,ν',rfl,hS2,?_,hE'⟩
 match vs,us,Xd with
 |[],us,Xd=>simp only[VL]at Xd;subst Xd;simp[V,VL]
 |[v],us,Xd=>
  simp only[VL]at Xd
  obtain⟨u,rest,rfl,hV,rfl⟩:=Xd
  simpa using hV
 |v1::v2::vs,us,Xd=>
  have hl:=Xd.length
  have h1:¬(us.toArray.size=1):=by simp at hl⊢;omega
  rw[dif_neg h1]
  simp only[V]
  exact⟨_,rfl,by simpa using Xd⟩
theorem GhX{fn:Func}{p:String}{n:Nat}(h:Xj fn.name p n=true)(hd:(p.toList== "runtime.NumGoroutine".toList.take p.toList.length)=false:=by decide +kernel):fn.name≠ "runtime.NumGoroutine" :=by
 intro e
 unfold Xj at h
 rw[e]at h
 simp only[JQ,beq_iff_eq]at h
 rw[←h.1]at hd
 simp at hd
theorem Gf5(hp:D6 P){f:Nat}{fn:Func}(hfn:P.funcs[f]?=some fn) {cf:Gm} (hcf:Gal P fn=some cf) {n:Nat} {args:List CV} {H:Gb} {q:CX×Env×Gb} {r:CV×Gb} (hal:args.length≤cf.n) (hq:ev (Kn P) n cf.body (entry args) H=some q) (hleave:leave cf q=some r):
  (∃fn,P.funcs[f]?=some fn∧fn.name≠ "runtime.NumGoroutine" ∧fn.body.isSome=true)∧
  ∀K B L ν w (args':Array Value),Sj P B→r.2.length≤L→St K B L ν H w→VL ν args args'.toList→Calls P f args' w fun e w'=>∃v' ν',e=.returned v'∧St K B L ν' r.2 w'∧V ν' r.1 v'∧Ext L H ν r.2 ν':=by
 obtain⟨hp1,hp2⟩:=hp f fn hfn
 unfold Gal at hcf
 cases n with
 |zero=>cases hq
 |succ n=>
 have key:∀{x:Ko}{d:Option Nat}{rs:List VH},cf=⟨1,0,.region [⟨d,none,x⟩],rs⟩→∃v,K3 (Kq (Kn P) n) x (entry args) H=some v∧q=(.normal,(entry args).put d v.1,v.2):=by
  intro x d rs e
  subst e
  rw[KM]at hq
  dsimp only at hq
  rw[GR]at hq
  obtain⟨y,hy,rfl⟩:=hq
  simp only[K4,QE,wanted,if_true,Jt,GR]at hy
  obtain⟨z,⟨v,hv,rfl⟩,hy⟩:=hy
  simp only[Gx]at hy
  subst hy
  exact⟨v,hv,rfl⟩
 split at hcf
 ·rename_i hn
  simp only[Gx]at hcf
  obtain⟨v,hv,rfl⟩:=key hcf.symm
  subst hcf
  refine⟨⟨fn,hfn,GhX hn.1,hn.2⟩,fun K B L ν w args' _ hL hS hva=>?_⟩
  have hr:r=(.Ju [],v.2):=by
   simp only[leave,Cs.results,Qn,Option.map_some]at hleave
   simpa using hleave.symm
  subst hr
  match args,args',hva with
  |[],args',hva=>simp only[K3,Vu,Env.ev,entry]at hv;simp at hv
  |[x],args',hva=>
   have hl:=hva.length
   simp only[VL]at hva
   obtain⟨u,rest,h1,h2,rfl⟩:=hva
   have:args'=#[u]:=by rw[←Array.toArray_toList (xs:=args'),h1]
   subst this
   obtain⟨h3,h4⟩:=GfN (hp1 hn.1) (x:=x) (E:=entry [x]) rfl hv hS h2
   exact h4
  |x::y::l,args',hva=>
   simp only[List.length_cons]at hal
   omega
 ·split at hcf
  ·rename_i hn
   rw[GR]at hcf
   obtain⟨g,hg,hcf⟩:=hcf
   obtain⟨v,hv,rfl⟩:=key hcf.symm
   subst hcf
   refine⟨⟨fn,hfn,GhX hn.1,hn.2⟩,fun K B L ν w args' _ hL hS hva=>?_⟩
   have hr:r=v:=by
    simp only[leave,Cs.results,Qn,FQ,Option.map_some,Option.bind_some,Env.put,Env.upd]at hleave
    simpa using hleave.symm
   subst hr
   match args,args',hva with
   |[],args',hva=>simp only[K3,Vu,Env.ev,entry]at hv;simp at hv
   |[x],args',hva=>
    have hl:=hva.length
    simp only[VL]at hva
    obtain⟨u,rest,h1,h2,rfl⟩:=hva
    have:args'=#[u]:=by rw[←Array.toArray_toList (xs:=args'),h1]
    subst this
    exact GfL (hp2 hn.1 g hg) (x:=x) (E:=entry [x]) rfl hv hL hS h2
   |x::y::l,args',hva=>
    simp only[List.length_cons]at hal
    omega
  ·cases hcf
theorem Gex(hm:P.follows .mixedOrders=true)(hp:D6 P):∀n,Ei P (Kq (Kn P) n):=by
 intro n
 induction n using Nat.strongRecOn with
 |_ n ih=>
  intro f args H r h
  refine⟨QV _ n _ _ _ _ h,fun hfb=>?_,fun z N fn ps a c hrnd=>?_⟩
  ·unfold Kq at h
   rw[Jt]at h
   obtain⟨cf,hcf,h⟩:=h
   split at h
   case isFalse=>cases h
   rename_i hal
   rw[Jt]at h
   obtain⟨q,hq,hleave⟩:=h
   unfold Kn at hcf
   rw[if_pos hfb,Jt]at hcf
   obtain⟨fn,hfn,hcf⟩:=hcf
   split at hcf
   ·rename_i cf' GlV
    simp only[Gx]at hcf
    subst hcf
    exact Gf5 hp hfn GlV hal hq hleave
   unfold Sv at hcf
   obtain⟨hname,hcf⟩:=G_ hcf
   rw[Jt]at hcf
   obtain⟨c,hbody,hcf⟩:=hcf
   rw[Jt]at hcf
   obtain⟨rs,hrs,hcf⟩:=hcf
   have Gis:q.2.2=r.2:=(Et hleave).symm
   refine⟨⟨fn,hfn,by simpa using hname,by simp[hbody]⟩,fun K B L ν w args' hBr hL hS hv=>callsIn_wide (n:=0) |>.1 ?_⟩
   refine callsIn_of_wp_marks hfn hbody trivial ?_
   have hlen:args'.size=args.length:=by have:=hv.length;simpa using this
   have hn:cf.n=fn.ntmps∧cf.round=0∧cf.res=rs:=by
    split at hcf
    ·simp only[Gx]at hcf;subst hcf;exact⟨rfl,rfl,rfl⟩
    ·rw[GR]at hcf;obtain⟨b,_,rfl⟩:=hcf;exact⟨rfl,rfl,rfl⟩
   have hR:ER [] ν fn.ntmps (entry args) {tmps:=args'++Array.replicate (fn.ntmps-args'.size) undef,defers:=[]}:=by
    refine ER.entry (by rw[←hn.1];exact hal) (by simp;omega) fun t=>?_
    rcases QU t args.length with ht|ht
    ·have hx:args[t]?=some (args[t]'ht):=J9 ht
     obtain⟨u,hu,hV⟩:=hv.get hx
     have hu':args'[t]?=some u:=by simpa using hu
     rw[Qc,hx,Array.getD_eq_getD_getElem?,Array.getElem?_append_left oM,hu']
     exact hV
    ·rw[Qc,En ht,Array.getD_eq_getD_getElem?,Array.getElem?_append_right oM,Array.getElem?_replicate]
     have:V ν CV.undef undef:=by simp[V,VL,undef]
     split<;>exact this
   have hlive:∀r∈rs,r.GbR∈rs.map VH.GbR:=fun r hr=>List.mem_map_of_mem hr
   split at hcf
   ·rename_i cc hcc
    simp only[Gx]at hcf
    subst hcf
    have hrn:Hl P f fn.ntmps c 0:=fun i x hi hk=>⟨fn,by
     unfold V5
     rw[show(f*16+(0+i))*2/2/16=f from by omega,show(f*16+(0+i))*2/2 % 16=i from by omega,hfn,Option.bind_some,hbody,Option.bind_some,hi]
     rfl,rfl⟩
    refine wpIn_mono (Z7 (rd:=none) (K0:=K) (D0:=[]) (N:=fn.ntmps) hm hBr (f:=f) (top:=true) (fun _=>rfl) n ih c 0 cc (entry args) H q hcc (fun _=>hrn) hq (by rw[Gis];exact hL) K [] ν _ w (Pd.refl K) (Marks.nil K B) (fun h=>by cases h) hS hR) fun x a w' hx=>?_
    obtain⟨ν',K',D',OG,hS',hR',hE',hK',⟨ms,rfl,hnd,hms⟩,-⟩:=hx
    obtain⟨cx,E',H'⟩:=q
    have fin:=fun hr=>Pf (cc:=cc) hrs hlive hnd hms hK' hS' (fun t _=>hR'.val t) hR'.defers hE' (r:=r) hr
    cases cx with
    |normal=>simp only[XR]at OG;subst OG;exact fin hleave
    |ret=>simp only[XR]at OG;subst OG;exact fin hleave
    |exit id=>cases hleave
   ·rename_i hcc
    rw[GR]at hcf
    obtain⟨cc,hcc,rfl⟩:=hcf
    refine wpIn_mono (GdU (N:=fn.ntmps) hm hBr (f:=f) (live:=rs.map VH.GbR) c n ih cc (entry args) H q hcc hq (by rw[Gis];exact hL) ν _ w hS hR) fun x a w' hx=>?_
    obtain⟨ν',OG,hS',⟨hd',hV'⟩,hE'⟩:=hx
    obtain⟨cx,E',H'⟩:=q
    have fin:=fun hr=>Pf (cc:=cc) hrs hlive (ms:=[]) List.nodup_nil (fun _ h=>by cases h) (Pd.refl K) hS' hV' hd' hE' (r:=r) hr
    cases cx with
    |normal=>simp only[XR]at OG;subst OG;exact fin hleave
    |ret=>simp only[XR]at OG;subst OG;exact fin hleave
    |exit id=>cases hleave
  ·obtain⟨hz2,hps,f0,fn0,hat,rfl⟩:=hrnd
   obtain⟨Guv,hf0⟩:=Tv hat
   constructor
   ·rintro rfl
    unfold Kq at h
    rw[Jt]at h
    obtain⟨cf,hcf,h⟩:=h
    split at h
    case isFalse=>cases h
    rename_i hal
    rw[Jt]at h
    obtain⟨q,hq,hleave⟩:=h
    unfold Kn at hcf
    rw[if_neg oM,Nat.add_sub_cancel_left]at hcf
    unfold EA at hcf
    rw[hat,Option.bind_some,if_pos hz2,GR]at hcf
    obtain⟨cc,hcc,rfl⟩:=hcf
    simp only at hal hq hcc
    obtain⟨cx,E',H'⟩:=q
    unfold leave at hleave
    simp only at hleave
    rw[if_neg dE,if_pos trivial]at hleave
    split at hleave
    case h_2=>cases hleave
    simp only[Gx]at hleave
    subst hleave
    refine⟨_,rfl,sM,fun K B L ν w tmps l dp hBr hL hS hv hs=>?_⟩
    refine wpIn_mono (Z7 (rd:=some l) (K0:=K) (D0:=[]) hm hBr (f:=f0) (top:=false) (fun h=>by cases h) n ih a 0 cc (entry args) H _ hcc (fun h=>by cases h) hq hL K [] ν _ w (Pd.refl K) (Marks.nil K B) (fun _=>rfl) hS (ER.entry hal hs hv)) fun x a1 w1 hx=>?_
    obtain⟨ν',K',D',OG,hS',hR',hE',hK',-,hD'⟩:=hx
    have:=hD' rfl
    subst this
    refine⟨ν',OG,hR'.defers,hR'.size,fun t=>?_,⟨hS'.Nh.less hK',hS'.dom⟩,hE'⟩
    rw[Qc]
    rcases QU t fn0.ntmps with ht|ht
    ·rw[Ke,ZG ht];exact hR'.val t
    ·rw[En (by simpa using ht)]
     have:=hR'.val t
     rw[hR'.top t ht]at this
     exact this
   ·rintro rfl
    unfold Kq at h
    rw[Jt]at h
    obtain⟨cf,hcf,h⟩:=h
    split at h
    case isFalse=>cases h
    rename_i hal
    rw[Jt]at h
    obtain⟨q,hq,hleave⟩:=h
    have GmC:V5 P (z+1)=some (f0,fn0,ps,a,c):=by
     rw[←hat]
     unfold V5
     rw[show(z+1)/2=z/2 from by omega]
    unfold Kn at hcf
    rw[if_neg oM,Nat.add_assoc,Nat.add_sub_cancel_left]at hcf
    unfold EA at hcf
    rw[GmC,Option.bind_some,if_neg oM,GR]at hcf
    obtain⟨cc,hcc,rfl⟩:=hcf
    simp only at hal hq hcc
    obtain⟨cx,E',H'⟩:=q
    unfold leave at hleave
    simp only at hleave
    rw[if_pos trivial,Gx]at hleave
    subst hleave
    intro K B L ν w tmps l dp hBr hL hS hv hs
    refine wpIn_mono (Z7 (rd:=some l) (K0:=K) (D0:=[]) hm hBr (f:=f0) (top:=false) (fun h=>by cases h) n ih c 0 cc (entry args) H _ hcc (fun h=>by cases h) hq hL K [] ν _ w (Pd.refl K) (Marks.nil K B) (fun _=>rfl) hS (ER.entry hal hs hv)) fun x a1 w1 hx=>?_
    obtain⟨ν',K',D',OG,hS',hR',hE',hK',-,-⟩:=hx
    refine⟨ν',?_,⟨hS'.Nh.less hK',hS'.dom⟩,hE'⟩
    cases cx with
    |normal=>exact .inl ⟨rfl,OG⟩
    |ret=>exact .inr (.inl ⟨rfl,OG⟩)
    |exit id=>exact .inr (.inr ⟨id,rfl,OG⟩)
end
end Go.Cs
namespace Go.Cs
open Go Go.RowKit
theorem bridge{P:Program}{W:World}(hm:P.follows .mixedOrders=true)(hp:D6 P)(hG:Z0 P W){f:Nat}(hfb:f<RB){args:List CV}{args':Array Value}{H0 H1:Gb}{μ:Mu}{v:CV}
  (h0:∀b blk m,H0[b]?=some blk→blk.mode≠.dead→μ b=some m→blk.mode=.ro∧m.c<W.heap.size∧∃arr T fz,W.heap[m.c]?=some (.cells arr T fz)∧∀(i:Nat)(c:CV),blk.cells[i]?=some c→∃v,arr[m.s+i]?=some v∧V μ c v)
  (hμ:∀b,H0.length≤b→μ b=none) (hrun:run (Kn P) f args H0=some (v,H1)) (hv:VL μ args args'.toList):
  Calls P f args' W fun e w'=>(∃ν v',e=.returned v'∧V ν v v')∧Below W.heap.size W w':=by
 obtain⟨n,hn⟩:=NP.1 hrun
 obtain⟨_,h⟩:=(Gex hm hp n f args H0 (v,H1) hn).2.1 hfb
 have Nh:JZ (fun _=>none) ⟨W,TA P,fun _ _=>False⟩ μ H0 W:=by
  refine⟨Below.refl _ _,(fun c o h=>by cases h),fun b blk m hb hd _ hm=>?_,fun b1 b2 k1 k2 m1 m2 h1 h2 r1 r2 _ e1 e2=>?_,fun b blk m hb hd hm=>?_⟩
  ·obtain⟨q1,q2,arr,T,fz,q3,q4⟩:=h0 b blk m hb hd hm
   exact⟨arr,T,fz,q3,q4,(fun e=>by rw[q1]at e;cases e),fun _=>q2⟩
  ·have:=(h0 b1 k1 m1 h1 (by rcases r1 with r1|r1<;>(rw[r1];decide)) e1).1
   rcases r1 with r1|r1<;>(rw[r1]at this;cases this)
  ·have:=(h0 b blk m hb (by rw[hd];decide) hm).1
   rw[hd]at this;cases this
 refine(h (fun _=>none) ⟨W,TA P,fun _ _=>False⟩ H1.length μ W args' ⟨rfl,hG⟩ (Nat.le_refl _) ⟨Nh,fun b hb _=>hμ b hb⟩ hv).mono fun e w' he=>?_
 obtain⟨v',ν',rfl,hS,hV,_⟩:=he
 exact⟨⟨ν',v',rfl,hV⟩,hS.Nh.base⟩
end Go.Cs
namespace Go.Cs
open Go
section
variable {α : Type} {p : JD} {F : Jp} {E : Env} {H : Gb}
structure Keep{β:Type}(b:β):Type where
def sq(o:Option (CX×Env×Gb))(k:Env→Gb→Option (CX×Env×Gb))(_:Keep k):Option (CX×Env×Gb):=
 o.bind fun r=>match r.1 with|.normal=>k r.2.1 r.2.2|_=>some r
def opk(o:Option (CV×Gb))(k:CV→Gb→Option α)(_:Keep k):Option α:=o.bind fun q=>k q.1 q.2
def gk(v:CV)(b:Bool)(x y:α)(_:Keep (x,y)):α:=match v with|.bool c=>if c=b then x else y|_=>y
def ck(v:CV)(x y:Option α)(_:Keep (x,y)):Option α:=match v with|.bool t=>if t then x else y|_=>none
def Zq(F:Jp)(l:List GZ)(E:Env)(H:Gb)(k:Env→Gb→Option α)(_:Keep (l,k)):Option α:=(K4 F l E H).bind fun q=>k q.1 q.2
theorem Ga5{k:Env→Gb→Option α}{h:Keep (([]:List GZ),k)}:Zq F [] E H k h=k E H:=rfl
theorem WI{d:Option Nat}{op:Ko}{r:List GZ}{k:Env→Gb→Option α}{h:Keep ((⟨d,none,op⟩::r:List GZ),k)}:Zq F (⟨d,none,op⟩::r) E H k h=opk (K3 F op E H) (fun v H'=>Zq F r (E.put d v) H' k ⟨⟩) ⟨⟩:=by
 show(K4 F (⟨d,none,op⟩::r) E H).bind _=_
 unfold K4 QE wanted opk
 simp only[if_true]
 cases K3 F op E H<;>rfl
theorem PO{d:Option Nat}{op:Ko}{t:Nat}{b:Bool}{r:List GZ}{k:Env→Gb→Option α}{h:Keep ((⟨d,some (t,b),op⟩::r:List GZ),k)}:
  Zq F (⟨d,some (t,b),op⟩::r) E H k h=gk (E t) b (opk (K3 F op E H) (fun v H'=>Zq F r (E.put d v) H' k ⟨⟩) ⟨⟩) (Zq F r (E.put d .undef) H k ⟨⟩) ⟨⟩:=by
 show(K4 F (⟨d,some (t,b),op⟩::r) E H).bind _=_
 unfold K4 QE wanted gk opk
 cases hE:E t<;>simp only[hE,Bool.false_eq_true,if_false,Option.bind_some]<;>try rfl
 rename_i c
 by_cases hc:c=b
 ·simp only[hc,beq_self_eq_true,if_true]
  cases K3 F op E H<;>rfl
 ·have:(c==b)=false:=by simpa using hc
  simp only[this,Bool.false_eq_true,if_false,hc,Option.bind_some]
  rfl
noncomputable def Zf(F:Jp)(l:List GQ)(E:Env)(H:Gb)(hs:List Gb)(k:Env→Gb→Option α)(_:Keep (l,k)):Option α:=(AL F l E H hs).bind fun q=>k q.1 q.2
theorem Zr{d:GQ}{r:List GQ}{hs:List Gb}:AL F (d::r) E H hs=(open Classical in
 if wanted d.s.guard E=false then AL F r (E.put d.s.dst .undef) H (if d.kind=3 then H::hs else hs)
 else if d.kind=3 then(K3 F d.s.op E H).bind fun p=>AL F r (E.put d.s.dst p.1) p.2 (H::hs)
 else(GL d.s.op E H).bind fun m=>
  if d.kind=1→∀H'∈hs.take (hs.length-d.low),GL d.s.op E H'=some m then
   AL F r (E.put d.s.dst (made H m).1) (made H m).2 hs else none):=by rw[AL]
theorem Geg{hs:List Gb}{k:Env→Gb→Option α}{h:Keep (([]:List GQ),k)}:Zf F [] E H hs k h=k E H:=rfl
noncomputable def must(c:Prop)(x:Option α)(_:Keep x):Option α:=open Classical in if c then x else none
theorem GbA{x:Option α}{h:Keep x}:must True x h=x:=by unfold must;exact if_pos trivial
theorem GaV{c:Prop}{x:Option α}{k:Keep x}(h:c):must c x k=x:=by unfold must;exact if_pos h
def mk1(o:Option (Option JI×(Nat→CV)))(k:(Option JI×(Nat→CV))→Option α)(_:Keep k):Option α:=o.bind k
theorem Gfq{m:Option JI×(Nat→CV)}{k:(Option JI×(Nat→CV))→Option α}{h:Keep k}:mk1 (some m) k h=k m:=rfl
theorem GiO{d:Option Nat}{op:Ko}{no low:Nat}{r:List GQ}{hs:List Gb}{k:Env→Gb→Option α}{h:Keep ((⟨⟨d,none,op⟩,no,0,low⟩::r:List GQ),k)}:
  Zf F (⟨⟨d,none,op⟩,no,0,low⟩::r) E H hs k h=mk1 (GL op E H) (fun m=>Zf F r (E.put d (made H m).1) (made H m).2 hs k ⟨⟩) ⟨⟩:=by
 unfold Zf mk1
 rw[Zr]
 unfold wanted
 dsimp only
 rw[if_neg sM,if_neg sM]
 cases GL op E H with
 |none=>rfl
 |some m=>simp only[Option.bind_some];rw[if_pos (by intro h;simp at h)]
theorem GiT{d:Option Nat}{op:Ko}{no low:Nat}{r:List GQ}{hs:List Gb}{k:Env→Gb→Option α}{h:Keep ((⟨⟨d,none,op⟩,no,1,low⟩::r:List GQ),k)}:
  Zf F (⟨⟨d,none,op⟩,no,1,low⟩::r) E H hs k h=mk1 (GL op E H) (fun m=>must (∀H'∈hs.take (hs.length-low),GL op E H'=some m) (Zf F r (E.put d (made H m).1) (made H m).2 hs k ⟨⟩) ⟨⟩) ⟨⟩:=by
 unfold Zf mk1 must
 rw[Zr]
 unfold wanted
 dsimp only
 rw[if_neg sM,if_neg sM]
 cases GL op E H with
 |none=>rfl
 |some m=>
  simp only[Option.bind_some]
  by_cases hc:∀H'∈hs.take (hs.length-low),GL op E H'=some m
  ·rw[if_pos (fun _=>hc),if_pos hc]
  ·rw[if_neg (fun h=>hc (h rfl)),if_neg hc];rfl
theorem Gkj{d:Option Nat}{op:Ko}{no low:Nat}{r:List GQ}{hs:List Gb}{k:Env→Gb→Option α}{h:Keep ((⟨⟨d,none,op⟩,no,3,low⟩::r:List GQ),k)}:
  Zf F (⟨⟨d,none,op⟩,no,3,low⟩::r) E H hs k h=opk (K3 F op E H) (fun v H'=>Zf F r (E.put d v) H' (H::hs) k ⟨⟩) ⟨⟩:=by
 unfold Zf opk
 rw[Zr]
 unfold wanted
 dsimp only
 rw[if_neg sM,if_pos rfl]
 cases K3 F op E H<;>rfl
theorem Gj9{d:Option Nat}{op:Ko}{no kind low t:Nat}{b:Bool}{r:List GQ}{hs:List Gb}{k:Env→Gb→Option α}{h:Keep ((⟨⟨d,some (t,b),op⟩,no,kind,low⟩::r:List GQ),k)}:
  Zf F (⟨⟨d,some (t,b),op⟩,no,kind,low⟩::r) E H hs k h=gk (E t) b (Zf F (⟨⟨d,none,op⟩,no,kind,low⟩::r) E H hs k ⟨⟩) (Zf F r (E.put d .undef) H (if kind=3 then H::hs else hs) k ⟨⟩) ⟨⟩:=by
 unfold Zf gk
 cases hE:E t<;>(rw[Zr];simp only[wanted,hE,if_true])
 rename_i c
 by_cases hc:c=b
 ·simp only[hc,beq_self_eq_true,if_true,Bool.true_eq_false,if_false]
  rw[Zr]
  simp only[wanted,Bool.true_eq_false,if_false]
 ·have:(c==b)=false:=by simpa using hc
  simp only[this,if_true,hc,if_false]
theorem GeA:den p .skip E H=some (.normal,E,H):=by rw[VD]
theorem GgF:den p .ret E H=some (.ret,E,H):=by rw[VD]
theorem Gfy{id:Nat}:den p (.exit id) E H=some (.exit id,E,H):=by rw[VD]
theorem GaD{ops:List GZ}:den p (.region ops) E H=Zq (run p) ops E H (fun E H=>some (.normal,E,H)) ⟨⟩:=by
 rw[VD]
 unfold Zq
 dsimp only
 cases K4 (run p) ops E H<;>rfl
theorem Wi{ops:List GQ}:den p (.QC ops) E H=Zf (run p) ops E H [] (fun E H=>some (.normal,E,H)) ⟨⟩:=by
 rw[VD]
 unfold Zf
 dsimp only
 cases AL (run p) ops E H []<;>rfl
theorem Ghz{a b:Gu}:den p (.seq a b) E H=sq (den p a E H) (fun E H=>den p b E H) ⟨⟩:=by rw[VD];rfl
theorem Gei{c:J7}{a b:Gu}:den p (.cond c a b) E H=ck (E.ev c) (den p a E H) (den p b E H) ⟨⟩:=by
 rw[VD]
 unfold ck
 dsimp only
 cases E.ev c<;>first|rfl|(rename_i t;cases t<;>rfl)
def blk(id:Nat)(o:Option (CX×Env×Gb)):Option (CX×Env×Gb):=o.map fun r=>(r.1.inBlock id,r.2)
theorem Gc0{id:Nat}{c:Gu}:den p (.block id c) E H=blk id (den p c E H):=by rw[VD];rfl
theorem Zo{c:Gu}:den p (.loop c) E H=sq (den p c E H) (fun E H=>den p (.loop c) E H) ⟨⟩:=by
 conv=>lhs;rw[VD]
 rfl
theorem GaJ{id:Nat}:blk id (some (.normal,E,H))=some (.normal,E,H):=rfl
theorem Gh2{id:Nat}:blk id (some (.ret,E,H))=some (.ret,E,H):=rfl
theorem GdA{id i:Nat}:blk id (some (.exit i,E,H))=some (if i=id then .normal else .exit i,E,H):=rfl
section
variable {k : Env → Gb → Option (CX × Env × Gb)} {h : Keep k}
theorem Po:sq (some (.normal,E,H)) k h=k E H:=rfl
theorem Gj2:sq (some (.ret,E,H)) k h=some (.ret,E,H):=rfl
theorem Ggg{i:Nat}:sq (some (.exit i,E,H)) k h=some (.exit i,E,H):=rfl
end
theorem Gft{v:CV}{k:CV→Gb→Option α}{h:Keep k}:opk (some (v,H)) k h=k v H:=rfl
section
variable {x y : α} {h : Keep (x, y)}
theorem GlB:gk (.bool true) true x y h=x:=rfl
theorem GlW:gk (.bool true) false x y h=y:=rfl
theorem GlE:gk (.bool false) true x y h=y:=rfl
theorem GkI:gk (.bool false) false x y h=x:=rfl
theorem Gi5{l:List CV}{b:Bool}:gk (.Ju l) b x y h=y:=rfl
end
section
variable {x y : Option α} {h : Keep (x, y)}
theorem Gq4:ck (.bool true) x y h=x:=rfl
theorem GoF:ck (.bool false) x y h=y:=rfl
end
def lv(rs:List VH)(o:Option (CX×Env×Gb)):Option (CV×Gb):=o.bind fun r=>leave ⟨0,0,.skip,rs⟩ r
theorem Gi{f n:Nat}{body:Gu}{res:List VH}(hf:p f=some ⟨n,0,body,res⟩)(a:List CV)(H:Gb)(ha:a.length≤n):run p f a H=lv res (den p body (entry a) H):=run_eq hf a ha H
def fin(rs:List VH)(E:Env)(H:Gb):Option (CV×Gb):=(Qn E H rs).map fun vs=>((match vs with|[v]=>v|vs=>.Ju vs),H)
theorem GiV{rs:List VH}:lv rs (some (.ret,E,H))=fin rs E H:=by
 unfold lv leave results fin
 simp only[Option.bind_some]
 cases Qn E H rs<;>rfl
theorem Gcm{rs:List VH}:lv rs (some (.normal,E,H))=fin rs E H:=by
 unfold lv leave results fin
 simp only[Option.bind_some]
 cases Qn E H rs<;>rfl
theorem Giv:fin [] E H=some (.Ju [],H):=rfl
theorem Glj{t:Nat}:fin [.tmp t] E H=some (E t,H):=rfl
theorem GkP{t u:Nat}:fin [.tmp t,.tmp u] E H=some (.Ju [E t,E u],H):=rfl
def rc(H:Gb)(agg:Bool)(n:Nat):CV→Option CV
 |.ptr b o=>if agg then(Km H b o n).map .agg else QF H b o
 |_=>none
theorem GlI{t n:Nat}{g:Bool}:fin [.cell t g n] E H=(rc H g n (E t)).map fun v=>(v,H):=by
 unfold fin
 simp only[Qn,FQ,rc]
 cases E t<;>simp only[Option.bind_none,Option.map_none]
 split<;>first|(cases QF _ _ _<;>rfl)|(cases Km _ _ _ _<;>rfl)
theorem GiR{t n u:Nat}{g:Bool}:fin [.cell t g n,.tmp u] E H=(rc H g n (E t)).map fun v=>(.Ju [v,E u],H):=by
 unfold fin
 simp only[Qn,FQ,rc]
 cases E t<;>simp only[Option.bind_none,Option.map_none]
 split<;>first|(cases QF _ _ _<;>rfl)|(cases Km _ _ _ _<;>rfl)
theorem GfS{d:Nat}{v:CV}:E.put (some d) v=E.upd d v:=rfl
theorem GdM{v:CV}:E.put none v=E:=rfl
theorem Gao{t:Nat}:E.ev (.tmp t)=E t:=rfl
theorem Gdr{v:CV}:E.ev (.const v)=v:=rfl
theorem Gg{d t:Nat}{v:CV}:(E.upd d v) t=if t=d then v else E t:=rfl
def base:Env:=fun _=>.undef
theorem Gbb:entry []=base:=rfl
theorem Gv{a:CV}:entry [a]=base.upd 0 a:=by
 funext t;unfold entry Env.upd base
 match t with|0=>rfl|t+1=>simp[Qc]
theorem Gj{a b:CV}:entry [a,b]=(base.upd 0 a).upd 1 b:=by
 funext t;unfold entry Env.upd base
 match t with|0=>rfl|1=>rfl|t+2=>simp[Qc]
theorem G8{a b c:CV}:entry [a,b,c]=((base.upd 0 a).upd 1 b).upd 2 c:=by
 funext t;unfold entry Env.upd base
 match t with|0=>rfl|1=>rfl|2=>rfl|t+3=>simp[Qc]
theorem GJ{a b c d:CV}:entry [a,b,c,d]=(((base.upd 0 a).upd 1 b).upd 2 c).upd 3 d:=by
 funext t;unfold entry Env.upd base
 match t with|0=>rfl|1=>rfl|2=>rfl|3=>rfl|t+4=>simp[Qc]
theorem Vr{a b c d e:CV}:entry [a,b,c,d,e]=((((base.upd 0 a).upd 1 b).upd 2 c).upd 3 d).upd 4 e:=by
 funext t;unfold entry Env.upd base
 match t with|0=>rfl|1=>rfl|2=>rfl|3=>rfl|4=>rfl|t+5=>simp[Qc]
def Gew(c a b:CV)(H:Gb):Option (CV×Gb):=match c with|.bool t=>some (if t then a else b,H)|_=>none
def Pv(g:Bool)(n:Nat)(H:Gb):CV→Option (CV×Gb)
 |.ptr b o=>if g then(Km H b o n).map fun cs=>(.agg cs,H)else(QF H b o).map fun v=>(v,H)
 |_=>none
def MV(n:Nat)(H:Gb)(a v:CV):Option (CV×Gb):=match a with
 |.ptr b o=>if(cellsOf v).length=n then(Qq H b o (cellsOf v)).map fun H'=>(.undef,H')else none
 |_=>none
def Gka(H:Gb):CV→Option (CV×Gb)
 |.ptr b o=>some (.ptr b o,H)
 |.iface t c=>some (.iface t c,H)
 |_=>none
def U3(op:BinOp)(x y:CV)(H:Gb):Option (CV×Gb):=match x,y with
 |.int k a,.int k' b=>if k=k' then(Kk op k a b).map fun v=>(v,H)else none
 |_,_=>none
def WZ(g:Bool)(ty:Nat)(x y:CV)(H:Gb):Option (CV×Gb):=(MG ty x y).map fun t=>(.bool (if g then !t else t),H)
def OE(g:Bool)(n:Nat)(x y:CV)(H:Gb):Option (CV×Gb):=match x,y with
 |.agg xs,.agg ys=>if xs.length=n then(Nv xs ys).map fun t=>(.bool (if g then !t else t),H)else none
 |_,_=>none
def GiJ(x:CV)(H:Gb):Option (CV×Gb):=match x with|.bool t=>some (.bool !t,H)|_=>none
def GeN(Jf:Nat)(z:List CV)(l c:CV)(H:Gb):Option (CV×Gb):=match l,c with
 |.int .i64 l,.int .i64 c=>if 0≤l∧l≤c∧c≤(JG:Int)then some (.slice H.length 0 l.toNat c.toNat Jf false,H++[⟨(List.replicate c.toNat z).flatten,.rw,Jf⟩])else none
 |_,_=>none
def Xq(off:Nat)(H:Gb):CV→Option (CV×Gb)
 |.ptr b o=>some (.ptr b (o+off),H)
 |_=>none
def Kb(Jf:Nat)(x i:CV)(H:Gb):Option (CV×Gb):=match x,i with
 |.slice b o len _ _ _,.int _ i=>if 0≤i∧i<(len:Int)then some (.ptr b (o+i.toNat*Jf),H)else none
 |_,_=>none
def Mx(x:CV)(i:Nat)(H:Gb):Option (CV×Gb):=match x with|.Ju vs=>vs[i]?.map fun v=>(v,H)|_=>none
def KA(x:CV)(H:Gb):Option (CV×Gb):=match x with
 |.slice _ _ len _ _ _=>some (.i len,H)
 |.Gf=>some (.i 0,H)
 |_=>none
def Gai(F:Jp)(g:CV)(args:List CV)(H:Gb):Option (CV×Gb):=match g with
 |.func f caps=>if f<RB then F f (args++caps) H else none
 |.yld b=>yieldOf F b args H
 |_=>none
def XL(o:Option (List CV))(H:Gb):Option (CV×Gb):=o.map fun cs=>(.agg cs,H)
def RX(o:Option (List CV))(Jf len:Nat)(H:Gb):Option (CV×Gb):=o.map fun cs=>(.slice H.length 0 len len Jf false,H++[⟨cs,.rw,Jf⟩])
def GaA(o:Option CV)(H:Gb):Option (CV×Gb):=o.map fun v=>(v,H)
def Gbt(Jf:Nat)(s:CV)(o:Option (Nat×List CV))(H:Gb):Option (CV×Gb):=o.bind fun q=>Jv H Jf s q.1 q.2
theorem GhG{x:J7}:K3 F (.K7 x) E H=some (E.ev x,H):=rfl
theorem GdC{c a b:J7}:K3 F (.pick c a b) E H=Gew (E.ev c) (E.ev a) (E.ev b) H:=by
 simp only[K3,Vu,GL,Gew]<;>cases E.ev c<;>rfl
theorem GgH{cs:List CV}:K3 F (.new cs) E H=some (.ptr H.length 0,H++[⟨cs,.rw,0⟩]):=rfl
theorem GgC{x:J7}:K3 F (.box x) E H=some (.ptr H.length 0,H++[⟨cellsOf (E.ev x),.rw,0⟩]):=rfl
theorem GcZ{z:List CV}{ps:List (Nat×Nat×J7)}:K3 F (.build z ps) E H=XL (fill z (KN E ps)) H:=by
 simp only[K3,Vu,GL,XL]<;>cases fill z (KN E ps)<;>rfl
theorem MW{Jf len:Nat}{z:List CV}{ps:List (Nat×Nat×J7)}:K3 F (.buildSlice Jf z len ps) E H=RX (fill z (KN E ps)) Jf len H:=by
 simp only[K3,Vu,GL,RX]<;>cases fill z (KN E ps)<;>rfl
theorem Ger{g:Bool}{n:Nat}{a:J7}:K3 F (.load g n a) E H=Pv g n H (E.ev a):=by
 simp only[K3,Vu,GL,Pv]
 cases E.ev a<;>first|rfl|skip
 rename_i b o
 cases g
 ·simp only[Bool.false_eq_true,if_false];cases QF H b o<;>rfl
 ·simp only[if_true];cases Km H b o n<;>rfl
theorem GbQ{n:Nat}{a v:J7}:K3 F (.store n a v) E H=MV n H (E.ev a) (E.ev v):=rfl
theorem PY{x:J7}:K3 F (.nilCheck x) E H=Gka H (E.ev x):=by
 simp only[K3,Vu,GL,Gka]<;>cases E.ev x<;>rfl
theorem GgW{op:BinOp}{x y:J7}:K3 F (.bin op x y) E H=U3 op (E.ev x) (E.ev y) H:=by
 simp only[K3,Vu,GL,U3]
 cases E.ev x<;>cases E.ev y<;>first|rfl|skip
 rename_i k a k' b
 by_cases h:k=k'
 ·simp only[h,if_true];cases Kk op k' a b<;>rfl
 ·simp only[h,if_false];rfl
theorem Gho{g:Bool}{ty:Nat}{x y:J7}:K3 F (.eqv g ty x y) E H=WZ g ty (E.ev x) (E.ev y) H:=by
 simp only[K3,Vu,GL,WZ]<;>cases MG ty (E.ev x) (E.ev y)<;>rfl
theorem Ghf{g:Bool}{n:Nat}{x y:J7}:K3 F (.eqs g n x y) E H=OE g n (E.ev x) (E.ev y) H:=by
 simp only[K3,Vu,GL,OE]
 cases E.ev x<;>cases E.ev y<;>first|rfl|skip
 rename_i xs ys
 dsimp only
 by_cases h:xs.length=n
 ·rw[if_pos h,if_pos h];cases Nv xs ys<;>rfl
 ·rw[if_neg h,if_neg h];rfl
theorem Ggl{x:J7}:K3 F (.not x) E H=GiJ (E.ev x) H:=by
 simp only[K3,Vu,GL,GiJ]<;>cases E.ev x<;>rfl
theorem MU{f:Nat}{cs:List J7}:K3 F (.NY f cs) E H=some (.func f (cs.map E.ev),H):=rfl
theorem Oy{Jf:Nat}{z:List CV}{l c:J7}:K3 F (.makeSlice Jf z l c) E H=GeN Jf z (E.ev l) (E.ev c) H:=by
 show(GL (.makeSlice Jf z l c) E H).map (made H)=_
 unfold GL GeN
 dsimp only
 generalize E.ev l=a
 generalize E.ev c=b
 cases a<;>try rfl
 rename_i k n
 cases k<;>try rfl
 cases b<;>try rfl
 rename_i k' n'
 cases k'<;>try rfl
 dsimp only
 by_cases h:0≤n∧n≤n'∧n'≤(JG:Int)
 ·simp only[if_pos h];rfl
 ·simp only[if_neg h];rfl
theorem Gb3{Jf:Nat}{x:J7}{lo hi mx:Option J7}:K3 F (.slice Jf x lo hi mx) E H=GaA (sliceTo E Jf (E.ev x) lo hi mx) H:=by
 simp only[K3,Vu,GL,GaA]<;>cases sliceTo E Jf (E.ev x) lo hi mx<;>rfl
theorem Gcp{off:Nat}{x:J7}:K3 F (.field off x) E H=Xq off H (E.ev x):=by
 simp only[K3,Vu,GL,Xq]<;>cases E.ev x<;>rfl
theorem Gcs{Jf:Nat}{x i:J7}:K3 F (.index Jf x i) E H=Kb Jf (E.ev x) (E.ev i) H:=by
 simp only[K3,Vu,GL,Kb]
 cases E.ev x<;>cases E.ev i<;>first|rfl|skip
 rename_i b o len cap ez tl k i
 dsimp only
 by_cases h:0≤i∧i<(len:Int)
 ·rw[if_pos h,if_pos h];rfl
 ·rw[if_neg h,if_neg h];rfl
theorem Tg{x:J7}{i:Nat}:K3 F (.extract x i) E H=Mx (E.ev x) i H:=by
 simp only[K3,Vu,GL,Mx]
 cases E.ev x<;>first|rfl|skip
 rename_i vs
 dsimp only
 cases vs[i]?<;>rfl
theorem XD{x:J7}:K3 F (.len x) E H=KA (E.ev x) H:=by
 simp only[K3,Vu,GL,KA]<;>cases E.ev x<;>rfl
theorem XG{Jf:Nat}{s x:J7}:K3 F (.append Jf s x) E H=Gbt Jf (E.ev s) (elems H Jf (E.ev x)) H:=rfl
theorem Gff{f:Nat}{l:List J7}:K3 F (.call f l) E H=F f (l.map E.ev) H:=rfl
theorem GbD{g:J7}{l:List J7}:K3 F (.AX g l) E H=Gai F (E.ev g) (l.map E.ev) H:=by
 simp only[K3,Gai]
 try (cases E.ev g<;>rfl)
end
end Go.Cs
namespace Go.Cs
theorem uA{p:Prop}(h:p:=by simp [Gg]):p:=h
end Go.Cs
namespace Go.Cs
open Go
section
variable {α : Type} {p : JD} {F : Jp} {E : Env} {H : Gb}
def ld(x:Option JI)(o:Nat):Option CV:=match x with
 |some k=>if k.mode=.dead∨k.mode=.map then none else k.cells[o]?
 |none=>none
def EZ(x:Option JI)(o n:Nat):Option (List CV):=match x with
 |some k=>if k.mode=.dead∨k.mode=.map then none else if o+n≤k.cells.length then some ((k.cells.drop o).take n)else none
 |none=>none
def OT(H:Gb)(b:Nat)(x:Option JI)(o:Nat)(vs:List CV):Option Gb:=match x with
 |some k=>if k.mode=.rw∧o+vs.length≤k.cells.length∧vs.all leaf=true then some (H.set b {k with cells:=splice k.cells o vs})else none
 |none=>none
theorem Od{b o:Nat}:QF H b o=ld H[b]? o:=rfl
theorem JV{b o n:Nat}:Km H b o n=EZ H[b]? o n:=rfl
theorem Gw{b o:Nat}{vs:List CV}:Qq H b o vs=OT H b H[b]? o vs:=rfl
theorem Vt{cs:List CV}{e o:Nat}:ld (some ⟨cs,.rw,e⟩) o=cs[o]?:=rfl
theorem Gij{cs:List CV}{e o:Nat}:ld (some ⟨cs,.ro,e⟩) o=cs[o]?:=rfl
theorem Ug{cs:List CV}{e o n:Nat}:EZ (some ⟨cs,.rw,e⟩) o n=if o+n≤cs.length then some ((cs.drop o).take n)else none:=rfl
theorem Xu{cs:List CV}{e o n:Nat}:EZ (some ⟨cs,.ro,e⟩) o n=if o+n≤cs.length then some ((cs.drop o).take n)else none:=rfl
theorem ZM{cs:List CV}{b e o:Nat}{v:CV}(hv:leaf v=true)(h:o<cs.length):OT H b (some ⟨cs,.rw,e⟩) o [v]=some (H.set b ⟨cs.set o v,.rw,e⟩):=by
 unfold OT
 have hs:splice cs o [v]=cs.set o v:=by
  unfold splice
  rw[List.set_eq_take_append_cons_drop]
  simp[h]
 simp only[List.length_singleton,List.all_cons,List.all_nil,hv,Bool.and_true,true_and,and_true,hs]
 rw[if_pos oM]
theorem Ghw{t:Bool}{a b:CV}:Gew (.bool t) a b H=some (if t then a else b,H):=rfl
theorem Gbk{n b o:Nat}:Pv false n H (.ptr b o)=(QF H b o).map fun v=>(v,H):=rfl
theorem GaT{n b o:Nat}:Pv true n H (.ptr b o)=(Km H b o n).map fun cs=>(.agg cs,H):=rfl
theorem G9{n b o:Nat}{v:CV}:MV n H (.ptr b o) v=if(cellsOf v).length=n then(Qq H b o (cellsOf v)).map fun H'=>(.undef,H')else none:=rfl
theorem GiW{b o:Nat}:Gka H (.ptr b o)=some (.ptr b o,H):=rfl
theorem GfR{k:IntKind}{a b:Int}:U3 .add (.int k a) (.int k b) H=some (.int k (k.wrap (a+b)),H):=by simp[U3,Kk]
theorem GeI{k:IntKind}{a b:Int}:U3 .sub (.int k a) (.int k b) H=some (.int k (k.wrap (a-b)),H):=by simp[U3,Kk]
theorem GfG{k:IntKind}{a b:Int}:U3 .mul (.int k a) (.int k b) H=some (.int k (k.wrap (a*b)),H):=by simp[U3,Kk]
theorem GH{k:IntKind}{a b:Int}(h:b≠0):U3 .quo (.int k a) (.int k b) H=some (.int k (k.wrap (a.tdiv b)),H):=by simp[U3,Kk,h]
theorem GA{k:IntKind}{a b:Int}(h:b≠0):U3 .rem (.int k a) (.int k b) H=some (.int k (a.tmod b),H):=by simp[U3,Kk,h]
theorem GeS{k:IntKind}{a b:Int}:U3 .eql (.int k a) (.int k b) H=some (.bool (a==b),H):=by simp[U3,Kk]
theorem Gdq{k:IntKind}{a b:Int}:U3 .neq (.int k a) (.int k b) H=some (.bool (a != b),H):=by simp[U3,Kk]
theorem Gec{k:IntKind}{a b:Int}:U3 .lss (.int k a) (.int k b) H=some (.bool (decide (a<b)),H):=by simp[U3,Kk]
theorem Gf6{k:IntKind}{a b:Int}:U3 .leq (.int k a) (.int k b) H=some (.bool (decide (a≤b)),H):=by simp[U3,Kk]
theorem Gfp{k:IntKind}{a b:Int}:U3 .gtr (.int k a) (.int k b) H=some (.bool (decide (b<a)),H):=by simp[U3,Kk]
theorem GfP{k:IntKind}{a b:Int}:U3 .geq (.int k a) (.int k b) H=some (.bool (decide (b≤a)),H):=by simp[U3,Kk]
theorem GgM{g a b:Bool}:WZ g 0 (.bool a) (.bool b) H=some (.bool (if g then !(a==b)else a==b),H):=rfl
theorem Ggd{g:Bool}:WZ g 1 .nilPtr .nilPtr H=some (.bool (if g then false else true),H):=by cases g<;>rfl
theorem Gbq{g:Bool}{b o:Nat}:WZ g 1 .nilPtr (.ptr b o) H=some (.bool (if g then true else false),H):=by cases g<;>rfl
theorem Gbf{g:Bool}{b o:Nat}:WZ g 1 (.ptr b o) .nilPtr H=some (.bool (if g then true else false),H):=by cases g<;>rfl
theorem Gj6{t:Bool}:GiJ (.bool t) H=some (.bool !t,H):=rfl
theorem Gf3{off b o:Nat}:Xq off H (.ptr b o)=some (.ptr b (o+off),H):=rfl
theorem GdP{e b o len cap z:Nat}{t:Bool}{k:IntKind}{i:Int}:Kb e (.slice b o len cap z t) (.int k i) H=if 0≤i∧i<(len:Int)then some (.ptr b (o+i.toNat*e),H)else none:=rfl
theorem Xz{vs:List CV}{i:Nat}:Mx (.Ju vs) i H=vs[i]?.map fun v=>(v,H):=rfl
theorem Gi0{b o len cap z:Nat}{t:Bool}:KA (.slice b o len cap z t) H=some (.i len,H):=rfl
theorem Gjz:KA .Gf H=some (.i 0,H):=rfl
theorem GfK{f:Nat}{caps args:List CV}(hf:f<1000000):Gai F (.func f caps) args H=F f (args++caps) H:=if_pos hf
theorem Gem{cs:List CV}:XL (some cs) H=some (.agg cs,H):=rfl
theorem Gco{cs:List CV}{e len:Nat}:RX (some cs) e len H=some (.slice H.length 0 len len e false,H++[⟨cs,.rw,e⟩]):=rfl
theorem GeJ{v:CV}:GaA (some v) H=some (v,H):=rfl
theorem Ja{e n:Nat}{s:CV}{new:List CV}:Gbt e s (some (n,new)) H=Jv H e s n new:=rfl
theorem Grb{n b o:Nat}:rc H false n (.ptr b o)=QF H b o:=rfl
theorem Ib{n b o:Nat}:rc H true n (.ptr b o)=(Km H b o n).map .agg:=rfl
theorem Gb9{f:Nat→CV}{k:JI}:made H (some k,f)=(f H.length,H++[k]):=rfl
theorem Gh{n:Int}(h: -9223372036854775808≤n∧n≤9223372036854775807):IntKind.i64.wrap n=n:=by
 by_cases h0:0≤n
 ·have e:n % (2 ^ 64:Int)=n:=by omega
  simp only[IntKind.wrap,IntKind.bits,IntKind.signed,e]
  split
  ·rename_i hc;simp only[JQ,decide_eq_true_eq,true_and]at hc;omega
  ·rfl
 ·have e:n % (2 ^ 64:Int)=n+18446744073709551616:=by omega
  simp only[IntKind.wrap,IntKind.bits,IntKind.signed,e]
  split
  ·omega
  ·rename_i hc;simp only[JQ,decide_eq_true_eq,true_and]at hc;omega
end
def csA:=And.intro @GeA<|And.intro @GgF<|And.intro @Gfy<|And.intro @GaD<|And.intro @Wi<|And.intro @Ghz<|And.intro @Gei<|And.intro @Gc0<|And.intro @GaJ<|And.intro @Gh2<|And.intro @GdA<|And.intro @Po<|And.intro @Gj2<|And.intro @Ggg<|And.intro @Gft<|And.intro @GlB<|And.intro @GlW<|And.intro @GlE<|And.intro @GkI<|And.intro @Gi5<|And.intro @Gq4<|And.intro @GoF<|And.intro @GiV<|And.intro @Gcm<|And.intro @Giv<|And.intro @Glj<|And.intro @GkP<|And.intro @GlI<|And.intro @GiR<|And.intro @GfS<|And.intro @GdM<|And.intro @Gao<|And.intro @Gdr @Gg
def csB:=And.intro @Ga5<|And.intro @WI<|And.intro @PO<|And.intro @GhG<|And.intro @GdC<|And.intro @GgH<|And.intro @GgC<|And.intro @GcZ<|And.intro @MW<|And.intro @Ger<|And.intro @GbQ<|And.intro @PY<|And.intro @GgW<|And.intro @Gho<|And.intro @Ghf<|And.intro @Ggl<|And.intro @MU<|And.intro @Oy<|And.intro @Gb3<|And.intro @Gcp<|And.intro @Gcs<|And.intro @Tg<|And.intro @XD<|And.intro @XG<|And.intro @Gff @GbD
def csV:=And.intro @Ghw<|And.intro @Gbk<|And.intro @GaT<|And.intro @GiW<|And.intro @GfR<|And.intro @GeI<|And.intro @GfG<|And.intro @GeS<|And.intro @Gdq<|And.intro @Gec<|And.intro @Gf6<|And.intro @Gfp<|And.intro @GfP<|And.intro @GgM<|And.intro @Ggd<|And.intro @Gbq<|And.intro @Gbf<|And.intro @Gj6<|And.intro @Gf3<|And.intro @Xz<|And.intro @Gi0<|And.intro @Gjz<|And.intro @GfK<|And.intro @Gem<|And.intro @Gco<|And.intro @GeJ<|And.intro @Ja<|And.intro @Grb<|And.intro @Ib<|And.intro @Od<|And.intro @JV<|And.intro @Gw<|And.intro @Vt @Gij
end Go.Cs
namespace Go.Cs
open Go
theorem Gd{α:Type}{l:List α}{i:Nat}{k:α}(h:l[i]?=some k):i<l.length:=by
 obtain⟨h,_⟩:=Ni.1 h;exact h
section
variable {F : Jp} {H : Gb}
theorem Glw{a b:Int}(h:a<b):decide (a<b)=true:=GK h
theorem GkA{a b:Int}(h:b≤a):decide (a<b)=false:=GC oM
theorem GkK{a b:Int}(h:a≤b):decide (a≤b)=true:=GK h
theorem Gli{a b:Int}(h:b<a):decide (a≤b)=false:=GC oM
theorem Giu{a b:Int}(h:a=b):(a==b)=true:=by simp[h]
theorem Gib{a b:Int}(h:a≠b):(a==b)=false:=by simp[h]
theorem Gl3{a b:Int}(h:a≠b):(a != b)=true:=by simp[h]
theorem Gle{a b:Int}(h:a=b):(a != b)=false:=by simp[h]
theorem UF{e b o len cap z:Nat}{t:Bool}{k:IntKind}{i:Int}(h:0≤i∧i<(len:Int)):Kb e (.slice b o len cap z t) (.int k i) H=some (.ptr b (o+i.toNat*e),H):=by
 rw[GdP,if_pos h]
theorem ZH{Jf:Nat}{z:List CV}{l c:Int}(h:0≤l∧l≤c∧c≤16777216):GeN Jf z (.i l) (.i c) H=some (.slice H.length 0 l.toNat c.toNat Jf false,H++[⟨(List.replicate c.toNat z).flatten,.rw,Jf⟩]):=by
 show(if 0≤l∧l≤c∧c≤16777216 then _ else _)=_;rw[if_pos h]
theorem Jm{n b o:Nat}{v:CV}(h:ld H[b]? o=some v):Pv false n H (.ptr b o)=some (v,H):=by rw[Gbk,Od,h];rfl
theorem GcT{l:Gb}{a:JI}{i:Nat}(h:i=l.length):(l++[a])[i]?=some a:=by subst h;simp
theorem Ghl{l:Gb}{a:JI}{i:Nat}(h:i<l.length):(l++[a])[i]?=l[i]?:=by rw[QN h]
theorem WK{l:Gb}{x:JI}{c i:Nat}(h:c≠i):(l.set c x)[i]?=l[i]?:=by rw[JU h]
theorem Wp{l:Gb}{x:JI}{c i:Nat}(h:c=i∧c<l.length):(l.set c x)[i]?=some x:=by
 obtain⟨rfl,h⟩:=h;rw[KI h]
theorem Gd4{l:Gb}{a x:JI}{i:Nat}(h:i=l.length):(l++[a]).set i x=l++[x]:=by
 subst h;rw[List.set_append_right _ _ (Nat.le_refl _)];simp
theorem Gji{l:Gb}{a x:JI}{i:Nat}(h:i<l.length):(l++[a]).set i x=l.set i x++[a]:=by rw[List.set_append_left _ _ h]
theorem GV{cs vs:List CV}{b e o:Nat}(h:o+vs.length≤cs.length)(hl:vs.all leaf=true):OT H b (some ⟨cs,.rw,e⟩) o vs=some (H.set b ⟨splice cs o vs,.rw,e⟩):=by
 unfold OT
 simp only[h,hl,and_self,if_true]
theorem Nn{cs:List CV}{b e o:Nat}{v:CV}(hv:leaf v=true)(h:o<cs.length):OT H b (some ⟨cs,.rw,e⟩) o [v]=some (H.set b ⟨cs.set o v,.rw,e⟩):=ZM hv h
theorem GiD{cs:List CV}{e o n:Nat}(h:o+n≤cs.length):EZ (some ⟨cs,.rw,e⟩) o n=some ((cs.drop o).take n):=by rw[Ug,if_pos h]
theorem GgE{cs:List CV}{e o n:Nat}(h:o+n≤cs.length):EZ (some ⟨cs,.ro,e⟩) o n=some ((cs.drop o).take n):=by rw[Xu,if_pos h]
theorem Gs{cs:List CV}:cellsOf (.agg cs)=cs:=rfl
theorem F_{k:IntKind}{n:Int}:cellsOf (.int k n)=[.int k n]:=rfl
theorem Ym{b:Bool}:cellsOf (.bool b)=[.bool b]:=rfl
theorem FN{b o:Nat}:cellsOf (.ptr b o)=[.ptr b o]:=rfl
theorem Xi:cellsOf .nilPtr=[.nilPtr]:=rfl
theorem AU{b o len cap e:Nat}{t:Bool}:cellsOf (.slice b o len cap e t)=[.slice b o len cap e t]:=rfl
theorem IB:cellsOf .Gf=[.Gf]:=rfl
theorem Rw{f:Nat}{cs:List CV}:cellsOf (.func f cs)=[.func f cs]:=rfl
theorem YJ{v:CV}(h:leaf v=true):cellsOf v=[v]:=by cases v<;>first|rfl|cases h
theorem Gq{k:IntKind}{n:Int}:leaf (.int k n)=true:=rfl
theorem JM{b:Bool}:leaf (.bool b)=true:=rfl
theorem J6{b o:Nat}:leaf (.ptr b o)=true:=rfl
theorem Gb2:leaf .nilPtr=true:=rfl
theorem Ml{b o len cap e:Nat}{t:Bool}:leaf (.slice b o len cap e t)=true:=rfl
theorem Gbi:leaf .Gf=true:=rfl
theorem OP{f:Nat}{cs:List CV}:leaf (.func f cs)=true:=rfl
theorem Gbp:leaf .nilFunc=true:=rfl
theorem Ut{cs:List CV}:fill cs []=some cs:=rfl
theorem Pp{cs:List CV}{off size:Nat}{v:CV}{r:List (Nat×Nat×CV)}(h:(cellsOf v).length=size∧off+size≤cs.length):fill cs ((off,size,v)::r)=fill (splice cs off (cellsOf v)) r:=by
 conv=>lhs;unfold fill
 rw[if_pos h]
theorem GcE{cs:List CV}{off:Nat}{v:CV}{r:List (Nat×Nat×CV)}(hv:leaf v=true)(h:off+1≤cs.length):fill cs ((off,1,v)::r)=fill (splice cs off [v]) r:=by
 rw[Pp ⟨by rw[YJ hv];rfl,h⟩,YJ hv]
theorem TB{E:Env}:KN E []=[]:=rfl
theorem RZ{E:Env}{a b:Nat}{v:J7}{r:List (Nat×Nat×J7)}:KN E ((a,b,v)::r)=(a,b,E.ev v)::KN E r:=rfl
theorem Gb4{n b o:Nat}{v:CV}(h:(cellsOf v).length=n):MV n H (.ptr b o) v=(OT H b H[b]? o (cellsOf v)).map fun H'=>(.undef,H'):=by rw[G9,if_pos h];rfl
theorem Q8{b o:Nat}{v:CV}(h:leaf v=true):MV 1 H (.ptr b o) v=(OT H b H[b]? o [v]).map fun H'=>(.undef,H'):=by
 rw[G9,YJ h,if_pos (show [v].length=1 from rfl)];rfl
theorem Ggh{e:Nat}:elems H e .Gf=some (0,[]):=rfl
theorem GhF{b o c e z:Nat}{t:Bool}:elems H e (.slice b o 0 c z t)=some (0,[]):=rfl
theorem JC{b o n c e z:Nat}{t:Bool}(h:0<n):elems H e (.slice b o n c z t)=(EZ H[b]? o (n*e)).map fun cs=>(n,cs):=by
 unfold elems;dsimp only;rw[if_neg oM];rfl
theorem Gfc{cs:List CV}{o:Nat}{v:CV}(h:o<cs.length):splice cs o [v]=cs.set o v:=by
 unfold splice
 rw[List.set_eq_take_append_cons_drop]
 simp[h]
theorem Ga2{cs vs:List CV}(h:vs.length=cs.length):splice cs 0 vs=vs:=by
 unfold splice;simp[h]
theorem Xm{cs:List CV}{o:Nat}:splice cs o []=cs:=by unfold splice;simp
theorem GeZ{cs vs:List CV}{a v:CV}:splice (a::cs) 0 (v::vs)=v::splice cs 0 vs:=by unfold splice;simp
theorem Gey{cs vs:List CV}{a:CV}{o:Nat}:splice (a::cs) (o+1) vs=a::splice cs o vs:=by
 unfold splice
 have:o+1+vs.length=(o+vs.length)+1:=by omega
 rw[this];simp
def ED(x:CV)(m:Nat):Option Nat:=match x with
 |.int _ i=>if 0≤i∧i≤(m:Int)then some i.toNat else none
 |_=>none
def Vw(x:Option CV)(m d:Nat):Option Nat:=match x with
 |some v=>ED v m
 |none=>some d
def Qm(len cap:Nat)(lo hi mx:Option CV):Option (Nat×Nat×Nat):=
 if mx.isSome=true∧hi.isNone=true then none else
 (Vw mx cap cap).bind fun m=>(Vw hi m len).bind fun h=>(Vw lo h 0).bind fun l=>some (l,h,m)
def NZ(Jf:Nat)(x:CV)(lo hi mx:Option CV):Option CV:=match x with
 |.Gf=>(Qm 0 0 lo hi mx).map fun _=>.Gf
 |.slice b o len cap e tail=>if e=Jf∧len≤cap then(Qm len cap lo hi mx).map fun r=>.slice b (o+r.1*Jf) (r.2.1-r.1) (r.2.2-r.1) e (tail&&mx.isNone)else none
 |_=>none
theorem A9{E:Env}{Jf:Nat}{x:CV}{lo hi mx:Option J7}:sliceTo E Jf x lo hi mx=NZ Jf x (lo.map E.ev) (hi.map E.ev) (mx.map E.ev):=by
 cases lo<;>cases hi<;>cases mx<;>cases x<;>rfl
def XM(zero:List CV)(s:CV)(H:Gb):Option (CV×Gb):=match s with
 |.slice b o len _ _ _=>if len=0 then some (.Ju [],H)else(Qq H b o (List.replicate len zero).flatten).map fun H'=>(.Ju [],H')
 |.Gf=>some (.Ju [],H)
 |_=>none
theorem Pq{E:Env}{zero:List CV}{s:J7}:K3 F (.clear zero s) E H=XM zero (E.ev s) H:=rfl
theorem Ww{zero:List CV}{b o len c e:Nat}{t:Bool}(h:0<len):XM zero (.slice b o len c e t) H=(OT H b H[b]? o (List.replicate len zero).flatten).map fun H'=>(.Ju [],H'):=by
 unfold XM;dsimp only;rw[if_neg oM];rfl
theorem EC{a:Bool}:(if true=true then !a else a)=!a:=rfl
end
def Go4:=And.intro @Glw<|And.intro @GkA<|And.intro @GkK<|And.intro @Gli<|And.intro @Giu<|And.intro @Gib<|And.intro @Gl3<|And.intro @Gle<|And.intro @UF<|And.intro @ZH<|And.intro @GcT<|And.intro @Ghl<|And.intro @WK<|And.intro @Wp<|And.intro @Gd4<|And.intro @Gji<|And.intro @GV<|And.intro @GiD<|And.intro @GgE<|And.intro @Gh<|And.intro @A9<|And.intro @Q8<|And.intro @Pq<|And.intro @Ww @Gb4
def GoR:=And.intro @Gs<|And.intro @F_<|And.intro @Ym<|And.intro @FN<|And.intro @Xi<|And.intro @AU<|And.intro @IB<|And.intro @Rw<|And.intro @Gq<|And.intro @JM<|And.intro @J6<|And.intro @Gb2<|And.intro @Ml<|And.intro @Gbi<|And.intro @OP<|And.intro @Gbp<|And.intro @Ut<|And.intro @GcE<|And.intro @Pp<|And.intro @Xm<|And.intro @GeZ<|And.intro @Gey<|And.intro @Gfc<|And.intro @Ga2<|And.intro @TB<|And.intro @RZ<|And.intro @Ggh<|And.intro @GhF @JC
end Go.Cs
namespace Go.Cs
open Go
section
variable {α : Type} {F : Jp} {E : Env} {H : Gb}
noncomputable def musts(op:Ko)(E:Env)(m:Option JI×(Nat→CV))(x:Option α):List Gb→Keep x→Option α
 |[],_=>x
 |a::l,_=>must (GL op E a=some m) (musts op E m x l ⟨⟩) ⟨⟩
theorem Gck{op:Ko}{m:Option JI×(Nat→CV)}{x:Option α}{h:Keep x}:musts op E m x [] h=x:=rfl
theorem LK{op:Ko}{m:Option JI×(Nat→CV)}{x:Option α}{a:Gb}{l:List Gb}{h:Keep x}:musts op E m x (a::l) h=must (GL op E a=some m) (musts op E m x l ⟨⟩) ⟨⟩:=rfl
theorem Tu{op:Ko}{m:Option JI×(Nat→CV)}{x:Option α}:∀{l:List Gb},must (∀H'∈l,GL op E H'=some m) x ⟨⟩=musts op E m x l ⟨⟩
 |[]=>by rw[GaV sM];rfl
 |a::l=>by
  rw[LK,←Tu (l:=l)]
  unfold must
  by_cases h:GL op E a=some m
  ·rw[if_pos h]
   by_cases h':∀H'∈l,GL op E H'=some m
   ·rw[if_pos h',if_pos (by simpa[h]using h')]
   ·rw[if_neg h',if_neg (by simpa[h]using h')]
  ·rw[if_neg h,if_neg (by simp[h])]
theorem GhL{d:Option Nat}{op:Ko}{no low:Nat}{r:List GQ}{hs:List Gb}{k:Env→Gb→Option α}{h:Keep ((⟨⟨d,none,op⟩,no,1,low⟩::r:List GQ),k)}:
  Zf F (⟨⟨d,none,op⟩,no,1,low⟩::r) E H hs k h=mk1 (GL op E H) (fun m=>musts op E m (Zf F r (E.put d (made H m).1) (made H m).2 hs k ⟨⟩) (hs.take (hs.length-low)) ⟨⟩) ⟨⟩:=by
 rw[GiT]
 unfold mk1
 congr 1
 funext m
 exact Tu
abbrev P5:=Option JI×(Nat→CV)
def okV(v:CV):Option P5:=some (none,fun _=>v)
theorem Gi7{v:CV}{k:P5→Option α}{h:Keep k}:mk1 (okV v) k h=k (none,fun _=>v):=rfl
theorem Ghe{v:CV}:made H (none,fun _=>v)=(v,H):=rfl
theorem GeL{b:JI}{o:Nat}:made H (some b,fun k=>.ptr k o)=(.ptr H.length o,H++[b]):=rfl
theorem Gam{b:JI}{o n c e:Nat}{t:Bool}:made H (some b,fun k=>.slice k o n c e t)=(.slice H.length o n c e t,H++[b]):=rfl
theorem Gg9{v:CV}{x:Option α}{h:Keep x}:must (okV v=some (none,fun _=>v)) x h=x:=GaV rfl
def Gbc(g:Bool)(n:Nat)(H:Gb):CV→Option P5
 |.ptr b o=>if g then(EZ H[b]? o n).bind fun cs=>okV (.agg cs)else(ld H[b]? o).bind okV
 |_=>none
def GhR:CV→Option P5
 |.ptr b o=>okV (.ptr b o)
 |.iface t c=>okV (.iface t c)
 |_=>none
def Gax(off:Nat):CV→Option P5
 |.ptr b o=>okV (.ptr b (o+off))
 |_=>none
def ZP(Jf:Nat)(x i:CV):Option P5:=match x,i with
 |.slice b o len _ _ _,.int _ i=>if 0≤i∧i<(len:Int)then okV (.ptr b (o+i.toNat*Jf))else none
 |_,_=>none
def Gfz:CV→Option P5
 |.slice _ _ len _ _ _=>okV (.i len)
 |.Gf=>okV (.i 0)
 |_=>none
def Iq(x:CV)(i:Nat):Option P5:=match x with|.Ju vs=>vs[i]?.bind okV|_=>none
def Qw(op:BinOp)(x y:CV):Option P5:=match x,y with
 |.int k a,.int k' b=>if k=k' then(Kk op k a b).bind okV else none
 |_,_=>none
def GiA:CV→Option P5
 |.bool t=>okV (.bool !t)
 |_=>none
def GdD(c a b:CV):Option P5:=match c with|.bool t=>okV (if t then a else b)|_=>none
def Gln(g:Bool)(ty:Nat)(x y:CV):Option P5:=(MG ty x y).bind fun t=>okV (.bool (if g then !t else t))
def GhW(Jf:Nat)(z:List CV)(l c:CV):Option P5:=match l,c with
 |.int .i64 l,.int .i64 c=>if 0≤l∧l≤c∧c≤(JG:Int)then some (some ⟨(List.replicate c.toNat z).flatten,.rw,Jf⟩,fun k=>.slice k 0 l.toNat c.toNat Jf false)else none
 |_,_=>none
def Xl(o:Option (List CV)):Option P5:=o.bind fun cs=>okV (.agg cs)
def Rk(o:Option (List CV))(Jf len:Nat):Option P5:=o.bind fun cs=>some (some ⟨cs,.rw,Jf⟩,fun k=>.slice k 0 len len Jf false)
def Gaa(o:Option CV):Option P5:=o.bind okV
theorem Gj4{x:J7}:GL (.K7 x) E H=okV (E.ev x):=rfl
theorem Gj1{cs:List CV}:GL (.new cs) E H=some (some ⟨cs,.rw,0⟩,fun k=>.ptr k 0):=rfl
theorem Gjn{x:J7}:GL (.box x) E H=some (some ⟨cellsOf (E.ev x),.rw,0⟩,fun k=>.ptr k 0):=rfl
theorem GcR{f:Nat}{cs:List J7}:GL (.NY f cs) E H=okV (.func f (cs.map E.ev)):=rfl
theorem Gg8{c a b:J7}:GL (.pick c a b) E H=GdD (E.ev c) (E.ev a) (E.ev b):=by simp only[GL,GdD];cases E.ev c<;>rfl
theorem Ghc{g:Bool}{n:Nat}{a:J7}:GL (.load g n a) E H=Gbc g n H (E.ev a):=by
 simp only[GL,Gbc]
 cases E.ev a<;>first|rfl|skip
 rename_i b o
 cases g
 ·simp only[Bool.false_eq_true,if_false,Od];cases ld H[b]? o<;>rfl
 ·simp only[if_true,JV];cases EZ H[b]? o n<;>rfl
theorem Wt{x:J7}:GL (.nilCheck x) E H=GhR (E.ev x):=by simp only[GL,GhR];cases E.ev x<;>rfl
theorem GfO{off:Nat}{x:J7}:GL (.field off x) E H=Gax off (E.ev x):=by simp only[GL,Gax];cases E.ev x<;>rfl
theorem Gjq{x:J7}:GL (.len x) E H=Gfz (E.ev x):=by simp only[GL,Gfz];cases E.ev x<;>rfl
theorem Gkd{x:J7}:GL (.not x) E H=GiA (E.ev x):=by simp only[GL,GiA];cases E.ev x<;>rfl
theorem GdQ{Jf:Nat}{x i:J7}:GL (.index Jf x i) E H=ZP Jf (E.ev x) (E.ev i):=by
 simp only[GL,ZP]
 cases E.ev x<;>cases E.ev i<;>rfl
theorem XY{x:J7}{i:Nat}:GL (.extract x i) E H=Iq (E.ev x) i:=by
 simp only[GL,Iq]
 cases E.ev x<;>first|rfl|skip
 rename_i vs
 dsimp only
 cases vs[i]?<;>rfl
theorem Gja{op:BinOp}{x y:J7}:GL (.bin op x y) E H=Qw op (E.ev x) (E.ev y):=by
 simp only[GL,Qw]
 cases E.ev x<;>cases E.ev y<;>first|rfl|skip
 rename_i k a k' b
 dsimp only
 cases Kk op k a b<;>rfl
theorem GjD{g:Bool}{ty:Nat}{x y:J7}:GL (.eqv g ty x y) E H=Gln g ty (E.ev x) (E.ev y):=by
 simp only[GL,Gln]<;>cases MG ty (E.ev x) (E.ev y)<;>rfl
theorem Rm{Jf:Nat}{z:List CV}{l c:J7}:GL (.makeSlice Jf z l c) E H=GhW Jf z (E.ev l) (E.ev c):=rfl
theorem Gf4{z:List CV}{ps:List (Nat×Nat×J7)}:GL (.build z ps) E H=Xl (fill z (KN E ps)):=by
 simp only[GL,Xl]<;>cases fill z (KN E ps)<;>rfl
theorem OD{Jf len:Nat}{z:List CV}{ps:List (Nat×Nat×J7)}:GL (.buildSlice Jf z len ps) E H=Rk (fill z (KN E ps)) Jf len:=by
 simp only[GL,Rk]<;>cases fill z (KN E ps)<;>rfl
theorem D7{Jf:Nat}{x:J7}{lo hi mx:Option J7}:GL (.slice Jf x lo hi mx) E H=Gaa (sliceTo E Jf (E.ev x) lo hi mx):=by
 simp only[GL,Gaa]<;>cases sliceTo E Jf (E.ev x) lo hi mx<;>rfl
theorem Ghk{n b o:Nat}:Gbc false n H (.ptr b o)=(ld H[b]? o).bind okV:=rfl
theorem Gg6{n b o:Nat}:Gbc true n H (.ptr b o)=(EZ H[b]? o n).bind fun cs=>okV (.agg cs):=rfl
theorem GiE{b o:Nat}:GhR (.ptr b o)=okV (.ptr b o):=rfl
theorem Gfw{off b o:Nat}:Gax off (.ptr b o)=okV (.ptr b (o+off)):=rfl
theorem Al{e b o len cap z:Nat}{t:Bool}{k:IntKind}{i:Int}(h:0≤i∧i<(len:Int)):ZP e (.slice b o len cap z t) (.int k i)=okV (.ptr b (o+i.toNat*e)):=by
 show(if _ then _ else _)=_;rw[if_pos h]
theorem Giy{b o len cap z:Nat}{t:Bool}:Gfz (.slice b o len cap z t)=okV (.i len):=rfl
theorem GiK:Gfz .Gf=okV (.i 0):=rfl
theorem Ee{v:CV}{n:Int}(h:∀H,KA v H=some (.i n,H)):Gfz v=okV (.i n):=by
 have:=h []
 cases v<;>simp[KA]at this<;>(rw[←this];rfl)
theorem Gau{vs:List CV}{i:Nat}:Iq (.Ju vs) i=vs[i]?.bind okV:=rfl
theorem Gi6{t:Bool}:GiA (.bool t)=okV (.bool !t):=rfl
theorem Ghi{t:Bool}{a b:CV}:GdD (.bool t) a b=okV (if t then a else b):=rfl
theorem Gek{k:IntKind}{a b:Int}:Qw .add (.int k a) (.int k b)=okV (.int k (k.wrap (a+b))):=by simp[Qw,Kk]
theorem GfI{k:IntKind}{a b:Int}:Qw .sub (.int k a) (.int k b)=okV (.int k (k.wrap (a-b))):=by simp[Qw,Kk]
theorem Ge7{k:IntKind}{a b:Int}:Qw .eql (.int k a) (.int k b)=okV (.bool (a==b)):=by simp[Qw,Kk]
theorem GfB{k:IntKind}{a b:Int}:Qw .neq (.int k a) (.int k b)=okV (.bool (a != b)):=by simp[Qw,Kk]
theorem GeR{k:IntKind}{a b:Int}:Qw .lss (.int k a) (.int k b)=okV (.bool (decide (a<b))):=by simp[Qw,Kk]
theorem GeW{k:IntKind}{a b:Int}:Qw .leq (.int k a) (.int k b)=okV (.bool (decide (a≤b))):=by simp[Qw,Kk]
theorem Gd2{k:IntKind}{a b:Int}:Qw .gtr (.int k a) (.int k b)=okV (.bool (decide (b<a))):=by simp[Qw,Kk]
theorem Ge8{k:IntKind}{a b:Int}:Qw .geq (.int k a) (.int k b)=okV (.bool (decide (b≤a))):=by simp[Qw,Kk]
theorem Uv{Jf:Nat}{z:List CV}{l c:Int}(h:0≤l∧l≤c∧c≤16777216):GhW Jf z (.i l) (.i c)=some (some ⟨(List.replicate c.toNat z).flatten,.rw,Jf⟩,fun k=>.slice k 0 l.toNat c.toNat Jf false):=by
 show(if 0≤l∧l≤c∧c≤16777216 then _ else _)=_;rw[if_pos h]
theorem GeM{cs:List CV}:Xl (some cs)=okV (.agg cs):=rfl
theorem Gca{cs:List CV}{e len:Nat}:Rk (some cs) e len=some (some ⟨cs,.rw,e⟩,fun k=>.slice k 0 len len e false):=rfl
theorem Dx{v:CV}:Gaa (some v)=okV v:=rfl
end
def GmW:=And.intro @Geg<|And.intro @GiO<|And.intro @GhL<|And.intro @Gkj<|And.intro @Gj9<|And.intro @Gck<|And.intro @LK<|And.intro @GbA<|And.intro @Gg9<|And.intro @Gfq<|And.intro @Gi7<|And.intro @Ghe<|And.intro @GeL<|And.intro @Gam<|And.intro @Gj4<|And.intro @Gj1<|And.intro @Gjn<|And.intro @GcR<|And.intro @Gg8<|And.intro @Ghc<|And.intro @Wt<|And.intro @GfO<|And.intro @Gjq<|And.intro @Gkd<|And.intro @GdQ<|And.intro @XY @Gja
def GmD:=And.intro @GjD<|And.intro @Rm<|And.intro @Gf4<|And.intro @OD<|And.intro @D7<|And.intro @Ghk<|And.intro @Gg6<|And.intro @GiE<|And.intro @Gfw<|And.intro @Al<|And.intro @Giy<|And.intro @GiK<|And.intro @Gau<|And.intro @Gi6<|And.intro @Ghi<|And.intro @Gek<|And.intro @GfI<|And.intro @Ge7<|And.intro @GfB<|And.intro @GeR<|And.intro @GeW<|And.intro @Gd2<|And.intro @Ge8<|And.intro @Uv<|And.intro @GeM<|And.intro @Gca @Dx
end Go.Cs
namespace Go.Cs
open Go Go.RowKit Go.ChangeShapes Go.WideShapes
inductive FK where
 |int (k:IntKind)
 |bool
 deriving DecidableEq,Inhabited
def FK.fits:FK→CV→Prop
 |.int k,c=>∃n,c=.int k n∧k.min≤n∧n≤k.max
 |.bool,c=>∃b,c=.bool b
def Ge2(P:Program)(F:TypeId→Option (List FK)):Nat→List Field→Option (List FK)
 |_,[]=>some []
 |o,f::r=>if f.offset=o then(F f.type).bind fun a=>if P.cellsOf f.type=a.length then(Ge2 P F (o+a.length) r).map (a++·)else none else none
def flatK(P:Program):Nat→TypeId→Option (List FK)
 |0,_=>none
 |n+1,t=>match P.underlying t with
  |some (.int k)=>some [.int k]
  |some .bool=>some [.bool]
  |some (.struct fs)=>Ge2 P (flatK P n) 0 fs.toList
  |some (.array m e)=>(flatK P n e).bind fun a=>if P.cellsOf e=a.length then some (List.replicate m a).flatten else none
  |_=>none
def Flat(ks:List FK)(cs:List Value):Prop:=cs.length=ks.length∧∀(i:Nat)(k:FK),ks[i]?=some k→∃(v:Value)(c:CV),cs[i]?=some v∧k.fits c∧Yf v=some c∧∀μ,V μ c v
theorem Flat.app{ks ks':List FK}{cs cs':List Value}(h:Flat ks cs)(h':Flat ks' cs'):Flat (ks++ks') (cs++cs'):=by
 refine⟨by simp[h.1,h'.1],fun i k hi=>?_⟩
 rw[GbG]at hi⊢
 rw[h.1]
 split at hi
 ·rename_i hl;rw[if_pos hl];exact h.2 i k hi
 ·rename_i hl;rw[if_neg hl];exact h'.2 _ k hi
section
variable {H : Type} {enc : TypeId × Value → H} {P : Program} {w : World} {base : Nat} {spare : Nat → Bool} {held : Bool}
theorem TS{n fuel:Nat}(ih:∀t ks cs x,flatK P n t=some ks→DataW.trod enc P w base spare held fuel t cs=some x→P.cellsOf t=ks.length→cs.length=ks.length→Flat ks cs):
  ∀(fs:List Field)(o:Nat)(ks:List FK)(cs:List Value),Ge2 P (flatK P n) o fs=some ks→cs.length=o+ks.length→
   (∀f∈fs,∃x,DataW.trod enc P w base spare held fuel f.type ((cs.drop f.offset).take (P.cellsOf f.type))=some x)→Flat ks (cs.drop o)
 |[],o,ks,cs,h,hl,_=>by
  simp only[Ge2,Gx]at h
  subst h
  exact⟨by simp[hl],fun i k hi=>by simp at hi⟩
 |f::r,o,ks,cs,h,hl,hf=>by
  unfold Ge2 at h
  split at h
  ·rename_i ho
   rw[Jt]at h
   obtain⟨a,ha,h⟩:=h
   split at h
   ·rename_i hc
    rw[GR]at h
    obtain⟨ks',hk,rfl⟩:=h
    obtain⟨x,hx⟩:=hf f NC
    rw[Nq]at hl
    have h1:=ih f.type a _ x ha hx hc (by rw[List.length_take,List.length_drop,hc,ho];omega)
    have h2:=TS ih r (o+a.length) ks' cs hk oM (fun g hg=>hf g (Um _ hg))
    have:=h1.app h2
    rw[ho,hc,←List.drop_drop,List.take_append_drop]at this
    exact this
   ·cases h
  ·cases h
theorem Ew:∀(n fuel:Nat)(t:TypeId)(ks:List FK)(cs:List Value)(x:DataW H×List MemPlace),flatK P n t=some ks→DataW.trod enc P w base spare held fuel t cs=some x→P.cellsOf t=ks.length→Flat ks cs
 |0,_,_,_,_,_,h,_,_=>by cases h
 |n+1,fuel,t,ks,cs,x,h,hx,hc=>by
  unfold flatK at h
  split at h
  ·rename_i k ht
   simp only[Gx]at h
   subst h
   obtain⟨m,rfl,-,hw⟩:=DataW.trod_int ht hx
   simp only[Lit.wf,JQ,decide_eq_true_eq]at hw
   refine⟨rfl,fun i k' hi=>?_⟩
   cases i with
   |zero=>
    simp only[List.getElem?_cons_zero,Gx]at hi
    subst hi
    exact⟨_,.int k m,rfl,⟨m,rfl,hw⟩,rfl,fun μ=>by simp[V]⟩
   |succ i=>simp at hi
  ·rename_i ht
   simp only[Gx]at h
   subst h
   obtain⟨b,rfl,-⟩:=DataW.trod_bool ht hx
   refine⟨rfl,fun i k' hi=>?_⟩
   cases i with
   |zero=>
    simp only[List.getElem?_cons_zero,Gx]at hi
    subst hi
    exact⟨_,.bool b,rfl,⟨b,rfl⟩,rfl,fun μ=>by simp[V]⟩
   |succ i=>simp at hi
  ·rename_i fs ht
   obtain⟨xs,m,rfl,-,hl,hxl,hf⟩:=DataW.trod_struct ht hx
   have:=TS (n:=n) (fuel:=m) (fun t ks cs x h1 h2 h3 _=>Ew n m t ks cs x h1 h2 h3) fs.toList 0 ks cs h oM (fun f hfm=>by
    obtain⟨i,hi,e⟩:=List.mem_iff_getElem.1 hfm
    have e':fs[i]?=some f:=by
     simp only[Array.getElem_toList]at e
     rw[←e];exact O1 (by simpa using hi)
    refine⟨_,(hf i f e').trans (J9 (by simp at hi;omega))⟩)
   simpa using this
  ·rename_i m e ht
   rw[Jt]at h
   obtain⟨a,ha,h⟩:=h
   split at h
   ·rename_i hce
    simp only[Gx]at h
    subst h
    obtain⟨xs,k,rfl,-,hl,hxl,hf⟩:=DataW.trod_array ht hx
    have key:∀(j:Nat),j≤m→Flat (List.replicate j a).flatten (cs.take (j*a.length)):=by
     intro j
     induction j with
     |zero=>intro _;exact⟨sM,fun i k hi=>by simp at hi⟩
     |succ j ih=>
      intro hj
      have hx2:=hf j oM
      rw[J9 oM,hce]at hx2
      have h1:=Ew n k e a _ _ ha hx2 hce
      have h2:=(ih oM).app h1
      rw[List.replicate_succ',List.flatten_append,show(j+1)*a.length=j*a.length+a.length by rw[Nat.add_mul,Nat.one_mul],List.take_add]
      simpa using h2
    have hlen:((List.replicate m a).flatten).length=m*a.length:=by simp
    have:=key m (Nat.le_refl m)
    rw[NW (by rw[hl,hc,hlen];exact Nat.le_refl _)]at this
    exact this
   ·cases h
  ·cases h
end
def GaU(W:World)(blk:JI)(tg:Option Zz):Prop:=
 blk.mode≠.dead→∀m,tg=some m→blk.mode=.ro∧m.c<W.heap.size∧∃arr T fz,W.heap[m.c]?=some (.cells arr T fz)∧∀(i:Nat)(c:CV),blk.cells[i]?=some c→∃v,arr[m.s+i]?=some v∧∀μ,V μ c v
def Gk3(cv:Nat→CV)(blk:JI)(ks:List FK)(l:List (List CV)):Prop:=
 (∀j H',KA (cv j) H'=some (.i l.length,H'))∧(l≠[]→(∃cap,l.length≤cap∧∀j,cv j=.slice j 0 l.length cap ks.length false)∧blk.mode=.ro∧blk.Jf=ks.length∧∀(i:Nat)(x:List CV),l[i]?=some x→i*ks.length+ks.length≤blk.cells.length∧(blk.cells.drop (i*ks.length)).take ks.length=x)∧
  ∀x∈l,x.length=ks.length∧∀(i:Nat)(k:FK),ks[i]?=some k→∃c,x[i]?=some c∧k.fits c
theorem Oa{α:Type}{n:Nat}{p:Nat→α→Prop}(h:∀i,i<n→∃a,p i a):∃l:List α,l.length=n∧∀i a,l[i]?=some a→p i a:=by
 induction n with
 |zero=>exact⟨[],rfl,fun i a h=>by simp at h⟩
 |succ n ih=>
  obtain⟨l,hl,hp⟩:=ih fun i hi=>h i oM
  obtain⟨a,ha⟩:=h n oM
  refine⟨l++[a],by simp[hl],fun i b hb=>?_⟩
  rw[GbG]at hb
  split at hb
  ·exact hp i b hb
  ·have hi:=Gd hb
   simp only[List.length_singleton]at hi
   have:i=n:=by omega
   subst this
   simp[hl]at hb
   subst hb;exact ha
theorem UY{H:Type}{enc:TypeId×Value→H}{P:Program}{W:World}{base:Nat}{r:Reach}{b0:Nat}{held:Bool}{t e:TypeId}{v:Value}{d:DataW H}{ps:List MemPlace}{n:Nat}{ks:List FK}
  (ht:P.underlying t=some (.slice e))(he:flatK P n e=some ks)(hc:P.cellsOf e=ks.length)(hk:0<ks.length)
  (hval:Value.okWide P W r b0 t v)(hd:DataW.Trod enc P W base (fun _=>true) held t v d ps):
  ∃(cv:Nat→CV)(blk:JI)(tg:Option Zz)(l:List (List CV)),(∀j μ,μ j=tg→V μ (cv j) v)∧GaU W blk tg∧Gk3 cv blk ks l∧((∀j,cv j=.Gf)∨∃n c,∀j,cv j=.slice j 0 n c ks.length false):=by
 obtain⟨a,len,cap,rfl⟩:=okWide_slice ht hval
 obtain⟨fuel,hf⟩:=hd
 rcases Go.Deep.open_slice ht hf with⟨h0,-⟩|⟨a',len',cap',m,k,D,Pl,h0,hb,hl,hm,hmm,-,hx⟩
 ·simp[Value.cells]at h0
  obtain⟨rfl,rfl,rfl⟩:=h0
  refine⟨fun _=>.Gf,⟨[],.dead,ks.length⟩,none,[],fun j μ _=>by simp[V],fun h=>absurd rfl h,⟨fun _ _=>rfl,fun h=>absurd rfl h,fun x hx=>by cases hx⟩,.inl fun _=>rfl⟩
 ·simp[Value.cells]at h0
  obtain⟨rfl,rfl,rfl⟩:=h0
  simp only[if_true]at hmm
  subst hmm
  have hspot:a'.spot=none:=by
   simp only[Value.okWide,ht,Cell.okWide,Cell.ok,World.has]at hval
   exact hval.2.2.2.1
  obtain⟨ab,ao,asp⟩:=a'
  simp only at hspot
  subst hspot
  have cell:∀q,q<m*ks.length→∃(arr:Array Value)(T:TypeId)(fz:_)(u:Value)(c:CV),W.heap[ab]?=some (.cells arr T fz)∧arr[ao+q]?=some u∧Yf u=some c∧(∀kk,ks[q % ks.length]?=some kk→kk.fits c)∧∀μ,V μ c u:=by
   intro q hq
   have hi:q/ks.length<m:=Nat.div_lt_of_lt_mul (by rw[Nat.mul_comm];exact hq)
   obtain⟨cs',h1,h2⟩:=hx _ hi
   have hfl:=Ew n k e ks cs' _ he h2 hc
   obtain⟨-,hlen,hcell⟩:=World.cells?_some h1
   have hj:q % ks.length<ks.length:=Nat.mod_lt _ hk
   have h3:=hcell (q % ks.length) (by rw[hc];exact hj)
   rw[Go.Deep.add_add,hc,Nat.div_add_mod']at h3
   obtain⟨u,c,e1,e2,e3,e4⟩:=hfl.2 _ _ (J9 hj)
   rw[e1]at h3
   unfold World.cell? at h3
   have hab:((⟨ab,ao,none⟩:Addr).add q).block=ab:=by unfold Addr.add;split<;>rfl
   have hao:((⟨ab,ao,none⟩:Addr).add q).off=ao+q:=by unfold Addr.add;split<;>simp_all
   rw[hab,hao]at h3
   split at h3
   ·rename_i arr T fz harr
    split at h3
    ·cases h3
    ·exact⟨arr,T,fz,u,c,harr,h3,e3,fun kk hkk=>by rw[J9 hj]at hkk;simp only[Gx]at hkk;rw[←hkk];exact e2,e4⟩
   ·cases h3
  obtain⟨cells,hcl,hcs⟩:=Oa (n:=m*ks.length) (p:=fun q c=>∃(arr:Array Value)(T:TypeId)(fz:_)(u:Value),W.heap[ab]?=some (.cells arr T fz)∧arr[ao+q]?=some u∧Yf u=some c∧(∀kk,ks[q % ks.length]?=some kk→kk.fits c)∧∀μ,V μ c u)
   fun q hq=>by obtain⟨arr,T,fz,u,c,h⟩:=cell q hq;exact⟨c,arr,T,fz,u,h⟩
  have hlm:len*ks.length≤m*ks.length:=Nat.mul_le_mul_right _ hl
  refine⟨fun j=>.slice j 0 len m ks.length false,⟨cells,if m=0 then .dead else .ro,ks.length⟩,some ⟨ab,ao,ks.length,ao+m*ks.length⟩,(List.range len).map fun i=>(cells.drop (i*ks.length)).take ks.length,?_,?_,⟨?_,?_,?_⟩,.inr ⟨len,m,fun _=>rfl⟩⟩
  ·intro j μ hj
   simp only[V]
   exact⟨_,m,ao,hj,rfl,rfl,hl,sM,.inr rfl,Nat.le_refl _⟩
  ·intro Gd_ tm htm
   simp only[Gx]at htm
   subst htm
   have hm0:m≠0:=by rintro rfl;simp at Gd_
   obtain⟨arr,T,fz,u,c,harr,-⟩:=cell 0 (Nat.mul_pos oM hk)
   refine⟨by simp[hm0],(N7.1 harr).1,arr,T,fz,harr,fun i c hi=>?_⟩
   obtain⟨arr',T',fz',u',e1,e2,-,-,e5⟩:=hcs i c hi
   rw[harr]at e1
   simp only[Gx,Obj.cells.injEq]at e1
   obtain⟨rfl,-,-⟩:=e1
   exact⟨u',e2,e5⟩
  ·intro j H'
   simp only[Wu,List.length_range];rfl
  ·intro hne
   have GrW:0<len:=by
    rcases Nat.eq_zero_or_pos len with rfl|h
    ·simp at hne
    ·exact h
   have hm0:m≠0:=by omega
   refine⟨⟨m,by simpa using hl,fun j=>by simp⟩,by simp[hm0],rfl,fun i x hi=>?_⟩
   rw[Ke,GR]at hi
   obtain⟨i',hi',rfl⟩:=hi
   have hil:=Gd hi'
   rw[ZG (by simpa using hil)]at hi'
   simp only[Gx]at hi'
   subst hi'
   refine⟨?_,rfl⟩
   simp only[List.length_range]at hil
   have:(i+1)*ks.length≤len*ks.length:=Nat.mul_le_mul_right _ hil
   rw[Nat.add_mul,Nat.one_mul]at this
   simp only[hcl];omega
  ·intro x hx'
   rw[YX]at hx'
   obtain⟨i,hi,rfl⟩:=hx'
   have hil:i<len:=by simpa using hi
   have:(i+1)*ks.length≤len*ks.length:=Nat.mul_le_mul_right _ hil
   rw[Nat.add_mul,Nat.one_mul]at this
   refine⟨by simp[hcl];omega,fun j kk hj=>?_⟩
   have hjl:=Gd hj
   have hlt:i*ks.length+j<cells.length:=by omega
   obtain⟨arr',T',fz',u',e1,e2,-,e4,-⟩:=hcs (i*ks.length+j) _ (J9 hlt)
   refine⟨cells[i*ks.length+j],by rw[Ze,if_pos hjl,Yo,J9 hlt],e4 kk ?_⟩
   rw[Nat.mul_comm,Nat.mul_add_mod,Nat.mod_eq_of_lt hjl];exact hj
theorem ZJ{H:Type}{enc:TypeId×Value→H}{P:Program}{W:World}{base:Nat}{r:Reach}{b0:Nat}{spare:Nat→Bool}{held:Bool}{t e:TypeId}{fs:Array Field}{a:Array Value}{d:DataW H}{ps:List MemPlace}{ts:List TypeId}
  (ht:P.underlying t=some (.struct fs))(hts:P.cellTypes P.depth t=some ts)(hl:ts.length=P.cellsOf t)(hval:Value.okWide P W r b0 t (.agg a))(hd:DataW.Trod enc P W base spare held t (.agg a) d ps)
  {i:Nat}{f:Field}(hf:fs[i]?=some f) (hft:P.underlying f.type=some (.slice e)) (hu:ts[f.offset]?=some f.type) (hc1:P.cellsOf f.type=1):
  ∃u d' ps',a[f.offset]?=some u∧Value.okWide P W r b0 f.type u∧DataW.Trod enc P W base spare held f.type u d' ps':=by
 simp only[Value.okWide,ht]at hval
 obtain⟨a',ha,hsz,ts',GiS,-,hcell⟩:=hval
 simp only[Value.agg.injEq]at ha
 subst ha
 rw[hts]at GiS
 simp only[Gx]at GiS
 subst GiS
 have hoff:=Gd hu
 obtain⟨u,hau⟩:∃u,a[f.offset]?=some u:=⟨_,O1 oM⟩
 obtain⟨u',hu',hok⟩:=hcell _ _ hau
 rw[Nat.mod_eq_of_lt hoff,hu]at hu'
 simp only[Gx]at hu'
 subst hu'
 have hok':Value.okWide P W r b0 f.type u:=by
  unfold Value.okWide
  rw[hft]
  exact hok
 obtain⟨ad,n,c,rfl⟩:=okWide_slice hft hok'
 obtain⟨fuel,hd⟩:=hd
 obtain⟨xs,k,rfl,-,-,hxl,hx⟩:=DataW.trod_struct ht hd
 have h1:=hx i f hf
 rw[hc1]at h1
 have hi:i<xs.length:=by
  rw[hxl]
  exact(N7.1 hf).1
 rw[J9 hi]at h1
 simp only[Value.cells]at h1
 have e1:(a.toList.drop f.offset).take 1=[.slice ad n c]:=by
  have h2:a.toList[f.offset]?=some (.slice ad n c):=by simpa using hau
  have hlt:=Gd h2
  rw[List.drop_eq_getElem_cons hlt]
  simp only[List.take_succ_cons,List.take_zero]
  rw[J9 hlt]at h2
  simp only[Gx]at h2
  rw[h2]
 rw[e1]at h1
 exact⟨_,xs[i].1,xs[i].2,hau,hok',k,by simpa[Value.cells]using h1⟩
theorem Pg{H:Type}{enc:TypeId×Value→H}{P:Program}{W:World}{base:Nat}{spare:Nat→Bool}{held:Bool}{t:TypeId}{fs:Array Field}{a:Array Value}{d:DataW H}{ps:List MemPlace}
  (ht:P.underlying t=some (.struct fs))(hd:DataW.Trod enc P W base spare held t (.agg a) d ps)
  {i:Nat}{f:Field}{k:IntKind}(hf:fs[i]?=some f) (hft:P.underlying f.type=some (.int k)) (hc1:P.cellsOf f.type=1):
  ∃m:Int,a[f.offset]?=some (.int k m)∧k.min≤m∧m≤k.max:=by
 obtain⟨fuel,hd⟩:=hd
 obtain⟨xs,n,rfl,-,-,hxl,hx⟩:=DataW.trod_struct ht hd
 have h1:=hx i f hf
 have hi:i<xs.length:=by
  rw[hxl]
  exact(N7.1 hf).1
 rw[hc1,J9 hi]at h1
 obtain⟨m,hm,-,hw⟩:=DataW.trod_int hft h1
 simp only[Lit.wf,JQ,decide_eq_true_eq]at hw
 refine⟨m,?_,hw⟩
 simp only[Value.cells]at hm
 have h2:=congrArg (fun l=>l[0]?) hm
 simp only[Ze,Yo,List.getElem?_cons_zero,Nat.add_zero]at h2
 simpa using h2
theorem GcG{P:Program}{W:World}(hm:P.follows .mixedOrders=true)(hp:D6 P)(hG:Z0 P W){f:Nat}(hfb:f<RB){args:List CV}{args':Array Value}{H0 H1:Gb}{tgs:List (Option Zz)}{v:CV}
  (hlen:tgs.length=H0.length)(hb:∀b blk,H0[b]?=some blk→GaU W blk (tgs.getD b none)) (hrun:run (Kn P) f args H0=some (v,H1)) (hv:VL (fun b=>tgs.getD b none) args args'.toList):
  Calls P f args' W fun e w'=>(∃ν v',e=.returned v'∧V ν v v')∧Below W.heap.size W w':=
 bridge hm hp hG hfb (μ:=fun b=>tgs.getD b none) (fun b blk m h1 h2 h3=>by
   obtain⟨q1,q2,arr,T,fz,q3,q4⟩:=hb b blk h1 h2 m h3
   exact⟨q1,q2,arr,T,fz,q3,fun i c hi=>by obtain⟨v,e1,e2⟩:=q4 i c hi;exact⟨v,e1,e2 _⟩⟩)
  (fun b h=>by rw[Qc,En oM];rfl) hrun hv
end Go.Cs
namespace Go.Cs
open Go Go.RowKit Go.ChangeShapes Go.WideShapes
end Go.Cs
namespace Go.Cs
def csL:=And.intro @Nat.zero_add<|And.intro @Nat.add_zero<|And.intro @Nat.mul_one<|And.intro @Option.map_some.{0,0}<|And.intro @Option.bind_some.{0,0}<|And.intro @Option.map_none.{0,0}<|And.intro @Option.bind_none.{0,0}<|And.intro @List.map_cons.{0,0}<|And.intro @List.map_nil.{0,0}<|And.intro @List.getElem?_cons_zero.{0}<|And.intro @List.getElem?_cons_succ.{0}<|And.intro @List.cons_append.{0}<|And.intro @List.nil_append.{0}<|And.intro @List.append_nil.{0}<|And.intro @Bool.not_true<|And.intro @Bool.not_false<|And.intro @Bool.false_eq_true<|And.intro @decide_true<|And.intro @decide_false<|And.intro @List.length_append.{0}<|And.intro @List.length_cons.{0}<|And.intro @List.length_nil.{0}<|And.intro @List.length_set.{0}<|And.intro @List.drop_zero.{0}<|And.intro @List.drop_succ_cons.{0}<|And.intro @List.take_succ_cons.{0}<|And.intro @List.take_zero.{0}<|And.intro @Int.toNat_natCast<|And.intro @List.set_cons_zero.{0}<|And.intro @List.set_cons_succ.{0}<|And.intro @List.drop_nil.{0} @List.take_nil.{0}
def Gc:=And.intro csA<|And.intro csB<|And.intro csV<|And.intro GmW<|And.intro GmD<|And.intro Go4<|And.intro GoR csL
def csN:=And.intro @eq_self.{1}<|And.intro @true_and<|And.intro @and_true<|And.intro @and_self<|And.intro @Nat.le_refl<|And.intro @List.length_append.{0}<|And.intro @List.length_cons.{0}<|And.intro @List.length_nil.{0}<|And.intro @List.length_set.{0}<|And.intro @List.length_map.{0,0}<|And.intro @List.length_replicate.{0}<|And.intro @Nat.zero_add<|And.intro @Nat.add_zero<|And.intro @Nat.mul_one<|And.intro @Gs<|And.intro @F_<|And.intro @Ym<|And.intro @FN<|And.intro @AU<|And.intro @IB<|And.intro @List.length_take.{0} @List.length_drop.{0}
def csF:=And.intro @Gq<|And.intro @Ml<|And.intro @JM<|And.intro @J6<|And.intro @Gbi<|And.intro @Gb2<|And.intro @OP<|And.intro @Gbp<|And.intro @Bool.and_true<|And.intro @Bool.true_and<|And.intro @List.all_cons.{0}<|And.intro @List.all_nil.{0} @List.all_append.{0}
theorem dz{p:Prop}(h:p:=by first|omega|rfl|assumption|(simp only[csN,Nat.reduceAdd,Nat.reduceMul,Nat.reduceLeDiff,Nat.reduceEqDiff]<;>omega)|(simp only[csF];done)|(simp only[csF]<;>assumption)|fail):p:=h
end Go.Cs
namespace Go.Cs
open Go
section
variable {F : Jp} {E : Env} {H : Gb}
def BN(op:BinOp)(x y:CV)(H:Gb):Option (CV×Gb):=match x,y with
 |.int k a,.int _ b=>(shiftOp op k a b).map fun v=>(v,H)
 |_,_=>none
def Eu(op:BinOp)(x y:CV):Option P5:=match x,y with
 |.int k a,.int _ b=>(shiftOp op k a b).bind okV
 |_,_=>none
def GeT(k:IntKind)(x:CV)(H:Gb):Option (CV×Gb):=match x with
 |.int _ n=>some (.int k (k.wrap n),H)
 |_=>none
def GfW(k:IntKind)(x:CV):Option P5:=match x with
 |.int _ n=>okV (.int k (k.wrap n))
 |_=>none
def vMm(big:Bool)(l:List CV)(H:Gb):Option (CV×Gb):=(GgY big l).map fun v=>(v,H)
theorem Fg{op:BinOp}{x y:J7}:K3 F (.shift op x y) E H=BN op (E.ev x) (E.ev y) H:=by
 simp only[K3,Vu,GL,BN]
 cases E.ev x<;>cases E.ev y<;>first|rfl|skip
 rename_i k a k' b
 dsimp only
 cases shiftOp op k a b<;>rfl
theorem Sz{op:BinOp}{x y:J7}:GL (.shift op x y) E H=Eu op (E.ev x) (E.ev y):=by
 simp only[GL,Eu]
 cases E.ev x<;>cases E.ev y<;>first|rfl|skip
 rename_i k a k' b
 dsimp only
 cases shiftOp op k a b<;>rfl
theorem Nf{k:IntKind}{x:J7}:K3 F (.conv k x) E H=GeT k (E.ev x) H:=by
 simp only[K3,Vu,GL,GeT]<;>cases E.ev x<;>rfl
theorem Aj{k:IntKind}{x:J7}:GL (.conv k x) E H=GfW k (E.ev x):=by
 simp only[GL,GfW]<;>cases E.ev x<;>rfl
theorem LG{big:Bool}{l:List J7}:K3 F (.mm big l) E H=vMm big (l.map E.ev) H:=by
 simp only[K3,Vu,GL,vMm]<;>cases GgY big (l.map E.ev)<;>rfl
theorem GmJ{k k':IntKind}{a b:Int}(h:0≤b):BN .shl (.int k a) (.int k' b) H=some (.int k (k.wrap (a*2 ^ min b.toNat k.bits)),H):=by
 simp only[BN,shiftOp];rw[if_neg oM];rfl
theorem Gqd{k k':IntKind}{a b:Int}(h:0≤b):BN .shr (.int k a) (.int k' b) H=some (.int k (a.fdiv (2 ^ min b.toNat k.bits)),H):=by
 simp only[BN,shiftOp];rw[if_neg oM];rfl
theorem Goe{k k':IntKind}{a b:Int}(h:0≤b):Eu .shl (.int k a) (.int k' b)=okV (.int k (k.wrap (a*2 ^ min b.toNat k.bits))):=by
 simp only[Eu,shiftOp];rw[if_neg oM];rfl
theorem Gqs{k k':IntKind}{a b:Int}(h:0≤b):Eu .shr (.int k a) (.int k' b)=okV (.int k (a.fdiv (2 ^ min b.toNat k.bits))):=by
 simp only[Eu,shiftOp];rw[if_neg oM];rfl
theorem Qi{k k':IntKind}{n:Int}:GeT k (.int k' n) H=some (.int k (k.wrap n),H):=rfl
theorem Aq{k k':IntKind}{n:Int}:GfW k (.int k' n)=okV (.int k (k.wrap n)):=rfl
theorem WO{big:Bool}{k k':IntKind}{x y:Int}:vMm big [.int k x,.int k' y] H=some (.int k (if big then(if y>x then y else x)else(if y<x then y else x)),H):=rfl
theorem Wv{k:IntKind}{a b:Int}:Qw .and (.int k a) (.int k b)=okV (.int k (k.wrap (BitVec.ofInt k.bits a &&& BitVec.ofInt k.bits b).toNat)):=by simp[Qw,Kk]
theorem Oh{k:IntKind}{a b:Int}:Qw .mul (.int k a) (.int k b)=okV (.int k (k.wrap (a*b))):=by simp[Qw,Kk]
theorem ZV{k:IntKind}{a b:Int}(h:b≠0):Qw .quo (.int k a) (.int k b)=okV (.int k (k.wrap (a.tdiv b))):=by simp[Qw,Kk,h]
theorem N9{k:IntKind}{a b:Int}(h:b≠0):Qw .rem (.int k a) (.int k b)=okV (.int k (a.tmod b)):=by simp[Qw,Kk,h]
end
end Go.Cs
namespace Go.Cs
open Go
def GfU(p:JD)(c:Gu)(Inv:Nat→Env→Gb→Prop)(Post:CX→Env→Gb→Prop):Prop:=
 ∀k E H,Inv k E H→∃x E' H',den p (.loop c) E H=some (x,E',H')∧x≠.normal∧Post x E' H'
theorem Gdw{p:JD}{c:Gu}{Inv:Nat→Env→Gb→Prop}{Post:CX→Env→Gb→Prop}
  (step:∀k E H,Inv k E H→∃x E' H',den p c E H=some (x,E',H')∧((x=.normal∧∃k',k'<k∧Inv k' E' H')∨(x≠.normal∧Post x E' H'))):GfU p c Inv Post:=by
 intro k
 induction k using Nat.strongRecOn with
 |_ k ih=>
  intro E H hi
  obtain⟨x,E',H',e,h⟩:=step k E H hi
  rcases h with⟨rfl,k',hk,hi'⟩|⟨hx,hp⟩
  ·obtain⟨x2,E2,H2,e2,h2⟩:=ih k' hk E' H' hi'
   refine⟨x2,E2,H2,?_,h2⟩
   rw[Zo,e,Po,e2]
  ·refine⟨x,E',H',?_,hx,hp⟩
   rw[Zo,e]
   cases x with
   |normal=>exact absurd rfl hx
   |exit i=>rfl
   |ret=>rfl
theorem Gt{p:JD}{c:Gu}{Inv:Nat→Env→Gb→Prop}{Post:CX→Env→Gb→Prop}{k k':Nat}{E E':Env}{H H':Gb}(e:den p c E H=some (.normal,E',H'))(hk:k'<k)(hi:Inv k' E' H'):
 ∃x E' H',den p c E H=some (x,E',H')∧((x=.normal∧∃k',k'<k∧Inv k' E' H')∨(x≠.normal∧Post x E' H')):=⟨_,_,_,e,.inl ⟨rfl,k',hk,hi⟩⟩
theorem Gl{p:JD}{c:Gu}{Inv:Nat→Env→Gb→Prop}{Post:CX→Env→Gb→Prop}{k:Nat}{x:CX}{E E':Env}{H H':Gb}(e:den p c E H=some (x,E',H'))(hx:x≠.normal)(hp:Post x E' H'):
 ∃x E' H',den p c E H=some (x,E',H')∧((x=.normal∧∃k',k'<k∧Inv k' E' H')∨(x≠.normal∧Post x E' H')):=⟨_,_,_,e,.inr ⟨hx,hp⟩⟩
end Go.Cs
namespace Go.Cs
open Go
def wr:Gu→List Nat
 |.region ops=>ops.filterMap (·.dst)
 |.QC ops=>ops.filterMap (·.s.dst)
 |.seq a b=>wr a++wr b
 |.cond _ a b=>wr a++wr b
 |.block _ c=>wr c
 |.loop c=>wr c
 |_=>[]
def IZ:Gu→Bool
 |.seq a b=>IZ a&&IZ b
 |.cond _ a b=>IZ a&&IZ b
 |.block _ c=>IZ c
 |.loop c=>IZ c
 |.YO .. =>false
 |_=>true
theorem Zl{E:Env}{d:Option Nat}{v:CV}{t:Nat}(h:t∉d.toList):E.put d v t=E t:=by
 cases d with
 |none=>rfl
 |some d=>
  simp only[VT,Uy]at h
  simp only[Env.put,Env.upd,if_neg h]
theorem UM{α:Type}{f:α→Option Nat}{a:α}{l:List α}{t:Nat}(h:t∉(a::l).filterMap f):t∉(f a).toList∧t∉l.filterMap f:=by
 rw[List.filterMap_cons]at h
 cases hf:f a with
 |none=>rw[hf]at h;exact⟨sM,h⟩
 |some d=>rw[hf]at h;simp only[List.mem_cons,not_or]at h;exact⟨by simpa using h.1,h.2⟩
theorem SC{F:Jp}{t:Nat}:∀{l:List GZ}{E:Env}{H:Gb}{r:Env×Gb},K4 F l E H=some r→t∉l.filterMap (·.dst)→r.1 t=E t
 |[],E,H,r,h,_=>by simp only[K4,Gx]at h;subst h;rfl
 |s::l,E,H,r,h,ht=>by
  obtain⟨h1,h2⟩:=UM ht
  simp only[K4,Jt]at h
  obtain⟨q,hq,hr⟩:=h
  rw[SC hr h2]
  unfold QE at hq
  split at hq
  ·rw[GR]at hq;obtain⟨p,_,rfl⟩:=hq;exact Zl h1
  ·simp only[Gx]at hq;subst hq;exact Zl h1
theorem PZ{F:Jp}{t:Nat}:∀{l:List GQ}{E:Env}{H:Gb}{hs:List Gb}{r:Env×Gb},AL F l E H hs=some r→t∉l.filterMap (·.s.dst)→r.1 t=E t
 |[],E,H,hs,r,h,_=>by simp only[AL,Gx]at h;subst h;rfl
 |d::l,E,H,hs,r,h,ht=>by
  obtain⟨h1,h2⟩:=UM ht
  unfold AL at h
  split at h
  ·rw[PZ h h2];exact Zl h1
  ·split at h
   ·rw[Jt]at h
    obtain⟨q,hq,hr⟩:=h
    rw[PZ hr h2];exact Zl h1
   ·rw[Jt]at h
    obtain⟨m,_,hr⟩:=h
    split at hr
    ·rw[PZ hr h2];exact Zl h1
    ·cases hr
theorem FI(p:JD){t:Nat}:∀(n:Nat){c:Gu}{E:Env}{H:Gb}{r:CX×Env×Gb},ev p n c E H=some r→IZ c=true→t∉wr c→r.2.1 t=E t
 |0,_,_,_,_,h,_,_=>by cases h
 |n+1,c,E,H,r,h,hn,ht=>by
  rw[KM]at h
  cases c with
  |skip=>simp only[Gx]at h;subst h;rfl
  |region ops=>rw[GR]at h;obtain⟨q,hq,rfl⟩:=h;exact SC hq ht
  |QC ops=>rw[GR]at h;obtain⟨q,hq,rfl⟩:=h;exact PZ hq ht
  |seq a b=>
   simp only[wr,NG,not_or]at ht
   simp only[IZ,JQ]at hn
   rw[Jt]at h
   obtain⟨q,hq,h⟩:=h
   have h1:=FI p n hq hn.1 ht.1
   split at h
   ·rw[FI p n h hn.2 ht.2,h1]
   ·simp only[Gx]at h;subst h;exact h1
  |cond c a b=>
   simp only[wr,NG,not_or]at ht
   simp only[IZ,JQ]at hn
   dsimp only at h
   split at h
   ·rename_i tt _
    cases tt with
    |true=>exact FI p n h hn.1 ht.1
    |false=>exact FI p n h hn.2 ht.2
   ·cases h
  |block id c=>
   simp only[wr]at ht
   rw[GR]at h
   obtain⟨q,hq,rfl⟩:=h
   exact FI p n (r:=q) hq hn ht
  |loop c=>
   have ht':=ht
   have hn':=hn
   simp only[wr]at ht
   rw[Jt]at h
   obtain⟨q,hq,h⟩:=h
   have h1:=FI p n hq hn ht
   split at h
   ·rw[FI p n h hn' ht',h1]
   ·simp only[Gx]at h;subst h;exact h1
  |Qb g ps k z=>
   rw[Jt]at h
   obtain⟨q,hq,h⟩:=h
   rw[(Yz h).2]
  |YO q b r=>cases hn
  |exit id=>simp only[Gx]at h;subst h;rfl
  |ret=>simp only[Gx]at h;subst h;rfl
theorem GjP{p:JD}{c:Gu}{E E':Env}{H H':Gb}{x:CX}(h:den p c E H=some (x,E',H'))(hc:IZ c=true){t:Nat}(ht:t∉wr c):E' t=E t:=by
 obtain⟨n,hn⟩:=Kw.1 h
 exact FI p n hn hc ht
theorem Gy{p:JD}{c:Gu}{E0:Env}{H0:Gb}(Inv:Nat→Env→Gb→Prop)(Post:CX→Env→Gb→Prop)
  (step:∀k E H,(∀t,t∉wr c→E t=E0 t)→Inv k E H→∃x E' H',den p c E H=some (x,E',H')∧((x=.normal∧∃k',k'<k∧Inv k' E' H')∨(x≠.normal∧Post x E' H')))
  (k:Nat)(hi:Inv k E0 H0)(hc:IZ c=true:=by decide +kernel):∃x E' H',den p (.loop c) E0 H0=some (x,E',H')∧x≠.normal∧Post x E' H'∧∀t,t∉wr c→E' t=E0 t:=by
 have key:GfU p c (fun k E H=>(∀t,t∉wr c→E t=E0 t)∧Inv k E H) (fun x E' H'=>Post x E' H'∧∀t,t∉wr c→E' t=E0 t):=by
  refine Gdw ?_
  rintro k E H ⟨hE,hi⟩
  obtain⟨x,E',H',e,h⟩:=step k E H hE hi
  have hE':∀t,t∉wr c→E' t=E0 t:=fun t ht=>(GjP e hc ht).trans (hE t ht)
  refine⟨x,E',H',e,?_⟩
  rcases h with⟨rfl,k',hk,hi'⟩|⟨hx,hp⟩
  ·exact .inl ⟨rfl,k',hk,hE',hi'⟩
  ·exact .inr ⟨hx,hp,hE'⟩
 obtain⟨x,E',H',e,hx,hp⟩:=key k E0 H0 ⟨fun _ _=>rfl,hi⟩
 exact⟨x,E',H',e,hx,hp⟩
end Go.Cs
namespace Go.Cs.Tryz
open Go Go.Cs A
noncomputable abbrev P:JD:=Kn Go.Proofs.Tryz.prog
def Gqz:Gm:=⟨12,0,T [n 4 0] (S (T [m 5 0,m 6 1,q2 7 228 5 6,no 8 7] (I 8 (Q [n 4 (-1)]))) (Q [m 9 0,m 10 1,q2 11 229 9 10,m 4 11])),[r 4]⟩
theorem c139:P 139=some Gqz:=by kernel_rfl
def Gr5:Gm:=⟨19,0,T [nb 4 false] (Q [m 5 0,q1 6 265 5,m 7 6,gt 7 (m 8 1),gt 7 (bk 9 .geq 8 0),an 10 7 9,m 11 10,gt 11 (m 12 1),gt 11 (m 13 0),gt 11 (z 14 13),gt 11 (f 15 0 14),gt 11 (l 16 1 15),gt 11 (b 17 .lss 12 16),an 18 11 17,m 4 18]),[r 4]⟩
theorem c228:P 228=some Gr5:=by kernel_rfl
def Gpg:Gm:=⟨27,0,T [n 4 0] (T [m 6 1,m 7 0,z 8 7,f 9 1 8,l 10 1 9,b 11 .mul 6 10,m 5 11] (S (D [⟨m 24 0,12,0,0⟩,⟨q1 25 268 24,13,3,0⟩,⟨m 12 0,0,0,0⟩,⟨z 13 12,1,0,0⟩,⟨f 14 2 13,2,0,0⟩,⟨l 15 1 14,3,1,0⟩,⟨m 16 5,4,0,0⟩,⟨bk 17 .quo 16 64,5,0,0⟩,⟨x 18 1 15 17,6,0,0⟩,⟨l 19 1 18,7,1,0⟩,⟨m 20 5,8,0,0⟩,⟨bk 21 .rem 20 64,9,0,0⟩,⟨e 22 (.shift .shr (t 19) (t 21)),10,0,0⟩,⟨e 23 (.conv .i64 (t 22)),11,0,0⟩,⟨b 26 .and 23 25,14,0,1⟩,⟨m 4 26,15,0,1⟩]) .ret)),[r 4]⟩
theorem c229:P 229=some Gpg:=by kernel_rfl
def BG:Gu:=S (T [m 14 8,m 15 0,z 16 15,f 17 0 16,l 18 1 17,b 19 .lss 14 18] (J 19 (X 0))) (S (B 1 (T [m 22 0,m 23 8,q2 24 229 22 23,m 25 2,b 26 .eql 24 25] (I 26 (Q [m 27 8,m 6 27,n 7 0])))) (R [m 20 8,bk 21 .add 20 1,m 8 21]))
def Gqm:Gm:=⟨28,0,T [n 6 0,n 7 0] (S (T [m 9 0,q1 10 265 9,no 11 10] (I 11 (Q [n 6 0,n 7 5]))) (S (T [m 12 1,e 13 (.mm true [t 12,k 0]),m 8 13] (B 0 (W BG))) (Q [n 6 0,n 7 4]))),[r 6,r 7]⟩
theorem GqE:P 247=some Gqm:=by kernel_rfl
def Bf:Gu:=S (T [m 20 8,bk 21 .geq 20 0] (J 21 (X 0))) (S (B 1 (T [m 24 0,m 25 8,q2 26 229 24 25,m 27 2,b 28 .eql 26 27] (I 28 (Q [m 29 8,m 6 29,n 7 0])))) (R [m 22 8,bk 23 .sub 22 1,m 8 23]))
def GmH:Gm:=⟨30,0,T [n 6 0,n 7 0] (S (T [m 9 0,q1 10 265 9,no 11 10] (I 11 (Q [n 6 0,n 7 5]))) (S (T [m 12 1,e 13 (.mm true [t 12,k 0]),m 14 0,z 15 14,f 16 0 15,l 17 1 16,e 18 (.mm false [t 13,t 17]),bk 19 .sub 18 1,m 8 19] (B 0 (W Bf))) (Q [n 6 0,n 7 4]))),[r 6,r 7]⟩
theorem GpT:P 261=some GmH:=by kernel_rfl
def Gny:Gm:=⟨12,0,T [nb 2 false] (Q [m 3 0,e 4 (.eqv true 1 (t 3) (c .nilPtr)),m 5 4,gt 5 (m 6 0),gt 5 (z 7 6),gt 5 (f 8 0 7),gt 5 (l 9 1 8),gt 5 (bk 10 .gtr 9 0),an 11 5 10,m 2 11]),[r 2]⟩
theorem GqU:P 265=some Gny:=by kernel_rfl
def Gpa:Gm:=⟨9,0,T [n 2 0] (Q [m 3 0,z 4 3,f 5 1 4,l 6 1 5,e 7 (.shift .shl (k 1) (t 6)),bk 8 .sub 7 1,m 2 8]),[r 2]⟩
theorem Got:P 268=some Gpa:=by kernel_rfl
end Go.Cs.Tryz
namespace Go.Cs
open Go
def UU(n:Nat):Nat:=(n+63)/64
structure Side(H:Gb)(b wb n:Nat)(f:Nat→Bool):Prop where
 st:H[b]?=some ⟨[.i n,.i 1,.slice wb 0 (UU n) (UU n) 1 false],.rw,0⟩
 ws:∃ws:List Nat,ws.length=UU n∧(∀w∈ws,w<18446744073709551616)∧H[wb]?=some ⟨ws.map (fun(m:Nat)=>CV.int .u64 m),.rw,1⟩∧∀i,i<n→(ws.getD (i/64) 0).testBit (i % 64)=f i
 pos:0<n∧n≤4096
theorem Side.frame{H H':Gb}{b wb n:Nat}{f:Nat→Bool}(s:Side H b wb n f)(h1:H'[b]?=H[b]?) (h2:H'[wb]?=H[wb]?):Side H' b wb n f:=
 ⟨by rw[h1,s.st],by rw[h2];exact s.ws,s.pos⟩
theorem Side.app{H:Gb}{b wb n:Nat}{f:Nat→Bool}(s:Side H b wb n f)(J:Gb):Side (H++J) b wb n f:=by
 obtain⟨ws,-,-,h,-⟩:=s.ws
 exact s.frame (QN (Gd s.st)) (QN (Gd h))
def Ep(b:Bool):Int:=if b then 1 else 0
def OC(f:Nat→Bool):Nat→Nat→Option Nat
 |0,_=>none
 |k+1,j=>if f j=true then some j else OC f k (j+1)
def Ur(f:Nat→Bool):Nat→Option Nat
 |0=>none
 |j+1=>if f j=true then some j else Ur f j
def Ns(r:Option Nat):CV:=match r with
 |some j=>.Ju [.i j,.i 0]
 |none=>.Ju [.i 0,.i 4]
theorem GdE(x:Nat):IntKind.i64.wrap ((BitVec.ofInt 64 (IntKind.i64.wrap (x:Int)) &&& BitVec.ofInt 64 1).toNat:Int)=((x % 2:Nat):Int):=by
 have h4:BitVec.ofInt 64 (IntKind.i64.wrap (x:Int))=BitVec.ofNat 64 x:=by
  apply BitVec.eq_of_toNat_eq
  rw[BitVec.toNat_ofInt,BitVec.toNat_ofNat]
  have e:((2:Int) ^ (64:Nat))=18446744073709551616:=by decide
  have e2:((2:Int) ^ (63:Nat))=9223372036854775808:=by decide
  simp only[IntKind.wrap,IntKind.bits,IntKind.signed,e,Nat.reduceSub,e2,Bool.true_and,ge_iff_le,decide_eq_true_eq]
  split<;>omega
 rw[h4]
 have h5:(BitVec.ofNat 64 x &&& BitVec.ofInt 64 1).toNat=x % 2:=by
  rw[BitVec.toNat_and,BitVec.toNat_ofNat]
  have:(BitVec.ofInt 64 1).toNat=1:=by decide
  rw[this,Nat.and_one_is_mod]
  omega
 rw[h5]
 exact Gh oM
theorem GiG(w k:Nat):((w/2 ^ k % 2:Nat):Int)=Ep (w.testBit k):=by
 rw[Nat.testBit_eq_decide_div_mod_eq]
 unfold Ep
 by_cases h:w/2 ^ k % 2=1
 ·rw[h];simp
 ·have:w/2 ^ k % 2=0:=by omega
  rw[this];simp
theorem Ggk(w k:Nat)(hk:k<64):(w:Int).fdiv (2 ^ min k 64)=((w/2 ^ k:Nat):Int):=by
 have h2:min k 64=k:=by omega
 have:((2:Int) ^ k)=((2 ^ k:Nat):Int):=by simp
 rw[h2,this,Int.ofNat_fdiv]
theorem wrapN{n:Nat}(h:n≤9223372036854775807):IntKind.i64.wrap (n:Int)=n:=Gh oM
theorem KT(a b:Nat):(a:Int).tdiv (b:Int)=((a/b:Nat):Int):=by simp
theorem U1(a b:Nat):(a:Int).tmod (b:Int)=((a % b:Nat):Int):=by rw[Int.tmod_eq_emod_of_nonneg oM];simp
end Go.Cs
namespace Go.Cs.Tryz
open Go Go.Cs
section
variable {H : Gb} {b wb n : Nat} {f : Nat → Bool}
theorem Av(s:Side H b wb n f):run P 265 [.ptr b 0] H=some (.bool true,H):=by
 have h:=s.st
 have hp:=s.pos
 rw[Gi GqU _ _ sM]
 have hl:(0:Int)<n:=by omega
 simp(disch:=first|exact dz|fail) only[simprocAttr,Gc,↓reduceIte,Gv,h,hl,EC,Bool.not_false,decide_true]
theorem E8(s:Side H b wb n f):run P 268 [.ptr b 0] H=some (.i 1,H):=by
 have h:=s.st
 rw[Gi Got _ _ sM]
 have e:IntKind.i64.wrap (1*2 ^ min 1 IntKind.i64.bits)=2:=by decide
 have e2:IntKind.i64.wrap (2-1)=1:=by decide
 simp(disch:=first|exact dz|fail) only[simprocAttr,Gc,↓reduceIte,Gv,h,Fg,GmJ,e,e2]
theorem LD(s:Side H b wb n f)(i:Int):run P 228 [.ptr b 0,.i i] H=some (.bool (decide (0≤i∧i<n)),H):=by
 have h1:=Av s
 have h:=s.st
 rw[Gi c228 _ _ sM]
 by_cases hi:0≤i
 ·by_cases hn:i<n
  ·simp(disch:=first|exact dz|fail) only[simprocAttr,Gc,↓reduceIte,Gj,h1,h,hi,hn,decide_true]
   simp[hi,hn]
  ·simp(disch:=first|exact dz|fail) only[simprocAttr,Gc,↓reduceIte,Gj,h1,h,hi,hn,decide_true,decide_false]
   simp[hn]
 ·simp(disch:=first|exact dz|fail) only[simprocAttr,Gc,↓reduceIte,Gj,h1,h,hi,decide_true,decide_false]
  simp[hi]
theorem Er(s:Side H b wb n f){i:Nat}(hi:i<n):run P 229 [.ptr b 0,.i i] H=some (.i (Ep (f i)),H):=by
 have h4:=E8 s
 have h:=s.st
 have hp:=s.pos
 obtain⟨ws,h1,h2,h3,h5⟩:=s.ws
 have hd:(i:Int).tdiv 64=((i/64:Nat):Int):=KT i 64
 have hm:(i:Int).tmod 64=((i % 64:Nat):Int):=U1 i 64
 have hi0:IntKind.i64.wrap (i:Int)=i:=wrapN oM
 have hq:IntKind.i64.wrap ((i/64:Nat):Int)=((i/64:Nat):Int):=wrapN oM
 have hlt:i/64<UU n:=by unfold UU;omega
 have hx:(ws.map (fun(m:Nat)=>CV.int .u64 m))[i/64]?=some (.int .u64 ((ws.getD (i/64) 0:Nat):Int)):=by
  rw[Ke,J9 oM,Qc,J9 oM];rfl
 have hb1:(0:Int)≤((i/64:Nat):Int)∧((i/64:Nat):Int)<((UU n:Nat):Int):=by omega
 have hb2:(0:Int)≤((i % 64:Nat):Int):=by omega
 have htn:(((i/64:Nat):Int)).toNat=i/64:=by omega
 have hsh:=Ggk (ws.getD (i/64) 0) (i % 64) oM
 have hres:=GdE (ws.getD (i/64) 0/2 ^ (i % 64))
 rw[GiG,h5 i hi]at hres
 rw[Gi c229 _ _ sM]
 simp(disch:=first|exact dz|fail) only[simprocAttr,Gc,↓reduceIte,Gj,h,h4,h3,Sz,Gqs,Aj,Aq,Wv,ZV,N9,hi0,hd,hm,hq,htn,hx,Int.mul_one,IntKind.bits,hsh,hres,Nat.mul_one,Nat.zero_add]
 exact congrArg (fun z=>some (CV.int .i64 z,H)) hres
theorem TJ(s:Side H b wb n f)(i:Int):run P 139 [.ptr b 0,.i i] H=some (.i (if 0≤i∧i<n then Ep (f i.toNat)else -1),H):=by
 have h1:=LD s i
 rw[Gi c139 _ _ sM]
 by_cases hi:0≤i∧i<n
 ·have h2:=Er s (i:=i.toNat) oM
  have e:((i.toNat:Nat):Int)=i:=by omega
  rw[e]at h2
  rw[GK hi]at h1
  rw[if_pos hi]
  simp(disch:=first|exact dz|fail) only[simprocAttr,Gc,↓reduceIte,Gj,h1,h2,Bool.not_true]
 ·rw[GC hi]at h1
  rw[if_neg hi]
  simp(disch:=first|exact dz|fail) only[simprocAttr,Gc,↓reduceIte,Gj,h1,Bool.not_false]
theorem Gjl(s:Side H b wb n f){E0:Env}{j0:Nat}(h0:E0 0=.ptr b 0)(h2:E0 2=.i 1)(h8:E0 8=.i j0){r:Option (CX×Env×Gb)}(hr:den P (.loop BG) E0 H=r):
  ∃x E',r=some (x,E',H)∧((x=.ret∧.Ju [E' 6,E' 7]=Ns (OC f (n-j0) j0))∨(x=.exit 0∧OC f (n-j0) j0=none)):=by
 have hst:=s.st
 have hp:=s.pos
 obtain⟨x',E',H',e,-,⟨rfl,h⟩,fr⟩:=Gy (p:=P) (c:=BG) (E0:=E0) (H0:=H) (fun k E H'=>H'=H∧∃j:Nat,E 8=.i j∧k=n-j∧OC f (n-j) j=OC f (n-j0) j0)
  (fun x E' H'=>H'=H∧((x=.ret∧.Ju [E' 6,E' 7]=Ns (OC f (n-j0) j0))∨(x=.exit 0∧OC f (n-j0) j0=none))) (by
   rintro k E H' hE ⟨rfl,j,e8,rfl,hj⟩
   have e0:=(hE 0 dK).trans h0
   have e2:=(hE 2 dK).trans h2
   by_cases c:j<n
   ·have hg:=Er s c
    have hk:n-j=(n-(j+1))+1:=by omega
    rw[hk]at hj
    simp only[OC]at hj
    by_cases hf:f j=true
    ·rw[if_pos hf]at hj
     rw[hf]at hg
     apply Gl (x:=.ret)
     ·simp(disch:=first|exact dz|fail) only[simprocAttr,Gc,↓reduceIte,BG,e0,e2,e8,hst,c,hg,Ep]
      rfl
     ·simp
     ·exact⟨rfl,.inl ⟨rfl,by rw[←hj];simp[Gg,Ns]⟩⟩
    ·rw[if_neg hf]at hj
     have hf':f j=false:=by simpa using hf
     rw[hf']at hg
     have hw:IntKind.i64.wrap ((j:Int)+1)=((j+1:Nat):Int):=Gh oM
     apply Gt (k':=n-(j+1))
     ·simp(disch:=first|exact dz|fail) only[simprocAttr,Gc,↓reduceIte,BG,e0,e2,e8,hst,c,hg,Ep,hw]
      rfl
     ·omega
     ·exact⟨rfl,j+1,uA,rfl,hj⟩
   ·have hk:n-j=0:=by omega
    rw[hk]at hj
    simp only[OC]at hj
    apply Gl (x:=.exit 0)
    ·simp(disch:=first|exact dz|fail) only[simprocAttr,Gc,↓reduceIte,BG,e0,e2,e8,hst,c]
     rfl
    ·simp
    ·exact⟨rfl,.inr ⟨rfl,hj.symm⟩⟩) (n-j0) ⟨rfl,j0,h8,rfl,rfl⟩
 exact⟨x',E',hr.symm.trans e,h⟩
theorem P7(s:Side H b wb n f)(j:Nat):run P 247 [.ptr b 0,.i j,.i 1] H=some (Ns (OC f (n-j) j),H):=by
 have h4:=Av s
 rw[Gi GqE _ _ sM]
 have hm:(if(0:Int)>(j:Int)then(0:Int)else(j:Int))=j:=if_neg oM
 simp(disch:=first|exact dz|fail) only[simprocAttr,Gc,↓reduceIte,G8,h4,LG,WO,Bool.not_true,hm]
 generalize hr:den P (.loop BG) _ _=r
 obtain⟨x,E',rfl,hp⟩:=Gjl s (j0:=j) uA uA uA hr
 rcases hp with⟨rfl,h1⟩|⟨rfl,h1⟩
 ·simp(disch:=first|exact dz|fail) only[simprocAttr,Gc,↓reduceIte,h1]
 ·rw[h1]
  simp(disch:=first|exact dz|fail) only[simprocAttr,Gc,↓reduceIte,Ns]
theorem Gkc(s:Side H b wb n f){E0:Env}{j0:Nat}(hj0:j0≤n)(h0:E0 0=.ptr b 0)(h2:E0 2=.i 1)(h8:E0 8=.i ((j0:Int)-1)){r:Option (CX×Env×Gb)}(hr:den P (.loop Bf) E0 H=r):
  ∃x E',r=some (x,E',H)∧((x=.ret∧.Ju [E' 6,E' 7]=Ns (Ur f j0))∨(x=.exit 0∧Ur f j0=none)):=by
 have hst:=s.st
 have hp:=s.pos
 obtain⟨x',E',H',e,-,⟨rfl,h⟩,fr⟩:=Gy (p:=P) (c:=Bf) (E0:=E0) (H0:=H) (fun k E H'=>H'=H∧∃j:Nat,E 8=.i ((j:Int)-1)∧j≤n∧k=j∧Ur f j=Ur f j0)
  (fun x E' H'=>H'=H∧((x=.ret∧.Ju [E' 6,E' 7]=Ns (Ur f j0))∨(x=.exit 0∧Ur f j0=none))) (by
   rintro k E H' hE ⟨rfl,j,e8,hjn,rfl,hj⟩
   have e0:=(hE 0 dK).trans h0
   have e2:=(hE 2 dK).trans h2
   rcases k with _|j
   ·simp only[Ur]at hj
    apply Gl (x:=.exit 0)
    ·simp(disch:=first|exact dz|fail) only[simprocAttr,Gc,↓reduceIte,Bf,e0,e2,e8,hst]
     rfl
    ·simp
    ·exact⟨rfl,.inr ⟨rfl,hj.symm⟩⟩
   ·have e8':E 8=.i (j:Int):=by rw[e8];congr 1;omega
    have hg:=Er s (i:=j) oM
    simp only[Ur]at hj
    have c0:(0:Int)≤(j:Int):=by omega
    by_cases hf:f j=true
    ·rw[if_pos hf]at hj
     rw[hf]at hg
     apply Gl (x:=.ret)
     ·simp(disch:=first|exact dz|fail) only[simprocAttr,Gc,↓reduceIte,Bf,e0,e2,e8',hst,c0,hg,Ep,decide_true]
      rfl
     ·simp
     ·exact⟨rfl,.inl ⟨rfl,by rw[←hj];simp[Gg,Ns]⟩⟩
    ·rw[if_neg hf]at hj
     have hf':f j=false:=by simpa using hf
     rw[hf']at hg
     have hw:IntKind.i64.wrap ((j:Int)-1)=(j:Int)-1:=Gh oM
     apply Gt (k':=j)
     ·simp(disch:=first|exact dz|fail) only[simprocAttr,Gc,↓reduceIte,Bf,e0,e2,e8',hst,c0,hg,Ep,hw,decide_true]
      rfl
     ·omega
     ·exact⟨rfl,j,uA,oM,rfl,hj⟩) j0 ⟨rfl,j0,h8,hj0,rfl,rfl⟩
 exact⟨x',E',hr.symm.trans e,h⟩
theorem Gct(s:Side H b wb n f){j:Nat}(hj:j≤n):run P 261 [.ptr b 0,.i j,.i 1] H=some (Ns (Ur f j),H):=by
 have h4:=Av s
 have hst:=s.st
 have hp:=s.pos
 rw[Gi GpT _ _ sM]
 have hm:(if(0:Int)>(j:Int)then(0:Int)else(j:Int))=j:=if_neg oM
 have hm2:(if(n:Int)<(j:Int)then(n:Int)else(j:Int))=j:=if_neg oM
 have hw:IntKind.i64.wrap ((j:Int)-1)=(j:Int)-1:=Gh oM
 simp(disch:=first|exact dz|fail) only[simprocAttr,Gc,↓reduceIte,G8,h4,hst,LG,WO,Bool.not_true,hm,hm2,hw]
 generalize hr:den P (.loop Bf) _ _=r
 obtain⟨x,E',rfl,hp⟩:=Gkc s (j0:=j) hj uA uA uA hr
 rcases hp with⟨rfl,h1⟩|⟨rfl,h1⟩
 ·simp(disch:=first|exact dz|fail) only[simprocAttr,Gc,↓reduceIte,h1]
 ·rw[h1]
  simp(disch:=first|exact dz|fail) only[simprocAttr,Gc,↓reduceIte,Ns]
end
end Go.Cs.Tryz
namespace Go.Cs
open Go
structure Obj where
 nr:Int
 nd:Int
 kd:Int
 refs:List Int
 data:List Int
structure Mdl where
 slots:List (List Int)
 globals:List Int
 queue:List Int
 objs:List Obj
abbrev Tag:=Nat×Nat×Nat
abbrev Tags:=Nat→Option Tag
def ints(l:List Int):List CV:=l.map CV.i
theorem Aa(l:List Int):(ints l).length=l.length:=by simp[ints]
theorem ZX(l:List Int)(i:Nat):(ints l)[i]?=l[i]?.map CV.i:=by simp[ints]
theorem UZ(l k:List Int):ints (l++k)=ints l++ints k:=by simp[ints]
theorem ints_set(l:List Int)(i:Nat)(v:Int):ints (l.set i v)=(ints l).set i (.i v):=by simp[ints,List.map_set]
theorem EK(l:List Int):(ints l).all leaf=true:=by simp[ints,leaf]
def Gp:CV→Nat
 |.slice b .. =>b
 |_=>0
def At(o:Tags)(t:Tag)(H:Gb)(v:CV)(e n:Nat)(cs:List CV):Prop:=
 (n=0∧cs=[]∧(v=.Gf∨∃b f,v=.slice b f 0 0 e false))∨
  ∃b tl,v=.slice b 0 n n e tl∧o b=some t∧H[b]?=some ⟨cs,.rw,e⟩∧cs.length=n*e
theorem At.pos{o:Tags}{t:Tag}{H:Gb}{v:CV}{e n:Nat}{cs:List CV}(h:At o t H v e n cs)(hn:0<n):
  ∃tl,v=.slice (Gp v) 0 n n e tl∧o (Gp v)=some t∧H[Gp v]?=some ⟨cs,.rw,e⟩∧cs.length=n*e:=by
 rcases h with⟨h,_⟩|⟨b,tl,rfl,h1,h2,h3⟩
 ·omega
 ·exact⟨tl,rfl,h1,h2,h3⟩
theorem At.len{o:Tags}{t:Tag}{H:Gb}{v:CV}{e n:Nat}{cs:List CV}(h:At o t H v e n cs)(H':Gb):KA v H'=some (.i n,H'):=by
 rcases h with⟨rfl,rfl,rfl|⟨b,f,rfl⟩⟩|⟨b,tl,rfl,h1,h2,h3⟩<;>rfl
theorem At.leaf{o:Tags}{t:Tag}{H:Gb}{v:CV}{e n:Nat}{cs:List CV}(h:At o t H v e n cs):leaf v=true:=by
 rcases h with⟨rfl,rfl,rfl|⟨b,f,rfl⟩⟩|⟨b,tl,rfl,h1,h2,h3⟩<;>rfl
theorem At.elems{o:Tags}{t:Tag}{H H':Gb}{v:CV}{e n:Nat}{cs:List CV}(h:At o t H v e n cs)(hf:∀c,o c=some t→H'[c]?=H[c]?):elems H' e v=some (n,cs):=by
 rcases h with⟨rfl,rfl,rfl|⟨b,f,rfl⟩⟩|⟨b,tl,rfl,h1,h2,h3⟩
 ·rfl
 ·rfl
 ·by_cases hn:n=0
  ·subst hn
   have:cs=[]:=Bo oM
   subst this;rfl
  ·rw[JC oM,hf b h1,h2,Ug,Nat.zero_add,if_pos oM]
   simp[←h3]
theorem At.frame{o o':Tags}{t:Tag}{H H':Gb}{v:CV}{e n:Nat}{cs:List CV}(h:At o t H v e n cs)(ho:∀c,o c=some t→o' c=some t)(hf:∀c,o c=some t→H'[c]?=H[c]?):At o' t H' v e n cs:=by
 rcases h with h|⟨b,tl,rfl,h1,h2,h3⟩
 ·exact .inl h
 ·exact .inr ⟨b,tl,rfl,ho b h1,by rw[hf b h1,h2],h3⟩
theorem At.append{o:Tags}{t:Tag}{H:Gb}{v:CV}{e n k:Nat}{cs new:List CV}(h:At o t H v e n cs)(hk:0<k)(hm:n+k≤JG)(hl:new.all Go.Cs.leaf=true)(hnew:new.length=k*e):
  ∃H',Jv H e v k new=some (.slice H.length 0 (n+k) (n+k) e true,H')∧H'.length=H.length+1∧H'[H.length]?=some ⟨cs++new,.rw,e⟩∧∀c,c<H.length→o c≠some t→H'[c]?=H[c]?:=by
 rcases h with⟨rfl,rfl,rfl|⟨b,f,rfl⟩⟩|⟨b,tl,rfl,h1,h2,h3⟩
 ·refine⟨H++[⟨new,.rw,e⟩],?_,sM,sM,fun c hc _=>by rw[QN hc]⟩
  unfold Jv
  dsimp only
  rw[if_neg oM,if_pos oM,Nat.zero_add]
 ·refine⟨H++[⟨new,.rw,e⟩],?_,sM,sM,fun c hc _=>by rw[QN hc]⟩
  unfold Jv
  dsimp only
  rw[if_neg oM,if_neg oM,if_pos oM]
  simp
 ·have hb:=Gd h2
  have hold:(if n=0 then some []else Km H b 0 (n*e))=some cs:=by
   by_cases hn:n=0
   ·subst hn
    rw[if_pos rfl]
    congr 1
    exact(Bo oM).symm
   ·rw[if_neg hn]
    unfold Km
    rw[h2]
    simp[←h3]
  cases tl with
  |false=>
   refine⟨H++[⟨cs++new,.rw,e⟩],?_,sM,sM,fun c hc _=>by rw[QN hc]⟩
   unfold Jv
   dsimp only
   rw[if_neg oM,if_neg oM,if_pos oM,hold,Option.bind_some,if_neg sM]
  |true=>
   refine⟨H.set b ⟨cs,.dead,e⟩++[⟨cs++new,.rw,e⟩],?_,sM,sM,fun c hc hc'=>?_⟩
   ·unfold Jv
    dsimp only
    rw[if_neg oM,if_neg oM,if_pos oM,hold,Option.bind_some,if_pos rfl,h2]
    dsimp only
    rw[if_pos ⟨rfl,rfl,oM,hl⟩]
   ·rw[QN (by simpa using hc),JU]
    rintro rfl
    exact hc' h1
structure Lay where
 sl:CV
 gl:CV
 qv:CV
 ov:CV
 sv:List CV
 hv:List (CV×CV)
def Mdl.has(M:Mdl)(n:Int):Prop:=1≤n∧n≤(M.objs.length:Int)
instance(M:Mdl)(n:Int):Decidable (M.has n):=by unfold Mdl.has;exact inferInstance
theorem Yp{α:Type}{l:List α}{i:Nat}(d:α)(h:i<l.length):l[i]?=some (l.getD i d):=by
 simp[Qc,h]
end Go.Cs
namespace Go.Cs
open Go
section
variable {F : Jp} {E : Env} {H : Gb}
def Fe(F:Jp)(EL:List (Nat×String×Nat))(g:CV)(args:List CV)(H:Gb):Option (CV×Gb):=match g with
 |.func f caps=>if f<RB then F f (args++caps) H else none
 |.GaC name (.iface t x)=>(Zk EL t name).bind fun f=>F f (x::args) H
 |.yld b=>yieldOf F b args H
 |_=>none
theorem Jd{g:J7}{l:List J7}{EL:List (Nat×String×Nat)}:K3 F (.Nz g l EL) E H=Fe F EL (E.ev g) (l.map E.ev) H:=by
 simp only[K3,Fe]
 try (cases E.ev g<;>first|rfl|(rename_i x;cases x<;>rfl))
theorem JF{EL:List (Nat×String×Nat)}{f:Nat}{caps args:List CV}(hf:f<1000000):Fe F EL (.func f caps) args H=F f (args++caps) H:=if_pos hf
theorem Gh3{k:IntKind}{a b:Int}:Qw .or (.int k a) (.int k b)=okV (.int k (k.wrap (BitVec.ofInt k.bits a ||| BitVec.ofInt k.bits b).toNat)):=by simp[Qw,Kk]
theorem SE{k:IntKind}{a b:Int}:Qw .andNot (.int k a) (.int k b)=okV (.int k (k.wrap (BitVec.ofInt k.bits a &&& ~~~BitVec.ofInt k.bits b).toNat)):=by simp[Qw,Kk]
theorem SG{EL:List (Nat×String×Nat)}{b:Nat}{args:List CV}:Fe F EL (.yld b) args H=yieldOf F b args H:=rfl
end
def Sl(H:Gb)(v:CV)(e:Nat)(rs:List (List CV)):Prop:=
 (rs=[]∧(v=.Gf∨∃b o c t,v=.slice b o 0 c e t))∨
  ∃b o c t k,v=.slice b o rs.length c e t∧H[b]?=some k∧(k.mode=.rw∨k.mode=.ro)∧∀(i:Nat)(r:List CV),rs[i]?=some r→(k.cells.drop (o+i*e)).take e=r∧r.length=e
def Vx(l:List Int):List (List CV):=l.map fun x=>[.i x]
abbrev W_(H:Gb)(v:CV)(l:List Int):Prop:=Sl H v 1 (Vx l)
section
variable {H : Gb} {v : CV} {e : Nat} {rs : List (List CV)}
theorem Sl.len(h:Sl H v e rs)(H':Gb):KA v H'=some (.i rs.length,H'):=by
 rcases h with⟨rfl,rfl|⟨b,o,c,t,rfl⟩⟩|⟨b,o,c,t,k,rfl,-⟩<;>rfl
theorem W_.len{l:List Int}(h:W_ H v l)(H':Gb):KA v H'=some (.i l.length,H'):=by
 have:=Sl.len h H'
 simpa[Vx]using this
theorem TW{α:Type}{l:List α}{i:Nat}{x:α}(h:(l.drop i).take 1=[x]):l[i]?=some x:=by
 have:=congrArg (fun r=>r[0]?) h
 simpa[Ze,Yo]using this
theorem Sl.at(h:Sl H v e rs){i:Nat}{r:List CV}(hi:rs[i]?=some r):
  ∃b o k,(∀H',Kb e v (.i i) H'=some (.ptr b o,H'))∧H[b]?=some k∧(k.mode=.rw∨k.mode=.ro)∧(k.cells.drop o).take e=r∧r.length=e:=by
 rcases h with⟨rfl,-⟩|⟨b,o,c,t,k,rfl,h1,h2,h3⟩
 ·simp at hi
 ·have hl:=Gd hi
  obtain⟨q1,q2⟩:=h3 i r hi
  refine⟨b,o+i*e,k,fun H'=>?_,h1,h2,q1,q2⟩
  rw[UF oM]
  simp
theorem W_.at{l:List Int}(h:W_ H v l){i:Nat}{x:Int}(hi:l[i]?=some x):
  ∃b o,(∀H',Kb 1 v (.i i) H'=some (.ptr b o,H'))∧ld H[b]? o=some (.i x):=by
 obtain⟨b,o,k,h1,h2,h3,h4,h5⟩:=Sl.at h (i:=i) (r:=[.i x]) (by simp[Vx,hi])
 refine⟨b,o,h1,?_⟩
 have:=TW h4
 rw[h2]
 obtain⟨cs,m,z⟩:=k
 rcases h3 with rfl|rfl
 ·exact this
 ·exact this
theorem Sl.atN(h:Sl H v e rs){i:Nat}{r:List CV}(he:0<e)(hi:rs[i]?=some r):
  ∃b o,(∀H',Kb e v (.i i) H'=some (.ptr b o,H'))∧EZ H[b]? o e=some r:=by
 obtain⟨b,o,k,h1,h2,h3,h4,h5⟩:=Sl.at h hi
 refine⟨b,o,h1,?_⟩
 have hlen:o+e≤k.cells.length:=by
  have:=congrArg List.length h4
  simp only[List.length_take,List.length_drop]at this
  omega
 rw[h2]
 obtain⟨cs,m,z⟩:=k
 rcases h3 with rfl|rfl
 ·rw[Ug,if_pos hlen,←h4]
 ·rw[Xu,if_pos hlen,←h4]
theorem Sl.mono{H':Gb}(h:Sl H v e rs)(hb:∀b k,H[b]?=some k→k.mode=.rw∨k.mode=.ro→Gp v=b→H'[b]?=some k):Sl H' v e rs:=by
 rcases h with h|⟨b,o,c,t,k,rfl,h1,h2,h3⟩
 ·exact .inl h
 ·exact .inr ⟨b,o,c,t,k,rfl,hb b k h1 h2 rfl,h2,h3⟩
theorem Sl.app(h:Sl H v e rs)(J:Gb):Sl (H++J) v e rs:=
 h.mono fun b k hb _ _=>by rw[QN (Gd hb),hb]
end
def KJ{α:Type}(p:α→Bool):List α→Int→Int
 |[],_=> -1
 |x::l,j=>if p x=true then j else KJ p l (j+1)
theorem DZ{α:Type}(p:α→Bool):∀(l:List α)(j:Int),0≤j→(decide (0≤KJ p l j)=l.any p)
 |[],j,h=>by simp[KJ]
 |x::l,j,h=>by
  unfold KJ
  by_cases hx:p x=true
  ·rw[if_pos hx];simp[hx,h]
  ·rw[if_neg hx,DZ p l (j+1) oM];simp[hx]
end Go.Cs
namespace Go.Cs.Tryz
open Go Go.Cs A
def Gnu:Gm:=⟨9,0,T [nb 4 false] (Q [m 5 0,m 6 1,q2 7 208 5 6,bk 8 .geq 7 0,m 4 8]),[r 4]⟩
theorem Gpo:P 108=some Gnu:=by kernel_rfl
def Gor:Gm:=⟨9,0,T [nb 4 false] (Q [m 5 0,m 6 1,q2 7 255 5 6,bk 8 .geq 7 0,m 4 8]),[r 4]⟩
theorem c194:P 194=some Gor:=by kernel_rfl
def BS:Gu:=T [b 9 .lss 8 7] (S (J 9 (X 0)) (S (B 1 (T [m 10 8,m 5 10] (T [m 11 1,m 12 0,m 13 5,x 14 1 12 13,l 15 1 14,b 16 .eql 11 15] (I 16 (Q [m 17 5,m 4 17]))))) (R [bk 18 .add 8 1,m 8 18])))
def GmN:Gm:=⟨19,0,T [n 4 0] (S (T [m 6 0,le 7 6,n 8 0] (B 0 (W BS))) (Q [n 4 (-1)])),[r 4]⟩
theorem c208:P 208=some GmN:=by kernel_rfl
def Bq:Gu:=T [b 9 .lss 8 7] (S (J 9 (X 0)) (S (B 1 (T [m 10 8,m 5 10] (T [m 11 1,m 12 0,m 13 5,x 14 1 12 13,l 15 1 14,e 16 (.Nz (t 11) [t 15] [(304,"dustcart/alloc.place",335),(305,"dustcart/alloc.place",340),(306,"dustcart/alloc.place",348),(307,"dustcart/alloc.place",349),(308,"dustcart/alloc.place",353)])] (I 16 (Q [m 17 5,m 4 17]))))) (R [bk 18 .add 8 1,m 8 18])))
def GnW:Gm:=⟨19,0,T [n 4 0] (S (T [m 6 0,le 7 6,n 8 0] (B 0 (W Bq))) (Q [n 4 (-1)])),[r 4]⟩
theorem Gn7:P 255=some GnW:=by kernel_rfl
end Go.Cs.Tryz
namespace Go.Cs
open Go
theorem drop_cons{α:Type}{l:List α}{j:Nat}{x:α}(h:l[j]?=some x):l.drop j=x::l.drop (j+1):=by
 have hl:=Gd h
 rw[List.drop_eq_getElem_cons hl]
 rw[J9 hl]at h
 simp only[Gx]at h
 rw[h]
end Go.Cs
namespace Go.Cs.Tryz
open Go Go.Cs
section
variable {H : Gb} {v : CV}
theorem GiM{l:List Int}(hs:W_ H v l){fn:Nat}(hfn:fn<1000000){caps:List CV}{p:Int→Bool}(hp:∀x∈l,run P fn (.i x::caps) H=some (.bool (p x),H))(hl:l.length≤1000000)
  {E0:Env}(h0:E0 0=v)(h1:E0 1=.func fn caps)(h7:E0 7=.i l.length)(h8:E0 8=.i 0){r:Option (CX×Env×Gb)}(hr:den P (.loop Bq) E0 H=r):
  ∃x E',r=some (x,E',H)∧((x=.ret∧E' 4=.i (KJ p l 0))∨(x=.exit 0∧KJ p l 0= -1)):=by
 obtain⟨x',E',H',e,-,⟨rfl,h⟩,fr⟩:=Gy (p:=P) (c:=Bq) (E0:=E0) (H0:=H) (fun k E H'=>H'=H∧∃j:Nat,E 8=.i j∧j≤l.length∧k=l.length-j∧KJ p (l.drop j) j=KJ p l 0)
  (fun x E' H'=>H'=H∧((x=.ret∧E' 4=.i (KJ p l 0))∨(x=.exit 0∧KJ p l 0= -1))) (by
   rintro k E H' hE ⟨rfl,j,e8,hj,rfl,hd⟩
   have e0:=(hE 0 dK).trans h0
   have e1:=(hE 1 dK).trans h1
   have e7:=(hE 7 dK).trans h7
   by_cases c:j<l.length
   ·have hx:l[j]?=some l[j]:=J9 c
    obtain⟨b,o,q1,q2⟩:=W_.at hs hx
    have hq:=hp l[j] (List.getElem_mem c)
    rw[drop_cons hx]at hd
    simp only[KJ]at hd
    by_cases hf:p l[j]=true
    ·rw[if_pos hf]at hd
     rw[hf]at hq
     apply Gl (x:=.ret)
     ·simp(disch:=first|exact dz|fail) only[simprocAttr,Gc,↓reduceIte,Bq,e0,e1,e7,e8,c,q1,Jm q2,Jd,JF hfn,hq]
      rfl
     ·simp
     ·exact⟨rfl,.inl ⟨rfl,by rw[←hd];simp[Gg]⟩⟩
    ·rw[if_neg hf]at hd
     have hf':p l[j]=false:=by simpa using hf
     rw[hf']at hq
     have hw:IntKind.i64.wrap ((j:Int)+1)=((j+1:Nat):Int):=Gh oM
     apply Gt (k':=l.length-(j+1))
     ·simp(disch:=first|exact dz|fail) only[simprocAttr,Gc,↓reduceIte,Bq,e0,e1,e7,e8,c,q1,Jm q2,Jd,JF hfn,hq,hw]
      rfl
     ·omega
     ·exact⟨rfl,j+1,uA,oM,rfl,by rw[←hd];push_cast;rfl⟩
   ·have hk:l.drop j=[]:=List.drop_eq_nil_of_le oM
    rw[hk]at hd
    simp only[KJ]at hd
    apply Gl (x:=.exit 0)
    ·simp(disch:=first|exact dz|fail) only[simprocAttr,Gc,↓reduceIte,Bq,e0,e1,e7,e8,c]
     rfl
    ·simp
    ·exact⟨rfl,.inr ⟨rfl,hd.symm⟩⟩) l.length ⟨rfl,0,h8,oM,rfl,rfl⟩
 exact⟨x',E',hr.symm.trans e,h⟩
theorem Xw{l:List Int}(hs:W_ H v l){fn:Nat}(hfn:fn<1000000){caps:List CV}{p:Int→Bool}(hp:∀x∈l,run P fn (.i x::caps) H=some (.bool (p x),H))(hl:l.length≤1000000):
  run P 255 [v,.func fn caps] H=some (.i (KJ p l 0),H):=by
 have hlen:=W_.len hs H
 rw[Gi Gn7 _ _ sM]
 simp(disch:=first|exact dz|fail) only[simprocAttr,Gc,↓reduceIte,Gj,hlen]
 generalize hr:den P (.loop Bq) _ _=r
 obtain⟨x,E',rfl,hq⟩:=GiM hs hfn hp hl uA uA uA uA hr
 rcases hq with⟨rfl,h1⟩|⟨rfl,h1⟩
 ·simp(disch:=first|exact dz|fail) only[simprocAttr,Gc,↓reduceIte,h1]
 ·simp(disch:=first|exact dz|fail) only[simprocAttr,Gc,↓reduceIte,h1]
theorem AQ{l:List Int}(hs:W_ H v l){fn:Nat}(hfn:fn<1000000){caps:List CV}{p:Int→Bool}(hp:∀x∈l,run P fn (.i x::caps) H=some (.bool (p x),H))(hl:l.length≤1000000):
  run P 194 [v,.func fn caps] H=some (.bool (l.any p),H):=by
 have h:=Xw hs hfn hp hl
 have hd:=DZ p l 0 oM
 rw[Gi c194 _ _ sM]
 simp(disch:=first|exact dz|fail) only[simprocAttr,Gc,↓reduceIte,Gj,h,hd]
theorem Gl0{l:List Int}(hs:W_ H v l){y:Int}(hl:l.length≤1000000)
  {E0:Env}(h0:E0 0=v)(h1:E0 1=.i y)(h7:E0 7=.i l.length)(h8:E0 8=.i 0){r:Option (CX×Env×Gb)}(hr:den P (.loop BS) E0 H=r):
  ∃x E',r=some (x,E',H)∧((x=.ret∧E' 4=.i (KJ (fun x=>y==x) l 0))∨(x=.exit 0∧KJ (fun x=>y==x) l 0= -1)):=by
 obtain⟨x',E',H',e,-,⟨rfl,h⟩,fr⟩:=Gy (p:=P) (c:=BS) (E0:=E0) (H0:=H) (fun k E H'=>H'=H∧∃j:Nat,E 8=.i j∧j≤l.length∧k=l.length-j∧KJ (fun x=>y==x) (l.drop j) j=KJ (fun x=>y==x) l 0)
  (fun x E' H'=>H'=H∧((x=.ret∧E' 4=.i (KJ (fun x=>y==x) l 0))∨(x=.exit 0∧KJ (fun x=>y==x) l 0= -1))) (by
   rintro k E H' hE ⟨rfl,j,e8,hj,rfl,hd⟩
   have e0:=(hE 0 dK).trans h0
   have e1:=(hE 1 dK).trans h1
   have e7:=(hE 7 dK).trans h7
   by_cases c:j<l.length
   ·have hx:l[j]?=some l[j]:=J9 c
    obtain⟨b,o,q1,q2⟩:=W_.at hs hx
    rw[drop_cons hx]at hd
    simp only[KJ]at hd
    by_cases hf:(y==l[j])=true
    ·rw[if_pos hf]at hd
     apply Gl (x:=.ret)
     ·simp(disch:=first|exact dz|fail) only[simprocAttr,Gc,↓reduceIte,BS,e0,e1,e7,e8,c,q1,Jm q2,hf]
      rfl
     ·simp
     ·exact⟨rfl,.inl ⟨rfl,by rw[←hd];simp[Gg]⟩⟩
    ·rw[if_neg hf]at hd
     have hf':(y==l[j])=false:=by simpa using hf
     have hw:IntKind.i64.wrap ((j:Int)+1)=((j+1:Nat):Int):=Gh oM
     apply Gt (k':=l.length-(j+1))
     ·simp(disch:=first|exact dz|fail) only[simprocAttr,Gc,↓reduceIte,BS,e0,e1,e7,e8,c,q1,Jm q2,hf',hw]
      rfl
     ·omega
     ·exact⟨rfl,j+1,uA,oM,rfl,by rw[←hd];push_cast;rfl⟩
   ·have hk:l.drop j=[]:=List.drop_eq_nil_of_le oM
    rw[hk]at hd
    simp only[KJ]at hd
    apply Gl (x:=.exit 0)
    ·simp(disch:=first|exact dz|fail) only[simprocAttr,Gc,↓reduceIte,BS,e0,e1,e7,e8,c]
     rfl
    ·simp
    ·exact⟨rfl,.inr ⟨rfl,hd.symm⟩⟩) l.length ⟨rfl,0,h8,oM,rfl,rfl⟩
 exact⟨x',E',hr.symm.trans e,h⟩
theorem contains{l:List Int}(hs:W_ H v l)(y:Int)(hl:l.length≤1000000):run P 108 [v,.i y] H=some (.bool (l.any fun x=>y==x),H):=by
 have h:run P 208 [v,.i y] H=some (.i (KJ (fun x=>y==x) l 0),H):=by
  have hlen:=W_.len hs H
  rw[Gi c208 _ _ sM]
  simp(disch:=first|exact dz|fail) only[simprocAttr,Gc,↓reduceIte,Gj,hlen]
  generalize hr:den P (.loop BS) _ _=r
  obtain⟨x,E',rfl,hq⟩:=Gl0 hs (y:=y) hl uA uA uA uA hr
  rcases hq with⟨rfl,h1⟩|⟨rfl,h1⟩
  ·simp(disch:=first|exact dz|fail) only[simprocAttr,Gc,↓reduceIte,h1]
  ·simp(disch:=first|exact dz|fail) only[simprocAttr,Gc,↓reduceIte,h1]
 have hd:=DZ (fun x=>y==x) l 0 oM
 rw[Gi Gpo _ _ sM]
 simp(disch:=first|exact dz|fail) only[simprocAttr,Gc,↓reduceIte,Gj,h,hd]
end
end Go.Cs.Tryz
namespace Go.Cs.Tryz
open Go Go.Cs A
def Gpl:Gm:=⟨20,0,T [n 6 0] (S (T [m 8 0,m 9 1,m 10 2,e 11 (.buildSlice 1 [i 0] 1 [(0,1,t 10)]),q3 12 221 8 9 11,m 7 12] (T [m 13 7,bk 14 .neq 13 0] (I 14 (Q [m 15 7,m 6 15])))) (T [m 16 0,m 17 1,m 18 2,q3 19 222 16 17 18] (Q [n 6 0]))),[r 6]⟩
theorem Gqc:P 129=some Gpl:=by kernel_rfl
def Gom:Gm:=⟨21,0,T [bo 3 0,n 6 0] (S (B 0 (T [l 8 1 3,q1 9 265 8,no 10 9,m 7 10] (C 7 (Q [n 6 5]) (T [l 12 1 3,m 13 1,q2 14 228 12 13,no 15 14,m 16 15,gf 16 (m 17 2),gf 16 (e 18 (.NY 266 [t 3])),gf 16 (q2 19 194 17 18),or 20 16 19,m 11 20] (I 11 (Q [n 6 1])))))) (Q [n 6 0])),[r 6]⟩
theorem Gq9:P 221=some Gom:=by kernel_rfl
def Gni:Gm:=⟨39,0,T [m 8 1,m 9 0,z 10 9,f 11 1 10,l 12 1 11,b 13 .mul 8 12,m 6 13] (T [m 14 0,z 15 14,f 16 2 15,l 17 1 16,m 18 6,bk 19 .quo 18 64,x 20 1 17 19,m 7 20] (D [⟨m 25 0,4,0,0⟩,⟨q1 26 268 25,5,3,0⟩,⟨m 21 7,0,0,0⟩,⟨m 22 7,1,0,0⟩,⟨z 23 22,2,0,0⟩,⟨l 24 1 23,3,1,0⟩,⟨e 27 (.conv .u64 (t 26)),6,0,1⟩,⟨m 28 6,7,0,0⟩,⟨bk 29 .rem 28 64,8,0,0⟩,⟨e 30 (.shift .shl (t 27) (t 29)),9,0,1⟩,⟨b 31 .andNot 24 30,10,0,1⟩,⟨m 32 2,11,0,0⟩,⟨e 33 (.conv .u64 (t 32)),12,0,0⟩,⟨m 34 6,13,0,0⟩,⟨bk 35 .rem 34 64,14,0,0⟩,⟨e 36 (.shift .shl (t 33) (t 35)),15,0,0⟩,⟨b 37 .or 31 36,16,0,1⟩,⟨z 38 21,17,0,1⟩,⟨st 1 38 37,18,3,1⟩])),[]⟩
theorem c222:P 222=some Gni:=by kernel_rfl
def GpJ:Gm:=⟨8,0,T [nb 3 false] (Q [l 4 1 1,m 5 0,q2 6 267 4 5,no 7 6,m 3 7]),[r 3]⟩
theorem Grn:P 266=some GpJ:=by kernel_rfl
def Gou:Gm:=⟨13,0,T [nb 4 false] (Q [m 5 1,bk 6 .geq 5 0,m 7 6,gt 7 (m 8 1),gt 7 (m 9 0),gt 7 (q1 10 268 9),gt 7 (b 11 .leq 8 10),an 12 7 11,m 4 12]),[r 4]⟩
theorem GqG:P 267=some Gou:=by kernel_rfl
end Go.Cs.Tryz
namespace Go.Cs
open Go
structure Keeps(H H':Gb)(w:Nat→Prop):Prop where
 len:H.length≤H'.length
 keep:∀c,c<H.length→¬w c→H'[c]?=H[c]?
theorem Keeps.refl(H:Gb)(w:Nat→Prop):Keeps H H w:=⟨Nat.le_refl _,fun _ _ _=>rfl⟩
theorem Keeps.trans{H H' Eo:Gb}{w:Nat→Prop}(a:Keeps H H' w)(b:Keeps H' Eo w):Keeps H Eo w:=
 ⟨Jr a.len b.len,fun c h hw=>by rw[b.keep c (JH h a.len) hw,a.keep c h hw]⟩
theorem Keeps.weaken{H H':Gb}{w w':Nat→Prop}(a:Keeps H H' w)(h:∀c,w c→w' c):Keeps H H' w':=
 ⟨a.len,fun c hc hw=>a.keep c hc fun hh=>hw (h c hh)⟩
theorem Keeps.app(H J:Gb)(w:Nat→Prop):Keeps H (H++J) w:=⟨sM,fun c h _=>QN h⟩
theorem Keeps.app'{H H':Gb}{w:Nat→Prop}(a:Keeps H H' w)(J:Gb):Keeps H (H'++J) w:=a.trans (.app _ _ _)
theorem Keeps.set{H H':Gb}{w:Nat→Prop}(a:Keeps H H' w){c:Nat}(hc:w c∨H.length≤c)(k:JI):Keeps H (H'.set c k) w:=
 ⟨by simpa using a.len,fun d hd hw=>by rw[JU,a.keep d hd hw];rintro rfl;rcases hc with h|h;exact hw h;omega⟩
def ZO(w k:Nat)(x:Bool):Nat:=((BitVec.ofNat 64 w &&& ~~~BitVec.ofNat 64 (2 ^ k)) ||| BitVec.ofNat 64 ((if x then 1 else 0)*2 ^ k)).toNat
theorem Gcg(w k:Nat)(x:Bool):ZO w k x<18446744073709551616:=by
 unfold ZO
 exact BitVec.isLt _
theorem Gab{w k j:Nat}(x:Bool)(hj:j<64)(hk:k<64):(ZO w k x).testBit j=if j=k then x else w.testBit j:=by
 unfold ZO
 rw[BitVec.testBit_toNat,BitVec.getLsbD_or,BitVec.getLsbD_and,BitVec.getLsbD_not,BitVec.getLsbD_ofNat,BitVec.getLsbD_ofNat,BitVec.getLsbD_ofNat]
 simp only[hj,decide_true,Bool.true_and]
 have h2:(2 ^ k).testBit j=decide (k=j):=Nat.testBit_two_pow
 have h3:((if x then 1 else 0)*2 ^ k).testBit j=(x&&decide (k=j)):=by
  cases x
  ·simp
  ·simp[h2]
 rw[h2,h3]
 by_cases h:j=k
 ·subst h;simp
 ·have:¬k=j:=fun e=>h e.symm
  simp[h,this]
theorem Mt{n:Nat}(h:n<18446744073709551616):IntKind.u64.wrap (n:Int)=n:=by
 have e:((2:Int) ^ (64:Nat))=18446744073709551616:=by decide
 simp only[IntKind.wrap,IntKind.bits,IntKind.signed,e,Bool.false_and,Bool.false_eq_true,if_false]
 omega
theorem GeF{w k:Nat}(x:Bool)(hk:k<64):
  IntKind.u64.wrap ((BitVec.ofInt 64 (IntKind.u64.wrap ((BitVec.ofInt 64 (w:Int) &&& ~~~BitVec.ofInt 64 (IntKind.u64.wrap (1*2 ^ min k 64))).toNat:Int)) ||| BitVec.ofInt 64 (IntKind.u64.wrap (Ep x*2 ^ min k 64))).toNat:Int)=((ZO w k x:Nat):Int):=by
 have hm:min k 64=k:=by omega
 have hp:2 ^ k<18446744073709551616:=by
  have:2 ^ k≤2 ^ 63:=Nat.pow_le_pow_right dE oM
  have e:(2:Nat) ^ 63=9223372036854775808:=by decide
  omega
 have e1:((1:Int)*2 ^ k)=((2 ^ k:Nat):Int):=by simp
 have e2:(Ep x*2 ^ k)=(((if x then 1 else 0)*2 ^ k:Nat):Int):=by cases x<;>simp[Ep]
 have e3:(if x then 1 else 0)*2 ^ k<18446744073709551616:=by cases x<;>simp<;>omega
 rw[hm,e1,e2,Mt hp,Mt e3]
 simp only[BitVec.ofInt_natCast]
 rw[Mt (BitVec.isLt _),Mt (BitVec.isLt _)]
 simp only[BitVec.ofInt_natCast]
 unfold ZO
 rw[BitVec.ofNat_toNat,BitVec.setWidth_eq]
theorem Gh9(x:Bool):IntKind.u64.wrap (Ep x)=Ep x:=by cases x<;>decide
theorem Side.put{H H':Gb}{b wb n:Nat}{f:Nat→Bool}(s:Side H b wb n f){i:Nat}(hi:i<n)(x:Bool){ws:List Nat}(h1:ws.length=UU n)(h2:∀w∈ws,w<18446744073709551616)
  (h5:∀i,i<n→(ws.getD (i/64) 0).testBit (i % 64)=f i)(hb:H'[b]?=H[b]?)
  (hw:H'[wb]?=some ⟨(ws.set (i/64) (ZO (ws.getD (i/64) 0) (i % 64) x)).map (fun(m:Nat)=>CV.int .u64 m),.rw,1⟩):Side H' b wb n (fun k=>if k=i then x else f k):=by
 refine⟨by rw[hb,s.st],⟨_,by simpa using h1,fun w hw=>?_,hw,fun k hk=>?_⟩,s.pos⟩
 ·rcases List.mem_or_eq_of_mem_set hw with h|rfl
  ·exact h2 w h
  ·exact Gcg _ _ _
 ·have hlt:i/64<ws.length:=by rw[h1];unfold UU;omega
  rw[Qc,Lu]
  by_cases e:i/64=k/64
  ·rw[if_pos e,if_pos hlt,Option.getD_some,Gab x oM oM]
   by_cases ek:k=i
   ·subst ek;simp
   ·rw[if_neg oM,if_neg ek,e,h5 k hk]
  ·rw[if_neg e,←Qc,h5 k hk,if_neg (by rintro rfl;exact e rfl)]
end Go.Cs
namespace Go.Cs.Tryz
open Go Go.Cs
section
variable {H : Gb} {b wb n : Nat} {f : Nat → Bool}
theorem GaN(s:Side H b wb n f)(x:Bool):run P 267 [.ptr b 0,.i (Ep x)] H=some (.bool true,H):=by
 have h4:=E8 s
 have h1:0≤Ep x:=by cases x<;>decide
 have h2:Ep x≤1:=by cases x<;>decide
 rw[Gi GqG _ _ sM]
 simp(disch:=first|exact dz|fail) only[simprocAttr,Gc,↓reduceIte,Gj,h4,h1,h2,decide_true]
theorem GfJ(s:Side H b wb n f){i:Nat}(hi:i<n)(x:Bool):
  ∃H',run P 222 [.ptr b 0,.i i,.i (Ep x)] H=some (.Ju [],H')∧Keeps H H' (·=wb)∧Side H' b wb n (fun k=>if k=i then x else f k):=by
 have h4:=E8 s
 have h:=s.st
 have hp:=s.pos
 obtain⟨ws,h1,h2,h3,h5⟩:=s.ws
 have hne:wb≠b:=by rintro rfl;rw[h]at h3;simp at h3
 have hd:(i:Int).tdiv 64=((i/64:Nat):Int):=KT i 64
 have hm:(i:Int).tmod 64=((i % 64:Nat):Int):=U1 i 64
 have hi0:IntKind.i64.wrap (i:Int)=i:=wrapN oM
 have hq:IntKind.i64.wrap ((i/64:Nat):Int)=((i/64:Nat):Int):=wrapN oM
 have hlt:i/64<UU n:=by unfold UU;omega
 have hx:(ws.map (fun(m:Nat)=>CV.int .u64 m))[i/64]?=some (.int .u64 ((ws.getD (i/64) 0:Nat):Int)):=by
  rw[Ke,J9 oM,Qc,J9 oM];rfl
 have hb1:(0:Int)≤((i/64:Nat):Int)∧((i/64:Nat):Int)<((UU n:Nat):Int):=by omega
 have hb2:(0:Int)≤((i % 64:Nat):Int):=by omega
 have hres:=GeF (w:=ws.getD (i/64) 0) (k:=i % 64) x oM
 have hlen:i/64<(ws.map (fun(m:Nat)=>CV.int .u64 m)).length:=by simp;omega
 have hc1:IntKind.u64.wrap 1=1:=by decide
 have hcx:=Gh9 x
 refine⟨H.set wb ⟨(ws.set (i/64) (ZO (ws.getD (i/64) 0) (i % 64) x)).map (fun(m:Nat)=>CV.int .u64 m),.rw,1⟩,?_,Keeps.set (w:=fun c=>c=wb) (Keeps.refl H _) (.inl rfl) _,?_⟩
 ·rw[Gi c222 _ _ sM]
  rw[List.map_set]
  simp(disch:=first|exact dz|fail) only[simprocAttr,Gc,↓reduceIte,G8,h,h4,h3,Sz,Goe,Aj,Aq,Wv,ZV,N9,hi0,hd,hm,hq,hx,Int.mul_one,IntKind.bits,hc1,hcx,GH,Gh3,SE,hlen]
  exact congrArg (fun z=>some (CV.Ju [],H.set wb ⟨(ws.map (fun(m:Nat)=>CV.int .u64 m)).set (i/64) (.int .u64 z),.rw,1⟩)) hres
 ·exact s.put hi x h1 h2 h5 (by rw[JU hne]) (by rw[KI (Gd h3)])
theorem Gak(s:Side H b wb n f){i:Nat}(hi:i<n)(x:Bool){v:CV}(hv:W_ H v [Ep x]):run P 221 [.ptr b 0,.i i,v] H=some (.i 0,H++[⟨[.ptr b 0],.rw,0⟩]):=by
 have s':=s.app [⟨[.ptr b 0],.rw,0⟩]
 have h1:=Av s'
 have h2:=LD s' i
 have e:decide ((0:Int)≤(i:Int)∧(i:Int)<(n:Int))=true:=GK oM
 rw[e]at h2
 have h3:=GaN s' x
 have h4:run P 266 [.i (Ep x),.ptr H.length 0] (H++[⟨[.ptr b 0],.rw,0⟩])=some (.bool false,H++[⟨[.ptr b 0],.rw,0⟩]):=by
  rw[Gi Grn _ _ sM]
  simp(disch:=first|exact dz|fail) only[simprocAttr,Gc,↓reduceIte,Gj,h3,Bool.not_true]
 have h5:=AQ (Sl.app hv [⟨[.ptr b 0],.rw,0⟩]) (fn:=266) oM (caps:=[.ptr H.length 0]) (p:=fun _=>false) (by simpa using h4) sM
 have e2:([Ep x].any fun _=>false)=false:=rfl
 rw[e2]at h5
 rw[Gi Gq9 _ _ sM]
 simp(disch:=first|exact dz|fail) only[simprocAttr,Gc,↓reduceIte,G8,h1,h2,h5,MU,Bool.not_true,Bool.not_false]
theorem DF(s:Side H b wb n f){i:Nat}(hi:i<n)(x:Bool):
  ∃H',run P 129 [.ptr b 0,.i i,.i (Ep x)] H=some (.i 0,H')∧Keeps H H' (·=wb)∧Side H' b wb n (fun k=>if k=i then x else f k):=by
 have s1:=s.app [⟨[.i (Ep x)],.rw,1⟩]
 have hv:W_ (H++[⟨[.i (Ep x)],.rw,1⟩]) (.slice H.length 0 1 1 1 false) [Ep x]:=
  .inr ⟨H.length,0,1,false,⟨[.i (Ep x)],.rw,1⟩,rfl,sM,.inl rfl,fun i r h=>by
   match i,h with
   |0,h=>simp[Vx]at h;subst h;simp
   |i+1,h=>simp[Vx]at h⟩
 have h1:=Gak s1 hi x hv
 have s2:=s1.app [⟨[.ptr b 0],.rw,0⟩]
 obtain⟨H',h2,h3,h4⟩:=GfJ s2 hi x
 refine⟨H',?_,((Keeps.app H _ _).app' _).trans h3,h4⟩
 rw[Gi Gqc _ _ sM]
 simp(disch:=first|exact dz|fail) only[simprocAttr,Gc,↓reduceIte,G8,h1,h2]
end
end Go.Cs.Tryz
namespace Go.Cs.Tryz
open Go Go.Cs A
def C49:Gm:=⟨11,0,T [n 2 0] (S (T [m 3 0,q1 4 95 3,no 5 4] (I 5 (Q [n 2 0]))) (Q [m 6 0,z 7 6,f 8 0 7,l 9 1 8,le 10 9,m 2 10])),[r 2]⟩
theorem c49:P 49=some C49:=by kernel_rfl
def C50:Gm:=⟨26,0,T [nb 4 false] (Q [m 5 0,q1 6 95 5,m 7 6,gt 7 (m 8 1),gt 7 (bk 9 .geq 8 0),an 10 7 9,m 11 10,gt 11 (m 12 1),gt 11 (bk 13 .rem 12 2),gt 11 (bk 14 .eql 13 0),an 15 11 14,m 16 15,gt 16 (m 17 0),gt 16 (z 18 17),gt 16 (f 19 2 18),gt 16 (l 20 1 19),gt 16 (m 21 1),gt 16 (bk 22 .quo 21 2),gt 16 (q2 23 139 20 22),gt 16 (bk 24 .eql 23 1),an 25 16 24,m 4 25]),[r 4]⟩
theorem c50:P 50=some C50:=by kernel_rfl
def C70:Gm:=⟨10,0,T [n 2 0] (S (T [m 3 0,q1 4 95 3,no 5 4] (I 5 (Q [n 2 0]))) (Q [m 6 0,z 7 6,f 8 6 7,l 9 1 8,m 2 9])),[r 2]⟩
theorem c70:P 70=some C70:=by kernel_rfl
def C71:Gm:=⟨21,0,T [n 4 0] (S (T [m 5 1,bk 6 .lss 5 0,m 7 6,gf 7 (m 8 1),gf 7 (m 9 0),gf 7 (q1 10 49 9),gf 7 (b 11 .geq 8 10),or 12 7 11] (I 12 (Q [n 4 (-1)]))) (Q [m 13 0,z 14 13,f 15 0 14,l 16 1 15,m 17 1,x 18 2 16 17,f 19 0 18,l 20 1 19,m 4 20])),[r 4]⟩
theorem c71:P 71=some C71:=by kernel_rfl
def C72:Gm:=⟨21,0,T [n 4 0] (S (T [m 5 1,bk 6 .lss 5 0,m 7 6,gf 7 (m 8 1),gf 7 (m 9 0),gf 7 (q1 10 49 9),gf 7 (b 11 .geq 8 10),or 12 7 11] (I 12 (Q [n 4 (-1)]))) (Q [m 13 0,z 14 13,f 15 0 14,l 16 1 15,m 17 1,x 18 2 16 17,f 19 1 18,l 20 1 19,m 4 20])),[r 4]⟩
theorem c72:P 72=some C72:=by kernel_rfl
def C95:Gm:=⟨13,0,T [nb 2 false] (Q [m 3 0,e 4 (.eqv true 1 (t 3) (c .nilPtr)),m 5 4,gt 5 (m 6 0),gt 5 (z 7 6),gt 5 (f 8 0 7),gt 5 (l 9 1 8),gt 5 (le 10 9),gt 5 (bk 11 .gtr 10 0),an 12 5 11,m 2 12]),[r 2]⟩
theorem c95:P 95=some C95:=by kernel_rfl
def GqO:Gm:=⟨14,0,T [n 4 0] (S (B 0 (T [m 6 0,q1 7 95 6,no 8 7,m 5 8] (C 5 (Q [n 4 5]) (T [m 10 0,m 11 1,q2 12 50 10 11,no 13 12,m 9 13] (I 9 (Q [n 4 4])))))) (Q [n 4 0])),[r 4]⟩
theorem GnS:P 120=some GqO:=by kernel_rfl
end Go.Cs.Tryz
namespace Go.Cs
open Go
structure Ob where
 addr:Nat
 id:Nat
 refs:List Int
 data:List Int
 kd:Nat
 pin:Bool
 deriving Inhabited
def G7(r d:Nat):Nat:=(2+r+d+1)/2*2
def Ob.size(o:Ob):Nat:=G7 o.refs.length o.data.length
def Ob.num(o:Ob):Nat:=o.refs.length+16*o.data.length+4096*o.kd
def Ob.cells(o:Ob):List Int:=(o.id:Int)::(o.num:Int)::(o.refs++o.data)
def Ob.cell(o:Ob)(k:Nat):Int:=o.cells.getD k 0
structure Hp where
 blk:List (Nat×Nat)
 objs:List Ob
 born:Nat
 fwd:List (Int×Int)
def Hp.nw(s:Hp):Nat:=64*s.blk.length
def Hp.obj(s:Hp)(a:Int):Option Ob:=s.objs.find? fun o=>(o.addr:Int)==a
def Hp.has(s:Hp)(a:Int):Bool:=s.objs.any fun o=>(o.addr:Int)==a
def Hp.owner(s:Hp)(w:Nat):Option Ob:=s.objs.find? fun o=>decide (o.addr≤w∧w<o.addr+o.size)
def Hp.word(s:Hp)(w:Nat):Int:=match s.owner w with
 |some o=>o.cell (w-o.addr)
 |none=>0
def Hp.starts(s:Hp)(i:Nat):Bool:=s.objs.any fun o=>o.addr==2*i
def Hp.pins(s:Hp)(i:Nat):Bool:=s.objs.any fun o=>o.addr==2*i&&o.pin
structure Ob.Ok(n born:Nat)(o:Ob):Prop where
 even:o.addr % 2=0
 nr:o.refs.length≤15
 nd:o.data.length≤200
 kd:o.kd≤3∧(o.kd=1→1≤o.refs.length)∧(o.kd=2→2≤o.refs.length)
 id:1≤o.id∧o.id≤born
 fits:o.addr+o.size≤n
structure Hp.Ok(s:Hp):Prop where
 nb:2≤s.blk.length∧s.blk.length≤64
 st:∀x∈s.blk,x.1≤3∧x.2<8
 ob:∀o∈s.objs,o.Ok s.nw s.born
 apart:s.objs.Pairwise fun a b=>a.addr+a.size≤b.addr
 ids:s.objs.Pairwise fun a b=>a.id≠b.id
 born:s.born≤1000000000000
theorem Ob.size_pos(o:Ob):2≤o.size:=by unfold Ob.size G7;omega
theorem Ob.size_le{o:Ob}{n b:Nat}(h:o.Ok n b):o.size≤218:=by have:=h.nr;have:=h.nd;unfold Ob.size G7;omega
theorem Ob.Gb7(o:Ob):o.size % 2=0:=by unfold Ob.size G7;omega
theorem QI{α:Type}{r:α→α→Prop}:∀{l:List α}{a b:α},l.Pairwise r→a∈l→b∈l→a=b∨r a b∨r b a
 |[],_,_,_,h,_=>by cases h
 |x::l,a,b,hp,ha,hb=>by
  rw[List.pairwise_cons]at hp
  rw[List.mem_cons]at ha hb
  rcases ha with rfl|ha<;>rcases hb with rfl|hb
  ·exact .inl rfl
  ·exact .inr (.inl (hp.1 b hb))
  ·exact .inr (.inr (hp.1 a ha))
  ·exact QI hp.2 ha hb
section
variable {s : Hp}
theorem Hp.Ok.same(h:s.Ok){a b:Ob}(ha:a∈s.objs)(hb:b∈s.objs){w:Nat}(h1:a.addr≤w∧w<a.addr+a.size)(h2:b.addr≤w∧w<b.addr+b.size):a=b:=by
 rcases QI h.apart ha hb with e|e|e
 ·exact e
 ·omega
 ·omega
theorem AB{α:Type}{p:α→Bool}{l:List α}{a:α}(ha:a∈l)(hp:p a=true)(hu:∀b∈l,p b=true→b=a):l.find? p=some a:=by
 cases h:l.find? p with
 |none=>rw[List.find?_eq_none]at h;exact absurd hp (h a ha)
 |some b=>rw[hu b (List.mem_of_find?_eq_some h) (OL h)]
theorem Hp.Ok.obj(h:s.Ok){o:Ob}(ho:o∈s.objs):s.obj o.addr=some o:=by
 refine AB ho sM fun b hb e=>?_
 have e0:(b.addr:Int)=o.addr:=by simpa using e
 have e':b.addr=o.addr:=by omega
 have:=b.size_pos
 have:=o.size_pos
 exact h.same hb ho (w:=o.addr) oM oM
theorem Hp.Jy{a:Int}{o:Ob}(h:s.obj a=some o):o∈s.objs∧(o.addr:Int)=a:=
 ⟨List.mem_of_find?_eq_some h,by have:=OL h;simpa using this⟩
theorem Hp.J8{a:Int}:s.has a=true↔∃o,s.obj a=some o:=by
 constructor
 ·intro h
  cases e:s.obj a with
  |some o=>exact⟨o,rfl⟩
  |none=>
   unfold Hp.obj at e
   rw[List.find?_eq_none]at e
   unfold Hp.has at h
   rw[List.any_eq_true]at h
   obtain⟨o,h1,h2⟩:=h
   exact absurd h2 (e o h1)
 ·rintro ⟨o,h⟩
  obtain⟨h1,h2⟩:=Hp.Jy h
  unfold Hp.has
  rw[List.any_eq_true]
  exact⟨o,h1,by simpa using h2⟩
theorem Hp.Nl{a:Int}:s.has a=false↔s.obj a=none:=by
 rw[←Bool.not_eq_true,Hp.J8]
 cases s.obj a<;>simp
theorem Hp.Ok.word(h:s.Ok){o:Ob}(ho:o∈s.objs){k:Nat}(hk:k<o.size):s.word (o.addr+k)=o.cell k:=by
 have:s.owner (o.addr+k)=some o:=AB ho (by simp;omega) fun b hb e=>h.same hb ho (w:=o.addr+k) (by simpa using e) oM
 unfold Hp.word
 rw[this]
 simp
theorem Hp.XP(h:s.Ok)(a:Int):s.has a=(decide (0≤a)&&(a.tmod 2==0&&s.starts (a.tdiv 2).toNat)):=by
 rw[Bool.eq_iff_iff,Hp.J8]
 simp only[JQ,decide_eq_true_eq,beq_iff_eq,Hp.starts,List.any_eq_true]
 constructor
 ·rintro ⟨o,ho⟩
  obtain⟨h1,rfl⟩:=Hp.Jy ho
  have he:=(h.ob o h1).even
  have hm:(o.addr:Int).tmod 2=((o.addr % 2:Nat):Int):=U1 o.addr 2
  have hd:(o.addr:Int).tdiv 2=((o.addr/2:Nat):Int):=KT o.addr 2
  refine⟨oM,by rw[hm,he];rfl,o,h1,?_⟩
  rw[hd];simp;omega
 ·rintro ⟨h0,h1,o,ho,h2⟩
  obtain⟨n,rfl⟩:∃n:Nat,a=n:=⟨a.toNat,oM⟩
  have hm:(n:Int).tmod 2=((n % 2:Nat):Int):=U1 n 2
  have hd:(n:Int).tdiv 2=((n/2:Nat):Int):=KT n 2
  rw[hm]at h1
  rw[hd]at h2
  have e:o.addr=n:=by simp at h2;omega
  exact⟨o,by rw[←e];exact h.obj ho⟩
end
structure GD where
 bb:Nat
 wb:Nat
 sb:Nat
 sw:Nat
 pb:Nat
 pw:Nat
 mb:Nat
 fb:Nat
def G6(l:List (Nat×Nat)):List CV:=l.flatMap fun x=>[.i x.1,.i x.2]
def Ky(l:List (Int×Int)):List CV:=l.map fun x=>.Ju [.i x.1,.i x.2]
def GD.all(L:GD)(hb:Nat):List Nat:=[hb,L.bb,L.wb,L.sb,L.sw,L.pb,L.pw,L.mb,L.fb]
def V6(H:Gb)(b:Nat)(r:Int→Int→Prop):Prop:=∃l:List (Int×Int),H[b]?=some ⟨Ky l,.map,0⟩∧(l.map (·.1)).Nodup∧∀k v,(k,v)∈l↔r k v
structure PH(H:Gb)(hb:Nat)(s:Hp)(L:GD):Prop where
 top:H[hb]?=some ⟨[.slice L.bb 0 s.blk.length s.blk.length 2 false,.slice L.wb 0 s.nw s.nw 1 false,.ptr L.sb 0,.ptr L.pb 0,.GU L.mb,.GU L.fb,.i s.born],.rw,0⟩
 blk:H[L.bb]?=some ⟨G6 s.blk,.rw,2⟩
 wrd:H[L.wb]?=some ⟨(List.range s.nw).map (fun w=>CV.i (s.word w)),.rw,1⟩
 sta:Side H L.sb L.sw (32*s.blk.length) s.starts
 pin:Side H L.pb L.pw (32*s.blk.length) s.pins
 Qg:V6 H L.mb fun k v=>∃o∈s.objs,k=o.id∧v=o.addr
 fwd:V6 H L.fb fun k v=>(k,v)∈s.fwd
 nod:(L.all hb).Nodup
abbrev Gr(H H':Gb):Prop:=Keeps H H' fun _=>False
theorem Gr.app(H J:Gb):Gr H (H++J):=Keeps.app H J _
theorem Gr.get{H H':Gb}(g:Gr H H'){c:Nat}{k:JI}(h:H[c]?=some k):H'[c]?=some k:=by rw[g.keep c (Gd h) (fun h=>h),h]
section
variable {H H' : Gb} {hb : Nat} {s : Hp} {L : GD}
theorem PH.lt(p:PH H hb s L):∀c∈L.all hb,c<H.length:=by
 obtain⟨l1,h1,-⟩:=p.Qg
 obtain⟨l2,h2,-⟩:=p.fwd
 obtain⟨w1,-,-,e1,-⟩:=p.sta.ws
 obtain⟨w2,-,-,e2,-⟩:=p.pin.ws
 intro c hc
 simp only[GD.all,List.mem_cons,List.not_mem_nil,or_false]at hc
 rcases hc with rfl|rfl|rfl|rfl|rfl|rfl|rfl|rfl|rfl
 ·exact Gd p.top
 ·exact Gd p.blk
 ·exact Gd p.wrd
 ·exact Gd p.sta.st
 ·exact Gd e1
 ·exact Gd p.pin.st
 ·exact Gd e2
 ·exact Gd h1
 ·exact Gd h2
theorem V6.frame{b:Nat}{r:Int→Int→Prop}(m:V6 H b r)(h:H'[b]?=H[b]?):V6 H' b r:=by
 obtain⟨l,h1,h2⟩:=m
 exact⟨l,by rw[h,h1],h2⟩
theorem PH.frame(p:PH H hb s L)(h:∀c∈L.all hb,H'[c]?=H[c]?):PH H' hb s L where
 top:=by rw[h _ (by simp[GD.all]),p.top]
 blk:=by rw[h _ (by simp[GD.all]),p.blk]
 wrd:=by rw[h _ (by simp[GD.all]),p.wrd]
 sta:=p.sta.frame (h _ (by simp[GD.all])) (h _ (by simp[GD.all]))
 pin:=p.pin.frame (h _ (by simp[GD.all])) (h _ (by simp[GD.all]))
 Qg:=p.Qg.frame (h _ (by simp[GD.all]))
 fwd:=p.fwd.frame (h _ (by simp[GD.all]))
 nod:=p.nod
theorem PH.gr(p:PH H hb s L)(g:Gr H H'):PH H' hb s L:=p.frame fun c hc=>g.keep c (p.lt c hc) fun h=>h
theorem PH.app(p:PH H hb s L)(J:Gb):PH (H++J) hb s L:=p.gr (.app H J)
theorem PH.word(p:PH H hb s L){w:Nat}(hw:w<s.nw):ld H[L.wb]? w=some (.i (s.word w)):=by
 rw[p.wrd,Vt,Ke,ZG hw];rfl
theorem KE(l:List (Nat×Nat)):(G6 l).length=2*l.length:=by
 induction l with
 |nil=>rfl
 |cons x l ih=>simp only[G6,List.flatMap_cons,Nq,List.length_cons,List.length_nil]at ih⊢;omega
theorem Kr:∀(l:List (Nat×Nat))(b:Nat)(x:Nat×Nat),l[b]?=some x→(G6 l)[b*2]?=some (.i x.1)∧(G6 l)[b*2+1]?=some (.i x.2)
 |[],b,x,h=>by simp at h
 |y::l,0,x,h=>by
  simp only[List.getElem?_cons_zero,Gx]at h
  subst h
  exact⟨rfl,rfl⟩
 |y::l,b+1,x,h=>by
  simp only[List.getElem?_cons_succ]at h
  obtain⟨h1,h2⟩:=Kr l b x h
  have e1:(b+1)*2=b*2+1+1:=by omega
  have e2:(b+1)*2+1=b*2+1+1+1:=by omega
  rw[e2,e1]
  exact⟨h1,h2⟩
end
end Go.Cs
namespace Go.Cs.Tryz
open Go Go.Cs
section
variable {H : Gb} {hb : Nat} {s : Hp} {L : GD}
theorem Nj(p:PH H hb s L)(k:s.Ok):run P 95 [.ptr hb 0] H=some (.bool true,H):=by
 have h:=p.top
 have hl:(0:Int)<(s.blk.length:Int):=by have:=k.nb;omega
 rw[Gi c95 _ _ sM]
 simp(disch:=first|exact dz|fail) only[simprocAttr,Gc,↓reduceIte,Gv,h,EC,Bool.not_false,KA,hl,decide_true]
theorem KD(p:PH H hb s L)(k:s.Ok):run P 49 [.ptr hb 0] H=some (.i s.blk.length,H):=by
 have h:=p.top
 have h1:=Nj p k
 rw[Gi c49 _ _ sM]
 simp(disch:=first|exact dz|fail) only[simprocAttr,Gc,↓reduceIte,Gv,h,h1,Bool.not_true,KA]
theorem SA(p:PH H hb s L)(k:s.Ok):run P 70 [.ptr hb 0] H=some (.i s.born,H):=by
 have h:=p.top
 have h1:=Nj p k
 rw[Gi c70 _ _ sM]
 simp(disch:=first|exact dz|fail) only[simprocAttr,Gc,↓reduceIte,Gv,h,h1,Bool.not_true]
def Hp.state(s:Hp)(b:Int):Int:=if 0≤b then(match s.blk[b.toNat]? with|some x=>(x.1:Int)|none=> -1)else -1
def Hp.space(s:Hp)(b:Int):Int:=if 0≤b then(match s.blk[b.toNat]? with|some x=>(x.2:Int)|none=> -1)else -1
theorem GaF(p:PH H hb s L)(k:s.Ok)(b:Int):run P 71 [.ptr hb 0,.i b] H=some (.i (Hp.state s b),H):=by
 have h:=p.top
 have h1:=KD p k
 rw[Gi c71 _ _ sM]
 unfold Hp.state
 by_cases h0:0≤b
 ·rw[if_pos h0]
  obtain⟨n,rfl⟩:∃n:Nat,b=n:=⟨b.toNat,oM⟩
  by_cases hn:n<s.blk.length
  ·have hx:s.blk[n]?=some s.blk[n]:=J9 hn
   obtain⟨q1,q2⟩:=Kr s.blk n _ hx
   have hb2:=p.blk
   have c1:(0:Int)≤(n:Int)∧(n:Int)<(s.blk.length:Int):=by omega
   have c2:¬((n:Int)<0):=by omega
   have c3:¬((s.blk.length:Int)≤(n:Int)):=by omega
   simp(disch:=first|exact dz|fail) only[simprocAttr,Gc,↓reduceIte,Gj,h,h1,c1,c2,c3,hb2,q1,hx,decide_false,Nat.zero_add,Nat.add_zero]
  ·have hx:s.blk[n]?=none:=En oM
   have c2:¬((n:Int)<0):=by omega
   have c3:(s.blk.length:Int)≤(n:Int):=by omega
   simp(disch:=first|exact dz|fail) only[simprocAttr,Gc,↓reduceIte,Gj,h,h1,c2,c3,hx,decide_false,decide_true]
 ·rw[if_neg h0]
  have c2:b<0:=by omega
  simp(disch:=first|exact dz|fail) only[simprocAttr,Gc,↓reduceIte,Gj,h,h1,c2,decide_true]
theorem LY(p:PH H hb s L)(k:s.Ok)(b:Int):run P 72 [.ptr hb 0,.i b] H=some (.i (Hp.space s b),H):=by
 have h:=p.top
 have h1:=KD p k
 rw[Gi c72 _ _ sM]
 unfold Hp.space
 by_cases h0:0≤b
 ·rw[if_pos h0]
  obtain⟨n,rfl⟩:∃n:Nat,b=n:=⟨b.toNat,oM⟩
  by_cases hn:n<s.blk.length
  ·have hx:s.blk[n]?=some s.blk[n]:=J9 hn
   obtain⟨q1,q2⟩:=Kr s.blk n _ hx
   have hb2:=p.blk
   have c1:(0:Int)≤(n:Int)∧(n:Int)<(s.blk.length:Int):=by omega
   have c2:¬((n:Int)<0):=by omega
   have c3:¬((s.blk.length:Int)≤(n:Int)):=by omega
   simp(disch:=first|exact dz|fail) only[simprocAttr,Gc,↓reduceIte,Gj,h,h1,c1,c2,c3,hb2,q2,hx,decide_false,Nat.zero_add,Nat.add_zero]
  ·have hx:s.blk[n]?=none:=En oM
   have c2:¬((n:Int)<0):=by omega
   have c3:(s.blk.length:Int)≤(n:Int):=by omega
   simp(disch:=first|exact dz|fail) only[simprocAttr,Gc,↓reduceIte,Gj,h,h1,c2,c3,hx,decide_false,decide_true]
 ·rw[if_neg h0]
  have c2:b<0:=by omega
  simp(disch:=first|exact dz|fail) only[simprocAttr,Gc,↓reduceIte,Gj,h,h1,c2,decide_true]
theorem QA(p:PH H hb s L)(k:s.Ok)(a:Int)(ha:a≤9223372036854775807):run P 50 [.ptr hb 0,.i a] H=some (.bool (s.has a),H):=by
 have h:=p.top
 have h1:=Nj p k
 rw[Hp.XP k a,Gi c50 _ _ sM]
 by_cases h0:0≤a
 ·obtain⟨n,rfl⟩:∃n:Nat,a=n:=⟨a.toNat,oM⟩
  have hm:(n:Int).tmod 2=((n % 2:Nat):Int):=U1 n 2
  have hd:(n:Int).tdiv 2=((n/2:Nat):Int):=KT n 2
  have hw:IntKind.i64.wrap ((n/2:Nat):Int)=((n/2:Nat):Int):=Gh oM
  have hg:=TJ p.sta ((n/2:Nat):Int)
  have tn:(((n/2:Nat):Int)).toNat=n/2:=by omega
  by_cases h2:n % 2=0
  ·have h2':(((n % 2:Nat):Int)==0)=true:=by rw[h2];rfl
   by_cases h3:n/2<32*s.blk.length
   ·have c:(0:Int)≤((n/2:Nat):Int)∧((n/2:Nat):Int)<((32*s.blk.length:Nat):Int):=by omega
    rw[if_pos c,tn]at hg
    have e:(Ep (s.starts (n/2))==1)=s.starts (n/2):=by cases s.starts (n/2)<;>rfl
    simp(disch:=first|exact dz|fail) only[simprocAttr,Gc,↓reduceIte,Gj,h,h1,h0,hm,hd,hw,h2',hg,GA,GH,decide_true,e,Bool.true_and]
   ·have c:¬((0:Int)≤((n/2:Nat):Int)∧((n/2:Nat):Int)<((32*s.blk.length:Nat):Int)):=by omega
    rw[if_neg c]at hg
    have e:s.starts (n/2)=false:=by
     rw[←Bool.not_eq_true]
     unfold Hp.starts
     rw[List.any_eq_true]
     rintro ⟨o,ho,h4⟩
     have hf:=(k.ob o ho).fits
     have hp:=o.size_pos
     have h5:o.addr=2*(n/2):=by simpa using h4
     unfold Hp.nw at hf
     omega
    simp(disch:=first|exact dz|fail) only[simprocAttr,Gc,↓reduceIte,Gj,h,h1,h0,hm,hd,hw,h2',hg,GA,GH,decide_true,e,Bool.true_and]
  ·have h2':(((n % 2:Nat):Int)==0)=false:=by simp;omega
   simp(disch:=first|exact dz|fail) only[simprocAttr,Gc,↓reduceIte,Gj,h,h1,h0,hm,hd,h2',GA,GH,decide_true,Bool.true_and,Bool.false_and]
 ·simp(disch:=first|exact dz|fail) only[simprocAttr,Gc,↓reduceIte,Gj,h,h1,h0,decide_false,Bool.false_and]
theorem Un(p:PH H hb s L)(k:s.Ok)(a:Int)(ha:a≤9223372036854775807):run P 120 [.ptr hb 0,.i a] H=some (.i (if s.has a then 0 else 4),H):=by
 have h1:=Nj p k
 have h2:=QA p k a ha
 rw[Gi GnS _ _ sM]
 cases e:s.has a with
 |true=>
  rw[e]at h2
  simp(disch:=first|exact dz|fail) only[simprocAttr,Gc,↓reduceIte,Gj,h1,h2,Bool.not_true]
 |false=>
  rw[e]at h2
  simp(disch:=first|exact dz|fail) only[simprocAttr,Gc,↓reduceIte,Gj,h1,h2,Bool.not_true,Bool.not_false,Bool.false_eq_true]
end
end Go.Cs.Tryz
namespace Go.Cs.Tryz
open Go Go.Cs A
def Gng:Gm:=⟨51,0,T [bo 1 0,nb 2 false] (Q [f 3 0 1,l 4 1 3,bk 5 .geq 4 0,m 6 5,gt 6 (f 7 0 1),gt 6 (l 8 1 7),gt 6 (bk 9 .leq 8 15),an 10 6 9,m 11 10,gt 11 (f 12 1 1),gt 11 (l 13 1 12),gt 11 (bk 14 .geq 13 0),an 15 11 14,m 16 15,gt 16 (f 17 1 1),gt 16 (l 18 1 17),gt 16 (bk 19 .leq 18 200),an 20 16 19,m 21 20,gt 21 (f 22 2 1),gt 21 (l 23 1 22),gt 21 (bk 24 .geq 23 0),an 25 21 24,m 26 25,gt 26 (f 27 2 1),gt 26 (l 28 1 27),gt 26 (bk 29 .leq 28 3),an 30 26 29,m 31 30,gt 31 (f 32 2 1),gt 31 (l 33 1 32),gt 31 (bk 34 .neq 33 1),gt 31 (m 35 34),gf 35 (f 36 0 1),gf 35 (l 37 1 36),gf 35 (bk 38 .geq 37 1),gt 31 (or 39 35 38),an 40 31 39,m 41 40,gt 41 (f 42 2 1),gt 41 (l 43 1 42),gt 41 (bk 44 .neq 43 2),gt 41 (m 45 44),gf 45 (f 46 0 1),gf 45 (l 47 1 46),gf 45 (bk 48 .geq 47 2),gt 41 (or 49 45 48),an 50 41 49,m 2 50]),[r 2]⟩
theorem Grl:P 125=some Gng:=by kernel_rfl
def Grd:Gm:=⟨15,0,T [bo 1 0,n 2 0] (S (T [lg 3 3 1,q1 4 125 3,no 5 4] (I 5 (Q [n 2 0]))) (Q [f 6 0 1,l 7 1 6,e 8 (.bin .add (k 2) (t 7)),f 9 1 1,l 10 1 9,b 11 .add 8 10,bk 12 .add 11 1,bk 13 .quo 12 2,bk 14 .mul 13 2,m 2 14])),[r 2]⟩
theorem c127:P 127=some Grd:=by kernel_rfl
def Gnx:Gm:=⟨13,0,T [bo 1 0,n 2 0] (Q [f 3 0 1,l 4 1 3,f 5 1 1,l 6 1 5,e 7 (.bin .mul (k 16) (t 6)),b 8 .add 4 7,f 9 2 1,l 10 1 9,e 11 (.bin .mul (k 4096) (t 10)),b 12 .add 8 11,m 2 12]),[r 2]⟩
theorem Gnb:P 128=some Gnx:=by kernel_rfl
def Gqu:Gm:=⟨11,0,T [e 2 (.new [i 0,i 0,i 0])] (Q [m 3 0,bk 4 .rem 3 16,m 5 0,bk 6 .rem 5 4096,bk 7 .quo 6 16,m 8 0,bk 9 .quo 8 4096,e 10 (.build [i 0,i 0,i 0] [(0,1,t 4),(1,1,t 7),(2,1,t 9)]),st 3 2 10]),[.cell 2 true 3]⟩
theorem c171:P 171=some Gqu:=by kernel_rfl
end Go.Cs.Tryz
namespace Go.Cs
open Go
def Je(r d k:Int):List CV:=[.i r,.i d,.i k]
def JJ(r d k:Int):Bool:=decide (0≤r)&&(decide (r≤15)&&(decide (0≤d)&&(decide (d≤200)&&(decide (0≤k)&&(decide (k≤3)&&((k != 1||decide (1≤r))&&(k != 2||decide (2≤r))))))))
theorem Qu{r d k:Int}(h:JJ r d k=true):(0≤r∧r≤15)∧(0≤d∧d≤200)∧(0≤k∧k≤3)∧(k≠1∨1≤r)∧(k≠2∨2≤r):=by
 simp only[JJ,JQ,decide_eq_true_eq,Bool.or_eq_true,bne_iff_ne]at h
 omega
theorem NR{r d k:Int}:JJ r d k=true↔(0≤r∧r≤15)∧(0≤d∧d≤200)∧(0≤k∧k≤3)∧(k≠1∨1≤r)∧(k≠2∨2≤r):=by
 simp only[JJ,JQ,decide_eq_true_eq,Bool.or_eq_true,bne_iff_ne]
 omega
def G5(r d k:Int):Int:=if JJ r d k then((G7 r.toNat d.toNat:Nat):Int)else 0
theorem Ob.Ok.valid{o:Ob}{n b:Nat}(h:o.Ok n b):JJ o.refs.length o.data.length o.kd=true:=by
 have h1:=h.nr;have h2:=h.nd;have h3:=h.kd
 rw[NR];omega
theorem Ob.Ok.shape{o:Ob}{n b:Nat}(h:o.Ok n b):(o.num:Int).tmod 16=o.refs.length∧((o.num:Int).tmod 4096).tdiv 16=o.data.length∧(o.num:Int).tdiv 4096=o.kd∧o.num<65536:=by
 have h1:=h.nr;have h2:=h.nd;have h3:=h.kd
 have e1:(o.num:Int).tmod 16=((o.num % 16:Nat):Int):=U1 _ 16
 have e2:(o.num:Int).tmod 4096=((o.num % 4096:Nat):Int):=U1 _ 4096
 have e3:(o.num:Int).tdiv 4096=((o.num/4096:Nat):Int):=KT _ 4096
 have e4:((o.num % 4096:Nat):Int).tdiv 16=((o.num % 4096/16:Nat):Int):=KT _ 16
 rw[e1,e2,e3,e4]
 unfold Ob.num
 omega
end Go.Cs
namespace Go.Cs.Tryz
open Go Go.Cs
section
variable {H : Gb}
theorem YK(n:Int)(h:0≤n∧n<65536):run P 171 [.i n] H=some (.agg (Je (n.tmod 16) ((n.tmod 4096).tdiv 16) (n.tdiv 4096)),H++[⟨Je (n.tmod 16) ((n.tmod 4096).tdiv 16) (n.tdiv 4096),.rw,0⟩]):=by
 obtain⟨m,rfl⟩:∃m:Nat,n=m:=⟨n.toNat,oM⟩
 have e2:(m:Int).tmod 4096=((m % 4096:Nat):Int):=U1 _ 4096
 have e3:(m:Int).tdiv 4096=((m/4096:Nat):Int):=KT _ 4096
 have e4:((m % 4096:Nat):Int).tdiv 16=((m % 4096/16:Nat):Int):=KT _ 16
 have w1:IntKind.i64.wrap ((m % 4096/16:Nat):Int)=((m % 4096/16:Nat):Int):=Gh oM
 have w2:IntKind.i64.wrap ((m/4096:Nat):Int)=((m/4096:Nat):Int):=Gh oM
 rw[Gi c171 _ _ sM]
 unfold Je
 simp(disch:=first|exact dz|fail) only[simprocAttr,Gc,↓reduceIte,Gv,GA,GH,e2,e3,e4,w1,w2,fill,splice,and_self]
 all_goals rfl
theorem WV(r d k:Int)(h:JJ r d k=true):run P 128 [.agg (Je r d k)] H=some (.i (r+16*d+4096*k),H++[⟨Je r d k,.rw,0⟩]):=by
 have hv:=Qu h
 have w1:IntKind.i64.wrap (16*d)=16*d:=Gh oM
 have w2:IntKind.i64.wrap (r+16*d)=r+16*d:=Gh oM
 have w3:IntKind.i64.wrap (4096*k)=4096*k:=Gh oM
 have w4:IntKind.i64.wrap (r+16*d+4096*k)=r+16*d+4096*k:=Gh oM
 rw[Gi Gnb _ _ sM]
 unfold Je
 simp(disch:=first|exact dz|fail) only[simprocAttr,Gc,↓reduceIte,Gv,w1,w2,w3,w4]
theorem Bn(r d k:Int):run P 125 [.agg (Je r d k)] H=some (.bool (JJ r d k),H++[⟨Je r d k,.rw,0⟩]):=by
 rw[Gi Grl _ _ sM]
 unfold JJ Je
 by_cases c1:0≤r
 ·by_cases c2:r≤15
  ·by_cases c3:0≤d
   ·by_cases c4:d≤200
    ·by_cases c5:0≤k
     ·by_cases c6:k≤3
      ·by_cases c7:(k != 1)=true
       ·by_cases c9:(k != 2)=true
        ·simp(disch:=first|exact dz|fail) only[simprocAttr,Gc,↓reduceIte,Gv,c1,c2,c3,c4,c5,c6,c7,c9,decide_true,decide_false,Bool.true_and,Bool.true_or]
        ·have c9':(k != 2)=false:=by simpa using c9
         simp(disch:=first|exact dz|fail) only[simprocAttr,Gc,↓reduceIte,Gv,c1,c2,c3,c4,c5,c6,c7,c9',decide_true,decide_false,Bool.true_and,Bool.true_or,Bool.false_or]
       ·have c7':(k != 1)=false:=by simpa using c7
        by_cases c8:1≤r
        ·by_cases c9:(k != 2)=true
         ·simp(disch:=first|exact dz|fail) only[simprocAttr,Gc,↓reduceIte,Gv,c1,c2,c3,c4,c5,c6,c7',c8,c9,decide_true,decide_false,Bool.true_and,Bool.true_or,Bool.false_or]
         ·have c9':(k != 2)=false:=by simpa using c9
          simp(disch:=first|exact dz|fail) only[simprocAttr,Gc,↓reduceIte,Gv,c1,c2,c3,c4,c5,c6,c7',c8,c9',decide_true,decide_false,Bool.true_and,Bool.true_or,Bool.false_or]
        ·simp(disch:=first|exact dz|fail) only[simprocAttr,Gc,↓reduceIte,Gv,c1,c2,c3,c4,c5,c6,c7',c8,decide_true,decide_false,Bool.true_and,Bool.false_and,Bool.false_or]
      ·simp(disch:=first|exact dz|fail) only[simprocAttr,Gc,↓reduceIte,Gv,c1,c2,c3,c4,c5,c6,decide_true,decide_false,Bool.true_and,Bool.false_and]
     ·simp(disch:=first|exact dz|fail) only[simprocAttr,Gc,↓reduceIte,Gv,c1,c2,c3,c4,c5,decide_true,decide_false,Bool.true_and,Bool.false_and]
    ·simp(disch:=first|exact dz|fail) only[simprocAttr,Gc,↓reduceIte,Gv,c1,c2,c3,c4,decide_true,decide_false,Bool.true_and,Bool.false_and]
   ·simp(disch:=first|exact dz|fail) only[simprocAttr,Gc,↓reduceIte,Gv,c1,c2,c3,decide_true,decide_false,Bool.true_and,Bool.false_and]
  ·simp(disch:=first|exact dz|fail) only[simprocAttr,Gc,↓reduceIte,Gv,c1,c2,decide_true,decide_false,Bool.true_and,Bool.false_and]
 ·simp(disch:=first|exact dz|fail) only[simprocAttr,Gc,↓reduceIte,Gv,c1,decide_false,Bool.false_and]
theorem Yn(r d k:Int):run P 127 [.agg (Je r d k)] H=some (.i (G5 r d k),H++[⟨Je r d k,.rw,0⟩]++[⟨Je r d k,.rw,0⟩]):=by
 have hv:=Bn (H:=H++[⟨Je r d k,.rw,0⟩]) r d k
 rw[Gi c127 _ _ sM]
 unfold G5
 by_cases c:JJ r d k=true
 ·have hb:=Qu c
  rw[c]at hv
  rw[if_pos c]
  unfold Je at hv⊢
  have w1:IntKind.i64.wrap (2+r)=2+r:=Gh oM
  have w2:IntKind.i64.wrap (2+r+d)=2+r+d:=Gh oM
  have w3:IntKind.i64.wrap (2+r+d+1)=2+r+d+1:=Gh oM
  have e:(2+r+d+1).tdiv 2=(2+r+d+1)/2:=Int.tdiv_eq_ediv_of_nonneg oM
  have w4:IntKind.i64.wrap ((2+r+d+1)/2)=(2+r+d+1)/2:=Gh oM
  have w5:IntKind.i64.wrap ((2+r+d+1)/2*2)=((G7 r.toNat d.toNat:Nat):Int):=by
   rw[Gh oM];unfold G7;omega
  simp(disch:=first|exact dz|fail) only[simprocAttr,Gc,↓reduceIte,Gv,hv,Bool.not_true,w1,w2,w3,e,w4,w5,GH]
 ·have c':JJ r d k=false:=by simpa using c
  rw[c']at hv⊢
  unfold Je at hv⊢
  simp(disch:=first|exact dz|fail) only[simprocAttr,Gc,↓reduceIte,Gv,hv,Bool.not_false,Bool.false_eq_true]
end
end Go.Cs.Tryz
namespace Go.Cs.Tryz
open Go Go.Cs A
def C35:Gm:=⟨20,0,T [n 4 0,n 5 0] (S (T [m 7 0,m 8 1,q2 9 120 7 8,m 6 9] (T [m 10 6,bk 11 .neq 10 0] (I 11 (Q [m 12 6,n 4 0,m 5 12])))) (Q [m 13 0,z 14 13,f 15 1 14,l 16 1 15,m 17 1,x 18 1 16 17,l 19 1 18,m 4 19,n 5 0])),[r 4,r 5]⟩
theorem c35:P 35=some C35:=by kernel_rfl
def C74:Gm:=⟨18,0,T [nb 4 false] (Q [m 5 0,m 6 1,q2 7 50 5 6,m 8 7,gt 8 (m 9 0),gt 8 (z 10 9),gt 8 (f 11 3 10),gt 8 (l 12 1 11),gt 8 (m 13 1),gt 8 (bk 14 .quo 13 2),gt 8 (q2 15 139 12 14),gt 8 (bk 16 .eql 15 1),an 17 8 16,m 4 17]),[r 4]⟩
theorem c74:P 74=some C74:=by kernel_rfl
def C75:Gm:=⟨23,0,T [e 4 (.new [i 0,i 0,i 0]),n 5 0] (S (T [m 7 0,m 8 1,q2 9 120 7 8,m 6 9] (T [m 10 6,bk 11 .neq 10 0] (I 11 (Q [e 12 (.build [i 0,i 0,i 0] []),m 13 6,st 3 4 12,m 5 13])))) (Q [m 14 0,z 15 14,f 16 1 15,l 17 1 16,m 18 1,bk 19 .add 18 1,x 20 1 17 19,l 21 1 20,q1 22 171 21,st 3 4 22,n 5 0])),[.cell 4 true 3,r 5]⟩
theorem c75:P 75=some C75:=by kernel_rfl
def C76:Gm:=⟨27,0,T [n 6 0,n 7 0] (T [m 11 0,m 12 1,m 13 2,ca 14 172 [t 11,t 12,t 13,c (.bool false)],m 10 14,ex 15 10 0,ex 16 10 1,m 8 15,m 9 16] (S (T [m 17 9,bk 18 .neq 17 0] (I 18 (Q [m 19 9,n 6 0,m 7 19]))) (Q [m 20 0,z 21 20,f 22 1 21,l 23 1 22,m 24 8,x 25 1 23 24,l 26 1 25,m 6 26,n 7 0]))),[r 6,r 7]⟩
theorem c76:P 76=some C76:=by kernel_rfl
def C77:Gm:=⟨27,0,T [n 6 0,n 7 0] (T [m 11 0,m 12 1,m 13 2,ca 14 172 [t 11,t 12,t 13,c (.bool true)],m 10 14,ex 15 10 0,ex 16 10 1,m 8 15,m 9 16] (S (T [m 17 9,bk 18 .neq 17 0] (I 18 (Q [m 19 9,n 6 0,m 7 19]))) (Q [m 20 0,z 21 20,f 22 1 21,l 23 1 22,m 24 8,x 25 1 23 24,l 26 1 25,m 6 26,n 7 0]))),[r 6,r 7]⟩
theorem c77:P 77=some C77:=by kernel_rfl
def Gqi:Gm:=⟨15,0,T [n 4 0] (Q [m 5 0,z 6 5,f 7 1 6,l 8 1 7,m 9 1,bk 10 .add 9 1,x 11 1 8 10,l 12 1 11,q1 13 171 12,q1 14 127 13,m 4 14]),[r 4]⟩
theorem Gl9:P 155=some Gqi:=by kernel_rfl
def GpM:Gm:=⟨50,0,T [n 8 0,n 9 0] (S (T [m 14 0,m 15 1,q2 16 120 14 15,m 10 16] (T [m 17 10,bk 18 .neq 17 0] (I 18 (Q [m 19 10,n 8 0,m 9 19])))) (T [m 20 0,z 21 20,f 22 1 21,l 23 1 22,m 24 1,bk 25 .add 24 1,x 26 1 23 25,l 27 1 26,q1 28 171 27,e 11 (.new [i 0,i 0,i 0]),st 3 11 28] (S (D [⟨m 29 1,0,0,0⟩,⟨bk 30 .add 29 2,1,0,0⟩,⟨f 31 0 11,2,0,0⟩,⟨l 32 1 31,3,1,0⟩,⟨m 12 30,4,0,0⟩,⟨m 13 32,5,0,0⟩]) (S (T [m 33 3] (I 33 (D [⟨m 34 12,0,0,0⟩,⟨f 35 0 11,1,0,0⟩,⟨l 36 1 35,2,1,0⟩,⟨b 37 .add 34 36,3,0,0⟩,⟨f 38 1 11,4,0,0⟩,⟨l 39 1 38,5,1,0⟩,⟨m 12 37,6,0,0⟩,⟨m 13 39,7,0,0⟩]))) (S (T [m 40 2,bk 41 .lss 40 0,m 42 41,gf 42 (m 43 2),gf 42 (m 44 13),gf 42 (b 45 .geq 43 44),or 46 42 45] (I 46 (Q [n 8 0,n 9 1]))) (Q [m 47 12,m 48 2,b 49 .add 47 48,m 8 49,n 9 0])))))),[r 8,r 9]⟩
theorem GlS:P 172=some GpM:=by kernel_rfl
end Go.Cs.Tryz
namespace Go.Cs
open Go
theorem Ob.Geh(o:Ob){i:Nat}(h:i<o.refs.length):o.cell (2+i)=o.refs.getD i 0:=by
 have e:2+i=i+1+1:=by omega
 unfold Ob.cell Ob.cells
 rw[e,List.getD_cons_succ,List.getD_cons_succ,Qc,QN h,←Qc]
theorem Ob.GcJ(o:Ob){i:Nat}(h:i<o.data.length):o.cell (2+o.refs.length+i)=o.data.getD i 0:=by
 have e:2+o.refs.length+i=o.refs.length+i+1+1:=by omega
 unfold Ob.cell Ob.cells
 rw[e,List.getD_cons_succ,List.getD_cons_succ,Qc,M_ oM,←Qc]
 congr 1;omega
def Hp.JR(s:Hp)(a:Int):List CV×Int:=match s.obj a with
 |some o=>(Je o.refs.length o.data.length o.kd,0)
 |none=>(Je 0 0 0,4)
def Hp.fieldAt(s:Hp)(a i:Int)(d:Bool):Int×Int:=match s.obj a with
 |some o=>if 0≤i∧i<((if d then o.data.length else o.refs.length:Nat):Int)then((o.addr:Int)+2+(if d then o.refs.length else 0:Nat)+i,0)else(0,1)
 |none=>(0,4)
def Hp.Jq(s:Hp)(a i:Int):Int×Int:=match s.obj a with
 |some o=>if 0≤i∧i<(o.refs.length:Int)then(o.refs.getD i.toNat 0,0)else(0,1)
 |none=>(0,4)
def Hp.Kh(s:Hp)(a i:Int):Int×Int:=match s.obj a with
 |some o=>if 0≤i∧i<(o.data.length:Int)then(o.data.getD i.toNat 0,0)else(0,1)
 |none=>(0,4)
def Hp.U6(s:Hp)(a:Int):Int×Int:=match s.obj a with
 |some o=>(o.id,0)
 |none=>(0,4)
def Hp.pinnedAt(s:Hp)(a:Int):Bool:=match s.obj a with
 |some o=>o.pin
 |none=>false
def Uj(p:Int×Int):CV:=.Ju [.i p.1,.i p.2]
end Go.Cs
namespace Go.Cs.Tryz
open Go Go.Cs
section
variable {H : Gb} {hb : Nat} {s : Hp} {L : GD}
theorem Uk(p:PH H hb s L)(k:s.Ok){o:Ob}(ho:o∈s.objs){j:Nat}(hj:j<o.size):ld H[L.wb]? (o.addr+j)=some (.i (o.cell j))∧((0:Int)≤((o.addr+j:Nat):Int)∧((o.addr+j:Nat):Int)<(s.nw:Int))∧s.nw≤4096:=by
 have h1:=(k.ob o ho).fits
 have h2:=k.nb
 have h3:s.nw≤4096:=by unfold Hp.nw;omega
 refine⟨?_,oM,h3⟩
 rw[←k.word ho hj]
 exact p.word oM
theorem OY(p:PH H hb s L)(k:s.Ok){o:Ob}(ho:o∈s.objs):∃H',run P 155 [.ptr hb 0,.i o.addr] H=some (.i o.size,H')∧Gr H H':=by
 obtain⟨e1,e2,e3,e4⟩:=(k.ob o ho).shape
 obtain⟨q1,q2,q3⟩:=Uk p k ho (j:=1) (by have:=o.size_pos;omega)
 have q4:o.cell 1=(o.num:Int):=rfl
 rw[q4]at q1
 have h:=p.top
 have hs:=YK (H:=H) o.num oM
 rw[e1,e2,e3]at hs
 have hw:=Yn (H:=H++[⟨Je o.refs.length o.data.length o.kd,.rw,0⟩]) o.refs.length o.data.length o.kd
 have hv:G5 o.refs.length o.data.length o.kd=(o.size:Int):=by
  unfold G5
  rw[if_pos (k.ob o ho).valid]
  rfl
 rw[hv]at hw
 have w1:IntKind.i64.wrap ((o.addr:Int)+1)=((o.addr+1:Nat):Int):=Gh oM
 refine⟨_,?_,(((Gr.app H [⟨Je o.refs.length o.data.length o.kd,.rw,0⟩]).app' [⟨Je o.refs.length o.data.length o.kd,.rw,0⟩]).app' [⟨Je o.refs.length o.data.length o.kd,.rw,0⟩])⟩
 rw[Gi Gl9 _ _ sM]
 simp(disch:=first|exact dz|fail) only[simprocAttr,Gc,↓reduceIte,Gj,h,w1,q2,Jm q1,hs,hw,Nat.zero_add]
theorem NA(p:PH H hb s L)(k:s.Ok)(a:Int)(ha:a≤9223372036854775807):∃H',run P 75 [.ptr hb 0,.i a] H=some (.Ju [.agg (s.JR a).1,.i (s.JR a).2],H')∧Gr H H':=by
 have pj:=p.app [⟨Je 0 0 0,.rw,0⟩]
 have h1:=Un pj k a ha
 unfold Hp.JR
 cases e:s.obj a with
 |none=>
  rw[Hp.Nl.2 e]at h1
  refine⟨H++[⟨Je 0 0 0,.rw,0⟩],?_,Gr.app H _⟩
  unfold Je at h1⊢
  rw[Gi c75 _ _ sM]
  simp(disch:=first|exact dz|fail) only[simprocAttr,Gc,↓reduceIte,Gj,h1,fill,splice,and_self,Bool.false_eq_true]
 |some o=>
  obtain⟨ho,rfl⟩:=Hp.Jy e
  rw[Hp.J8.2 ⟨o,e⟩]at h1
  obtain⟨e1,e2,e3,e4⟩:=(k.ob o ho).shape
  obtain⟨q1,q2,q3⟩:=Uk pj k ho (j:=1) (by have:=o.size_pos;omega)
  have q4:o.cell 1=(o.num:Int):=rfl
  rw[q4]at q1
  have h:=pj.top
  have hs:=YK (H:=H++[⟨Je 0 0 0,.rw,0⟩]) o.num oM
  rw[e1,e2,e3]at hs
  have w1:IntKind.i64.wrap ((o.addr:Int)+1)=((o.addr+1:Nat):Int):=Gh oM
  refine⟨H++[⟨Je o.refs.length o.data.length o.kd,.rw,0⟩]++[⟨Je o.refs.length o.data.length o.kd,.rw,0⟩],?_,(Gr.app H _).app' _⟩
  unfold Je at h1 hs h⊢q1
  rw[Gi c75 _ _ sM]
  simp(disch:=first|exact dz|fail) only[simprocAttr,Gc,↓reduceIte,Gj,h1,h,w1,q2,Jm q1,hs,fill,splice,and_self]
  all_goals rfl
theorem Yw(p:PH H hb s L)(k:s.Ok)(a i:Int)(d:Bool)(ha:a≤9223372036854775807):∃H',run P 172 [.ptr hb 0,.i a,.i i,.bool d] H=some (Uj (s.fieldAt a i d),H')∧Gr H H':=by
 have h1:=Un p k a ha
 unfold Hp.fieldAt Uj
 cases e:s.obj a with
 |none=>
  rw[Hp.Nl.2 e]at h1
  refine⟨H,?_,Keeps.refl H _⟩
  rw[Gi GlS _ _ sM]
  simp(disch:=first|exact dz|fail) only[simprocAttr,Gc,↓reduceIte,GJ,h1,Bool.false_eq_true]
 |some o=>
  obtain⟨ho,rfl⟩:=Hp.Jy e
  rw[Hp.J8.2 ⟨o,e⟩]at h1
  obtain⟨e1,e2,e3,e4⟩:=(k.ob o ho).shape
  obtain⟨q1,q2,q3⟩:=Uk p k ho (j:=1) (by have:=o.size_pos;omega)
  have q4:o.cell 1=(o.num:Int):=rfl
  rw[q4]at q1
  have h:=p.top
  have hs:=YK (H:=H) o.num oM
  rw[e1,e2,e3]at hs
  have hr:=(k.ob o ho).nr
  have hd:=(k.ob o ho).nd
  have w1:IntKind.i64.wrap ((o.addr:Int)+1)=((o.addr+1:Nat):Int):=Gh oM
  have w2:IntKind.i64.wrap ((o.addr:Int)+2)=(o.addr:Int)+2:=Gh oM
  have w3:IntKind.i64.wrap ((o.addr:Int)+2+(o.refs.length:Int))=(o.addr:Int)+2+(o.refs.length:Int):=Gh oM
  refine⟨H++[⟨Je o.refs.length o.data.length o.kd,.rw,0⟩]++[⟨Je o.refs.length o.data.length o.kd,.rw,0⟩],?_,(Gr.app H _).app' _⟩
  unfold Je at hs⊢
  dsimp only
  rw[Gi GlS _ _ sM]
  cases d
  ·by_cases c0:i<0
   ·have c1:¬(0≤i∧i<((if false=true then o.data.length else o.refs.length:Nat):Int)):=by omega
    rw[if_neg c1]
    simp(disch:=first|exact dz|fail) only[simprocAttr,Gc,↓reduceIte,GJ,h1,h,w1,w2,q2,Jm q1,hs,c0,decide_true]
   ·by_cases c2:(o.refs.length:Int)≤i
    ·have c1:¬(0≤i∧i<((if false=true then o.data.length else o.refs.length:Nat):Int)):=by simp;omega
     rw[if_neg c1]
     simp(disch:=first|exact dz|fail) only[simprocAttr,Gc,↓reduceIte,GJ,h1,h,w1,w2,q2,Jm q1,hs,c0,c2,decide_true,decide_false]
    ·have c1:(0≤i∧i<((if false=true then o.data.length else o.refs.length:Nat):Int)):=by simp;omega
     rw[if_pos c1]
     have w4:IntKind.i64.wrap ((o.addr:Int)+2+i)=(o.addr:Int)+2+i:=Gh oM
     simp(disch:=first|exact dz|fail) only[simprocAttr,Gc,↓reduceIte,GJ,h1,h,w1,w2,w4,q2,Jm q1,hs,c0,c2,decide_true,decide_false]
     simp
  ·by_cases c0:i<0
   ·have c1:¬(0≤i∧i<((if true=true then o.data.length else o.refs.length:Nat):Int)):=by omega
    rw[if_neg c1]
    simp(disch:=first|exact dz|fail) only[simprocAttr,Gc,↓reduceIte,GJ,h1,h,w1,w2,w3,q2,Jm q1,hs,c0,decide_true]
   ·by_cases c2:(o.data.length:Int)≤i
    ·have c1:¬(0≤i∧i<((if true=true then o.data.length else o.refs.length:Nat):Int)):=by simp;omega
     rw[if_neg c1]
     simp(disch:=first|exact dz|fail) only[simprocAttr,Gc,↓reduceIte,GJ,h1,h,w1,w2,w3,q2,Jm q1,hs,c0,c2,decide_true,decide_false]
    ·have c1:(0≤i∧i<((if true=true then o.data.length else o.refs.length:Nat):Int)):=by simp;omega
     rw[if_pos c1]
     have w4:IntKind.i64.wrap ((o.addr:Int)+2+(o.refs.length:Int)+i)=(o.addr:Int)+2+(o.refs.length:Int)+i:=Gh oM
     simp(disch:=first|exact dz|fail) only[simprocAttr,Gc,↓reduceIte,GJ,h1,h,w1,w2,w3,w4,q2,Jm q1,hs,c0,c2,decide_true,decide_false]
     all_goals simp
theorem KF(p:PH H hb s L)(k:s.Ok)(a i:Int)(ha:a≤9223372036854775807):∃H',run P 76 [.ptr hb 0,.i a,.i i] H=some (Uj (s.Jq a i),H')∧Gr H H':=by
 obtain⟨H',h1,g⟩:=Yw p k a i false ha
 have p':=p.gr g
 refine⟨H',?_,g⟩
 unfold Hp.fieldAt Uj at h1
 unfold Hp.Jq Uj
 rw[Gi c76 _ _ sM]
 cases e:s.obj a with
 |none=>
  rw[e]at h1
  simp(disch:=first|exact dz|fail) only[simprocAttr,Gc,↓reduceIte,G8,h1]
 |some o=>
  rw[e]at h1
  dsimp only at h1⊢
  obtain⟨ho,rfl⟩:=Hp.Jy e
  have hif:(if false=true then o.data.length else o.refs.length)=o.refs.length:=rfl
  have Gaq:(if false=true then o.refs.length else 0)=0:=rfl
  rw[hif,Gaq]at h1
  by_cases c:0≤i∧i<(o.refs.length:Int)
  ·rw[if_pos c]at h1⊢
   obtain⟨n,rfl⟩:∃n:Nat,i=n:=⟨i.toNat,oM⟩
   have hsz:2+n<o.size:=by unfold Ob.size G7;omega
   obtain⟨q1,q2,q3⟩:=Uk p' k ho (j:=2+n) hsz
   rw[o.Geh oM]at q1
   have h:=p'.top
   have e2:(o.addr:Int)+2+((0:Nat):Int)+(n:Int)=((o.addr+(2+n):Nat):Int):=by omega
   rw[e2]at h1
   simp(disch:=first|exact dz|fail) only[simprocAttr,Gc,↓reduceIte,G8,h1,h,q2,Jm q1]
  ·rw[if_neg c]at h1⊢
   simp(disch:=first|exact dz|fail) only[simprocAttr,Gc,↓reduceIte,G8,h1]
theorem EW(p:PH H hb s L)(k:s.Ok)(a i:Int)(ha:a≤9223372036854775807):∃H',run P 77 [.ptr hb 0,.i a,.i i] H=some (Uj (s.Kh a i),H')∧Gr H H':=by
 obtain⟨H',h1,g⟩:=Yw p k a i true ha
 have p':=p.gr g
 refine⟨H',?_,g⟩
 unfold Hp.fieldAt Uj at h1
 unfold Hp.Kh Uj
 rw[Gi c77 _ _ sM]
 cases e:s.obj a with
 |none=>
  rw[e]at h1
  simp(disch:=first|exact dz|fail) only[simprocAttr,Gc,↓reduceIte,G8,h1]
 |some o=>
  rw[e]at h1
  dsimp only at h1⊢
  obtain⟨ho,rfl⟩:=Hp.Jy e
  have hif:(if true=true then o.data.length else o.refs.length)=o.data.length:=rfl
  have Gaq:(if true=true then o.refs.length else 0)=o.refs.length:=rfl
  rw[hif,Gaq]at h1
  by_cases c:0≤i∧i<(o.data.length:Int)
  ·rw[if_pos c]at h1⊢
   obtain⟨n,rfl⟩:∃n:Nat,i=n:=⟨i.toNat,oM⟩
   have hsz:2+o.refs.length+n<o.size:=by unfold Ob.size G7;omega
   obtain⟨q1,q2,q3⟩:=Uk p' k ho (j:=2+o.refs.length+n) hsz
   rw[o.GcJ oM]at q1
   have h:=p'.top
   have e2:(o.addr:Int)+2+(o.refs.length:Int)+(n:Int)=((o.addr+(2+o.refs.length+n):Nat):Int):=by omega
   rw[e2]at h1
   simp(disch:=first|exact dz|fail) only[simprocAttr,Gc,↓reduceIte,G8,h1,h,q2,Jm q1]
  ·rw[if_neg c]at h1⊢
   simp(disch:=first|exact dz|fail) only[simprocAttr,Gc,↓reduceIte,G8,h1]
theorem Ir(p:PH H hb s L)(k:s.Ok)(a:Int)(ha:a≤9223372036854775807):run P 35 [.ptr hb 0,.i a] H=some (Uj (s.U6 a),H):=by
 have h1:=Un p k a ha
 unfold Hp.U6 Uj
 rw[Gi c35 _ _ sM]
 cases e:s.obj a with
 |none=>
  rw[Hp.Nl.2 e]at h1
  simp(disch:=first|exact dz|fail) only[simprocAttr,Gc,↓reduceIte,Gj,h1,Bool.false_eq_true]
 |some o=>
  obtain⟨ho,rfl⟩:=Hp.Jy e
  rw[Hp.J8.2 ⟨o,e⟩]at h1
  obtain⟨q1,q2,q3⟩:=Uk p k ho (j:=0) (by have:=o.size_pos;omega)
  have q4:o.cell 0=(o.id:Int):=rfl
  rw[q4]at q1
  rw[Nat.add_zero]at q1 q2
  have h:=p.top
  simp(disch:=first|exact dz|fail) only[simprocAttr,Gc,↓reduceIte,Gj,h1,h,q2,Jm q1]
theorem Tc(p:PH H hb s L)(k:s.Ok)(a:Int)(ha:a≤9223372036854775807):run P 74 [.ptr hb 0,.i a] H=some (.bool (s.pinnedAt a),H):=by
 have h1:=QA p k a ha
 unfold Hp.pinnedAt
 rw[Gi c74 _ _ sM]
 cases e:s.obj a with
 |none=>
  rw[Hp.Nl.2 e]at h1
  simp(disch:=first|exact dz|fail) only[simprocAttr,Gc,↓reduceIte,Gj,h1,Bool.false_eq_true]
 |some o=>
  obtain⟨ho,rfl⟩:=Hp.Jy e
  rw[Hp.J8.2 ⟨o,e⟩]at h1
  have h:=p.top
  have hd:(o.addr:Int).tdiv 2=((o.addr/2:Nat):Int):=KT o.addr 2
  have hf:=(k.ob o ho).fits
  have he:=(k.ob o ho).even
  have hz:=o.size_pos
  have hn:=k.nb
  unfold Hp.nw at hf
  have hw:IntKind.i64.wrap ((o.addr/2:Nat):Int)=((o.addr/2:Nat):Int):=Gh oM
  have hg:=TJ p.pin ((o.addr/2:Nat):Int)
  have tn:(((o.addr/2:Nat):Int)).toNat=o.addr/2:=by omega
  rw[if_pos oM,tn]at hg
  have hp:s.pins (o.addr/2)=o.pin:=by
   unfold Hp.pins
   rw[Bool.eq_iff_iff,List.any_eq_true]
   constructor
   ·rintro ⟨x,hx,hh⟩
    simp only[JQ,beq_iff_eq]at hh
    have:=x.size_pos
    have:x=o:=k.same hx ho (w:=o.addr) oM oM
    rw[←this];exact hh.2
   ·intro hh
    exact⟨o,ho,by simp only[JQ,beq_iff_eq];exact⟨oM,hh⟩⟩
  rw[hp]at hg
  have e2:(Ep o.pin==1)=o.pin:=by cases o.pin<;>rfl
  simp(disch:=first|exact dz|fail) only[simprocAttr,Gc,↓reduceIte,Gj,h1,h,hd,hw,hg,GH,e2]
end
end Go.Cs.Tryz
namespace Go.Cs
open Go
section
variable {o : Tags} {g : Nat} {H H' : Gb} {b : Nat} {M : Mdl} {L : Lay}
def Tags.put(o:Tags)(c:Nat)(t:Tag):Tags:=fun d=>if d=c then some t else o d
theorem Tags.put_eq{o:Tags}{c:Nat}{t:Tag}:o.put c t c=some t:=by simp[Tags.put]
theorem Tags.GY{o:Tags}{c d:Nat}{t:Tag}(h:d≠c):o.put c t d=o d:=by simp[Tags.put,h]
end
end Go.Cs
namespace Go.Cs
open Go
def Loc(k:Nat):Tags:=fun c=>if k≤c then some (0,0,0)else none
abbrev z3:Tag:=(0,0,0)
theorem Gn{k c:Nat}{t:Tag}:Loc k c=some t↔k≤c∧t=z3:=by
 unfold Loc
 split
 ·simp only[Gx];constructor
  ·intro h;exact⟨by assumption,h.symm⟩
  ·intro h;exact h.2.symm
 ·simp;omega
theorem At.adopt{k e n:Nat}{H:Gb}{v:CV}{cs:List CV}{o:Tags}{t:Tag}(h:At (Loc k) z3 H v e n cs)(ho:∀d s,o d=some s→d<k):
  ∃o':Tags,(∀d,d<k→o' d=o d)∧(∀d s,o' d=some s→k≤d→s=t∧d<H.length)∧At o' t H v e n cs:=by
 rcases h with h|⟨b,tl,rfl,h1,h2,h3⟩
 ·exact⟨o,fun _ _=>rfl,fun d s h1 h2=>by have:=ho d s h1;omega,.inl h⟩
 ·have hb:=(Gn.1 h1).1
  refine⟨o.put b t,fun d hd=>Tags.GY oM,fun d s h4 h5=>?_,.inr ⟨b,tl,rfl,Tags.put_eq,h2,h3⟩⟩
  by_cases e:d=b
  ·subst e
   rw[Tags.put_eq]at h4
   simp only[Gx]at h4
   exact⟨h4.symm,Gd h2⟩
  ·rw[Tags.GY e]at h4
   have:=ho d s h4;omega
end Go.Cs
namespace Go.Cs.Tryz
open Go Go.Cs A
def C73:Gm:=⟨13,0,T [e 2 (.K7 (c .Gf))] (S (T [m 3 0,q1 4 95 3,no 5 4] (I 5 (Q [e 2 (.K7 (c .Gf))]))) (Q [m 6 0,m 7 0,z 8 7,f 9 1 8,l 10 1 9,le 11 10,ca 12 170 [t 6,k 0,t 11],m 2 12])),[r 2]⟩
theorem c73:P 73=some C73:=by kernel_rfl
def BP:Gu:=S (T [m 20 9,bk 21 .eql 20 0,m 22 21,gt 22 (m 23 8),gt 22 (e 24 (.bin .mul (k 2) (t 23))),gt 22 (m 25 2),gt 22 (b 26 .lss 24 25),an 27 22 26] (J 27 (X 0))) (S (B 1 (R [m 38 7,m 39 8,e 40 (.bin .mul (k 2) (t 39)),e 41 (.buildSlice 1 [i 0] 1 [(0,1,t 40)]),ap 42 1 38 41,m 7 42])) (R [m 29 0,z 30 29,f 31 2 30,l 32 1 31,m 33 8,bk 34 .add 33 1,ca 35 247 [t 32,t 34,k 1],m 28 35,ex 36 28 0,ex 37 28 1,m 8 36,m 9 37]))
def GoD:Gm:=⟨44,0,T [e 6 (.K7 (c .Gf))] (T [e 7 (.K7 (c .Gf))] (S (T [m 11 0,z 12 11,f 13 2 12,l 14 1 13,m 15 1,bk 16 .quo 15 2,ca 17 247 [t 14,t 16,k 1],m 10 17,ex 18 10 0,ex 19 10 1,m 8 18,m 9 19] (B 0 (W BP))) (Q [m 43 7,m 6 43]))),[r 6]⟩
theorem GnI:P 170=some GoD:=by kernel_rfl
end Go.Cs.Tryz
