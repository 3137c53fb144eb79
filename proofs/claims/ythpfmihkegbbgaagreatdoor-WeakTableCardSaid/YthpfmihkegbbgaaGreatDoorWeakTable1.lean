/- A part of the proof: WeakTable returns true for every input: Get after Put is the value, and changes no other key; Remove takes one entry out; Entries are just those that were put and not removed (P19.3, P19.7). At most 40 rows Conditions: none. -/
import Derived.Test.YthpfmihkegbbgaaGreatDoorWeakTable0
import Derived.Maps.RangeRun
import Derived.Sort.Grow
import Derived.Carry
import Derived.OpenShut
import Derived.Deep.Slices
import Derived.Test.YthpfmihkegbbgaaGreatDoorProg
import Derived.KernelRfl
set_option linter.unusedVariables false
set_option linter.unusedSimpArgs false
set_option linter.defProp false
set_option maxRecDepth 100000
namespace Go.Cs
open Go Go.RowKit
def XR:CX→Exit→Prop
 |.normal,x=>x=.normal
 |.exit id,x=>x=.exit id
 |.ret,x=>x=.ret
def Marks(K:Nat→Option Obj)(B:Bs)(K':Nat→Option Obj)(D:List Deferred):Prop:=
 ∃rs:List Nat,D=rs.map (fun r=>{target:=.collected r,args:=#[]})∧rs.Nodup∧∀r∈rs,K' r=some (.deferred (some []))∧K r=none∧B.heap.size≤r
def Lb(K K':Nat→Option Obj):Prop:=∀c o,K c=some o→K' c=some o
def CQ(top:Bool)(D0:List Deferred)(K0:Nat→Option Obj)(B:Bs)(L N:Nat)(H:Gb)(ν:Mu)(r:CX×Env×Gb):Exit→Act→World→Prop:=
 fun x a w=>∃ν' K D,XR r.1 x∧St K B L ν' r.2.2 w∧ER D ν' N r.2.1 a∧Ext L H ν r.2.2 ν'∧Lb K0 K∧Marks K0 B K D∧(top=false→D=D0)
section
variable {P : Program} {F : Jl} {K K0 : Nat → Option Obj} {B : Bs} {L N : Nat} {rd : Option Nat} {dp : Nat} {D D0 : List Deferred} {top : Bool}
theorem CQ.later{H H1:Gb}{ν ν1:Mu}{r:CX×Env×Gb}(h:Ext L H ν H1 ν1){x:Exit}{a:Act}{w:World}(hq:CQ top D0 K B L N H1 ν1 r x a w):CQ top D0 K B L N H ν r x a w:=by
 obtain⟨ν',K',D,h1,h2,h3,h4,h5⟩:=hq
 exact⟨ν',K',D,h1,h2,h3,h.trans h4,h5⟩
theorem GcX(hF:Ev P F)(hBr:TR P B)(Vz:Y8 F)(hK:Lb K0 K)(hM:Marks K0 B K D)(hD:top=false→D=D0){ops:Array Oper}:∀(l:List Nat)(ss:List GR),ss.length=l.length→(∀(q:Nat)(i:Nat)(s:GR),l[q]?=some i→ss[q]?=some s→∃o,ops[i]?=some o∧Ni P N ops o=some s)→
  ∀(E:Env)(H:Gb)(ν:Mu)(a:Act)(w:World)(r:Env×Gb),Kv F ss E H=some r→r.2.length≤L→St K B L ν H w→ER D ν N E a→
  wpOpsIn (Fr rd) dp P ops (CQ top D0 K0 B L N H ν (.normal,r.1,r.2)) l a w
 |[],[],_,_,E,H,ν,a,w,r,he,_,hS,hR=>by
  simp only[Kv,GA]at he
  subst he
  exact⟨ν,K,D,rfl,hS,hR,Ext.refl _ _ _,hK,hM,hD⟩
 |i::l,s::ss,hl,hs,E,H,ν,a,w,r,he,hL,hS,hR=>by
  obtain⟨o,ho,hc⟩:=hs 0 i s rfl rfl
  have ih:=GcX hF hBr Vz hK hM hD (ops:=ops) l ss (by simpa using hl) (fun q j t h1 h2=>hs (q+1) j t (by simpa using h1) (by simpa using h2))
  simp only[Kv,Jt]at he
  obtain⟨⟨E1,H1⟩,he1,he2⟩:=he
  obtain⟨g,op,hg,hop,hd,rfl⟩:=QF hc
  rw[wpOpsIn_cons]
  unfold wpOpIn
  simp only[ho]
  rw[MX hg hR]
  unfold QH at he1
  dsimp only at he1
  split at he1
  ·rename_i hw
   rw[if_pos hw]
   rw[GJ]at he1
   obtain⟨v,hv,he1⟩:=he1
   simp only[Prod.mk.injEq]at he1
   obtain⟨rfl,rfl⟩:=he1
   refine Gcj hF hBr hS hop (fun t _=>hR.val t) hv (Jm (UZ Vz he2) hL) _ _ fun v' w' ν' hS' hV' hx'=>?_
   have hm:=hx'.mono hS
   refine Mj ?_ _ _ _ (ih _ _ ν' _ w' r he2 hL hS' ((hR.mono hm).put hd hV'))
   exact fun x a w hq=>CQ.later hx' hq
  ·rename_i hw
   rw[if_neg hw]
   simp only[GA,Prod.mk.injEq]at he1
   obtain⟨rfl,rfl⟩:=he1
   exact⟨fun _ _=>trivial,ih _ _ ν _ w r he2 hL hS (hR.put hd (by simp[V,VL,undef]))⟩
 |[],_::_,hl,_,_,_,_,_,_,_,_,_,_,_=>by simp at hl
 |_::_,[],hl,_,_,_,_,_,_,_,_,_,_,_=>by simp at hl
theorem Gb8(hF:Ev P F)(hBr:TR P B)(Vz:Y8 F)(hK:Lb K0 K)(hM:Marks K0 B K D)(hD:top=false→D=D0){id:Nat}{ops:Array Oper}{ss:List GR}(hc:J3 (ops.toList.map (Ni P N ops))=some ss){E:Env}{H:Gb}{ν:Mu}{a:Act}{w:World}{r:Env×Gb}(he:Kv F ss E H=some r)(hL:r.2.length≤L)
  (hS:St K B L ν H w)(hR:ER D ν N E a):(Code.region id ops false).wpIn (Fr rd) dp P (CQ top D0 K0 B L N H ν (.normal,r.1,r.2)) a w:=by
 refine wpIn_region (GcX hF hBr Vz hK hM hD (List.range ops.size) ss (by simp[Kt hc]) (fun q i s h1 h2=>?_) E H ν a w r he hL hS hR)
 have hx:=KW hc h2
 grind
theorem least{p:Nat→Prop}(h:∃n,p n):∃n,p n∧∀m,p m→n≤m:=by
 obtain⟨n,hn⟩:=h
 induction n using Nat.strongRecOn with
 |_ n ih=>
  grind
def Hg(P:Program)(f N:Nat)(c:Code)(k:Nat):Prop:=∀i x,(roundsIn c)[i]?=some x→k+i<16→∃fn,VK P ((f*16+(k+i))*2)=some (f,fn,x)∧fn.ntmps=N
theorem Hg.left{f:Nat}{c x y:Code}{k:Nat}(h:Hg P f N c k)(e:roundsIn c=roundsIn x++roundsIn y):Hg P f N x k:=fun i q hi hk=>
 h i q (by grind) hk
theorem Hg.right{f:Nat}{c x y:Code}{k:Nat}(h:Hg P f N c k)(e:roundsIn c=roundsIn x++roundsIn y):Hg P f N y (k+(roundsIn x).length):=fun i q hi hk=>by
 have:=h ((roundsIn x).length+i) q (by grind) oM
 grind
theorem Lb.refl(K:Nat→Option Obj):Lb K K:=fun _ _ h=>h
theorem Lb.trans{K1 K2 K3:Nat→Option Obj}(h:Lb K1 K2)(k:Lb K2 K3):Lb K1 K3:=fun c o e=>k c o (h c o e)
theorem Lb.none{K1 K2:Nat→Option Obj}(h:Lb K1 K2){c:Nat}(e:K2 c=none):K1 c=none:=by
 cases hk:K1 c with
 |none=>rfl
 |some o=>rw[h c o hk]at e;cases e
theorem JX.less{μ:Mu}{H:Gb}{w:World}(h:JX K B μ H w)(hk:Lb K0 K):JX K0 B μ H w:=
 ⟨h.base,fun c o e=>h.kept c o (hk c o e),fun b blk m h1 h2 h3 h4=>by
  obtain⟨arr,T,fz,e1,e2,e3,e4⟩:=h.blk b blk m h1 h2 h3 h4
  exact⟨arr,T,fz,e1,e2,fun e=>by obtain⟨c1,c2,c3,c4,c5,c6⟩:=e3 e;exact⟨c1,c2,c3,c4,c5,hk.none c6⟩,e4⟩,
  h.inj,fun b blk m h1 h2 h3=>by obtain⟨ob,e1,e2,e3,e4⟩:=h.mp b blk m h1 h2 h3;exact⟨ob,e1,e2,e3,hk.none e4⟩⟩
theorem St.enter{ν:Mu}{H:Gb}{w:World}(hS:St K B L ν H w)(hL:H.length<L){k:JD}(hk:k.mode=.map){r:Loop}(hr:∀ν',(∀b m,ν b=some m→ν' b=some m)→Eo B ν' k r):
  ∃ν',St (fun c=>if c=w.heap.size then some (.deferred (some []))else K c) B L ν' (H++[k]) ((w.alloc (.deferred (some []))).alloc (.loop r))∧Ext L H ν (H++[k]) ν'∧ν' H.length=some ⟨w.heap.size+1,0,k.Jd,0⟩:=by
 have h1:=hS.Nj.alloc (.deferred (some []))
 have hsz:(w.alloc (.deferred (some []))).heap.size=w.heap.size+1:=World.size_alloc _ _
 have hmono:∀b m,ν b=some m→(ν.set H.length ⟨w.heap.size+1,0,k.Jd,0⟩) b=some m:=by
  intro b m hm
  have hb:b≠H.length:=fun e=>by rw[e,hS.dom _ (Nat.le_refl _) hL]at hm;cases hm
  rw[Mu.J4 _ _ hb];exact hm
 have h2:=h1.congr (ν:=ν.set H.length ⟨w.heap.size+1,0,k.Jd,0⟩) (fun b hb=>Mu.J4 _ _ oM) hmono
 have h3:=h2.newObj (e:=k.Jd) (z:=0) (by rw[hsz];exact Mu.set_self _ _ _) (by
  rw[hsz,if_neg oM]
  cases hk:K (w.heap.size+1)with
  |none=>rfl
  |some o=>have:=(Vj.1 (hS.Nj.kept _ _ hk)).1;omega) hk (x:=.loop r) (.inr ⟨r,rfl,hr _ hmono⟩)
 exact⟨_,⟨h3,fun b hb hl=>by simp at hb;rw[Mu.J4 _ _ oM];exact hS.dom b oM hl⟩,⟨sM,fun b hb=>Mu.J4 _ _ oM,fun b hb=>Mu.J4 _ _ oM⟩,Mu.set_self _ _ _⟩
theorem JX.shut{μ:Mu}{H:Gb}{w:World}(h:JX K B μ H w){b:Nat}{k:JD}{m:ZF}(hb:H[b]?=some k) (hk:k.mode=.map) (hm:μ b=some m) (x:Obj):JX K B μ (H.set b ⟨[],.dead,0⟩) (w.putObj m.c x):=by
 obtain⟨ob,hw,VN,hB,hK⟩:=h.mp b k m hb hk hm
 have hlt:=(Vj.1 hw).1
 have Sa:∀{c:Nat},c≠m.c→(w.heap.setIfInBounds m.c x)[c]?=w.heap[c]?:=fun hc=>by simp[Ne.symm hc]
 have get:∀{b':Nat}{k':JD},(H.set b ⟨[],.dead,0⟩)[b']?=some k'→k'.mode≠.dead→b'≠b∧H[b']?=some k':=by
  grind
 refine⟨h.base.trans ⟨rfl,rfl,rfl,by simp[World.putObj],fun q hq=>Sa oM⟩,fun c o hc=>?_,fun b' k' m' hb' hd hd' hm'=>?_,fun b1 b2 k1 k2 m1 m2 h1 h2 r1 r2 hne e1 e2=>?_,fun b' k' m' hb' hd hm'=>?_⟩
 ·have hne:c≠m.c:=fun e=>by rw[e,hK]at hc;cases hc
  exact(Sa hne).trans (h.kept c o hc)
 ·obtain⟨hbb,hb'⟩:=get hb' hd
  obtain⟨arr,T,fz,e1,e2⟩:=h.blk b' k' m' hb' hd hd' hm'
  exact⟨arr,T,fz,(Sa (Ne.symm (h.inj b b' k k' m m' hb hb' (.inr hk) hd (Ne.symm hbb) hm hm'))).trans e1,e2⟩
 ·obtain⟨g1,h1⟩:=get h1 (by grind)
  obtain⟨g2,h2⟩:=get h2 r2
  exact h.inj b1 b2 k1 k2 m1 m2 h1 h2 r1 r2 hne e1 e2
 ·obtain⟨hbb,hb'⟩:=get hb' (by rw[hd];decide)
  obtain⟨ob',e1,e2⟩:=h.mp b' k' m' hb' hd hm'
  exact⟨ob',(Sa (Ne.symm (h.inj b b' k k' m m' hb hb' (.inr hk) (by rw[hd];decide) (Ne.symm hbb) hm hm'))).trans e1,e2⟩
theorem StR.leaves{s:Int}{r:Loop}(h:StR s r)(h1:s≠1):r.state≠.busy∧((s=0∧r.pending=none)∨(s=2∧r.pending=some .ret)∨∃id:Nat,s=id+3∧r.pending=some (.exit id)):=by
 rcases h with⟨e,h2,h3⟩|e|⟨e,h2,h3⟩|⟨id,e,h2,h3⟩
 ·grind
 ·exact absurd e h1
 ·grind
 grind
theorem ZX(hm:P.follows .mixedOrders=true)(hBr:TR P B){f:Nat}{top:Bool}(htop:top=true→rd=none){D0:List Deferred}:∀(n:Nat),(∀k,k<n→Ev P (Kn (Kb P) k))→∀(c:Code)(k:Nat)(cc:Gq)(E:Env)(H:Gb)(r:CX×Env×Gb),Ju P f N top k c=some cc→(top=true→Hg P f N c k)→ev (Kb P) n cc E H=some r→r.2.2.length≤L→
  ∀(K:Nat→Option Obj)(D:List Deferred)(ν:Mu)(a:Act)(w:World),Lb K0 K→Marks K0 B K D→(top=false→D=D0)→St K B L ν H w→ER D ν N E a→c.wpIn (Fr rd) dp P (fun x a w=>∃ν' K' D',XR r.1 x∧St K' B L ν' r.2.2 w∧ER D' ν' N r.2.1 a∧Ext L H ν r.2.2 ν'∧Lb K0 K'∧Marks K0 B K' D'∧(top=false→D'=D0)) a w
 |0,_,_,_,_,_,_,_,_,_,he,_,_,_,_,_,_,_,_,_,_,_=>by cases he
 |n+1,hF,c,k,cc,E,H,r,hc,hrn,he,hL,K,D,ν,a,w,hK,hM,hD,hS,hR=>by
  have ih:=ZX hm hBr (f:=f) htop (D0:=D0) n (fun k hk=>hF k oM)
  have hFn:=hF n oM
  rw[KN]at he
  cases c with
  |skip=>
   simp only[Ju,GA]at hc;subst hc
   simp only[GA]at he;subst he
   exact wpIn_skip ⟨ν,K,D,rfl,hS,hR,Ext.refl _ _ _,hK,hM,hD⟩
  |region id ops draw=>
   simp only[Ju,Jt]at hc
   obtain⟨ss,hss,hc⟩:=hc
   cases draw with
   |false=>
    simp only[Bool.false_eq_true,if_false,GA]at hc;subst hc
    rw[GJ]at he
    obtain⟨q,hq,rfl⟩:=he
    exact wpIn_mono (Gb8 hFn hBr (Ua _ n) hK hM (fun h=>hD h) hss hq hL hS hR) fun x a w h=>h
   |true=>
    simp only[if_true]at hc
    obtain⟨hok,hc⟩:=GU hc
    simp only[GA]at hc;subst hc
    rw[GJ]at he
    obtain⟨q,hq,rfl⟩:=he
    refine wpIn_mono (XE hm hFn hBr (Ua _ n) hss ⟨_,rfl⟩ hok hq hL hS hR) fun x a w hq=>?_
    obtain⟨ν',rfl,h1,h2,h3⟩:=hq
    exact⟨ν',K,D,rfl,h1,h2,h3,hK,hM,hD⟩
  |seq x y=>
   simp only[Ju,Jt,GJ]at hc
   obtain⟨x',hx,y',hy,rfl⟩:=hc
   rw[Jt]at he
   obtain⟨q,hq,he⟩:=he
   have hqL:q.2.2.length≤L:=by
    split at he
    ·exact Jm (Ke _ n he) hL
    grind
   refine wpIn_seq (wpIn_mono (ih x k x' E H q hx (fun h=>(hrn h).left rfl) hq hqL K D ν a w hK hM hD hS hR) fun e a1 w1 h1=>?_)
   obtain⟨ν1,K1,D1,hx1,hS1,Sg,hE1,hK1,hM1,hD1⟩:=h1
   obtain⟨cx,E1,H1⟩:=q
   cases cx with
   |normal=>
    simp only[XR]at hx1;subst hx1
    refine wpIn_mono (ih y _ y' E1 H1 r hy (fun h=>(hrn h).right rfl) he hL K1 D1 ν1 a1 w1 hK1 hM1 hD1 hS1 Sg) fun e a2 w2 h2=>?_
    obtain⟨ν2,K2,D2,g1,g2,g3,g4,g5⟩:=h2
    exact⟨ν2,K2,D2,g1,g2,g3,hE1.trans g4,g5⟩
   |exit id=>
    simp only[GA]at he;subst he
    simp only[XR]at hx1;subst hx1
    exact⟨ν1,K1,D1,rfl,hS1,Sg,hE1,hK1,hM1,hD1⟩
   |ret=>
    simp only[GA]at he;subst he
    simp only[XR]at hx1;subst hx1
    exact⟨ν1,K1,D1,rfl,hS1,Sg,hE1,hK1,hM1,hD1⟩
  |cond c x y=>
   simp only[Ju,Jt,GJ]at hc
   obtain⟨c',hcc,x',hx,y',hy,rfl⟩:=hc
   dsimp only at he
   split at he
   ·rename_i t ht
    have h1:=Ji hcc (fun t _=>hR.val t)
    rw[ht]at h1
    simp only[V]at h1
    refine wpIn_cond h1 ?_
    cases t with
    |true=>exact ih x _ x' E H r hx (fun h=>(hrn h).left rfl) he hL K D ν a w hK hM hD hS hR
    |false=>exact ih y _ y' E H r hy (fun h=>(hrn h).right rfl) he hL K D ν a w hK hM hD hS hR
   ·cases he
  |block id c=>
   simp only[Ju,GJ]at hc
   obtain⟨c',hcc,rfl⟩:=hc
   rw[GJ]at he
   obtain⟨q,hq,rfl⟩:=he
   refine wpIn_block (wpIn_mono (ih c _ c' E H q hcc (fun h=>hrn h) hq hL K D ν a w hK hM hD hS hR) fun e a1 w1 h1=>?_)
   obtain⟨ν1,K1,D1,hx1,hr1⟩:=h1
   obtain⟨cx,E1,H1⟩:=q
   cases cx with
   |normal=>simp only[XR]at hx1;subst hx1;exact⟨ν1,K1,D1,rfl,hr1⟩
   |exit id'=>
    simp only[XR]at hx1;subst hx1
    by_cases hid:id'=id
    ·simp only[Exit.inBlock,hid,if_true];exact⟨ν1,K1,D1,by simp[CX.inBlock,XR],hr1⟩
    ·simp only[Exit.inBlock,hid,if_false];exact⟨ν1,K1,D1,by simp[CX.inBlock,XR,hid],hr1⟩
   |ret=>simp only[XR]at hx1;subst hx1;exact⟨ν1,K1,D1,rfl,hr1⟩
  |loop c=>
   have hc0:=hc
   simp only[Ju,GJ]at hc
   obtain⟨c',hcc,rfl⟩:=hc
   let J:Nat→Act→World→Prop:=fun m a w=>m≤n+1∧∃E H1 ν1 K1 D1,ev (Kb P) m (.loop c') E H1=some r∧St K1 B L ν1 H1 w∧ER D1 ν1 N E a∧Ext L H ν H1 ν1∧Lb K0 K1∧Marks K0 B K1 D1∧(top=false→D1=D0)
   classical
   refine wpIn_loop (fun a w=>∃m,J m a w) (fun a w=>if h:∃m,J m a w then(least h).choose else 0) ⟨n+1,Nat.le_refl _,E,H,ν,K,D,by rw[KN];exact he,hS,hR,Ext.refl _ _ _,hK,hM,hD⟩ fun a1 w1 hI=>?_
   rw[dif_pos hI]
   obtain⟨hle,E1,H1,ν1,K1,D1,hev,hS1,Sg,hE1,hK1,hM1,hD1⟩:=(least hI).choose_spec.1
   generalize (least hI).choose=m at*
   cases m with
   |zero=>cases hev
   |succ m=>
    rw[KN]at hev
    dsimp only at hev
    rw[Jt]at hev
    obtain⟨q,hq,hev⟩:=hev
    have hq':=Yy (Kb P) (show m≤n by omega) c' E1 H1 q hq
    have hqL:q.2.2.length≤L:=by
     split at hev
     ·exact Jm (Ke _ m hev) hL
     grind
    refine wpIn_mono (ih c _ c' E1 H1 q hcc (fun h=>hrn h) hq' hqL K1 D1 ν1 a1 w1 hK1 hM1 hD1 hS1 Sg) fun e a2 w2 h2=>?_
    obtain⟨ν2,K2,D2,hx2,hS2,hR2,hE2,hK2,hM2,hD2⟩:=h2
    obtain⟨cx,E2,H2⟩:=q
    cases cx with
    |normal=>
     simp only[XR]at hx2;subst hx2
     have hJ:J m a2 w2:=⟨oM,E2,H2,ν2,K2,D2,hev,hS2,hR2,hE1.trans hE2,hK2,hM2,hD2⟩
     refine⟨⟨m,hJ⟩,?_⟩
     rw[dif_pos ⟨m,hJ⟩]
     grind
    |exit id=>
     simp only[GA]at hev;subst hev
     simp only[XR]at hx2;subst hx2
     exact⟨ν2,K2,D2,rfl,hS2,hR2,hE1.trans hE2,hK2,hM2,hD2⟩
    |ret=>
     simp only[GA]at hev;subst hev
     simp only[XR]at hx2;subst hx2
     exact⟨ν2,K2,D2,rfl,hS2,hR2,hE1.trans hE2,hK2,hM2,hD2⟩
  |rangeFunc g ps x y=>
   simp only[Ju,Jt]at hc
   obtain⟨g',hg,hc⟩:=hc
   obtain⟨hgd,hc⟩:=GU hc
   simp only[GA]at hc;subst hc
   simp only[Qj,decide_eq_true_eq,List.all_eq_true]at hgd
   obtain⟨⟨ht,Gzg⟩,hps⟩:=hgd
   have hrd:=htop ht
   subst hrd
   obtain⟨fn,hat,hnt⟩:=hrn ht 0 (ps,x,y) rfl oM
   simp only[Nat.add_zero]at hat
   have hrnd:Wx P (Rx f k) N f ps x y:=⟨by unfold Rx;omega,hps,f,fn,hat,hnt⟩
   dsimp only at he
   rw[Jt]at he
   obtain⟨q,hq,he⟩:=he
   have hgv:=Ji hg (fun t _=>hR.val t)
   unfold N7 at hq
   split at hq
   case h_2=>cases hq
   rename_i gf caps hgc
   split at hq
   case isFalse=>cases hq
   rename_i hgf
   rw[hgc]at hgv
   simp only[V]at hgv
   obtain⟨lb,hge,hlb⟩:=hgv
   obtain⟨hl1,hl2⟩:=Zg he
   obtain⟨hq1,hq2,-⟩:=hFn _ _ _ _ hq
   obtain⟨⟨gfn,e1,e2,e3⟩,GbY⟩:=hq2 hgf
   simp only[QU,List.length_singleton]at hq1
   have Gll:((List.range N).map E).length=N:=by simp
   refine wpIn_rangeFunc fun f0 _=>?_
   obtain⟨ν1,hS1,hE1,hν1⟩:=hS.enter (k:=Je 0 (ps.toList.map fun(t:Nat)=>CV.i (t:Int)) ((List.range N).map E) (Rx f k)) oM rfl
    (r:={state:=.ready,pending:=none,fn:=f0,tmps:=a.tmps,params:=ps,assign:=x,body:=y,defers:=w.heap.size})
    (fun ν' hmono=>⟨0,(List.range N).map E,Rx f k,rfl,.inl ⟨rfl,rfl,rfl⟩,fun t=>by
     rw[WE]
     rcases Yg t N with h|h
     ·rw[K4,Sw h];exact V.mono hmono _ _ (hR.val t)
     ·rw[lX9 (by rw[Gll];exact h)]
      have:=hR.val t
      rw[hR.top t h]at this
      exact V.mono hmono _ _ this,by rw[Gll];exact hR.size,by rw[Gll,hBr.rnd];exact hrnd⟩)
   have hfree:=hS.Nj.free
   have GlY:=hE1.mono hS
   have hen:=run_enterLoop_outer (P:=P) (w:=w) f0 a.tmps ps x y
   generalize (w.alloc (.deferred (some []))).alloc (.loop {state:=.ready,pending:=none,fn:=f0,tmps:=a.tmps,params:=ps,assign:=x,body:=y,defers:=w.heap.size})=W1 at hen hS1
   refine⟨_,_,W1,{target:=.fn (.func gf) lb,args:=#[.func (.yield (w.heap.size+1)) #[] #[]]},W1,gf,#[.func (.yield (w.heap.size+1)) #[] #[]]++lb,W1,hen,?_,fun _ _=>trivial,?_,Me,?_⟩
   ·simp only[resolve,hge]
    simp[go_sem]
   ·simp[invoke,go_sem,Qa e1 e2 e3]
   have hcl:=GbY _ B L ν1 _ (#[.func (.yield (w.heap.size+1)) #[] #[]]++lb) hBr oM hS1 (by
    rw[Array.toList_append]
    simp only[VL,V,List.cons_append,List.nil_append]
    exact⟨_,_,rfl,⟨_,hν1,rfl⟩,VL.mono GlY _ _ hlb⟩)
   have hci:CallsIn Fence.wide (dp-1) P gf (#[.func (.yield (w.heap.size+1)) #[] #[]]++lb) _ _:=callsIn_wide.2 hcl
   refine CallsIn.mono (show CallsIn (Fr none) (dp-1) P gf _ _ _ from hci) fun e w2 hx=>?_
   obtain⟨v',ν2,rfl,hS2,-,hE2⟩:=hx
   have hm2:ν2 H.length=some ⟨w.heap.size+1,0,Rx f k+1,0⟩:=by rw[hE2.same _ sM];exact hν1
   obtain⟨q1,qH⟩:=q
   unfold U2 at he
   simp only at he hq1 hl1 hS2
   split at he
   case h_2=>cases he
   rename_i s ps' env' z' hb
   obtain⟨r2,hw2,rfl,Gip,-,-,-⟩:=Eb hS2 hb hm2
   have hs1:s≠1:=by
    rintro rfl
    grind
   obtain⟨hnb,hcases⟩:=Gip.leaves hs1
   obtain⟨jump,hj⟩:∃j,j=r2.pending:=⟨_,rfl⟩
   refine⟨jump,_,by rw[hj];exact run_endLoop hw2 hnb,?_⟩
   rw[←hj]at hcases
   have hS4:St _ B L ν2 (qH.set H.length ⟨[],.dead,0⟩) (w2.putObj (w.heap.size+1) (.loop {r2 with state:=.exhausted})):=⟨hS2.Nj.shut hb rfl hm2 _,fun b' hb' hl=>hS2.dom b' (by simpa using hb') hl⟩
   have hEx:Ext L H ν (qH.set H.length ⟨[],.dead,0⟩) ν2:=hE1.trans (hE2.trans ⟨sM,fun _ _=>rfl,fun _ _=>rfl⟩)
   have hKs:∀{c:Nat}{o:Obj},K c=some o→c<w.heap.size:=fun h=>(Vj.1 (hS.Nj.kept _ _ h)).1
   have post:∀(cx:CX)(xx:Exit),XR cx xx→∃ν' K' D',XR cx xx∧St K' B L ν' (qH.set H.length ⟨[],.dead,0⟩) (w2.putObj (w.heap.size+1) (.loop {r2 with state:=.exhausted}))∧ER D' ν' N E {a with defers:=[{target:=.collected w.heap.size,args:=#[]}]++a.defers}∧Ext L H ν (qH.set H.length ⟨[],.dead,0⟩) ν'∧Lb K0 K'∧Marks K0 B K' D'∧(top=false→D'=D0):=by
    intro cx xx PK
    refine⟨ν2,_,{target:=.collected w.heap.size,args:=#[]}::D,PK,hS4,⟨by rw[hR.defers];rfl,hR.size,fun t=>V.mono (hEx.mono hS) _ _ (hR.val t),hR.top⟩,hEx,fun c o h=>?_,?_,fun h=>by rw[ht]at h;cases h⟩
    ·have:=hKs (hK c o h)
     exact(if_neg oM).trans (hK c o h)
    ·obtain⟨rs,rfl,hnd,hrs⟩:=hM
     refine⟨w.heap.size::rs,rfl,List.nodup_cons.2 ⟨fun hin=>?_,hnd⟩,fun r' hr'=>?_⟩
     ·have:=hKs (hrs _ hin).1;omega
     ·rcases List.mem_cons.1 hr' with rfl|hr'
      ·exact⟨if_pos rfl,hK.none hfree,hS.Nj.base.size⟩
      simp_all
   rcases hcases with⟨rfl,hp⟩|⟨rfl,hp⟩|⟨id,rfl,hp⟩
   ·rw[if_pos rfl,GA]at he
    subst he
    rw[hp]
    exact post .normal .normal rfl
   ·rw[if_neg dE,if_pos rfl,GA]at he
    subst he
    rw[hp]
    exact wpIn_ret (post .ret .ret rfl)
   ·rw[if_neg oM,if_neg oM,if_pos oM,GA,show((id:Int)+3-3).toNat=id from by omega]at he
    subst he
    rw[hp]
    exact wpIn_exit (post (.exit id) (.exit id) rfl)
  |exit id=>
   simp only[Ju,GA]at hc;subst hc
   simp only[GA]at he;subst he
   exact wpIn_exit ⟨ν,K,D,rfl,hS,hR,Ext.refl _ _ _,hK,hM,hD⟩
  |ret=>
   simp only[Ju,GA]at hc;subst hc
   simp only[GA]at he;subst he
   exact wpIn_ret ⟨ν,K,D,rfl,hS,hR,Ext.refl _ _ _,hK,hM,hD⟩
  |_=>cases hc
end
end Go.Cs
namespace Go.Cs
open Go Go.RowKit
section
variable {P : Program} {F : Jl} {K K0 : Nat → Option Obj} {B : Bs} {L N : Nat} {rd : Option Nat} {dp : Nat} {D D0 : List Deferred}
theorem Marks.nil(K:Nat→Option Obj)(B:Bs):Marks K B K []:=⟨[],rfl,List.nodup_nil,fun _ h=>by cases h⟩
theorem FJ(hm:P.follows .mixedOrders=true)(hBr:TR P B){f n:Nat}(hF:∀k,k<n→Ev P (Kn (Kb P) k)){c:Code}{k:Nat}{cc:Gq}(hc:Ju P f N false k c=some cc){E:Env}{H:Gb}{r:CX×Env×Gb}(he:ev (Kb P) n cc E H=some r)(hL:r.2.2.length≤L){ν:Mu}{a:Act}{w:World}(hS:St K B L ν H w)(hR:ER [] ν N E a):
  c.wpIn (Fr none) 0 P (fun x a w=>∃ν',XR r.1 x∧St K B L ν' r.2.2 w∧ER [] ν' N r.2.1 a∧Ext L H ν r.2.2 ν') a w:=by
 refine wpIn_mono (ZX (rd:=none) (K0:=K) (D0:=[]) (top:=false) hm hBr (fun h=>by cases h) n hF c k cc E H r hc (fun h=>by cases h) he hL K [] ν a w (Lb.refl K) (Marks.nil K B) (fun _=>rfl) hS hR) fun x a w h=>?_
 obtain⟨ν',K',D',h1,h2,h3,h4,h5,-,h7⟩:=h
 have:=h7 rfl
 subst this
 exact⟨ν',h1,⟨h2.Nj.less h5,h2.dom⟩,h3,h4⟩
theorem Pe(hF:Ev P F)(hBr:TR P B)(Vz:Y8 F){ops:Array Oper}{Q:Exit→Act→World→Prop}{l2:List Nat}:∀(l:List Nat)(ss:List GR),ss.length=l.length→(∀(q:Nat)(i:Nat)(s:GR),l[q]?=some i→ss[q]?=some s→∃o,ops[i]?=some o∧Ni P N ops o=some s)→
  ∀(E:Env)(H:Gb)(ν:Mu)(a:Act)(w:World)(r:Env×Gb),Kv F ss E H=some r→r.2.length≤L→St K B L ν H w→ER D ν N E a→
  (∀ν' a' w',St K B L ν' r.2 w'→ER D ν' N r.1 a'→Ext L H ν r.2 ν'→wpOpsIn (Fr rd) dp P ops Q l2 a' w')→wpOpsIn (Fr rd) dp P ops Q (l++l2) a w
 |[],[],_,_,E,H,ν,a,w,r,he,_,hS,hR,hk=>by
  simp only[Kv,GA]at he
  subst he
  exact hk ν a w hS hR (Ext.refl _ _ _)
 |i::l,s::ss,hl,hs,E,H,ν,a,w,r,he,hL,hS,hR,hk=>by
  obtain⟨o,ho,hc⟩:=hs 0 i s rfl rfl
  have ih:=Pe hF hBr Vz (ops:=ops) (Q:=Q) (l2:=l2) l ss (by simpa using hl) (fun q j t h1 h2=>hs (q+1) j t (by simpa using h1) (by simpa using h2))
  simp only[Kv,Jt]at he
  obtain⟨⟨E1,H1⟩,he1,he2⟩:=he
  obtain⟨g,op,hg,hop,hd,rfl⟩:=QF hc
  rw[List.cons_append,wpOpsIn_cons]
  unfold wpOpIn
  simp only[ho]
  rw[MX hg hR]
  unfold QH at he1
  dsimp only at he1
  split at he1
  ·rename_i hw
   rw[if_pos hw]
   rw[GJ]at he1
   obtain⟨v,hv,he1⟩:=he1
   simp only[Prod.mk.injEq]at he1
   obtain⟨rfl,rfl⟩:=he1
   refine Gcj hF hBr hS hop (fun t _=>hR.val t) hv (Jm (UZ Vz he2) hL) _ _ fun v' w' ν' hS' hV' hx'=>?_
   have hm:=hx'.mono hS
   exact ih _ _ ν' _ w' r he2 hL hS' ((hR.mono hm).put hd hV') fun ν2 a2 w2 h1 h2 h3=>hk ν2 a2 w2 h1 h2 (hx'.trans h3)
  ·rename_i hw
   rw[if_neg hw]
   simp only[GA,Prod.mk.injEq]at he1
   obtain⟨rfl,rfl⟩:=he1
   exact⟨fun _ _=>trivial,ih _ _ ν _ w r he2 hL hS (hR.put hd (by simp[V,VL,undef])) hk⟩
 |[],_::_,hl,_,_,_,_,_,_,_,_,_,_,_,_=>by simp at hl
 |_::_,[],hl,_,_,_,_,_,_,_,_,_,_,_,_=>by simp at hl
theorem VD{cs:List CV}(h:Yo cs=false):QJ cs=cs:=by
 unfold Yo at h
 unfold QJ
 grind
theorem JX.Ggx{μ:Mu}{H:Gb}{w:World}(h:JX K B μ H w){c:Nat}{o:Obj}(hc:K c=some o)(hB:B.heap.size≤c)(x:Obj):JX (fun d=>if d=c then some x else K d) B μ H (w.putObj c x):=by
 have hlt:c<w.heap.size:=(Vj.1 (h.kept c o hc)).1
 have Sa:∀{d:Nat},d≠c→(w.heap.setIfInBounds c x)[d]?=w.heap[d]?:=fun hd=>by simp[Ne.symm hd]
 refine⟨h.base.trans ⟨rfl,rfl,rfl,by simp[World.putObj],fun q hq=>Sa oM⟩,fun d y hy=>?_,fun b blk m h1 h2 h3 h4=>?_,h.inj,fun b blk m h1 h2 h3=>?_⟩
 ·split at hy
  ·rename_i hd
   subst hd
   simp only[GA]at hy
   subst hy
   simp[World.putObj,hlt]
  ·rename_i hd;exact(Sa hd).trans (h.kept d y hy)
 ·have hne:=h.YW hc hB h1 h2 h4
  obtain⟨arr,T,fz,e1,e2,e3,e4⟩:=h.blk b blk m h1 h2 h3 h4
  exact⟨arr,T,fz,(Sa hne).trans e1,e2,fun e=>by grind,e4⟩
 ·have hne:=h.YW hc hB h1 (by rw[h2];decide) h3
  obtain⟨ob,e1,e2,e3,e4⟩:=h.mp b blk m h1 h2 h3
  exact⟨ob,(Sa hne).trans e1,e2,e3,by rw[if_neg hne];exact e4⟩
def Yw(B:Bs)(c:Nat)(o:Obj):Bs:={B with frz:=fun d x=>if d=c then x=o else B.frz d x}
theorem Eo.frz{B B':Bs}(hB:B'.rnd=B.rnd){μ:Mu}{blk:JD}{r:Loop}(h:Eo B μ blk r):Eo B' μ blk r:=by
 obtain⟨s,env,z,h1,h2,h3,h4,h5⟩:=h
 exact⟨s,env,z,h1,h2,h3,h4,by rw[hB];exact h5⟩
theorem JX.freeze{μ:Mu}{H:Gb}{w:World}(h:JX K B μ H w){b:Nat}{es:List CV}{m:ZF}(hb:H[b]?=some ⟨es,.map,0⟩) (hz:Yo es=false) (hm:μ b=some m) {xs:Array MapEntry} {cl:Nat} (hw:w.heap[m.c]?=some (.map xs cl)):
  JX K (Yw B m.c (.map xs cl)) μ (H.set b ⟨[.agg es],.map,0⟩) w:=by
 have hlb:=(Ab.1 hb).1
 have get:∀{b':Nat}{k':JD},(H.set b ⟨[.agg es],.map,0⟩)[b']?=some k'→(b'=b∧k'=⟨[.agg es],.map,0⟩)∨(b'≠b∧H[b']?=some k'):=by
  grind
 refine⟨h.base,h.kept,fun b' k' m' h1 h2 h3 h4=>?_,fun b1 b2 k1 k2 m1 m2 h1 h2 r1 r2 hne e1 e2=>?_,fun b' k' m' h1 h2 h3=>?_⟩
 ·rcases get h1 with⟨rfl,rfl⟩|⟨_,g⟩
  ·exact absurd rfl h3
  ·exact h.blk b' k' m' g h2 h3 h4
 ·have up:∀{b':Nat}{k':JD},(H.set b ⟨[.agg es],.map,0⟩)[b']?=some k'→∃k'',H[b']?=some k''∧k''.mode=k'.mode:=by
   grind
  obtain⟨q1,g1,f1⟩:=up h1
  obtain⟨q2,g2,f2⟩:=up h2
  exact h.inj b1 b2 q1 q2 m1 m2 g1 g2 (by rw[f1];exact r1) (by rw[f2];exact r2) hne e1 e2
 ·rcases get h1 with⟨rfl,rfl⟩|⟨hbb,g⟩
  ·rw[hm]at h3
   simp only[GA]at h3
   subst h3
   obtain⟨ob,e1,e2,e3,e4⟩:=h.mp b' _ m hb rfl hm
   obtain⟨xs',cl',rfl,f1,f2,f3⟩:=e2.map rfl
   rw[hw]at e1
   simp only[GA,Obj.map.injEq]at e1
   obtain⟨rfl,rfl⟩:=e1
   rw[VD hz]at f1
   exact⟨_,hw,.inl ⟨rfl,xs,cl,rfl,f1,f2,fun _=>by simp[Yw]⟩,e3,e4⟩
  ·obtain⟨ob,e1,e2,e3,e4⟩:=h.mp b' k' m' g h2 h3
   refine⟨ob,e1,?_,e3,e4⟩
   rcases e2 with⟨f0,xs',cl',rfl,f1,f2,f3⟩|⟨r,rfl,hr⟩
   ·have hne:m'.c≠m.c:=Ne.symm (h.inj b b' _ k' m m' hb g (.inr rfl) (by rw[h2];decide) (Ne.symm hbb) hm h3)
    exact .inl ⟨f0,xs',cl',rfl,f1,f2,fun e=>by simp only[Yw,if_neg hne];exact f3 e⟩
   ·exact .inr ⟨r,rfl,hr.frz rfl⟩
theorem JX.thaw{μ:Mu}{H:Gb}{w:World}{m:ZF}{o:Obj}(h:JX K (Yw B m.c o) μ H w){b:Nat}{es:List CV}(hb:H[b]?=some ⟨[.agg es],.map,0⟩) (hm:μ b=some m) (hz:Yo es=false):
  JX K B μ (H.set b ⟨es,.map,0⟩) w:=by
 have hlb:=(Ab.1 hb).1
 have get:∀{b':Nat}{k':JD},(H.set b ⟨es,.map,0⟩)[b']?=some k'→(b'=b∧k'=⟨es,.map,0⟩)∨(b'≠b∧H[b']?=some k'):=by
  grind
 refine⟨h.base,h.kept,fun b' k' m' h1 h2 h3 h4=>?_,fun b1 b2 k1 k2 m1 m2 h1 h2 r1 r2 hne e1 e2=>?_,fun b' k' m' h1 h2 h3=>?_⟩
 ·rcases get h1 with⟨rfl,rfl⟩|⟨_,g⟩
  ·exact absurd rfl h3
  ·exact h.blk b' k' m' g h2 h3 h4
 ·have up:∀{b':Nat}{k':JD},(H.set b ⟨es,.map,0⟩)[b']?=some k'→∃k'',H[b']?=some k''∧k''.mode=k'.mode:=by
   grind
  obtain⟨q1,g1,f1⟩:=up h1
  obtain⟨q2,g2,f2⟩:=up h2
  exact h.inj b1 b2 q1 q2 m1 m2 g1 g2 (by rw[f1];exact r1) (by rw[f2];exact r2) hne e1 e2
 ·rcases get h1 with⟨rfl,rfl⟩|⟨hbb,g⟩
  ·rw[hm]at h3
   simp only[GA]at h3
   subst h3
   obtain⟨ob,e1,e2,e3,e4⟩:=h.mp b' _ m hb rfl hm
   obtain⟨xs',cl',rfl,f1,f2,f3⟩:=e2.map rfl
   exact⟨_,e1,.inl ⟨rfl,xs',cl',rfl,by rw[VD hz];exact f1,f2,fun e=>by rw[hz]at e;cases e⟩,e3,e4⟩
  ·obtain⟨ob,e1,e2,e3,e4⟩:=h.mp b' k' m' g h2 h3
   refine⟨ob,e1,?_,e3,e4⟩
   rcases e2 with⟨f0,xs',cl',rfl,f1,f2,f3⟩|⟨r,rfl,hr⟩
   ·have hne:m'.c≠m.c:=Ne.symm (h.inj b b' _ k' m m' hb g (.inr rfl) (by rw[h2];decide) (Ne.symm hbb) hm h3)
    exact .inl ⟨f0,xs',cl',rfl,f1,f2,fun e=>by have:=f3 e;simp only[Yw,if_neg hne]at this;exact this⟩
   ·exact .inr ⟨r,rfl,hr.frz rfl⟩
theorem JX.Gg9{μ:Mu}{H:Gb}{w:World}(h:JX K B μ H w):JX K B μ (H++[⟨[],.dead,0⟩]) w:=by
 have get:∀{b:Nat}{k:JD},(H++[⟨[],.dead,0⟩])[b]?=some k→k.mode≠.dead→H[b]?=some k:=by
  grind
 exact⟨h.base,h.kept,fun b k m h1 h2 h3 h4=>h.blk b k m (get h1 h2) h2 h3 h4,fun b1 b2 k1 k2 m1 m2 h1 h2 r1 r2 hne e1 e2=>h.inj b1 b2 k1 k2 m1 m2 (get h1 (by grind)) (get h2 r2) r1 r2 hne e1 e2,
  fun b k m h1 h2 h3=>h.mp b k m (get h1 (by rw[h2];decide)) h2 h3⟩
theorem JX.Gde{μ:Mu}{H:Gb}{w:World}(h:JX K B μ H w)(n:Nat):JX K B μ (KQ n H) w:=by
 have get:∀{b:Nat}{k:JD},(KQ n H)[b]?=some k→k.mode≠.dead→H[b]?=some k:=by
  intro b k hb hd
  unfold KQ at hb
  grind
 exact⟨h.base,h.kept,fun b k m h1 h2 h3 h4=>h.blk b k m (get h1 h2) h2 h3 h4,fun b1 b2 k1 k2 m1 m2 h1 h2 r1 r2 hne e1 e2=>h.inj b1 b2 k1 k2 m1 m2 (get h1 (by grind)) (get h2 r2) r1 r2 hne e1 e2,
  fun b k m h1 h2 h3=>h.mp b k m (get h1 (by rw[h2];decide)) h2 h3⟩
theorem JW.split{μ:Mu}:∀{cs:List CV}{s t:List MapEntry}{e:MapEntry},JW μ cs (s++e::t)→∃cs1 c cs2,cs=cs1++c::cs2∧JW μ (cs1++cs2) (s++t)∧∃k n v,c=.Jk [.int k n,v]∧e.key=.int k n∧V μ v e.val
 |[],s,t,e,h=>by
  simp only[JW]at h
  simp at h
 |c::cs,[],t,e,h=>by
  obtain⟨k,n,v,x,rest,rfl,h2,h3,h4,h5,h6⟩:=h
  simp only[List.nil_append,List.cons.injEq]at h2
  obtain⟨rfl,rfl⟩:=h2
  exact⟨[],_,cs,rfl,h6,k,n,v,rfl,h3,h4⟩
 |c::cs,y::s,t,e,h=>by
  obtain⟨k,n,v,x,rest,rfl,h2,h3,h4,h5,h6⟩:=h
  simp only[List.cons_append,List.cons.injEq]at h2
  obtain⟨rfl,rfl⟩:=h2
  obtain⟨cs1,c',cs2,rfl,g1,g2⟩:=JW.split h6
  exact⟨.Jk [.int k n,v]::cs1,c',cs2,rfl,⟨k,n,v,y,_,rfl,rfl,h3,h4,h5,g1⟩,g2⟩
theorem JW.Glt{μ:Mu}{cs:List CV}(h:JW μ cs []):cs=[]:=by
 cases cs with
 |nil=>rfl
 |cons c cs=>obtain⟨k,n,v,x,rest,-,h2,-⟩:=h;cases h2
theorem Ge4{xs:Array MapEntry}{seen:Array Nat}{e:MapEntry}(hn:(xs.toList.map (·.born)).Nodup)(he:e∈(leftOf xs seen).toList):
  ∃s t,(leftOf xs seen).toList=s++e::t∧(leftOf xs (seen.push e.born)).toList=s++t:=by
 obtain⟨s,t,hst⟩:=List.append_of_mem he
 refine⟨s,t,hst,?_⟩
 have h1:(leftOf xs (seen.push e.born)).toList=(leftOf xs seen).toList.filter fun x=>!(x.born==e.born):=by
  simp only[leftOf,Array.toList_filter,List.filter_filter]
  grind
 have h2:((leftOf xs seen).toList.map (·.born)).Nodup:=by
  simp only[leftOf,Array.toList_filter]
  grind
 rw[hst,Es,List.map_cons,List.nodup_append]at h2
 obtain⟨g1,g2,g3⟩:=h2
 rw[List.nodup_cons]at g2
 rw[h1,hst,List.filter_append,List.filter_cons]
 simp only[BEq.rfl,Bool.not_true,Bool.false_eq_true,if_false]
 rw[List.filter_eq_self.2,List.filter_eq_self.2]
 ·grind
 simp_all
theorem Mg{E:Env}{d:Nat}{v:CV}:(E.upd d v) d=v:=by simp[Env.upd]
theorem Ghu{E:Env}{d t:Nat}{v:CV}(h:t≠d):(E.upd d v) t=E t:=by simp[Env.upd,h]
def Mv(Rr:Env→Gb→Option (CX×Env×Gb))(q:RM)(mb:Nat)(es:List CV)(n0:Nat)(o:Option (CX×Env×Gb)):Option (CX×Env×Gb):=
 (o.bind fun u=>ND q.id Rr (u.1,u.2.1,u.2.2.set mb ⟨es,.map,0⟩)).map fun r=>(r.1,L9 q.live r.2.1,KQ n0 r.2.2)
def MJ(Rb Rr:Env→Gb→Option (CX×Env×Gb))(q:RM)(mb:Nat)(es:List CV)(n0:Nat)(r:CX×Env×Gb)(left:List CV)(E:Env)(H:Gb):Prop:=
 ∀l,l.Perm left→Mv Rr q mb es n0 (Kz Rb q mb es n0 l E H)=some r
section
variable {Rb Rr : Env → Gb → Option (CX × Env × Gb)} {q : RM} {mb n0 : Nat} {es : List CV} {r : CX × Env × Gb} {E : Env} {H : Gb}
theorem MJ.nil(h:MJ Rb Rr q mb es n0 r [] E H):Mv Rr q mb es n0 (some (.normal,q.fin E,H))=some r:=h [] (List.Perm.refl _)
theorem MJ.step{cs1 cs2:List CV}{c:CV}(h:MJ Rb Rr q mb es n0 r (cs1++c::cs2) E H):
  ∃u,Rb (q.beg c E) H=some u∧u.2.2[mb]?=some ⟨[.agg es],.map,0⟩∧u.2.1 q.it=.ptr n0 0∧(u.1=.normal→MJ Rb Rr q mb es n0 r (cs1++cs2) u.2.1 u.2.2)∧(u.1≠.normal→Mv Rr q mb es n0 (some u)=some r):=by
 have key:∀l',l'.Perm (cs1++cs2)→∃u,Rb (q.beg c E) H=some u∧u.2.2[mb]?=some ⟨[.agg es],.map,0⟩∧u.2.1 q.it=.ptr n0 0∧(u.1=.normal→Mv Rr q mb es n0 (Kz Rb q mb es n0 l' u.2.1 u.2.2)=some r)∧(u.1≠.normal→Mv Rr q mb es n0 (some u)=some r):=by
  intro l' hl
  have h1:=h (c::l') ((List.Perm.cons c hl).trans List.perm_middle.symm)
  cases hb:Rb (q.beg c E) H with
  |none=>simp[Mv,Kz,hb]at h1
  |some u=>
   refine⟨u,rfl,?_⟩
   unfold Kz at h1
   rw[hb,Option.bind_some]at h1
   split at h1
   case isFalse=>simp[Mv]at h1
   grind
 obtain⟨u,h1,h2,h3,h4,h5⟩:=key _ (List.Perm.refl _)
 refine⟨u,h1,h2,h3,fun hn l' hl=>?_,h5⟩
 grind
end
def Qu(K:Nat→Option Obj)(B:Bs)(L:Nat)(H:Gb)(ν:Mu)(live:List Nat)(r:CX×Env×Gb):Exit→Act→World→Prop:=
 fun x a w=>∃ν',XR r.1 x∧St K B L ν' r.2.2 w∧(a.defers=[]∧∀t∈live,V ν' (r.2.1 t) (a.tmps.getD t undef))∧Ext L H ν r.2.2 ν'
theorem Uc{ops:Array Oper}{Q:Exit→Act→World→Prop}{i:Nat}{l:List Nat}{a:Act}{w:World}{o:Oper}(ho:ops[i]?=some o) (hg:o.guard=none) (hnd:∀c,o.op≠.defer c) {v:Value} {w':World} (h:(execOp a.eval o).run P w=.ok (.value v) w')
  (hk:wpOpsIn (Fr rd) dp P ops Q l (a.put o.dst v) w'):wpOpsIn (Fr rd) dp P ops Q (i::l) a w:=by
 rw[wpOpsIn_cons]
 unfold wpOpIn
 simp only[ho]
 rw[if_pos (by unfold Region.wanted;rw[hg])]
 refine⟨fun _ _=>trivial,?_⟩
 rw[Oper.semAt_eq _ _ _ hnd,h]
 exact hk
theorem Xz{l:O6}{o:Gmd}(h:GjZ l=some o):∃rg o1 o2 e,l.ops.back?=some rg∧l.PO.toList=[o1,o2]∧l.Bq[0]?=some e∧
  rg.op=.range o.t o.m∧o1.op=.next (.tmp o.it) false∧o2.op=.extract (.tmp o.nx) 0∧e.op=.entry (.tmp o.it)∧rg.dst=some o.it∧o1.dst=some o.nx∧o2.dst=some o.more∧e.dst=some o.pair∧
  l.more=o.more∧l.Gax=l.out∧rg.guard=none∧o1.guard=none∧o2.guard=none∧e.guard=none∧o.it≠o.nx∧o.it≠o.more∧o.it≠o.pair∧o.nx≠o.more∧o.nx≠o.pair∧o.more≠o.pair:=by
 unfold GjZ at h
 split at h
 case h_2=>cases h
 rename_i rg o1 o2 e h1 h2 h3
 split at h
 case h_2=>cases h
 rename_i t m it1 nx1 it2 it nx more pair e1 e2 e3 e4 e5 e6 e7 e8
 obtain⟨hc,h⟩:=GU h
 simp only[GA]at h
 subst h
 simp only[Qj,beq_iff_eq,bne_iff_ne,ne_eq,Option.isNone_iff_eq_none]at hc
 grind
theorem SE(hm:P.follows .mixedOrders=true)(hBr:TR P B){f n:Nat}(hF:∀k,k<n+2→Ev P (Kn (Kb P) k)){l:O6}{o:Gmd}(ho:GjZ l=some o){m:J8}
  {Ga:List GR}(has:J3 (l.Bq.toList.tail.map (Ni P N l.Bq))=some Ga){cc:Gq}(hcc:Ju P f N false 0 l.code=some cc){b:Code}{rr:Gq}(hrr:Ju P f N false 0 b=some rr){live:List Nat}
  (hlt:o.it<N∧o.nx<N∧o.more<N∧o.pair<N){mb:Nat}{es:List CV}{r:CX×Env×Gb}(hz:Yo es=false)(hL:r.2.2.length≤L){H0:Gb}{ν0:Mu}{mt:ZF}{rb:Nat}(hrb:B.heap.size≤rb)(hKr:K rb=none){xs:Array MapEntry}{cl:Nat}(hst:MapKept.Stamped xs cl)
  {q:RM}(hq:q=⟨m,o.it,o.nx,o.more,o.pair,l.out,live⟩):
  ∀(a:Act)(w:World),(∃left E H ν seen c0,MJ (ev (Kb P) (n+2) (.block l.nid (.seq (.region Ga) cc))) (ev (Kb P) (n+2) rr) q mb es H0.length r left E H∧
   St (fun c=>if c=rb then some (.mapIter (some mt.c) cl seen c0)else K c) (Yw B mt.c (.map xs cl)) L ν H w∧ER [] ν N E a∧Ext L H0 ν0 H ν∧JW ν left (leftOf xs seen).toList∧cl≤c0∧
   H[mb]?=some ⟨[.agg es],.map,0⟩∧E o.it=.ptr H0.length 0∧ν H0.length=some ⟨rb,0,0,0⟩∧ν mb=some mt∧mb<H0.length)→
  (Code.block l.out (.loop (.seq (.region l.j l.PO false) (.seq (.cond (.tmp l.more) .skip (.exit l.Gax)) (.block l.nid (.seq (.region l.k l.Bq false) l.code)))))).wpIn (Fr none) 0 P (Exit.then (b.wpIn (Fr none) 0 P (Qu K B L H0 ν0 live r)) (Qu K B L H0 ν0 live r)) a w:=by
 obtain⟨rg,o1,o2,e,p1,p2,p3,p4,p5,p6,p7,p8,p9,p10,p11,p12,p13,p14,p15,p16,p17,p18,p19,p20,p21,p22,p23⟩:=Xz ho
 subst hq
 intro a w hinv
 have finish:∀(u:CX×Env×Gb)(x:Exit)(a:Act)(w:World)(ν:Mu)(seen:Array Nat)(c0:Nat),XR u.1 x→Mv (ev (Kb P) (n+2) rr) ⟨m,o.it,o.nx,o.more,o.pair,l.out,live⟩ mb es H0.length (some u)=some r→
   St (fun c=>if c=rb then some (.mapIter (some mt.c) cl seen c0)else K c) (Yw B mt.c (.map xs cl)) L ν u.2.2 w→ER [] ν N u.2.1 a→Ext L H0 ν0 u.2.2 ν→u.2.2[mb]?=some ⟨[.agg es],.map,0⟩→ν mb=some mt→mb<H0.length→H0.length≤u.2.2.length→
   (match x with
    |.normal=>b.wpIn (Fr none) 0 P (Qu K B L H0 ν0 live r) a w
    |.exit id=>if id=l.out then b.wpIn (Fr none) 0 P (Qu K B L H0 ν0 live r) a w else Qu K B L H0 ν0 live r (.exit id) a w
    |x=>Qu K B L H0 ν0 live r x a w):=by
  intro u x a w ν seen c0 hx hf hS hR hE hfz hmb WK hlen
  unfold Mv at hf
  rw[Option.bind_some,GJ]at hf
  obtain⟨y,hy,rfl⟩:=hf
  have hKL:Lb K (fun c=>if c=rb then some (.mapIter (some mt.c) cl seen c0)else K c):=fun c ob hc=>by
   grind
  have hS':St K B L ν (u.2.2.set mb ⟨es,.map,0⟩) w:=⟨(hS.Nj.less hKL).thaw hfz hmb hz,fun b' hb' hl=>hS.dom b' (by simpa using hb') hl⟩
  have hE':Ext L H0 ν0 (u.2.2.set mb ⟨es,.map,0⟩) ν:=hE.trans ⟨sM,fun _ _=>rfl,fun _ _=>rfl⟩
  have hkl:(KQ H0.length y.2.2).length=y.2.2.length:=Nb (by
   refine Jm hlen (Jm (Nat.le_of_eq sM) (QO (R:=ev (Kb P) (n+2) rr) (fun E H r h=>Ke _ _ h) hy)))
  have rest:∀(y:CX×Env×Gb),ev (Kb P) (n+2) rr u.2.1 (u.2.2.set mb ⟨es,.map,0⟩)=some y→(y.1,L9 live y.2.1,KQ H0.length y.2.2).2.2.length≤L→H0.length≤y.2.2.length→b.wpIn (Fr none) 0 P (Qu K B L H0 ν0 live (y.1,L9 live y.2.1,KQ H0.length y.2.2)) a w:=by
   intro y hy hL hl
   have hkl:(KQ H0.length y.2.2).length=y.2.2.length:=Nb hl
   dsimp only at hL
   rw[hkl]at hL
   refine wpIn_mono (FJ hm hBr hF hrr hy hL hS' hR) fun x a w hx=>?_
   obtain⟨ν',h1,h2,h3,h4⟩:=hx
   refine⟨ν',h1,⟨h2.Nj.Gde _,fun b' hb' hl'=>h2.dom b' (by grind) hl'⟩,⟨h3.defers,fun t ht=>?_⟩,?_⟩
   ·simp only[L9,List.contains_iff_mem.2 ht,if_true]
    exact h3.val t
   ·exact⟨by dsimp only;rw[hkl];exact hl,(hE'.trans h4).same,(hE'.trans h4).far⟩
  have out:∀(cx:CX)(xx:Exit),XR cx xx→u.2.2.length≤L→Qu K B L H0 ν0 live (cx,L9 live u.2.1,KQ H0.length (u.2.2.set mb ⟨es,.map,0⟩)) xx a w:=by
   intro cx xx hxx hul
   have hk2:(KQ H0.length (u.2.2.set mb ⟨es,.map,0⟩)).length=u.2.2.length:=by rw[Nb (by simpa using hlen)];simp
   refine⟨ν,hxx,⟨hS'.Nj.Gde _,fun b' hb' hl'=>hS.dom b' (by grind) hl'⟩,⟨hR.defers,fun t ht=>?_⟩,⟨by dsimp only;rw[hk2];exact hlen,hE.same,hE.far⟩⟩
   simp only[L9,List.contains_iff_mem.2 ht,if_true]
   exact hR.val t
  unfold ND at hy
  obtain⟨cx,E',H'⟩:=u
  cases cx with
  |normal=>
   simp only[XR]at hx;subst hx
   simp only[CX.inBlock]at hy
   exact rest y hy hL (by dsimp only at hkl hL;exact Jm (by simpa using hlen) (Ke _ _ hy))
  |exit id=>
   simp only[XR]at hx;subst hx
   simp only[CX.inBlock]at hy
   by_cases hid:id=l.out
   ·simp only[hid,if_true]at hy⊢
    exact rest y hy hL (by dsimp only at hkl hL;exact Jm (by simpa using hlen) (Ke _ _ hy))
   ·simp only[hid,if_false,GA]at hy⊢
    subst hy
    exact out _ _ rfl (by grind)
  |ret=>
   simp only[XR]at hx;subst hx
   simp only[CX.inBlock,GA]at hy
   subst hy
   exact out _ _ rfl (by grind)
 refine wpIn_block ?_
 classical
 let J:Nat→Act→World→Prop:=fun k a w=>∃left E H ν seen c0,left.length=k∧MJ (ev (Kb P) (n+2) (.block l.nid (.seq (.region Ga) cc))) (ev (Kb P) (n+2) rr) ⟨m,o.it,o.nx,o.more,o.pair,l.out,live⟩ mb es H0.length r left E H∧
   St (fun c=>if c=rb then some (.mapIter (some mt.c) cl seen c0)else K c) (Yw B mt.c (.map xs cl)) L ν H w∧ER [] ν N E a∧Ext L H0 ν0 H ν∧JW ν left (leftOf xs seen).toList∧cl≤c0∧
   H[mb]?=some ⟨[.agg es],.map,0⟩∧E o.it=.ptr H0.length 0∧ν H0.length=some ⟨rb,0,0,0⟩∧ν mb=some mt∧mb<H0.length
 obtain⟨Gnt,E0',H0',ν0',Qw,c00,hinv⟩:=hinv
 refine wpIn_loop (fun a w=>∃k,J k a w) (fun a w=>if h:∃k,J k a w then(least h).choose else 0) ⟨_,Gnt,E0',H0',ν0',Qw,c00,rfl,hinv⟩ fun a1 w1 hI=>?_
 rw[dif_pos hI]
 have hmin:=(least hI).choose_spec
 generalize (least hI).choose=k at hmin⊢
 obtain⟨⟨left,E,H,ν,seen,c0,hk,hall,hS,hR,hE,hMR,hc0,hfz,hit,hνr,hmb,WK⟩,-⟩:=hmin
 have hrow:w1.heap[rb]?=some (.mapIter (some mt.c) cl seen c0):=hS.Nj.kept rb _ (if_pos rfl)
 have hmap:w1.heap[mt.c]?=some (.map xs cl):=by
  obtain⟨ob,g1,g2,-,-⟩:=hS.Nj.mp mb _ mt hfz rfl hmb
  obtain⟨xs',cl',rfl,-,-,g3⟩:=g2.map rfl
  have:=g3 rfl
  simp only[Yw,if_true]at this
  rw[g1,this]
 have hiv:a1.eval (.tmp o.it)=.pointer (some ⟨rb,0,none⟩):=by
  have:=hR.val o.it
  rw[hit]at this
  simp only[V]at this
  obtain⟨mm,h1,h2⟩:=this
  rw[hνr]at h1
  simp only[GA]at h1
  subst h1
  exact h2
 have hsz:List.range l.PO.size=[0,1]:=by
  have:l.PO.size=2:=by rw[←Array.length_toList,p2];rfl
  rw[this];rfl
 have hget:l.PO[0]?=some o1∧l.PO[1]?=some o2:=by
  constructor<;>(rw[←Giq,p2];rfl)
 have Gnc:∀c,o1.op≠.defer c:=fun c e=>by rw[p5]at e;cases e
 have Goh:∀c,o2.op≠.defer c:=fun c e=>by rw[p6]at e;cases e
 have Gui:∀c,e.op≠.defer c:=fun c h=>by rw[p7]at h;cases h
 have GgY:N≤a1.tmps.size:=hR.size
 refine wpIn_seq (wpIn_region ?_)
 rw[hsz]
 rcases run_next_at (P:=P) w1 o1.type rb mt.c cl c0 seen xs cl hrow hmap hst.1 hc0 with⟨hl0,hrun⟩|⟨x,hx,w2,hw2,hrun⟩
 ·
  refine Uc hget.1 p15 Gnc (v:=.tuple #[.bool false]) (w':=w1) (by simp[execOp,p5,hiv,hrun]) ?_
  have Sg:ER [] ν N (E.upd o.nx (.Jk [.bool false])) (a1.put o1.dst (.tuple #[.bool false])):=by
   rw[p9];exact hR.put (dst:=some o.nx) (fun d hd=>by grind) (by simp[V,VL])
  have TT:(a1.put o1.dst (.tuple #[.bool false])).eval (.tmp o.nx)=.tuple #[.bool false]:=by
   rw[p9]
   simp[Act.put,Act.eval,Array.getD_eq_getD_getElem?,Array.getElem?_setIfInBounds_self_of_lt (JI hlt.2.1 GgY)]
  refine Uc hget.2 p16 Goh (v:=.bool false) (w':=w1) (by simp[execOp,p6,TT,Instr.extract]) ?_
  have hR2:ER [] ν N ((E.upd o.nx (.Jk [.bool false])).upd o.more (.bool false)) ((a1.put o1.dst (.tuple #[.bool false])).put o2.dst (.bool false)):=by
   rw[p10];exact Sg.put (dst:=some o.more) (fun d hd=>by grind) (by simp[V])
  show Exit.then _ _ .normal _ _
  refine wpIn_seq (wpIn_cond (t:=false) ?_ ?_)
  ·have:=hR2.val o.more
   rw[Mg]at this
   simp only[V]at this
   rw[p12];exact this
  ·simp only[Bool.false_eq_true,if_false]
   refine wpIn_exit ?_
   have hle0:left=[]:=by
    have:(leftOf xs seen).toList=[]:=I4 (by simpa using hl0)
    rw[this]at hMR
    exact hMR.Glt
   subst hle0
   have:=finish (.normal,_,H) .normal _ w1 ν seen c0 rfl hall.nil hS hR2 hE hfz hmb WK hE.len
   simp only at this
   show Exit.then _ _ (.exit l.Gax) _ _
   show Exit.inBlock l.out _ (.exit l.Gax) _ _
   simp only[Exit.inBlock,p13,if_true]
   exact this
 ·
  obtain⟨s,t,hs1,hs2⟩:=Ge4 hst.2.1 hx
  rw[hs1]at hMR
  obtain⟨cs1,c,cs2,rfl,Grx,kd,kn,vv,rfl,hkey,hval⟩:=hMR.split
  obtain⟨u,hu1,hu2,hu3,hu4,hu5⟩:=hall.step
  have Gje:w2.heap=w1.heap∧w2.os=w1.os∧w2.tape=w1.tape∧w2.output=w1.output:=by rcases hw2 with rfl|rfl<;>exact⟨rfl,rfl,rfl,rfl⟩
  have hS2:St (fun c=>if c=rb then some (.mapIter (some mt.c) cl (seen.push x.born) cl)else K c) (Yw B mt.c (.map xs cl)) L ν H (ChangeMaps.setBlock w2 rb (.mapIter (some mt.c) cl (seen.push x.born) cl)):=by
   have h1:=(hS.Nj.same Gje.1 Gje.2.1 Gje.2.2.1 Gje.2.2.2).Ggx (c:=rb) (if_pos rfl) hrb (.mapIter (some mt.c) cl (seen.push x.born) cl)
   refine⟨h1.less fun c ob hc=>?_,hS.dom⟩
   grind
  generalize hw3:ChangeMaps.setBlock w2 rb (.mapIter (some mt.c) cl (seen.push x.born) cl)=w3 at hrun hS2
  have hrow3:w3.heap[rb]?=some (.mapIter (some mt.c) cl (seen.push x.born) cl):=hS2.Nj.kept rb _ (if_pos rfl)
  have GoI:w3.heap[mt.c]?=some (.map xs cl):=by
   obtain⟨ob,g1,g2,-,-⟩:=hS2.Nj.mp mb _ mt hfz rfl hmb
   obtain⟨xs',cl',rfl,-,-,g3⟩:=g2.map rfl
   have:=g3 rfl
   simp only[Yw,if_true]at this
   rw[g1,this]
  have hent:=run_entry_at (P:=P) w3 rb mt.c cl seen xs cl x hrow3 GoI (mem_left hx).1 hst.2.1
  refine Uc hget.1 p15 Gnc (v:=.tuple #[.bool true,x.key,x.val]) (w':=w3) (by simp[execOp,p5,hiv,hrun]) ?_
  have Sg:ER [] ν N (E.upd o.nx (.Jk [.bool true,.int kd kn,vv])) (a1.put o1.dst (.tuple #[.bool true,x.key,x.val])):=by
   rw[p9];exact hR.put (dst:=some o.nx) (fun d hd=>by grind) (by
    simp only[V,VL]
    grind)
  have TT:(a1.put o1.dst (.tuple #[.bool true,x.key,x.val])).eval (.tmp o.nx)=.tuple #[.bool true,x.key,x.val]:=by
   rw[p9]
   simp[Act.put,Act.eval,Array.getD_eq_getD_getElem?,Array.getElem?_setIfInBounds_self_of_lt (JI hlt.2.1 GgY)]
  refine Uc hget.2 p16 Goh (v:=.bool true) (w':=w3) (by simp[execOp,p6,TT,Instr.extract]) ?_
  have hR2:ER [] ν N ((E.upd o.nx (.Jk [.bool true,.int kd kn,vv])).upd o.more (.bool true)) ((a1.put o1.dst (.tuple #[.bool true,x.key,x.val])).put o2.dst (.bool true)):=by
   rw[p10];exact Sg.put (dst:=some o.more) (fun d hd=>by grind) (by simp[V])
  show Exit.then _ _ .normal _ _
  refine wpIn_seq (wpIn_cond (t:=true) ?_ ?_)
  ·have:=hR2.val o.more
   rw[Mg]at this
   simp only[V]at this
   rw[p12];exact this
  ·simp only[if_true]
   refine wpIn_skip ?_
   show Exit.then _ _ .normal _ _
   generalize ha2:(a1.put o1.dst (.tuple #[.bool true,x.key,x.val])).put o2.dst (.bool true)=a2 at hR2
   have GtY:a2.eval (.tmp o.it)=.pointer (some ⟨rb,0,none⟩):=by
    have:=hR2.val o.it
    rw[Ghu p19,Ghu p18,hit]at this
    simp only[V]at this
    obtain⟨mm,h1,h2⟩:=this
    rw[hνr]at h1
    simp only[GA]at h1
    subst h1
    exact h2
   refine wpIn_block ?_
   rw[KN]at hu1
   dsimp only at hu1
   rw[GJ]at hu1
   obtain⟨u1,hu1,rfl⟩:=hu1
   rw[KN]at hu1
   dsimp only at hu1
   rw[Jt]at hu1
   obtain⟨u0,hu0,hu1⟩:=hu1
   cases n with
   |zero=>cases hu0
   |succ n=>
   rw[KN]at hu0
   dsimp only at hu0
   rw[GJ]at hu0
   obtain⟨v0,hv0,rfl⟩:=hu0
   dsimp only at hu1 hu2 hu3 hu4 hu5
   have huL:u1.2.2.length≤L:=by
    by_cases hn:(u1.1.inBlock l.nid)=.normal
    ·have h1:=hu4 hn (cs1++cs2) (List.Perm.refl _)
     unfold Mv at h1
     rw[GJ]at h1
     obtain⟨y,hy,rfl⟩:=h1
     rw[Jt]at hy
     obtain⟨z,hz1,hy⟩:=hy
     have g1:=VZ (fun E H r h=>Ke _ _ h) hz1
     have g2:=QO (R:=ev (Kb P) (n+1+2) rr) (fun E H r h=>Ke _ _ h) hy
     simp only[List.length_set]at g2
     dsimp only at hL
     have Gry:=Ke _ _ hu1
     have Gq8:=UZ (Ua _ _) hv0
     have:=hE.len
     rw[Nb oM]at hL
     omega
    ·have h1:=hu5 hn
     unfold Mv at h1
     rw[Option.bind_some,GJ]at h1
     obtain⟨y,hy,rfl⟩:=h1
     have g2:=QO (R:=ev (Kb P) (n+1+2) rr) (fun E H r h=>Ke _ _ h) hy
     simp only[List.length_set]at g2
     dsimp only at hL
     have Gry:=Ke _ _ hu1
     have Gq8:=UZ (Ua _ _) hv0
     have:=hE.len
     rw[Nb oM]at hL
     omega
   have hvL:v0.2.length≤L:=Jm (Ke _ _ hu1) huL
   refine wpIn_seq (wpIn_region ?_)
   have hops:List.range l.Bq.size=0::(List.range' 1 (l.Bq.size-1)++[]):=by
    have:0<l.Bq.size:=(Vj.1 p3).1
    rw[List.append_nil,List.range_eq_range',show l.Bq.size=(l.Bq.size-1)+1 from by omega,List.range'_succ]
    simp
   rw[hops]
   refine Uc p3 p17 Gui (v:=.tuple #[x.key,x.val]) (w':=w3) (by simp[execOp,p7,GtY,hent]) ?_
   have hR3:ER [] ν N (RM.beg ⟨m,o.it,o.nx,o.more,o.pair,l.out,live⟩ (.Jk [.int kd kn,vv]) E) (a2.put e.dst (.tuple #[x.key,x.val])):=by
    rw[p11];exact hR2.put (dst:=some o.pair) (fun d hd=>by grind) (by
     simp only[V,VL]
     grind)
   have hB':TR P (Yw B mt.c (.map xs cl)):=⟨hBr.rnd,hBr.glob⟩
   refine Pe (hF n oM) hB' (Ua _ _) (List.range' 1 (l.Bq.size-1)) Ga ?_ ?_ _ H ν _ w3 v0 hv0 hvL hS2 hR3 fun ν4 a4 w4 hS4 hR4 hE4=>?_
   ·have:=Kt has
    simp at this
    simp[this]
   ·intro j i st hj hst'
    have h1:=KW has hst'
    grind
   ·show Exit.then _ _ .normal _ _
    refine wpIn_mono (FJ hm hB' (fun k hk=>hF k oM) hcc hu1 huL hS4 hR4) fun xx a5 w5 h5=>?_
    obtain⟨ν5,hx5,hS5,hR5,hE5⟩:=h5
    have hE6:Ext L H0 ν0 u1.2.2 ν5:=hE.trans (hE4.trans hE5)
    have hmono:∀b m,ν b=some m→ν5 b=some m:=fun b m h=>hE5.mono hS4 b m (hE4.mono hS2 b m h)
    have go:∀(hn:u1.1.inBlock l.nid=.normal),(∃k,J k a5 w5)∧(if h:∃k,J k a5 w5 then(least h).choose else 0)<k:=by
     intro hn
     have hJ:J (cs1++cs2).length a5 w5:=⟨cs1++cs2,u1.2.1,u1.2.2,ν5,seen.push x.born,cl,rfl,hu4 hn,hS5,hR5,hE6,by rw[hs2];exact Grx.mono hmono,Nat.le_refl _,hu2,hu3,hmono _ _ hνr,hmono _ _ hmb,WK⟩
     refine⟨⟨_,hJ⟩,?_⟩
     rw[dif_pos ⟨_,hJ⟩]
     have h1:=(least (p:=fun k=>J k a5 w5) ⟨_,hJ⟩).choose_spec.2 _ hJ
     grind
    have stop:∀(hn:u1.1.inBlock l.nid≠.normal)(xx:Exit),XR (u1.1.inBlock l.nid) xx→_:=fun hn xx hxx=>finish (u1.1.inBlock l.nid,u1.2) xx a5 w5 ν5 (seen.push x.born) cl hxx (hu5 hn) hS5 hR5 hE6 hu2 (hmono _ _ hmb) WK hE6.len
    obtain⟨cx,E5,H5⟩:=u1
    cases cx with
    |normal=>
     simp only[XR]at hx5;subst hx5
     exact go rfl
    |exit id=>
     simp only[XR]at hx5;subst hx5
     by_cases hid:id=l.nid
     ·have hb:(CX.exit id).inBlock l.nid=.normal:=by simp[CX.inBlock,hid]
      simp only[Exit.then,Exit.inBlock,hid,if_true]
      exact go hb
     ·have hb:(CX.exit id).inBlock l.nid=.exit id:=by simp[CX.inBlock,hid]
      simp only[Exit.then,Exit.inBlock,hid,if_false]
      have:=stop (by rw[hb];simp) (.exit id) (by rw[hb];rfl)
      exact this
    |ret=>
     simp only[XR]at hx5;subst hx5
     have hb:CX.ret.inBlock l.nid=.ret:=rfl
     exact stop (by rw[hb];simp) .ret (by rw[hb];rfl)
theorem Gdz{c:Code}{l:O6}(h:GhY c=some l):c=l.of:=by
 unfold GhY at h
 split at h
 ·simp only[GA]at h;subst h;rfl
 ·cases h
theorem P_{H:Gb}{c:CV}{b:Nat}{es:List CV}(h:mapOf H c=some (b,es)):c=.GI b∧H[b]?=some ⟨es,.map,0⟩∧Yo es=false:=by
 unfold mapOf at h
 grind
theorem Qu.later{H H1:Gb}{ν ν1:Mu}{live:List Nat}{r:CX×Env×Gb}(h:Ext L H ν H1 ν1){x:Exit}{a:Act}{w:World}(hq:Qu K B L H1 ν1 live r x a w):Qu K B L H ν live r x a w:=by
 obtain⟨ν',h1,h2,h3,h4⟩:=hq
 exact⟨ν',h1,h2,h3,h.trans h4⟩
theorem Gg5(hm:P.follows .mixedOrders=true)(hBr:TR P B){f:Nat}{live:List Nat}:∀(c:Code)(n:Nat),(∀k,k<n→Ev P (Kn (Kb P) k))→∀(cc:Gq)(E:Env)(H:Gb)(r:CX×Env×Gb),Ah P f N live c=some cc→ev (Kb P) n cc E H=some r→r.2.2.length≤L→
  ∀(ν:Mu)(a:Act)(w:World),St K B L ν H w→ER [] ν N E a→c.wpIn (Fr none) 0 P (Qu K B L H ν live r) a w:=by
 intro c
 induction c with
 |seq x y ihx ihy=>
  intro n hF cc E H r hc he hL ν a w hS hR
  unfold Ah at hc
  cases n with
  |zero=>cases he
  |succ n=>
  split at hc
  ·rename_i l hl
   have:=Gdz hl
   subst this
   simp only[Jt]at hc
   obtain⟨o,ho,kz,hT,m,hom,pre,hpre,Ga,has,c',hc',rr,hrr,hc⟩:=hc
   obtain⟨hg,hc⟩:=GU hc
   simp only[GA]at hc
   subst hc
   simp only[Qj,decide_eq_true_eq]at hg
   obtain⟨⟨⟨g1,g2⟩,g3⟩,g4⟩:=hg
   obtain⟨rg,o1,o2,e,p1,p2,p3,p4,p5,p6,p7,p8,p9,p10,p11,p12,p13,p14,p15,p16,p17,p18,p19,p20,p21,p22,p23⟩:=Xz ho
   rw[KN]at he
   dsimp only at he
   rw[Jt]at he
   obtain⟨q0,hq0,he⟩:=he
   cases n with
   |zero=>cases hq0
   |succ n=>
   rw[KN]at hq0
   dsimp only at hq0
   rw[GJ]at hq0
   obtain⟨⟨E1,H1⟩,hv,rfl⟩:=hq0
   dsimp only at he
   rw[KN]at he
   dsimp only at he
   have he:=Ai (fun E H=>Yy (Kb P) (show n≤n+2 by omega) _ E H) (fun E H=>Yy (Kb P) (show n≤n+2 by omega) _ E H) _ _ _ _ _ he
   obtain⟨mb,es,hmo,hall⟩:=Nq.1 he
   obtain⟨hmv,hmb,hz⟩:=P_ hmo
   have hlen1:H1.length+1≤L:=by
    have h1:=hall es (List.Perm.refl _)
    unfold K7 at h1
    rw[GJ]at h1
    obtain⟨y,hy,rfl⟩:=h1
    rw[Jt]at hy
    obtain⟨u,hu,hy⟩:=hy
    have k1:=VZ (fun E H r h=>Ke _ _ h) hu
    have k2:=QO (R:=ev (Kb P) (n+2) rr) (fun E H r h=>Ke _ _ h) hy
    simp only[QU,List.length_cons,List.length_nil,List.length_set]at k1 k2
    dsimp only at hL
    rw[Nb oM]at hL
    omega
   refine wpIn_seq (wpIn_seq (wpIn_region ?_))
   have hsz:0<l.ops.size:=by
    grind
   have hops:List.range l.ops.size=List.range (l.ops.size-1)++[l.ops.size-1]:=by
    rw[←List.range_succ];congr 1;omega
   rw[hops]
   refine Pe (hF n oM) hBr (Ua _ _) (List.range (l.ops.size-1)) pre ?_ ?_ _ H ν _ w (E1,H1) hv (by dsimp only;omega) hS hR fun ν1 a1 w1 hS1 Sg hE1=>?_
   ·have:=Kt hpre
    simp at this
    simp[this]
   ·intro j i st hj hst'
    have h1:=KW hpre hst'
    grind
   ·dsimp only at hS1 Sg hE1
    have hmV:=Ji hom (fun t _=>Sg.val t)
    rw[hmv]at hmV
    simp only[V]at hmV
    obtain⟨mt,hmt,hev⟩:=hmV
    obtain⟨ob,VN,Gmn,hBm,hKm⟩:=hS1.Nj.mp mb _ mt hmb rfl hmt
    obtain⟨xs,cl,rfl,hMR,hst,-⟩:=Gmn.map rfl
    rw[VD hz]at hMR
    obtain⟨kt,et,_,_,hut,-⟩:=Vq hT
    have hrun:=run_range_map (P:=P) w1 o.t kt et mt.c xs cl hut VN
    have hrg:l.ops[l.ops.size-1]?=some rg:=by grind
    refine Uc hrg p14 (fun c h=>by rw[p4]at h;cases h) (v:=.pointer (some ⟨w1.heap.size,0,none⟩)) (w':=w1.alloc (.mapIter (some mt.c) cl #[] cl)) (by simp[execOp,p4,hev,hrun]) ?_
    show Exit.then _ _ .normal _ _
    have hfree:=hS1.Nj.free
    have WK:=(Ab.1 hmb).1
    let ν2:Mu:=ν1.set H1.length ⟨w1.heap.size,0,0,0⟩
    have hmono:∀b m,ν1 b=some m→ν2 b=some m:=by
     intro b m hm
     have hb:b≠H1.length:=fun e=>by rw[e,hS1.dom _ (Nat.le_refl _) oM]at hm;cases hm
     show ν1.set _ _ b=_
     rw[Mu.J4 _ _ hb];exact hm
    have hsame:∀b,b≠H1.length→ν2 b=ν1 b:=fun b hb=>Mu.J4 _ _ hb
    have h1:=(hS1.Nj.freeze hmb hz hmt VN).alloc (.mapIter (some mt.c) cl #[] cl)
    have h2:=(h1.congr (ν:=ν2) (fun b hb=>hsame b (by simp at hb;omega)) hmono).Gg9
    have hS2:St (fun c=>if c=w1.heap.size then some (.mapIter (some mt.c) cl #[] cl)else K c) (Yw B mt.c (.map xs cl)) L ν2 (H1.set mb ⟨[.agg es],.map,0⟩++[⟨[],.dead,0⟩]) (w1.alloc (.mapIter (some mt.c) cl #[] cl)):=
     ⟨h2,fun b hb hl=>by simp at hb;rw[hsame b oM];exact hS1.dom b oM hl⟩
    have hR2:ER [] ν2 N (E1.upd o.it (.ptr H1.length 0)) (a1.put rg.dst (.pointer (some ⟨w1.heap.size,0,none⟩))):=by
     rw[p8]
     refine(Sg.mono hmono).put (dst:=some o.it) (fun d hd=>by grind) ?_
     simp only[V]
     exact⟨_,Mu.set_self _ _ _,rfl⟩
    have hE2:Ext L H1 ν1 (H1.set mb ⟨[.agg es],.map,0⟩++[⟨[],.dead,0⟩]) ν2:=⟨sM,fun b hb=>hsame b oM,fun b hb=>hsame b oM⟩
    refine wpIn_mono (SE (K:=K) (B:=B) (L:=L) (N:=N) hm hBr (n:=n) (fun k hk=>hF k oM) ho has hc' hrr (live:=live) ⟨g1,g2,g3,g4⟩ (mb:=mb) (es:=es) (r:=r) hz hL (H0:=H1) (ν0:=ν1) (mt:=mt) (rb:=w1.heap.size) hS1.Nj.base.size hfree hst (q:=_) rfl _ _
     ⟨es,_,_,ν2,#[],cl,fun l' hl'=>hall l' hl',hS2,hR2,hE2,?_,Nat.le_refl _,?_,Mg,Mu.set_self _ _ _,hmono _ _ hmt,WK⟩) fun x a w hx=>?_
    ·have:(leftOf xs #[]).toList=xs.toList:=by simp[leftOf]
     rw[this];exact hMR.mono hmono
    ·grind
    ·cases x with
     |normal=>exact wpIn_mono hx fun x a w h=>Qu.later hE1 h
     |_=>exact Qu.later hE1 hx
  ·rename_i hl
   simp only[Jt,GJ]at hc
   obtain⟨x',hx',y',hy',rfl⟩:=hc
   rw[KN]at he
   dsimp only at he
   rw[Jt]at he
   obtain⟨q,hq,he⟩:=he
   have hqL:q.2.2.length≤L:=by
    split at he
    ·exact Jm (Ke _ n he) hL
    grind
   refine wpIn_seq (wpIn_mono (FJ hm hBr (fun k hk=>hF k oM) hx' hq hqL hS hR) fun e a1 w1 h1=>?_)
   obtain⟨ν1,hx1,hS1,Sg,hE1⟩:=h1
   obtain⟨cx,E1,H1⟩:=q
   cases cx with
   |normal=>
    simp only[XR]at hx1;subst hx1
    exact wpIn_mono (ihy n (fun k hk=>hF k oM) y' E1 H1 r hy' he hL ν1 a1 w1 hS1 Sg) fun x a w h=>Qu.later hE1 h
   |exit id=>
    simp only[GA]at he;subst he
    simp only[XR]at hx1;subst hx1
    exact⟨ν1,rfl,hS1,⟨Sg.defers,fun t _=>Sg.val t⟩,hE1⟩
   |ret=>
    simp only[GA]at he;subst he
    simp only[XR]at hx1;subst hx1
    exact⟨ν1,rfl,hS1,⟨Sg.defers,fun t _=>Sg.val t⟩,hE1⟩
 |_=>intro n hF cc E H r hc;simp[Ah]at hc
end
end Go.Cs
namespace Go.Cs
open Go Go.RowKit
theorem F7(a:Int):∀l,(Gb7 a l).Perm (a::l)
 |[]=>.refl _
 |b::l=>by
  unfold Gb7
  split
  ·exact .refl _
  ·exact((F7 a l).cons b).trans (.swap a b l)
theorem QZ:∀l,(QN l).Perm l
 |[]=>.refl _
 |a::l=>(F7 a _).trans ((QZ l).cons a)
theorem Iq(a:Int):∀l:List Int,l.Pairwise (·≤·)→(Gb7 a l).Pairwise (·≤·)
 |[],_=>by simp[Gb7]
 |b::l,h=>by
  obtain⟨h1,h2⟩:=List.pairwise_cons.1 h
  unfold Gb7
  split
  ·rename_i hab
   refine List.pairwise_cons.2 ⟨fun x hx=>?_,h⟩
   grind
  ·rename_i hab
   refine List.pairwise_cons.2 ⟨fun x hx=>?_,Iq a l h2⟩
   rcases List.mem_cons.1 ((F7 a l).mem_iff.1 hx)with rfl|hx
   ·omega
   ·exact h1 x hx
theorem UO:∀l,(QN l).Pairwise (·≤·)
 |[]=>.nil
 |a::l=>Iq a _ (UO l)
theorem UW(l:List Int):(QN l).length=l.length:=(QZ l).length_eq
theorem Ef{l m:List Int}(hp:m.Perm l)(hs:m.Pairwise (·≤·)):m=QN l:=
 List.Perm.eq_of_pairwise (le:=fun a b=>a≤b) (fun a b _ _ h1 h2=>Int.le_antisymm h1 h2) hs (UO l) (hp.trans (QZ l).symm)
theorem Qp(l:List Int):l.mergeSort (fun x y=>decide (x≤y))=QN l:=
 Ef (List.mergeSort_perm _ _) (by
  have:=List.pairwise_mergeSort (le:=fun x y:Int=>decide (x≤y)) (fun a b c h1 h2=>by simp at*;omega) (fun a b=>by simp;omega) l
  exact this.imp sM)
theorem H_:∀{cs:List CV}{l:List Int},O9 cs=some l→cs=l.map .i
 |[],l,h=>by simp only[O9,GA]at h;subst h;rfl
 |c::cs,l,h=>by
  unfold O9 at h
  split at h
  ·rename_i heq;cases heq
  ·rename_i n r heq
   simp only[List.cons.injEq]at heq
   obtain⟨rfl,rfl⟩:=heq
   rw[GJ]at h
   obtain⟨l',h',rfl⟩:=h
   rw[H_ h']
   rfl
  ·cases h
def GgK(P:Program)(f:Nat):Prop:=
 (∀(blk off cap:Nat)(zs:List Int)(w:World),Go.Sort.Holds (Value.int .i64) w blk off zs.toArray→blk<w.heap.size→zs.length≤16777216→
  Calls P f #[.slice (some ⟨blk,off,none⟩) zs.length cap] w fun e w'=>e=.returned (.tuple #[])∧∃n os,w'=Go.Sort.grow (Go.Sort.putRow (Value.int .i64) (Go.Sort.ahead w n) blk off (zs.mergeSort fun x y=>decide (x≤y)).toArray) os)∧
 ∀(p:Option Addr)(cap:Nat)(w:World),Calls P f #[.slice p 0 cap] w fun e w'=>e=.returned (.tuple #[])∧w'=w
def Ghi(P:Program)(f g:Nat):Prop:=
 ∀(w:World)(Bm b:Nat)(es:Array MapEntry)(cl:Nat)(ks:List Int),w.cell? ⟨Bm,0,none⟩=some (.map (some b))→w.heap[b]?=some (.map es cl)→MapKept.Stamped es cl→es.toList.map (·.key)=ks.map (Value.int .i64)→ks.length≤16777216→ks.all Im=true→Bm<w.heap.size→
  Calls P f #[.func (.func g) #[] #[.pointer (some ⟨Bm,0,none⟩)]] w fun e w'=>∃v,e=.returned v∧Below w.heap.size w w'∧
   ((ks=[]∧v=.slice none 0 0)∨ks≠[]∧∃c cap arr T,v=.slice (some ⟨c,0,none⟩) ks.length cap∧w.heap.size≤c∧w'.heap[c]?=some (.cells arr T (0,0))∧ks.length≤cap∧arr.size=cap∧arr.toList.take ks.length=(ks.mergeSort fun x y=>decide (x≤y)).map (Value.int .i64))
def Ej(P:Program):Prop:=∀f fn,P.funcs[f]?=some fn→(isSort fn=true→GgK P f)∧(isSorted fn=true→∀g,GbG P=some g→Ghi P f g)
section
variable {P : Program} {K : Nat → Option Obj} {B : Bs} {L : Nat}
theorem JX.grow{μ:Mu}{H:Gb}{w:World}(h:JX K B μ H w)(os:Array Obj):JX K B μ H (Go.Sort.grow w os):=by
 have old:∀{c:Nat}{o:Obj},w.heap[c]?=some o→(Go.Sort.grow w os).heap[c]?=some o:=fun hc=>by
  rw[Go.Sort.heap_grow_old _ _ (Vj.1 hc).1];exact hc
 exact⟨h.base.trans ⟨rfl,rfl,rfl,by simp[Go.Sort.grow],fun q hq=>Go.Sort.heap_grow_old _ _ (JI hq h.base.size)⟩,fun c o hc=>old (h.kept c o hc),fun b k m h1 h2 h3 h4=>by
  obtain⟨arr,T,fz,e1,e2⟩:=h.blk b k m h1 h2 h3 h4
  exact⟨arr,T,fz,old e1,e2⟩,h.inj,fun b k m h1 h2 h3=>by
  obtain⟨ob,e1,e2⟩:=h.mp b k m h1 h2 h3
  exact⟨ob,old e1,e2⟩⟩
theorem GgU{f:Nat}(hc:GgK P f){x:CV}{E:Env}{H:Gb}{r:CV×Gb}(hx:E 0=x)(h:VF (.Ho (.tmp 0)) E H=some r){ν:Mu}{w:World}(hS:St K B L ν H w){v:Value}(hv:V ν x v):
  r.1=.Jk []∧Calls P f #[v] w fun e w'=>∃v' ν',e=.returned v'∧St K B L ν' r.2 w'∧V ν' (.Jk []) v'∧Ext L H ν r.2 ν':=by
 simp only[VF,Env.ev,hx]at h
 have hu:V ν (.Jk []) (.tuple #[]):=by simp[V,VL]
 split at h
 ·rename_i b o len cap e tail
  simp only[V]at hv
  obtain⟨m,cap',off,hm,Gu1,rfl,hlc,-,hoff,hfit⟩:=hv
  split at h
  ·rename_i h0
   simp only[GA]at h
   subst h;subst h0
   refine⟨rfl,(hc.2 _ cap' w).mono ?_⟩
   rintro e w' ⟨rfl,rfl⟩
   exact⟨_,ν,rfl,hS,hu,Ext.refl _ _ _⟩
  ·rename_i h0
   split at h
   case isFalse=>cases h
   rename_i hme
   obtain⟨rfl,hmax⟩:=hme
   simp only[Jt,GJ]at h
   obtain⟨cs,hcs,l,hl,H',hst,rfl⟩:=h
   have hcl:=H_ hl
   subst hcl
   have A9:off=m.s+o:=hoff.resolve_left oM
   subst A9
   have hlen:l.length=len:=by
    have:=(hS.Nj.Kh hcs hm).1;simpa using this
   subst hlen
   obtain⟨arr,T,hw,WC,-,Gkg,hHl⟩:=hS.Nj.write (vs:=(QN l).map (Value.int .i64)) hst hm (by
    refine VL.Z_ sM fun i c hi=>?_
    rw[K4,GJ]at hi
    obtain⟨z,hz,rfl⟩:=hi
    exact⟨.int .i64 z,by simp[hz],by simp[V]⟩)
   have hcells:∀j z,l[j]?=some z→arr[m.s+o+j]?=some (.int .i64 z):=by
    intro j z hz
    unfold Kh at hcs
    split at hcs
    case h_2=>cases hcs
    rename_i blk hb
    split at hcs
    ·cases hcs
    rename_i hmode
    split at hcs
    case isFalse=>cases hcs
    simp only[GA]at hcs
    have hj:j<l.length:=(Ab.1 hz).1
    have h1:blk.cells[o+j]?=some (.i z):=by
     have:(l.map CV.i)[j]?=some (.i z):=by simp[hz]
     grind
    obtain⟨arr',T',fz',e1,e2,-⟩:=hS.Nj.blk b blk m hb (fun e=>hmode (.inl e)) (fun e=>hmode (.inr e)) hm
    rw[hw]at e1
    simp only[GA,Obj.cells.injEq]at e1
    obtain⟨rfl,rfl,rfl⟩:=e1
    obtain⟨u,hu1,hu2⟩:=e2 _ _ h1
    simp only[V]at hu2
    rw[Nat.add_assoc,hu1,hu2]
   have hH:Go.Sort.Holds (Value.int .i64) w m.c (m.s+o) l.toArray:=by
    intro j hj
    have hj':j<l.length:=by simpa using hj
    have hz:=hcells j l[j] (JG hj')
    refine⟨?_,by simp[World.frozen?,hw]⟩
    simp only[World.cell?,hw,Option.isSome_none,Bool.false_eq_true,if_false]
    rw[hz]
    simp[hj']
   refine⟨rfl,(hc.1 m.c (m.s+o) cap' l w hH (Vj.1 hw).1 hmax).mono ?_⟩
   rintro e w' ⟨rfl,n,os,rfl⟩
   rw[Qp]
   refine⟨_,ν,rfl,⟨JX.grow (Gkg.same (w':=Go.Sort.putRow (Value.int .i64) (Go.Sort.ahead w n) m.c (m.s+o) (QN l).toArray) ?_ rfl rfl rfl) os,fun b' hb' hl'=>hS.dom b' (by dsimp only at hb';omega) hl'⟩,hu,⟨by dsimp only;omega,fun _ _=>rfl,fun _ _=>rfl⟩⟩
   apply Array.ext_getElem?
   intro k
   by_cases hk:k=m.c
   ·subst hk
    rw[setRow_heap w m.c arr _ T (0,0) hw]
    simp only[Go.Sort.putRow,Go.Sort.mapBlock,Go.Sort.ahead,Array.getElem?_modify,if_true,hw,Option.map_some,Go.Sort.onCells,GA,Obj.cells.injEq,and_true]
    have hsl:=UW l
    simp only[DW,hsl]at WC
    apply Array.ext_getElem?
    intro i
    simp only[Go.Sort.putCells,Array.getElem?_mapIdx,List.size_toArray,hsl,List.getElem?_toArray,DW]
    have hlt:m.s+o≤arr.toList.length:=by simp;omega
    rcases Yg i (m.s+o)with h1|h1
    ·grind
    ·rcases Yg i (m.s+o+l.length)with h2|h2
     ·grind
     grind
   ·rw[setRow_other w m.c k _ hk]
    simp[Go.Sort.putRow,Go.Sort.mapBlock,Go.Sort.ahead,Array.getElem?_modify,Ne.symm hk]
 ·simp only[GA]at h
  subst h
  simp only[V]at hv
  subst hv
  refine⟨rfl,(hc.2 _ 0 w).mono ?_⟩
  rintro e w' ⟨rfl,rfl⟩
  exact⟨_,ν,rfl,hS,hu,Ext.refl _ _ _⟩
 ·cases h
theorem HY{μ:Mu}:∀{es:List CV}{l:List Int}{xs:List MapEntry},keysOf es=some l→JW μ es xs→xs.map (·.key)=l.map (Value.int .i64)
 |[],l,xs,h,hr=>by
  simp only[keysOf,GA]at h;subst h
  simp only[JW]at hr;subst hr;rfl
 |e::es,l,xs,h,hr=>by
  obtain⟨k,n,v,x,rest,rfl,rfl,h3,-,-,h6⟩:=hr
  unfold keysOf at h
  split at h
  ·rename_i heq;cases heq
  ·rename_i n' y r heq
   simp only[List.cons.injEq,CV.Jk.injEq,CV.int.injEq,and_true]at heq
   obtain⟨⟨⟨rfl,rfl⟩,rfl⟩,rfl⟩:=heq
   rw[GJ]at h
   obtain⟨l',h',rfl⟩:=h
   rw[List.map_cons,List.map_cons,h3,HY h' h6]
  ·cases h
theorem JX.below{μ:Mu}{H:Gb}{w w':World}(h:JX K B μ H w)(hb:Below w.heap.size w w'):JX K B μ H w':=by
 have old:∀{c:Nat}{o:Obj},w.heap[c]?=some o→w'.heap[c]?=some o:=fun hc=>by
  rw[hb.block _ (Vj.1 hc).1];exact hc
 exact⟨⟨hb.os.trans h.base.os,hb.tape.trans h.base.tape,hb.output.trans h.base.output,Jm h.base.size hb.size,fun k hk=>by rw[hb.block k (JI hk h.base.size)];exact h.base.block k hk⟩,fun c o hc=>old (h.kept c o hc),fun b k m h1 h2 h3 h4=>by
  obtain⟨arr,T,fz,e1,e2⟩:=h.blk b k m h1 h2 h3 h4
  exact⟨arr,T,fz,old e1,e2⟩,h.inj,fun b k m h1 h2 h3=>by
  obtain⟨ob,e1,e2⟩:=h.mp b k m h1 h2 h3
  exact⟨ob,old e1,e2⟩⟩
theorem GhS{f g:Nat}(hc:Ghi P f g){x:CV}{E:Env}{H:Gb}{r:CV×Gb}(hx:E 0=x)(h:VF (.KF g (.tmp 0)) E H=some r){ν:Mu}{w:World}(hL:r.2.length≤L)(hS:St K B L ν H w){v:Value}(hv:V ν x v):
  Calls P f #[v] w fun e w'=>∃v' ν',e=.returned v'∧St K B L ν' r.2 w'∧V ν' r.1 v'∧Ext L H ν r.2 ν':=by
 simp only[VF,Env.ev,hx]at h
 split at h
 case h_2=>cases h
 rename_i f' b
 split at h
 case isFalse=>cases h
 rename_i hfg
 subst hfg
 split at h
 case h_2=>cases h
 rename_i m' hb
 simp only[Jt]at h
 obtain⟨⟨mb,es⟩,hmo,l,hl,h⟩:=h
 obtain⟨rfl,hmb,hz⟩:=P_ hmo
 simp only[V,VL]at hv
 obtain⟨vs,rfl,u,rest,hvs,⟨mt,hmt,rfl⟩,rfl⟩:=hv
 have Grr:vs=#[.pointer (some ⟨mt.c,mt.s+0,none⟩)]:=by grind
 subst Grr
 obtain⟨arr,T,fz,hw,hcell,hrw,-⟩:=hS.Nj.blk b _ mt hb (fun e=>by cases e) (fun e=>by cases e) hmt
 obtain⟨-,-,hs0,rfl,-,-⟩:=hrw rfl
 have hs:mt.s=0:=hs0.1 rfl
 obtain⟨v0,hv0,hV0⟩:=hcell 0 _ rfl
 simp only[V]at hV0
 obtain⟨m2,hm2,rfl⟩:=hV0
 obtain⟨ob,VN,Gmn,-,-⟩:=hS.Nj.mp mb _ m2 hmb rfl hm2
 obtain⟨xs,cl,rfl,hMR,hst,-⟩:=Gmn.map rfl
 rw[VD hz]at hMR
 rw[hs,Nat.add_zero]at hv0⊢
 have hcl:w.cell? ⟨mt.c,0,none⟩=some (.map (some m2.c)):=by
  simp only[World.cell?,hw,Option.isSome_none,Bool.false_eq_true,if_false]
  exact hv0
 have hks:=HY hl hMR
 have hmax:l.length≤16777216∧l.all Im=true:=by
  grind
 refine(hc w mt.c m2.c xs cl l hcl VN hst hks hmax.1 hmax.2 (Vj.1 hw).1).mono ?_
 rintro e w' ⟨v,rfl,hbel,hcase⟩
 have hSb:=hS.Nj.below hbel
 rcases hcase with⟨rfl,rfl⟩|⟨hne,c,cap,ZA,T2,rfl,hcw,hw2,hcap,harr,htake⟩
 ·simp only[List.length_nil,if_true]at h
  simp only[GA]at h
  subst h
  exact⟨_,ν,rfl,⟨hSb,hS.dom⟩,by simp[V],Ext.refl _ _ _⟩
 ·by_cases hl0:l.length=0
  ·grind
  ·rw[if_neg hl0,if_pos hmax]at h
   simp only[GA]at h
   subst h
   rw[Qp]at htake
   simp only[QU,List.length_cons,List.length_nil]at hL
   have hfree:∀d,w.heap.size≤d→K d=none:=fun d hd=>by
    cases hk:K d with
    |none=>rfl
    |some o=>have:=(Vj.1 (hS.Nj.kept d o hk)).1;omega
   have hk1:JX (fun d=>if d=c then some (.cells ZA T2)else K d) B ν H w':=by
    refine⟨hSb.base,fun d o hd=>?_,fun b k m h1 h2 h3 h4=>?_,hSb.inj,fun b k m h1 h2 h3=>?_⟩
    ·split at hd
     ·grind
     ·exact hSb.kept d o hd
    ·have hlt:=hS.Nj.there h1 h2 h4
     obtain⟨a1,a2,a3,a4,a5,a6,a7⟩:=hSb.blk b k m h1 h2 h3 h4
     grind
    ·have hlt:=hS.Nj.there h1 (by rw[h2];decide) h3
     obtain⟨ob,a1,a2,a3,a4⟩:=hSb.mp b k m h1 h2 h3
     grind
   have hmono:∀b m,ν b=some m→(ν.set H.length ⟨c,0,1,ZA.size⟩) b=some m:=by
    intro b m hm
    have hbn:b≠H.length:=fun e=>by rw[e,hS.dom _ (Nat.le_refl _) oM]at hm;cases hm
    rw[Mu.J4 _ _ hbn];exact hm
   have hk2:=hk1.congr (ν:=ν.set H.length ⟨c,0,1,ZA.size⟩) (fun b hb=>Mu.J4 _ _ oM) hmono
   have hsl:=UW l
   have hk3:=hk2.adopt (c:=c) (arr:=ZA) (T:=T2) (k:=⟨(QN l).map .i,.rw,1⟩) (s:=0) sM (Jm hS.Nj.base.size hcw) rfl ⟨fun _=>rfl,by simp[hsl];omega⟩ (Mu.set_self _ _ _) (fun i y hi=>by
    dsimp only at hi
    rw[K4,GJ]at hi
    obtain⟨z,hz',rfl⟩:=hi
    have hil:i<l.length:=by grind
    have h1:(ZA.toList.take l.length)[i]?=some (.int .i64 z):=by rw[htake];simp[hz']
    rw[SF,if_pos hil,Giq]at h1
    exact⟨_,by rw[Nat.zero_add];exact h1,by simp[V]⟩)
   refine⟨_,ν.set H.length ⟨c,0,1,ZA.size⟩,rfl,⟨hk3.less fun d o hd=>?_,fun b' hb' hl'=>?_⟩,?_,⟨sM,fun b' hb'=>Mu.J4 _ _ oM,fun b' hb'=>Mu.J4 _ _ oM⟩⟩
   ·grind
   ·simp at hb'
    rw[Mu.J4 _ _ oM];exact hS.dom b' oM hl'
   ·simp only[V]
    exact⟨_,cap,0,Mu.set_self _ _ _,rfl,rfl,hcap,by simpa using hcap,.inr rfl,by dsimp only;omega⟩
end
end Go.Cs
namespace Go.Cs
open Go Go.RowKit
section
variable {P : Program} {F : Jl} {K K0 : Nat → Option Obj} {B : Bs} {L N : Nat} {rd : Option Nat} {dp : Nat} {D D0 : List Deferred} {top : Bool}
def YJ(tmps:Array Value):ResultVar→Sem Value
 |.tmp t=>pure (tmps.getD t undef)
 |.cell a t=>do loadVar t (←asAddr (tmps.getD a undef))
theorem Gbb{ν:Mu}{E:Env}{H:Gb}{w:World}{tmps:Array Value}(hS:St K B L ν H w)(hV:∀t,V ν (E t) (tmps.getD t undef)):∀(l:List ResultVar)(rs:List Ye)(vs:List CV),J3 (l.map (Uu P))=some rs→Qq E H rs=some vs→
  ∃us,(l.mapM (YJ tmps)).run P w=.ok us w∧VL ν vs us
 |[],rs,vs,h,hr=>by
  simp only[List.map_nil,J3,GA]at h;subst h
  simp only[Qq,GA]at hr;subst hr
  exact⟨[],sM,by simp[VL]⟩
 |x::l,rs,vs,h,hr=>by
  simp only[List.map_cons]at h
  cases hx:Uu P x with
  |none=>rw[hx]at h;cases h
  |some y=>
   rw[hx]at h
   simp only[J3,GJ]at h
   obtain⟨ys,hys,rfl⟩:=h
   simp only[Qq,Jt,GJ]at hr
   obtain⟨v,hv,us',GkN,rfl⟩:=hr
   obtain⟨us,hrun,hVL⟩:=Gbb hS hV l ys us' hys GkN
   rw[List.mapM_cons]
   cases x with
   |tmp t=>
    simp only[Uu,GA]at hx;subst hx
    simp only[Hq,GA]at hv;subst hv
    refine⟨tmps.getD t undef::us,by simp only[YJ,Sem.run_bind,Sem.run_pure,Result.andThen_ok,hrun],?_⟩
    simp only[VL]
    exact⟨_,_,rfl,hV t,hVL⟩
   |cell ad t=>
    simp only[Uu,Jt,GJ]at hx
    obtain⟨g,hg,n,hn,rfl⟩:=hx
    simp only[Hq]at hv
    split at hv
    ·rename_i b o hb
     have h1:=hV ad
     rw[hb]at h1
     simp only[V]at h1
     obtain⟨m,hm,he⟩:=h1
     obtain⟨v',hr',hV'⟩:=OM (P:=P) hS.Nj hg hn hv hm
     refine⟨v'::us,?_,?_⟩
     ·have h2:(YJ tmps (.cell ad t)).run P w=.ok v' w:=by simp only[YJ,he,asAddr,Sem.run_bind,Sem.run_pure,Result.andThen_ok,hr']
      simp_all
     ·simp only[VL];exact⟨_,_,rfl,hV',hVL⟩
    ·cases hv
theorem JX.Gm7{μ:Mu}{H:Gb}{w:World}(h:JX K B μ H w){c:Nat}{o:Obj}(hc:K c=some o)(hB:B.heap.size≤c)(x:Obj):JX (fun d=>if d=c then none else K d) B μ H (w.putObj c x):=by
 have Sa:∀{d:Nat},d≠c→(w.heap.setIfInBounds c x)[d]?=w.heap[d]?:=fun hd=>by simp[Ne.symm hd]
 refine⟨h.base.trans ⟨rfl,rfl,rfl,by simp[World.putObj],fun q hq=>Sa oM⟩,fun d y hy=>?_,fun b blk m h1 h2 h3 h4=>?_,h.inj,fun b blk m h1 h2 h3=>?_⟩
 ·split at hy
  ·cases hy
  ·rename_i hd;exact(Sa hd).trans (h.kept d y hy)
 ·have hne:=h.YW hc hB h1 h2 h4
  obtain⟨arr,T,fz,e1,e2,e3,e4⟩:=h.blk b blk m h1 h2 h3 h4
  exact⟨arr,T,fz,(Sa hne).trans e1,e2,fun e=>by grind,e4⟩
 ·have hne:=h.YW hc hB h1 (by rw[h2];decide) h3
  obtain⟨ob,e1,e2,e3,e4⟩:=h.mp b blk m h1 h2 h3
  exact⟨ob,(Sa hne).trans e1,e2,e3,by rw[if_neg hne];exact e4⟩
theorem HV{fn:Func}{tmps:Array Value}{R:Ending→World→Prop}{n:Nat}{ν:Mu}{H:Gb}:∀(rs:List Nat)(K':Nat→Option Obj)(w:World),rs.Nodup→(∀r∈rs,K' r=some (.deferred (some []))∧K r=none∧B.heap.size≤r)→Lb K K'→St K' B L ν H w→
  (∀w',St K B L ν H w'→∃v,(Go.results fn tmps).run P w'=.ok v w'∧R (.returned v) w')→LeavesInM Fence.wide n P fn tmps R (rs.map fun r=>{target:=.collected r,args:=#[]}) .returning w
 |[],K',w,_,_,hK,hS,hR=>hR w ⟨hS.Nj.less hK,hS.dom⟩
 |r::rs,K',w,hn,hrs,hK,hS,hR=>by
  obtain⟨h1,h2,h3⟩:=hrs r Nr
  refine⟨sM,.inl ⟨r,_,rfl,run_takeDeferred (hS.Nj.kept r _ h1),?_⟩⟩
  refine HV rs (fun d=>if d=r then none else K' d) _ (List.nodup_cons.1 hn).2 (fun r' hr'=>?_) (fun c o hc=>?_) ⟨hS.Nj.Gm7 h1 h3 _,hS.dom⟩ hR
  ·grind
  ·have hne:c≠r:=fun e=>by rw[e,h2]at hc;cases hc
   exact(if_neg hne).trans (hK c o hc)
theorem ER.entry{ν:Mu}{args:List CV}{tmps:Array Value}(hl:args.length≤N)(hs:N≤tmps.size)(hv:∀t,V ν (args.getD t .undef) (tmps.getD t undef)):ER [] ν N (entry args) {tmps,defers:=[]}:=
 ⟨rfl,hs,hv,fun t ht=>by unfold Cs.entry;grind⟩
theorem Ws{z f0:Nat}{fn:Func}{x:Array Tmp×Code×Code}(h:VK P z=some (f0,fn,x)):P.funcs[f0]?=some fn∧f0=z/2/16:=by
 unfold VK at h
 rw[Jt]at h
 obtain⟨g,hg,h⟩:=h
 rw[Jt]at h
 grind
theorem XJ{ν:Mu}{E:Env}{H:Gb}{w:World}{tmps:Array Value}(hS:St K B L ν H w){live:List Nat}(hV:∀t∈live,V ν (E t) (tmps.getD t undef)){l:List ResultVar}{rs:List Ye}{vs:List CV}(h:J3 (l.map (Uu P))=some rs)(hl:∀r∈rs,r.Gd7∈live)(hr:Qq E H rs=some vs):
  ∃us,(l.mapM (YJ tmps)).run P w=.ok us w∧VL ν vs us:=by
 induction l generalizing rs vs with
 |nil=>
  simp only[List.map_nil,J3,GA]at h;subst h
  simp only[Qq,GA]at hr;subst hr
  exact⟨[],sM,by simp[VL]⟩
 |cons x l ih=>
  simp only[List.map_cons]at h
  cases hx:Uu P x with
  |none=>rw[hx]at h;cases h
  |some y=>
   rw[hx]at h
   simp only[J3,GJ]at h
   obtain⟨ys,hys,rfl⟩:=h
   simp only[Qq,Jt,GJ]at hr
   obtain⟨v,hv,us',GkN,rfl⟩:=hr
   obtain⟨us,hrun,hVL⟩:=ih hys (fun r hr=>hl r (U5 _ hr)) GkN
   have hy:=hl y Nr
   rw[List.mapM_cons]
   cases x with
   |tmp t=>
    simp only[Uu,GA]at hx;subst hx
    simp only[Hq,GA]at hv;subst hv
    refine⟨tmps.getD t undef::us,by simp only[YJ,Sem.run_bind,Sem.run_pure,Result.andThen_ok,hrun],?_⟩
    simp only[VL]
    exact⟨_,_,rfl,hV t hy,hVL⟩
   |cell ad t=>
    simp only[Uu,Jt,GJ]at hx
    obtain⟨g,hg,n,hn,rfl⟩:=hx
    simp only[Hq]at hv
    split at hv
    ·rename_i b o hb
     have h1:=hV ad hy
     rw[hb]at h1
     simp only[V]at h1
     obtain⟨m,hm,he⟩:=h1
     obtain⟨v',hr',hV'⟩:=OM (P:=P) hS.Nj hg hn hv hm
     refine⟨v'::us,?_,?_⟩
     ·have h2:(YJ tmps (.cell ad t)).run P w=.ok v' w:=by simp only[YJ,he,asAddr,Sem.run_bind,Sem.run_pure,Result.andThen_ok,hr']
      simp_all
     ·simp only[VL];exact⟨_,_,rfl,hV',hVL⟩
    ·cases hv
theorem Rc{fn:Func}{cc:Gq}{rs:List Ye}(hrs:J3 (fn.results.toList.map (Uu P))=some rs){live:List Nat}(hl:∀r∈rs,r.Gd7∈live){ν ν':Mu}{H H':Gb}{E':Env}{ms:List Nat}{K':Nat→Option Obj}{w':World}{a:Act}(hnd:ms.Nodup)(hms:∀r∈ms,K' r=some (.deferred (some []))∧K r=none∧B.heap.size≤r)(hK':Lb K K')(hS':St K' B L ν' H' w')
  (hV:∀t∈live,V ν' (E' t) (a.tmps.getD t undef))(hd:a.defers=ms.map (fun r=>{target:=.collected r,args:=#[]}))(hE':Ext L H ν H' ν'){r:CV×Gb}(hr:(Cs.results ⟨fn.ntmps,0,cc,rs⟩ E' H').map (fun v=>(v,H'))=some r):
  LeavesInM Fence.wide 0 P fn a.tmps (fun e w'=>∃v' ν'',e=.returned v'∧St K B L ν'' r.2 w'∧V ν'' r.1 v'∧Ext L H ν r.2 ν'') a.defers .returning w':=by
 rw[GJ]at hr
 obtain⟨v,hv,rfl⟩:=hr
 unfold Cs.results at hv
 rw[GJ]at hv
 obtain⟨vs,hvs,rfl⟩:=hv
 rw[hd]
 refine HV (K:=K) (B:=B) (L:=L) (ν:=ν') (H:=H') ms K' w' hnd hms hK' hS' fun w2 hS2=>?_
 obtain⟨us,hrun,hVL⟩:=XJ (P:=P) hS2 hV hrs hl hvs
 have hrun':(Go.results fn a.tmps).run P w2=.ok (if h:us.toArray.size=1 then us.toArray[0]else .tuple us.toArray) w2:=by
  show(Array.mapM (YJ a.tmps) fn.results >>= fun vs=>pure (if h:vs.size=1 then vs[0]else .tuple vs):Sem Value).run P w2=_
  rw[Array.mapM_eq_mapM_toList]
  simp_all
 refine⟨_,hrun',_,ν',rfl,hS2,?_,hE'⟩
 match vs,us,hVL with
 |[],us,hVL=>simp only[VL]at hVL;subst hVL;simp[V,VL]
 |[v],us,hVL=>
  simp only[VL]at hVL
  grind
 |v1::v2::vs,us,hVL=>
  have hl:=hVL.length
  have h1:¬(us.toArray.size=1):=by simp at hl⊢;omega
  rw[dif_neg h1]
  simp only[V]
  exact⟨_,rfl,by simpa using hVL⟩
theorem GkC{fn:Func}{p:String}{n:Nat}(h:GaR fn.name p n=true)(hd:(p.toList== "runtime.NumGoroutine".toList.take p.toList.length)=false:=by decide +kernel):fn.name≠ "runtime.NumGoroutine" :=by
 intro e
 unfold GaR at h
 simp_all
theorem Ggy(hp:Ej P){f:Nat}{fn:Func}(hfn:P.funcs[f]?=some fn) {cf:Gl} (hcf:Gbo P fn=some cf) {n:Nat} {args:List CV} {H:Gb} {q:CX×Env×Gb} {r:CV×Gb} (hal:args.length≤cf.n) (hq:ev (Kb P) n cf.body (entry args) H=some q) (hleave:leave cf q=some r):
  (∃fn,P.funcs[f]?=some fn∧fn.name≠ "runtime.NumGoroutine" ∧fn.body.isSome=true)∧
  ∀K B L ν w (args':Array Value),TR P B→r.2.length≤L→St K B L ν H w→VL ν args args'.toList→Calls P f args' w fun e w'=>∃v' ν',e=.returned v'∧St K B L ν' r.2 w'∧V ν' r.1 v'∧Ext L H ν r.2 ν':=by
 obtain⟨hp1,hp2⟩:=hp f fn hfn
 unfold Gbo at hcf
 cases n with
 |zero=>cases hq
 |succ n=>
 have key:∀{x:Ki}{d:Option Nat}{rs:List Ye},cf=⟨1,0,.region [⟨d,none,x⟩],rs⟩→∃v,Ky (Kn (Kb P) n) x (entry args) H=some v∧q=(.normal,(entry args).put d v.1,v.2):=by
  intro x d rs e
  subst e
  rw[KN]at hq
  dsimp only at hq
  rw[GJ]at hq
  obtain⟨y,hy,rfl⟩:=hq
  simp only[Kv,QH,wanted,if_true,Jt,GJ]at hy
  grind
 split at hcf
 ·rename_i hn
  simp only[GA]at hcf
  obtain⟨v,hv,rfl⟩:=key hcf.symm
  subst hcf
  refine⟨⟨fn,hfn,GkC hn.1,hn.2⟩,fun K B L ν w args' _ hL hS hva=>?_⟩
  have hr:r=(.Jk [],v.2):=by
   simp only[leave,Cs.results,Qq,Option.map_some]at hleave
   simpa using hleave.symm
  subst hr
  match args,args',hva with
  |[],args',hva=>simp only[Ky,VF,Env.ev,entry]at hv;simp at hv
  |[x],args',hva=>
   have hl:=hva.length
   simp only[VL]at hva
   obtain⟨u,rest,h1,h2,rfl⟩:=hva
   have:args'=#[u]:=by grind
   subst this
   obtain⟨h3,h4⟩:=GgU (hp1 hn.1) (x:=x) (E:=entry [x]) rfl hv hS h2
   exact h4
  |x::y::l,args',hva=>
   grind
 ·split at hcf
  ·rename_i hn
   rw[GJ]at hcf
   obtain⟨g,hg,hcf⟩:=hcf
   obtain⟨v,hv,rfl⟩:=key hcf.symm
   subst hcf
   refine⟨⟨fn,hfn,GkC hn.1,hn.2⟩,fun K B L ν w args' _ hL hS hva=>?_⟩
   have hr:r=v:=by
    simp only[leave,Cs.results,Qq,Hq,Option.map_some,Option.bind_some,Env.put,Env.upd]at hleave
    simpa using hleave.symm
   subst hr
   match args,args',hva with
   |[],args',hva=>simp only[Ky,VF,Env.ev,entry]at hv;simp at hv
   |[x],args',hva=>
    have hl:=hva.length
    simp only[VL]at hva
    obtain⟨u,rest,h1,h2,rfl⟩:=hva
    have:args'=#[u]:=by grind
    subst this
    exact GhS (hp2 hn.1 g hg) (x:=x) (E:=entry [x]) rfl hv hL hS h2
   |x::y::l,args',hva=>
    grind
  ·cases hcf
theorem Ggb(hm:P.follows .mixedOrders=true)(hp:Ej P):∀n,Ev P (Kn (Kb P) n):=by
 intro n
 induction n using Nat.strongRecOn with
 |_ n ih=>
  intro f args H r h
  refine⟨Ua _ n _ _ _ _ h,fun hfb=>?_,fun z N fn ps a c hrnd=>?_⟩
  ·unfold Kn at h
   rw[Jt]at h
   obtain⟨cf,hcf,h⟩:=h
   split at h
   case isFalse=>cases h
   rename_i hal
   rw[Jt]at h
   obtain⟨q,hq,hleave⟩:=h
   unfold Kb at hcf
   rw[if_pos hfb,Jt]at hcf
   obtain⟨fn,hfn,hcf⟩:=hcf
   split at hcf
   ·rename_i cf' God
    simp only[GA]at hcf
    subst hcf
    exact Ggy hp hfn God hal hq hleave
   unfold Wv at hcf
   obtain⟨hname,hcf⟩:=GU hcf
   rw[Jt]at hcf
   obtain⟨c,hbody,hcf⟩:=hcf
   rw[Jt]at hcf
   obtain⟨rs,hrs,hcf⟩:=hcf
   have Gky:q.2.2=r.2:=(FW hleave).symm
   refine⟨⟨fn,hfn,by simpa using hname,by simp[hbody]⟩,fun K B L ν w args' hBr hL hS hv=>callsIn_wide (n:=0) |>.1 ?_⟩
   refine callsIn_of_wp_marks hfn hbody trivial ?_
   have hlen:args'.size=args.length:=by have:=hv.length;simpa using this
   have hn:cf.n=fn.ntmps∧cf.round=0∧cf.res=rs:=by
    split at hcf
    ·grind
    ·rw[GJ]at hcf;grind
   have hR:ER [] ν fn.ntmps (entry args) {tmps:=args'++Array.replicate (fn.ntmps-args'.size) undef,defers:=[]}:=by
    refine ER.entry (by rw[←hn.1];exact hal) (by simp;omega) fun t=>?_
    rcases Yg t args.length with ht|ht
    ·have hx:args[t]?=some (args[t]'ht):=JG ht
     obtain⟨u,hu,hV⟩:=hv.get hx
     have hu':args'[t]?=some u:=by simpa using hu
     rw[WE,hx,Array.getD_eq_getD_getElem?,Array.getElem?_append_left oM,hu']
     exact hV
    ·rw[WE,lX9 ht,Array.getD_eq_getD_getElem?,Array.getElem?_append_right oM,Array.getElem?_replicate]
     have:V ν CV.undef undef:=by simp[V,VL,undef]
     split<;>exact this
   have hlive:∀r∈rs,r.Gd7∈rs.map Ye.Gd7:=fun r hr=>List.mem_map_of_mem hr
   split at hcf
   ·rename_i cc hcc
    simp only[GA]at hcf
    subst hcf
    have hrn:Hg P f fn.ntmps c 0:=fun i x hi hk=>⟨fn,by
     unfold VK
     grind,rfl⟩
    refine wpIn_mono (ZX (rd:=none) (K0:=K) (D0:=[]) (N:=fn.ntmps) hm hBr (f:=f) (top:=true) (fun _=>rfl) n ih c 0 cc (entry args) H q hcc (fun _=>hrn) hq (by rw[Gky];exact hL) K [] ν _ w (Lb.refl K) (Marks.nil K B) (fun h=>by cases h) hS hR) fun x a w' hx=>?_
    obtain⟨ν',K',D',PK,hS',hR',hE',hK',⟨ms,rfl,hnd,hms⟩,-⟩:=hx
    obtain⟨cx,E',H'⟩:=q
    have fin:=fun hr=>Rc (cc:=cc) hrs hlive hnd hms hK' hS' (fun t _=>hR'.val t) hR'.defers hE' (r:=r) hr
    cases cx with
    |normal=>simp only[XR]at PK;subst PK;exact fin hleave
    |ret=>simp only[XR]at PK;subst PK;exact fin hleave
    |exit id=>cases hleave
   ·rename_i hcc
    rw[GJ]at hcf
    obtain⟨cc,hcc,rfl⟩:=hcf
    refine wpIn_mono (Gg5 (N:=fn.ntmps) hm hBr (f:=f) (live:=rs.map Ye.Gd7) c n ih cc (entry args) H q hcc hq (by rw[Gky];exact hL) ν _ w hS hR) fun x a w' hx=>?_
    obtain⟨ν',PK,hS',⟨hd',hV'⟩,hE'⟩:=hx
    obtain⟨cx,E',H'⟩:=q
    have fin:=fun hr=>Rc (cc:=cc) hrs hlive (ms:=[]) List.nodup_nil (fun _ h=>by cases h) (Lb.refl K) hS' hV' hd' hE' (r:=r) hr
    cases cx with
    |normal=>simp only[XR]at PK;subst PK;exact fin hleave
    |ret=>simp only[XR]at PK;subst PK;exact fin hleave
    |exit id=>cases hleave
  ·obtain⟨hz2,hps,f0,fn0,hat,rfl⟩:=hrnd
   obtain⟨Gz2,hf0⟩:=Ws hat
   constructor
   ·rintro rfl
    unfold Kn at h
    rw[Jt]at h
    obtain⟨cf,hcf,h⟩:=h
    split at h
    case isFalse=>cases h
    rename_i hal
    rw[Jt]at h
    obtain⟨q,hq,hleave⟩:=h
    unfold Kb at hcf
    rw[if_neg oM,Nat.add_sub_cancel_left]at hcf
    unfold FP at hcf
    rw[hat,Option.bind_some,if_pos hz2,GJ]at hcf
    obtain⟨cc,hcc,rfl⟩:=hcf
    simp only at hal hq hcc
    obtain⟨cx,E',H'⟩:=q
    unfold leave at hleave
    simp only at hleave
    rw[if_neg dE,if_pos trivial]at hleave
    split at hleave
    case h_2=>cases hleave
    simp only[GA]at hleave
    subst hleave
    refine⟨_,rfl,sM,fun K B L ν w tmps l dp hBr hL hS hv hs=>?_⟩
    refine wpIn_mono (ZX (rd:=some l) (K0:=K) (D0:=[]) hm hBr (f:=f0) (top:=false) (fun h=>by cases h) n ih a 0 cc (entry args) H _ hcc (fun h=>by cases h) hq hL K [] ν _ w (Lb.refl K) (Marks.nil K B) (fun _=>rfl) hS (ER.entry hal hs hv)) fun x a1 w1 hx=>?_
    obtain⟨ν',K',D',PK,hS',hR',hE',hK',-,hD'⟩:=hx
    have:=hD' rfl
    subst this
    refine⟨ν',PK,hR'.defers,hR'.size,fun t=>?_,⟨hS'.Nj.less hK',hS'.dom⟩,hE'⟩
    rw[WE]
    rcases Yg t fn0.ntmps with ht|ht
    ·rw[K4,Sw ht];exact hR'.val t
    ·rw[lX9 (by simpa using ht)]
     have:=hR'.val t
     rw[hR'.top t ht]at this
     exact this
   ·rintro rfl
    unfold Kn at h
    rw[Jt]at h
    obtain⟨cf,hcf,h⟩:=h
    split at h
    case isFalse=>cases h
    rename_i hal
    rw[Jt]at h
    obtain⟨q,hq,hleave⟩:=h
    have Gun:VK P (z+1)=some (f0,fn0,ps,a,c):=by
     rw[←hat]
     unfold VK
     rw[show(z+1)/2=z/2 from by omega]
    unfold Kb at hcf
    rw[if_neg oM,Nat.add_assoc,Nat.add_sub_cancel_left]at hcf
    unfold FP at hcf
    rw[Gun,Option.bind_some,if_neg oM,GJ]at hcf
    obtain⟨cc,hcc,rfl⟩:=hcf
    simp only at hal hq hcc
    obtain⟨cx,E',H'⟩:=q
    unfold leave at hleave
    simp only at hleave
    rw[if_pos trivial,GA]at hleave
    subst hleave
    intro K B L ν w tmps l dp hBr hL hS hv hs
    refine wpIn_mono (ZX (rd:=some l) (K0:=K) (D0:=[]) hm hBr (f:=f0) (top:=false) (fun h=>by cases h) n ih c 0 cc (entry args) H _ hcc (fun h=>by cases h) hq hL K [] ν _ w (Lb.refl K) (Marks.nil K B) (fun _=>rfl) hS (ER.entry hal hs hv)) fun x a1 w1 hx=>?_
    obtain⟨ν',K',D',PK,hS',hR',hE',hK',-,-⟩:=hx
    refine⟨ν',?_,⟨hS'.Nj.less hK',hS'.dom⟩,hE'⟩
    cases cx with
    |normal=>exact .inl ⟨rfl,PK⟩
    |ret=>exact .inr (.inl ⟨rfl,PK⟩)
    |exit id=>exact .inr (.inr ⟨id,rfl,PK⟩)
end
end Go.Cs
namespace Go.Cs
open Go Go.RowKit
theorem bridge{P:Program}{W:World}(hm:P.follows .mixedOrders=true)(hp:Ej P)(hG:ZU P W){f:Nat}(hfb:f<RB){args:List CV}{args':Array Value}{H0 H1:Gb}{μ:Mu}{v:CV}
  (h0:∀b blk m,H0[b]?=some blk→blk.mode≠.dead→μ b=some m→blk.mode=.ro∧m.c<W.heap.size∧∃arr T fz,W.heap[m.c]?=some (.cells arr T fz)∧∀(i:Nat)(c:CV),blk.cells[i]?=some c→∃v,arr[m.s+i]?=some v∧V μ c v)
  (hμ:∀b,H0.length≤b→μ b=none) (hrun:run (Kb P) f args H0=some (v,H1)) (hv:VL μ args args'.toList):
  Calls P f args' W fun e w'=>(∃ν v',e=.returned v'∧V ν v v')∧Below W.heap.size W w':=by
 obtain⟨n,hn⟩:=NN.1 hrun
 obtain⟨_,h⟩:=(Ggb hm hp n f args H0 (v,H1) hn).2.1 hfb
 have Nj:JX (fun _=>none) ⟨W,Wx P,fun _ _=>False⟩ μ H0 W:=by
  refine⟨Below.refl _ _,(fun c o h=>by cases h),fun b blk m hb hd _ hm=>?_,fun b1 b2 k1 k2 m1 m2 h1 h2 r1 r2 _ e1 e2=>?_,fun b blk m hb hd hm=>?_⟩
  ·obtain⟨q1,q2,arr,T,fz,q3,q4⟩:=h0 b blk m hb hd hm
   exact⟨arr,T,fz,q3,q4,(fun e=>by rw[q1]at e;cases e),fun _=>q2⟩
  ·have:=(h0 b1 k1 m1 h1 (by rcases r1 with r1|r1<;>(rw[r1];decide)) e1).1
   rcases r1 with r1|r1<;>(rw[r1]at this;cases this)
  ·have:=(h0 b blk m hb (by rw[hd];decide) hm).1
   rw[hd]at this;cases this
 refine(h (fun _=>none) ⟨W,Wx P,fun _ _=>False⟩ H1.length μ W args' ⟨rfl,hG⟩ (Nat.le_refl _) ⟨Nj,fun b hb _=>hμ b hb⟩ hv).mono fun e w' he=>?_
 obtain⟨v',ν',rfl,hS,hV,_⟩:=he
 exact⟨⟨ν',v',rfl,hV⟩,hS.Nj.base⟩
end Go.Cs
namespace Go.Cs
open Go
section
variable {α : Type} {p : JB} {F : Jl} {E : Env} {H : Gb}
structure Keep{β:Type}(b:β):Type where
def sq(o:Option (CX×Env×Gb))(k:Env→Gb→Option (CX×Env×Gb))(_:Keep k):Option (CX×Env×Gb):=
 o.bind fun r=>match r.1 with|.normal=>k r.2.1 r.2.2|_=>some r
def opk(o:Option (CV×Gb))(k:CV→Gb→Option α)(_:Keep k):Option α:=o.bind fun q=>k q.1 q.2
def gk(v:CV)(b:Bool)(x y:α)(_:Keep (x,y)):α:=match v with|.bool c=>if c=b then x else y|_=>y
def ck(v:CV)(x y:Option α)(_:Keep (x,y)):Option α:=match v with|.bool t=>if t then x else y|_=>none
def Am(F:Jl)(l:List GR)(E:Env)(H:Gb)(k:Env→Gb→Option α)(_:Keep (l,k)):Option α:=(Kv F l E H).bind fun q=>k q.1 q.2
theorem GbV{k:Env→Gb→Option α}{h:Keep (([]:List GR),k)}:Am F [] E H k h=k E H:=rfl
theorem Gaa{d:Option Nat}{op:Ki}{r:List GR}{k:Env→Gb→Option α}{h:Keep ((⟨d,none,op⟩::r:List GR),k)}:Am F (⟨d,none,op⟩::r) E H k h=opk (Ky F op E H) (fun v H'=>Am F r (E.put d v) H' k ⟨⟩) ⟨⟩:=by
 show(Kv F (⟨d,none,op⟩::r) E H).bind _=_
 unfold Kv QH wanted opk
 simp only[if_true]
 cases Ky F op E H<;>rfl
theorem SV{d:Option Nat}{op:Ki}{t:Nat}{b:Bool}{r:List GR}{k:Env→Gb→Option α}{h:Keep ((⟨d,some (t,b),op⟩::r:List GR),k)}:
  Am F (⟨d,some (t,b),op⟩::r) E H k h=gk (E t) b (opk (Ky F op E H) (fun v H'=>Am F r (E.put d v) H' k ⟨⟩) ⟨⟩) (Am F r (E.put d .undef) H k ⟨⟩) ⟨⟩:=by
 show(Kv F (⟨d,some (t,b),op⟩::r) E H).bind _=_
 unfold Kv QH wanted gk opk
 cases hE:E t<;>simp only[hE,Bool.false_eq_true,if_false,Option.bind_some]<;>try rfl
 rename_i c
 by_cases hc:c=b
 ·simp only[hc,beq_self_eq_true,if_true]
  cases Ky F op E H<;>rfl
 ·have:(c==b)=false:=by simpa using hc
  simp only[this,Bool.false_eq_true,if_false,hc,Option.bind_some]
  rfl
noncomputable def Z6(F:Jl)(l:List GC)(E:Env)(H:Gb)(hs:List Gb)(k:Env→Gb→Option α)(_:Keep (l,k)):Option α:=(Bu F l E H hs).bind fun q=>k q.1 q.2
theorem Al{d:GC}{r:List GC}{hs:List Gb}:Bu F (d::r) E H hs=(open Classical in
 if wanted d.s.guard E=false then Bu F r (E.put d.s.dst .undef) H (if d.kind=3 then H::hs else hs)
 else if d.kind=3 then(Ky F d.s.op E H).bind fun p=>Bu F r (E.put d.s.dst p.1) p.2 (H::hs)
 else(G8 d.s.op E H).bind fun m=>
  if d.kind=1→∀H'∈hs.take (hs.length-d.low),G8 d.s.op E H'=some m then
   Bu F r (E.put d.s.dst (made H m).1) (made H m).2 hs else none):=by rw[Bu]
theorem Ghf{hs:List Gb}{k:Env→Gb→Option α}{h:Keep (([]:List GC),k)}:Z6 F [] E H hs k h=k E H:=rfl
noncomputable def must(c:Prop)(x:Option α)(_:Keep x):Option α:=open Classical in if c then x else none
theorem Ge_{x:Option α}{h:Keep x}:must True x h=x:=by unfold must;exact if_pos trivial
theorem Gdb{c:Prop}{x:Option α}{k:Keep x}(h:c):must c x k=x:=by unfold must;exact if_pos h
def mk1(o:Option (Option JD×(Nat→CV)))(k:(Option JD×(Nat→CV))→Option α)(_:Keep k):Option α:=o.bind k
theorem GgR{m:Option JD×(Nat→CV)}{k:(Option JD×(Nat→CV))→Option α}{h:Keep k}:mk1 (some m) k h=k m:=rfl
theorem Gmv{d:Option Nat}{op:Ki}{no low:Nat}{r:List GC}{hs:List Gb}{k:Env→Gb→Option α}{h:Keep ((⟨⟨d,none,op⟩,no,0,low⟩::r:List GC),k)}:
  Z6 F (⟨⟨d,none,op⟩,no,0,low⟩::r) E H hs k h=mk1 (G8 op E H) (fun m=>Z6 F r (E.put d (made H m).1) (made H m).2 hs k ⟨⟩) ⟨⟩:=by
 unfold Z6 mk1
 rw[Al]
 unfold wanted
 grind
theorem GlX{d:Option Nat}{op:Ki}{no low:Nat}{r:List GC}{hs:List Gb}{k:Env→Gb→Option α}{h:Keep ((⟨⟨d,none,op⟩,no,1,low⟩::r:List GC),k)}:
  Z6 F (⟨⟨d,none,op⟩,no,1,low⟩::r) E H hs k h=mk1 (G8 op E H) (fun m=>must (∀H'∈hs.take (hs.length-low),G8 op E H'=some m) (Z6 F r (E.put d (made H m).1) (made H m).2 hs k ⟨⟩) ⟨⟩) ⟨⟩:=by
 unfold Z6 mk1 must
 rw[Al]
 unfold wanted
 grind
theorem GmC{d:Option Nat}{op:Ki}{no low:Nat}{r:List GC}{hs:List Gb}{k:Env→Gb→Option α}{h:Keep ((⟨⟨d,none,op⟩,no,3,low⟩::r:List GC),k)}:
  Z6 F (⟨⟨d,none,op⟩,no,3,low⟩::r) E H hs k h=opk (Ky F op E H) (fun v H'=>Z6 F r (E.put d v) H' (H::hs) k ⟨⟩) ⟨⟩:=by
 unfold Z6 opk
 rw[Al]
 unfold wanted
 grind
theorem GkX{d:Option Nat}{op:Ki}{no kind low t:Nat}{b:Bool}{r:List GC}{hs:List Gb}{k:Env→Gb→Option α}{h:Keep ((⟨⟨d,some (t,b),op⟩,no,kind,low⟩::r:List GC),k)}:
  Z6 F (⟨⟨d,some (t,b),op⟩,no,kind,low⟩::r) E H hs k h=gk (E t) b (Z6 F (⟨⟨d,none,op⟩,no,kind,low⟩::r) E H hs k ⟨⟩) (Z6 F r (E.put d .undef) H (if kind=3 then H::hs else hs) k ⟨⟩) ⟨⟩:=by
 unfold Z6 gk
 cases hE:E t<;>(rw[Al];simp only[wanted,hE,if_true])
 rename_i c
 by_cases hc:c=b
 ·simp only[hc,beq_self_eq_true,if_true,Bool.true_eq_false,if_false]
  rw[Al]
  simp only[wanted,Bool.true_eq_false,if_false]
 grind
theorem Gf6:den p .skip E H=some (.normal,E,H):=by rw[Yj]
theorem Gkl:den p .ret E H=some (.ret,E,H):=by rw[Yj]
theorem GgV{id:Nat}:den p (.exit id) E H=some (.exit id,E,H):=by rw[Yj]
theorem Gct{ops:List GR}:den p (.region ops) E H=Am (run p) ops E H (fun E H=>some (.normal,E,H)) ⟨⟩:=by
 rw[Yj]
 unfold Am
 dsimp only
 cases Kv (run p) ops E H<;>rfl
theorem Gar{ops:List GC}:den p (.QD ops) E H=Z6 (run p) ops E H [] (fun E H=>some (.normal,E,H)) ⟨⟩:=by
 rw[Yj]
 unfold Z6
 dsimp only
 cases Bu (run p) ops E H []<;>rfl
theorem GiD{a b:Gq}:den p (.seq a b) E H=sq (den p a E H) (fun E H=>den p b E H) ⟨⟩:=by rw[Yj];rfl
theorem Gg_{c:J8}{a b:Gq}:den p (.cond c a b) E H=ck (E.ev c) (den p a E H) (den p b E H) ⟨⟩:=by
 rw[Yj]
 unfold ck
 grind
def blk(id:Nat)(o:Option (CX×Env×Gb)):Option (CX×Env×Gb):=o.map fun r=>(r.1.inBlock id,r.2)
theorem GdK{id:Nat}{c:Gq}:den p (.block id c) E H=blk id (den p c E H):=by rw[Yj];rfl
theorem Az{c:Gq}:den p (.loop c) E H=sq (den p c E H) (fun E H=>den p (.loop c) E H) ⟨⟩:=by
 conv=>lhs;rw[Yj]
 rfl
theorem Gcq{id:Nat}:blk id (some (.normal,E,H))=some (.normal,E,H):=rfl
theorem Gi5{id:Nat}:blk id (some (.ret,E,H))=some (.ret,E,H):=rfl
theorem Gfw{id i:Nat}:blk id (some (.exit i,E,H))=some (if i=id then .normal else .exit i,E,H):=rfl
section
variable {k : Env → Gb → Option (CX × Env × Gb)} {h : Keep k}
theorem R9:sq (some (.normal,E,H)) k h=k E H:=rfl
theorem Glc:sq (some (.ret,E,H)) k h=some (.ret,E,H):=rfl
theorem Gir{i:Nat}:sq (some (.exit i,E,H)) k h=some (.exit i,E,H):=rfl
end
theorem Ghn{v:CV}{k:CV→Gb→Option α}{h:Keep k}:opk (some (v,H)) k h=k v H:=rfl
section
variable {x y : α} {h : Keep (x, y)}
theorem Gom:gk (.bool true) true x y h=x:=rfl
theorem GoJ:gk (.bool true) false x y h=y:=rfl
theorem Gof:gk (.bool false) true x y h=y:=rfl
theorem Go6:gk (.bool false) false x y h=x:=rfl
theorem Glr{l:List CV}{b:Bool}:gk (.Jk l) b x y h=y:=rfl
end
section
variable {x y : Option α} {h : Keep (x, y)}
theorem Gqn:ck (.bool true) x y h=x:=rfl
theorem Gso:ck (.bool false) x y h=y:=rfl
end
def lv(rs:List Ye)(o:Option (CX×Env×Gb)):Option (CV×Gb):=o.bind fun r=>leave ⟨0,0,.skip,rs⟩ r
theorem Gi{f n:Nat}{body:Gq}{res:List Ye}(hf:p f=some ⟨n,0,body,res⟩)(a:List CV)(H:Gb)(ha:a.length≤n):run p f a H=lv res (den p body (entry a) H):=run_eq hf a ha H
def fin(rs:List Ye)(E:Env)(H:Gb):Option (CV×Gb):=(Qq E H rs).map fun vs=>((match vs with|[v]=>v|vs=>.Jk vs),H)
theorem Gmg{rs:List Ye}:lv rs (some (.ret,E,H))=fin rs E H:=by
 unfold lv leave results fin
 simp only[Option.bind_some]
 cases Qq E H rs<;>rfl
theorem Gd5{rs:List Ye}:lv rs (some (.normal,E,H))=fin rs E H:=by
 unfold lv leave results fin
 simp only[Option.bind_some]
 cases Qq E H rs<;>rfl
theorem Gob:fin [] E H=some (.Jk [],H):=rfl
theorem Goi{t:Nat}:fin [.tmp t] E H=some (E t,H):=rfl
theorem GoB{t u:Nat}:fin [.tmp t,.tmp u] E H=some (.Jk [E t,E u],H):=rfl
def rc(H:Gb)(agg:Bool)(n:Nat):CV→Option CV
 |.ptr b o=>if agg then(Kh H b o n).map .agg else QC H b o
 |_=>none
theorem GnL{t n:Nat}{g:Bool}:fin [.cell t g n] E H=(rc H g n (E t)).map fun v=>(v,H):=by
 unfold fin
 simp only[Qq,Hq,rc]
 cases E t<;>simp only[Option.bind_none,Option.map_none]
 split<;>first|(cases QC _ _ _<;>rfl)|(cases Kh _ _ _ _<;>rfl)
theorem GkU{t n u:Nat}{g:Bool}:fin [.cell t g n,.tmp u] E H=(rc H g n (E t)).map fun v=>(.Jk [v,E u],H):=by
 unfold fin
 simp only[Qq,Hq,rc]
 cases E t<;>simp only[Option.bind_none,Option.map_none]
 split<;>first|(cases QC _ _ _<;>rfl)|(cases Kh _ _ _ _<;>rfl)
theorem GgZ{d:Nat}{v:CV}:E.put (some d) v=E.upd d v:=rfl
theorem GhP{v:CV}:E.put none v=E:=rfl
theorem Gb2{t:Nat}:E.ev (.tmp t)=E t:=rfl
theorem GgF{v:CV}:E.ev (.const v)=v:=rfl
theorem Gg{d t:Nat}{v:CV}:(E.upd d v) t=if t=d then v else E t:=rfl
def base:Env:=fun _=>.undef
theorem GcZ:entry []=base:=rfl
theorem Td{a:CV}:entry [a]=base.upd 0 a:=by
 funext t;unfold entry Env.upd base
 grind
theorem Ny{a b:CV}:entry [a,b]=(base.upd 0 a).upd 1 b:=by
 funext t;unfold entry Env.upd base
 grind
theorem DK{a b c:CV}:entry [a,b,c]=((base.upd 0 a).upd 1 b).upd 2 c:=by
 funext t;unfold entry Env.upd base
 grind
theorem NU{a b c d:CV}:entry [a,b,c,d]=(((base.upd 0 a).upd 1 b).upd 2 c).upd 3 d:=by
 funext t;unfold entry Env.upd base
 grind
theorem Gc5{a b c d e:CV}:entry [a,b,c,d,e]=((((base.upd 0 a).upd 1 b).upd 2 c).upd 3 d).upd 4 e:=by
 funext t;unfold entry Env.upd base
 grind
def Gh_(c a b:CV)(H:Gb):Option (CV×Gb):=match c with|.bool t=>some (if t then a else b,H)|_=>none
def Rq(g:Bool)(n:Nat)(H:Gb):CV→Option (CV×Gb)
 |.ptr b o=>if g then(Kh H b o n).map fun cs=>(.agg cs,H)else(QC H b o).map fun v=>(v,H)
 |_=>none
def MH(n:Nat)(H:Gb)(a v:CV):Option (CV×Gb):=match a with
 |.ptr b o=>if(cellsOf v).length=n then(Qs H b o (cellsOf v)).map fun H'=>(.undef,H')else none
 |_=>none
def GkL(H:Gb):CV→Option (CV×Gb)
 |.ptr b o=>some (.ptr b o,H)
 |.iface t c=>some (.iface t c,H)
 |_=>none
def UK(op:BinOp)(x y:CV)(H:Gb):Option (CV×Gb):=match x,y with
 |.int k a,.int k' b=>if k=k' then(Kg op k a b).map fun v=>(v,H)else none
 |_,_=>none
def XQ(g:Bool)(ty:Nat)(x y:CV)(H:Gb):Option (CV×Gb):=(OC ty x y).map fun t=>(.bool (if g then !t else t),H)
def P6(g:Bool)(n:Nat)(x y:CV)(H:Gb):Option (CV×Gb):=match x,y with
 |.agg xs,.agg ys=>if xs.length=n then(Nv xs ys).map fun t=>(.bool (if g then !t else t),H)else none
 |_,_=>none
def GlV(x:CV)(H:Gb):Option (CV×Gb):=match x with|.bool t=>some (.bool !t,H)|_=>none
def Gf0(Jd:Nat)(z:List CV)(l c:CV)(H:Gb):Option (CV×Gb):=match l,c with
 |.int .i64 l,.int .i64 c=>if 0≤l∧l≤c∧c≤(JF:Int)then some (.slice H.length 0 l.toNat c.toNat Jd false,H++[⟨(List.replicate c.toNat z).flatten,.rw,Jd⟩])else none
 |_,_=>none
def Gb1(off:Nat)(H:Gb):CV→Option (CV×Gb)
 |.ptr b o=>some (.ptr b (o+off),H)
 |_=>none
def JU(Jd:Nat)(x i:CV)(H:Gb):Option (CV×Gb):=match x,i with
 |.slice b o len _ _ _,.int _ i=>if 0≤i∧i<(len:Int)then some (.ptr b (o+i.toNat*Jd),H)else none
 |_,_=>none
def Oa(x:CV)(i:Nat)(H:Gb):Option (CV×Gb):=match x with|.Jk vs=>vs[i]?.map fun v=>(v,H)|_=>none
def Vs(x:CV)(H:Gb):Option (CV×Gb):=match x with
 |.slice _ _ len _ _ _=>some (.i len,H)
 |.Gc=>some (.i 0,H)
 |_=>none
def Gb4(F:Jl)(g:CV)(args:List CV)(H:Gb):Option (CV×Gb):=match g with
 |.func f caps=>if f<RB then F f (args++caps) H else none
 |.yld b=>yieldOf F b args H
 |_=>none
def GbO(o:Option (List CV))(H:Gb):Option (CV×Gb):=o.map fun cs=>(.agg cs,H)
def SH(o:Option (List CV))(Jd len:Nat)(H:Gb):Option (CV×Gb):=o.map fun cs=>(.slice H.length 0 len len Jd false,H++[⟨cs,.rw,Jd⟩])
def Gbs(o:Option CV)(H:Gb):Option (CV×Gb):=o.map fun v=>(v,H)
def GcK(Jd:Nat)(s:CV)(o:Option (Nat×List CV))(H:Gb):Option (CV×Gb):=o.bind fun q=>Jq H Jd s q.1 q.2
theorem Gjo{x:J8}:Ky F (.JR x) E H=some (E.ev x,H):=rfl
theorem Ghm{c a b:J8}:Ky F (.pick c a b) E H=Gh_ (E.ev c) (E.ev a) (E.ev b) H:=by
 simp only[Ky,VF,G8,Gh_]<;>cases E.ev c<;>rfl
theorem GjA{cs:List CV}:Ky F (.new cs) E H=some (.ptr H.length 0,H++[⟨cs,.rw,0⟩]):=rfl
theorem GiJ{x:J8}:Ky F (.box x) E H=some (.ptr H.length 0,H++[⟨cellsOf (E.ev x),.rw,0⟩]):=rfl
theorem Gdw{z:List CV}{ps:List (Nat×Nat×J8)}:Ky F (.build z ps) E H=GbO (fill z (KM E ps)) H:=by
 simp only[Ky,VF,G8,GbO]<;>cases fill z (KM E ps)<;>rfl
theorem LD{Jd len:Nat}{z:List CV}{ps:List (Nat×Nat×J8)}:Ky F (.buildSlice Jd z len ps) E H=SH (fill z (KM E ps)) Jd len H:=by
 simp only[Ky,VF,G8,SH]<;>cases fill z (KM E ps)<;>rfl
theorem GfR{g:Bool}{n:Nat}{a:J8}:Ky F (.load g n a) E H=Rq g n H (E.ev a):=by
 simp only[Ky,VF,G8,Rq]
 cases E.ev a<;>first|rfl|skip
 rename_i b o
 cases g
 ·simp only[Bool.false_eq_true,if_false];cases QC H b o<;>rfl
 ·simp only[if_true];cases Kh H b o n<;>rfl
theorem GeJ{n:Nat}{a v:J8}:Ky F (.store n a v) E H=MH n H (E.ev a) (E.ev v):=rfl
theorem TA{x:J8}:Ky F (.nilCheck x) E H=GkL H (E.ev x):=by
 simp only[Ky,VF,G8,GkL]<;>cases E.ev x<;>rfl
theorem Gkf{op:BinOp}{x y:J8}:Ky F (.bin op x y) E H=UK op (E.ev x) (E.ev y) H:=by
 simp only[Ky,VF,G8,UK]
 cases E.ev x<;>cases E.ev y<;>first|rfl|skip
 rename_i k a k' b
 by_cases h:k=k'
 ·simp only[h,if_true];cases Kg op k' a b<;>rfl
 ·simp only[h,if_false];rfl
theorem GjQ{g:Bool}{ty:Nat}{x y:J8}:Ky F (.eqv g ty x y) E H=XQ g ty (E.ev x) (E.ev y) H:=by
 simp only[Ky,VF,G8,XQ]<;>cases OC ty (E.ev x) (E.ev y)<;>rfl
theorem Gjz{g:Bool}{n:Nat}{x y:J8}:Ky F (.eqs g n x y) E H=P6 g n (E.ev x) (E.ev y) H:=by
 simp only[Ky,VF,G8,P6]
 cases E.ev x<;>cases E.ev y<;>first|rfl|skip
 rename_i xs ys
 dsimp only
 by_cases h:xs.length=n
 ·rw[if_pos h,if_pos h];cases Nv xs ys<;>rfl
 ·rw[if_neg h,if_neg h];rfl
theorem Gj9{x:J8}:Ky F (.not x) E H=GlV (E.ev x) H:=by
 simp only[Ky,VF,G8,GlV]<;>cases E.ev x<;>rfl
theorem Ov{f:Nat}{cs:List J8}:Ky F (.NI f cs) E H=some (.func f (cs.map E.ev),H):=rfl
theorem Pw{Jd:Nat}{z:List CV}{l c:J8}:Ky F (.makeSlice Jd z l c) E H=Gf0 Jd z (E.ev l) (E.ev c) H:=by
 show(G8 (.makeSlice Jd z l c) E H).map (made H)=_
 unfold G8 Gf0
 dsimp only
 generalize E.ev l=a
 generalize E.ev c=b
 cases a<;>try rfl
 rename_i k n
 cases k<;>try rfl
 cases b<;>try rfl
 rename_i k' n'
 cases k'<;>try rfl
 dsimp only
 by_cases h:0≤n∧n≤n'∧n'≤(JF:Int)
 ·simp only[if_pos h];rfl
 ·simp only[if_neg h];rfl
theorem GeZ{Jd:Nat}{x:J8}{lo hi mx:Option J8}:Ky F (.slice Jd x lo hi mx) E H=Gbs (sliceTo E Jd (E.ev x) lo hi mx) H:=by
 simp only[Ky,VF,G8,Gbs]<;>cases sliceTo E Jd (E.ev x) lo hi mx<;>rfl
theorem GdG{off:Nat}{x:J8}:Ky F (.field off x) E H=Gb1 off H (E.ev x):=by
 simp only[Ky,VF,G8,Gb1]<;>cases E.ev x<;>rfl
theorem Ge8{Jd:Nat}{x i:J8}:Ky F (.index Jd x i) E H=JU Jd (E.ev x) (E.ev i) H:=by
 simp only[Ky,VF,G8,JU]
 cases E.ev x<;>cases E.ev i<;>first|rfl|skip
 rename_i b o len cap ez tl k i
 dsimp only
 by_cases h:0≤i∧i<(len:Int)
 ·rw[if_pos h,if_pos h];rfl
 ·rw[if_neg h,if_neg h];rfl
theorem Xe{x:J8}{i:Nat}:Ky F (.extract x i) E H=Oa (E.ev x) i H:=by
 simp only[Ky,VF,G8,Oa]
 cases E.ev x<;>first|rfl|skip
 rename_i vs
 dsimp only
 cases vs[i]?<;>rfl
theorem Gbw{x:J8}:Ky F (.len x) E H=Vs (E.ev x) H:=by
 simp only[Ky,VF,G8,Vs]<;>cases E.ev x<;>rfl
theorem Gcb{Jd:Nat}{s x:J8}:Ky F (.append Jd s x) E H=GcK Jd (E.ev s) (elems H Jd (E.ev x)) H:=rfl
theorem GhH{f:Nat}{l:List J8}:Ky F (.call f l) E H=F f (l.map E.ev) H:=rfl
theorem GdO{g:J8}{l:List J8}:Ky F (.BG g l) E H=Gb4 F (E.ev g) (l.map E.ev) H:=by
 simp only[Ky,Gb4]
 try (cases E.ev g<;>rfl)
end
end Go.Cs
namespace Go.Cs
theorem uA{p:Prop}(h:p:=by simp [Gg]):p:=h
end Go.Cs
namespace Go.Cs
open Go
section
variable {α : Type} {p : JB} {F : Jl} {E : Env} {H : Gb}
def ld(x:Option JD)(o:Nat):Option CV:=match x with
 |some k=>if k.mode=.dead∨k.mode=.map then none else k.cells[o]?
 |none=>none
def Fw(x:Option JD)(o n:Nat):Option (List CV):=match x with
 |some k=>if k.mode=.dead∨k.mode=.map then none else if o+n≤k.cells.length then some ((k.cells.drop o).take n)else none
 |none=>none
def I_(H:Gb)(b:Nat)(x:Option JD)(o:Nat)(vs:List CV):Option Gb:=match x with
 |some k=>if k.mode=.rw∧o+vs.length≤k.cells.length∧vs.all leaf=true then some (H.set b {k with cells:=splice k.cells o vs})else none
 |none=>none
theorem Ot{b o:Nat}:QC H b o=ld H[b]? o:=rfl
theorem Y7{b o n:Nat}:Kh H b o n=Fw H[b]? o n:=rfl
theorem Dg{b o:Nat}{vs:List CV}:Qs H b o vs=I_ H b H[b]? o vs:=rfl
theorem Qm{cs:List CV}{e o:Nat}:ld (some ⟨cs,.rw,e⟩) o=cs[o]?:=rfl
theorem Gk1{cs:List CV}{e o:Nat}:ld (some ⟨cs,.ro,e⟩) o=cs[o]?:=rfl
theorem Ur{cs:List CV}{e o n:Nat}:Fw (some ⟨cs,.rw,e⟩) o n=if o+n≤cs.length then some ((cs.drop o).take n)else none:=rfl
theorem GbR{cs:List CV}{e o n:Nat}:Fw (some ⟨cs,.ro,e⟩) o n=if o+n≤cs.length then some ((cs.drop o).take n)else none:=rfl
theorem Ro{cs:List CV}{b e o:Nat}{v:CV}(hv:leaf v=true)(h:o<cs.length):I_ H b (some ⟨cs,.rw,e⟩) o [v]=some (H.set b ⟨cs.set o v,.rw,e⟩):=by
 unfold I_
 have hs:splice cs o [v]=cs.set o v:=by
  unfold splice
  rw[List.set_eq_take_append_cons_drop]
  simp[h]
 grind
theorem Giv{t:Bool}{a b:CV}:Gh_ (.bool t) a b H=some (if t then a else b,H):=rfl
theorem Gdc{n b o:Nat}:Rq false n H (.ptr b o)=(QC H b o).map fun v=>(v,H):=rfl
theorem Gdm{n b o:Nat}:Rq true n H (.ptr b o)=(Kh H b o n).map fun cs=>(.agg cs,H):=rfl
theorem EF{n b o:Nat}{v:CV}:MH n H (.ptr b o) v=if(cellsOf v).length=n then(Qs H b o (cellsOf v)).map fun H'=>(.undef,H')else none:=rfl
theorem GlC{b o:Nat}:GkL H (.ptr b o)=some (.ptr b o,H):=rfl
theorem Ghv{k:IntKind}{a b:Int}:UK .add (.int k a) (.int k b) H=some (.int k (k.wrap (a+b)),H):=by simp[UK,Kg]
theorem GhN{k:IntKind}{a b:Int}:UK .sub (.int k a) (.int k b) H=some (.int k (k.wrap (a-b)),H):=by simp[UK,Kg]
theorem Gh0{k:IntKind}{a b:Int}:UK .mul (.int k a) (.int k b) H=some (.int k (k.wrap (a*b)),H):=by simp[UK,Kg]
theorem J9{k:IntKind}{a b:Int}(h:b≠0):UK .quo (.int k a) (.int k b) H=some (.int k (k.wrap (a.tdiv b)),H):=by simp[UK,Kg,h]
theorem GD{k:IntKind}{a b:Int}(h:b≠0):UK .rem (.int k a) (.int k b) H=some (.int k (a.tmod b),H):=by simp[UK,Kg,h]
theorem GfU{k:IntKind}{a b:Int}:UK .eql (.int k a) (.int k b) H=some (.bool (a==b),H):=by simp[UK,Kg]
theorem GgL{k:IntKind}{a b:Int}:UK .neq (.int k a) (.int k b) H=some (.bool (a != b),H):=by simp[UK,Kg]
theorem GfL{k:IntKind}{a b:Int}:UK .lss (.int k a) (.int k b) H=some (.bool (decide (a<b)),H):=by simp[UK,Kg]
theorem Gf4{k:IntKind}{a b:Int}:UK .leq (.int k a) (.int k b) H=some (.bool (decide (a≤b)),H):=by simp[UK,Kg]
theorem Ghy{k:IntKind}{a b:Int}:UK .gtr (.int k a) (.int k b) H=some (.bool (decide (b<a)),H):=by simp[UK,Kg]
theorem Gh8{k:IntKind}{a b:Int}:UK .geq (.int k a) (.int k b) H=some (.bool (decide (b≤a)),H):=by simp[UK,Kg]
theorem GiI{g a b:Bool}:XQ g 0 (.bool a) (.bool b) H=some (.bool (if g then !(a==b)else a==b),H):=rfl
theorem GiY{g:Bool}:XQ g 1 .nilPtr .nilPtr H=some (.bool (if g then false else true),H):=by cases g<;>rfl
theorem Gda{g:Bool}{b o:Nat}:XQ g 1 .nilPtr (.ptr b o) H=some (.bool (if g then true else false),H):=by cases g<;>rfl
theorem Gdp{g:Bool}{b o:Nat}:XQ g 1 (.ptr b o) .nilPtr H=some (.bool (if g then true else false),H):=by cases g<;>rfl
theorem GlP{t:Bool}:GlV (.bool t) H=some (.bool !t,H):=rfl
theorem Ggh{off b o:Nat}:Gb1 off H (.ptr b o)=some (.ptr b (o+off),H):=rfl
theorem Ggr{e b o len cap z:Nat}{t:Bool}{k:IntKind}{i:Int}:JU e (.slice b o len cap z t) (.int k i) H=if 0≤i∧i<(len:Int)then some (.ptr b (o+i.toNat*e),H)else none:=rfl
theorem Gbv{vs:List CV}{i:Nat}:Oa (.Jk vs) i H=vs[i]?.map fun v=>(v,H):=rfl
theorem Gli{b o len cap z:Nat}{t:Bool}:Vs (.slice b o len cap z t) H=some (.i len,H):=rfl
theorem Glh:Vs .Gc H=some (.i 0,H):=rfl
theorem GfG{f:Nat}{caps args:List CV}(hf:f<1000000):Gb4 F (.func f caps) args H=F f (args++caps) H:=if_pos hf
theorem Ghk{cs:List CV}:GbO (some cs) H=some (.agg cs,H):=rfl
theorem Ger{cs:List CV}{e len:Nat}:SH (some cs) e len H=some (.slice H.length 0 len len e false,H++[⟨cs,.rw,e⟩]):=rfl
theorem GgS{v:CV}:Gbs (some v) H=some (v,H):=rfl
theorem R8{e n:Nat}{s:CV}{new:List CV}:GcK e s (some (n,new)) H=Jq H e s n new:=rfl
theorem Gut{n b o:Nat}:rc H false n (.ptr b o)=QC H b o:=rfl
theorem Gnv{n b o:Nat}:rc H true n (.ptr b o)=(Kh H b o n).map .agg:=rfl
theorem GeY{f:Nat→CV}{k:JD}:made H (some k,f)=(f H.length,H++[k]):=rfl
theorem Gh{n:Int}(h: -9223372036854775808≤n∧n≤9223372036854775807):IntKind.i64.wrap n=n:=by
 by_cases h0:0≤n
 ·have e:n % (2 ^ 64:Int)=n:=by omega
  simp only[IntKind.wrap,IntKind.bits,IntKind.signed,e]
  grind
 ·have e:n % (2 ^ 64:Int)=n+18446744073709551616:=by omega
  simp only[IntKind.wrap,IntKind.bits,IntKind.signed,e]
  grind
end
def csA:=And.intro @Gf6<|And.intro @Gkl<|And.intro @GgV<|And.intro @Gct<|And.intro @Gar<|And.intro @GiD<|And.intro @Gg_<|And.intro @GdK<|And.intro @Gcq<|And.intro @Gi5<|And.intro @Gfw<|And.intro @R9<|And.intro @Glc<|And.intro @Gir<|And.intro @Ghn<|And.intro @Gom<|And.intro @GoJ<|And.intro @Gof<|And.intro @Go6<|And.intro @Glr<|And.intro @Gqn<|And.intro @Gso<|And.intro @Gmg<|And.intro @Gd5<|And.intro @Gob<|And.intro @Goi<|And.intro @GoB<|And.intro @GnL<|And.intro @GkU<|And.intro @GgZ<|And.intro @GhP<|And.intro @Gb2<|And.intro @GgF @Gg
def csB:=And.intro @GbV<|And.intro @Gaa<|And.intro @SV<|And.intro @Gjo<|And.intro @Ghm<|And.intro @GjA<|And.intro @GiJ<|And.intro @Gdw<|And.intro @LD<|And.intro @GfR<|And.intro @GeJ<|And.intro @TA<|And.intro @Gkf<|And.intro @GjQ<|And.intro @Gjz<|And.intro @Gj9<|And.intro @Ov<|And.intro @Pw<|And.intro @GeZ<|And.intro @GdG<|And.intro @Ge8<|And.intro @Xe<|And.intro @Gbw<|And.intro @Gcb<|And.intro @GhH @GdO
def csV:=And.intro @Giv<|And.intro @Gdc<|And.intro @Gdm<|And.intro @GlC<|And.intro @Ghv<|And.intro @GhN<|And.intro @Gh0<|And.intro @GfU<|And.intro @GgL<|And.intro @GfL<|And.intro @Gf4<|And.intro @Ghy<|And.intro @Gh8<|And.intro @GiI<|And.intro @GiY<|And.intro @Gda<|And.intro @Gdp<|And.intro @GlP<|And.intro @Ggh<|And.intro @Gbv<|And.intro @Gli<|And.intro @Glh<|And.intro @GfG<|And.intro @Ghk<|And.intro @Ger<|And.intro @GgS<|And.intro @R8<|And.intro @Gut<|And.intro @Gnv<|And.intro @Ot<|And.intro @Y7<|And.intro @Dg<|And.intro @Qm @Gk1
end Go.Cs
namespace Go.Cs
open Go
theorem Gf{α:Type}{l:List α}{i:Nat}{k:α}(h:l[i]?=some k):i<l.length:=by
 grind
section
variable {F : Jl} {H : Gb}
theorem Goo{a b:Int}(h:a<b):decide (a<b)=true:=G7 h
theorem GnC{a b:Int}(h:b≤a):decide (a<b)=false:=G5 oM
theorem Gnd{a b:Int}(h:a≤b):decide (a≤b)=true:=G7 h
theorem Gni{a b:Int}(h:b<a):decide (a≤b)=false:=G5 oM
theorem GkD{a b:Int}(h:a=b):(a==b)=true:=by simp[h]
theorem Gkx{a b:Int}(h:a≠b):(a==b)=false:=by simp[h]
theorem Goj{a b:Int}(h:a≠b):(a != b)=true:=by simp[h]
theorem GnI{a b:Int}(h:a=b):(a != b)=false:=by simp[h]
theorem Uq{e b o len cap z:Nat}{t:Bool}{k:IntKind}{i:Int}(h:0≤i∧i<(len:Int)):JU e (.slice b o len cap z t) (.int k i) H=some (.ptr b (o+i.toNat*e),H):=by
 rw[Ggr,if_pos h]
theorem ZK{Jd:Nat}{z:List CV}{l c:Int}(h:0≤l∧l≤c∧c≤16777216):Gf0 Jd z (.i l) (.i c) H=some (.slice H.length 0 l.toNat c.toNat Jd false,H++[⟨(List.replicate c.toNat z).flatten,.rw,Jd⟩]):=by
 show(if 0≤l∧l≤c∧c≤16777216 then _ else _)=_;rw[if_pos h]
theorem Yz{n b o:Nat}{v:CV}(h:ld H[b]? o=some v):Rq false n H (.ptr b o)=some (v,H):=by rw[Gdc,Ot,h];rfl
theorem GdX{l:Gb}{a:JD}{i:Nat}(h:i=l.length):(l++[a])[i]?=some a:=by subst h;simp
theorem Gkj{l:Gb}{a:JD}{i:Nat}(h:i<l.length):(l++[a])[i]?=l[i]?:=by rw[I7 h]
theorem Gah{l:Gb}{x:JD}{c i:Nat}(h:c≠i):(l.set c x)[i]?=l[i]?:=by rw[NA h]
theorem Wj{l:Gb}{x:JD}{c i:Nat}(h:c=i∧c<l.length):(l.set c x)[i]?=some x:=by
 grind
theorem GfB{l:Gb}{a x:JD}{i:Nat}(h:i=l.length):(l++[a]).set i x=l++[x]:=by
 simp_all
theorem Gm4{l:Gb}{a x:JD}{i:Nat}(h:i<l.length):(l++[a]).set i x=l.set i x++[a]:=by rw[List.set_append_left _ _ h]
theorem Ya{cs vs:List CV}{b e o:Nat}(h:o+vs.length≤cs.length)(hl:vs.all leaf=true):I_ H b (some ⟨cs,.rw,e⟩) o vs=some (H.set b ⟨splice cs o vs,.rw,e⟩):=by
 unfold I_
 simp only[h,hl,and_self,if_true]
theorem Ve{cs:List CV}{b e o:Nat}{v:CV}(hv:leaf v=true)(h:o<cs.length):I_ H b (some ⟨cs,.rw,e⟩) o [v]=some (H.set b ⟨cs.set o v,.rw,e⟩):=Ro hv h
theorem Gmm{cs:List CV}{e o n:Nat}(h:o+n≤cs.length):Fw (some ⟨cs,.rw,e⟩) o n=some ((cs.drop o).take n):=by rw[Ur,if_pos h]
theorem GiP{cs:List CV}{e o n:Nat}(h:o+n≤cs.length):Fw (some ⟨cs,.ro,e⟩) o n=some ((cs.drop o).take n):=by rw[GbR,if_pos h]
theorem Aq{cs:List CV}:cellsOf (.agg cs)=cs:=rfl
theorem Hr{k:IntKind}{n:Int}:cellsOf (.int k n)=[.int k n]:=rfl
theorem Zc{b:Bool}:cellsOf (.bool b)=[.bool b]:=rfl
theorem Hw{b o:Nat}:cellsOf (.ptr b o)=[.ptr b o]:=rfl
theorem GaW:cellsOf .nilPtr=[.nilPtr]:=rfl
theorem BI{b o len cap e:Nat}{t:Bool}:cellsOf (.slice b o len cap e t)=[.slice b o len cap e t]:=rfl
theorem ML:cellsOf .Gc=[.Gc]:=rfl
theorem T9{f:Nat}{cs:List CV}:cellsOf (.func f cs)=[.func f cs]:=rfl
theorem UJ{v:CV}(h:leaf v=true):cellsOf v=[v]:=by cases v<;>first|rfl|cases h
theorem Jo{k:IntKind}{n:Int}:leaf (.int k n)=true:=rfl
theorem NZ{b:Bool}:leaf (.bool b)=true:=rfl
theorem LQ{b o:Nat}:leaf (.ptr b o)=true:=rfl
theorem GcH:leaf .nilPtr=true:=rfl
theorem Dx{b o len cap e:Nat}{t:Bool}:leaf (.slice b o len cap e t)=true:=rfl
theorem Gdf:leaf .Gc=true:=rfl
theorem R3{f:Nat}{cs:List CV}:leaf (.func f cs)=true:=rfl
theorem Gc3:leaf .nilFunc=true:=rfl
theorem Xu{cs:List CV}:fill cs []=some cs:=rfl
theorem R4{cs:List CV}{off size:Nat}{v:CV}{r:List (Nat×Nat×CV)}(h:(cellsOf v).length=size∧off+size≤cs.length):fill cs ((off,size,v)::r)=fill (splice cs off (cellsOf v)) r:=by
 conv=>lhs;unfold fill
 rw[if_pos h]
theorem Gee{cs:List CV}{off:Nat}{v:CV}{r:List (Nat×Nat×CV)}(hv:leaf v=true)(h:off+1≤cs.length):fill cs ((off,1,v)::r)=fill (splice cs off [v]) r:=by
 rw[R4 ⟨by rw[UJ hv];rfl,h⟩,UJ hv]
theorem WZ{E:Env}:KM E []=[]:=rfl
theorem SB{E:Env}{a b:Nat}{v:J8}{r:List (Nat×Nat×J8)}:KM E ((a,b,v)::r)=(a,b,E.ev v)::KM E r:=rfl
theorem GdE{n b o:Nat}{v:CV}(h:(cellsOf v).length=n):MH n H (.ptr b o) v=(I_ H b H[b]? o (cellsOf v)).map fun H'=>(.undef,H'):=by rw[EF,if_pos h];rfl
theorem Lx{b o:Nat}{v:CV}(h:leaf v=true):MH 1 H (.ptr b o) v=(I_ H b H[b]? o [v]).map fun H'=>(.undef,H'):=by
 rw[EF,UJ h,if_pos (show [v].length=1 from rfl)];rfl
theorem Gj0{e:Nat}:elems H e .Gc=some (0,[]):=rfl
theorem GjM{b o c e z:Nat}{t:Bool}:elems H e (.slice b o 0 c z t)=some (0,[]):=rfl
theorem J7{b o n c e z:Nat}{t:Bool}(h:0<n):elems H e (.slice b o n c z t)=(Fw H[b]? o (n*e)).map fun cs=>(n,cs):=by
 unfold elems;dsimp only;rw[if_neg oM];rfl
theorem GhA{cs:List CV}{o:Nat}{v:CV}(h:o<cs.length):splice cs o [v]=cs.set o v:=by
 unfold splice
 rw[List.set_eq_take_append_cons_drop]
 simp[h]
theorem GbK{cs vs:List CV}(h:vs.length=cs.length):splice cs 0 vs=vs:=by
 unfold splice;simp[h]
theorem GbZ{cs:List CV}{o:Nat}:splice cs o []=cs:=by unfold splice;simp
theorem GgT{cs vs:List CV}{a v:CV}:splice (a::cs) 0 (v::vs)=v::splice cs 0 vs:=by unfold splice;simp
theorem Ggp{cs vs:List CV}{a:CV}{o:Nat}:splice (a::cs) (o+1) vs=a::splice cs o vs:=by
 unfold splice
 grind
def FR(x:CV)(m:Nat):Option Nat:=match x with
 |.int _ i=>if 0≤i∧i≤(m:Int)then some i.toNat else none
 |_=>none
def VR(x:Option CV)(m d:Nat):Option Nat:=match x with
 |some v=>FR v m
 |none=>some d
def Qt(len cap:Nat)(lo hi mx:Option CV):Option (Nat×Nat×Nat):=
 if mx.isSome=true∧hi.isNone=true then none else
 (VR mx cap cap).bind fun m=>(VR hi m len).bind fun h=>(VR lo h 0).bind fun l=>some (l,h,m)
def Qe(Jd:Nat)(x:CV)(lo hi mx:Option CV):Option CV:=match x with
 |.Gc=>(Qt 0 0 lo hi mx).map fun _=>.Gc
 |.slice b o len cap e tail=>if e=Jd∧len≤cap then(Qt len cap lo hi mx).map fun r=>.slice b (o+r.1*Jd) (r.2.1-r.1) (r.2.2-r.1) e (tail&&mx.isNone)else none
 |_=>none
theorem F9{E:Env}{Jd:Nat}{x:CV}{lo hi mx:Option J8}:sliceTo E Jd x lo hi mx=Qe Jd x (lo.map E.ev) (hi.map E.ev) (mx.map E.ev):=by
 cases lo<;>cases hi<;>cases mx<;>cases x<;>rfl
def GbX(zero:List CV)(s:CV)(H:Gb):Option (CV×Gb):=match s with
 |.slice b o len _ _ _=>if len=0 then some (.Jk [],H)else(Qs H b o (List.replicate len zero).flatten).map fun H'=>(.Jk [],H')
 |.Gc=>some (.Jk [],H)
 |_=>none
theorem GeX{E:Env}{zero:List CV}{s:J8}:Ky F (.clear zero s) E H=GbX zero (E.ev s) H:=rfl
theorem GgH{zero:List CV}{b o len c e:Nat}{t:Bool}(h:0<len):GbX zero (.slice b o len c e t) H=(I_ H b H[b]? o (List.replicate len zero).flatten).map fun H'=>(.Jk [],H'):=by
 unfold GbX;dsimp only;rw[if_neg oM];rfl
theorem Gl8{a:Bool}:(if true=true then !a else a)=!a:=rfl
end
def GqN:=And.intro @Goo<|And.intro @GnC<|And.intro @Gnd<|And.intro @Gni<|And.intro @GkD<|And.intro @Gkx<|And.intro @Goj<|And.intro @GnI<|And.intro @Uq<|And.intro @ZK<|And.intro @GdX<|And.intro @Gkj<|And.intro @Gah<|And.intro @Wj<|And.intro @GfB<|And.intro @Gm4<|And.intro @Ya<|And.intro @Gmm<|And.intro @GiP<|And.intro @Gh<|And.intro @F9<|And.intro @Lx<|And.intro @GeX<|And.intro @GgH @GdE
def Gub:=And.intro @Aq<|And.intro @Hr<|And.intro @Zc<|And.intro @Hw<|And.intro @GaW<|And.intro @BI<|And.intro @ML<|And.intro @T9<|And.intro @Jo<|And.intro @NZ<|And.intro @LQ<|And.intro @GcH<|And.intro @Dx<|And.intro @Gdf<|And.intro @R3<|And.intro @Gc3<|And.intro @Xu<|And.intro @Gee<|And.intro @R4<|And.intro @GbZ<|And.intro @GgT<|And.intro @Ggp<|And.intro @GhA<|And.intro @GbK<|And.intro @WZ<|And.intro @SB<|And.intro @Gj0<|And.intro @GjM @J7
end Go.Cs
namespace Go.Cs
open Go
section
variable {α : Type} {F : Jl} {E : Env} {H : Gb}
noncomputable def musts(op:Ki)(E:Env)(m:Option JD×(Nat→CV))(x:Option α):List Gb→Keep x→Option α
 |[],_=>x
 |a::l,_=>must (G8 op E a=some m) (musts op E m x l ⟨⟩) ⟨⟩
theorem Ge1{op:Ki}{m:Option JD×(Nat→CV)}{x:Option α}{h:Keep x}:musts op E m x [] h=x:=rfl
theorem O5{op:Ki}{m:Option JD×(Nat→CV)}{x:Option α}{a:Gb}{l:List Gb}{h:Keep x}:musts op E m x (a::l) h=must (G8 op E a=some m) (musts op E m x l ⟨⟩) ⟨⟩:=rfl
theorem GaD{op:Ki}{m:Option JD×(Nat→CV)}{x:Option α}:∀{l:List Gb},must (∀H'∈l,G8 op E H'=some m) x ⟨⟩=musts op E m x l ⟨⟩
 |[]=>by rw[Gdb sM];rfl
 |a::l=>by
  rw[O5,←GaD (l:=l)]
  unfold must
  grind
theorem Gis{d:Option Nat}{op:Ki}{no low:Nat}{r:List GC}{hs:List Gb}{k:Env→Gb→Option α}{h:Keep ((⟨⟨d,none,op⟩,no,1,low⟩::r:List GC),k)}:
  Z6 F (⟨⟨d,none,op⟩,no,1,low⟩::r) E H hs k h=mk1 (G8 op E H) (fun m=>musts op E m (Z6 F r (E.put d (made H m).1) (made H m).2 hs k ⟨⟩) (hs.take (hs.length-low)) ⟨⟩) ⟨⟩:=by
 rw[GlX]
 unfold mk1
 congr 1
 funext m
 exact GaD
abbrev Ra:=Option JD×(Nat→CV)
def okV(v:CV):Option Ra:=some (none,fun _=>v)
theorem GlO{v:CV}{k:Ra→Option α}{h:Keep k}:mk1 (okV v) k h=k (none,fun _=>v):=rfl
theorem GjD{v:CV}:made H (none,fun _=>v)=(v,H):=rfl
theorem GhV{b:JD}{o:Nat}:made H (some b,fun k=>.ptr k o)=(.ptr H.length o,H++[b]):=rfl
theorem GbE{b:JD}{o n c e:Nat}{t:Bool}:made H (some b,fun k=>.slice k o n c e t)=(.slice H.length o n c e t,H++[b]):=rfl
theorem Gi3{v:CV}{x:Option α}{h:Keep x}:must (okV v=some (none,fun _=>v)) x h=x:=Gdb rfl
def GcE(g:Bool)(n:Nat)(H:Gb):CV→Option Ra
 |.ptr b o=>if g then(Fw H[b]? o n).bind fun cs=>okV (.agg cs)else(ld H[b]? o).bind okV
 |_=>none
def Gkd:CV→Option Ra
 |.ptr b o=>okV (.ptr b o)
 |.iface t c=>okV (.iface t c)
 |_=>none
def GbS(off:Nat):CV→Option Ra
 |.ptr b o=>okV (.ptr b (o+off))
 |_=>none
def YV(Jd:Nat)(x i:CV):Option Ra:=match x,i with
 |.slice b o len _ _ _,.int _ i=>if 0≤i∧i<(len:Int)then okV (.ptr b (o+i.toNat*Jd))else none
 |_,_=>none
def Gg6:CV→Option Ra
 |.slice _ _ len _ _ _=>okV (.i len)
 |.Gc=>okV (.i 0)
 |_=>none
def OA(x:CV)(i:Nat):Option Ra:=match x with|.Jk vs=>vs[i]?.bind okV|_=>none
def Q7(op:BinOp)(x y:CV):Option Ra:=match x,y with
 |.int k a,.int k' b=>if k=k' then(Kg op k a b).bind okV else none
 |_,_=>none
def GkM:CV→Option Ra
 |.bool t=>okV (.bool !t)
 |_=>none
def Ggo(c a b:CV):Option Ra:=match c with|.bool t=>okV (if t then a else b)|_=>none
def GnH(g:Bool)(ty:Nat)(x y:CV):Option Ra:=(OC ty x y).bind fun t=>okV (.bool (if g then !t else t))
def GkF(Jd:Nat)(z:List CV)(l c:CV):Option Ra:=match l,c with
 |.int .i64 l,.int .i64 c=>if 0≤l∧l≤c∧c≤(JF:Int)then some (some ⟨(List.replicate c.toNat z).flatten,.rw,Jd⟩,fun k=>.slice k 0 l.toNat c.toNat Jd false)else none
 |_,_=>none
def Gbu(o:Option (List CV)):Option Ra:=o.bind fun cs=>okV (.agg cs)
def SC(o:Option (List CV))(Jd len:Nat):Option Ra:=o.bind fun cs=>some (some ⟨cs,.rw,Jd⟩,fun k=>.slice k 0 len len Jd false)
def Gb0(o:Option CV):Option Ra:=o.bind okV
theorem GlR{x:J8}:G8 (.JR x) E H=okV (E.ev x):=rfl
theorem Gmt{cs:List CV}:G8 (.new cs) E H=some (some ⟨cs,.rw,0⟩,fun k=>.ptr k 0):=rfl
theorem Glv{x:J8}:G8 (.box x) E H=some (some ⟨cellsOf (E.ev x),.rw,0⟩,fun k=>.ptr k 0):=rfl
theorem GdD{f:Nat}{cs:List J8}:G8 (.NI f cs) E H=okV (.func f (cs.map E.ev)):=rfl
theorem GjL{c a b:J8}:G8 (.pick c a b) E H=Ggo (E.ev c) (E.ev a) (E.ev b):=by simp only[G8,Ggo];cases E.ev c<;>rfl
theorem GjE{g:Bool}{n:Nat}{a:J8}:G8 (.load g n a) E H=GcE g n H (E.ev a):=by
 simp only[G8,GcE]
 cases E.ev a<;>first|rfl|skip
 rename_i b o
 cases g
 ·simp only[Bool.false_eq_true,if_false,Ot];cases ld H[b]? o<;>rfl
 ·simp only[if_true,Y7];cases Fw H[b]? o n<;>rfl
theorem Xx{x:J8}:G8 (.nilCheck x) E H=Gkd (E.ev x):=by simp only[G8,Gkd];cases E.ev x<;>rfl
theorem GhC{off:Nat}{x:J8}:G8 (.field off x) E H=GbS off (E.ev x):=by simp only[G8,GbS];cases E.ev x<;>rfl
theorem Gml{x:J8}:G8 (.len x) E H=Gg6 (E.ev x):=by simp only[G8,Gg6];cases E.ev x<;>rfl
theorem GlL{x:J8}:G8 (.not x) E H=GkM (E.ev x):=by simp only[G8,GkM];cases E.ev x<;>rfl
theorem Gg3{Jd:Nat}{x i:J8}:G8 (.index Jd x i) E H=YV Jd (E.ev x) (E.ev i):=by
 simp only[G8,YV]
 cases E.ev x<;>cases E.ev i<;>rfl
theorem Gb9{x:J8}{i:Nat}:G8 (.extract x i) E H=OA (E.ev x) i:=by
 simp only[G8,OA]
 cases E.ev x<;>first|rfl|skip
 rename_i vs
 dsimp only
 cases vs[i]?<;>rfl
theorem Gl4{op:BinOp}{x y:J8}:G8 (.bin op x y) E H=Q7 op (E.ev x) (E.ev y):=by
 simp only[G8,Q7]
 cases E.ev x<;>cases E.ev y<;>first|rfl|skip
 rename_i k a k' b
 dsimp only
 cases Kg op k a b<;>rfl
theorem Gmp{g:Bool}{ty:Nat}{x y:J8}:G8 (.eqv g ty x y) E H=GnH g ty (E.ev x) (E.ev y):=by
 simp only[G8,GnH]<;>cases OC ty (E.ev x) (E.ev y)<;>rfl
theorem TN{Jd:Nat}{z:List CV}{l c:J8}:G8 (.makeSlice Jd z l c) E H=GkF Jd z (E.ev l) (E.ev c):=rfl
theorem Ghz{z:List CV}{ps:List (Nat×Nat×J8)}:G8 (.build z ps) E H=Gbu (fill z (KM E ps)):=by
 simp only[G8,Gbu]<;>cases fill z (KM E ps)<;>rfl
theorem PN{Jd len:Nat}{z:List CV}{ps:List (Nat×Nat×J8)}:G8 (.buildSlice Jd z len ps) E H=SC (fill z (KM E ps)) Jd len:=by
 simp only[G8,SC]<;>cases fill z (KM E ps)<;>rfl
theorem M6{Jd:Nat}{x:J8}{lo hi mx:Option J8}:G8 (.slice Jd x lo hi mx) E H=Gb0 (sliceTo E Jd (E.ev x) lo hi mx):=by
 simp only[G8,Gb0]<;>cases sliceTo E Jd (E.ev x) lo hi mx<;>rfl
theorem GjX{n b o:Nat}:GcE false n H (.ptr b o)=(ld H[b]? o).bind okV:=rfl
theorem Gjp{n b o:Nat}:GcE true n H (.ptr b o)=(Fw H[b]? o n).bind fun cs=>okV (.agg cs):=rfl
theorem Gma{b o:Nat}:Gkd (.ptr b o)=okV (.ptr b o):=rfl
theorem GfZ{off b o:Nat}:GbS off (.ptr b o)=okV (.ptr b (o+off)):=rfl
theorem Yk{e b o len cap z:Nat}{t:Bool}{k:IntKind}{i:Int}(h:0≤i∧i<(len:Int)):YV e (.slice b o len cap z t) (.int k i)=okV (.ptr b (o+i.toNat*e)):=by
 show(if _ then _ else _)=_;rw[if_pos h]
theorem Glf{b o len cap z:Nat}{t:Bool}:Gg6 (.slice b o len cap z t)=okV (.i len):=rfl
theorem GlK:Gg6 .Gc=okV (.i 0):=rfl
theorem DU{v:CV}{n:Int}(h:∀H,Vs v H=some (.i n,H)):Gg6 v=okV (.i n):=by
 have:=h []
 cases v<;>simp[Vs]at this<;>(rw[←this];rfl)
theorem Gcu{vs:List CV}{i:Nat}:OA (.Jk vs) i=vs[i]?.bind okV:=rfl
theorem Gl1{t:Bool}:GkM (.bool t)=okV (.bool !t):=rfl
theorem Gin{t:Bool}{a b:CV}:Ggo (.bool t) a b=okV (if t then a else b):=rfl
theorem Gg1{k:IntKind}{a b:Int}:Q7 .add (.int k a) (.int k b)=okV (.int k (k.wrap (a+b))):=by simp[Q7,Kg]
theorem Gg2{k:IntKind}{a b:Int}:Q7 .sub (.int k a) (.int k b)=okV (.int k (k.wrap (a-b))):=by simp[Q7,Kg]
theorem Gge{k:IntKind}{a b:Int}:Q7 .eql (.int k a) (.int k b)=okV (.bool (a==b)):=by simp[Q7,Kg]
theorem Ghx{k:IntKind}{a b:Int}:Q7 .neq (.int k a) (.int k b)=okV (.bool (a != b)):=by simp[Q7,Kg]
theorem GhO{k:IntKind}{a b:Int}:Q7 .lss (.int k a) (.int k b)=okV (.bool (decide (a<b))):=by simp[Q7,Kg]
theorem GfY{k:IntKind}{a b:Int}:Q7 .leq (.int k a) (.int k b)=okV (.bool (decide (a≤b))):=by simp[Q7,Kg]
theorem GfI{k:IntKind}{a b:Int}:Q7 .gtr (.int k a) (.int k b)=okV (.bool (decide (b<a))):=by simp[Q7,Kg]
theorem Ghr{k:IntKind}{a b:Int}:Q7 .geq (.int k a) (.int k b)=okV (.bool (decide (b≤a))):=by simp[Q7,Kg]
theorem U1{Jd:Nat}{z:List CV}{l c:Int}(h:0≤l∧l≤c∧c≤16777216):GkF Jd z (.i l) (.i c)=some (some ⟨(List.replicate c.toNat z).flatten,.rw,Jd⟩,fun k=>.slice k 0 l.toNat c.toNat Jd false):=by
 show(if 0≤l∧l≤c∧c≤16777216 then _ else _)=_;rw[if_pos h]
theorem Gfl{cs:List CV}:Gbu (some cs)=okV (.agg cs):=rfl
theorem GdT{cs:List CV}{e len:Nat}:SC (some cs) e len=some (some ⟨cs,.rw,e⟩,fun k=>.slice k 0 len len e false):=rfl
theorem Mq{v:CV}:Gb0 (some v)=okV v:=rfl
end
def GpO:=And.intro @Ghf<|And.intro @Gmv<|And.intro @Gis<|And.intro @GmC<|And.intro @GkX<|And.intro @Ge1<|And.intro @O5<|And.intro @Ge_<|And.intro @Gi3<|And.intro @GgR<|And.intro @GlO<|And.intro @GjD<|And.intro @GhV<|And.intro @GbE<|And.intro @GlR<|And.intro @Gmt<|And.intro @Glv<|And.intro @GdD<|And.intro @GjL<|And.intro @GjE<|And.intro @Xx<|And.intro @GhC<|And.intro @Gml<|And.intro @GlL<|And.intro @Gg3<|And.intro @Gb9 @Gl4
def Gsv:=And.intro @Gmp<|And.intro @TN<|And.intro @Ghz<|And.intro @PN<|And.intro @M6<|And.intro @GjX<|And.intro @Gjp<|And.intro @Gma<|And.intro @GfZ<|And.intro @Yk<|And.intro @Glf<|And.intro @GlK<|And.intro @Gcu<|And.intro @Gl1<|And.intro @Gin<|And.intro @Gg1<|And.intro @Gg2<|And.intro @Gge<|And.intro @Ghx<|And.intro @GhO<|And.intro @GfY<|And.intro @GfI<|And.intro @Ghr<|And.intro @U1<|And.intro @Gfl<|And.intro @GdT @Mq
end Go.Cs
namespace Go.Cs
open Go Go.RowKit Go.ChangeShapes Go.WideShapes
inductive FK where
 |int (k:IntKind)
 |bool
 deriving DecidableEq,Inhabited
def FK.fits:FK→CV→Prop
 |.int k,c=>∃n,c=.int k n∧k.min≤n∧n≤k.max
 |.bool,c=>∃b,c=.bool b
def Ggd(P:Program)(F:TypeId→Option (List FK)):Nat→List Field→Option (List FK)
 |_,[]=>some []
 |o,f::r=>if f.offset=o then(F f.type).bind fun a=>if P.cellsOf f.type=a.length then(Ggd P F (o+a.length) r).map (a++·)else none else none
def flatK(P:Program):Nat→TypeId→Option (List FK)
 |0,_=>none
 |n+1,t=>match P.underlying t with
  |some (.int k)=>some [.int k]
  |some .bool=>some [.bool]
  |some (.struct fs)=>Ggd P (flatK P n) 0 fs.toList
  |some (.array m e)=>(flatK P n e).bind fun a=>if P.cellsOf e=a.length then some (List.replicate m a).flatten else none
  |_=>none
def Flat(ks:List FK)(cs:List Value):Prop:=cs.length=ks.length∧∀(i:Nat)(k:FK),ks[i]?=some k→∃(v:Value)(c:CV),cs[i]?=some v∧k.fits c∧Zx v=some c∧∀μ,V μ c v
theorem Flat.app{ks ks':List FK}{cs cs':List Value}(h:Flat ks cs)(h':Flat ks' cs'):Flat (ks++ks') (cs++cs'):=by
 refine⟨by simp[h.1,h'.1],fun i k hi=>?_⟩
 rw[Glu]at hi⊢
 rw[h.1]
 split at hi
 ·rename_i hl;rw[if_pos hl];exact h.2 i k hi
 ·rename_i hl;rw[if_neg hl];exact h'.2 _ k hi
section
variable {H : Type} {enc : TypeId × Value → H} {P : Program} {w : World} {base : Nat} {spare : Nat → Bool} {held : Bool}
theorem Wq{n fuel:Nat}(ih:∀t ks cs x,flatK P n t=some ks→DataW.trod enc P w base spare held fuel t cs=some x→P.cellsOf t=ks.length→cs.length=ks.length→Flat ks cs):
  ∀(fs:List Field)(o:Nat)(ks:List FK)(cs:List Value),Ggd P (flatK P n) o fs=some ks→cs.length=o+ks.length→
   (∀f∈fs,∃x,DataW.trod enc P w base spare held fuel f.type ((cs.drop f.offset).take (P.cellsOf f.type))=some x)→Flat ks (cs.drop o)
 |[],o,ks,cs,h,hl,_=>by
  simp only[Ggd,GA]at h
  subst h
  exact⟨by simp[hl],fun i k hi=>by simp at hi⟩
 |f::r,o,ks,cs,h,hl,hf=>by
  unfold Ggd at h
  split at h
  ·rename_i ho
   rw[Jt]at h
   obtain⟨a,ha,h⟩:=h
   split at h
   ·rename_i hc
    rw[GJ]at h
    obtain⟨ks',hk,rfl⟩:=h
    obtain⟨x,hx⟩:=hf f Nr
    rw[QU]at hl
    have h1:=ih f.type a _ x ha hx hc (by rw[List.length_take,List.length_drop,hc,ho];omega)
    have h2:=Wq ih r (o+a.length) ks' cs hk oM (fun g hg=>hf g (U5 _ hg))
    have:=h1.app h2
    rw[ho,hc,←List.drop_drop,List.take_append_drop]at this
    exact this
   ·cases h
  ·cases h
theorem Fg:∀(n fuel:Nat)(t:TypeId)(ks:List FK)(cs:List Value)(x:DataW H×List MemPlace),flatK P n t=some ks→DataW.trod enc P w base spare held fuel t cs=some x→P.cellsOf t=ks.length→Flat ks cs
 |0,_,_,_,_,_,h,_,_=>by cases h
 |n+1,fuel,t,ks,cs,x,h,hx,hc=>by
  unfold flatK at h
  split at h
  ·rename_i k ht
   simp only[GA]at h
   subst h
   obtain⟨m,rfl,-,hw⟩:=DataW.trod_int ht hx
   simp only[Lit.wf,Qj,decide_eq_true_eq]at hw
   refine⟨rfl,fun i k' hi=>?_⟩
   cases i with
   |zero=>
    simp only[List.getElem?_cons_zero,GA]at hi
    subst hi
    exact⟨_,.int k m,rfl,⟨m,rfl,hw⟩,rfl,fun μ=>by simp[V]⟩
   |succ i=>simp at hi
  ·rename_i ht
   simp only[GA]at h
   subst h
   obtain⟨b,rfl,-⟩:=DataW.trod_bool ht hx
   refine⟨rfl,fun i k' hi=>?_⟩
   cases i with
   |zero=>
    simp only[List.getElem?_cons_zero,GA]at hi
    subst hi
    exact⟨_,.bool b,rfl,⟨b,rfl⟩,rfl,fun μ=>by simp[V]⟩
   |succ i=>simp at hi
  ·rename_i fs ht
   obtain⟨xs,m,rfl,-,hl,hxl,hf⟩:=DataW.trod_struct ht hx
   have:=Wq (n:=n) (fuel:=m) (fun t ks cs x h1 h2 h3 _=>Fg n m t ks cs x h1 h2 h3) fs.toList 0 ks cs h oM (fun f hfm=>by
    obtain⟨i,hi,e⟩:=List.mem_iff_getElem.1 hfm
    have e':fs[i]?=some f:=by
     simp only[Array.getElem_toList]at e
     rw[←e];exact Gf3 (by simpa using hi)
    refine⟨_,(hf i f e').trans (JG (by simp at hi;omega))⟩)
   simpa using this
  ·rename_i m e ht
   rw[Jt]at h
   obtain⟨a,ha,h⟩:=h
   split at h
   ·rename_i hce
    simp only[GA]at h
    subst h
    obtain⟨xs,k,rfl,-,hl,hxl,hf⟩:=DataW.trod_array ht hx
    have key:∀(j:Nat),j≤m→Flat (List.replicate j a).flatten (cs.take (j*a.length)):=by
     intro j
     induction j with
     |zero=>intro _;exact⟨sM,fun i k hi=>by simp at hi⟩
     |succ j ih=>
      intro hj
      have hx2:=hf j oM
      rw[JG oM,hce]at hx2
      have h1:=Fg n k e a _ _ ha hx2 hce
      have h2:=(ih oM).app h1
      rw[List.replicate_succ',List.flatten_append,show(j+1)*a.length=j*a.length+a.length by rw[Nat.add_mul,Nat.one_mul],List.take_add]
      simpa using h2
    have hlen:((List.replicate m a).flatten).length=m*a.length:=by simp
    have:=key m (Nat.le_refl m)
    rw[QA (by rw[hl,hc,hlen];exact Nat.le_refl _)]at this
    exact this
   ·cases h
  ·cases h
end
def GcG(W:World)(blk:JD)(tg:Option ZF):Prop:=
 blk.mode≠.dead→∀m,tg=some m→blk.mode=.ro∧m.c<W.heap.size∧∃arr T fz,W.heap[m.c]?=some (.cells arr T fz)∧∀(i:Nat)(c:CV),blk.cells[i]?=some c→∃v,arr[m.s+i]?=some v∧∀μ,V μ c v
def GnQ(cv:Nat→CV)(blk:JD)(ks:List FK)(l:List (List CV)):Prop:=
 (∀j H',Vs (cv j) H'=some (.i l.length,H'))∧(l≠[]→(∃cap,l.length≤cap∧∀j,cv j=.slice j 0 l.length cap ks.length false)∧blk.mode=.ro∧blk.Jd=ks.length∧∀(i:Nat)(x:List CV),l[i]?=some x→i*ks.length+ks.length≤blk.cells.length∧(blk.cells.drop (i*ks.length)).take ks.length=x)∧
  ∀x∈l,x.length=ks.length∧∀(i:Nat)(k:FK),ks[i]?=some k→∃c,x[i]?=some c∧k.fits c
theorem OV{α:Type}{n:Nat}{p:Nat→α→Prop}(h:∀i,i<n→∃a,p i a):∃l:List α,l.length=n∧∀i a,l[i]?=some a→p i a:=by
 induction n with
 |zero=>exact⟨[],rfl,fun i a h=>by simp at h⟩
 |succ n ih=>
  obtain⟨l,hl,hp⟩:=ih fun i hi=>h i oM
  obtain⟨a,ha⟩:=h n oM
  refine⟨l++[a],by simp[hl],fun i b hb=>?_⟩
  rw[Glu]at hb
  split at hb
  ·exact hp i b hb
  ·have hi:=Gf hb
   simp only[List.length_singleton]at hi
   have:i=n:=by omega
   subst this
   simp[hl]at hb
   subst hb;exact ha
theorem Q_{H:Type}{enc:TypeId×Value→H}{P:Program}{W:World}{base:Nat}{r:Reach}{b0:Nat}{held:Bool}{t e:TypeId}{v:Value}{d:DataW H}{ps:List MemPlace}{n:Nat}{ks:List FK}
  (ht:P.underlying t=some (.slice e))(he:flatK P n e=some ks)(hc:P.cellsOf e=ks.length)(hk:0<ks.length)
  (hval:Value.okWide P W r b0 t v)(hd:DataW.Trod enc P W base (fun _=>true) held t v d ps):
  ∃(cv:Nat→CV)(blk:JD)(tg:Option ZF)(l:List (List CV)),(∀j μ,μ j=tg→V μ (cv j) v)∧GcG W blk tg∧GnQ cv blk ks l∧((∀j,cv j=.Gc)∨∃n c,∀j,cv j=.slice j 0 n c ks.length false):=by
 obtain⟨a,len,cap,rfl⟩:=okWide_slice ht hval
 obtain⟨fuel,hf⟩:=hd
 rcases Go.Deep.open_slice ht hf with⟨h0,-⟩|⟨a',len',cap',m,k,D,Pl,h0,hb,hl,hm,hmm,-,hx⟩
 ·simp[Value.cells]at h0
  obtain⟨rfl,rfl,rfl⟩:=h0
  refine⟨fun _=>.Gc,⟨[],.dead,ks.length⟩,none,[],fun j μ _=>by simp[V],fun h=>absurd rfl h,⟨fun _ _=>rfl,fun h=>absurd rfl h,fun x hx=>by cases hx⟩,.inl fun _=>rfl⟩
 ·simp[Value.cells]at h0
  obtain⟨rfl,rfl,rfl⟩:=h0
  simp only[if_true]at hmm
  subst hmm
  have hspot:a'.spot=none:=by
   simp only[Value.okWide,ht,Cell.okWide,Cell.ok,World.has]at hval
   exact hval.2.2.2.1
  obtain⟨ab,ao,asp⟩:=a'
  simp only at hspot
  subst hspot
  have cell:∀q,q<m*ks.length→∃(arr:Array Value)(T:TypeId)(fz:_)(u:Value)(c:CV),W.heap[ab]?=some (.cells arr T fz)∧arr[ao+q]?=some u∧Zx u=some c∧(∀kk,ks[q % ks.length]?=some kk→kk.fits c)∧∀μ,V μ c u:=by
   intro q hq
   have hi:q/ks.length<m:=Nat.div_lt_of_lt_mul (by rw[Nat.mul_comm];exact hq)
   obtain⟨cs',h1,h2⟩:=hx _ hi
   have hfl:=Fg n k e ks cs' _ he h2 hc
   obtain⟨-,hlen,hcell⟩:=World.cells?_some h1
   have hj:q % ks.length<ks.length:=Nat.mod_lt _ hk
   have h3:=hcell (q % ks.length) (by rw[hc];exact hj)
   rw[Go.Deep.add_add,hc,Nat.div_add_mod']at h3
   obtain⟨u,c,e1,e2,e3,e4⟩:=hfl.2 _ _ (JG hj)
   rw[e1]at h3
   unfold World.cell? at h3
   have hab:((⟨ab,ao,none⟩:Addr).add q).block=ab:=by unfold Addr.add;split<;>rfl
   have hao:((⟨ab,ao,none⟩:Addr).add q).off=ao+q:=by unfold Addr.add;split<;>simp_all
   rw[hab,hao]at h3
   split at h3
   ·rename_i arr T fz harr
    split at h3
    ·cases h3
    ·exact⟨arr,T,fz,u,c,harr,h3,e3,fun kk hkk=>by rw[JG hj]at hkk;simp only[GA]at hkk;rw[←hkk];exact e2,e4⟩
   ·cases h3
  obtain⟨cells,hcl,hcs⟩:=OV (n:=m*ks.length) (p:=fun q c=>∃(arr:Array Value)(T:TypeId)(fz:_)(u:Value),W.heap[ab]?=some (.cells arr T fz)∧arr[ao+q]?=some u∧Zx u=some c∧(∀kk,ks[q % ks.length]?=some kk→kk.fits c)∧∀μ,V μ c u)
   fun q hq=>by obtain⟨arr,T,fz,u,c,h⟩:=cell q hq;exact⟨c,arr,T,fz,u,h⟩
  have hlm:len*ks.length≤m*ks.length:=Nat.mul_le_mul_right _ hl
  refine⟨fun j=>.slice j 0 len m ks.length false,⟨cells,if m=0 then .dead else .ro,ks.length⟩,some ⟨ab,ao,ks.length,ao+m*ks.length⟩,(List.range len).map fun i=>(cells.drop (i*ks.length)).take ks.length,?_,?_,⟨?_,?_,?_⟩,.inr ⟨len,m,fun _=>rfl⟩⟩
  ·intro j μ hj
   simp only[V]
   exact⟨_,m,ao,hj,rfl,rfl,hl,sM,.inr rfl,Nat.le_refl _⟩
  ·intro Ghg tm htm
   simp only[GA]at htm
   subst htm
   have hm0:m≠0:=by rintro rfl;simp at Ghg
   obtain⟨arr,T,fz,u,c,harr,-⟩:=cell 0 (Nat.mul_pos oM hk)
   refine⟨by simp[hm0],(Vj.1 harr).1,arr,T,fz,harr,fun i c hi=>?_⟩
   obtain⟨arr',T',fz',u',e1,e2,-,-,e5⟩:=hcs i c hi
   rw[harr]at e1
   simp only[GA,Obj.cells.injEq]at e1
   obtain⟨rfl,-,-⟩:=e1
   exact⟨u',e2,e5⟩
  ·intro j H'
   simp only[DW,List.length_range];rfl
  ·intro hne
   have GvD:0<len:=by
    rcases Nat.eq_zero_or_pos len with rfl|h
    ·simp at hne
    ·exact h
   have hm0:m≠0:=by omega
   refine⟨⟨m,by simpa using hl,fun j=>by simp⟩,by simp[hm0],rfl,fun i x hi=>?_⟩
   rw[K4,GJ]at hi
   obtain⟨i',hi',rfl⟩:=hi
   have hil:=Gf hi'
   rw[Sw (by simpa using hil)]at hi'
   simp only[GA]at hi'
   subst hi'
   refine⟨?_,rfl⟩
   simp only[List.length_range]at hil
   have:(i+1)*ks.length≤len*ks.length:=Nat.mul_le_mul_right _ hil
   rw[Nat.add_mul,Nat.one_mul]at this
   simp only[hcl];omega
  ·intro x hx'
   rw[VA]at hx'
   obtain⟨i,hi,rfl⟩:=hx'
   have hil:i<len:=by simpa using hi
   have:(i+1)*ks.length≤len*ks.length:=Nat.mul_le_mul_right _ hil
   rw[Nat.add_mul,Nat.one_mul]at this
   refine⟨by simp[hcl];omega,fun j kk hj=>?_⟩
   have hjl:=Gf hj
   have hlt:i*ks.length+j<cells.length:=by omega
   obtain⟨arr',T',fz',u',e1,e2,-,e4,-⟩:=hcs (i*ks.length+j) _ (JG hlt)
   refine⟨cells[i*ks.length+j],by rw[SF,if_pos hjl,BQ,JG hlt],e4 kk ?_⟩
   rw[Nat.mul_comm,Nat.mul_add_mod,Nat.mod_eq_of_lt hjl];exact hj
theorem Ae{H:Type}{enc:TypeId×Value→H}{P:Program}{W:World}{base:Nat}{r:Reach}{b0:Nat}{spare:Nat→Bool}{held:Bool}{t e:TypeId}{fs:Array Field}{a:Array Value}{d:DataW H}{ps:List MemPlace}{ts:List TypeId}
  (ht:P.underlying t=some (.struct fs))(hts:P.cellTypes P.depth t=some ts)(hl:ts.length=P.cellsOf t)(hval:Value.okWide P W r b0 t (.agg a))(hd:DataW.Trod enc P W base spare held t (.agg a) d ps)
  {i:Nat}{f:Field}(hf:fs[i]?=some f) (hft:P.underlying f.type=some (.slice e)) (hu:ts[f.offset]?=some f.type) (hc1:P.cellsOf f.type=1):
  ∃u d' ps',a[f.offset]?=some u∧Value.okWide P W r b0 f.type u∧DataW.Trod enc P W base spare held f.type u d' ps':=by
 simp only[Value.okWide,ht]at hval
 obtain⟨a',ha,hsz,ts',GlQ,-,hcell⟩:=hval
 simp only[Value.agg.injEq]at ha
 subst ha
 rw[hts]at GlQ
 simp only[GA]at GlQ
 subst GlQ
 have hoff:=Gf hu
 obtain⟨u,hau⟩:∃u,a[f.offset]?=some u:=⟨_,Gf3 oM⟩
 obtain⟨u',hu',hok⟩:=hcell _ _ hau
 rw[Nat.mod_eq_of_lt hoff,hu]at hu'
 simp only[GA]at hu'
 subst hu'
 have hok':Value.okWide P W r b0 f.type u:=by
  unfold Value.okWide
  rw[hft]
  exact hok
 obtain⟨ad,n,c,rfl⟩:=okWide_slice hft hok'
 obtain⟨fuel,hd⟩:=hd
 obtain⟨xs,k,rfl,-,-,hxl,hx⟩:=DataW.trod_struct ht hd
 have h1:=hx i f hf
 rw[hc1]at h1
 have hi:i<xs.length:=by
  rw[hxl]
  exact(Vj.1 hf).1
 rw[JG hi]at h1
 simp only[Value.cells]at h1
 have e1:(a.toList.drop f.offset).take 1=[.slice ad n c]:=by
  have h2:a.toList[f.offset]?=some (.slice ad n c):=by simpa using hau
  have hlt:=Gf h2
  rw[List.drop_eq_getElem_cons hlt]
  simp only[List.take_succ_cons,List.take_zero]
  rw[JG hlt]at h2
  simp only[GA]at h2
  rw[h2]
 rw[e1]at h1
 exact⟨_,xs[i].1,xs[i].2,hau,hok',k,by simpa[Value.cells]using h1⟩
theorem PS{H:Type}{enc:TypeId×Value→H}{P:Program}{W:World}{base:Nat}{spare:Nat→Bool}{held:Bool}{t:TypeId}{fs:Array Field}{a:Array Value}{d:DataW H}{ps:List MemPlace}
  (ht:P.underlying t=some (.struct fs))(hd:DataW.Trod enc P W base spare held t (.agg a) d ps)
  {i:Nat}{f:Field}{k:IntKind}(hf:fs[i]?=some f) (hft:P.underlying f.type=some (.int k)) (hc1:P.cellsOf f.type=1):
  ∃m:Int,a[f.offset]?=some (.int k m)∧k.min≤m∧m≤k.max:=by
 obtain⟨fuel,hd⟩:=hd
 obtain⟨xs,n,rfl,-,-,hxl,hx⟩:=DataW.trod_struct ht hd
 have h1:=hx i f hf
 have hi:i<xs.length:=by
  rw[hxl]
  exact(Vj.1 hf).1
 rw[hc1,JG hi]at h1
 obtain⟨m,hm,-,hw⟩:=DataW.trod_int hft h1
 simp only[Lit.wf,Qj,decide_eq_true_eq]at hw
 refine⟨m,?_,hw⟩
 simp only[Value.cells]at hm
 have h2:=congrArg (fun l=>l[0]?) hm
 simp only[SF,BQ,List.getElem?_cons_zero,Nat.add_zero]at h2
 simpa using h2
theorem GdL{P:Program}{W:World}(hm:P.follows .mixedOrders=true)(hp:Ej P)(hG:ZU P W){f:Nat}(hfb:f<RB){args:List CV}{args':Array Value}{H0 H1:Gb}{tgs:List (Option ZF)}{v:CV}
  (hlen:tgs.length=H0.length)(hb:∀b blk,H0[b]?=some blk→GcG W blk (tgs.getD b none)) (hrun:run (Kb P) f args H0=some (v,H1)) (hv:VL (fun b=>tgs.getD b none) args args'.toList):
  Calls P f args' W fun e w'=>(∃ν v',e=.returned v'∧V ν v v')∧Below W.heap.size W w':=
 bridge hm hp hG hfb (μ:=fun b=>tgs.getD b none) (fun b blk m h1 h2 h3=>by
   obtain⟨q1,q2,arr,T,fz,q3,q4⟩:=hb b blk h1 h2 m h3
   exact⟨q1,q2,arr,T,fz,q3,fun i c hi=>by obtain⟨v,e1,e2⟩:=q4 i c hi;exact⟨v,e1,e2 _⟩⟩)
  (fun b h=>by rw[WE,lX9 oM];rfl) hrun hv
end Go.Cs
namespace Go.Cs
open Go Go.RowKit Go.ChangeShapes Go.WideShapes
end Go.Cs
namespace Go.Cs
def csL:=And.intro @Nat.zero_add<|And.intro @Nat.add_zero<|And.intro @Nat.mul_one<|And.intro @Option.map_some.{0,0}<|And.intro @Option.bind_some.{0,0}<|And.intro @Option.map_none.{0,0}<|And.intro @Option.bind_none.{0,0}<|And.intro @List.map_cons.{0,0}<|And.intro @List.map_nil.{0,0}<|And.intro @List.getElem?_cons_zero.{0}<|And.intro @List.getElem?_cons_succ.{0}<|And.intro @List.cons_append.{0}<|And.intro @List.nil_append.{0}<|And.intro @List.append_nil.{0}<|And.intro @Bool.not_true<|And.intro @Bool.not_false<|And.intro @Bool.false_eq_true<|And.intro @decide_true<|And.intro @decide_false<|And.intro @List.length_append.{0}<|And.intro @List.length_cons.{0}<|And.intro @List.length_nil.{0}<|And.intro @List.length_set.{0}<|And.intro @List.drop_zero.{0}<|And.intro @List.drop_succ_cons.{0}<|And.intro @List.take_succ_cons.{0}<|And.intro @List.take_zero.{0}<|And.intro @Int.toNat_natCast<|And.intro @List.set_cons_zero.{0}<|And.intro @List.set_cons_succ.{0}<|And.intro @List.drop_nil.{0} @List.take_nil.{0}
def Gx:=And.intro csA<|And.intro csB<|And.intro csV<|And.intro GpO<|And.intro Gsv<|And.intro GqN<|And.intro Gub csL
def csN:=And.intro @eq_self.{1}<|And.intro @true_and<|And.intro @and_true<|And.intro @and_self<|And.intro @Nat.le_refl<|And.intro @List.length_append.{0}<|And.intro @List.length_cons.{0}<|And.intro @List.length_nil.{0}<|And.intro @List.length_set.{0}<|And.intro @List.length_map.{0,0}<|And.intro @List.length_replicate.{0}<|And.intro @Nat.zero_add<|And.intro @Nat.add_zero<|And.intro @Nat.mul_one<|And.intro @Aq<|And.intro @Hr<|And.intro @Zc<|And.intro @Hw<|And.intro @BI<|And.intro @ML<|And.intro @List.length_take.{0} @List.length_drop.{0}
def csF:=And.intro @Jo<|And.intro @Dx<|And.intro @NZ<|And.intro @LQ<|And.intro @Gdf<|And.intro @GcH<|And.intro @R3<|And.intro @Gc3<|And.intro @Bool.and_true<|And.intro @Bool.true_and<|And.intro @List.all_cons.{0}<|And.intro @List.all_nil.{0} @List.all_append.{0}
theorem dz{p:Prop}(h:p:=by first|omega|rfl|assumption|(simp only[csN,Nat.reduceAdd,Nat.reduceMul,Nat.reduceLeDiff,Nat.reduceEqDiff]<;>omega)|(simp only[csF];done)|(simp only[csF]<;>assumption)|fail):p:=h
end Go.Cs
namespace Go.Cs
open Go
section
variable {F : Jl} {E : Env} {H : Gb}
def BR(op:BinOp)(x y:CV)(H:Gb):Option (CV×Gb):=match x,y with
 |.int k a,.int _ b=>(shiftOp op k a b).map fun v=>(v,H)
 |_,_=>none
def Fe(op:BinOp)(x y:CV):Option Ra:=match x,y with
 |.int k a,.int _ b=>(shiftOp op k a b).bind okV
 |_,_=>none
def Gga(k:IntKind)(x:CV)(H:Gb):Option (CV×Gb):=match x with
 |.int _ n=>some (.int k (k.wrap n),H)
 |_=>none
def Ggk(k:IntKind)(x:CV):Option Ra:=match x with
 |.int _ n=>okV (.int k (k.wrap n))
 |_=>none
def vMm(big:Bool)(l:List CV)(H:Gb):Option (CV×Gb):=(Gj_ big l).map fun v=>(v,H)
theorem FY{op:BinOp}{x y:J8}:Ky F (.shift op x y) E H=BR op (E.ev x) (E.ev y) H:=by
 simp only[Ky,VF,G8,BR]
 cases E.ev x<;>cases E.ev y<;>first|rfl|skip
 rename_i k a k' b
 dsimp only
 cases shiftOp op k a b<;>rfl
theorem Xq{op:BinOp}{x y:J8}:G8 (.shift op x y) E H=Fe op (E.ev x) (E.ev y):=by
 simp only[G8,Fe]
 cases E.ev x<;>cases E.ev y<;>first|rfl|skip
 rename_i k a k' b
 dsimp only
 cases shiftOp op k a b<;>rfl
theorem NG{k:IntKind}{x:J8}:Ky F (.conv k x) E H=Gga k (E.ev x) H:=by
 simp only[Ky,VF,G8,Gga]<;>cases E.ev x<;>rfl
theorem AL{k:IntKind}{x:J8}:G8 (.conv k x) E H=Ggk k (E.ev x):=by
 simp only[G8,Ggk]<;>cases E.ev x<;>rfl
theorem Glm{big:Bool}{l:List J8}:Ky F (.mm big l) E H=vMm big (l.map E.ev) H:=by
 simp only[Ky,VF,G8,vMm]<;>cases Gj_ big (l.map E.ev)<;>rfl
theorem GsN{k k':IntKind}{a b:Int}(h:0≤b):BR .shl (.int k a) (.int k' b) H=some (.int k (k.wrap (a*2 ^ min b.toNat k.bits)),H):=by
 simp only[BR,shiftOp];rw[if_neg oM];rfl
theorem Guu{k k':IntKind}{a b:Int}(h:0≤b):BR .shr (.int k a) (.int k' b) H=some (.int k (a.fdiv (2 ^ min b.toNat k.bits)),H):=by
 simp only[BR,shiftOp];rw[if_neg oM];rfl
theorem Gu5{k k':IntKind}{a b:Int}(h:0≤b):Fe .shl (.int k a) (.int k' b)=okV (.int k (k.wrap (a*2 ^ min b.toNat k.bits))):=by
 simp only[Fe,shiftOp];rw[if_neg oM];rfl
theorem Gu9{k k':IntKind}{a b:Int}(h:0≤b):Fe .shr (.int k a) (.int k' b)=okV (.int k (a.fdiv (2 ^ min b.toNat k.bits))):=by
 simp only[Fe,shiftOp];rw[if_neg oM];rfl
theorem QI{k k':IntKind}{n:Int}:Gga k (.int k' n) H=some (.int k (k.wrap n),H):=rfl
theorem Bg{k k':IntKind}{n:Int}:Ggk k (.int k' n)=okV (.int k (k.wrap n)):=rfl
theorem Gnm{big:Bool}{k k':IntKind}{x y:Int}:vMm big [.int k x,.int k' y] H=some (.int k (if big then(if y>x then y else x)else(if y<x then y else x)),H):=rfl
theorem Gf8{k:IntKind}{a b:Int}:Q7 .and (.int k a) (.int k b)=okV (.int k (k.wrap (BitVec.ofInt k.bits a &&& BitVec.ofInt k.bits b).toNat)):=by simp[Q7,Kg]
theorem LX{k:IntKind}{a b:Int}:Q7 .mul (.int k a) (.int k b)=okV (.int k (k.wrap (a*b))):=by simp[Q7,Kg]
theorem DZ{k:IntKind}{a b:Int}(h:b≠0):Q7 .quo (.int k a) (.int k b)=okV (.int k (k.wrap (a.tdiv b))):=by simp[Q7,Kg,h]
theorem Qn{k:IntKind}{a b:Int}(h:b≠0):Q7 .rem (.int k a) (.int k b)=okV (.int k (a.tmod b)):=by simp[Q7,Kg,h]
end
end Go.Cs
namespace Go.Cs
open Go
def SG(p:JB)(c:Gq)(Inv:Nat→Env→Gb→Prop)(Post:CX→Env→Gb→Prop):Prop:=
 ∀k E H,Inv k E H→∃x E' H',den p (.loop c) E H=some (x,E',H')∧x≠.normal∧Post x E' H'
theorem Ggg{p:JB}{c:Gq}{Inv:Nat→Env→Gb→Prop}{Post:CX→Env→Gb→Prop}
  (step:∀k E H,Inv k E H→∃x E' H',den p c E H=some (x,E',H')∧((x=.normal∧∃k',k'<k∧Inv k' E' H')∨(x≠.normal∧Post x E' H'))):SG p c Inv Post:=by
 intro k
 induction k using Nat.strongRecOn with
 |_ k ih=>
  intro E H hi
  obtain⟨x,E',H',e,h⟩:=step k E H hi
  rcases h with⟨rfl,k',hk,hi'⟩|⟨hx,hp⟩
  ·obtain⟨x2,E2,H2,e2,h2⟩:=ih k' hk E' H' hi'
   refine⟨x2,E2,H2,?_,h2⟩
   rw[Az,e,R9,e2]
  ·refine⟨x,E',H',?_,hx,hp⟩
   rw[Az,e]
   cases x with
   |normal=>exact absurd rfl hx
   |exit i=>rfl
   |ret=>rfl
theorem SG.at{p:JB}{c:Gq}{Inv:Nat→Env→Gb→Prop}{Post:CX→Env→Gb→Prop}(h:SG p c Inv Post){E:Env}{H:Gb}{r:Option (CX×Env×Gb)}(hr:den p (.loop c) E H=r)(k:Nat)(hi:Inv k E H):
  ∃x E' H',r=some (x,E',H')∧x≠.normal∧Post x E' H':=by
 obtain⟨x,E',H',e,h⟩:=h k E H hi
 grind
theorem Gp{p:JB}{c:Gq}{Inv:Nat→Env→Gb→Prop}{Post:CX→Env→Gb→Prop}{k k':Nat}{E E':Env}{H H':Gb}(e:den p c E H=some (.normal,E',H'))(hk:k'<k)(hi:Inv k' E' H'):
 ∃x E' H',den p c E H=some (x,E',H')∧((x=.normal∧∃k',k'<k∧Inv k' E' H')∨(x≠.normal∧Post x E' H')):=⟨_,_,_,e,.inl ⟨rfl,k',hk,hi⟩⟩
theorem Gj{p:JB}{c:Gq}{Inv:Nat→Env→Gb→Prop}{Post:CX→Env→Gb→Prop}{k:Nat}{x:CX}{E E':Env}{H H':Gb}(e:den p c E H=some (x,E',H'))(hx:x≠.normal)(hp:Post x E' H'):
 ∃x E' H',den p c E H=some (x,E',H')∧((x=.normal∧∃k',k'<k∧Inv k' E' H')∨(x≠.normal∧Post x E' H')):=⟨_,_,_,e,.inr ⟨hx,hp⟩⟩
end Go.Cs
namespace Go.Cs
open Go
def wr:Gq→List Nat
 |.region ops=>ops.filterMap (·.dst)
 |.QD ops=>ops.filterMap (·.s.dst)
 |.seq a b=>wr a++wr b
 |.cond _ a b=>wr a++wr b
 |.block _ c=>wr c
 |.loop c=>wr c
 |_=>[]
def O4:Gq→Bool
 |.seq a b=>O4 a&&O4 b
 |.cond _ a b=>O4 a&&O4 b
 |.block _ c=>O4 c
 |.loop c=>O4 c
 |.Zy .. =>false
 |_=>true
theorem Ad{E:Env}{d:Option Nat}{v:CV}{t:Nat}(h:t∉d.toList):E.put d v t=E t:=by
 cases d with
 |none=>rfl
 |some d=>
  simp only[Yu,Bz]at h
  simp only[Env.put,Env.upd,if_neg h]
theorem Vn{α:Type}{f:α→Option Nat}{a:α}{l:List α}{t:Nat}(h:t∉(a::l).filterMap f):t∉(f a).toList∧t∉l.filterMap f:=by
 grind
theorem Wt{F:Jl}{t:Nat}:∀{l:List GR}{E:Env}{H:Gb}{r:Env×Gb},Kv F l E H=some r→t∉l.filterMap (·.dst)→r.1 t=E t
 |[],E,H,r,h,_=>by simp only[Kv,GA]at h;subst h;rfl
 |s::l,E,H,r,h,ht=>by
  obtain⟨h1,h2⟩:=Vn ht
  simp only[Kv,Jt]at h
  obtain⟨q,hq,hr⟩:=h
  rw[Wt hr h2]
  unfold QH at hq
  split at hq
  ·rw[GJ]at hq;obtain⟨p,_,rfl⟩:=hq;exact Ad h1
  ·simp only[GA]at hq;subst hq;exact Ad h1
theorem RX{F:Jl}{t:Nat}:∀{l:List GC}{E:Env}{H:Gb}{hs:List Gb}{r:Env×Gb},Bu F l E H hs=some r→t∉l.filterMap (·.s.dst)→r.1 t=E t
 |[],E,H,hs,r,h,_=>by simp only[Bu,GA]at h;subst h;rfl
 |d::l,E,H,hs,r,h,ht=>by
  obtain⟨h1,h2⟩:=Vn ht
  unfold Bu at h
  split at h
  ·rw[RX h h2];exact Ad h1
  ·split at h
   ·rw[Jt]at h
    obtain⟨q,hq,hr⟩:=h
    rw[RX hr h2];exact Ad h1
   ·rw[Jt]at h
    obtain⟨m,_,hr⟩:=h
    split at hr
    ·rw[RX hr h2];exact Ad h1
    ·cases hr
theorem Ir(p:JB){t:Nat}:∀(n:Nat){c:Gq}{E:Env}{H:Gb}{r:CX×Env×Gb},ev p n c E H=some r→O4 c=true→t∉wr c→r.2.1 t=E t
 |0,_,_,_,_,h,_,_=>by cases h
 |n+1,c,E,H,r,h,hn,ht=>by
  rw[KN]at h
  cases c with
  |skip=>simp only[GA]at h;subst h;rfl
  |region ops=>rw[GJ]at h;obtain⟨q,hq,rfl⟩:=h;exact Wt hq ht
  |QD ops=>rw[GJ]at h;obtain⟨q,hq,rfl⟩:=h;exact RX hq ht
  |seq a b=>
   simp only[wr,NV,not_or]at ht
   simp only[O4,Qj]at hn
   rw[Jt]at h
   obtain⟨q,hq,h⟩:=h
   have h1:=Ir p n hq hn.1 ht.1
   split at h
   ·rw[Ir p n h hn.2 ht.2,h1]
   grind
  |cond c a b=>
   simp only[wr,NV,not_or]at ht
   simp only[O4,Qj]at hn
   dsimp only at h
   split at h
   ·rename_i tt _
    cases tt with
    |true=>exact Ir p n h hn.1 ht.1
    |false=>exact Ir p n h hn.2 ht.2
   ·cases h
  |block id c=>
   simp only[wr]at ht
   rw[GJ]at h
   obtain⟨q,hq,rfl⟩:=h
   exact Ir p n (r:=q) hq hn ht
  |loop c=>
   have ht':=ht
   have hn':=hn
   simp only[wr]at ht
   rw[Jt]at h
   obtain⟨q,hq,h⟩:=h
   have h1:=Ir p n hq hn ht
   split at h
   ·rw[Ir p n h hn' ht',h1]
   grind
  |Qf g ps k z=>
   rw[Jt]at h
   obtain⟨q,hq,h⟩:=h
   rw[(Zg h).2]
  |Zy q b r=>cases hn
  |exit id=>simp only[GA]at h;subst h;rfl
  |ret=>simp only[GA]at h;subst h;rfl
theorem Gla{p:JB}{c:Gq}{E E':Env}{H H':Gb}{x:CX}(h:den p c E H=some (x,E',H'))(hc:O4 c=true){t:Nat}(ht:t∉wr c):E' t=E t:=by
 obtain⟨n,hn⟩:=Kr.1 h
 exact Ir p n hn hc ht
theorem Gs{p:JB}{c:Gq}{E0:Env}{H0:Gb}(Inv:Nat→Env→Gb→Prop)(Post:CX→Env→Gb→Prop)
  (step:∀k E H,(∀t,t∉wr c→E t=E0 t)→Inv k E H→∃x E' H',den p c E H=some (x,E',H')∧((x=.normal∧∃k',k'<k∧Inv k' E' H')∨(x≠.normal∧Post x E' H')))
  (k:Nat)(hi:Inv k E0 H0)(hc:O4 c=true:=by decide +kernel):∃x E' H',den p (.loop c) E0 H0=some (x,E',H')∧x≠.normal∧Post x E' H'∧∀t,t∉wr c→E' t=E0 t:=by
 have key:SG p c (fun k E H=>(∀t,t∉wr c→E t=E0 t)∧Inv k E H) (fun x E' H'=>Post x E' H'∧∀t,t∉wr c→E' t=E0 t):=by
  refine Ggg ?_
  rintro k E H ⟨hE,hi⟩
  obtain⟨x,E',H',e,h⟩:=step k E H hE hi
  have hE':∀t,t∉wr c→E' t=E0 t:=fun t ht=>(Gla e hc ht).trans (hE t ht)
  grind
 obtain⟨x,E',H',e,hx,hp⟩:=key k E0 H0 ⟨fun _ _=>rfl,hi⟩
 exact⟨x,E',H',e,hx,hp⟩
end Go.Cs
namespace Go.Cs
open Go
theorem Gu{l vs:List CV}{o:Nat}:splice l o vs=l.take o++vs++l.drop (o+vs.length):=rfl
theorem J5{cs:List CV}{o n:Nat}{v:CV}{r:List (Nat×Nat×CV)}:fill cs ((o,n,v)::r)=if(cellsOf v).length=n∧o+n≤cs.length then fill (splice cs o (cellsOf v)) r else none:=rfl
theorem Gus:((0:Int)==0)=true∧((1:Int)==1)=true∧((2:Int)==2)=true∧((1:Int)==0)=false∧((2:Int)==0)=false∧((2:Int)==1)=false∧((0:Int)==1)=false∧((0:Int)==2)=false∧((1:Int)==2)=false∧((0:Int) != 0)=false∧((1:Int) != 1)=false∧((2:Int) != 2)=false:=by decide
def csE:=And.intro Gus<|And.intro @Option.isSome_none.{0}<|And.intro @Option.isSome_some.{0}<|And.intro @and_self<|And.intro @Nat.zero_add<|And.intro @Nat.add_zero<|And.intro @Td<|And.intro @Ny<|And.intro @DK<|And.intro @NU<|And.intro @Gc5<|And.intro @Bool.true_and<|And.intro @Bool.false_and<|And.intro @Bool.and_true @Bool.and_false
def csX:=And.intro csE<|And.intro @Gu<|And.intro @J5<|And.intro @Xu<|And.intro @EF<|And.intro @Aq<|And.intro @Dg<|And.intro @Ya<|And.intro @Jo<|And.intro @LQ<|And.intro @NZ<|And.intro @Dx<|And.intro @GD<|And.intro @J9<|And.intro @R8<|And.intro @NG<|And.intro @QI<|And.intro @Qn<|And.intro @Gnv<|And.intro @Y7<|And.intro @AL<|And.intro @Bg<|And.intro @Glm<|And.intro @Gnm<|And.intro @Lx<|And.intro @Ro @Gl8
section
variable {f p q : Prop}
theorem W0(e:p:=by simp(disch:=first|exact dz|fail) only[simprocAttr,-List.reduceReplicate,Gx,↓reduceIte,csE, *]):p:=e
theorem GH(h:q)(e:p=q:=by(conv=>lhs;simp(disch:=first|exact dz|fail) only[simprocAttr,-List.reduceReplicate,Gx,↓reduceIte,csE, *])<;>exact rfl):p:=e▸h
theorem EI(e:p:=by simp(disch:=first|exact dz|fail) only[simprocAttr,-List.reduceReplicate,Gx,↓reduceIte,csX, *]):p:=e
theorem WX(h:q)(e:p=q:=by(conv=>lhs;simp(disch:=first|exact dz|fail) only[simprocAttr,-List.reduceReplicate,Gx,↓reduceIte,csX, *])<;>exact rfl):p:=e▸h
theorem tW(e:f→p=q:=by intro f;(conv=>lhs;simp(disch:=first|exact dz|fail) only[simprocAttr,-List.reduceReplicate,Gx,↓reduceIte,csE,f])<;>exact rfl):f→p=q:=e
theorem tV(e:f→p:=by intro f;simp(disch:=first|exact dz|fail) only[simprocAttr,-List.reduceReplicate,Gx,↓reduceIte,csE,f]):f→p:=e
variable {a1 a2 a3 a4 a5 a6 a7 a8 a9 I8 Lm a12 Rp TQ a15 a16 a17 a18 a19 a20 a21 a22 a23 a24 a25 a26 a27 a28 a29 a30 : Prop} (x1 : a1) (x2 : a2) (x3 : a3) (x4 : a4) (x5 : a5) (x6 : a6) (x7 : a7) (x8 : a8) (x9 : a9) (x10 : I8) (MK : Lm) (IY : a12) (TP : Rp) (Xj : TQ) (x15 : a15) (x16 : a16) (x17 : a17) (x18 : a18) (x19 : a19) (x20 : a20) (x21 : a21) (x22 : a22) (x23 : a23) (x24 : a24) (x25 : a25) (x26 : a26) (x27 : a27) (x28 : a28) (x29 : a29) (x30 : a30)
def W1(h:q)(e:a1→p=q:=by exact tW):p:=e x1▸h
def V1(e:a1→p:=by exact tV):p:=e x1
def W2(h:q)(e:a1∧a2→p=q:=by exact tW):p:=e ⟨x1,x2⟩▸h
def V2(e:a1∧a2→p:=by exact tV):p:=e ⟨x1,x2⟩
def W3(h:q)(e:a1∧a2∧a3→p=q:=by exact tW):p:=e ⟨x1,x2,x3⟩▸h
def V3(e:a1∧a2∧a3→p:=by exact tV):p:=e ⟨x1,x2,x3⟩
def W4(h:q)(e:a1∧a2∧a3∧a4→p=q:=by exact tW):p:=e ⟨x1,x2,x3,x4⟩▸h
def V4(e:a1∧a2∧a3∧a4→p:=by exact tV):p:=e ⟨x1,x2,x3,x4⟩
def W5(h:q)(e:a1∧a2∧a3∧a4∧a5→p=q:=by exact tW):p:=e ⟨x1,x2,x3,x4,x5⟩▸h
def V5(e:a1∧a2∧a3∧a4∧a5→p:=by exact tV):p:=e ⟨x1,x2,x3,x4,x5⟩
def W6(h:q)(e:a1∧a2∧a3∧a4∧a5∧a6→p=q:=by exact tW):p:=e ⟨x1,x2,x3,x4,x5,x6⟩▸h
def V6(e:a1∧a2∧a3∧a4∧a5∧a6→p:=by exact tV):p:=e ⟨x1,x2,x3,x4,x5,x6⟩
def W7(h:q)(e:a1∧a2∧a3∧a4∧a5∧a6∧a7→p=q:=by exact tW):p:=e ⟨x1,x2,x3,x4,x5,x6,x7⟩▸h
def V7(e:a1∧a2∧a3∧a4∧a5∧a6∧a7→p:=by exact tV):p:=e ⟨x1,x2,x3,x4,x5,x6,x7⟩
def W8(h:q)(e:a1∧a2∧a3∧a4∧a5∧a6∧a7∧a8→p=q:=by exact tW):p:=e ⟨x1,x2,x3,x4,x5,x6,x7,x8⟩▸h
def V8(e:a1∧a2∧a3∧a4∧a5∧a6∧a7∧a8→p:=by exact tV):p:=e ⟨x1,x2,x3,x4,x5,x6,x7,x8⟩
def W9(h:q)(e:a1∧a2∧a3∧a4∧a5∧a6∧a7∧a8∧a9→p=q:=by exact tW):p:=e ⟨x1,x2,x3,x4,x5,x6,x7,x8,x9⟩▸h
def V9(e:a1∧a2∧a3∧a4∧a5∧a6∧a7∧a8∧a9→p:=by exact tV):p:=e ⟨x1,x2,x3,x4,x5,x6,x7,x8,x9⟩
def W10(h:q)(e:a1∧a2∧a3∧a4∧a5∧a6∧a7∧a8∧a9∧I8→p=q:=by exact tW):p:=e ⟨x1,x2,x3,x4,x5,x6,x7,x8,x9,x10⟩▸h
def W11(h:q)(e:a1∧a2∧a3∧a4∧a5∧a6∧a7∧a8∧a9∧I8∧Lm→p=q:=by exact tW):p:=e ⟨x1,x2,x3,x4,x5,x6,x7,x8,x9,x10,MK⟩▸h
def V11(e:a1∧a2∧a3∧a4∧a5∧a6∧a7∧a8∧a9∧I8∧Lm→p:=by exact tV):p:=e ⟨x1,x2,x3,x4,x5,x6,x7,x8,x9,x10,MK⟩
def W12(h:q)(e:a1∧a2∧a3∧a4∧a5∧a6∧a7∧a8∧a9∧I8∧Lm∧a12→p=q:=by exact tW):p:=e ⟨x1,x2,x3,x4,x5,x6,x7,x8,x9,x10,MK,IY⟩▸h
def V12(e:a1∧a2∧a3∧a4∧a5∧a6∧a7∧a8∧a9∧I8∧Lm∧a12→p:=by exact tV):p:=e ⟨x1,x2,x3,x4,x5,x6,x7,x8,x9,x10,MK,IY⟩
def W13(h:q)(e:a1∧a2∧a3∧a4∧a5∧a6∧a7∧a8∧a9∧I8∧Lm∧a12∧Rp→p=q:=by exact tW):p:=e ⟨x1,x2,x3,x4,x5,x6,x7,x8,x9,x10,MK,IY,TP⟩▸h
def V13(e:a1∧a2∧a3∧a4∧a5∧a6∧a7∧a8∧a9∧I8∧Lm∧a12∧Rp→p:=by exact tV):p:=e ⟨x1,x2,x3,x4,x5,x6,x7,x8,x9,x10,MK,IY,TP⟩
def W14(h:q)(e:a1∧a2∧a3∧a4∧a5∧a6∧a7∧a8∧a9∧I8∧Lm∧a12∧Rp∧TQ→p=q:=by exact tW):p:=e ⟨x1,x2,x3,x4,x5,x6,x7,x8,x9,x10,MK,IY,TP,Xj⟩▸h
def V14(e:a1∧a2∧a3∧a4∧a5∧a6∧a7∧a8∧a9∧I8∧Lm∧a12∧Rp∧TQ→p:=by exact tV):p:=e ⟨x1,x2,x3,x4,x5,x6,x7,x8,x9,x10,MK,IY,TP,Xj⟩
def W15(h:q)(e:a1∧a2∧a3∧a4∧a5∧a6∧a7∧a8∧a9∧I8∧Lm∧a12∧Rp∧TQ∧a15→p=q:=by exact tW):p:=e ⟨x1,x2,x3,x4,x5,x6,x7,x8,x9,x10,MK,IY,TP,Xj,x15⟩▸h
def V15(e:a1∧a2∧a3∧a4∧a5∧a6∧a7∧a8∧a9∧I8∧Lm∧a12∧Rp∧TQ∧a15→p:=by exact tV):p:=e ⟨x1,x2,x3,x4,x5,x6,x7,x8,x9,x10,MK,IY,TP,Xj,x15⟩
def W16(h:q)(e:a1∧a2∧a3∧a4∧a5∧a6∧a7∧a8∧a9∧I8∧Lm∧a12∧Rp∧TQ∧a15∧a16→p=q:=by exact tW):p:=e ⟨x1,x2,x3,x4,x5,x6,x7,x8,x9,x10,MK,IY,TP,Xj,x15,x16⟩▸h
def V16(e:a1∧a2∧a3∧a4∧a5∧a6∧a7∧a8∧a9∧I8∧Lm∧a12∧Rp∧TQ∧a15∧a16→p:=by exact tV):p:=e ⟨x1,x2,x3,x4,x5,x6,x7,x8,x9,x10,MK,IY,TP,Xj,x15,x16⟩
def W17(h:q)(e:a1∧a2∧a3∧a4∧a5∧a6∧a7∧a8∧a9∧I8∧Lm∧a12∧Rp∧TQ∧a15∧a16∧a17→p=q:=by exact tW):p:=e ⟨x1,x2,x3,x4,x5,x6,x7,x8,x9,x10,MK,IY,TP,Xj,x15,x16,x17⟩▸h
def W18(h:q)(e:a1∧a2∧a3∧a4∧a5∧a6∧a7∧a8∧a9∧I8∧Lm∧a12∧Rp∧TQ∧a15∧a16∧a17∧a18→p=q:=by exact tW):p:=e ⟨x1,x2,x3,x4,x5,x6,x7,x8,x9,x10,MK,IY,TP,Xj,x15,x16,x17,x18⟩▸h
def V18(e:a1∧a2∧a3∧a4∧a5∧a6∧a7∧a8∧a9∧I8∧Lm∧a12∧Rp∧TQ∧a15∧a16∧a17∧a18→p:=by exact tV):p:=e ⟨x1,x2,x3,x4,x5,x6,x7,x8,x9,x10,MK,IY,TP,Xj,x15,x16,x17,x18⟩
def W19(h:q)(e:a1∧a2∧a3∧a4∧a5∧a6∧a7∧a8∧a9∧I8∧Lm∧a12∧Rp∧TQ∧a15∧a16∧a17∧a18∧a19→p=q:=by exact tW):p:=e ⟨x1,x2,x3,x4,x5,x6,x7,x8,x9,x10,MK,IY,TP,Xj,x15,x16,x17,x18,x19⟩▸h
def W20(h:q)(e:a1∧a2∧a3∧a4∧a5∧a6∧a7∧a8∧a9∧I8∧Lm∧a12∧Rp∧TQ∧a15∧a16∧a17∧a18∧a19∧a20→p=q:=by exact tW):p:=e ⟨x1,x2,x3,x4,x5,x6,x7,x8,x9,x10,MK,IY,TP,Xj,x15,x16,x17,x18,x19,x20⟩▸h
def V20(e:a1∧a2∧a3∧a4∧a5∧a6∧a7∧a8∧a9∧I8∧Lm∧a12∧Rp∧TQ∧a15∧a16∧a17∧a18∧a19∧a20→p:=by exact tV):p:=e ⟨x1,x2,x3,x4,x5,x6,x7,x8,x9,x10,MK,IY,TP,Xj,x15,x16,x17,x18,x19,x20⟩
def W22(h:q)(e:a1∧a2∧a3∧a4∧a5∧a6∧a7∧a8∧a9∧I8∧Lm∧a12∧Rp∧TQ∧a15∧a16∧a17∧a18∧a19∧a20∧a21∧a22→p=q:=by exact tW):p:=e ⟨x1,x2,x3,x4,x5,x6,x7,x8,x9,x10,MK,IY,TP,Xj,x15,x16,x17,x18,x19,x20,x21,x22⟩▸h
def W23(h:q)(e:a1∧a2∧a3∧a4∧a5∧a6∧a7∧a8∧a9∧I8∧Lm∧a12∧Rp∧TQ∧a15∧a16∧a17∧a18∧a19∧a20∧a21∧a22∧a23→p=q:=by exact tW):p:=e ⟨x1,x2,x3,x4,x5,x6,x7,x8,x9,x10,MK,IY,TP,Xj,x15,x16,x17,x18,x19,x20,x21,x22,x23⟩▸h
def V23(e:a1∧a2∧a3∧a4∧a5∧a6∧a7∧a8∧a9∧I8∧Lm∧a12∧Rp∧TQ∧a15∧a16∧a17∧a18∧a19∧a20∧a21∧a22∧a23→p:=by exact tV):p:=e ⟨x1,x2,x3,x4,x5,x6,x7,x8,x9,x10,MK,IY,TP,Xj,x15,x16,x17,x18,x19,x20,x21,x22,x23⟩
def W24(h:q)(e:a1∧a2∧a3∧a4∧a5∧a6∧a7∧a8∧a9∧I8∧Lm∧a12∧Rp∧TQ∧a15∧a16∧a17∧a18∧a19∧a20∧a21∧a22∧a23∧a24→p=q:=by exact tW):p:=e ⟨x1,x2,x3,x4,x5,x6,x7,x8,x9,x10,MK,IY,TP,Xj,x15,x16,x17,x18,x19,x20,x21,x22,x23,x24⟩▸h
def W26(h:q)(e:a1∧a2∧a3∧a4∧a5∧a6∧a7∧a8∧a9∧I8∧Lm∧a12∧Rp∧TQ∧a15∧a16∧a17∧a18∧a19∧a20∧a21∧a22∧a23∧a24∧a25∧a26→p=q:=by exact tW):p:=e ⟨x1,x2,x3,x4,x5,x6,x7,x8,x9,x10,MK,IY,TP,Xj,x15,x16,x17,x18,x19,x20,x21,x22,x23,x24,x25,x26⟩▸h
end
end Go.Cs
namespace Go.Cs.Tryz
open Go Go.Cs A
noncomputable abbrev P:JB:=Kb Go.Proofs.Tryz.prog
def Gsj:Gl:=⟨12,0,T [n 4 0] (S (T [m 5 0,m 6 1,q2 7 228 5 6,no 8 7] (I 8 (Q [n 4 (-1)]))) (Q [m 9 0,m 10 1,q2 11 229 9 10,m 4 11])),[r 4]⟩
theorem c139:P 139=some Gsj:=by kernel_rfl
def Gq_:Gl:=⟨19,0,T [nb 4 false] (Q [m 5 0,q1 6 265 5,m 7 6,gt 7 (m 8 1),gt 7 (bk 9 .geq 8 0),an 10 7 9,m 11 10,gt 11 (m 12 1),gt 11 (m 13 0),gt 11 (z 14 13),gt 11 (f 15 0 14),gt 11 (l 16 1 15),gt 11 (b 17 .lss 12 16),an 18 11 17,m 4 18]),[r 4]⟩
theorem c228:P 228=some Gq_:=by kernel_rfl
def GqT:Gl:=⟨27,0,T [n 4 0] (T [m 6 1,m 7 0,z 8 7,f 9 1 8,l 10 1 9,b 11 .mul 6 10,m 5 11] (S (D [⟨m 24 0,12,0,0⟩,⟨q1 25 268 24,13,3,0⟩,⟨m 12 0,0,0,0⟩,⟨z 13 12,1,0,0⟩,⟨f 14 2 13,2,0,0⟩,⟨l 15 1 14,3,1,0⟩,⟨m 16 5,4,0,0⟩,⟨bk 17 .quo 16 64,5,0,0⟩,⟨x 18 1 15 17,6,0,0⟩,⟨l 19 1 18,7,1,0⟩,⟨m 20 5,8,0,0⟩,⟨bk 21 .rem 20 64,9,0,0⟩,⟨e 22 (.shift .shr (t 19) (t 21)),10,0,0⟩,⟨e 23 (.conv .i64 (t 22)),11,0,0⟩,⟨b 26 .and 23 25,14,0,1⟩,⟨m 4 26,15,0,1⟩]) .ret)),[r 4]⟩
theorem c229:P 229=some GqT:=by kernel_rfl
abbrev EP:Gq:=S (T [m 14 8,m 15 0,z 16 15,f 17 0 16,l 18 1 17,b 19 .lss 14 18] (J 19 (X 0))) (S (B 1 (T [m 22 0,m 23 8,q2 24 229 22 23,m 25 2,b 26 .eql 24 25] (I 26 (Q [m 27 8,m 6 27,n 7 0])))) (R [m 20 8,bk 21 .add 20 1,m 8 21]))
def Gq4:Gl:=⟨28,0,T [n 6 0,n 7 0] (S (T [m 9 0,q1 10 265 9,no 11 10] (I 11 (Q [n 6 0,n 7 5]))) (S (T [m 12 1,e 13 (.mm true [t 12,k 0]),m 8 13] (B 0 (W EP))) (Q [n 6 0,n 7 4]))),[r 6,r 7]⟩
theorem Gtj:P 247=some Gq4:=by kernel_rfl
abbrev Fq:Gq:=S (T [m 20 8,bk 21 .geq 20 0] (J 21 (X 0))) (S (B 1 (T [m 24 0,m 25 8,q2 26 229 24 25,m 27 2,b 28 .eql 26 27] (I 28 (Q [m 29 8,m 6 29,n 7 0])))) (R [m 22 8,bk 23 .sub 22 1,m 8 23]))
def Gr6:Gl:=⟨30,0,T [n 6 0,n 7 0] (S (T [m 9 0,q1 10 265 9,no 11 10] (I 11 (Q [n 6 0,n 7 5]))) (S (T [m 12 1,e 13 (.mm true [t 12,k 0]),m 14 0,z 15 14,f 16 0 15,l 17 1 16,e 18 (.mm false [t 13,t 17]),bk 19 .sub 18 1,m 8 19] (B 0 (W Fq))) (Q [n 6 0,n 7 4]))),[r 6,r 7]⟩
theorem GpA:P 261=some Gr6:=by kernel_rfl
def Gp7:Gl:=⟨12,0,T [nb 2 false] (Q [m 3 0,e 4 (.eqv true 1 (t 3) (c .nilPtr)),m 5 4,gt 5 (m 6 0),gt 5 (z 7 6),gt 5 (f 8 0 7),gt 5 (l 9 1 8),gt 5 (bk 10 .gtr 9 0),an 11 5 10,m 2 11]),[r 2]⟩
theorem GtG:P 265=some Gp7:=by kernel_rfl
def Gty:Gl:=⟨9,0,T [n 2 0] (Q [m 3 0,z 4 3,f 5 1 4,l 6 1 5,e 7 (.shift .shl (k 1) (t 6)),bk 8 .sub 7 1,m 2 8]),[r 2]⟩
theorem GsJ:P 268=some Gty:=by kernel_rfl
end Go.Cs.Tryz
namespace Go.Cs
open Go
def Vy(n:Nat):Nat:=(n+63)/64
structure Side(H:Gb)(b wb n:Nat)(f:Nat→Bool):Prop where
 st:H[b]?=some ⟨[.i n,.i 1,.slice wb 0 (Vy n) (Vy n) 1 false],.rw,0⟩
 ws:∃ws:List Nat,ws.length=Vy n∧(∀w∈ws,w<18446744073709551616)∧H[wb]?=some ⟨ws.map (fun(m:Nat)=>CV.int .u64 m),.rw,1⟩∧∀i,i<n→(ws.getD (i/64) 0).testBit (i % 64)=f i
 pos:0<n∧n≤4096
theorem Side.frame{H H':Gb}{b wb n:Nat}{f:Nat→Bool}(s:Side H b wb n f)(h1:H'[b]?=H[b]?) (h2:H'[wb]?=H[wb]?):Side H' b wb n f:=
 ⟨by rw[h1,s.st],by rw[h2];exact s.ws,s.pos⟩
theorem Side.app{H:Gb}{b wb n:Nat}{f:Nat→Bool}(s:Side H b wb n f)(J:Gb):Side (H++J) b wb n f:=by
 obtain⟨ws,-,-,h,-⟩:=s.ws
 exact s.frame (I7 (Gf s.st)) (I7 (Gf h))
def EL(b:Bool):Int:=if b then 1 else 0
def P7(f:Nat→Bool):Nat→Nat→Option Nat
 |0,_=>none
 |k+1,j=>if f j=true then some j else P7 f k (j+1)
def U4(f:Nat→Bool):Nat→Option Nat
 |0=>none
 |j+1=>if f j=true then some j else U4 f j
def Nt(r:Option Nat):CV:=match r with
 |some j=>.Jk [.i j,.i 0]
 |none=>.Jk [.i 0,.i 4]
theorem Gft(x:Nat):IntKind.i64.wrap ((BitVec.ofInt 64 (IntKind.i64.wrap (x:Int)) &&& BitVec.ofInt 64 1).toNat:Int)=((x % 2:Nat):Int):=by
 have h4:BitVec.ofInt 64 (IntKind.i64.wrap (x:Int))=BitVec.ofNat 64 x:=by
  apply BitVec.eq_of_toNat_eq
  rw[BitVec.toNat_ofInt,BitVec.toNat_ofNat]
  have e:((2:Int) ^ (64:Nat))=18446744073709551616:=by decide
  have e2:((2:Int) ^ (63:Nat))=9223372036854775808:=by decide
  simp only[IntKind.wrap,IntKind.bits,IntKind.signed,e,Nat.reduceSub,e2,Bool.true_and,ge_iff_le,decide_eq_true_eq]
  split<;>omega
 rw[h4]
 have h5:(BitVec.ofNat 64 x &&& BitVec.ofInt 64 1).toNat=x % 2:=by
  grind
 rw[h5]
 exact Gh oM
theorem GlS(w k:Nat):((w/2 ^ k % 2:Nat):Int)=EL (w.testBit k):=by
 rw[Nat.testBit_eq_decide_div_mod_eq]
 unfold EL
 grind
theorem GiU(w k:Nat)(hk:k<64):(w:Int).fdiv (2 ^ min k 64)=((w/2 ^ k:Nat):Int):=by
 grind
theorem wrapN{n:Nat}(h:n≤9223372036854775807):IntKind.i64.wrap (n:Int)=n:=Gh oM
theorem Nu(a b:Nat):(a:Int).tdiv (b:Int)=((a/b:Nat):Int):=by simp
theorem VU(a b:Nat):(a:Int).tmod (b:Int)=((a % b:Nat):Int):=by grind
end Go.Cs
namespace Go.Cs.Tryz
open Go Go.Cs
section
variable {H : Gb} {b wb n : Nat} {f : Nat → Bool}
theorem AY(s:Side H b wb n f):run P 265 [.ptr b 0] H=some (.bool true,H):=by
 have h:=s.st
 have hp:=s.pos
 rw[Gi GtG _ _ sM]
 have hl:(0:Int)<n:=by omega
 exact W0
theorem FU(s:Side H b wb n f):run P 268 [.ptr b 0] H=some (.i 1,H):=by
 have h:=s.st
 rw[Gi GsJ _ _ sM]
 have e:IntKind.i64.wrap (1*2 ^ min 1 IntKind.i64.bits)=2:=by decide
 have e2:IntKind.i64.wrap (2-1)=1:=by decide
 have:=@FY;have:=@GsN;exact W0
theorem OP(s:Side H b wb n f)(i:Int):run P 228 [.ptr b 0,.i i] H=some (.bool (decide (0≤i∧i<n)),H):=by
 have h1:=AY s
 have h:=s.st
 rw[Gi c228 _ _ sM]
 by_cases hi:0≤i
 ·by_cases hn:i<n
  ·refine GH ?_
   simp[hi,hn]
  ·refine GH ?_
   simp[hn]
 ·refine GH ?_
  simp[hi]
theorem F8(s:Side H b wb n f){i:Nat}(hi:i<n):run P 229 [.ptr b 0,.i i] H=some (.i (EL (f i)),H):=by
 have h4:=FU s
 have h:=s.st
 have hp:=s.pos
 obtain⟨ws,h1,h2,h3,h5⟩:=s.ws
 have hd:(i:Int).tdiv 64=((i/64:Nat):Int):=Nu i 64
 have hm:(i:Int).tmod 64=((i % 64:Nat):Int):=VU i 64
 have hi0:IntKind.i64.wrap (i:Int)=i:=wrapN oM
 have hq:IntKind.i64.wrap ((i/64:Nat):Int)=((i/64:Nat):Int):=wrapN oM
 have hlt:i/64<Vy n:=by unfold Vy;omega
 have hx:(ws.map (fun(m:Nat)=>CV.int .u64 m))[i/64]?=some (.int .u64 ((ws.getD (i/64) 0:Nat):Int)):=by
  grind
 have hb1:(0:Int)≤((i/64:Nat):Int)∧((i/64:Nat):Int)<((Vy n:Nat):Int):=by omega
 have hb2:(0:Int)≤((i % 64:Nat):Int):=by omega
 have htn:(((i/64:Nat):Int)).toNat=i/64:=by omega
 have hsh:=GiU (ws.getD (i/64) 0) (i % 64) oM
 have hres:=Gft (ws.getD (i/64) 0/2 ^ (i % 64))
 rw[GlS,h5 i hi]at hres
 rw[Gi c229 _ _ sM]
 simp(disch:=first|exact dz|fail) only[simprocAttr,Gx,↓reduceIte,Ny,h,h4,h3,Xq,Gu9,AL,Bg,Gf8,DZ,Qn,hi0,hd,hm,hq,htn,hx,Int.mul_one,IntKind.bits,hsh]
 exact congrArg (fun z=>some (CV.int .i64 z,H)) hres
theorem Gaf(s:Side H b wb n f)(i:Int):run P 139 [.ptr b 0,.i i] H=some (.i (if 0≤i∧i<n then EL (f i.toNat)else -1),H):=by
 have h1:=OP s i
 rw[Gi c139 _ _ sM]
 by_cases hi:0≤i∧i<n
 ·have h2:=F8 s (i:=i.toNat) oM
  have e:((i.toNat:Nat):Int)=i:=by omega
  rw[e]at h2
  rw[G7 hi]at h1
  rw[if_pos hi]
  exact W0
 ·rw[G5 hi]at h1
  rw[if_neg hi]
  exact W0
theorem GlM(s:Side H b wb n f){E0:Env}{j0:Nat}(h0:E0 0=.ptr b 0)(h2:E0 2=.i 1)(h8:E0 8=.i j0){r:Option (CX×Env×Gb)}(hr:den P (.loop EP) E0 H=r):
  ∃x E',r=some (x,E',H)∧((x=.ret∧.Jk [E' 6,E' 7]=Nt (P7 f (n-j0) j0))∨(x=.exit 0∧P7 f (n-j0) j0=none)):=by
 have hst:=s.st
 have hp:=s.pos
 obtain⟨x',E',H',e,-,⟨rfl,h⟩,fr⟩:=Gs (p:=P) (c:=EP) (E0:=E0) (H0:=H) (fun k E H'=>H'=H∧∃j:Nat,E 8=.i j∧k=n-j∧P7 f (n-j) j=P7 f (n-j0) j0)
  (fun x E' H'=>H'=H∧((x=.ret∧.Jk [E' 6,E' 7]=Nt (P7 f (n-j0) j0))∨(x=.exit 0∧P7 f (n-j0) j0=none))) (by
   rintro k E H' hE ⟨rfl,j,e8,rfl,hj⟩
   have e0:=(hE 0 dK).trans h0
   have e2:=(hE 2 dK).trans h2
   by_cases c:j<n
   ·have hg:=F8 s c
    have hk:n-j=(n-(j+1))+1:=by omega
    rw[hk]at hj
    simp only[P7]at hj
    by_cases hf:f j=true
    ·rw[if_pos hf]at hj
     rw[hf]at hg
     apply Gj (x:=.ret)
     ·simp(disch:=first|exact dz|fail) only[simprocAttr,Gx,↓reduceIte,EP,e0,e2,e8,hst,hg,EL]
      rfl
     ·simp
     ·exact⟨rfl,.inl ⟨rfl,by rw[←hj];simp[Gg,Nt]⟩⟩
    ·rw[if_neg hf]at hj
     have hf':f j=false:=by simpa using hf
     rw[hf']at hg
     have hw:IntKind.i64.wrap ((j:Int)+1)=((j+1:Nat):Int):=Gh oM
     apply Gp (k':=n-(j+1))
     ·simp(disch:=first|exact dz|fail) only[simprocAttr,Gx,↓reduceIte,EP,e0,e2,e8,hst,hg,EL,hw]
      rfl
     ·omega
     ·exact⟨rfl,j+1,uA,rfl,hj⟩
   ·have hk:n-j=0:=by omega
    rw[hk]at hj
    simp only[P7]at hj
    apply Gj (x:=.exit 0)
    ·refine GH ?_
     rfl
    ·simp
    grind) (n-j0) ⟨rfl,j0,h8,rfl,rfl⟩
 exact⟨x',E',hr.symm.trans e,h⟩
theorem RA(s:Side H b wb n f)(j:Nat):run P 247 [.ptr b 0,.i j,.i 1] H=some (Nt (P7 f (n-j) j),H):=by
 have h4:=AY s
 rw[Gi Gtj _ _ sM]
 have hm:(if(0:Int)>(j:Int)then(0:Int)else(j:Int))=j:=if_neg oM
 refine WX ?_
 generalize hr:den P (.loop EP) _ _=r
 obtain⟨x,E',rfl,hp⟩:=GlM s (j0:=j) uA uA uA hr
 rcases hp with⟨rfl,h1⟩|⟨rfl,h1⟩
 ·exact W0
 ·rw[h1]
  simp(disch:=first|exact dz|fail) only[simprocAttr,Gx,↓reduceIte,Nt]
theorem GkZ(s:Side H b wb n f){E0:Env}{j0:Nat}(hj0:j0≤n)(h0:E0 0=.ptr b 0)(h2:E0 2=.i 1)(h8:E0 8=.i ((j0:Int)-1)){r:Option (CX×Env×Gb)}(hr:den P (.loop Fq) E0 H=r):
  ∃x E',r=some (x,E',H)∧((x=.ret∧.Jk [E' 6,E' 7]=Nt (U4 f j0))∨(x=.exit 0∧U4 f j0=none)):=by
 have hst:=s.st
 have hp:=s.pos
 obtain⟨x',E',H',e,-,⟨rfl,h⟩,fr⟩:=Gs (p:=P) (c:=Fq) (E0:=E0) (H0:=H) (fun k E H'=>H'=H∧∃j:Nat,E 8=.i ((j:Int)-1)∧j≤n∧k=j∧U4 f j=U4 f j0)
  (fun x E' H'=>H'=H∧((x=.ret∧.Jk [E' 6,E' 7]=Nt (U4 f j0))∨(x=.exit 0∧U4 f j0=none))) (by
   rintro k E H' hE ⟨rfl,j,e8,hjn,rfl,hj⟩
   have e0:=(hE 0 dK).trans h0
   have e2:=(hE 2 dK).trans h2
   rcases k with _|j
   ·simp only[U4]at hj
    apply Gj (x:=.exit 0)
    ·refine GH ?_
     rfl
    ·simp
    grind
   ·have e8':E 8=.i (j:Int):=by rw[e8];congr 1;omega
    have hg:=F8 s (i:=j) oM
    simp only[U4]at hj
    have c0:(0:Int)≤(j:Int):=by omega
    by_cases hf:f j=true
    ·rw[if_pos hf]at hj
     rw[hf]at hg
     apply Gj (x:=.ret)
     ·simp(disch:=first|exact dz|fail) only[simprocAttr,Gx,↓reduceIte,Fq,e0,e2,e8',c0,hg,EL]
      rfl
     ·simp
     ·exact⟨rfl,.inl ⟨rfl,by rw[←hj];simp[Gg,Nt]⟩⟩
    ·rw[if_neg hf]at hj
     have hf':f j=false:=by simpa using hf
     rw[hf']at hg
     have hw:IntKind.i64.wrap ((j:Int)-1)=(j:Int)-1:=Gh oM
     apply Gp (k':=j)
     ·simp(disch:=first|exact dz|fail) only[simprocAttr,Gx,↓reduceIte,Fq,e0,e2,e8',c0,hg,EL,hw]
      rfl
     ·omega
     ·exact⟨rfl,j,uA,oM,rfl,hj⟩) j0 ⟨rfl,j0,h8,hj0,rfl,rfl⟩
 exact⟨x',E',hr.symm.trans e,h⟩
theorem Ge5(s:Side H b wb n f){j:Nat}(hj:j≤n):run P 261 [.ptr b 0,.i j,.i 1] H=some (Nt (U4 f j),H):=by
 have h4:=AY s
 have hst:=s.st
 have hp:=s.pos
 rw[Gi GpA _ _ sM]
 have hm:(if(0:Int)>(j:Int)then(0:Int)else(j:Int))=j:=if_neg oM
 have hm2:(if(n:Int)<(j:Int)then(n:Int)else(j:Int))=j:=if_neg oM
 have hw:IntKind.i64.wrap ((j:Int)-1)=(j:Int)-1:=Gh oM
 refine WX ?_
 generalize hr:den P (.loop Fq) _ _=r
 obtain⟨x,E',rfl,hp⟩:=GkZ s (j0:=j) hj uA uA uA hr
 rcases hp with⟨rfl,h1⟩|⟨rfl,h1⟩
 ·exact W0
 ·rw[h1]
  simp(disch:=first|exact dz|fail) only[simprocAttr,Gx,↓reduceIte,Nt]
end
end Go.Cs.Tryz
namespace Go.Cs
open Go
structure Obj where
 nr:Int
 nd:Int
 kd:Int
 refs:List Int
 data:List Int
structure UD where
 slots:List (List Int)
 globals:List Int
 queue:List Int
 objs:List Obj
abbrev Tag:=Nat×Nat×Nat
abbrev Tags:=Nat→Option Tag
def ints(l:List Int):List CV:=l.map CV.i
theorem ZL(l:List Int):(ints l).length=l.length:=by simp[ints]
theorem ZQ(l:List Int)(i:Nat):(ints l)[i]?=l[i]?.map CV.i:=by simp[ints]
theorem Vg(l k:List Int):ints (l++k)=ints l++ints k:=by simp[ints]
theorem ints_set(l:List Int)(i:Nat)(v:Int):ints (l.set i v)=(ints l).set i (.i v):=by simp[ints,List.map_set]
theorem EZ(l:List Int):(ints l).all leaf=true:=by simp[ints,leaf]
def Gn:CV→Nat
 |.slice b .. =>b
 |_=>0
def At(o:Tags)(t:Tag)(H:Gb)(v:CV)(e n:Nat)(cs:List CV):Prop:=
 (n=0∧cs=[]∧(v=.Gc∨∃b f,v=.slice b f 0 0 e false))∨
  ∃b tl,v=.slice b 0 n n e tl∧o b=some t∧H[b]?=some ⟨cs,.rw,e⟩∧cs.length=n*e
theorem At.pos{o:Tags}{t:Tag}{H:Gb}{v:CV}{e n:Nat}{cs:List CV}(h:At o t H v e n cs)(hn:0<n):
  ∃tl,v=.slice (Gn v) 0 n n e tl∧o (Gn v)=some t∧H[Gn v]?=some ⟨cs,.rw,e⟩∧cs.length=n*e:=by
 rcases h with⟨h,_⟩|⟨b,tl,rfl,h1,h2,h3⟩
 ·omega
 ·exact⟨tl,rfl,h1,h2,h3⟩
theorem At.len{o:Tags}{t:Tag}{H:Gb}{v:CV}{e n:Nat}{cs:List CV}(h:At o t H v e n cs)(H':Gb):Vs v H'=some (.i n,H'):=by
 rcases h with⟨rfl,rfl,rfl|⟨b,f,rfl⟩⟩|⟨b,tl,rfl,h1,h2,h3⟩<;>rfl
theorem At.leaf{o:Tags}{t:Tag}{H:Gb}{v:CV}{e n:Nat}{cs:List CV}(h:At o t H v e n cs):leaf v=true:=by
 rcases h with⟨rfl,rfl,rfl|⟨b,f,rfl⟩⟩|⟨b,tl,rfl,h1,h2,h3⟩<;>rfl
theorem At.elems{o:Tags}{t:Tag}{H H':Gb}{v:CV}{e n:Nat}{cs:List CV}(h:At o t H v e n cs)(hf:∀c,o c=some t→H'[c]?=H[c]?):elems H' e v=some (n,cs):=by
 rcases h with⟨rfl,rfl,rfl|⟨b,f,rfl⟩⟩|⟨b,tl,rfl,h1,h2,h3⟩
 ·rfl
 ·rfl
 ·by_cases hn:n=0
  ·subst hn
   have:cs=[]:=I4 oM
   subst this;rfl
  ·rw[J7 oM,hf b h1,h2,Ur,Nat.zero_add,if_pos oM]
   simp[←h3]
theorem At.frame{o o':Tags}{t:Tag}{H H':Gb}{v:CV}{e n:Nat}{cs:List CV}(h:At o t H v e n cs)(ho:∀c,o c=some t→o' c=some t)(hf:∀c,o c=some t→H'[c]?=H[c]?):At o' t H' v e n cs:=by
 rcases h with h|⟨b,tl,rfl,h1,h2,h3⟩
 ·exact .inl h
 ·exact .inr ⟨b,tl,rfl,ho b h1,by rw[hf b h1,h2],h3⟩
theorem At.append{o:Tags}{t:Tag}{H:Gb}{v:CV}{e n k:Nat}{cs new:List CV}(h:At o t H v e n cs)(hk:0<k)(hm:n+k≤JF)(hl:new.all Go.Cs.leaf=true)(hnew:new.length=k*e):
  ∃H',Jq H e v k new=some (.slice H.length 0 (n+k) (n+k) e true,H')∧H'.length=H.length+1∧H'[H.length]?=some ⟨cs++new,.rw,e⟩∧∀c,c<H.length→o c≠some t→H'[c]?=H[c]?:=by
 rcases h with⟨rfl,rfl,rfl|⟨b,f,rfl⟩⟩|⟨b,tl,rfl,h1,h2,h3⟩
 ·refine⟨H++[⟨new,.rw,e⟩],?_,sM,sM,fun c hc _=>by rw[I7 hc]⟩
  unfold Jq
  dsimp only
  rw[if_neg oM,if_pos oM,Nat.zero_add]
 ·refine⟨H++[⟨new,.rw,e⟩],?_,sM,sM,fun c hc _=>by rw[I7 hc]⟩
  unfold Jq
  dsimp only
  rw[if_neg oM,if_neg oM,if_pos oM]
  simp
 ·have hb:=Gf h2
  have hold:(if n=0 then some []else Kh H b 0 (n*e))=some cs:=by
   by_cases hn:n=0
   ·subst hn
    rw[if_pos rfl]
    congr 1
    exact(I4 oM).symm
   ·rw[if_neg hn]
    unfold Kh
    rw[h2]
    simp[←h3]
  cases tl with
  |false=>
   refine⟨H++[⟨cs++new,.rw,e⟩],?_,sM,sM,fun c hc _=>by rw[I7 hc]⟩
   unfold Jq
   dsimp only
   rw[if_neg oM,if_neg oM,if_pos oM,hold,Option.bind_some,if_neg sM]
  |true=>
   refine⟨H.set b ⟨cs,.dead,e⟩++[⟨cs++new,.rw,e⟩],?_,sM,sM,fun c hc hc'=>?_⟩
   ·unfold Jq
    dsimp only
    rw[if_neg oM,if_neg oM,if_pos oM,hold,Option.bind_some,if_pos rfl,h2]
    dsimp only
    rw[if_pos ⟨rfl,rfl,oM,hl⟩]
   ·rw[I7 (by simpa using hc),NA]
    rintro rfl
    exact hc' h1
structure Lay where
 sl:CV
 gl:CV
 qv:CV
 ov:CV
 sv:List CV
 hv:List (CV×CV)
def NM:List Obj→List (CV×CV)→List CV
 |x::xs,h::hs=>.i x.nr::.i x.nd::.i x.kd::h.1::h.2::NM xs hs
 |_,_=>[]
theorem Ez:∀(xs:List Obj)(hs:List (CV×CV))(x:Obj)(h:CV×CV),hs.length=xs.length→NM (xs++[x]) (hs++[h])=NM xs hs++[.i x.nr,.i x.nd,.i x.kd,h.1,h.2]
 |[],[],_,_,_=>rfl
 |x::xs,h::hs,x',h',e=>by
  simp only[List.cons_append,NM]
  rw[Ez xs hs x' h' (by simpa using e)]
structure Yh(o:Tags)(g:Nat)(H:Gb)(b:Nat)(M:UD)(L:Lay):Prop where
 dom:∀c t,o c=some t→c<H.length
 top:o b=some (g,0,0)
 cells:H[b]?=some ⟨[L.sl,L.gl,L.qv,L.ov],.rw,0⟩
 nsv:L.sv.length=M.slots.length
 slots:At o (g,1,0) H L.sl 1 M.slots.length L.sv
 slot:∀i s,M.slots[i]?=some s→∃v,L.sv[i]?=some v∧At o (g,2,i) H v 1 16 (ints s)
 globals:At o (g,3,0) H L.gl 1 16 (ints M.globals)
 queue:At o (g,4,0) H L.qv 1 M.queue.length (ints M.queue)
 nhv:L.hv.length=M.objs.length
 objs:At o (g,5,0) H L.ov 5 M.objs.length (NM M.objs L.hv)
 refs:∀j x,M.objs[j]?=some x→∃h,L.hv[j]?=some h∧At o (g,6,j) H h.1 1 x.refs.length (ints x.refs)∧At o (g,7,j) H h.2 1 x.data.length (ints x.data)
theorem Yh.frame{o o':Tags}{g:Nat}{H H':Gb}{b:Nat}{M:UD}{L:Lay}(m:Yh o g H b M L)(hd:∀c t,o' c=some t→c<H'.length)(ho:∀c k,o c=some (g,k)→o' c=some (g,k))(hf:∀c k,o c=some (g,k)→H'[c]?=H[c]?):Yh o' g H' b M L where
 dom:=hd
 top:=ho _ _ m.top
 cells:=by rw[hf _ _ m.top,m.cells]
 nsv:=m.nsv
 slots:=m.slots.frame (fun c=>ho c _) (fun c=>hf c _)
 slot:=fun i s h=>by
  obtain⟨v,h1,h2⟩:=m.slot i s h
  exact⟨v,h1,h2.frame (fun c=>ho c _) (fun c=>hf c _)⟩
 globals:=m.globals.frame (fun c=>ho c _) (fun c=>hf c _)
 queue:=m.queue.frame (fun c=>ho c _) (fun c=>hf c _)
 nhv:=m.nhv
 objs:=m.objs.frame (fun c=>ho c _) (fun c=>hf c _)
 refs:=fun j x h=>by
  obtain⟨v,h1,h2,h3⟩:=m.refs j x h
  exact⟨v,h1,h2.frame (fun c=>ho c _) (fun c=>hf c _),h3.frame (fun c=>ho c _) (fun c=>hf c _)⟩
theorem Yh.app{o:Tags}{g:Nat}{H:Gb}{b:Nat}{M:UD}{L:Lay}(m:Yh o g H b M L)(J:Gb):Yh o g (H++J) b M L:=
 m.frame (fun c t h=>by have:=m.dom c t h;simp;omega) (fun _ _ h=>h) (fun c k h=>I7 (m.dom c _ h))
structure Obj.Ok(n:Nat)(x:Obj):Prop where
 nr:0≤x.nr∧x.nr≤15∧x.refs.length=x.nr.toNat
 nd:0≤x.nd∧x.nd≤200∧x.data.length=x.nd.toNat
 kd:0≤x.kd∧x.kd≤3∧(x.kd=1→1≤x.nr)∧(x.kd=2→2≤x.nr)
 ids:∀v∈x.refs,0≤v∧v≤(n:Int)
structure UD.Ok(M:UD):Prop where
 ns:1≤M.slots.length∧M.slots.length≤4
 s16:∀s∈M.slots,s.length=16∧∀v∈s,0≤v∧v≤(M.objs.length:Int)
 g16:M.globals.length=16∧∀v∈M.globals,0≤v∧v≤(M.objs.length:Int)
 Po:M.queue.length≤64∧∀v∈M.queue,1≤v∧v≤(M.objs.length:Int)
 objs:∀x∈M.objs,x.Ok M.objs.length
 few:M.objs.length≤100000
def UD.Gbn(M:UD)(mu i:Int):Int×Int:=
 if 0≤mu∧mu<M.slots.length∧0≤i∧i<16 then(((M.slots.getD mu.toNat []).getD i.toNat 0),0)else(0,1)
def UD.has(M:UD)(n:Int):Prop:=1≤n∧n≤(M.objs.length:Int)
instance(M:UD)(n:Int):Decidable (M.has n):=by unfold UD.has;exact inferInstance
def UD.obj(M:UD)(n:Int):Obj:=M.objs.getD (n-1).toNat ⟨0,0,0,[],[]⟩
def GoV(l:List Int)(i:Int):Int×Int:=if 0≤i∧i<(l.length:Int)then(l.getD i.toNat 0,0)else(0,1)
def UD.GN(M:UD)(n i:Int):Int×Int:=if M.has n then GoV (M.obj n).refs i else(0,4)
def UD.JM(M:UD)(n i:Int):Int×Int:=if M.has n then GoV (M.obj n).data i else(0,4)
def UD.JO(M:UD)(n:Int):(Int×Int×Int)×Int:=if M.has n then(((M.obj n).nr,(M.obj n).nd,(M.obj n).kd),0)else((0,0,0),4)
theorem AQ{α:Type}{l:List α}{i:Nat}(d:α)(h:i<l.length):l[i]?=some (l.getD i d):=by
 simp[WE,h]
theorem UD.GjN{M:UD}{n:Int}(h:M.has n):M.objs[(n-1).toNat]?=some (M.obj n):=AQ _ (by unfold UD.has at h;omega)
end Go.Cs
namespace Go.Cs
open Go
section
variable {F : Jl} {E : Env} {H : Gb}
def FT(F:Jl)(Fj:List (Nat×String×Nat))(g:CV)(args:List CV)(H:Gb):Option (CV×Gb):=match g with
 |.func f caps=>if f<RB then F f (args++caps) H else none
 |.GaX name (.iface t x)=>(Au Fj t name).bind fun f=>F f (x::args) H
 |.yld b=>yieldOf F b args H
 |_=>none
theorem Ja{g:J8}{l:List J8}{Fj:List (Nat×String×Nat)}:Ky F (.N8 g l Fj) E H=FT F Fj (E.ev g) (l.map E.ev) H:=by
 simp only[Ky,FT]
 grind
theorem JH{Fj:List (Nat×String×Nat)}{f:Nat}{caps args:List CV}(hf:f<1000000):FT F Fj (.func f caps) args H=F f (args++caps) H:=if_pos hf
theorem Gjy{k:IntKind}{a b:Int}:Q7 .or (.int k a) (.int k b)=okV (.int k (k.wrap (BitVec.ofInt k.bits a ||| BitVec.ofInt k.bits b).toNat)):=by simp[Q7,Kg]
theorem XI{k:IntKind}{a b:Int}:Q7 .andNot (.int k a) (.int k b)=okV (.int k (k.wrap (BitVec.ofInt k.bits a &&& ~~~BitVec.ofInt k.bits b).toNat)):=by simp[Q7,Kg]
theorem WV{Fj:List (Nat×String×Nat)}{b:Nat}{args:List CV}:FT F Fj (.yld b) args H=yieldOf F b args H:=rfl
end
def Sl(H:Gb)(v:CV)(e:Nat)(rs:List (List CV)):Prop:=
 (rs=[]∧(v=.Gc∨∃b o c t,v=.slice b o 0 c e t))∨
  ∃b o c t k,v=.slice b o rs.length c e t∧H[b]?=some k∧(k.mode=.rw∨k.mode=.ro)∧∀(i:Nat)(r:List CV),rs[i]?=some r→(k.cells.drop (o+i*e)).take e=r∧r.length=e
def VH(l:List Int):List (List CV):=l.map fun x=>[.i x]
abbrev Xl(H:Gb)(v:CV)(l:List Int):Prop:=Sl H v 1 (VH l)
section
variable {H : Gb} {v : CV} {e : Nat} {rs : List (List CV)}
theorem Sl.len(h:Sl H v e rs)(H':Gb):Vs v H'=some (.i rs.length,H'):=by
 rcases h with⟨rfl,rfl|⟨b,o,c,t,rfl⟩⟩|⟨b,o,c,t,k,rfl,-⟩<;>rfl
theorem Xl.len{l:List Int}(h:Xl H v l)(H':Gb):Vs v H'=some (.i l.length,H'):=by
 have:=Sl.len h H'
 simpa[VH]using this
theorem XD{α:Type}{l:List α}{i:Nat}{x:α}(h:(l.drop i).take 1=[x]):l[i]?=some x:=by
 have:=congrArg (fun r=>r[0]?) h
 grind
theorem Sl.at(h:Sl H v e rs){i:Nat}{r:List CV}(hi:rs[i]?=some r):
  ∃b o k,(∀H',JU e v (.i i) H'=some (.ptr b o,H'))∧H[b]?=some k∧(k.mode=.rw∨k.mode=.ro)∧(k.cells.drop o).take e=r∧r.length=e:=by
 rcases h with⟨rfl,-⟩|⟨b,o,c,t,k,rfl,h1,h2,h3⟩
 ·simp at hi
 ·have hl:=Gf hi
  obtain⟨q1,q2⟩:=h3 i r hi
  refine⟨b,o+i*e,k,fun H'=>?_,h1,h2,q1,q2⟩
  rw[Uq oM]
  simp
theorem Xl.at{l:List Int}(h:Xl H v l){i:Nat}{x:Int}(hi:l[i]?=some x):
  ∃b o,(∀H',JU 1 v (.i i) H'=some (.ptr b o,H'))∧ld H[b]? o=some (.i x):=by
 obtain⟨b,o,k,h1,h2,h3,h4,h5⟩:=Sl.at h (i:=i) (r:=[.i x]) (by simp[VH,hi])
 refine⟨b,o,h1,?_⟩
 have:=XD h4
 rw[h2]
 obtain⟨cs,m,z⟩:=k
 rcases h3 with rfl|rfl
 ·exact this
 ·exact this
theorem Sl.atN(h:Sl H v e rs){i:Nat}{r:List CV}(he:0<e)(hi:rs[i]?=some r):
  ∃b o,(∀H',JU e v (.i i) H'=some (.ptr b o,H'))∧Fw H[b]? o e=some r:=by
 obtain⟨b,o,k,h1,h2,h3,h4,h5⟩:=Sl.at h hi
 refine⟨b,o,h1,?_⟩
 have hlen:o+e≤k.cells.length:=by
  grind
 rw[h2]
 obtain⟨cs,m,z⟩:=k
 rcases h3 with rfl|rfl
 ·rw[Ur,if_pos hlen,←h4]
 ·rw[GbR,if_pos hlen,←h4]
theorem Sl.mono{H':Gb}(h:Sl H v e rs)(hb:∀b k,H[b]?=some k→k.mode=.rw∨k.mode=.ro→Gn v=b→H'[b]?=some k):Sl H' v e rs:=by
 rcases h with h|⟨b,o,c,t,k,rfl,h1,h2,h3⟩
 ·exact .inl h
 ·exact .inr ⟨b,o,c,t,k,rfl,hb b k h1 h2 rfl,h2,h3⟩
theorem Sl.app(h:Sl H v e rs)(J:Gb):Sl (H++J) v e rs:=
 h.mono fun b k hb _ _=>by grind
end
def KI{α:Type}(p:α→Bool):List α→Int→Int
 |[],_=> -1
 |x::l,j=>if p x=true then j else KI p l (j+1)
theorem DX{α:Type}(p:α→Bool):∀(l:List α)(j:Int),0≤j→(decide (0≤KI p l j)=l.any p)
 |[],j,h=>by simp[KI]
 |x::l,j,h=>by
  unfold KI
  by_cases hx:p x=true
  ·rw[if_pos hx];simp[hx,h]
  ·rw[if_neg hx,DX p l (j+1) oM];simp[hx]
end Go.Cs
namespace Go.Cs.Tryz
open Go Go.Cs A
def GsG:Gl:=⟨9,0,T [nb 4 false] (Q [m 5 0,m 6 1,q2 7 208 5 6,bk 8 .geq 7 0,m 4 8]),[r 4]⟩
theorem Grg:P 108=some GsG:=by kernel_rfl
def Gp6:Gl:=⟨9,0,T [nb 4 false] (Q [m 5 0,m 6 1,q2 7 255 5 6,bk 8 .geq 7 0,m 4 8]),[r 4]⟩
theorem c194:P 194=some Gp6:=by kernel_rfl
abbrev Lu:Gq:=T [b 9 .lss 8 7] (S (J 9 (X 0)) (S (B 1 (T [m 10 8,m 5 10] (T [m 11 1,m 12 0,m 13 5,x 14 1 12 13,l 15 1 14,b 16 .eql 11 15] (I 16 (Q [m 17 5,m 4 17]))))) (R [bk 18 .add 8 1,m 8 18])))
def Gqy:Gl:=⟨19,0,T [n 4 0] (S (T [m 6 0,le 7 6,n 8 0] (B 0 (W Lu))) (Q [n 4 (-1)])),[r 4]⟩
theorem c208:P 208=some Gqy:=by kernel_rfl
abbrev EM:Gq:=T [b 9 .lss 8 7] (S (J 9 (X 0)) (S (B 1 (T [m 10 8,m 5 10] (T [m 11 1,m 12 0,m 13 5,x 14 1 12 13,l 15 1 14,e 16 (.N8 (t 11) [t 15] [(304,"dustcart/alloc.place",335),(305,"dustcart/alloc.place",340),(306,"dustcart/alloc.place",348),(307,"dustcart/alloc.place",349),(308,"dustcart/alloc.place",353)])] (I 16 (Q [m 17 5,m 4 17]))))) (R [bk 18 .add 8 1,m 8 18])))
def Gri:Gl:=⟨19,0,T [n 4 0] (S (T [m 6 0,le 7 6,n 8 0] (B 0 (W EM))) (Q [n 4 (-1)])),[r 4]⟩
theorem Gt9:P 255=some Gri:=by kernel_rfl
end Go.Cs.Tryz
namespace Go.Cs
open Go
theorem drop_cons{α:Type}{l:List α}{j:Nat}{x:α}(h:l[j]?=some x):l.drop j=x::l.drop (j+1):=by
 have hl:=Gf h
 rw[List.drop_eq_getElem_cons hl]
 grind
end Go.Cs
namespace Go.Cs.Tryz
open Go Go.Cs
section
variable {H : Gb} {v : CV}
theorem Glp{l:List Int}(hs:Xl H v l){fn:Nat}(hfn:fn<1000000){caps:List CV}{p:Int→Bool}(hp:∀x∈l,run P fn (.i x::caps) H=some (.bool (p x),H))(hl:l.length≤1000000)
  {E0:Env}(h0:E0 0=v)(h1:E0 1=.func fn caps)(h7:E0 7=.i l.length)(h8:E0 8=.i 0){r:Option (CX×Env×Gb)}(hr:den P (.loop EM) E0 H=r):
  ∃x E',r=some (x,E',H)∧((x=.ret∧E' 4=.i (KI p l 0))∨(x=.exit 0∧KI p l 0= -1)):=by
 obtain⟨x',E',H',e,-,⟨rfl,h⟩,fr⟩:=Gs (p:=P) (c:=EM) (E0:=E0) (H0:=H) (fun k E H'=>H'=H∧∃j:Nat,E 8=.i j∧j≤l.length∧k=l.length-j∧KI p (l.drop j) j=KI p l 0)
  (fun x E' H'=>H'=H∧((x=.ret∧E' 4=.i (KI p l 0))∨(x=.exit 0∧KI p l 0= -1))) (by
   rintro k E H' hE ⟨rfl,j,e8,hj,rfl,hd⟩
   have e0:=(hE 0 dK).trans h0
   have e1:=(hE 1 dK).trans h1
   have e7:=(hE 7 dK).trans h7
   by_cases c:j<l.length
   ·have hx:l[j]?=some l[j]:=JG c
    obtain⟨b,o,q1,q2⟩:=Xl.at hs hx
    have hq:=hp l[j] (List.getElem_mem c)
    rw[drop_cons hx]at hd
    simp only[KI]at hd
    by_cases hf:p l[j]=true
    ·rw[if_pos hf]at hd
     rw[hf]at hq
     apply Gj (x:=.ret)
     ·simp(disch:=first|exact dz|fail) only[simprocAttr,Gx,↓reduceIte,EM,e0,e1,e7,e8,q1,Yz q2,Ja,JH hfn,hq]
      rfl
     ·simp
     ·exact⟨rfl,.inl ⟨rfl,by rw[←hd];simp[Gg]⟩⟩
    ·rw[if_neg hf]at hd
     have hf':p l[j]=false:=by simpa using hf
     rw[hf']at hq
     have hw:IntKind.i64.wrap ((j:Int)+1)=((j+1:Nat):Int):=Gh oM
     apply Gp (k':=l.length-(j+1))
     ·simp(disch:=first|exact dz|fail) only[simprocAttr,Gx,↓reduceIte,EM,e0,e1,e7,e8,q1,Yz q2,Ja,JH hfn,hq,hw]
      rfl
     ·omega
     ·exact⟨rfl,j+1,uA,oM,rfl,by rw[←hd];push_cast;rfl⟩
   ·have hk:l.drop j=[]:=List.drop_eq_nil_of_le oM
    rw[hk]at hd
    simp only[KI]at hd
    apply Gj (x:=.exit 0)
    ·refine GH ?_
     rfl
    ·simp
    grind) l.length ⟨rfl,0,h8,oM,rfl,rfl⟩
 exact⟨x',E',hr.symm.trans e,h⟩
theorem Gbg{l:List Int}(hs:Xl H v l){fn:Nat}(hfn:fn<1000000){caps:List CV}{p:Int→Bool}(hp:∀x∈l,run P fn (.i x::caps) H=some (.bool (p x),H))(hl:l.length≤1000000):
  run P 255 [v,.func fn caps] H=some (.i (KI p l 0),H):=by
 have hlen:=Xl.len hs H
 rw[Gi Gt9 _ _ sM]
 refine GH ?_
 generalize hr:den P (.loop EM) _ _=r
 obtain⟨x,E',rfl,hq⟩:=Glp hs hfn hp hl uA uA uA uA hr
 rcases hq with⟨rfl,h1⟩|⟨rfl,h1⟩
 ·exact W0
 ·exact W0
theorem BK{l:List Int}(hs:Xl H v l){fn:Nat}(hfn:fn<1000000){caps:List CV}{p:Int→Bool}(hp:∀x∈l,run P fn (.i x::caps) H=some (.bool (p x),H))(hl:l.length≤1000000):
  run P 194 [v,.func fn caps] H=some (.bool (l.any p),H):=by
 have h:=Gbg hs hfn hp hl
 have hd:=DX p l 0 oM
 rw[Gi c194 _ _ sM]
 exact W0
theorem Gnl{l:List Int}(hs:Xl H v l){y:Int}(hl:l.length≤1000000)
  {E0:Env}(h0:E0 0=v)(h1:E0 1=.i y)(h7:E0 7=.i l.length)(h8:E0 8=.i 0){r:Option (CX×Env×Gb)}(hr:den P (.loop Lu) E0 H=r):
  ∃x E',r=some (x,E',H)∧((x=.ret∧E' 4=.i (KI (fun x=>y==x) l 0))∨(x=.exit 0∧KI (fun x=>y==x) l 0= -1)):=by
 obtain⟨x',E',H',e,-,⟨rfl,h⟩,fr⟩:=Gs (p:=P) (c:=Lu) (E0:=E0) (H0:=H) (fun k E H'=>H'=H∧∃j:Nat,E 8=.i j∧j≤l.length∧k=l.length-j∧KI (fun x=>y==x) (l.drop j) j=KI (fun x=>y==x) l 0)
  (fun x E' H'=>H'=H∧((x=.ret∧E' 4=.i (KI (fun x=>y==x) l 0))∨(x=.exit 0∧KI (fun x=>y==x) l 0= -1))) (by
   rintro k E H' hE ⟨rfl,j,e8,hj,rfl,hd⟩
   have e0:=(hE 0 dK).trans h0
   have e1:=(hE 1 dK).trans h1
   have e7:=(hE 7 dK).trans h7
   by_cases c:j<l.length
   ·have hx:l[j]?=some l[j]:=JG c
    obtain⟨b,o,q1,q2⟩:=Xl.at hs hx
    rw[drop_cons hx]at hd
    simp only[KI]at hd
    by_cases hf:(y==l[j])=true
    ·rw[if_pos hf]at hd
     apply Gj (x:=.ret)
     ·simp(disch:=first|exact dz|fail) only[simprocAttr,Gx,↓reduceIte,Lu,e0,e1,e7,e8,q1,Yz q2,hf]
      rfl
     ·simp
     ·exact⟨rfl,.inl ⟨rfl,by rw[←hd];simp[Gg]⟩⟩
    ·rw[if_neg hf]at hd
     have hf':(y==l[j])=false:=by simpa using hf
     have hw:IntKind.i64.wrap ((j:Int)+1)=((j+1:Nat):Int):=Gh oM
     apply Gp (k':=l.length-(j+1))
     ·refine GH ?_
      rfl
     ·omega
     ·exact⟨rfl,j+1,uA,oM,rfl,by rw[←hd];push_cast;rfl⟩
   ·have hk:l.drop j=[]:=List.drop_eq_nil_of_le oM
    rw[hk]at hd
    simp only[KI]at hd
    apply Gj (x:=.exit 0)
    ·refine GH ?_
     rfl
    ·simp
    grind) l.length ⟨rfl,0,h8,oM,rfl,rfl⟩
 exact⟨x',E',hr.symm.trans e,h⟩
theorem contains{l:List Int}(hs:Xl H v l)(y:Int)(hl:l.length≤1000000):run P 108 [v,.i y] H=some (.bool (l.any fun x=>y==x),H):=by
 have h:run P 208 [v,.i y] H=some (.i (KI (fun x=>y==x) l 0),H):=by
  have hlen:=Xl.len hs H
  rw[Gi c208 _ _ sM]
  refine GH ?_
  generalize hr:den P (.loop Lu) _ _=r
  obtain⟨x,E',rfl,hq⟩:=Gnl hs (y:=y) hl uA uA uA uA hr
  rcases hq with⟨rfl,h1⟩|⟨rfl,h1⟩
  ·exact W0
  ·exact W0
 have hd:=DX (fun x=>y==x) l 0 oM
 rw[Gi Grg _ _ sM]
 exact W0
end
end Go.Cs.Tryz
namespace Go.Cs.Tryz
open Go Go.Cs A
def Gt5:Gl:=⟨20,0,T [n 6 0] (S (T [m 8 0,m 9 1,m 10 2,e 11 (.buildSlice 1 [i 0] 1 [(0,1,t 10)]),q3 12 221 8 9 11,m 7 12] (T [m 13 7,bk 14 .neq 13 0] (I 14 (Q [m 15 7,m 6 15])))) (T [m 16 0,m 17 1,m 18 2,q3 19 222 16 17 18] (Q [n 6 0]))),[r 6]⟩
theorem GqH:P 129=some Gt5:=by kernel_rfl
def Gsr:Gl:=⟨21,0,T [bo 3 0,n 6 0] (S (B 0 (T [l 8 1 3,q1 9 265 8,no 10 9,m 7 10] (C 7 (Q [n 6 5]) (T [l 12 1 3,m 13 1,q2 14 228 12 13,no 15 14,m 16 15,gf 16 (m 17 2),gf 16 (e 18 (.NI 266 [t 3])),gf 16 (q2 19 194 17 18),or 20 16 19,m 11 20] (I 11 (Q [n 6 1])))))) (Q [n 6 0])),[r 6]⟩
theorem GqQ:P 221=some Gsr:=by kernel_rfl
def Guv:Gl:=⟨39,0,T [m 8 1,m 9 0,z 10 9,f 11 1 10,l 12 1 11,b 13 .mul 8 12,m 6 13] (T [m 14 0,z 15 14,f 16 2 15,l 17 1 16,m 18 6,bk 19 .quo 18 64,x 20 1 17 19,m 7 20] (D [⟨m 25 0,4,0,0⟩,⟨q1 26 268 25,5,3,0⟩,⟨m 21 7,0,0,0⟩,⟨m 22 7,1,0,0⟩,⟨z 23 22,2,0,0⟩,⟨l 24 1 23,3,1,0⟩,⟨e 27 (.conv .u64 (t 26)),6,0,1⟩,⟨m 28 6,7,0,0⟩,⟨bk 29 .rem 28 64,8,0,0⟩,⟨e 30 (.shift .shl (t 27) (t 29)),9,0,1⟩,⟨b 31 .andNot 24 30,10,0,1⟩,⟨m 32 2,11,0,0⟩,⟨e 33 (.conv .u64 (t 32)),12,0,0⟩,⟨m 34 6,13,0,0⟩,⟨bk 35 .rem 34 64,14,0,0⟩,⟨e 36 (.shift .shl (t 33) (t 35)),15,0,0⟩,⟨b 37 .or 31 36,16,0,1⟩,⟨z 38 21,17,0,1⟩,⟨st 1 38 37,18,3,1⟩])),[]⟩
theorem c222:P 222=some Guv:=by kernel_rfl
def Guq:Gl:=⟨8,0,T [nb 3 false] (Q [l 4 1 1,m 5 0,q2 6 267 4 5,no 7 6,m 3 7]),[r 3]⟩
theorem Guk:P 266=some Guq:=by kernel_rfl
def Gsw:Gl:=⟨13,0,T [nb 4 false] (Q [m 5 1,bk 6 .geq 5 0,m 7 6,gt 7 (m 8 1),gt 7 (m 9 0),gt 7 (q1 10 268 9),gt 7 (b 11 .leq 8 10),an 12 7 11,m 4 12]),[r 4]⟩
theorem Gqt:P 267=some Gsw:=by kernel_rfl
end Go.Cs.Tryz
namespace Go.Cs
open Go
structure Keeps(H H':Gb)(w:Nat→Prop):Prop where
 len:H.length≤H'.length
 keep:∀c,c<H.length→¬w c→H'[c]?=H[c]?
theorem Keeps.refl(H:Gb)(w:Nat→Prop):Keeps H H w:=⟨Nat.le_refl _,fun _ _ _=>rfl⟩
theorem Keeps.trans{H H' BP:Gb}{w:Nat→Prop}(a:Keeps H H' w)(b:Keeps H' BP w):Keeps H BP w:=
 ⟨Jm a.len b.len,fun c h hw=>by rw[b.keep c (JI h a.len) hw,a.keep c h hw]⟩
theorem Keeps.weaken{H H':Gb}{w w':Nat→Prop}(a:Keeps H H' w)(h:∀c,w c→w' c):Keeps H H' w':=
 ⟨a.len,fun c hc hw=>a.keep c hc fun hh=>hw (h c hh)⟩
theorem Keeps.app(H J:Gb)(w:Nat→Prop):Keeps H (H++J) w:=⟨sM,fun c h _=>I7 h⟩
theorem Keeps.app'{H H':Gb}{w:Nat→Prop}(a:Keeps H H' w)(J:Gb):Keeps H (H'++J) w:=a.trans (.app _ _ _)
theorem Keeps.set{H H':Gb}{w:Nat→Prop}(a:Keeps H H' w){c:Nat}(hc:w c∨H.length≤c)(k:JD):Keeps H (H'.set c k) w:=
 ⟨by simpa using a.len,fun d hd hw=>by rw[NA,a.keep d hd hw];grind⟩
def Ao(w k:Nat)(x:Bool):Nat:=((BitVec.ofNat 64 w &&& ~~~BitVec.ofNat 64 (2 ^ k)) ||| BitVec.ofNat 64 ((if x then 1 else 0)*2 ^ k)).toNat
theorem Gdv(w k:Nat)(x:Bool):Ao w k x<18446744073709551616:=by
 unfold Ao
 exact BitVec.isLt _
theorem Gcy{w k j:Nat}(x:Bool)(hj:j<64)(hk:k<64):(Ao w k x).testBit j=if j=k then x else w.testBit j:=by
 unfold Ao
 rw[BitVec.testBit_toNat,BitVec.getLsbD_or,BitVec.getLsbD_and,BitVec.getLsbD_not,BitVec.getLsbD_ofNat,BitVec.getLsbD_ofNat,BitVec.getLsbD_ofNat]
 grind
theorem Oi{n:Nat}(h:n<18446744073709551616):IntKind.u64.wrap (n:Int)=n:=by
 have e:((2:Int) ^ (64:Nat))=18446744073709551616:=by decide
 simp only[IntKind.wrap,IntKind.bits,IntKind.signed,e,Bool.false_and,Bool.false_eq_true,if_false]
 omega
theorem GgP{w k:Nat}(x:Bool)(hk:k<64):
  IntKind.u64.wrap ((BitVec.ofInt 64 (IntKind.u64.wrap ((BitVec.ofInt 64 (w:Int) &&& ~~~BitVec.ofInt 64 (IntKind.u64.wrap (1*2 ^ min k 64))).toNat:Int)) ||| BitVec.ofInt 64 (IntKind.u64.wrap (EL x*2 ^ min k 64))).toNat:Int)=((Ao w k x:Nat):Int):=by
 have hm:min k 64=k:=by omega
 have hp:2 ^ k<18446744073709551616:=by
  have:2 ^ k≤2 ^ 63:=Nat.pow_le_pow_right dE oM
  omega
 have e1:((1:Int)*2 ^ k)=((2 ^ k:Nat):Int):=by simp
 have e2:(EL x*2 ^ k)=(((if x then 1 else 0)*2 ^ k:Nat):Int):=by cases x<;>simp[EL]
 have e3:(if x then 1 else 0)*2 ^ k<18446744073709551616:=by cases x<;>simp<;>omega
 rw[hm,e1,e2,Oi hp,Oi e3]
 simp only[BitVec.ofInt_natCast]
 rw[Oi (BitVec.isLt _),Oi (BitVec.isLt _)]
 simp only[BitVec.ofInt_natCast]
 unfold Ao
 grind
theorem Gj5(x:Bool):IntKind.u64.wrap (EL x)=EL x:=by cases x<;>decide
theorem Side.put{H H':Gb}{b wb n:Nat}{f:Nat→Bool}(s:Side H b wb n f){i:Nat}(hi:i<n)(x:Bool){ws:List Nat}(h1:ws.length=Vy n)(h2:∀w∈ws,w<18446744073709551616)
  (h5:∀i,i<n→(ws.getD (i/64) 0).testBit (i % 64)=f i)(hb:H'[b]?=H[b]?)
  (hw:H'[wb]?=some ⟨(ws.set (i/64) (Ao (ws.getD (i/64) 0) (i % 64) x)).map (fun(m:Nat)=>CV.int .u64 m),.rw,1⟩):Side H' b wb n (fun k=>if k=i then x else f k):=by
 refine⟨by rw[hb,s.st],⟨_,by simpa using h1,fun w hw=>?_,hw,fun k hk=>?_⟩,s.pos⟩
 ·rcases List.mem_or_eq_of_mem_set hw with h|rfl
  ·exact h2 w h
  ·exact Gdv _ _ _
 ·have hlt:i/64<ws.length:=by rw[h1];unfold Vy;omega
  rw[WE,Tj]
  by_cases e:i/64=k/64
  ·rw[if_pos e,if_pos hlt,Option.getD_some,Gcy x oM oM]
   grind
  grind
end Go.Cs
namespace Go.Cs.Tryz
open Go Go.Cs
section
variable {H : Gb} {b wb n : Nat} {f : Nat → Bool}
theorem Gcs(s:Side H b wb n f)(x:Bool):run P 267 [.ptr b 0,.i (EL x)] H=some (.bool true,H):=by
 have h4:=FU s
 have h1:0≤EL x:=by cases x<;>decide
 have h2:EL x≤1:=by cases x<;>decide
 rw[Gi Gqt _ _ sM]
 exact W0
theorem Gf2(s:Side H b wb n f){i:Nat}(hi:i<n)(x:Bool):
  ∃H',run P 222 [.ptr b 0,.i i,.i (EL x)] H=some (.Jk [],H')∧Keeps H H' (·=wb)∧Side H' b wb n (fun k=>if k=i then x else f k):=by
 have h4:=FU s
 have h:=s.st
 have hp:=s.pos
 obtain⟨ws,h1,h2,h3,h5⟩:=s.ws
 have hne:wb≠b:=by rintro rfl;rw[h]at h3;simp at h3
 have hd:(i:Int).tdiv 64=((i/64:Nat):Int):=Nu i 64
 have hm:(i:Int).tmod 64=((i % 64:Nat):Int):=VU i 64
 have hi0:IntKind.i64.wrap (i:Int)=i:=wrapN oM
 have hq:IntKind.i64.wrap ((i/64:Nat):Int)=((i/64:Nat):Int):=wrapN oM
 have hlt:i/64<Vy n:=by unfold Vy;omega
 have hx:(ws.map (fun(m:Nat)=>CV.int .u64 m))[i/64]?=some (.int .u64 ((ws.getD (i/64) 0:Nat):Int)):=by
  grind
 have hb1:(0:Int)≤((i/64:Nat):Int)∧((i/64:Nat):Int)<((Vy n:Nat):Int):=by omega
 have hb2:(0:Int)≤((i % 64:Nat):Int):=by omega
 have hres:=GgP (w:=ws.getD (i/64) 0) (k:=i % 64) x oM
 have hlen:i/64<(ws.map (fun(m:Nat)=>CV.int .u64 m)).length:=by simp;omega
 have hc1:IntKind.u64.wrap 1=1:=by decide
 have hcx:=Gj5 x
 refine⟨H.set wb ⟨(ws.set (i/64) (Ao (ws.getD (i/64) 0) (i % 64) x)).map (fun(m:Nat)=>CV.int .u64 m),.rw,1⟩,?_,Keeps.set (w:=fun c=>c=wb) (Keeps.refl H _) (.inl rfl) _,?_⟩
 ·rw[Gi c222 _ _ sM]
  rw[List.map_set]
  simp(disch:=first|exact dz|fail) only[simprocAttr,Gx,↓reduceIte,DK,h,h4,h3,Xq,Gu5,AL,Bg,Qn,hi0,hd,hm,hq,hx,Int.mul_one,IntKind.bits,hc1,hcx,J9,Gjy,XI]
  exact congrArg (fun z=>some (CV.Jk [],H.set wb ⟨(ws.map (fun(m:Nat)=>CV.int .u64 m)).set (i/64) (.int .u64 z),.rw,1⟩)) hres
 ·exact s.put hi x h1 h2 h5 (by rw[NA hne]) (by grind)
theorem GaT(s:Side H b wb n f){i:Nat}(hi:i<n)(x:Bool){v:CV}(hv:Xl H v [EL x]):run P 221 [.ptr b 0,.i i,v] H=some (.i 0,H++[⟨[.ptr b 0],.rw,0⟩]):=by
 have s':=s.app [⟨[.ptr b 0],.rw,0⟩]
 have h1:=AY s'
 have h2:=OP s' i
 have e:decide ((0:Int)≤(i:Int)∧(i:Int)<(n:Int))=true:=G7 oM
 rw[e]at h2
 have h3:=Gcs s' x
 have h4:run P 266 [.i (EL x),.ptr H.length 0] (H++[⟨[.ptr b 0],.rw,0⟩])=some (.bool false,H++[⟨[.ptr b 0],.rw,0⟩]):=by
  rw[Gi Guk _ _ sM]
  exact W0
 have h5:=BK (Sl.app hv [⟨[.ptr b 0],.rw,0⟩]) (fn:=266) oM (caps:=[.ptr H.length 0]) (p:=fun _=>false) (by simpa using h4) sM
 have e2:([EL x].any fun _=>false)=false:=rfl
 rw[e2]at h5
 rw[Gi GqQ _ _ sM]
 have:=@Ov;exact W0
theorem DC(s:Side H b wb n f){i:Nat}(hi:i<n)(x:Bool):
  ∃H',run P 129 [.ptr b 0,.i i,.i (EL x)] H=some (.i 0,H')∧Keeps H H' (·=wb)∧Side H' b wb n (fun k=>if k=i then x else f k):=by
 have s1:=s.app [⟨[.i (EL x)],.rw,1⟩]
 have hv:Xl (H++[⟨[.i (EL x)],.rw,1⟩]) (.slice H.length 0 1 1 1 false) [EL x]:=
  .inr ⟨H.length,0,1,false,⟨[.i (EL x)],.rw,1⟩,rfl,sM,.inl rfl,fun i r h=>by
   match i,h with
   |0,h=>simp[VH]at h;subst h;simp
   |i+1,h=>simp[VH]at h⟩
 have h1:=GaT s1 hi x hv
 have s2:=s1.app [⟨[.ptr b 0],.rw,0⟩]
 obtain⟨H',h2,h3,h4⟩:=Gf2 s2 hi x
 refine⟨H',?_,((Keeps.app H _ _).app' _).trans h3,h4⟩
 rw[Gi GqH _ _ sM]
 exact W0
end
end Go.Cs.Tryz
namespace Go.Cs.Tryz
open Go Go.Cs A
def C49:Gl:=⟨11,0,T [n 2 0] (S (T [m 3 0,q1 4 95 3,no 5 4] (I 5 (Q [n 2 0]))) (Q [m 6 0,z 7 6,f 8 0 7,l 9 1 8,le 10 9,m 2 10])),[r 2]⟩
theorem c49:P 49=some C49:=by kernel_rfl
def C50:Gl:=⟨26,0,T [nb 4 false] (Q [m 5 0,q1 6 95 5,m 7 6,gt 7 (m 8 1),gt 7 (bk 9 .geq 8 0),an 10 7 9,m 11 10,gt 11 (m 12 1),gt 11 (bk 13 .rem 12 2),gt 11 (bk 14 .eql 13 0),an 15 11 14,m 16 15,gt 16 (m 17 0),gt 16 (z 18 17),gt 16 (f 19 2 18),gt 16 (l 20 1 19),gt 16 (m 21 1),gt 16 (bk 22 .quo 21 2),gt 16 (q2 23 139 20 22),gt 16 (bk 24 .eql 23 1),an 25 16 24,m 4 25]),[r 4]⟩
theorem c50:P 50=some C50:=by kernel_rfl
def C70:Gl:=⟨10,0,T [n 2 0] (S (T [m 3 0,q1 4 95 3,no 5 4] (I 5 (Q [n 2 0]))) (Q [m 6 0,z 7 6,f 8 6 7,l 9 1 8,m 2 9])),[r 2]⟩
theorem c70:P 70=some C70:=by kernel_rfl
def C71:Gl:=⟨21,0,T [n 4 0] (S (T [m 5 1,bk 6 .lss 5 0,m 7 6,gf 7 (m 8 1),gf 7 (m 9 0),gf 7 (q1 10 49 9),gf 7 (b 11 .geq 8 10),or 12 7 11] (I 12 (Q [n 4 (-1)]))) (Q [m 13 0,z 14 13,f 15 0 14,l 16 1 15,m 17 1,x 18 2 16 17,f 19 0 18,l 20 1 19,m 4 20])),[r 4]⟩
theorem c71:P 71=some C71:=by kernel_rfl
def C72:Gl:=⟨21,0,T [n 4 0] (S (T [m 5 1,bk 6 .lss 5 0,m 7 6,gf 7 (m 8 1),gf 7 (m 9 0),gf 7 (q1 10 49 9),gf 7 (b 11 .geq 8 10),or 12 7 11] (I 12 (Q [n 4 (-1)]))) (Q [m 13 0,z 14 13,f 15 0 14,l 16 1 15,m 17 1,x 18 2 16 17,f 19 1 18,l 20 1 19,m 4 20])),[r 4]⟩
theorem c72:P 72=some C72:=by kernel_rfl
def C95:Gl:=⟨13,0,T [nb 2 false] (Q [m 3 0,e 4 (.eqv true 1 (t 3) (c .nilPtr)),m 5 4,gt 5 (m 6 0),gt 5 (z 7 6),gt 5 (f 8 0 7),gt 5 (l 9 1 8),gt 5 (le 10 9),gt 5 (bk 11 .gtr 10 0),an 12 5 11,m 2 12]),[r 2]⟩
theorem c95:P 95=some C95:=by kernel_rfl
def Gq6:Gl:=⟨14,0,T [n 4 0] (S (B 0 (T [m 6 0,q1 7 95 6,no 8 7,m 5 8] (C 5 (Q [n 4 5]) (T [m 10 0,m 11 1,q2 12 50 10 11,no 13 12,m 9 13] (I 9 (Q [n 4 4])))))) (Q [n 4 0])),[r 4]⟩
theorem Gtd:P 120=some Gq6:=by kernel_rfl
end Go.Cs.Tryz
namespace Go.Cs
open Go
structure Ob where
 addr:Nat
 id:Nat
 refs:List Int
 data:List Int
 kd:Nat
 pin:Bool
 deriving Inhabited
def Gt(r d:Nat):Nat:=(2+r+d+1)/2*2
def Ob.size(o:Ob):Nat:=Gt o.refs.length o.data.length
def Ob.num(o:Ob):Nat:=o.refs.length+16*o.data.length+4096*o.kd
def Ob.cells(o:Ob):List Int:=(o.id:Int)::(o.num:Int)::(o.refs++o.data)
def Ob.cell(o:Ob)(k:Nat):Int:=o.cells.getD k 0
structure Hp where
 blk:List (Nat×Nat)
 objs:List Ob
 born:Nat
 fwd:List (Int×Int)
def Hp.nw(s:Hp):Nat:=64*s.blk.length
def Hp.obj(s:Hp)(a:Int):Option Ob:=s.objs.find? fun o=>(o.addr:Int)==a
def Hp.has(s:Hp)(a:Int):Bool:=s.objs.any fun o=>(o.addr:Int)==a
def Hp.owner(s:Hp)(w:Nat):Option Ob:=s.objs.find? fun o=>decide (o.addr≤w∧w<o.addr+o.size)
def Hp.word(s:Hp)(w:Nat):Int:=match s.owner w with
 |some o=>o.cell (w-o.addr)
 |none=>0
def Hp.starts(s:Hp)(i:Nat):Bool:=s.objs.any fun o=>o.addr==2*i
def Hp.pins(s:Hp)(i:Nat):Bool:=s.objs.any fun o=>o.addr==2*i&&o.pin
structure Ob.Ok(n born:Nat)(o:Ob):Prop where
 even:o.addr % 2=0
 nr:o.refs.length≤15
 nd:o.data.length≤200
 kd:o.kd≤3∧(o.kd=1→1≤o.refs.length)∧(o.kd=2→2≤o.refs.length)
 id:1≤o.id∧o.id≤born
 fits:o.addr+o.size≤n
structure Hp.Ok(s:Hp):Prop where
 nb:2≤s.blk.length∧s.blk.length≤64
 st:∀x∈s.blk,x.1≤3∧x.2<8
 ob:∀o∈s.objs,o.Ok s.nw s.born
 apart:s.objs.Pairwise fun a b=>a.addr+a.size≤b.addr
 ids:s.objs.Pairwise fun a b=>a.id≠b.id
 born:s.born≤1000000000000
theorem Ob.size_pos(o:Ob):2≤o.size:=by unfold Ob.size Gt;omega
theorem Ob.size_le{o:Ob}{n b:Nat}(h:o.Ok n b):o.size≤218:=by have:=h.nr;have:=h.nd;unfold Ob.size Gt;omega
theorem Ob.PZ(o:Ob):o.size % 2=0:=by unfold Ob.size Gt;omega
theorem Na{α:Type}{r:α→α→Prop}:∀{l:List α}{a b:α},l.Pairwise r→a∈l→b∈l→a=b∨r a b∨r b a
 |[],_,_,_,h,_=>by cases h
 |x::l,a,b,hp,ha,hb=>by
  rw[List.pairwise_cons]at hp
  rw[List.mem_cons]at ha hb
  rcases ha with rfl|ha<;>rcases hb with rfl|hb
  ·exact .inl rfl
  ·exact .inr (.inl (hp.1 b hb))
  ·exact .inr (.inr (hp.1 a ha))
  ·exact Na hp.2 ha hb
section
variable {s : Hp}
theorem Hp.Ok.same(h:s.Ok){a b:Ob}(ha:a∈s.objs)(hb:b∈s.objs){w:Nat}(h1:a.addr≤w∧w<a.addr+a.size)(h2:b.addr≤w∧w<b.addr+b.size):a=b:=by
 rcases Na h.apart ha hb with e|e|e
 ·exact e
 ·omega
 ·omega
theorem A_{α:Type}{p:α→Bool}{l:List α}{a:α}(ha:a∈l)(hp:p a=true)(hu:∀b∈l,p b=true→b=a):l.find? p=some a:=by
 cases h:l.find? p with
 |none=>grind
 |some b=>grind
theorem Hp.Ok.obj(h:s.Ok){o:Ob}(ho:o∈s.objs):s.obj o.addr=some o:=by
 refine A_ ho sM fun b hb e=>?_
 have e0:(b.addr:Int)=o.addr:=by simpa using e
 have e':b.addr=o.addr:=by omega
 have:=b.size_pos
 have:=o.size_pos
 exact h.same hb ho (w:=o.addr) oM oM
theorem Hp.GV{a:Int}{o:Ob}(h:s.obj a=some o):o∈s.objs∧(o.addr:Int)=a:=
 ⟨List.mem_of_find?_eq_some h,by have:=P9 h;simpa using this⟩
theorem Hp.J2{a:Int}:s.has a=true↔∃o,s.obj a=some o:=by
 constructor
 ·intro h
  cases e:s.obj a with
  |some o=>exact⟨o,rfl⟩
  |none=>
   unfold Hp.obj at e
   rw[List.find?_eq_none]at e
   unfold Hp.has at h
   grind
 ·rintro ⟨o,h⟩
  obtain⟨h1,h2⟩:=Hp.GV h
  unfold Hp.has
  grind
theorem Hp.KS{a:Int}:s.has a=false↔s.obj a=none:=by
 rw[←Bool.not_eq_true,Hp.J2]
 cases s.obj a<;>simp
theorem Hp.Ok.word(h:s.Ok){o:Ob}(ho:o∈s.objs){k:Nat}(hk:k<o.size):s.word (o.addr+k)=o.cell k:=by
 have:s.owner (o.addr+k)=some o:=A_ ho (by simp;omega) fun b hb e=>h.same hb ho (w:=o.addr+k) (by simpa using e) oM
 unfold Hp.word
 rw[this]
 simp
theorem Hp.Gbm(h:s.Ok)(a:Int):s.has a=(decide (0≤a)&&(a.tmod 2==0&&s.starts (a.tdiv 2).toNat)):=by
 rw[Bool.eq_iff_iff,Hp.J2]
 simp only[Qj,decide_eq_true_eq,beq_iff_eq,Hp.starts,List.any_eq_true]
 constructor
 ·rintro ⟨o,ho⟩
  obtain⟨h1,rfl⟩:=Hp.GV ho
  have he:=(h.ob o h1).even
  grind
 ·rintro ⟨h0,h1,o,ho,h2⟩
  obtain⟨n,rfl⟩:∃n:Nat,a=n:=⟨a.toNat,oM⟩
  have hm:(n:Int).tmod 2=((n % 2:Nat):Int):=VU n 2
  have hd:(n:Int).tdiv 2=((n/2:Nat):Int):=Nu n 2
  rw[hm]at h1
  rw[hd]at h2
  have e:o.addr=n:=by simp at h2;omega
  exact⟨o,by rw[←e];exact h.obj ho⟩
end
structure G6 where
 bb:Nat
 wb:Nat
 sb:Nat
 sw:Nat
 pb:Nat
 pw:Nat
 mb:Nat
 fb:Nat
def Gz(l:List (Nat×Nat)):List CV:=l.flatMap fun x=>[.i x.1,.i x.2]
def Kw(l:List (Int×Int)):List CV:=l.map fun x=>.Jk [.i x.1,.i x.2]
def G6.all(L:G6)(hb:Nat):List Nat:=[hb,L.bb,L.wb,L.sb,L.sw,L.pb,L.pw,L.mb,L.fb]
def QY(H:Gb)(b:Nat)(r:Int→Int→Prop):Prop:=∃l:List (Int×Int),H[b]?=some ⟨Kw l,.map,0⟩∧(l.map (·.1)).Nodup∧∀k v,(k,v)∈l↔r k v
structure PH(H:Gb)(hb:Nat)(s:Hp)(L:G6):Prop where
 top:H[hb]?=some ⟨[.slice L.bb 0 s.blk.length s.blk.length 2 false,.slice L.wb 0 s.nw s.nw 1 false,.ptr L.sb 0,.ptr L.pb 0,.GI L.mb,.GI L.fb,.i s.born],.rw,0⟩
 blk:H[L.bb]?=some ⟨Gz s.blk,.rw,2⟩
 wrd:H[L.wb]?=some ⟨(List.range s.nw).map (fun w=>CV.i (s.word w)),.rw,1⟩
 sta:Side H L.sb L.sw (32*s.blk.length) s.starts
 pin:Side H L.pb L.pw (32*s.blk.length) s.pins
 Qh:QY H L.mb fun k v=>∃o∈s.objs,k=o.id∧v=o.addr
 fwd:QY H L.fb fun k v=>(k,v)∈s.fwd
 nod:(L.all hb).Nodup
abbrev Gr(H H':Gb):Prop:=Keeps H H' fun _=>False
theorem Gr.app(H J:Gb):Gr H (H++J):=Keeps.app H J _
theorem Gr.get{H H':Gb}(g:Gr H H'){c:Nat}{k:JD}(h:H[c]?=some k):H'[c]?=some k:=by rw[g.keep c (Gf h) (fun h=>h),h]
theorem Side.gr{H H':Gb}{b wb n:Nat}{f:Nat→Bool}(s:Side H b wb n f)(g:∀c,c=b∨c=wb→H'[c]?=H[c]?):Side H' b wb n f:=s.frame (g b (.inl rfl)) (g wb (.inr rfl))
section
variable {H H' : Gb} {hb : Nat} {s : Hp} {L : G6}
theorem PH.lt(p:PH H hb s L):∀c∈L.all hb,c<H.length:=by
 obtain⟨l1,h1,-⟩:=p.Qh
 obtain⟨l2,h2,-⟩:=p.fwd
 obtain⟨w1,-,-,e1,-⟩:=p.sta.ws
 obtain⟨w2,-,-,e2,-⟩:=p.pin.ws
 intro c hc
 simp only[G6.all,List.mem_cons,List.not_mem_nil,or_false]at hc
 rcases hc with rfl|rfl|rfl|rfl|rfl|rfl|rfl|rfl|rfl
 ·exact Gf p.top
 ·exact Gf p.blk
 ·exact Gf p.wrd
 ·exact Gf p.sta.st
 ·exact Gf e1
 ·exact Gf p.pin.st
 ·exact Gf e2
 ·exact Gf h1
 ·exact Gf h2
theorem QY.frame{b:Nat}{r:Int→Int→Prop}(m:QY H b r)(h:H'[b]?=H[b]?):QY H' b r:=by
 obtain⟨l,h1,h2⟩:=m
 exact⟨l,by rw[h,h1],h2⟩
theorem PH.frame(p:PH H hb s L)(h:∀c∈L.all hb,H'[c]?=H[c]?):PH H' hb s L where
 top:=by rw[h _ (by simp[G6.all]),p.top]
 blk:=by rw[h _ (by simp[G6.all]),p.blk]
 wrd:=by rw[h _ (by simp[G6.all]),p.wrd]
 sta:=p.sta.frame (h _ (by simp[G6.all])) (h _ (by simp[G6.all]))
 pin:=p.pin.frame (h _ (by simp[G6.all])) (h _ (by simp[G6.all]))
 Qh:=p.Qh.frame (h _ (by simp[G6.all]))
 fwd:=p.fwd.frame (h _ (by simp[G6.all]))
 nod:=p.nod
theorem PH.gr(p:PH H hb s L)(g:Gr H H'):PH H' hb s L:=p.frame fun c hc=>g.keep c (p.lt c hc) fun h=>h
theorem PH.app(p:PH H hb s L)(J:Gb):PH (H++J) hb s L:=p.gr (.app H J)
theorem PH.word(p:PH H hb s L){w:Nat}(hw:w<s.nw):ld H[L.wb]? w=some (.i (s.word w)):=by
 rw[p.wrd,Qm,K4,Sw hw];rfl
theorem K9(l:List (Nat×Nat)):(Gz l).length=2*l.length:=by
 induction l with
 |nil=>rfl
 |cons x l ih=>simp only[Gz,List.flatMap_cons,QU,List.length_cons,List.length_nil]at ih⊢;omega
theorem Kk:∀(l:List (Nat×Nat))(b:Nat)(x:Nat×Nat),l[b]?=some x→(Gz l)[b*2]?=some (.i x.1)∧(Gz l)[b*2+1]?=some (.i x.2)
 |[],b,x,h=>by simp at h
 |y::l,0,x,h=>by
  simp only[List.getElem?_cons_zero,GA]at h
  subst h
  exact⟨rfl,rfl⟩
 |y::l,b+1,x,h=>by
  simp only[List.getElem?_cons_succ]at h
  obtain⟨h1,h2⟩:=Kk l b x h
  have e1:(b+1)*2=b*2+1+1:=by omega
  have e2:(b+1)*2+1=b*2+1+1+1:=by omega
  rw[e2,e1]
  exact⟨h1,h2⟩
end
end Go.Cs
namespace Go.Cs.Tryz
open Go Go.Cs
section
variable {H : Gb} {hb : Nat} {s : Hp} {L : G6}
theorem KU(p:PH H hb s L)(k:s.Ok):run P 95 [.ptr hb 0] H=some (.bool true,H):=by
 have h:=p.top
 have hl:(0:Int)<(s.blk.length:Int):=by have:=k.nb;omega
 rw[Gi c95 _ _ sM]
 exact W0
theorem KA(p:PH H hb s L)(k:s.Ok):run P 49 [.ptr hb 0] H=some (.i s.blk.length,H):=by
 have h:=p.top
 have h1:=KU p k
 rw[Gi c49 _ _ sM]
 exact W0
theorem Xp(p:PH H hb s L)(k:s.Ok):run P 70 [.ptr hb 0] H=some (.i s.born,H):=by
 have h:=p.top
 have h1:=KU p k
 rw[Gi c70 _ _ sM]
 exact W0
def Hp.state(s:Hp)(b:Int):Int:=if 0≤b then(match s.blk[b.toNat]? with|some x=>(x.1:Int)|none=> -1)else -1
def Hp.space(s:Hp)(b:Int):Int:=if 0≤b then(match s.blk[b.toNat]? with|some x=>(x.2:Int)|none=> -1)else -1
theorem Gcv(p:PH H hb s L)(k:s.Ok)(b:Int):run P 71 [.ptr hb 0,.i b] H=some (.i (Hp.state s b),H):=by
 have h:=p.top
 have h1:=KA p k
 rw[Gi c71 _ _ sM]
 unfold Hp.state
 by_cases h0:0≤b
 ·rw[if_pos h0]
  obtain⟨n,rfl⟩:∃n:Nat,b=n:=⟨b.toNat,oM⟩
  by_cases hn:n<s.blk.length
  ·have hx:s.blk[n]?=some s.blk[n]:=JG hn
   obtain⟨q1,q2⟩:=Kk s.blk n _ hx
   have hb2:=p.blk
   have c1:(0:Int)≤(n:Int)∧(n:Int)<(s.blk.length:Int):=by omega
   have c2:¬((n:Int)<0):=by omega
   have c3:¬((s.blk.length:Int)≤(n:Int)):=by omega
   exact W0
  ·have hx:s.blk[n]?=none:=lX9 oM
   have c2:¬((n:Int)<0):=by omega
   have c3:(s.blk.length:Int)≤(n:Int):=by omega
   exact W0
 ·rw[if_neg h0]
  have c2:b<0:=by omega
  exact W0
theorem Oo(p:PH H hb s L)(k:s.Ok)(b:Int):run P 72 [.ptr hb 0,.i b] H=some (.i (Hp.space s b),H):=by
 have h:=p.top
 have h1:=KA p k
 rw[Gi c72 _ _ sM]
 unfold Hp.space
 by_cases h0:0≤b
 ·rw[if_pos h0]
  obtain⟨n,rfl⟩:∃n:Nat,b=n:=⟨b.toNat,oM⟩
  by_cases hn:n<s.blk.length
  ·have hx:s.blk[n]?=some s.blk[n]:=JG hn
   obtain⟨q1,q2⟩:=Kk s.blk n _ hx
   have hb2:=p.blk
   have c1:(0:Int)≤(n:Int)∧(n:Int)<(s.blk.length:Int):=by omega
   have c2:¬((n:Int)<0):=by omega
   have c3:¬((s.blk.length:Int)≤(n:Int)):=by omega
   exact W0
  ·have hx:s.blk[n]?=none:=lX9 oM
   have c2:¬((n:Int)<0):=by omega
   have c3:(s.blk.length:Int)≤(n:Int):=by omega
   exact W0
 ·rw[if_neg h0]
  have c2:b<0:=by omega
  exact W0
theorem KP(p:PH H hb s L)(k:s.Ok)(a:Int)(ha:a≤9223372036854775807):run P 50 [.ptr hb 0,.i a] H=some (.bool (s.has a),H):=by
 have h:=p.top
 have h1:=KU p k
 rw[Hp.Gbm k a,Gi c50 _ _ sM]
 by_cases h0:0≤a
 ·obtain⟨n,rfl⟩:∃n:Nat,a=n:=⟨a.toNat,oM⟩
  have hm:(n:Int).tmod 2=((n % 2:Nat):Int):=VU n 2
  have hd:(n:Int).tdiv 2=((n/2:Nat):Int):=Nu n 2
  have hw:IntKind.i64.wrap ((n/2:Nat):Int)=((n/2:Nat):Int):=Gh oM
  have hg:=Gaf p.sta ((n/2:Nat):Int)
  have tn:(((n/2:Nat):Int)).toNat=n/2:=by omega
  by_cases h2:n % 2=0
  ·have h2':(((n % 2:Nat):Int)==0)=true:=by rw[h2];rfl
   by_cases h3:n/2<32*s.blk.length
   ·have c:(0:Int)≤((n/2:Nat):Int)∧((n/2:Nat):Int)<((32*s.blk.length:Nat):Int):=by omega
    rw[if_pos c,tn]at hg
    have e:(EL (s.starts (n/2))==1)=s.starts (n/2):=by cases s.starts (n/2)<;>rfl
    exact EI
   ·have c:¬((0:Int)≤((n/2:Nat):Int)∧((n/2:Nat):Int)<((32*s.blk.length:Nat):Int)):=by omega
    rw[if_neg c]at hg
    have e:s.starts (n/2)=false:=by
     rw[←Bool.not_eq_true]
     unfold Hp.starts
     rw[List.any_eq_true]
     rintro ⟨o,ho,h4⟩
     have hf:=(k.ob o ho).fits
     have hp:=o.size_pos
     have h5:o.addr=2*(n/2):=by simpa using h4
     unfold Hp.nw at hf
     omega
    exact EI
  ·have h2':(((n % 2:Nat):Int)==0)=false:=by simp;omega
   exact EI
 ·exact W0
theorem Ux(p:PH H hb s L)(k:s.Ok)(a:Int)(ha:a≤9223372036854775807):run P 120 [.ptr hb 0,.i a] H=some (.i (if s.has a then 0 else 4),H):=by
 have h1:=KU p k
 have h2:=KP p k a ha
 rw[Gi Gtd _ _ sM]
 cases e:s.has a with
 |true=>
  rw[e]at h2
  exact W0
 |false=>
  rw[e]at h2
  exact W0
end
end Go.Cs.Tryz
namespace Go.Cs.Tryz
open Go Go.Cs A
def Gu3:Gl:=⟨51,0,T [bo 1 0,nb 2 false] (Q [f 3 0 1,l 4 1 3,bk 5 .geq 4 0,m 6 5,gt 6 (f 7 0 1),gt 6 (l 8 1 7),gt 6 (bk 9 .leq 8 15),an 10 6 9,m 11 10,gt 11 (f 12 1 1),gt 11 (l 13 1 12),gt 11 (bk 14 .geq 13 0),an 15 11 14,m 16 15,gt 16 (f 17 1 1),gt 16 (l 18 1 17),gt 16 (bk 19 .leq 18 200),an 20 16 19,m 21 20,gt 21 (f 22 2 1),gt 21 (l 23 1 22),gt 21 (bk 24 .geq 23 0),an 25 21 24,m 26 25,gt 26 (f 27 2 1),gt 26 (l 28 1 27),gt 26 (bk 29 .leq 28 3),an 30 26 29,m 31 30,gt 31 (f 32 2 1),gt 31 (l 33 1 32),gt 31 (bk 34 .neq 33 1),gt 31 (m 35 34),gf 35 (f 36 0 1),gf 35 (l 37 1 36),gf 35 (bk 38 .geq 37 1),gt 31 (or 39 35 38),an 40 31 39,m 41 40,gt 41 (f 42 2 1),gt 41 (l 43 1 42),gt 41 (bk 44 .neq 43 2),gt 41 (m 45 44),gf 45 (f 46 0 1),gf 45 (l 47 1 46),gf 45 (bk 48 .geq 47 2),gt 41 (or 49 45 48),an 50 41 49,m 2 50]),[r 2]⟩
theorem GpX:P 125=some Gu3:=by kernel_rfl
def Gti:Gl:=⟨15,0,T [bo 1 0,n 2 0] (S (T [lg 3 3 1,q1 4 125 3,no 5 4] (I 5 (Q [n 2 0]))) (Q [f 6 0 1,l 7 1 6,e 8 (.bin .add (k 2) (t 7)),f 9 1 1,l 10 1 9,b 11 .add 8 10,bk 12 .add 11 1,bk 13 .quo 12 2,bk 14 .mul 13 2,m 2 14])),[r 2]⟩
theorem c127:P 127=some Gti:=by kernel_rfl
def Gtc:Gl:=⟨13,0,T [bo 1 0,n 2 0] (Q [f 3 0 1,l 4 1 3,f 5 1 1,l 6 1 5,e 7 (.bin .mul (k 16) (t 6)),b 8 .add 4 7,f 9 2 1,l 10 1 9,e 11 (.bin .mul (k 4096) (t 10)),b 12 .add 8 11,m 2 12]),[r 2]⟩
theorem GqA:P 128=some Gtc:=by kernel_rfl
def Gsh:Gl:=⟨11,0,T [e 2 (.new [i 0,i 0,i 0])] (Q [m 3 0,bk 4 .rem 3 16,m 5 0,bk 6 .rem 5 4096,bk 7 .quo 6 16,m 8 0,bk 9 .quo 8 4096,e 10 (.build [i 0,i 0,i 0] [(0,1,t 4),(1,1,t 7),(2,1,t 9)]),st 3 2 10]),[.cell 2 true 3]⟩
theorem c171:P 171=some Gsh:=by kernel_rfl
end Go.Cs.Tryz
namespace Go.Cs
open Go
def Jb(r d k:Int):List CV:=[.i r,.i d,.i k]
def JK(r d k:Int):Bool:=decide (0≤r)&&(decide (r≤15)&&(decide (0≤d)&&(decide (d≤200)&&(decide (0≤k)&&(decide (k≤3)&&((k != 1||decide (1≤r))&&(k != 2||decide (2≤r))))))))
theorem NY{r d k:Int}(h:JK r d k=true):(0≤r∧r≤15)∧(0≤d∧d≤200)∧(0≤k∧k≤3)∧(k≠1∨1≤r)∧(k≠2∨2≤r):=by
 simp only[JK,Qj,decide_eq_true_eq,Bool.or_eq_true,bne_iff_ne]at h
 omega
theorem Nc{r d k:Int}:JK r d k=true↔(0≤r∧r≤15)∧(0≤d∧d≤200)∧(0≤k∧k≤3)∧(k≠1∨1≤r)∧(k≠2∨2≤r):=by
 simp only[JK,Qj,decide_eq_true_eq,Bool.or_eq_true,bne_iff_ne]
 omega
def Gy(r d k:Int):Int:=if JK r d k then((Gt r.toNat d.toNat:Nat):Int)else 0
theorem Ob.Ok.valid{o:Ob}{n b:Nat}(h:o.Ok n b):JK o.refs.length o.data.length o.kd=true:=by
 have h1:=h.nr;have h2:=h.nd;have h3:=h.kd
 rw[Nc];omega
theorem Ob.Ok.shape{o:Ob}{n b:Nat}(h:o.Ok n b):(o.num:Int).tmod 16=o.refs.length∧((o.num:Int).tmod 4096).tdiv 16=o.data.length∧(o.num:Int).tdiv 4096=o.kd∧o.num<65536:=by
 have h1:=h.nr;have h2:=h.nd;have h3:=h.kd
 have e1:(o.num:Int).tmod 16=((o.num % 16:Nat):Int):=VU _ 16
 have e2:(o.num:Int).tmod 4096=((o.num % 4096:Nat):Int):=VU _ 4096
 have e3:(o.num:Int).tdiv 4096=((o.num/4096:Nat):Int):=Nu _ 4096
 have e4:((o.num % 4096:Nat):Int).tdiv 16=((o.num % 4096/16:Nat):Int):=Nu _ 16
 rw[e1,e2,e3,e4]
 unfold Ob.num
 omega
end Go.Cs
namespace Go.Cs.Tryz
open Go Go.Cs
section
variable {H : Gb}
theorem YN(n:Int)(h:0≤n∧n<65536):run P 171 [.i n] H=some (.agg (Jb (n.tmod 16) ((n.tmod 4096).tdiv 16) (n.tdiv 4096)),H++[⟨Jb (n.tmod 16) ((n.tmod 4096).tdiv 16) (n.tdiv 4096),.rw,0⟩]):=by
 obtain⟨m,rfl⟩:∃m:Nat,n=m:=⟨n.toNat,oM⟩
 have e2:(m:Int).tmod 4096=((m % 4096:Nat):Int):=VU _ 4096
 have e3:(m:Int).tdiv 4096=((m/4096:Nat):Int):=Nu _ 4096
 have e4:((m % 4096:Nat):Int).tdiv 16=((m % 4096/16:Nat):Int):=Nu _ 16
 have w1:IntKind.i64.wrap ((m % 4096/16:Nat):Int)=((m % 4096/16:Nat):Int):=Gh oM
 have w2:IntKind.i64.wrap ((m/4096:Nat):Int)=((m/4096:Nat):Int):=Gh oM
 rw[Gi c171 _ _ sM]
 unfold Jb
 exact EI
 all_goals rfl
theorem Ga3(r d k:Int)(h:JK r d k=true):run P 128 [.agg (Jb r d k)] H=some (.i (r+16*d+4096*k),H++[⟨Jb r d k,.rw,0⟩]):=by
 have hv:=NY h
 have w1:IntKind.i64.wrap (16*d)=16*d:=Gh oM
 have w2:IntKind.i64.wrap (r+16*d)=r+16*d:=Gh oM
 have w3:IntKind.i64.wrap (4096*k)=4096*k:=Gh oM
 have w4:IntKind.i64.wrap (r+16*d+4096*k)=r+16*d+4096*k:=Gh oM
 rw[Gi GqA _ _ sM]
 unfold Jb
 exact W0
theorem Dk(r d k:Int):run P 125 [.agg (Jb r d k)] H=some (.bool (JK r d k),H++[⟨Jb r d k,.rw,0⟩]):=by
 rw[Gi GpX _ _ sM]
 unfold JK Jb
 by_cases c1:0≤r
 ·by_cases c2:r≤15
  ·by_cases c3:0≤d
   ·by_cases c4:d≤200
    ·by_cases c5:0≤k
     ·by_cases c6:k≤3
      ·by_cases c7:(k != 1)=true
       ·by_cases c9:(k != 2)=true
        ·have:=@Bool.true_or;exact W0
        ·have c9':(k != 2)=false:=by simpa using c9
         have:=@Bool.true_or;have:=@Bool.false_or;exact W0
       ·have c7':(k != 1)=false:=by simpa using c7
        by_cases c8:1≤r
        ·by_cases c9:(k != 2)=true
         ·have:=@Bool.true_or;have:=@Bool.false_or;exact W0
         grind
        ·have:=@Bool.false_or;exact W0
      ·exact W0
     ·exact W0
    ·exact W0
   ·exact W0
  ·exact W0
 ·exact W0
theorem YD(r d k:Int):run P 127 [.agg (Jb r d k)] H=some (.i (Gy r d k),H++[⟨Jb r d k,.rw,0⟩]++[⟨Jb r d k,.rw,0⟩]):=by
 have hv:=Dk (H:=H++[⟨Jb r d k,.rw,0⟩]) r d k
 rw[Gi c127 _ _ sM]
 unfold Gy
 by_cases c:JK r d k=true
 ·have hb:=NY c
  rw[c]at hv
  rw[if_pos c]
  unfold Jb at hv⊢
  have w1:IntKind.i64.wrap (2+r)=2+r:=Gh oM
  have w2:IntKind.i64.wrap (2+r+d)=2+r+d:=Gh oM
  have w3:IntKind.i64.wrap (2+r+d+1)=2+r+d+1:=Gh oM
  have e:(2+r+d+1).tdiv 2=(2+r+d+1)/2:=Int.tdiv_eq_ediv_of_nonneg oM
  have w4:IntKind.i64.wrap ((2+r+d+1)/2)=(2+r+d+1)/2:=Gh oM
  have w5:IntKind.i64.wrap ((2+r+d+1)/2*2)=((Gt r.toNat d.toNat:Nat):Int):=by
   rw[Gh oM];unfold Gt;omega
  exact EI
 ·have c':JK r d k=false:=by simpa using c
  rw[c']at hv⊢
  unfold Jb at hv⊢
  exact W0
end
end Go.Cs.Tryz
namespace Go.Cs.Tryz
open Go Go.Cs A
def C35:Gl:=⟨20,0,T [n 4 0,n 5 0] (S (T [m 7 0,m 8 1,q2 9 120 7 8,m 6 9] (T [m 10 6,bk 11 .neq 10 0] (I 11 (Q [m 12 6,n 4 0,m 5 12])))) (Q [m 13 0,z 14 13,f 15 1 14,l 16 1 15,m 17 1,x 18 1 16 17,l 19 1 18,m 4 19,n 5 0])),[r 4,r 5]⟩
theorem c35:P 35=some C35:=by kernel_rfl
def C74:Gl:=⟨18,0,T [nb 4 false] (Q [m 5 0,m 6 1,q2 7 50 5 6,m 8 7,gt 8 (m 9 0),gt 8 (z 10 9),gt 8 (f 11 3 10),gt 8 (l 12 1 11),gt 8 (m 13 1),gt 8 (bk 14 .quo 13 2),gt 8 (q2 15 139 12 14),gt 8 (bk 16 .eql 15 1),an 17 8 16,m 4 17]),[r 4]⟩
theorem c74:P 74=some C74:=by kernel_rfl
def C75:Gl:=⟨23,0,T [e 4 (.new [i 0,i 0,i 0]),n 5 0] (S (T [m 7 0,m 8 1,q2 9 120 7 8,m 6 9] (T [m 10 6,bk 11 .neq 10 0] (I 11 (Q [e 12 (.build [i 0,i 0,i 0] []),m 13 6,st 3 4 12,m 5 13])))) (Q [m 14 0,z 15 14,f 16 1 15,l 17 1 16,m 18 1,bk 19 .add 18 1,x 20 1 17 19,l 21 1 20,q1 22 171 21,st 3 4 22,n 5 0])),[.cell 4 true 3,r 5]⟩
theorem c75:P 75=some C75:=by kernel_rfl
def C76:Gl:=⟨27,0,T [n 6 0,n 7 0] (T [m 11 0,m 12 1,m 13 2,ca 14 172 [t 11,t 12,t 13,c (.bool false)],m 10 14,ex 15 10 0,ex 16 10 1,m 8 15,m 9 16] (S (T [m 17 9,bk 18 .neq 17 0] (I 18 (Q [m 19 9,n 6 0,m 7 19]))) (Q [m 20 0,z 21 20,f 22 1 21,l 23 1 22,m 24 8,x 25 1 23 24,l 26 1 25,m 6 26,n 7 0]))),[r 6,r 7]⟩
theorem c76:P 76=some C76:=by kernel_rfl
def C77:Gl:=⟨27,0,T [n 6 0,n 7 0] (T [m 11 0,m 12 1,m 13 2,ca 14 172 [t 11,t 12,t 13,c (.bool true)],m 10 14,ex 15 10 0,ex 16 10 1,m 8 15,m 9 16] (S (T [m 17 9,bk 18 .neq 17 0] (I 18 (Q [m 19 9,n 6 0,m 7 19]))) (Q [m 20 0,z 21 20,f 22 1 21,l 23 1 22,m 24 8,x 25 1 23 24,l 26 1 25,m 6 26,n 7 0]))),[r 6,r 7]⟩
theorem c77:P 77=some C77:=by kernel_rfl
def Gt2:Gl:=⟨15,0,T [n 4 0] (Q [m 5 0,z 6 5,f 7 1 6,l 8 1 7,m 9 1,bk 10 .add 9 1,x 11 1 8 10,l 12 1 11,q1 13 171 12,q1 14 127 13,m 4 14]),[r 4]⟩
theorem GnX:P 155=some Gt2:=by kernel_rfl
def Gtf:Gl:=⟨50,0,T [n 8 0,n 9 0] (S (T [m 14 0,m 15 1,q2 16 120 14 15,m 10 16] (T [m 17 10,bk 18 .neq 17 0] (I 18 (Q [m 19 10,n 8 0,m 9 19])))) (T [m 20 0,z 21 20,f 22 1 21,l 23 1 22,m 24 1,bk 25 .add 24 1,x 26 1 23 25,l 27 1 26,q1 28 171 27,e 11 (.new [i 0,i 0,i 0]),st 3 11 28] (S (D [⟨m 29 1,0,0,0⟩,⟨bk 30 .add 29 2,1,0,0⟩,⟨f 31 0 11,2,0,0⟩,⟨l 32 1 31,3,1,0⟩,⟨m 12 30,4,0,0⟩,⟨m 13 32,5,0,0⟩]) (S (T [m 33 3] (I 33 (D [⟨m 34 12,0,0,0⟩,⟨f 35 0 11,1,0,0⟩,⟨l 36 1 35,2,1,0⟩,⟨b 37 .add 34 36,3,0,0⟩,⟨f 38 1 11,4,0,0⟩,⟨l 39 1 38,5,1,0⟩,⟨m 12 37,6,0,0⟩,⟨m 13 39,7,0,0⟩]))) (S (T [m 40 2,bk 41 .lss 40 0,m 42 41,gf 42 (m 43 2),gf 42 (m 44 13),gf 42 (b 45 .geq 43 44),or 46 42 45] (I 46 (Q [n 8 0,n 9 1]))) (Q [m 47 12,m 48 2,b 49 .add 47 48,m 8 49,n 9 0])))))),[r 8,r 9]⟩
theorem Gnu:P 172=some Gtf:=by kernel_rfl
end Go.Cs.Tryz
namespace Go.Cs
open Go
theorem Ob.Gh4(o:Ob){i:Nat}(h:i<o.refs.length):o.cell (2+i)=o.refs.getD i 0:=by
 have e:2+i=i+1+1:=by omega
 unfold Ob.cell Ob.cells
 grind
theorem Ob.Gds(o:Ob){i:Nat}(h:i<o.data.length):o.cell (2+o.refs.length+i)=o.data.getD i 0:=by
 have e:2+o.refs.length+i=o.refs.length+i+1+1:=by omega
 unfold Ob.cell Ob.cells
 grind
def Hp.JO(s:Hp)(a:Int):List CV×Int:=match s.obj a with
 |some o=>(Jb o.refs.length o.data.length o.kd,0)
 |none=>(Jb 0 0 0,4)
def Hp.fieldAt(s:Hp)(a i:Int)(d:Bool):Int×Int:=match s.obj a with
 |some o=>if 0≤i∧i<((if d then o.data.length else o.refs.length:Nat):Int)then((o.addr:Int)+2+(if d then o.refs.length else 0:Nat)+i,0)else(0,1)
 |none=>(0,4)
def Hp.GN(s:Hp)(a i:Int):Int×Int:=match s.obj a with
 |some o=>if 0≤i∧i<(o.refs.length:Int)then(o.refs.getD i.toNat 0,0)else(0,1)
 |none=>(0,4)
def Hp.JM(s:Hp)(a i:Int):Int×Int:=match s.obj a with
 |some o=>if 0≤i∧i<(o.data.length:Int)then(o.data.getD i.toNat 0,0)else(0,1)
 |none=>(0,4)
def Hp.Nw(s:Hp)(a:Int):Int×Int:=match s.obj a with
 |some o=>(o.id,0)
 |none=>(0,4)
def Hp.pinnedAt(s:Hp)(a:Int):Bool:=match s.obj a with
 |some o=>o.pin
 |none=>false
def Q9(p:Int×Int):CV:=.Jk [.i p.1,.i p.2]
end Go.Cs
namespace Go.Cs.Tryz
open Go Go.Cs
section
variable {H : Gb} {hb : Nat} {s : Hp} {L : G6}
theorem Ut(p:PH H hb s L)(k:s.Ok){o:Ob}(ho:o∈s.objs){j:Nat}(hj:j<o.size):ld H[L.wb]? (o.addr+j)=some (.i (o.cell j))∧((0:Int)≤((o.addr+j:Nat):Int)∧((o.addr+j:Nat):Int)<(s.nw:Int))∧s.nw≤4096:=by
 have h1:=(k.ob o ho).fits
 have h2:=k.nb
 have h3:s.nw≤4096:=by unfold Hp.nw;omega
 refine⟨?_,oM,h3⟩
 rw[←k.word ho hj]
 exact p.word oM
theorem PV(p:PH H hb s L)(k:s.Ok){o:Ob}(ho:o∈s.objs):∃H',run P 155 [.ptr hb 0,.i o.addr] H=some (.i o.size,H')∧Gr H H':=by
 obtain⟨e1,e2,e3,e4⟩:=(k.ob o ho).shape
 obtain⟨q1,q2,q3⟩:=Ut p k ho (j:=1) (by have:=o.size_pos;omega)
 have q4:o.cell 1=(o.num:Int):=rfl
 rw[q4]at q1
 have h:=p.top
 have hs:=YN (H:=H) o.num oM
 rw[e1,e2,e3]at hs
 have hw:=YD (H:=H++[⟨Jb o.refs.length o.data.length o.kd,.rw,0⟩]) o.refs.length o.data.length o.kd
 have hv:Gy o.refs.length o.data.length o.kd=(o.size:Int):=by
  unfold Gy
  rw[if_pos (k.ob o ho).valid]
  rfl
 rw[hv]at hw
 have w1:IntKind.i64.wrap ((o.addr:Int)+1)=((o.addr+1:Nat):Int):=Gh oM
 refine⟨_,?_,(((Gr.app H [⟨Jb o.refs.length o.data.length o.kd,.rw,0⟩]).app' [⟨Jb o.refs.length o.data.length o.kd,.rw,0⟩]).app' [⟨Jb o.refs.length o.data.length o.kd,.rw,0⟩])⟩
 rw[Gi GnX _ _ sM]
 exact W0
theorem NJ(p:PH H hb s L)(k:s.Ok)(a:Int)(ha:a≤9223372036854775807):∃H',run P 75 [.ptr hb 0,.i a] H=some (.Jk [.agg (s.JO a).1,.i (s.JO a).2],H')∧Gr H H':=by
 have pj:=p.app [⟨Jb 0 0 0,.rw,0⟩]
 have h1:=Ux pj k a ha
 unfold Hp.JO
 cases e:s.obj a with
 |none=>
  rw[Hp.KS.2 e]at h1
  refine⟨H++[⟨Jb 0 0 0,.rw,0⟩],?_,Gr.app H _⟩
  unfold Jb at h1⊢
  rw[Gi c75 _ _ sM]
  exact W0
 |some o=>
  obtain⟨ho,rfl⟩:=Hp.GV e
  rw[Hp.J2.2 ⟨o,e⟩]at h1
  obtain⟨e1,e2,e3,e4⟩:=(k.ob o ho).shape
  obtain⟨q1,q2,q3⟩:=Ut pj k ho (j:=1) (by have:=o.size_pos;omega)
  have q4:o.cell 1=(o.num:Int):=rfl
  rw[q4]at q1
  have h:=pj.top
  have hs:=YN (H:=H++[⟨Jb 0 0 0,.rw,0⟩]) o.num oM
  rw[e1,e2,e3]at hs
  have w1:IntKind.i64.wrap ((o.addr:Int)+1)=((o.addr+1:Nat):Int):=Gh oM
  refine⟨H++[⟨Jb o.refs.length o.data.length o.kd,.rw,0⟩]++[⟨Jb o.refs.length o.data.length o.kd,.rw,0⟩],?_,(Gr.app H _).app' _⟩
  unfold Jb at h1 hs h⊢q1
  rw[Gi c75 _ _ sM]
  exact W0
  all_goals rfl
theorem Zp(p:PH H hb s L)(k:s.Ok)(a i:Int)(d:Bool)(ha:a≤9223372036854775807):∃H',run P 172 [.ptr hb 0,.i a,.i i,.bool d] H=some (Q9 (s.fieldAt a i d),H')∧Gr H H':=by
 have h1:=Ux p k a ha
 unfold Hp.fieldAt Q9
 cases e:s.obj a with
 |none=>
  rw[Hp.KS.2 e]at h1
  refine⟨H,?_,Keeps.refl H _⟩
  rw[Gi Gnu _ _ sM]
  exact W0
 |some o=>
  obtain⟨ho,rfl⟩:=Hp.GV e
  rw[Hp.J2.2 ⟨o,e⟩]at h1
  obtain⟨e1,e2,e3,e4⟩:=(k.ob o ho).shape
  obtain⟨q1,q2,q3⟩:=Ut p k ho (j:=1) (by have:=o.size_pos;omega)
  have q4:o.cell 1=(o.num:Int):=rfl
  rw[q4]at q1
  have h:=p.top
  have hs:=YN (H:=H) o.num oM
  rw[e1,e2,e3]at hs
  have hr:=(k.ob o ho).nr
  have hd:=(k.ob o ho).nd
  have w1:IntKind.i64.wrap ((o.addr:Int)+1)=((o.addr+1:Nat):Int):=Gh oM
  have w2:IntKind.i64.wrap ((o.addr:Int)+2)=(o.addr:Int)+2:=Gh oM
  have w3:IntKind.i64.wrap ((o.addr:Int)+2+(o.refs.length:Int))=(o.addr:Int)+2+(o.refs.length:Int):=Gh oM
  refine⟨H++[⟨Jb o.refs.length o.data.length o.kd,.rw,0⟩]++[⟨Jb o.refs.length o.data.length o.kd,.rw,0⟩],?_,(Gr.app H _).app' _⟩
  unfold Jb at hs⊢
  dsimp only
  rw[Gi Gnu _ _ sM]
  cases d
  ·by_cases c0:i<0
   ·have c1:¬(0≤i∧i<((if false=true then o.data.length else o.refs.length:Nat):Int)):=by omega
    rw[if_neg c1]
    exact W0
   ·by_cases c2:(o.refs.length:Int)≤i
    ·have c1:¬(0≤i∧i<((if false=true then o.data.length else o.refs.length:Nat):Int)):=by simp;omega
     rw[if_neg c1]
     exact W0
    ·have c1:(0≤i∧i<((if false=true then o.data.length else o.refs.length:Nat):Int)):=by simp;omega
     rw[if_pos c1]
     have w4:IntKind.i64.wrap ((o.addr:Int)+2+i)=(o.addr:Int)+2+i:=Gh oM
     refine GH ?_
     simp
  ·by_cases c0:i<0
   ·have c1:¬(0≤i∧i<((if true=true then o.data.length else o.refs.length:Nat):Int)):=by omega
    rw[if_neg c1]
    exact W0
   ·by_cases c2:(o.data.length:Int)≤i
    ·have c1:¬(0≤i∧i<((if true=true then o.data.length else o.refs.length:Nat):Int)):=by simp;omega
     rw[if_neg c1]
     exact W0
    ·have c1:(0≤i∧i<((if true=true then o.data.length else o.refs.length:Nat):Int)):=by simp;omega
     rw[if_pos c1]
     have w4:IntKind.i64.wrap ((o.addr:Int)+2+(o.refs.length:Int)+i)=(o.addr:Int)+2+(o.refs.length:Int)+i:=Gh oM
     exact W0
     all_goals simp
theorem KE(p:PH H hb s L)(k:s.Ok)(a i:Int)(ha:a≤9223372036854775807):∃H',run P 76 [.ptr hb 0,.i a,.i i] H=some (Q9 (s.GN a i),H')∧Gr H H':=by
 obtain⟨H',h1,g⟩:=Zp p k a i false ha
 have p':=p.gr g
 refine⟨H',?_,g⟩
 unfold Hp.fieldAt Q9 at h1
 unfold Hp.GN Q9
 rw[Gi c76 _ _ sM]
 cases e:s.obj a with
 |none=>
  rw[e]at h1
  exact W0
 |some o=>
  rw[e]at h1
  dsimp only at h1⊢
  obtain⟨ho,rfl⟩:=Hp.GV e
  have hif:(if false=true then o.data.length else o.refs.length)=o.refs.length:=rfl
  have Gbt:(if false=true then o.refs.length else 0)=0:=rfl
  rw[hif,Gbt]at h1
  by_cases c:0≤i∧i<(o.refs.length:Int)
  ·rw[if_pos c]at h1⊢
   obtain⟨n,rfl⟩:∃n:Nat,i=n:=⟨i.toNat,oM⟩
   have hsz:2+n<o.size:=by unfold Ob.size Gt;omega
   obtain⟨q1,q2,q3⟩:=Ut p' k ho (j:=2+n) hsz
   rw[o.Gh4 oM]at q1
   have h:=p'.top
   have e2:(o.addr:Int)+2+((0:Nat):Int)+(n:Int)=((o.addr+(2+n):Nat):Int):=by omega
   rw[e2]at h1
   exact W0
  ·rw[if_neg c]at h1⊢
   exact W0
theorem FD(p:PH H hb s L)(k:s.Ok)(a i:Int)(ha:a≤9223372036854775807):∃H',run P 77 [.ptr hb 0,.i a,.i i] H=some (Q9 (s.JM a i),H')∧Gr H H':=by
 obtain⟨H',h1,g⟩:=Zp p k a i true ha
 have p':=p.gr g
 refine⟨H',?_,g⟩
 unfold Hp.fieldAt Q9 at h1
 unfold Hp.JM Q9
 rw[Gi c77 _ _ sM]
 cases e:s.obj a with
 |none=>
  rw[e]at h1
  exact W0
 |some o=>
  rw[e]at h1
  dsimp only at h1⊢
  obtain⟨ho,rfl⟩:=Hp.GV e
  have hif:(if true=true then o.data.length else o.refs.length)=o.data.length:=rfl
  have Gbt:(if true=true then o.refs.length else 0)=o.refs.length:=rfl
  rw[hif,Gbt]at h1
  by_cases c:0≤i∧i<(o.data.length:Int)
  ·rw[if_pos c]at h1⊢
   obtain⟨n,rfl⟩:∃n:Nat,i=n:=⟨i.toNat,oM⟩
   have hsz:2+o.refs.length+n<o.size:=by unfold Ob.size Gt;omega
   obtain⟨q1,q2,q3⟩:=Ut p' k ho (j:=2+o.refs.length+n) hsz
   rw[o.Gds oM]at q1
   have h:=p'.top
   have e2:(o.addr:Int)+2+(o.refs.length:Int)+(n:Int)=((o.addr+(2+o.refs.length+n):Nat):Int):=by omega
   rw[e2]at h1
   exact W0
  ·rw[if_neg c]at h1⊢
   exact W0
theorem NS(p:PH H hb s L)(k:s.Ok)(a:Int)(ha:a≤9223372036854775807):run P 35 [.ptr hb 0,.i a] H=some (Q9 (s.Nw a),H):=by
 have h1:=Ux p k a ha
 unfold Hp.Nw Q9
 rw[Gi c35 _ _ sM]
 cases e:s.obj a with
 |none=>
  rw[Hp.KS.2 e]at h1
  exact W0
 |some o=>
  obtain⟨ho,rfl⟩:=Hp.GV e
  rw[Hp.J2.2 ⟨o,e⟩]at h1
  obtain⟨q1,q2,q3⟩:=Ut p k ho (j:=0) (by have:=o.size_pos;omega)
  have q4:o.cell 0=(o.id:Int):=rfl
  rw[q4]at q1
  rw[Nat.add_zero]at q1 q2
  have h:=p.top
  exact W0
theorem Gaz(p:PH H hb s L)(k:s.Ok)(a:Int)(ha:a≤9223372036854775807):run P 74 [.ptr hb 0,.i a] H=some (.bool (s.pinnedAt a),H):=by
 have h1:=KP p k a ha
 unfold Hp.pinnedAt
 rw[Gi c74 _ _ sM]
 cases e:s.obj a with
 |none=>
  rw[Hp.KS.2 e]at h1
  exact W0
 |some o=>
  obtain⟨ho,rfl⟩:=Hp.GV e
  rw[Hp.J2.2 ⟨o,e⟩]at h1
  have h:=p.top
  have hd:(o.addr:Int).tdiv 2=((o.addr/2:Nat):Int):=Nu o.addr 2
  have hf:=(k.ob o ho).fits
  have he:=(k.ob o ho).even
  have hz:=o.size_pos
  have hn:=k.nb
  unfold Hp.nw at hf
  have hw:IntKind.i64.wrap ((o.addr/2:Nat):Int)=((o.addr/2:Nat):Int):=Gh oM
  have hg:=Gaf p.pin ((o.addr/2:Nat):Int)
  have tn:(((o.addr/2:Nat):Int)).toNat=o.addr/2:=by omega
  rw[if_pos oM,tn]at hg
  have hp:s.pins (o.addr/2)=o.pin:=by
   unfold Hp.pins
   rw[Bool.eq_iff_iff,List.any_eq_true]
   constructor
   ·rintro ⟨x,hx,hh⟩
    simp only[Qj,beq_iff_eq]at hh
    have:=x.size_pos
    have:x=o:=k.same hx ho (w:=o.addr) oM oM
    rw[←this];exact hh.2
   grind
  rw[hp]at hg
  have e2:(EL o.pin==1)=o.pin:=by cases o.pin<;>rfl
  exact EI
end
end Go.Cs.Tryz
namespace Go.Cs
open Go
structure Frm(g:Nat)(o:Tags)(H:Gb)(o':Tags)(H':Gb):Prop where
 len:H.length≤H'.length
 tag:∀c,c<H.length→o' c=o c
 new:∀c t,o' c=some t→H.length≤c→t.1=g
 keep:∀c,c<H.length→(∀k,o c≠some (g,k))→H'[c]?=H[c]?
theorem Frm.trans{g:Nat}{o o' o'':Tags}{H H' BP:Gb}(a:Frm g o H o' H')(c:Frm g o' H' o'' BP):Frm g o H o'' BP where
 len:=Jm a.len c.len
 tag:=fun x h=>by rw[c.tag x (JI h a.len),a.tag x h]
 new:=fun x t h hx=>by
  by_cases hl:x<H'.length
  ·rw[c.tag x hl]at h;exact a.new x t h hx
  ·exact c.new x t h oM
 keep:=fun x h hk=>by
  have:=JI h a.len
  rw[c.keep x this (by rw[a.tag x h];exact hk),a.keep x h hk]
theorem Frm.refl{g:Nat}{o:Tags}{H:Gb}(hd:∀c t,o c=some t→c<H.length):Frm g o H o H:=
 ⟨Nat.le_refl _,fun _ _=>rfl,fun c t h hc=>by have:=hd c t h;omega,fun _ _ _=>rfl⟩
theorem Frm.grow{g:Nat}{o:Tags}{H H':Gb}(hd:∀c t,o c=some t→c<H.length)(hl:H.length≤H'.length)(hk:∀c,c<H.length→H'[c]?=H[c]?):Frm g o H o H':=
 ⟨hl,fun _ _=>rfl,fun c t h hc=>by have:=hd c t h;omega,fun c h _=>hk c h⟩
theorem EB:∀(xs:List Obj)(hs:List (CV×CV))(j:Nat)(x x':Obj),xs[j]?=some x→x'.nr=x.nr→x'.nd=x.nd→x'.kd=x.kd→NM (xs.set j x') hs=NM xs hs
 |[],_,j,_,_,e,_,_,_=>by simp at e
 |y::ys,[],0,_,_,_,_,_,_=>rfl
 |y::ys,[],j+1,_,_,_,_,_,_=>rfl
 |y::ys,h::hs,0,x,x',e,e1,e2,e3=>by
  simp only[List.getElem?_cons_zero,GA]at e
  subst e
  simp only[List.set_cons_zero,NM,e1,e2,e3]
 |y::ys,h::hs,j+1,x,x',e,e1,e2,e3=>by
  simp only[List.getElem?_cons_succ]at e
  simp only[List.set_cons_succ,NM]
  rw[EB ys hs j x x' e e1 e2 e3]
section
variable {o : Tags} {g : Nat} {H H' : Gb} {b : Nat} {M : UD} {L : Lay}
theorem Yh.setObj(m:Yh o g H b M L){j:Nat}{x x':Obj}(hx:M.objs[j]?=some x) (e:x'.nr=x.nr∧x'.nd=x.nd∧x'.kd=x.kd∧x'.refs.length=x.refs.length∧x'.data.length=x.data.length)
  (hl:H.length≤H'.length) (hf:∀c k,o c=some (g,k)→k≠(6,j)→k≠(7,j)→H'[c]?=H[c]?)
  (hr:∀h,L.hv[j]?=some h→At o (g,6,j) H' h.1 1 x.refs.length (ints x'.refs)∧At o (g,7,j) H' h.2 1 x.data.length (ints x'.data)):
  Yh o g H' b {M with objs:=M.objs.set j x'} L where
 dom:=fun c t h=>JI (m.dom c t h) hl
 top:=m.top
 cells:=by rw[hf _ _ m.top sM sM,m.cells]
 nsv:=m.nsv
 slots:=m.slots.frame (fun c h=>h) (fun c h=>hf c _ h sM sM)
 slot:=fun i s h=>by
  obtain⟨v,h1,h2⟩:=m.slot i s h
  exact⟨v,h1,h2.frame (fun c h=>h) (fun c h=>hf c _ h sM sM)⟩
 globals:=m.globals.frame (fun c h=>h) (fun c h=>hf c _ h sM sM)
 queue:=m.queue.frame (fun c h=>h) (fun c h=>hf c _ h sM sM)
 nhv:=by simp[m.nhv]
 objs:=by
  have:=m.objs.frame (o':=o) (H':=H') (fun c h=>h) (fun c h=>hf c _ h sM sM)
  rw[EB _ _ _ _ _ hx e.1 e.2.1 e.2.2.1,List.length_set]
  exact this
 refs:=fun i y h=>by
  rw[Tj]at h
  by_cases hij:j=i
  ·subst hij
   rw[if_pos rfl]at h
   split at h
   ·simp only[GA]at h
    subst h
    obtain⟨v,h1,h2,h3⟩:=m.refs j x hx
    obtain⟨h4,h5⟩:=hr v h1
    exact⟨v,h1,by rw[e.2.2.2.1];exact h4,by rw[e.2.2.2.2];exact h5⟩
   ·cases h
  ·rw[if_neg hij]at h
   obtain⟨v,h1,h2,h3⟩:=m.refs i y h
   refine⟨v,h1,h2.frame (fun c h=>h) (fun c h=>hf c _ h ?_ ?_),h3.frame (fun c h=>h) (fun c h=>hf c _ h ?_ ?_)⟩<;>
    (simp only[ne_eq,Prod.mk.injEq,not_and];omega)
def Tags.put(o:Tags)(c:Nat)(t:Tag):Tags:=fun d=>if d=c then some t else o d
theorem Tags.put_eq{o:Tags}{c:Nat}{t:Tag}:o.put c t c=some t:=by simp[Tags.put]
theorem Tags.GK{o:Tags}{c d:Nat}{t:Tag}(h:d≠c):o.put c t d=o d:=by simp[Tags.put,h]
theorem Yh.grows(m:Yh o g H b M L){c:Nat}{t:Tag}(hc:H.length≤c)(hc':c<H'.length)(hf:∀c k,o c=some (g,k)→H'[c]?=H[c]?):Yh (o.put c t) g H' b M L:=
 m.frame (fun d k h=>by
   by_cases e:d=c
   ·subst e;exact hc'
   ·rw[Tags.GK e]at h;have:=m.dom d k h;omega)
  (fun d k h=>by
     rw[Tags.GK];· exact h
     ·have:=m.dom d _ h;omega) hf
theorem Yh.Gha(m:Yh o g H b M L){l:List Int}{v:CV}{o':Tags}
  (hd:∀c t,o' c=some t→c<H'.length)(ho:∀c k,o c=some (g,k)→o' c=some (g,k))
  (hl:H.length≤H'.length)(hf:∀c k,o c=some (g,k)→k≠(4,0)→k≠(0,0)→H'[c]?=H[c]?) (hb:H'[b]?=some ⟨[L.sl,L.gl,v,L.ov],.rw,0⟩)
  (hr:At o' (g,4,0) H' v 1 l.length (ints l)):
  Yh o' g H' b {M with queue:=l} {L with qv:=v} where
 dom:=hd
 top:=ho _ _ m.top
 cells:=hb
 nsv:=m.nsv
 slots:=m.slots.frame (fun c=>ho c _) (fun c h=>hf c _ h sM sM)
 slot:=fun i s h=>by
  obtain⟨v,h1,h2⟩:=m.slot i s h
  exact⟨v,h1,h2.frame (fun c=>ho c _) (fun c h=>hf c _ h sM sM)⟩
 globals:=m.globals.frame (fun c=>ho c _) (fun c h=>hf c _ h sM sM)
 queue:=hr
 nhv:=m.nhv
 objs:=m.objs.frame (fun c=>ho c _) (fun c h=>hf c _ h sM sM)
 refs:=fun j x h=>by
  obtain⟨v,h1,h2,h3⟩:=m.refs j x h
  exact⟨v,h1,h2.frame (fun c=>ho c _) (fun c h=>hf c _ h sM sM),h3.frame (fun c=>ho c _) (fun c h=>hf c _ h sM sM)⟩
theorem Yh.born(m:Yh o g H b M L){x:Obj}{h:CV×CV}{v:CV}{o':Tags}
  (hd:∀c t,o' c=some t→c<H'.length)(ho:∀c k,o c=some (g,k)→o' c=some (g,k))
  (hf:∀c k,o c=some (g,k)→k≠(5,0)→k≠(0,0)→H'[c]?=H[c]?) (hb:H'[b]?=some ⟨[L.sl,L.gl,L.qv,v],.rw,0⟩)
  (hr:At o' (g,5,0) H' v 5 (M.objs.length+1) (NM M.objs L.hv++[.i x.nr,.i x.nd,.i x.kd,h.1,h.2]))
  (h1:At o' (g,6,M.objs.length) H' h.1 1 x.refs.length (ints x.refs)) (h2:At o' (g,7,M.objs.length) H' h.2 1 x.data.length (ints x.data)):
  Yh o' g H' b {M with objs:=M.objs++[x]} {L with ov:=v,hv:=L.hv++[h]} where
 dom:=hd
 top:=ho _ _ m.top
 cells:=hb
 nsv:=m.nsv
 slots:=m.slots.frame (fun c=>ho c _) (fun c h=>hf c _ h sM sM)
 slot:=fun i s h=>by
  obtain⟨v,h1,h2⟩:=m.slot i s h
  exact⟨v,h1,h2.frame (fun c=>ho c _) (fun c h=>hf c _ h sM sM)⟩
 globals:=m.globals.frame (fun c=>ho c _) (fun c h=>hf c _ h sM sM)
 queue:=m.queue.frame (fun c=>ho c _) (fun c h=>hf c _ h sM sM)
 nhv:=by simp[m.nhv]
 objs:=by
  show At o' (g,5,0) H' v 5 (M.objs++[x]).length (NM (M.objs++[x]) (L.hv++[h]))
  rw[Ez _ _ _ _ m.nhv,QU]
  exact hr
 refs:=fun j y hy=>by
  rw[Glu]at hy
  split at hy
  ·rename_i hj
   obtain⟨v,e1,e2,e3⟩:=m.refs j y hy
   refine⟨v,?_,e2.frame (fun c=>ho c _) (fun c h=>hf c _ h sM sM),e3.frame (fun c=>ho c _) (fun c h=>hf c _ h sM sM)⟩
   show(L.hv++[h])[j]?=_
   rw[I7 (by rw[m.nhv];exact hj)]
   exact e1
  ·rename_i hj
   have hj':j=M.objs.length:=by
    have:=Gf hy
    simp at this;omega
   subst hj'
   simp at hy
   subst hy
   refine⟨h,?_,h1,h2⟩
   show(L.hv++[h])[M.objs.length]?=_
   rw[←m.nhv];simp
end
end Go.Cs
namespace Go.Cs
open Go
def UD.setObj(M:UD)(n:Int)(x:Obj):UD:={M with objs:=M.objs.set (n-1).toNat x}
def UD.push(M:UD)(n:Int):UD×Int:=
 if M.has n then if M.queue.length=64 then(M,6)else({M with queue:=M.queue++[n]},0)else(M,4)
def UD.setRef(M:UD)(n i to:Int):UD×Int:=
 if M.has n then
  if 0≤i∧i<((M.obj n).refs.length:Int)∧(to=0∨M.has to)then
   (M.setObj n {M.obj n with refs:=(M.obj n).refs.set i.toNat to},0)
  else(M,1)
 else(M,4)
theorem Obj.Ok.more{n k:Nat}{x:Obj}(h:x.Ok n)(hk:n≤k):x.Ok k:=
 ⟨h.nr,h.nd,h.kd,fun v hv=>by have:=h.ids v hv;omega⟩
theorem UD.Ok.obj{M:UD}(w:M.Ok){n:Int}(c:M.has n):(M.obj n).Ok M.objs.length:=w.objs _ (JV (UD.GjN c))
theorem UD.Ok.setObj{M:UD}(w:M.Ok){n:Int}{x:Obj}(h:x.Ok M.objs.length):(M.setObj n x).Ok where
 ns:=w.ns
 s16:=by simpa[UD.setObj]using w.s16
 g16:=by simpa[UD.setObj]using w.g16
 Po:=by simpa[UD.setObj]using w.Po
 objs:=fun y hy=>by
  simp only[UD.setObj,List.length_set]at hy⊢
  rcases List.mem_or_eq_of_mem_set hy with hy|rfl
  ·exact w.objs y hy
  ·exact h
 few:=by simpa[UD.setObj]using w.few
theorem UD.Ok.push{M:UD}(w:M.Ok)(n:Int):(M.push n).1.Ok:=by
 unfold UD.push
 split
 ·rename_i h
  split
  ·exact w
  ·rename_i hq
   refine⟨w.ns,w.s16,w.g16,⟨?_,?_⟩,w.objs,w.few⟩
   ·have:=w.Po.1;simp;omega
   ·intro v hv
    simp only[NV,Bz]at hv
    rcases hv with hv|rfl
    ·exact w.Po.2 v hv
    ·exact h
 ·exact w
theorem UD.Ok.setRef{M:UD}(w:M.Ok)(n i to:Int):(M.setRef n i to).1.Ok:=by
 unfold UD.setRef
 split
 ·rename_i h
  split
  ·rename_i hi
   refine w.setObj ?_
   have hx:=w.obj h
   refine⟨by simpa using hx.nr,hx.nd,hx.kd,fun v hv=>?_⟩
   rcases List.mem_or_eq_of_mem_set hv with hv|rfl
   ·exact hx.ids v hv
   ·rcases hi.2.2 with rfl|h2
    ·omega
    ·unfold UD.has at h2;omega
  ·exact w
 ·exact w
def Loc(k:Nat):Tags:=fun c=>if k≤c then some (0,0,0)else none
abbrev z3:Tag:=(0,0,0)
theorem Gm{k c:Nat}{t:Tag}:Loc k c=some t↔k≤c∧t=z3:=by
 unfold Loc
 split
 ·simp only[GA];constructor
  ·intro h;exact⟨by assumption,h.symm⟩
  ·intro h;exact h.2.symm
 ·simp;omega
theorem At.adopt{k e n:Nat}{H:Gb}{v:CV}{cs:List CV}{o:Tags}{t:Tag}(h:At (Loc k) z3 H v e n cs)(ho:∀d s,o d=some s→d<k):
  ∃o':Tags,(∀d,d<k→o' d=o d)∧(∀d s,o' d=some s→k≤d→s=t∧d<H.length)∧At o' t H v e n cs:=by
 rcases h with h|⟨b,tl,rfl,h1,h2,h3⟩
 ·exact⟨o,fun _ _=>rfl,fun d s h1 h2=>by have:=ho d s h1;omega,.inl h⟩
 ·have hb:=(Gm.1 h1).1
  refine⟨o.put b t,fun d hd=>Tags.GK oM,fun d s h4 h5=>?_,.inr ⟨b,tl,rfl,Tags.put_eq,h2,h3⟩⟩
  by_cases e:d=b
  ·subst e
   rw[Tags.put_eq]at h4
   simp only[GA]at h4
   exact⟨h4.symm,Gf h2⟩
  ·rw[Tags.GK e]at h4
   have:=ho d s h4;omega
theorem Yh.ZJ{o:Tags}{g:Nat}{H Hf:Gb}{b:Nat}{M:UD}{L:Lay}(m:Yh o g H b M L){v:CV}{l:List Int}(h:At (Loc H.length) z3 Hf v 1 l.length (ints l))(hl:H.length≤Hf.length)
  (hb:Hf[b]?=some ⟨[L.sl,L.gl,v,L.ov],.rw,0⟩) (hf:∀d,d<H.length→o d≠some (g,4,0)→d≠b→Hf[d]?=H[d]?):
  ∃o' L',Yh o' g Hf b {M with queue:=l} L'∧Frm g o H o' Hf:=by
 obtain⟨o',h1,h2,h3⟩:=h.adopt (o:=o) (t:=(g,4,0)) m.dom
 refine⟨o',{L with qv:=v},?_,?_⟩
 ·refine m.Gha (v:=v) ?_ ?_ hl ?_ hb h3
  ·intro c t h
   by_cases hc:c<H.length
   ·omega
   ·exact(h2 c t h oM).2
  ·intro c k h
   rw[h1 c (m.dom c _ h),h]
  ·intro c k h k1 k2
   refine hf c (m.dom c _ h) (by rw[h];simpa using k1) ?_
   rintro rfl
   rw[m.top]at h
   simp only[GA,Prod.mk.injEq,true_and]at h
   exact k2 h.symm
 ·refine⟨hl,h1,fun c t h hc=>?_,fun c hc hk=>hf c hc (hk _) ?_⟩
  ·rw[(h2 c t h hc).1]
  ·rintro rfl;exact hk _ m.top
end Go.Cs
namespace Go.Cs.Tryz
open Go Go.Cs A
def C73:Gl:=⟨13,0,T [e 2 (.JR (c .Gc))] (S (T [m 3 0,q1 4 95 3,no 5 4] (I 5 (Q [e 2 (.JR (c .Gc))]))) (Q [m 6 0,m 7 0,z 8 7,f 9 1 8,l 10 1 9,le 11 10,ca 12 170 [t 6,k 0,t 11],m 2 12])),[r 2]⟩
theorem c73:P 73=some C73:=by kernel_rfl
abbrev Sc:Gq:=S (T [m 20 9,bk 21 .eql 20 0,m 22 21,gt 22 (m 23 8),gt 22 (e 24 (.bin .mul (k 2) (t 23))),gt 22 (m 25 2),gt 22 (b 26 .lss 24 25),an 27 22 26] (J 27 (X 0))) (S (B 1 (R [m 38 7,m 39 8,e 40 (.bin .mul (k 2) (t 39)),e 41 (.buildSlice 1 [i 0] 1 [(0,1,t 40)]),ap 42 1 38 41,m 7 42])) (R [m 29 0,z 30 29,f 31 2 30,l 32 1 31,m 33 8,bk 34 .add 33 1,ca 35 247 [t 32,t 34,k 1],m 28 35,ex 36 28 0,ex 37 28 1,m 8 36,m 9 37]))
def Gtg:Gl:=⟨44,0,T [e 6 (.JR (c .Gc))] (T [e 7 (.JR (c .Gc))] (S (T [m 11 0,z 12 11,f 13 2 12,l 14 1 13,m 15 1,bk 16 .quo 15 2,ca 17 247 [t 14,t 16,k 1],m 10 17,ex 18 10 0,ex 19 10 1,m 8 18,m 9 19] (B 0 (W Sc))) (Q [m 43 7,m 6 43]))),[r 6]⟩
theorem Gp_:P 170=some Gtg:=by kernel_rfl
end Go.Cs.Tryz
namespace Go.Cs
open Go
def QW(f:Nat→Bool):Nat→Nat→List Nat
 |0,_=>[]
 |k+1,j=>if f j=true then j::QW f k (j+1)else QW f k (j+1)
theorem Oe(f:Nat→Bool):∀(k j n:Nat),n=j+k→QW f k j=match P7 f k j with|some i=>i::QW f (n-(i+1)) (i+1)|none=>[]
 |0,j,n,_=>rfl
 |k+1,j,n,h=>by
  simp only[QW,P7]
  by_cases hf:f j=true
  ·grind
  ·rw[if_neg hf,if_neg hf]
   exact Oe f k (j+1) n oM
theorem PW(f:Nat→Bool):∀(k j i:Nat),P7 f k j=some i→j≤i∧i<j+k∧f i=true
 |0,j,i,h=>by cases h
 |k+1,j,i,h=>by
  simp only[P7]at h
  by_cases hf:f j=true
  ·grind
  ·rw[if_neg hf]at h
   have:=PW f k (j+1) i h
   grind
theorem UG(f:Nat→Bool):∀(k j:Nat)(l:List Nat),l.Pairwise (·<·)→(∀i∈l,j≤i∧i<j+k)→(∀i,j≤i→i<j+k→(f i=true↔i∈l))→QW f k j=l
 |0,j,l,_,h,_=>by
  cases l with
  |nil=>rfl
  |cons x l=>have:=h x Nr;omega
 |k+1,j,l,hs,h,hf=>by
  simp only[QW]
  by_cases hj:f j=true
  ·rw[if_pos hj]
   have hm:=(hf j oM oM).1 hj
   cases l with
   |nil=>cases hm
   |cons x l=>
    rw[List.pairwise_cons]at hs
    have hx:x=j:=by
     rcases List.mem_cons.1 hm with e|e
     ·exact e.symm
     ·have:=hs.1 j e
      have:=h x Nr
      omega
    subst hx
    congr 1
    refine UG f k (x+1) l hs.2 (fun i hi=>?_) (fun i h1 h2=>?_)
    ·grind
    grind
  ·rw[if_neg hj]
   refine UG f k (j+1) l hs (fun i hi=>?_) (fun i h1 h2=>hf i oM oM)
   grind
def Hp.all(s:Hp):List Int:=s.objs.map fun o=>(o.addr:Int)
theorem Hp.Ok.MW{s:Hp}(k:s.Ok):QW s.starts (32*s.blk.length) 0=s.objs.map fun o=>o.addr/2:=by
 refine UG _ _ _ _ ?_ ?_ ?_
 ·rw[List.pairwise_map]
  refine List.Pairwise.imp_of_mem (fun{a b} ha hb h=>?_) k.apart
  have h1:=(k.ob a ha).even
  have h2:=(k.ob b hb).even
  have h3:=a.size_pos
  omega
 ·intro i hi
  rw[VA]at hi
  obtain⟨o,ho,rfl⟩:=hi
  have h1:=(k.ob o ho).fits
  have h2:=o.size_pos
  unfold Hp.nw at h1
  omega
 ·intro i _ _
  unfold Hp.starts
  rw[List.any_eq_true,VA]
  constructor
  ·grind
  ·rintro ⟨o,ho,h⟩
   have h1:=(k.ob o ho).even
   exact⟨o,ho,by simp;omega⟩
theorem Hp.Ok.few{s:Hp}(k:s.Ok):s.objs.length≤2048:=by
 have h:∀(k j:Nat)(f:Nat→Bool),(QW f k j).length≤k:=by
  intro k
  induction k with
  |zero=>intro j f;simp[QW]
  |succ k ih=>intro j f;simp only[QW];grind
 have h1:=h (32*s.blk.length) 0 s.starts
 rw[k.MW,DW]at h1
 have:=k.nb
 omega
theorem At.keeps{k:Nat}{o:Tags}{t:Tag}{H H':Gb}{v:CV}{n:Nat}{cs:List CV}(h:At o t H v k n cs)(a:Gr H H'):At o t H' v k n cs:=by
 rcases h with h|⟨b,tl,rfl,h1,h2,h3⟩
 ·exact .inl h
 ·exact .inr ⟨b,tl,rfl,h1,a.get h2,h3⟩
abbrev IL(k:Nat)(H:Gb)(v:CV)(l:List Int):Prop:=At (Loc k) z3 H v 1 l.length (ints l)
theorem IL.nil{k:Nat}{H:Gb}:IL k H .Gc []:=.inl ⟨rfl,rfl,.inl rfl⟩
theorem IL.cat{k:Nat}{H:Gb}{v:CV}{l l2:List Int}(h:IL k H v l)(hk:k≤H.length)(hm:l.length+l2.length≤16777216):
  ∃v' H',Jq H 1 v l2.length (ints l2)=some (v',H')∧IL k H' v' (l++l2)∧Keeps H H' (fun c=>k≤c):=by
 by_cases h2:l2=[]
 ·subst h2
  refine⟨v,H,?_,by simpa using h,Keeps.refl _ _⟩
  rcases h with⟨_,_,rfl|⟨b,f,rfl⟩⟩|⟨b,tl,rfl,h1,h2,h3⟩<;>rfl
 ·have hp:0<l2.length:=A7.2 h2
  obtain⟨H',a1,a2,a3,a4⟩:=At.append (k:=l2.length) (new:=ints l2) h hp hm (EZ _) (by simp[ZL])
  refine⟨_,H',a1,.inr ⟨H.length,true,sM,Gm.2 ⟨hk,rfl⟩,by rw[a3,Vg],by simp[ZL]⟩,⟨oM,fun c hc hk'=>a4 c oM (fun h=>by have:=(Gm.1 h).1;exact hk' this)⟩⟩
theorem IL.push{k:Nat}{H:Gb}{v:CV}{l:List Int}(h:IL k H v l)(hk:k≤H.length)(hm:l.length+1≤16777216)(x:Int):
  ∃v' H',Jq (H++[⟨[.i x],.rw,1⟩]) 1 v 1 [.i x]=some (v',H')∧IL k H' v' (l++[x])∧Keeps H H' (fun c=>k≤c):=by
 obtain⟨v',H',a,b,c⟩:=IL.cat (l2:=[x]) (h.keeps (.app H [⟨[.i x],.rw,1⟩])) (by simp;omega) hm
 exact⟨v',H',a,b,(Keeps.app H _ _).trans c⟩
theorem Gr.news{H0 H H':Gb}(a:Gr H0 H)(b:Keeps H H' (fun c=>H0.length≤c)):Gr H0 H':=
 ⟨Jm a.len b.len,fun c hc _=>by rw[b.keep c (JI hc a.len) oM,a.keep c hc fun h=>h]⟩
theorem IL.sl{k:Nat}{H:Gb}{v:CV}{l:List Int}(h:IL k H v l):Xl H v l:=by
 rcases h with⟨h1,h2,rfl|⟨b,f,rfl⟩⟩|⟨b,tl,rfl,h1,h2,h3⟩
 ·exact .inl ⟨by simp[VH,I4 h1],.inl rfl⟩
 ·exact .inl ⟨by simp[VH,I4 h1],.inr ⟨b,f,0,false,rfl⟩⟩
 ·refine .inr ⟨b,0,l.length,tl,_,by simp[VH],h2,.inl rfl,fun i r hi=>?_⟩
  simp only[VH,K4,GJ]at hi
  obtain⟨x,hx,rfl⟩:=hi
  have hc:(ints l)[i]?=some (.i x):=by rw[ZQ,hx];rfl
  refine⟨?_,rfl⟩
  rw[Nat.zero_add,Nat.mul_one]
  have hl:=Gf hc
  rw[List.drop_eq_getElem_cons hl,List.take_succ_cons,List.take_zero]
  grind
theorem Kc{cs:List CV}{e n:Nat}(h:cs.length=n):Fw (some ⟨cs,.rw,e⟩) 0 n=some cs:=by
 rw[Ur,if_pos oM];simp[←h]
end Go.Cs
namespace Go.Cs.Tryz
open Go Go.Cs
section
variable {H : Gb} {hb : Nat} {s : Hp} {L : G6}
theorem Gdx(p:PH H hb s L)(k:s.Ok){to:Int}(hto:to≤4096){E0:Env}(h0:E0 0=.ptr hb 0)(h2:E0 2=.i to)(h7:E0 7=.Gc){j0:Nat}(hj:j0≤32*s.blk.length)(h8:.Jk [E0 8,E0 9]=Nt (P7 s.starts (32*s.blk.length-j0) j0))
  {r:Option (CX×Env×Gb)}(hr:den P (.loop Sc) E0 H=r):
  ∃E' H',r=some (.exit 0,E',H')∧Gr H H'∧IL H.length H' (E' 7) (((QW s.starts (32*s.blk.length-j0) j0).map fun i=>((2*i:Nat):Int)).takeWhile fun a=>decide (a<to)):=by
 have hnb:=k.nb
 obtain⟨x',E',H',e,-,⟨rfl,g,hnew⟩,fr⟩:=Gs (p:=P) (c:=Sc) (E0:=E0) (H0:=H)
  (fun m E H'=>Gr H H'∧∃(j:Nat)(l:List Int),j≤32*s.blk.length∧m=32*s.blk.length+1-j∧l.length≤j∧.Jk [E 8,E 9]=Nt (P7 s.starts (32*s.blk.length-j) j)∧IL H.length H' (E 7) l∧
   l++(((QW s.starts (32*s.blk.length-j) j).map fun i=>((2*i:Nat):Int)).takeWhile fun a=>decide (a<to))=(((QW s.starts (32*s.blk.length-j0) j0).map fun i=>((2*i:Nat):Int)).takeWhile fun a=>decide (a<to)))
  (fun x E' H'=>x=.exit 0∧Gr H H'∧IL H.length H' (E' 7) (((QW s.starts (32*s.blk.length-j0) j0).map fun i=>((2*i:Nat):Int)).takeWhile fun a=>decide (a<to))) (by
   rintro m E H' hE ⟨g,j,l,hj,rfl,hlj,e8,hn,hd⟩
   have e0:=(hE 0 dK).trans h0
   have e2:=(hE 2 dK).trans h2
   have pt:=(p.gr g).top
   rw[Oe s.starts _ _ (32*s.blk.length) oM]at hd
   cases hu:P7 s.starts (32*s.blk.length-j) j with
   |none=>
    rw[hu]at hd e8
    simp only[Nt,CV.Jk.injEq,List.cons.injEq,and_true]at e8
    simp only[List.map_nil,List.takeWhile_nil,List.append_nil]at hd
    apply Gj (x:=.exit 0)
    ·have:=@e8.1;have:=@e8.2;have:=show((4:Int)==0)=false from rfl;refine GH ?_
     rfl
    ·simp
    ·exact⟨rfl,g,by rw[←hd];simpa[Gg]using hn⟩
   |some i=>
    rw[hu]at hd e8
    simp only[Nt,CV.Jk.injEq,List.cons.injEq,and_true]at e8
    obtain⟨b1,b2,b3⟩:=PW _ _ _ _ hu
    have w1:IntKind.i64.wrap (2*(i:Int))=((2*i:Nat):Int):=Gh oM
    have w2:IntKind.i64.wrap ((i:Int)+1)=((i+1:Nat):Int):=Gh oM
    simp only[List.map_cons]at hd
    by_cases c:((2*i:Nat):Int)<to
    ·rw[List.takeWhile_cons_of_pos (by simpa using c)]at hd
     have hlen:l.length+1≤16777216:=by omega
     obtain⟨v',H1,a1,a2,a3⟩:=IL.push hn g.len hlen ((2*i:Nat):Int)
     have g1:=g.news a3
     have c':decide (((2*i:Nat):Int)<to)=true:=G7 c
     have pt1:=(p.gr g1).top
     have hnx:=RA (p.gr g1).sta (i+1)
     have hel:elems (H'++[⟨[.i ((2*i:Nat):Int)],.rw,1⟩]) 1 (.slice H'.length 0 1 1 1 false)=some (1,[.i ((2*i:Nat):Int)]):=by
      rw[J7 oM]
      have:=@Kc;exact W0
     obtain⟨u1,u2,hu2⟩:∃u1 u2,Nt (P7 s.starts (32*s.blk.length-(i+1)) (i+1))=.Jk [u1,u2]:=by
      cases P7 s.starts (32*s.blk.length-(i+1)) (i+1)with
      |none=>exact⟨_,_,rfl⟩
      |some q=>exact⟨_,_,rfl⟩
     rw[hu2]at hnx
     apply Gp (k':=32*s.blk.length+1-(i+1))
     ·have:=@e8.1;have:=@e8.2;have:=show((0:Int)==0)=true from rfl;refine GH ?_
      rfl
     ·omega
     ·refine⟨g1,i+1,l++[((2*i:Nat):Int)],oM,rfl,by simp;omega,?_,?_,?_⟩
      ·rw[hu2];simp[Gg]
      ·simpa[Gg]using a2
      ·rw[←hd,List.append_assoc];rfl
    ·rw[List.takeWhile_cons_of_neg (by simpa using c),List.append_nil]at hd
     have c':decide (((2*i:Nat):Int)<to)=false:=G5 c
     apply Gj (x:=.exit 0)
     ·have:=@e8.1;have:=@e8.2;have:=show((0:Int)==0)=true from rfl;refine GH ?_
      rfl
     ·simp
     ·exact⟨rfl,g,by rw[←hd];simpa[Gg]using hn⟩) _ ⟨Keeps.refl H _,j0,[],hj,rfl,sM,h8,by rw[h7];exact IL.nil,sM⟩
 grind
theorem Eu(p:PH H hb s L)(k:s.Ok){f:Nat}(hf:f≤s.nw){to:Int}(hto:to≤4096):
  ∃v H',run P 170 [.ptr hb 0,.i f,.i to] H=some (v,H')∧Gr H H'∧IL H.length H' v (((QW s.starts (32*s.blk.length-f/2) (f/2)).map fun i=>((2*i:Nat):Int)).takeWhile fun a=>decide (a<to)):=by
 have hnb:=k.nb
 unfold Hp.nw at hf
 have hnx:=RA p.sta (f/2)
 obtain⟨u1,u2,hu2⟩:∃u1 u2,Nt (P7 s.starts (32*s.blk.length-f/2) (f/2))=.Jk [u1,u2]:=by
  cases P7 s.starts (32*s.blk.length-f/2) (f/2)with
  |none=>exact⟨_,_,rfl⟩
  |some q=>exact⟨_,_,rfl⟩
 rw[hu2]at hnx
 have hd:(f:Int).tdiv 2=((f/2:Nat):Int):=Nu f 2
 have hw:IntKind.i64.wrap ((f/2:Nat):Int)=((f/2:Nat):Int):=Gh oM
 have pt:=p.top
 rw[Gi Gp_ _ _ sM]
 refine WX ?_
 generalize hr:den P (.loop Sc) _ _=r
 obtain⟨E',H',rfl,g,hn⟩:=Gdx p k hto (j0:=f/2) uA uA uA oM (by rw[hu2];simp[Gg]) hr
 refine⟨E' 7,H',?_,g,hn⟩
 exact W0
theorem BO{α:Type}{p:α→Bool}:∀{l:List α},(∀x∈l,p x=true)→l.takeWhile p=l
 |[],_=>rfl
 |x::l,h=>by rw[List.takeWhile_cons_of_pos (h x Nr),BO fun y hy=>h y (U5 _ hy)]
theorem Oq(p:PH H hb s L)(k:s.Ok):∃v H',run P 73 [.ptr hb 0] H=some (v,H')∧Gr H H'∧IL H.length H' v s.all:=by
 have hnb:=k.nb
 obtain⟨v,H',h1,g,h2⟩:=Eu p k (f:=0) oM (to:=(s.nw:Int)) (by unfold Hp.nw;omega)
 have h1':run P 170 [.ptr hb 0,.i 0,.i s.nw] H=some (v,H'):=h1
 have h3:=KU p k
 have pt:=p.top
 refine⟨v,H',?_,g,?_⟩
 ·rw[Gi c73 _ _ sM]
  exact W0
 ·rw[show 32*s.blk.length-0/2=32*s.blk.length from rfl,show 0/2=0 from rfl,k.MW,List.map_map]at h2
  have e:(s.objs.map ((fun i=>((2*i:Nat):Int))∘fun o=>o.addr/2))=s.all:=by
   unfold Hp.all
   refine List.map_congr_left fun o ho=>?_
   have:=(k.ob o ho).even
   grind
  rw[e,BO]at h2
  ·exact h2
  ·intro x hx
   simp only[Hp.all,VA]at hx
   obtain⟨o,ho,rfl⟩:=hx
   have:=(k.ob o ho).fits
   have:=o.size_pos
   simp;omega
end
end Go.Cs.Tryz
namespace Go.Cs.Tryz
open Go Go.Cs A
def Gr3:Gl:=⟨48,0,T [n 4 0,n 5 0] (S (T [m 8 0,q1 9 95 8,no 10 9] (I 10 (Q [n 4 0,n 5 5]))) (S (T [m 11 1,bk 12 .lss 11 0,m 13 12,gf 13 (m 14 1),gf 13 (m 15 0),gf 13 (z 16 15),gf 13 (f 17 1 16),gf 13 (l 18 1 17),gf 13 (le 19 18),gf 13 (b 20 .geq 14 19),or 21 13 20] (I 21 (Q [n 4 0,n 5 4]))) (T [m 23 0,z 24 23,f 25 2 24,l 26 1 25,m 27 1,bk 28 .quo 27 2,bk 29 .add 28 1,ca 30 261 [t 26,t 29,k 1],m 22 30,ex 31 22 0,ex 32 22 1,m 6 31,m 7 32] (S (T [m 33 7,bk 34 .neq 33 0,m 35 34,gf 35 (m 36 1),gf 35 (m 37 6),gf 35 (e 38 (.bin .mul (k 2) (t 37))),gf 35 (m 39 0),gf 35 (m 40 6),gf 35 (e 41 (.bin .mul (k 2) (t 40))),gf 35 (q2 42 155 39 41),gf 35 (b 43 .add 38 42),gf 35 (b 44 .geq 36 43),or 45 35 44] (I 45 (Q [n 4 0,n 5 4]))) (Q [m 46 6,e 47 (.bin .mul (k 2) (t 46)),m 4 47,n 5 0]))))),[r 4,r 5]⟩
theorem c203:P 203=some Gr3:=by kernel_rfl
abbrev OG:Gq:=S (T [m 6 0,z 7 6,f 8 0 7,l 9 1 8,m 10 1,x 11 2 9 10,f 12 0 11,l 13 1 12,bk 14 .eql 13 2,m 15 14,gt 15 (m 16 1),gt 15 (m 17 5),gt 15 (b 18 .add 16 17),gt 15 (m 19 0),gt 15 (z 20 19),gt 15 (f 21 0 20),gt 15 (l 22 1 21),gt 15 (le 23 22),gt 15 (b 24 .lss 18 23),an 25 15 24,m 26 25,gt 26 (m 27 0),gt 26 (z 28 27),gt 26 (f 29 0 28),gt 26 (l 30 1 29),gt 26 (m 31 1),gt 26 (m 32 5),gt 26 (b 33 .add 31 32),gt 26 (x 34 2 30 33),gt 26 (f 35 0 34),gt 26 (l 36 1 35),gt 26 (bk 37 .eql 36 3),an 38 26 37] (J 38 (X 0))) (B 1 (R [m 39 5,bk 40 .add 39 1,m 5 40]))
def GtL:Gl:=⟨42,0,T [n 4 0] (T [n 5 1] (S (B 0 (W OG)) (Q [m 41 5,m 4 41]))),[r 4]⟩
theorem GrL:P 220=some GtL:=by kernel_rfl
end Go.Cs.Tryz
namespace Go.Cs
open Go
def Hp.findAt(s:Hp)(a:Int):Int×Int:=if 0≤a∧a<(s.nw:Int)then(match s.owner a.toNat with|some o=>((o.addr:Int),0)|none=>(0,4))else(0,4)
theorem Oy{f:Nat→Bool}:∀{j i:Nat},U4 f j=some i→i<j∧f i=true∧∀m,i<m→m<j→f m=false
 |0,_,h=>by cases h
 |j+1,i,h=>by
  simp only[U4]at h
  by_cases hf:f j=true
  ·grind
  ·rw[if_neg hf]at h
   obtain⟨h1,h2,h3⟩:=Oy h
   grind
theorem LZ{f:Nat→Bool}:∀{j:Nat},U4 f j=none→∀m,m<j→f m=false
 |0,_,m,h=>by omega
 |j+1,h,m,hm=>by
  simp only[U4]at h
  by_cases hf:f j=true
  ·rw[if_pos hf]at h;cases h
  ·rw[if_neg hf]at h
   by_cases e:m=j
   ·subst e;simpa using hf
   ·exact LZ h m oM
theorem Hp.Ga2{s:Hp}{o:Ob}(k:s.Ok)(ho:o∈s.objs):s.starts (o.addr/2)=true:=by
 unfold Hp.starts
 rw[List.any_eq_true]
 have:=(k.ob o ho).even
 exact⟨o,ho,by simp;omega⟩
theorem Hp.GhM{s:Hp}{i:Nat}(h:s.starts i=true):∃o∈s.objs,o.addr=2*i:=by
 unfold Hp.starts at h
 grind
theorem Hp.Ok.Gca{s:Hp}(k:s.Ok)(w:Nat):
  (∃o,U4 s.starts (w/2+1)=some (o.addr/2)∧o∈s.objs∧o.addr≤w∧s.owner w=if w<o.addr+o.size then some o else none)∨(U4 s.starts (w/2+1)=none∧s.owner w=none):=by
 have hnone:∀{P:Prop},(∀o∈s.objs,¬(o.addr≤w∧w<o.addr+o.size))→s.owner w=none:=fun{_} h=>by
  unfold Hp.owner
  grind
 cases hd:U4 s.starts (w/2+1)with
 |none=>
  refine .inr ⟨rfl,hnone (P:=True) fun o ho h=>?_⟩
  have:=LZ hd (o.addr/2) oM
  rw[Hp.Ga2 k ho]at this
  cases this
 |some i=>
  obtain⟨h1,h2,h3⟩:=Oy hd
  obtain⟨o,ho,e⟩:=Hp.GhM h2
  refine .inl ⟨o,by rw[e];congr 1;omega,ho,oM,?_⟩
  by_cases c:w<o.addr+o.size
  ·rw[if_pos c]
   exact A_ ho (by simp;omega) fun b hb hh=>k.same hb ho (w:=w) (by simpa using hh) ⟨oM,c⟩
  ·rw[if_neg c]
   refine hnone (P:=True) fun b hb hh=>?_
   have hbe:=(k.ob b hb).even
   by_cases c2:b.addr/2≤i
   ·rcases Na k.apart hb ho with e2|e2|e2
    ·rw[e2]at hh;exact c hh.2
    ·omega
    ·have:=o.size_pos;omega
   ·have:=h3 (b.addr/2) oM oM
    rw[Hp.Ga2 k hb]at this
    cases this
def tails(l:List (Nat×Nat)):Nat:=(l.takeWhile fun x=>x.1==3).length
def Hp.span(s:Hp)(b:Nat):Nat:=if(s.blk.getD b (0,0)).1=2 then 1+tails (s.blk.drop (b+1))else 1
theorem OL{l:List (Nat×Nat)}{j:Nat}{x:Nat×Nat}(h:l[j]?=some x):tails (l.drop j)=if x.1=3 then 1+tails (l.drop (j+1))else 0:=by
 unfold tails
 rw[drop_cons h]
 by_cases c:x.1=3
 ·rw[if_pos c,List.takeWhile_cons_of_pos (by simpa using c),List.length_cons];omega
 simp_all
theorem Rh{l:List (Nat×Nat)}{j:Nat}(h:l.length≤j):tails (l.drop j)=0:=by
 unfold tails
 rw[List.drop_eq_nil_of_le h];rfl
end Go.Cs
namespace Go.Cs.Tryz
open Go Go.Cs
section
variable {H : Gb} {hb : Nat} {s : Hp} {L : G6}
theorem Gea(p:PH H hb s L)(k:s.Ok)(a:Int):∃H',run P 203 [.ptr hb 0,.i a] H=some (Q9 (s.findAt a),H')∧Gr H H':=by
 have h1:=KU p k
 have pt:=p.top
 have hnb:=k.nb
 unfold Hp.findAt Q9
 by_cases c0:a<0
 ·refine⟨H,?_,Keeps.refl _ _⟩
  rw[if_neg oM,Gi c203 _ _ sM]
  exact W0
 ·by_cases c1:(s.nw:Int)≤a
  ·refine⟨H,?_,Keeps.refl _ _⟩
   rw[if_neg oM,Gi c203 _ _ sM]
   exact W0
  ·obtain⟨w,rfl⟩:∃w:Nat,a=w:=⟨a.toNat,oM⟩
   have hwn:w<64*s.blk.length:=by unfold Hp.nw at c1;omega
   rw[if_pos oM,K_]
   have hd:(w:Int).tdiv 2=((w/2:Nat):Int):=Nu w 2
   have hw:IntKind.i64.wrap ((w/2:Nat):Int)=((w/2:Nat):Int):=Gh oM
   have hw1:IntKind.i64.wrap (((w/2:Nat):Int)+1)=((w/2+1:Nat):Int):=Gh oM
   have hl:=Ge5 p.sta (j:=w/2+1) oM
   rcases k.Gca w with⟨o,e1,ho,e2,e3⟩|⟨e1,e3⟩
   ·rw[e1]at hl
    unfold Nt at hl
    have hev:=(k.ob o ho).even
    have hf:=(k.ob o ho).fits
    have hsz:=Ob.size_le (k.ob o ho)
    unfold Hp.nw at hf
    have hm:IntKind.i64.wrap (2*((o.addr/2:Nat):Int))=(o.addr:Int):=by rw[Gh oM];omega
    obtain⟨H',q1,g⟩:=PV p k ho
    have hs:IntKind.i64.wrap ((o.addr:Int)+(o.size:Int))=(o.addr:Int)+(o.size:Int):=Gh oM
    refine⟨H',?_,g⟩
    rw[e3,Gi c203 _ _ sM]
    by_cases c2:w<o.addr+o.size
    ·rw[if_pos c2]
     have c3:¬((o.addr:Int)+(o.size:Int)≤(w:Int)):=by omega
     exact EI
    ·rw[if_neg c2]
     have c3:((o.addr:Int)+(o.size:Int)≤(w:Int)):=by omega
     exact EI
   ·rw[e1]at hl
    unfold Nt at hl
    refine⟨H,?_,Keeps.refl _ _⟩
    rw[e3,Gi c203 _ _ sM]
    exact EI
theorem DT(p:PH H hb s L){b:Nat}{x:Nat×Nat}(h:s.blk[b]?=some x):ld H[L.bb]? (b*2)=some (.i x.1)∧ld H[L.bb]? (b*2+1)=some (.i x.2)∧((0:Int)≤(b:Int)∧(b:Int)<(s.blk.length:Int)):=by
 obtain⟨q1,q2⟩:=Kk s.blk b x h
 have:=Gf h
 rw[p.blk,Qm,Qm]
 exact⟨q1,q2,oM⟩
theorem Glj(p:PH H hb s L)(k:s.Ok){b:Nat}{x:Nat×Nat}(hx:s.blk[b]?=some x)
  {E0:Env} (h0:E0 0=.ptr hb 0) (h1:E0 1=.i b) (h5:E0 5=.i 1) {r:Option (CX×Env×Gb)} (hr:den P (.loop OG) E0 H=r):
  ∃E',r=some (.exit 0,E',H)∧E' 5=.i (s.span b):=by
 have hnb:=k.nb
 have hlt:=Gf hx
 have hgd:s.blk.getD b (0,0)=x:=by grind
 obtain⟨x',E',H',e,-,⟨rfl,rfl,hf⟩,fr⟩:=Gs (p:=P) (c:=OG) (E0:=E0) (H0:=H)
  (fun m E H'=>H'=H∧∃n:Nat,E 5=.i n∧1≤n∧n≤s.blk.length∧m=s.blk.length-n∧(if x.1=2 then n+tails (s.blk.drop (b+n))else 1)=s.span b∧(x.1≠2→n=1))
  (fun x' E' H'=>x'=.exit 0∧H'=H∧E' 5=.i (s.span b)) (by
   rintro m E H' hE ⟨rfl,n,e5,hn1,hn2,rfl,hd,hne⟩
   have e0:=(hE 0 dK).trans h0
   have e1:=(hE 1 dK).trans h1
   have pt:=p.top
   obtain⟨q1,q2,q3⟩:=DT p hx
   by_cases c:x.1=2
   ·rw[if_pos c]at hd
    rw[c]at q1
    have w1:IntKind.i64.wrap ((b:Int)+(n:Int))=((b+n:Nat):Int):=Gh oM
    by_cases c2:b+n<s.blk.length
    ·have hy:s.blk[b+n]?=some s.blk[b+n]:=JG c2
     obtain⟨r1,r2,r3⟩:=DT p hy
     have c2':decide (((b+n:Nat):Int)<(s.blk.length:Int))=true:=G7 oM
     rw[OL hy]at hd
     by_cases c3:s.blk[b+n].1=3
     ·rw[if_pos c3]at hd
      rw[c3]at r1
      have w2:IntKind.i64.wrap ((n:Int)+1)=((n+1:Nat):Int):=Gh oM
      apply Gp (k':=s.blk.length-(n+1))
      ·refine GH ?_
       rfl
      ·omega
      ·exact⟨rfl,n+1,uA,oM,oM,rfl,by grind,fun h=>absurd c h⟩
     ·rw[if_neg c3]at hd
      have c4:(((s.blk[b+n].1:Nat):Int)==3)=false:=by simp;omega
      apply Gj (x:=.exit 0)
      ·refine GH ?_
       rfl
      ·simp
      ·exact⟨rfl,rfl,by rw[←hd];simp[Gg,e5]⟩
    ·have c2':decide (((b+n:Nat):Int)<(s.blk.length:Int))=false:=G5 oM
     rw[Rh oM]at hd
     apply Gj (x:=.exit 0)
     ·refine GH ?_
      rfl
     ·simp
     ·exact⟨rfl,rfl,by rw[←hd];simp[Gg,e5]⟩
   ·rw[if_neg c]at hd
    have hn:=hne c
    subst hn
    have c4:(((x.1:Nat):Int)==2)=false:=by simp;omega
    apply Gj (x:=.exit 0)
    ·simp(disch:=first|exact dz|fail) only[simprocAttr,Gx,↓reduceIte,OG,e0,e1,pt,Yz q1,c4]
     rfl
    ·simp
    ·exact⟨rfl,rfl,by rw[←hd];simp[Gg,e5]⟩) _ ⟨rfl,1,h5,oM,oM,rfl,by unfold Hp.span;rw[hgd],fun _=>rfl⟩
 exact⟨E',hr.symm.trans e,hf⟩
theorem GeD(p:PH H hb s L)(k:s.Ok){b:Nat}(hb':b<s.blk.length):run P 220 [.ptr hb 0,.i b] H=some (.i (s.span b),H):=by
 rw[Gi GrL _ _ sM]
 refine GH ?_
 generalize hr:den P (.loop OG) _ _=r
 obtain⟨E',rfl,h⟩:=Glj p k (b:=b) (JG hb') uA uA uA hr
 exact W0
end
end Go.Cs.Tryz
namespace Go.Cs.Tryz
open Go Go.Cs A
abbrev FI:Gq:=S (T [m 76 10,m 77 1,m 78 2,b 79 .add 77 78,b 80 .lss 76 79] (J 80 (X 0))) (S (B 1 (T [m 84 0,m 85 10,q2 86 203 84 85,m 83 86,ex 87 83 0,ex 88 83 1,m 11 87,m 12 88] (T [m 89 12,bk 90 .eql 89 0,m 91 90,gt 91 (m 92 11),gt 91 (m 93 3),gt 91 (b 94 .neq 92 93),an 95 91 94] (I 95 (Q [n 8 8]))))) (R [m 81 10,bk 82 .add 81 2,m 10 82]))
def Gqr:Gl:=⟨96,0,T [n 8 0] (S (T [m 13 1,bk 14 .lss 13 0,m 15 14,gf 15 (m 16 1),gf 15 (m 17 0),gf 15 (z 18 17),gf 15 (f 19 1 18),gf 15 (l 20 1 19),gf 15 (le 21 20),gf 15 (b 22 .geq 16 21),or 23 15 22,m 24 23,gf 24 (m 25 1),gf 24 (bk 26 .rem 25 2),gf 24 (bk 27 .neq 26 0),or 28 24 27] (I 28 (Q [n 8 1]))) (T [m 29 1,bk 30 .quo 29 64,m 9 30] (S (T [m 31 2,bk 32 .leq 31 32] (C 32 (T [m 33 0,z 34 33,f 35 0 34,l 36 1 35,m 37 9,x 38 2 36 37,f 39 0 38,l 40 1 39,bk 41 .neq 40 1,m 42 41,gf 42 (m 43 1),gf 42 (m 44 2),gf 42 (b 45 .add 43 44),gf 42 (bk 46 .sub 45 1),gf 42 (bk 47 .quo 46 64),gf 42 (m 48 9),gf 42 (b 49 .neq 47 48),or 50 42 49] (I 50 (Q [n 8 5]))) (T [m 51 0,z 52 51,f 53 0 52,l 54 1 53,m 55 9,x 56 2 54 55,f 57 0 56,l 58 1 57,bk 59 .neq 58 2,m 60 59,gf 60 (m 61 1),gf 60 (bk 62 .rem 61 64),gf 60 (bk 63 .neq 62 0),or 64 60 63,m 65 64,gf 65 (m 66 0),gf 65 (m 67 9),gf 65 (q2 68 220 66 67),gf 65 (m 69 2),gf 65 (bk 70 .add 69 64),gf 65 (bk 71 .sub 70 1),gf 65 (bk 72 .quo 71 64),gf 65 (b 73 .neq 68 72),or 74 65 73] (I 74 (Q [n 8 5]))))) (S (T [m 75 1,m 10 75] (B 0 (W FI))) (Q [n 8 0]))))),[r 8]⟩
theorem P5:P 126=some Gqr:=by kernel_rfl
end Go.Cs.Tryz
namespace Go.Cs
open Go
def Hp.taken(s:Hp)(a n:Nat)(but:Int):Bool:=s.objs.any fun o=>(o.addr:Int) != but&&(decide (o.addr<a+n)&&decide (a<o.addr+o.size))
def Hp.Gw(s:Hp)(b:Nat):Nat:=(s.blk.getD b (0,0)).1
def Hp.fits(s:Hp)(a:Int)(n:Nat)(but:Int):Int:=
 if a<0∨(s.nw:Int)≤a∨a.toNat % 2≠0 then 1
 else if n≤32 then(if s.Gw (a.toNat/64)≠1∨(a.toNat+n-1)/64≠a.toNat/64 then 5 else if s.taken a.toNat n but then 8 else 0)
 else(if s.Gw (a.toNat/64)≠2∨a.toNat % 64≠0∨s.span (a.toNat/64)≠(n+63)/64 then 5 else if s.taken a.toNat n but then 8 else 0)
theorem Hp.Ok.Ry{s:Hp}(k:s.Ok){a n:Nat}{but:Int}(ha:a % 2=0)(hn:n % 2=0)(hn0:0<n):s.taken a n but=true↔∃j o,2*j<n∧s.owner (a+2*j)=some o∧(o.addr:Int)≠but:=by
 unfold Hp.taken
 rw[List.any_eq_true]
 constructor
 ·rintro ⟨o,ho,h⟩
  simp only[Qj,bne_iff_ne,ne_eq,decide_eq_true_eq]at h
  have h1:=(k.ob o ho).even
  have h2:=o.PZ
  have h3:=o.size_pos
  by_cases c:a≤o.addr
  ·refine⟨(o.addr-a)/2,o,oM,?_,h.1⟩
   have e:a+2*((o.addr-a)/2)=o.addr:=by omega
   rw[e]
   exact A_ ho (by simp;omega) fun b hb hh=>k.same hb ho (w:=o.addr) (by simpa using hh) ⟨oM,oM⟩
  ·refine⟨0,o,oM,?_,h.1⟩
   exact A_ ho (by simp;omega) fun b hb hh=>k.same hb ho (w:=a) (by simpa using hh) ⟨oM,oM⟩
 ·rintro ⟨j,o,h1,h2,h3⟩
  have hm:=List.mem_of_find?_eq_some h2
  have hp:=P9 h2
  grind
end Go.Cs
namespace Go.Cs.Tryz
open Go Go.Cs
section
variable {H : Gb} {hb : Nat} {s : Hp} {L : G6}
theorem Gg0(p:PH H hb s L)(k:s.Ok){a n:Nat}{but:Int}(ha:a % 2=0)(hn:n % 2=0)(hn0:0<n)(hn2:n≤300)(ha2:(a:Int)<s.nw)
  {E0:Env}(h0:E0 0=.ptr hb 0)(h1:E0 1=.i a)(h2:E0 2=.i n)(h3:E0 3=.i but)(h10:E0 10=.i a){r:Option (CX×Env×Gb)}(hr:den P (.loop FI) E0 H=r):
  ∃x E' H',r=some (x,E',H')∧Gr H H'∧((x=.ret∧E' 8=.i 8∧s.taken a n but=true)∨(x=.exit 0∧s.taken a n but=false)):=by
 have hnb:=k.nb
 have ha3:a<4096:=by unfold Hp.nw at ha2;omega
 obtain⟨x',E',H',e,-,⟨g,hf⟩,fr⟩:=Gs (p:=P) (c:=FI) (E0:=E0) (H0:=H)
  (fun m E H'=>Gr H H'∧∃j:Nat,E 10=.i ((a+2*j:Nat):Int)∧2*j≤n∧m=n-2*j∧∀i o,i<j→s.owner (a+2*i)=some o→(o.addr:Int)=but)
  (fun x E' H'=>Gr H H'∧((x=.ret∧E' 8=.i 8∧s.taken a n but=true)∨(x=.exit 0∧s.taken a n but=false))) (by
   rintro m E H' hE ⟨g,j,e10,hj,rfl,hd⟩
   have e0:=(hE 0 dK).trans h0
   have e1:=(hE 1 dK).trans h1
   have e2:=(hE 2 dK).trans h2
   have e3:=(hE 3 dK).trans h3
   have w1:IntKind.i64.wrap ((a:Int)+(n:Int))=((a+n:Nat):Int):=Gh oM
   by_cases c:2*j<n
   ·have c':decide (((a+2*j:Nat):Int)<((a+n:Nat):Int))=true:=G7 oM
    have w2:IntKind.i64.wrap (((a+2*j:Nat):Int)+2)=((a+2*(j+1):Nat):Int):=Gh oM
    obtain⟨H1,q1,g1⟩:=Gea (p.gr g) k ((a+2*j:Nat):Int)
    have g2:Gr H H1:=g.trans g1
    unfold Q9 Hp.findAt at q1
    rw[K_]at q1
    have go:∀u v:Int,run P 203 [.ptr hb 0,.i ((a+2*j:Nat):Int)] H'=some (.Jk [.i u,.i v],H1)→((v==0)=true→(u != but)=false)→(∀o,s.owner (a+2*j)=some o→(o.addr:Int)=but)→
      ∃x E' GkW,den P FI E H'=some (x,E',GkW)∧((x=CX.normal∧∃k',k'<n-2*j∧Gr H GkW∧∃j:Nat,E' 10=.i ((a+2*j:Nat):Int)∧2*j≤n∧k'=n-2*j∧∀i o,i<j→s.owner (a+2*i)=some o→(o.addr:Int)=but)∨
       x≠CX.normal∧Gr H GkW∧((x=.ret∧E' 8=.i 8∧s.taken a n but=true)∨(x=.exit 0∧s.taken a n but=false))):=by
     intro u v q1 huv ho
     by_cases cv:(v==0)=true
     ·apply Gp (k':=n-2*(j+1))
      ·refine W11 e0 e1 e2 e3 e10 w1 c' q1 cv (huv cv) w2 ?_
       rfl
      ·omega
      ·refine⟨g2,j+1,uA,oM,rfl,fun i o hi ho'=>?_⟩
       grind
     ·have cv':(v==0)=false:=by simpa using cv
      apply Gp (k':=n-2*(j+1))
      ·refine W9 e0 e1 e2 e10 w1 c' q1 cv' w2 ?_
       rfl
      ·omega
      ·refine⟨g2,j+1,uA,oM,rfl,fun i o hi ho'=>?_⟩
       grind
    by_cases cw:(0:Int)≤((a+2*j:Nat):Int)∧((a+2*j:Nat):Int)<(s.nw:Int)
    ·rw[if_pos cw]at q1
     cases ho:s.owner (a+2*j)with
     |none=>
      simp_all
     |some o=>
      rw[ho]at q1
      dsimp only at q1
      by_cases cb:(o.addr:Int)=but
      ·simp_all
      ·have cb':((o.addr:Int) != but)=true:=by simpa using cb
       apply Gj (x:=.ret)
       ·have:=show((0:Int)==0)=true from rfl;refine GH ?_
        rfl
       ·simp
       ·exact⟨g2,.inl ⟨rfl,uA,(k.Ry ha hn hn0).2 ⟨j,o,c,ho,cb⟩⟩⟩
    ·rw[if_neg cw]at q1
     refine go _ _ q1 (fun h=>by cases h) (fun o h=>?_)
     have hm:=List.mem_of_find?_eq_some h
     have hp:=P9 h
     simp only[decide_eq_true_eq]at hp
     have:=(k.ob o hm).fits
     omega
   ·have c':decide (((a+2*j:Nat):Int)<((a+n:Nat):Int))=false:=G5 oM
    apply Gj (x:=.exit 0)
    ·refine GH ?_
     rfl
    ·simp
    ·refine⟨g,.inr ⟨rfl,?_⟩⟩
     rw[←Bool.not_eq_true,k.Ry ha hn hn0]
     grind) _ ⟨Keeps.refl _ _,0,by rw[h10];rfl,oM,rfl,fun i o h=>by omega⟩
 grind
theorem Geg(p:PH H hb s L)(k:s.Ok)(a:Int){n:Nat}(but:Int)(hn:n % 2=0)(hn0:0<n)(hn2:n≤300):∃H',run P 126 [.ptr hb 0,.i a,.i n,.i but] H=some (.i (s.fits a n but),H')∧Gr H H':=by
 have pt:=p.top
 have hnb:=k.nb
 unfold Hp.fits
 by_cases c0:a<0
 ·refine⟨H,?_,Keeps.refl _ _⟩
  rw[if_pos (.inl c0),Gi P5 _ _ sM]
  exact W0
 obtain⟨m,rfl⟩:∃m:Nat,a=m:=⟨a.toNat,oM⟩
 rw[K_]
 by_cases c1:(s.nw:Int)≤(m:Int)
 ·refine⟨H,?_,Keeps.refl _ _⟩
  rw[if_pos (.inr (.inl c1)),Gi P5 _ _ sM]
  exact W0
 have hm2:(m:Int).tmod 2=((m % 2:Nat):Int):=VU m 2
 by_cases c2:m % 2=0
 rotate_left
 ·refine⟨H,?_,Keeps.refl _ _⟩
  have c2':(((m % 2:Nat):Int) != 0)=true:=by simp;omega
  rw[if_pos (.inr (.inr c2)),Gi P5 _ _ sM]
  exact EI
 have c2':(((m % 2:Nat):Int) != 0)=false:=by rw[c2];rfl
 rw[if_neg oM]
 have hnw:s.nw=64*s.blk.length:=rfl
 have hmb:m/64<s.blk.length:=by omega
 have hx:s.blk[m/64]?=some s.blk[m/64]:=JG hmb
 obtain⟨q1,q2,q3⟩:=DT p hx
 have hst:s.Gw (m/64)=s.blk[m/64].1:=by unfold Hp.Gw;grind
 have hd:(m:Int).tdiv 64=((m/64:Nat):Int):=Nu m 64
 have hw:IntKind.i64.wrap ((m/64:Nat):Int)=((m/64:Nat):Int):=Gh oM
 by_cases c3:n≤32
 ·rw[if_pos c3]
  have c3':decide ((n:Int)≤32)=true:=G7 oM
  have w1:IntKind.i64.wrap ((m:Int)+(n:Int))=((m+n:Nat):Int):=Gh oM
  have w2:IntKind.i64.wrap (((m+n:Nat):Int)-1)=((m+n-1:Nat):Int):=by rw[Gh oM];omega
  have hd2:((m+n-1:Nat):Int).tdiv 64=(((m+n-1)/64:Nat):Int):=Nu _ 64
  have w3:IntKind.i64.wrap (((m+n-1)/64:Nat):Int)=(((m+n-1)/64:Nat):Int):=Gh oM
  by_cases c4:s.blk[m/64].1=1
  ·have c4':(((s.blk[m/64].1:Nat):Int) != 1)=false:=by rw[c4];rfl
   by_cases c5:(m+n-1)/64=m/64
   ·have c5':((((m+n-1)/64:Nat):Int) != ((m/64:Nat):Int))=false:=by rw[c5];simp
    rw[if_neg oM]
    rw[Gi P5 _ _ sM]
    simp(disch:=first|exact dz|fail) only[simprocAttr,Gx,↓reduceIte,NU,pt,c0,c1,Vs,GD,J9,hm2,c2',hd,hw,c3',Yz q1,c4',w1,w2,hd2,w3,c5']
    generalize hr:den P (.loop FI) _ _=r
    obtain⟨x,E',H',rfl,g,h⟩:=Gg0 p k (a:=m) (n:=n) (but:=but) c2 hn hn0 hn2 oM uA uA uA uA uA hr
    refine⟨H',?_,g⟩
    rcases h with⟨rfl,h1,h2⟩|⟨rfl,h2⟩
    ·rw[h2]
     exact W0
    ·rw[h2]
     exact W0
   ·have c5':((((m+n-1)/64:Nat):Int) != ((m/64:Nat):Int))=true:=by simp;omega
    refine⟨H,?_,Keeps.refl _ _⟩
    rw[if_pos (.inr c5),Gi P5 _ _ sM]
    exact EI
  ·have c4':(((s.blk[m/64].1:Nat):Int) != 1)=true:=by simp;omega
   refine⟨H,?_,Keeps.refl _ _⟩
   rw[if_pos (.inl (by rw[hst];exact c4)),Gi P5 _ _ sM]
   exact EI
 ·rw[if_neg c3]
  have c3':decide ((n:Int)≤32)=false:=G5 oM
  have GeA:(m:Int).tmod 64=((m % 64:Nat):Int):=VU m 64
  have w1:IntKind.i64.wrap ((n:Int)+64)=((n+64:Nat):Int):=Gh oM
  have w2:IntKind.i64.wrap (((n+64:Nat):Int)-1)=((n+63:Nat):Int):=by rw[Gh oM];omega
  have hd2:((n+63:Nat):Int).tdiv 64=(((n+63)/64:Nat):Int):=Nu _ 64
  have w3:IntKind.i64.wrap (((n+63)/64:Nat):Int)=(((n+63)/64:Nat):Int):=Gh oM
  have hsp:=GeD p k hmb
  by_cases c4:s.blk[m/64].1=2
  ·have c4':(((s.blk[m/64].1:Nat):Int) != 2)=false:=by rw[c4];rfl
   by_cases c5:m % 64=0
   ·have c5':(((m % 64:Nat):Int) != 0)=false:=by rw[c5];rfl
    by_cases c6:s.span (m/64)=(n+63)/64
    ·have c6':(((s.span (m/64):Nat):Int) != (((n+63)/64:Nat):Int))=false:=by rw[c6];simp
     rw[if_neg oM]
     rw[Gi P5 _ _ sM]
     simp(disch:=first|exact dz|fail) only[simprocAttr,Gx,↓reduceIte,NU,pt,c0,c1,Vs,GD,J9,hm2,GeA,c2',hd,hw,c3',Yz q1,c4',w1,w2,hd2,w3,c5',hsp,c6']
     generalize hr:den P (.loop FI) _ _=r
     obtain⟨x,E',H',rfl,g,h⟩:=Gg0 p k (a:=m) (n:=n) (but:=but) c2 hn hn0 hn2 oM uA uA uA uA uA hr
     refine⟨H',?_,g⟩
     rcases h with⟨rfl,h1,h2⟩|⟨rfl,h2⟩
     ·rw[h2]
      exact W0
     ·rw[h2]
      exact W0
    ·have c6':(((s.span (m/64):Nat):Int) != (((n+63)/64:Nat):Int))=true:=by simp;omega
     refine⟨H,?_,Keeps.refl _ _⟩
     rw[if_pos (.inr (.inr c6)),Gi P5 _ _ sM]
     exact EI
   ·have c5':(((m % 64:Nat):Int) != 0)=true:=by simp;omega
    refine⟨H,?_,Keeps.refl _ _⟩
    rw[if_pos (.inr (.inl c5)),Gi P5 _ _ sM]
    exact EI
  ·have c4':(((s.blk[m/64].1:Nat):Int) != 2)=true:=by simp;omega
   refine⟨H,?_,Keeps.refl _ _⟩
   rw[if_pos (.inl (by rw[hst];exact c4)),Gi P5 _ _ sM]
   exact EI
end
end Go.Cs.Tryz
namespace Go.Cs.Tryz
open Go Go.Cs A
def C66:Gl:=⟨8,0,T [n 4 0] (Q [m 5 0,m 6 1,ca 7 162 [t 5,t 6,k 1],m 4 7]),[r 4]⟩
theorem c66:P 66=some C66:=by kernel_rfl
def C91:Gl:=⟨28,0,T [n 8 0] (T [m 12 0,m 13 1,m 14 2,ca 15 172 [t 12,t 13,t 14,c (.bool true)],m 11 15,ex 16 11 0,ex 17 11 1,m 9 16,m 10 17] (S (T [m 18 10,bk 19 .neq 18 0] (I 19 (Q [m 20 10,m 8 20]))) (T [m 21 0,z 22 21,f 23 1 22,l 24 1 23,m 25 9,m 26 3,x 27 1 24 25,st 1 27 26] (Q [n 8 0])))),[r 8]⟩
theorem c91:P 91=some C91:=by kernel_rfl
def Gua:Gl:=⟨36,0,T [n 8 0] (T [m 12 0,m 13 1,m 14 2,ca 15 172 [t 12,t 13,t 14,c (.bool false)],m 11 15,ex 16 11 0,ex 17 11 1,m 9 16,m 10 17] (S (T [m 18 10,bk 19 .neq 18 0] (I 19 (Q [m 20 10,m 8 20]))) (S (T [m 21 3,bk 22 .neq 21 0,m 23 22,gt 23 (m 24 0),gt 23 (m 25 3),gt 23 (q2 26 50 24 25),gt 23 (no 27 26),an 28 23 27] (I 28 (Q [n 8 1]))) (T [m 29 0,z 30 29,f 31 1 30,l 32 1 31,m 33 9,m 34 3,x 35 1 32 33,st 1 35 34] (Q [n 8 0]))))),[r 8]⟩
theorem Gqe:P 122=some Gua:=by kernel_rfl
def GrB:Gl:=⟨22,0,T [n 6 0] (S (T [m 8 0,m 9 1,q2 10 120 8 9,m 7 10] (T [m 11 7,bk 12 .neq 11 0] (I 12 (Q [m 13 7,m 6 13])))) (T [m 14 0,z 15 14,f 16 3 15,l 17 1 16,m 18 1,bk 19 .quo 18 2,m 20 2,q3 21 129 17 19 20] (Q [n 6 0]))),[r 6]⟩
theorem c162:P 162=some GrB:=by kernel_rfl
end Go.Cs.Tryz
namespace Go.Cs
open Go
def Hp.upd(s:Hp)(a:Nat)(f:Ob→Ob):Hp:={s with objs:=s.objs.map fun x=>if x.addr=a then f x else x}
structure KO(f:Ob→Ob)(x:Ob):Prop where
 addr:(f x).addr=x.addr
 id:(f x).id=x.id
 kd:(f x).kd=x.kd
 nr:(f x).refs.length=x.refs.length
 nd:(f x).data.length=x.data.length
def Km(a:Nat)(f:Ob→Ob)(x:Ob):Ob:=if x.addr=a then f x else x
theorem KO.pick{f:Ob→Ob}{a:Nat}{x:Ob}(t:x.addr=a→KO f x):KO (Km a f) x:=by
 unfold Km
 by_cases c:x.addr=a
 ·have:=t c
  exact⟨by rw[if_pos c,this.addr],by rw[if_pos c,this.id],by rw[if_pos c,this.kd],by rw[if_pos c,this.nr],by rw[if_pos c,this.nd]⟩
 ·exact⟨by rw[if_neg c],by rw[if_neg c],by rw[if_neg c],by rw[if_neg c],by rw[if_neg c]⟩
theorem KO.size{f:Ob→Ob}{x:Ob}(t:KO f x):(f x).size=x.size:=by unfold Ob.size;rw[t.nr,t.nd]
theorem KO.num{f:Ob→Ob}{x:Ob}(t:KO f x):(f x).num=x.num:=by unfold Ob.num;rw[t.nr,t.nd,t.kd]
theorem Af{α:Type}{p:α→Bool}{g:α→α}:∀{l:List α},(∀x∈l,p (g x)=p x)→(l.map g).find? p=(l.find? p).map g
 |[],_=>rfl
 |x::l,h=>by
  rw[List.map_cons,List.find?_cons,List.find?_cons,h x Nr]
  cases p x with
  |true=>rfl
  |false=>exact Af fun y hy=>h y (U5 _ hy)
section
variable {s : Hp} {a : Nat} {f : Ob → Ob}
theorem Hp.RQ(t:∀x∈s.objs,x.addr=a→KO f x)(w:Nat):(s.upd a f).owner w=(s.owner w).map (Km a f):=
 Af fun x hx=>by
  have e:=KO.pick (f:=f) (t x hx)
  show decide ((Km a f x).addr≤w∧w<(Km a f x).addr+(Km a f x).size)=_
  rw[e.addr,e.size]
theorem Hp.IU(t:∀x∈s.objs,x.addr=a→KO f x)(b:Int):(s.upd a f).obj b=(s.obj b).map (Km a f):=
 Af fun x hx=>by
  have e:=KO.pick (f:=f) (t x hx)
  show((((Km a f x).addr:Nat):Int)==b)=_
  rw[e.addr]
theorem Dv{α:Type}{p:α→Bool}{g:α→α}{l:List α}(h:∀x∈l,p (g x)=p x):(l.map g).any p=l.any p:=by
 grind
theorem Hp.Dc(t:∀x∈s.objs,x.addr=a→KO f x):(s.upd a f).starts=s.starts:=by
 funext i
 exact Dv fun x hx=>by
  have e:=KO.pick (f:=f) (t x hx)
  show((Km a f x).addr==2*i)=_
  rw[e.addr]
theorem Hp.Gdo(t:∀x∈s.objs,x.addr=a→KO f x)(b:Int):(s.upd a f).has b=s.has b:=
 Dv fun x hx=>by
  have e:=KO.pick (f:=f) (t x hx)
  show((((Km a f x).addr:Nat):Int)==b)=_
  rw[e.addr]
theorem Hp.TM(t:∀x∈s.objs,x.addr=a→KO f x)(k v:Int):(∃o∈(s.upd a f).objs,k=o.id∧v=o.addr)↔∃o∈s.objs,k=o.id∧v=o.addr:=by
 simp only[Hp.upd,VA]
 constructor
 ·rintro ⟨_,⟨x,hx,rfl⟩,h1,h2⟩
  have e:=KO.pick (f:=f) (t x hx)
  exact⟨x,hx,by rw[h1];exact congrArg _ e.id,by rw[h2];exact congrArg _ e.addr⟩
 ·rintro ⟨x,hx,h1,h2⟩
  have e:=KO.pick (f:=f) (t x hx)
  exact⟨_,⟨x,hx,rfl⟩,by rw[h1];exact congrArg _ e.id.symm,by rw[h2];exact congrArg _ e.addr.symm⟩
theorem Hp.Ok.upd(k:s.Ok)(t:∀x∈s.objs,x.addr=a→KO f x):(s.upd a f).Ok where
 nb:=k.nb
 st:=k.st
 ob:=fun o ho=>by
  simp only[Hp.upd,VA]at ho
  obtain⟨x,hx,rfl⟩:=ho
  have e:=KO.pick (f:=f) (t x hx)
  have q:=k.ob x hx
  show(Km a f x).Ok _ _
  exact⟨by rw[e.addr];exact q.even,by rw[e.nr];exact q.nr,by rw[e.nd];exact q.nd,by rw[e.kd,e.nr];exact q.kd,by rw[e.id];exact q.id,by rw[e.addr,e.size];exact q.fits⟩
 apart:=by
  show(s.objs.map (Km a f)).Pairwise _
  rw[List.pairwise_map]
  refine List.Pairwise.imp_of_mem (fun{x y} hx hy h=>?_) k.apart
  have e:=KO.pick (f:=f) (t x hx)
  have e':=KO.pick (f:=f) (t y hy)
  rw[e.addr,e.size,e'.addr];exact h
 ids:=by
  show(s.objs.map (Km a f)).Pairwise _
  rw[List.pairwise_map]
  refine List.Pairwise.imp_of_mem (fun{x y} hx hy h=>?_) k.ids
  have e:=KO.pick (f:=f) (t x hx)
  have e':=KO.pick (f:=f) (t y hy)
  rw[e.id,e'.id];exact h
 born:=k.born
end
theorem Hp.Ok.WT{s:Hp}(k:s.Ok){o:Ob}(ho:o∈s.objs){f:Ob→Ob}(t:KO f o){j:Nat}(hj:j<o.size){v:Int}(hc:∀m,m<o.size→(f o).cell m=if m=j then v else o.cell m)(w:Nat):
  (s.upd o.addr f).word w=if w=o.addr+j then v else s.word w:=by
 have tt:∀x∈s.objs,x.addr=o.addr→KO f x:=fun x hx e=>by
  have h1:=x.size_pos
  have h2:=o.size_pos
  rw[k.same hx ho (w:=o.addr) oM oM];exact t
 unfold Hp.word
 rw[Hp.RQ tt]
 cases hw:s.owner w with
 |none=>
  rw[if_neg]
  ·rfl
  rintro rfl
  have:s.owner (o.addr+j)=some o:=A_ ho (by simp;omega) fun b hb e=>k.same hb ho (w:=o.addr+j) (by simpa using e) oM
  rw[this]at hw;cases hw
 |some x=>
  have hx:=List.mem_of_find?_eq_some hw
  have hp:=P9 hw
  simp only[decide_eq_true_eq]at hp
  show(Km o.addr f x).cell (w-(Km o.addr f x).addr)=_
  have e:=KO.pick (f:=f) (tt x hx)
  rw[e.addr]
  unfold Km
  by_cases c:x.addr=o.addr
  ·have h1:=x.size_pos
   have h2:=o.size_pos
   have hxo:=k.same hx ho (w:=o.addr) oM oM
   grind
  ·rw[if_neg c,if_neg]
   rintro rfl
   exact c (by rw[k.same hx ho (w:=o.addr+j) hp oM])
theorem GcU{s s':Hp}{w:Nat}{v:Int}(hn:s'.nw=s.nw)(hw:∀x,s'.word x=if x=w then v else s.word x):(List.range s'.nw).map (fun x=>CV.i (s'.word x))=((List.range s.nw).map (fun x=>CV.i (s.word x))).set w (.i v):=by
 refine List.ext_getElem? fun i=>?_
 grind
theorem Ob.Gas{o:Ob}{i:Nat}(h:i<o.refs.length)(v:Int)(m:Nat):({o with refs:=o.refs.set i v}:Ob).cell m=if m=2+i then v else o.cell m:=by
 unfold Ob.cell Ob.cells Ob.num
 grind
theorem Ob.Tv{o:Ob}{i:Nat}(h:i<o.data.length)(v:Int)(m:Nat):({o with data:=o.data.set i v}:Ob).cell m=if m=2+o.refs.length+i then v else o.cell m:=by
 unfold Ob.cell Ob.cells Ob.num
 grind
theorem PH.wrote{H H':Gb}{hb:Nat}{s s':Hp}{L:G6}(p:PH H hb s L)(h1:s'.blk=s.blk)(h2:s'.born=s.born)(h3:s'.fwd=s.fwd)(h4:s'.starts=s.starts)(h5:s'.pins=s.pins)
  (h6:∀k v:Int,(∃o∈s'.objs,k=o.id∧v=o.addr)↔∃o∈s.objs,k=o.id∧v=o.addr)(hw:H'[L.wb]?=some ⟨(List.range s'.nw).map (fun w=>CV.i (s'.word w)),.rw,1⟩) (hk:∀c∈L.all hb,c≠L.wb→H'[c]?=H[c]?):PH H' hb s' L:=by
 have nd:=p.nod
 simp only[G6.all,List.nodup_cons,List.mem_cons,List.not_mem_nil,or_false,not_or]at nd
 obtain⟨⟨n1,n2,n3,n4,n5,n6,n7,n8⟩,⟨n9,-⟩,⟨m1,m2,m3,m4,m5,m6⟩,-⟩:=nd
 have hn:s'.nw=s.nw:=by unfold Hp.nw;rw[h1]
 refine⟨?_,?_,hw,?_,?_,?_,?_,p.nod⟩
 ·rw[hk _ (by simp[G6.all]) n2,p.top,h1,h2,hn]
 ·rw[hk _ (by simp[G6.all]) n9,p.blk,h1]
 ·rw[h1,h4];exact p.sta.frame (hk _ (by simp[G6.all]) (Ne.symm m1)) (hk _ (by simp[G6.all]) (Ne.symm m2))
 ·rw[h1,h5];exact p.pin.frame (hk _ (by simp[G6.all]) (Ne.symm m3)) (hk _ (by simp[G6.all]) (Ne.symm m4))
 ·obtain⟨l,q1,q2,q3⟩:=p.Qh
  exact⟨l,by rw[hk _ (by simp[G6.all]) (Ne.symm m5),q1],q2,fun k v=>(q3 k v).trans (h6 k v).symm⟩
 ·rw[h3];exact p.fwd.frame (hk _ (by simp[G6.all]) (Ne.symm m6))
end Go.Cs
namespace Go.Cs
open Go
def Hp.setRef(s:Hp)(a i to:Int):Hp×Int:=match s.obj a with
 |some o=>if 0≤i∧i<(o.refs.length:Int)then(if to=0∨s.has to=true then(s.upd o.addr fun o=>{o with refs:=o.refs.set i.toNat to},0)else(s,1))else(s,1)
 |none=>(s,4)
def Hp.G_(s:Hp)(a i v:Int):Hp×Int:=match s.obj a with
 |some o=>if 0≤i∧i<(o.data.length:Int)then(s.upd o.addr fun o=>{o with data:=o.data.set i.toNat v},0)else(s,1)
 |none=>(s,4)
def Hp.JC(s:Hp)(a:Int)(x:Bool):Hp×Int:=match s.obj a with
 |some o=>(s.upd o.addr fun o=>{o with pin:=x},0)
 |none=>(s,4)
theorem Ui(i:Nat)(v:Int)(o:Ob):KO (fun o=>{o with refs:=o.refs.set i v}) o:=⟨rfl,rfl,rfl,sM,rfl⟩
theorem Yp(i:Nat)(v:Int)(o:Ob):KO (fun o=>{o with data:=o.data.set i v}) o:=⟨rfl,rfl,rfl,rfl,sM⟩
theorem TY(x:Bool)(o:Ob):KO (fun o=>{o with pin:=x}) o:=⟨rfl,rfl,rfl,rfl,rfl⟩
theorem Hp.WQ{s:Hp}{a:Nat}{f:Ob→Ob}(t:∀x∈s.objs,x.addr=a→KO f x)(h:∀x,(f x).pin=x.pin):(s.upd a f).pins=s.pins:=by
 funext i
 refine Dv fun x hx=>?_
 have e:=KO.pick (f:=f) (t x hx)
 show((Km a f x).addr==2*i&&(Km a f x).pin)=_
 rw[e.addr]
 unfold Km
 split
 ·rw[h]
 ·rfl
theorem Hp.Ok.setRef{s:Hp}(k:s.Ok)(a i to:Int):(s.setRef a i to).1.Ok:=by
 unfold Hp.setRef
 cases s.obj a with
 |none=>exact k
 |some o=>
  dsimp only
  split
  ·split
   ·exact k.upd fun x _ _=>Ui _ _ x
   ·exact k
  ·exact k
theorem Hp.Ok.G_{s:Hp}(k:s.Ok)(a i v:Int):(s.G_ a i v).1.Ok:=by
 unfold Hp.G_
 cases s.obj a with
 |none=>exact k
 |some o=>
  dsimp only
  split
  ·exact k.upd fun x _ _=>Yp _ _ x
  ·exact k
theorem Hp.Ok.JC{s:Hp}(k:s.Ok)(a:Int)(x:Bool):(s.JC a x).1.Ok:=by
 unfold Hp.JC
 cases s.obj a with
 |none=>exact k
 |some o=>exact k.upd fun y _ _=>TY _ y
def Did(H:Gb)(hb:Nat)(L:G6)(s':Hp)(v:CV)(r:Option (CV×Gb)):Prop:=∃H',r=some (v,H')∧Keeps H H' (·∈L.all hb)∧PH H' hb s' L
end Go.Cs
namespace Go.Cs.Tryz
open Go Go.Cs
section
variable {H : Gb} {hb : Nat} {s : Hp} {L : G6}
theorem KZ(p:PH H hb s L)(k:s.Ok)(a i to:Int)(ha:a≤9223372036854775807)(hto:to≤9223372036854775807):Did H hb L (s.setRef a i to).1 (.i (s.setRef a i to).2) (run P 122 [.ptr hb 0,.i a,.i i,.i to] H):=by
 obtain⟨H',h1,g⟩:=Zp p k a i false ha
 have p':=p.gr g
 have hh:=KP p' k to hto
 have kg:Keeps H H' (·∈L.all hb):=g.weaken fun _ h=>h.elim
 unfold Hp.fieldAt Q9 at h1
 unfold Hp.setRef
 rw[Gi Gqe _ _ sM]
 cases e:s.obj a with
 |none=>
  rw[e]at h1
  refine⟨H',?_,kg,p'⟩
  exact W0
 |some o=>
  rw[e]at h1
  dsimp only at h1⊢
  obtain⟨ho,rfl⟩:=Hp.GV e
  have hif:(if false=true then o.data.length else o.refs.length)=o.refs.length:=rfl
  have Gbt:(if false=true then o.refs.length else 0)=0:=rfl
  rw[hif,Gbt]at h1
  by_cases c:0≤i∧i<(o.refs.length:Int)
  rotate_left
  ·rw[if_neg c]at h1⊢
   refine⟨H',?_,kg,p'⟩
   exact W0
  rw[if_pos c]at h1⊢
  obtain⟨n,rfl⟩:∃n:Nat,i=n:=⟨i.toNat,oM⟩
  have hsz:2+n<o.size:=by unfold Ob.size Gt;omega
  obtain⟨q1,q2,q3⟩:=Ut p' k ho (j:=2+n) hsz
  have pt:=p'.top
  have pw:=p'.wrd
  have e2:(o.addr:Int)+2+((0:Nat):Int)+(n:Int)=((o.addr+(2+n):Nat):Int):=by omega
  rw[e2]at h1
  have hlen:o.addr+(2+n)<((List.range s.nw).map (fun w=>CV.i (s.word w))).length:=by simp;omega
  have fin:Did H hb L (s.upd o.addr fun o=>{o with refs:=o.refs.set n to}) (.i 0) (some (.i 0,H'.set L.wb ⟨((List.range s.nw).map (fun w=>CV.i (s.word w))).set (o.addr+(2+n)) (.i to),.rw,1⟩)):=by
   have tt:∀x∈s.objs,x.addr=o.addr→KO (fun o=>{o with refs:=o.refs.set n to}) x:=fun x _ _=>Ui _ _ x
   refine⟨_,rfl,kg.set (.inl (by simp[G6.all])) _,p'.wrote rfl rfl rfl (Hp.Dc tt) (Hp.WQ tt fun _=>rfl) (Hp.TM tt) ?_ fun c _ hc=>by rw[NA (Ne.symm hc)]⟩
   have hn':n<o.refs.length:=by omega
   rw[GcU (s':=s.upd o.addr fun o=>{o with refs:=o.refs.set n to}) (s:=s) (w:=o.addr+(2+n)) (v:=to) rfl fun w=>k.WT ho (Ui n to o) hsz (fun m _=>Ob.Gas hn' to m) w]
   grind
  rw[K_]
  by_cases c0:to=0
  ·subst c0
   rw[if_pos (.inl rfl)]
   obtain⟨H2,r1,r2,r3⟩:=fin
   refine⟨H2,?_,r2,r3⟩
   rw[←r1]
   exact EI
  ·have c0':(to != 0)=true:=by simpa using c0
   cases ch:s.has to with
   |true=>
    rw[ch]at hh
    rw[if_pos (.inr rfl)]
    obtain⟨H2,r1,r2,r3⟩:=fin
    refine⟨H2,?_,r2,r3⟩
    rw[←r1]
    exact EI
   |false=>
    rw[ch]at hh
    rw[if_neg (by rintro (h|h);exact c0 h;cases h)]
    refine⟨H',?_,kg,p'⟩
    exact W0
theorem YR(p:PH H hb s L)(k:s.Ok)(a i v:Int)(ha:a≤9223372036854775807):Did H hb L (s.G_ a i v).1 (.i (s.G_ a i v).2) (run P 91 [.ptr hb 0,.i a,.i i,.i v] H):=by
 obtain⟨H',h1,g⟩:=Zp p k a i true ha
 have p':=p.gr g
 have kg:Keeps H H' (·∈L.all hb):=g.weaken fun _ h=>h.elim
 unfold Hp.fieldAt Q9 at h1
 unfold Hp.G_
 rw[Gi c91 _ _ sM]
 cases e:s.obj a with
 |none=>
  rw[e]at h1
  refine⟨H',?_,kg,p'⟩
  exact W0
 |some o=>
  rw[e]at h1
  dsimp only at h1⊢
  obtain⟨ho,rfl⟩:=Hp.GV e
  have hif:(if true=true then o.data.length else o.refs.length)=o.data.length:=rfl
  have Gbt:(if true=true then o.refs.length else 0)=o.refs.length:=rfl
  rw[hif,Gbt]at h1
  by_cases c:0≤i∧i<(o.data.length:Int)
  rotate_left
  ·rw[if_neg c]at h1⊢
   refine⟨H',?_,kg,p'⟩
   exact W0
  rw[if_pos c]at h1⊢
  obtain⟨n,rfl⟩:∃n:Nat,i=n:=⟨i.toNat,oM⟩
  have hsz:2+o.refs.length+n<o.size:=by unfold Ob.size Gt;omega
  obtain⟨q1,q2,q3⟩:=Ut p' k ho (j:=2+o.refs.length+n) hsz
  have pt:=p'.top
  have pw:=p'.wrd
  have e2:(o.addr:Int)+2+(o.refs.length:Int)+(n:Int)=((o.addr+(2+o.refs.length+n):Nat):Int):=by omega
  rw[e2]at h1
  have hlen:o.addr+(2+o.refs.length+n)<((List.range s.nw).map (fun w=>CV.i (s.word w))).length:=by simp;omega
  rw[K_]
  have tt:∀x∈s.objs,x.addr=o.addr→KO (fun o=>{o with data:=o.data.set n v}) x:=fun x _ _=>Yp _ _ x
  have hn':n<o.data.length:=by omega
  refine⟨H'.set L.wb ⟨((List.range s.nw).map (fun w=>CV.i (s.word w))).set (o.addr+(2+o.refs.length+n)) (.i v),.rw,1⟩,?_,kg.set (.inl (by simp[G6.all])) _,p'.wrote rfl rfl rfl (Hp.Dc tt) (Hp.WQ tt fun _=>rfl) (Hp.TM tt) ?_ fun c _ hc=>by rw[NA (Ne.symm hc)]⟩
  ·exact EI
  ·rw[GcU (s':=s.upd o.addr fun o=>{o with data:=o.data.set n v}) (s:=s) (w:=o.addr+(2+o.refs.length+n)) (v:=v) rfl fun w=>k.WT ho (Yp n v o) hsz (fun m _=>Ob.Tv hn' v m) w]
   grind
theorem GhW(p:PH H hb s L)(k:s.Ok)(a:Int)(x:Bool)(ha:a≤9223372036854775807):Did H hb L (s.JC a x).1 (.i (s.JC a x).2) (run P 162 [.ptr hb 0,.i a,.i (EL x)] H):=by
 have h1:=Ux p k a ha
 unfold Hp.JC
 rw[Gi c162 _ _ sM]
 cases e:s.obj a with
 |none=>
  rw[Hp.KS.2 e]at h1
  refine⟨H,?_,Keeps.refl _ _,p⟩
  exact W0
 |some o=>
  rw[Hp.J2.2 ⟨o,e⟩]at h1
  dsimp only
  obtain⟨ho,rfl⟩:=Hp.GV e
  have pt:=p.top
  have hf:=(k.ob o ho).fits
  have he:=(k.ob o ho).even
  have hz:=o.size_pos
  have hn:=k.nb
  unfold Hp.nw at hf
  have hd:(o.addr:Int).tdiv 2=((o.addr/2:Nat):Int):=Nu o.addr 2
  have hw:IntKind.i64.wrap ((o.addr/2:Nat):Int)=((o.addr/2:Nat):Int):=Gh oM
  obtain⟨H',q1,q2,q3⟩:=DC p.pin (i:=o.addr/2) oM x
  have nd:=p.nod
  simp only[G6.all,List.nodup_cons,List.mem_cons,List.not_mem_nil,or_false,not_or]at nd
  have tt:∀y∈s.objs,y.addr=o.addr→KO (fun o=>{o with pin:=x}) y:=fun y _ _=>TY _ y
  have hk:∀c∈L.all hb,c≠L.pw→H'[c]?=H[c]?:=fun c hc hne=>q2.keep c (p.lt c hc) hne
  have hwd:(s.upd o.addr fun o=>{o with pin:=x}).word=s.word:=by
   funext w
   unfold Hp.word
   rw[Hp.RQ tt]
   cases s.owner w with
   |none=>rfl
   |some y=>
    show(Km o.addr _ y).cell (w-(Km o.addr _ y).addr)=_
    unfold Km
    split<;>rfl
  have GnY:(s.upd o.addr fun o=>{o with pin:=x}).pins=fun i=>if i=o.addr/2 then x else s.pins i:=by
   funext i
   rw[Bool.eq_iff_iff]
   simp only[Hp.pins,Hp.upd,List.any_map,List.any_eq_true,Function.comp_apply,Qj,beq_iff_eq]
   grind
  refine⟨H',?_,q2.weaken fun c hc=>by rw[hc];simp[G6.all],?_⟩
  ·exact EI
  ·obtain⟨⟨n1,n2,n3,n4,n5,n6,n7,n8⟩,⟨a1,a2,a3,a4,a5,a6,a7⟩,⟨m1,m2,m3,m4,m5,m6⟩,⟨r1,r2,r3,r4,r5⟩,⟨t1,t2,t3,t4⟩,⟨u1,u2,u3⟩,⟨v1,v2⟩,-⟩:=nd
   refine⟨?_,?_,?_,?_,?_,?_,?_,p.nod⟩
   ·exact(hk _ (by simp[G6.all]) n6).trans p.top
   ·exact(hk _ (by simp[G6.all]) a5).trans p.blk
   ·rw[hwd];exact(hk _ (by simp[G6.all]) m4).trans p.wrd
   ·rw[Hp.Dc tt];exact p.sta.frame (hk _ (by simp[G6.all]) r3) (hk _ (by simp[G6.all]) t2)
   ·rw[GnY];exact q3
   ·obtain⟨l,w1,w2,w3⟩:=p.Qh
    exact⟨l,(hk _ (by simp[G6.all]) (Ne.symm v1)).trans w1,w2,fun k v=>(w3 k v).trans (Hp.TM tt k v).symm⟩
   ·exact p.fwd.frame (hk _ (by simp[G6.all]) (Ne.symm v2))
theorem Ghb(p:PH H hb s L)(k:s.Ok)(a:Int)(ha:a≤9223372036854775807):Did H hb L (s.JC a true).1 (.i (s.JC a true).2) (run P 66 [.ptr hb 0,.i a] H):=by
 obtain⟨H',h1,h2,h3⟩:=GhW p k a true ha
 have h1':run P 162 [.ptr hb 0,.i a,.i 1] H=some (.i (s.JC a true).2,H'):=h1
 refine⟨H',?_,h2,h3⟩
 rw[Gi c66 _ _ sM]
 exact W0
end
end Go.Cs.Tryz
namespace Go.Cs
open Go
section
variable {F : Jl} {E : Env} {H : Gb}
theorem GdB:G8 .Vp E H=some (some ⟨[],.map,0⟩,fun k=>.GI k):=rfl
theorem Dr:Ky F .Vp E H=some (.GI H.length,H++[⟨[],.map,0⟩]):=rfl
def UE(k:IntKind)(m x v:CV)(H:Gb):Option (CV×Gb):=(QB H k m x v).map fun H'=>(.undef,H')
def VQ(k:IntKind)(m x:CV)(H:Gb):Option (CV×Gb):=(Qk H k m x).map fun H'=>(.Jk [],H')
def Uv(ok:Bool)(k:IntKind)(z m x:CV)(H:Gb):Option (CV×Gb):=(NR H ok k z m x).map fun v=>(v,H)
theorem Ue{k:IntKind}{m x v:J8}:Ky F (.Uj k m x v) E H=UE k (E.ev m) (E.ev x) (E.ev v) H:=rfl
theorem MU{k:IntKind}{m x:J8}:Ky F (.Yf k m x) E H=VQ k (E.ev m) (E.ev x) H:=rfl
theorem Jz{ok:Bool}{k:IntKind}{z:CV}{m x:J8}:Ky F (.Qg ok k z m x) E H=Uv ok k z (E.ev m) (E.ev x) H:=by
 simp only[Ky,VF,G8,Uv]
 cases NR H ok k z (E.ev m) (E.ev x)<;>rfl
end
theorem AO{α β:Type}(f:α→β):∀(l:List α)(j:Nat),(l.map f).eraseIdx j=(l.eraseIdx j).map f
 |[],j=>by simp
 |x::l,0=>rfl
 |x::l,j+1=>by simp only[List.map_cons,List.eraseIdx_cons_succ,AO f l j]
theorem UN(l:List (Int×Int)):QJ (Kw l)=Kw l∧Yo (Kw l)=false:=by
 match l with
 |[]=>exact⟨rfl,rfl⟩
 |[x]=>exact⟨rfl,rfl⟩
 |x::y::r=>exact⟨rfl,rfl⟩
theorem VP{n:Int}:∀{l:List (Int×Int)}{i:Nat},(∀v,(n,v)∉l)→U6 .i64 n (Kw l) i=some none
 |[],i,_=>rfl
 |(k,w)::l,i,h=>by
  have hk:(n==k)=false:=by
   grind
  show(if IntKind.i64=IntKind.i64 then(if(n==k)=true then some (some (i,CV.i w))else U6 .i64 n (Kw l) (i+1))else none)=_
  rw[if_pos rfl,hk]
  exact VP fun v hv=>h v (U5 _ hv)
theorem Aw{n:Int}:∀{l:List (Int×Int)}{i:Nat}{v:Int},(l.map (·.1)).Nodup→(n,v)∈l→∃j,l[j]?=some (n,v)∧U6 .i64 n (Kw l) i=some (some (i+j,.i v))
 |(k,w)::l,i,v,hn,h=>by
  rw[List.map_cons,List.nodup_cons]at hn
  show∃j,_∧(if IntKind.i64=IntKind.i64 then(if(n==k)=true then some (some (i,CV.i w))else U6 .i64 n (Kw l) (i+1))else none)=_
  rw[if_pos rfl]
  by_cases hk:n=k
  ·simp_all
  ·have hk':(n==k)=false:=by simpa using hk
   rw[hk']
   have h':(n,v)∈l:=by
    grind
   obtain⟨j,q1,q2⟩:=Aw (i:=i+1) hn.2 h'
   refine⟨j+1,q1,?_⟩
   grind
section
variable {H : Gb} {b : Nat} {r : Int → Int → Prop}
theorem QY.entries(m:QY H b r):∃l,H[b]?=some ⟨Kw l,.map,0⟩∧entriesOf H (.GI b)=some (Kw l)∧(l.map (·.1)).Nodup∧∀k v,(k,v)∈l↔r k v:=by
 obtain⟨l,h1,h2,h3⟩:=m
 refine⟨l,h1,?_,h2,h3⟩
 unfold entriesOf
 dsimp only
 rw[h1]
 dsimp only
 rw[if_pos ⟨rfl,rfl⟩,(UN l).1]
theorem QY.add(m:QY H b r){n v:Int}(hn:∀w,¬r n w):∃H',(∀H0,H0=H→UE .i64 (.GI b) (.i n) (.i v) H0=some (.undef,H'))∧Keeps H H' (·=b)∧QY H' b fun k w=>r k w∨(k=n∧w=v):=by
 obtain⟨l,h1,h0,h2,h3⟩:=m.entries
 have hf:=VP (n:=n) (l:=l) (i:=0) fun w hw=>hn w ((h3 n w).1 hw)
 refine⟨H.set b ⟨Kw (l++[(n,v)]),.map,0⟩,?_,Keeps.set (w:=fun c=>c=b) (Keeps.refl H _) (.inl rfl) _,l++[(n,v)],by grind,?_,fun k w=>?_⟩
 ·rintro _ rfl
  unfold UE QB
  dsimp only
  rw[if_pos ⟨rfl,rfl⟩,h0,Option.bind_some,hf,Option.bind_some]
  dsimp only
  unfold Jy
  rw[h1]
  dsimp only
  rw[if_pos ⟨rfl,rfl,(UN l).2⟩]
  simp[Kw]
 ·grind
 grind
theorem QY.get(m:QY H b r)(ok:Bool)(z:CV){n v:Int}(hv:r n v):Uv ok .i64 z (.GI b) (.i n) H=some (if ok then .Jk [.i v,.bool true]else .i v,H):=by
 obtain⟨l,h1,h0,h2,h3⟩:=m.entries
 obtain⟨j,q1,q2⟩:=Aw (i:=0) h2 ((h3 n v).2 hv)
 unfold Uv NR
 grind
theorem QY.miss(m:QY H b r)(ok:Bool)(z:CV){n:Int}(hv:∀w,¬r n w):Uv ok .i64 z (.GI b) (.i n) H=some (if ok then .Jk [z,.bool false]else z,H):=by
 obtain⟨l,h1,h0,h2,h3⟩:=m.entries
 have hf:=VP (n:=n) (l:=l) (i:=0) fun w hw=>hv w ((h3 n w).1 hw)
 unfold Uv NR
 grind
theorem QY.del(m:QY H b r)(n:Int):∃H',(∀H0,H0=H→VQ .i64 (.GI b) (.i n) H0=some (.Jk [],H'))∧Keeps H H' (·=b)∧QY H' b fun k w=>r k w∧k≠n:=by
 obtain⟨l,h1,h0,h2,h3⟩:=m.entries
 by_cases c:∃v,(n,v)∈l
 ·obtain⟨v,hv⟩:=c
  obtain⟨j,q1,q2⟩:=Aw (i:=0) h2 hv
  rw[Nat.zero_add]at q2
  refine⟨H.set b ⟨Kw (l.eraseIdx j),.map,0⟩,?_,Keeps.set (w:=fun c=>c=b) (Keeps.refl H _) (.inl rfl) _,l.eraseIdx j,by grind,?_,fun k w=>?_⟩
  ·rintro _ rfl
   unfold VQ Qk
   dsimp only
   rw[if_pos rfl,h0,Option.bind_some,q2,Option.bind_some]
   dsimp only
   unfold Jy
   rw[h1]
   dsimp only
   rw[if_pos ⟨rfl,rfl,(UN l).2⟩]
   simp[Kw,AO]
  ·grind
  ·have hj:=Gf q1
   rw[List.mem_eraseIdx_iff_getElem?]
   constructor
   ·rintro ⟨i,hi,e⟩
    refine⟨(h3 k w).1 (JV e),?_⟩
    rintro rfl
    have e1:(l.map (·.1))[i]?=some k:=by rw[K4,e];rfl
    have e2:(l.map (·.1))[j]?=some k:=by rw[K4,q1];rfl
    exact hi ((List.getElem?_inj (by simpa using Gf e) h2).1 (e1.trans e2.symm))
   ·rintro ⟨h4,h5⟩
    obtain⟨i,hi⟩:=List.mem_iff_getElem?.1 ((h3 k w).2 h4)
    grind
 ·have hno:∀v,(n,v)∉l:=fun v hv=>c ⟨v,hv⟩
  have hf:=VP (n:=n) (l:=l) (i:=0) hno
  refine⟨H.set b ⟨Kw l,.map,0⟩,?_,Keeps.set (w:=fun c=>c=b) (Keeps.refl H _) (.inl rfl) _,l,by grind,h2,fun k w=>?_⟩
  ·rintro _ rfl
   unfold VQ Qk
   dsimp only
   rw[if_pos rfl,h0,Option.bind_some,hf,Option.bind_some]
   dsimp only
   unfold Jy
   rw[h1]
   dsimp only
   rw[if_pos ⟨rfl,rfl,(UN l).2⟩]
   rfl
  grind
end
end Go.Cs
