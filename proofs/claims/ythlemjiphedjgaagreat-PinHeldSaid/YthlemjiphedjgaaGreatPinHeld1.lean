/- A part of the proof: PinHeld returns true for every input: Mostly moves and frees no object that is held, moves none that is pinned, and leaves what is kept as it is, but for addresses (P18.1, P18.4) Conditions: none. -/
import Derived.Test.YthlemjiphedjgaaGreatPinHeld0
import Derived.Maps.RangeRun
import Derived.Sort.Grow
import Derived.Carry
import Derived.OpenShut
import Derived.Deep.Slices
import Derived.Test.YthlemjiphedjgaaGreatProg
import Derived.KernelRfl
set_option linter.unusedVariables false
set_option linter.unusedSimpArgs false
set_option linter.defProp false
set_option maxRecDepth 100000
namespace Go.Cs
open Go Go.RowKit
def XR:CX→Exit→Prop
 |.normal,x=>x=.normal
 |.exit id,x=>x=.exit id
 |.ret,x=>x=.ret
def Marks(K:Nat→Option Obj)(B:Bs)(K':Nat→Option Obj)(D:List Deferred):Prop:=
 ∃rs:List Nat,D=rs.map (fun r=>{target:=.collected r,args:=#[]})∧rs.Nodup∧∀r∈rs,K' r=some (.deferred (some []))∧K r=none∧B.heap.size≤r
def IC(K K':Nat→Option Obj):Prop:=∀c o,K c=some o→K' c=some o
def CQ(top:Bool)(D0:List Deferred)(K0:Nat→Option Obj)(B:Bs)(L N:Nat)(H:Gb)(ν:Mu)(r:CX×Env×Gb):Exit→Act→World→Prop:=
 fun x a w=>∃ν' K D,XR r.1 x∧St K B L ν' r.2.2 w∧ER D ν' N r.2.1 a∧Ext L H ν r.2.2 ν'∧IC K0 K∧Marks K0 B K D∧(top=false→D=D0)
section
variable {P : Program} {F : GQ} {K K0 : Nat → Option Obj} {B : Bs} {L N : Nat} {rd : Option Nat} {dp : Nat} {D D0 : List Deferred} {top : Bool}
theorem CQ.later{H H1:Gb}{ν ν1:Mu}{r:CX×Env×Gb}(h:Ext L H ν H1 ν1){x:Exit}{a:Act}{w:World}(hq:CQ top D0 K B L N H1 ν1 r x a w):CQ top D0 K B L N H ν r x a w:=by
 obtain⟨ν',K',D,h1,h2,h3,h4,h5⟩:=hq
 exact⟨ν',K',D,h1,h2,h3,h.trans h4,h5⟩
theorem Gcv(hF:D5 P F)(hBr:Wh P B)(Vy:Y9 F)(hK:IC K0 K)(hM:Marks K0 B K D)(hD:top=false→D=D0){ops:Array Oper}:∀(l:List Nat)(ss:List GH),ss.length=l.length→(∀(q:Nat)(i:Nat)(s:GH),l[q]?=some i→ss[q]?=some s→∃o,ops[i]?=some o∧Nr P N ops o=some s)→
  ∀(E:Env)(H:Gb)(ν:Mu)(a:Act)(w:World)(r:Env×Gb),JW F ss E H=some r→r.2.length≤L→St K B L ν H w→ER D ν N E a→
  wpOpsIn (Fr rd) dp P ops (CQ top D0 K0 B L N H ν (.normal,r.1,r.2)) l a w
 |[],[],_,_,E,H,ν,a,w,r,he,_,hS,hR=>by
  simp only[JW,GA]at he
  subst he
  exact⟨ν,K,D,rfl,hS,hR,Ext.refl _ _ _,hK,hM,hD⟩
 |i::l,s::ss,hl,hs,E,H,ν,a,w,r,he,hL,hS,hR=>by
  obtain⟨o,ho,hc⟩:=hs 0 i s rfl rfl
  have ih:=Gcv hF hBr Vy hK hM hD (ops:=ops) l ss (by simpa using hl) (fun q j t h1 h2=>hs (q+1) j t (by simpa using h1) (by simpa using h2))
  simp only[JW,Jk]at he
  obtain⟨⟨E1,H1⟩,he1,he2⟩:=he
  obtain⟨g,op,hg,hop,hd,rfl⟩:=QJ hc
  rw[wpOpsIn_cons]
  unfold wpOpIn
  simp only[ho]
  rw[Ll hg hR]
  unfold Qs at he1
  dsimp only at he1
  split at he1
  ·rename_i hw
   rw[if_pos hw]
   rw[GD]at he1
   obtain⟨v,hv,he1⟩:=he1
   simp only[Prod.mk.injEq]at he1
   obtain⟨rfl,rfl⟩:=he1
   refine GbG hF hBr hS hop (fun t _=>hR.val t) hv (J2 (Aw Vy he2) hL) _ _ fun v' w' ν' hS' hV' hx'=>?_
   have hm:=hx'.mono hS
   refine OE ?_ _ _ _ (ih _ _ ν' _ w' r he2 hL hS' ((hR.mono hm).put hd hV'))
   exact fun x a w hq=>CQ.later hx' hq
  ·rename_i hw
   rw[if_neg hw]
   simp only[GA,Prod.mk.injEq]at he1
   obtain⟨rfl,rfl⟩:=he1
   exact⟨fun _ _=>trivial,ih _ _ ν _ w r he2 hL hS (hR.put hd (by simp[V,VL,undef]))⟩
 |[],_::_,hl,_,_,_,_,_,_,_,_,_,_,_=>by simp at hl
 |_::_,[],hl,_,_,_,_,_,_,_,_,_,_,_=>by simp at hl
theorem GbI(hF:D5 P F)(hBr:Wh P B)(Vy:Y9 F)(hK:IC K0 K)(hM:Marks K0 B K D)(hD:top=false→D=D0){id:Nat}{ops:Array Oper}{ss:List GH}(hc:Jt (ops.toList.map (Nr P N ops))=some ss){E:Env}{H:Gb}{ν:Mu}{a:Act}{w:World}{r:Env×Gb}(he:JW F ss E H=some r)(hL:r.2.length≤L)
  (hS:St K B L ν H w)(hR:ER D ν N E a):(Code.region id ops false).wpIn (Fr rd) dp P (CQ top D0 K0 B L N H ν (.normal,r.1,r.2)) a w:=by
 refine wpIn_region (Gcv hF hBr Vy hK hM hD (List.range ops.size) ss (by simp[Kw hc]) (fun q i s h1 h2=>?_) E H ν a w r he hL hS hR)
 have hx:=KX hc h2
 grind
theorem least{p:Nat→Prop}(h:∃n,p n):∃n,p n∧∀m,p m→n≤m:=by
 obtain⟨n,hn⟩:=h
 induction n using Nat.strongRecOn with
 |_ n ih=>
  grind
def Hu(P:Program)(f N:Nat)(c:Code)(k:Nat):Prop:=∀i x,(roundsIn c)[i]?=some x→k+i<16→∃fn,VN P ((f*16+(k+i))*2)=some (f,fn,x)∧fn.ntmps=N
theorem Hu.left{f:Nat}{c x y:Code}{k:Nat}(h:Hu P f N c k)(e:roundsIn c=roundsIn x++roundsIn y):Hu P f N x k:=fun i q hi hk=>
 h i q (by grind) hk
theorem Hu.right{f:Nat}{c x y:Code}{k:Nat}(h:Hu P f N c k)(e:roundsIn c=roundsIn x++roundsIn y):Hu P f N y (k+(roundsIn x).length):=fun i q hi hk=>by
 have:=h ((roundsIn x).length+i) q (by grind) oM
 grind
theorem IC.refl(K:Nat→Option Obj):IC K K:=fun _ _ h=>h
theorem IC.trans{K1 K2 K3:Nat→Option Obj}(h:IC K1 K2)(k:IC K2 K3):IC K1 K3:=fun c o e=>k c o (h c o e)
theorem IC.none{K1 K2:Nat→Option Obj}(h:IC K1 K2){c:Nat}(e:K2 c=none):K1 c=none:=by
 cases hk:K1 c with
 |none=>rfl
 |some o=>rw[h c o hk]at e;cases e
theorem JZ.less{μ:Mu}{H:Gb}{w:World}(h:JZ K B μ H w)(hk:IC K0 K):JZ K0 B μ H w:=
 ⟨h.base,fun c o e=>h.kept c o (hk c o e),fun b blk m h1 h2 h3 h4=>by
  obtain⟨arr,T,fz,e1,e2,e3,e4⟩:=h.blk b blk m h1 h2 h3 h4
  exact⟨arr,T,fz,e1,e2,fun e=>by obtain⟨c1,c2,c3,c4,c5,c6⟩:=e3 e;exact⟨c1,c2,c3,c4,c5,hk.none c6⟩,e4⟩,
  h.inj,fun b blk m h1 h2 h3=>by obtain⟨ob,e1,e2,e3,e4⟩:=h.mp b blk m h1 h2 h3;exact⟨ob,e1,e2,e3,hk.none e4⟩⟩
theorem St.enter{ν:Mu}{H:Gb}{w:World}(hS:St K B L ν H w)(hL:H.length<L){k:JE}(hk:k.mode=.map){r:Loop}(hr:∀ν',(∀b m,ν b=some m→ν' b=some m)→Ea B ν' k r):
  ∃ν',St (fun c=>if c=w.heap.size then some (.deferred (some []))else K c) B L ν' (H++[k]) ((w.alloc (.deferred (some []))).alloc (.loop r))∧Ext L H ν (H++[k]) ν'∧ν' H.length=some ⟨w.heap.size+1,0,k.GN,0⟩:=by
 have h1:=hS.Nw.alloc (.deferred (some []))
 have hsz:(w.alloc (.deferred (some []))).heap.size=w.heap.size+1:=World.size_alloc _ _
 have hmono:∀b m,ν b=some m→(ν.set H.length ⟨w.heap.size+1,0,k.GN,0⟩) b=some m:=by
  intro b m hm
  have hb:b≠H.length:=fun e=>by rw[e,hS.dom _ (Nat.le_refl _) hL]at hm;cases hm
  rw[Mu.Jz _ _ hb];exact hm
 have h2:=h1.congr (ν:=ν.set H.length ⟨w.heap.size+1,0,k.GN,0⟩) (fun b hb=>Mu.Jz _ _ oM) hmono
 have h3:=h2.newObj (e:=k.GN) (z:=0) (by rw[hsz];exact Mu.set_self _ _ _) (by
  rw[hsz,if_neg oM]
  cases hk:K (w.heap.size+1)with
  |none=>rfl
  |some o=>have:=(Vo.1 (hS.Nw.kept _ _ hk)).1;omega) hk (x:=.loop r) (.inr ⟨r,rfl,hr _ hmono⟩)
 exact⟨_,⟨h3,fun b hb hl=>by simp at hb;rw[Mu.Jz _ _ oM];exact hS.dom b oM hl⟩,⟨sM,fun b hb=>Mu.Jz _ _ oM,fun b hb=>Mu.Jz _ _ oM⟩,Mu.set_self _ _ _⟩
theorem JZ.shut{μ:Mu}{H:Gb}{w:World}(h:JZ K B μ H w){b:Nat}{k:JE}{m:Z6}(hb:H[b]?=some k) (hk:k.mode=.map) (hm:μ b=some m) (x:Obj):JZ K B μ (H.set b ⟨[],.dead,0⟩) (w.putObj m.c x):=by
 obtain⟨ob,hw,Yi,hB,hK⟩:=h.mp b k m hb hk hm
 have hlt:=(Vo.1 hw).1
 have Si:∀{c:Nat},c≠m.c→(w.heap.setIfInBounds m.c x)[c]?=w.heap[c]?:=fun hc=>by simp[Ne.symm hc]
 have get:∀{b':Nat}{k':JE},(H.set b ⟨[],.dead,0⟩)[b']?=some k'→k'.mode≠.dead→b'≠b∧H[b']?=some k':=by
  grind
 refine⟨h.base.trans ⟨rfl,rfl,rfl,by simp[World.putObj],fun q hq=>Si oM⟩,fun c o hc=>?_,fun b' k' m' hb' hd hd' hm'=>?_,fun b1 b2 k1 k2 m1 m2 h1 h2 r1 r2 hne e1 e2=>?_,fun b' k' m' hb' hd hm'=>?_⟩
 ·have hne:c≠m.c:=fun e=>by rw[e,hK]at hc;cases hc
  exact(Si hne).trans (h.kept c o hc)
 ·obtain⟨hbb,hb'⟩:=get hb' hd
  obtain⟨arr,T,fz,e1,e2⟩:=h.blk b' k' m' hb' hd hd' hm'
  exact⟨arr,T,fz,(Si (Ne.symm (h.inj b b' k k' m m' hb hb' (.inr hk) hd (Ne.symm hbb) hm hm'))).trans e1,e2⟩
 ·obtain⟨g1,h1⟩:=get h1 (by grind)
  obtain⟨g2,h2⟩:=get h2 r2
  exact h.inj b1 b2 k1 k2 m1 m2 h1 h2 r1 r2 hne e1 e2
 ·obtain⟨hbb,hb'⟩:=get hb' (by rw[hd];decide)
  obtain⟨ob',e1,e2⟩:=h.mp b' k' m' hb' hd hm'
  exact⟨ob',(Si (Ne.symm (h.inj b b' k k' m m' hb hb' (.inr hk) (by rw[hd];decide) (Ne.symm hbb) hm hm'))).trans e1,e2⟩
theorem StR.leaves{s:Int}{r:Loop}(h:StR s r)(h1:s≠1):r.state≠.busy∧((s=0∧r.pending=none)∨(s=2∧r.pending=some .ret)∨∃id:Nat,s=id+3∧r.pending=some (.exit id)):=by
 rcases h with⟨e,h2,h3⟩|e|⟨e,h2,h3⟩|⟨id,e,h2,h3⟩
 ·grind
 ·exact absurd e h1
 ·grind
 grind
theorem ZO(hm:P.follows .mixedOrders=true)(hBr:Wh P B){f:Nat}{top:Bool}(htop:top=true→rd=none){D0:List Deferred}:∀(n:Nat),(∀k,k<n→D5 P (Kk (K7 P) k))→∀(c:Code)(k:Nat)(cc:Gn)(E:Env)(H:Gb)(r:CX×Env×Gb),Jv P f N top k c=some cc→(top=true→Hu P f N c k)→ev (K7 P) n cc E H=some r→r.2.2.length≤L→
  ∀(K:Nat→Option Obj)(D:List Deferred)(ν:Mu)(a:Act)(w:World),IC K0 K→Marks K0 B K D→(top=false→D=D0)→St K B L ν H w→ER D ν N E a→c.wpIn (Fr rd) dp P (fun x a w=>∃ν' K' D',XR r.1 x∧St K' B L ν' r.2.2 w∧ER D' ν' N r.2.1 a∧Ext L H ν r.2.2 ν'∧IC K0 K'∧Marks K0 B K' D'∧(top=false→D'=D0)) a w
 |0,_,_,_,_,_,_,_,_,_,he,_,_,_,_,_,_,_,_,_,_,_=>by cases he
 |n+1,hF,c,k,cc,E,H,r,hc,hrn,he,hL,K,D,ν,a,w,hK,hM,hD,hS,hR=>by
  have ih:=ZO hm hBr (f:=f) htop (D0:=D0) n (fun k hk=>hF k oM)
  have hFn:=hF n oM
  rw[Kh]at he
  cases c with
  |skip=>
   simp only[Jv,GA]at hc;subst hc
   simp only[GA]at he;subst he
   exact wpIn_skip ⟨ν,K,D,rfl,hS,hR,Ext.refl _ _ _,hK,hM,hD⟩
  |region id ops draw=>
   simp only[Jv,Jk]at hc
   obtain⟨ss,hss,hc⟩:=hc
   cases draw with
   |false=>
    simp only[Bool.false_eq_true,if_false,GA]at hc;subst hc
    rw[GD]at he
    obtain⟨q,hq,rfl⟩:=he
    exact wpIn_mono (GbI hFn hBr (Yv _ n) hK hM (fun h=>hD h) hss hq hL hS hR) fun x a w h=>h
   |true=>
    simp only[if_true]at hc
    obtain⟨hok,hc⟩:=GI hc
    simp only[GA]at hc;subst hc
    rw[GD]at he
    obtain⟨q,hq,rfl⟩:=he
    refine wpIn_mono (Ws hm hFn hBr (Yv _ n) hss ⟨_,rfl⟩ hok hq hL hS hR) fun x a w hq=>?_
    obtain⟨ν',rfl,h1,h2,h3⟩:=hq
    exact⟨ν',K,D,rfl,h1,h2,h3,hK,hM,hD⟩
  |seq x y=>
   simp only[Jv,Jk,GD]at hc
   obtain⟨x',hx,y',hy,rfl⟩:=hc
   rw[Jk]at he
   obtain⟨q,hq,he⟩:=he
   have hqL:q.2.2.length≤L:=by
    split at he
    ·exact J2 (KT _ n he) hL
    grind
   refine wpIn_seq (wpIn_mono (ih x k x' E H q hx (fun h=>(hrn h).left rfl) hq hqL K D ν a w hK hM hD hS hR) fun e a1 w1 h1=>?_)
   obtain⟨ν1,K1,D1,hx1,hS1,Sc,hE1,hK1,hM1,hD1⟩:=h1
   obtain⟨cx,E1,H1⟩:=q
   cases cx with
   |normal=>
    simp only[XR]at hx1;subst hx1
    refine wpIn_mono (ih y _ y' E1 H1 r hy (fun h=>(hrn h).right rfl) he hL K1 D1 ν1 a1 w1 hK1 hM1 hD1 hS1 Sc) fun e a2 w2 h2=>?_
    obtain⟨ν2,K2,D2,g1,g2,g3,g4,g5⟩:=h2
    exact⟨ν2,K2,D2,g1,g2,g3,hE1.trans g4,g5⟩
   |exit id=>
    simp only[GA]at he;subst he
    simp only[XR]at hx1;subst hx1
    exact⟨ν1,K1,D1,rfl,hS1,Sc,hE1,hK1,hM1,hD1⟩
   |ret=>
    simp only[GA]at he;subst he
    simp only[XR]at hx1;subst hx1
    exact⟨ν1,K1,D1,rfl,hS1,Sc,hE1,hK1,hM1,hD1⟩
  |cond c x y=>
   simp only[Jv,Jk,GD]at hc
   obtain⟨c',hcc,x',hx,y',hy,rfl⟩:=hc
   dsimp only at he
   split at he
   ·rename_i t ht
    have h1:=Jd hcc (fun t _=>hR.val t)
    rw[ht]at h1
    simp only[V]at h1
    refine wpIn_cond h1 ?_
    cases t with
    |true=>exact ih x _ x' E H r hx (fun h=>(hrn h).left rfl) he hL K D ν a w hK hM hD hS hR
    |false=>exact ih y _ y' E H r hy (fun h=>(hrn h).right rfl) he hL K D ν a w hK hM hD hS hR
   ·cases he
  |block id c=>
   simp only[Jv,GD]at hc
   obtain⟨c',hcc,rfl⟩:=hc
   rw[GD]at he
   obtain⟨q,hq,rfl⟩:=he
   refine wpIn_block (wpIn_mono (ih c _ c' E H q hcc (fun h=>hrn h) hq hL K D ν a w hK hM hD hS hR) fun e a1 w1 h1=>?_)
   obtain⟨ν1,K1,D1,hx1,hr1⟩:=h1
   obtain⟨cx,E1,H1⟩:=q
   cases cx with
   |normal=>simp only[XR]at hx1;subst hx1;exact⟨ν1,K1,D1,rfl,hr1⟩
   |exit id'=>
    simp only[XR]at hx1;subst hx1
    by_cases hid:id'=id
    ·simp only[Exit.inBlock,hid,if_true];exact⟨ν1,K1,D1,by simp[CX.inBlock,XR],hr1⟩
    ·simp only[Exit.inBlock,hid,if_false];exact⟨ν1,K1,D1,by simp[CX.inBlock,XR,hid],hr1⟩
   |ret=>simp only[XR]at hx1;subst hx1;exact⟨ν1,K1,D1,rfl,hr1⟩
  |loop c=>
   have hc0:=hc
   simp only[Jv,GD]at hc
   obtain⟨c',hcc,rfl⟩:=hc
   let J:Nat→Act→World→Prop:=fun m a w=>m≤n+1∧∃E H1 ν1 K1 D1,ev (K7 P) m (.loop c') E H1=some r∧St K1 B L ν1 H1 w∧ER D1 ν1 N E a∧Ext L H ν H1 ν1∧IC K0 K1∧Marks K0 B K1 D1∧(top=false→D1=D0)
   classical
   refine wpIn_loop (fun a w=>∃m,J m a w) (fun a w=>if h:∃m,J m a w then(least h).choose else 0) ⟨n+1,Nat.le_refl _,E,H,ν,K,D,by rw[Kh];exact he,hS,hR,Ext.refl _ _ _,hK,hM,hD⟩ fun a1 w1 hI=>?_
   rw[dif_pos hI]
   obtain⟨hle,E1,H1,ν1,K1,D1,hev,hS1,Sc,hE1,hK1,hM1,hD1⟩:=(least hI).choose_spec.1
   generalize (least hI).choose=m at*
   cases m with
   |zero=>cases hev
   |succ m=>
    rw[Kh]at hev
    dsimp only at hev
    rw[Jk]at hev
    obtain⟨q,hq,hev⟩:=hev
    have hq':=VD (K7 P) (show m≤n by omega) c' E1 H1 q hq
    have hqL:q.2.2.length≤L:=by
     split at hev
     ·exact J2 (KT _ m hev) hL
     grind
    refine wpIn_mono (ih c _ c' E1 H1 q hcc (fun h=>hrn h) hq' hqL K1 D1 ν1 a1 w1 hK1 hM1 hD1 hS1 Sc) fun e a2 w2 h2=>?_
    obtain⟨ν2,K2,D2,hx2,hS2,hR2,hE2,hK2,hM2,hD2⟩:=h2
    obtain⟨cx,E2,H2⟩:=q
    cases cx with
    |normal=>
     simp only[XR]at hx2;subst hx2
     have hJ:J m a2 w2:=⟨oM,E2,H2,ν2,K2,D2,hev,hS2,hR2,hE1.trans hE2,hK2,hM2,hD2⟩
     refine⟨⟨m,hJ⟩,?_⟩
     rw[dif_pos ⟨m,hJ⟩]
     grind
    |exit id=>
     simp only[GA]at hev;subst hev
     simp only[XR]at hx2;subst hx2
     exact⟨ν2,K2,D2,rfl,hS2,hR2,hE1.trans hE2,hK2,hM2,hD2⟩
    |ret=>
     simp only[GA]at hev;subst hev
     simp only[XR]at hx2;subst hx2
     exact⟨ν2,K2,D2,rfl,hS2,hR2,hE1.trans hE2,hK2,hM2,hD2⟩
  |rangeFunc g ps x y=>
   simp only[Jv,Jk]at hc
   obtain⟨g',hg,hc⟩:=hc
   obtain⟨hgd,hc⟩:=GI hc
   simp only[GA]at hc;subst hc
   simp only[NH,decide_eq_true_eq,List.all_eq_true]at hgd
   obtain⟨⟨ht,G1f⟩,hps⟩:=hgd
   have hrd:=htop ht
   subst hrd
   obtain⟨fn,hat,hnt⟩:=hrn ht 0 (ps,x,y) rfl oM
   simp only[Nat.add_zero]at hat
   have hrnd:XD P (Rp f k) N f ps x y:=⟨by unfold Rp;omega,hps,f,fn,hat,hnt⟩
   dsimp only at he
   rw[Jk]at he
   obtain⟨q,hq,he⟩:=he
   have hgv:=Jd hg (fun t _=>hR.val t)
   unfold ND at hq
   split at hq
   case h_2=>cases hq
   rename_i gf caps hgc
   split at hq
   case isFalse=>cases hq
   rename_i hgf
   rw[hgc]at hgv
   simp only[V]at hgv
   obtain⟨lb,hge,hlb⟩:=hgv
   obtain⟨hl1,hl2⟩:=YF he
   obtain⟨hq1,hq2,-⟩:=hFn _ _ _ _ hq
   obtain⟨⟨gfn,e1,e2,e3⟩,Gbh⟩:=hq2 hgf
   simp only[Qi,List.length_singleton]at hq1
   have GmV:((List.range N).map E).length=N:=by simp
   refine wpIn_rangeFunc fun f0 _=>?_
   obtain⟨ν1,hS1,hE1,hν1⟩:=hS.enter (k:=G9 0 (ps.toList.map fun(t:Nat)=>CV.i (t:Int)) ((List.range N).map E) (Rp f k)) oM rfl
    (r:={state:=.ready,pending:=none,fn:=f0,tmps:=a.tmps,params:=ps,assign:=x,body:=y,defers:=w.heap.size})
    (fun ν' hmono=>⟨0,(List.range N).map E,Rp f k,rfl,.inl ⟨rfl,rfl,rfl⟩,fun t=>by
     rw[Bo]
     rcases VB t N with h|h
     ·rw[Kr,IX h];exact V.mono hmono _ _ (hR.val t)
     ·rw[lX9 (by rw[GmV];exact h)]
      have:=hR.val t
      rw[hR.top t h]at this
      exact V.mono hmono _ _ this,by rw[GmV];exact hR.size,by rw[GmV,hBr.rnd];exact hrnd⟩)
   have hfree:=hS.Nw.free
   have GlA:=hE1.mono hS
   have hen:=run_enterLoop_outer (P:=P) (w:=w) f0 a.tmps ps x y
   generalize (w.alloc (.deferred (some []))).alloc (.loop {state:=.ready,pending:=none,fn:=f0,tmps:=a.tmps,params:=ps,assign:=x,body:=y,defers:=w.heap.size})=W1 at hen hS1
   refine⟨_,_,W1,{target:=.fn (.func gf) lb,args:=#[.func (.yield (w.heap.size+1)) #[] #[]]},W1,gf,#[.func (.yield (w.heap.size+1)) #[] #[]]++lb,W1,hen,?_,fun _ _=>trivial,?_,Oo,?_⟩
   ·simp only[resolve,hge]
    simp[go_sem]
   ·simp[invoke,go_sem,NW e1 e2 e3]
   have hcl:=Gbh _ B L ν1 _ (#[.func (.yield (w.heap.size+1)) #[] #[]]++lb) hBr oM hS1 (by
    rw[Array.toList_append]
    simp only[VL,V,List.cons_append,List.nil_append]
    exact⟨_,_,rfl,⟨_,hν1,rfl⟩,VL.mono GlA _ _ hlb⟩)
   have hci:CallsIn Fence.wide (dp-1) P gf (#[.func (.yield (w.heap.size+1)) #[] #[]]++lb) _ _:=callsIn_wide.2 hcl
   refine CallsIn.mono (show CallsIn (Fr none) (dp-1) P gf _ _ _ from hci) fun e w2 hx=>?_
   obtain⟨v',ν2,rfl,hS2,-,hE2⟩:=hx
   have hm2:ν2 H.length=some ⟨w.heap.size+1,0,Rp f k+1,0⟩:=by rw[hE2.same _ sM];exact hν1
   obtain⟨q1,qH⟩:=q
   unfold Ux at he
   simp only at he hq1 hl1 hS2
   split at he
   case h_2=>cases he
   rename_i s ps' env' z' hb
   obtain⟨r2,hw2,rfl,Gjh,-,-,-⟩:=DZ hS2 hb hm2
   have hs1:s≠1:=by
    rintro rfl
    grind
   obtain⟨hnb,hcases⟩:=Gjh.leaves hs1
   obtain⟨jump,hj⟩:∃j,j=r2.pending:=⟨_,rfl⟩
   refine⟨jump,_,by rw[hj];exact run_endLoop hw2 hnb,?_⟩
   rw[←hj]at hcases
   have hS4:St _ B L ν2 (qH.set H.length ⟨[],.dead,0⟩) (w2.putObj (w.heap.size+1) (.loop {r2 with state:=.exhausted})):=⟨hS2.Nw.shut hb rfl hm2 _,fun b' hb' hl=>hS2.dom b' (by simpa using hb') hl⟩
   have hEx:Ext L H ν (qH.set H.length ⟨[],.dead,0⟩) ν2:=hE1.trans (hE2.trans ⟨sM,fun _ _=>rfl,fun _ _=>rfl⟩)
   have hKs:∀{c:Nat}{o:Obj},K c=some o→c<w.heap.size:=fun h=>(Vo.1 (hS.Nw.kept _ _ h)).1
   have post:∀(cx:CX)(xx:Exit),XR cx xx→∃ν' K' D',XR cx xx∧St K' B L ν' (qH.set H.length ⟨[],.dead,0⟩) (w2.putObj (w.heap.size+1) (.loop {r2 with state:=.exhausted}))∧ER D' ν' N E {a with defers:=[{target:=.collected w.heap.size,args:=#[]}]++a.defers}∧Ext L H ν (qH.set H.length ⟨[],.dead,0⟩) ν'∧IC K0 K'∧Marks K0 B K' D'∧(top=false→D'=D0):=by
    intro cx xx Pd
    refine⟨ν2,_,{target:=.collected w.heap.size,args:=#[]}::D,Pd,hS4,⟨by rw[hR.defers];rfl,hR.size,fun t=>V.mono (hEx.mono hS) _ _ (hR.val t),hR.top⟩,hEx,fun c o h=>?_,?_,fun h=>by rw[ht]at h;cases h⟩
    ·have:=hKs (hK c o h)
     exact(if_neg oM).trans (hK c o h)
    ·obtain⟨rs,rfl,hnd,hrs⟩:=hM
     refine⟨w.heap.size::rs,rfl,List.nodup_cons.2 ⟨fun hin=>?_,hnd⟩,fun r' hr'=>?_⟩
     ·have:=hKs (hrs _ hin).1;omega
     ·rcases List.mem_cons.1 hr' with rfl|hr'
      ·exact⟨if_pos rfl,hK.none hfree,hS.Nw.base.size⟩
      simp_all
   rcases hcases with⟨rfl,hp⟩|⟨rfl,hp⟩|⟨id,rfl,hp⟩
   ·rw[if_pos rfl,GA]at he
    subst he
    rw[hp]
    exact post .normal .normal rfl
   ·rw[if_neg dE,if_pos rfl,GA]at he
    subst he
    rw[hp]
    exact wpIn_ret (post .ret .ret rfl)
   ·rw[if_neg oM,if_neg oM,if_pos oM,GA,show((id:Int)+3-3).toNat=id from by omega]at he
    subst he
    rw[hp]
    exact wpIn_exit (post (.exit id) (.exit id) rfl)
  |exit id=>
   simp only[Jv,GA]at hc;subst hc
   simp only[GA]at he;subst he
   exact wpIn_exit ⟨ν,K,D,rfl,hS,hR,Ext.refl _ _ _,hK,hM,hD⟩
  |ret=>
   simp only[Jv,GA]at hc;subst hc
   simp only[GA]at he;subst he
   exact wpIn_ret ⟨ν,K,D,rfl,hS,hR,Ext.refl _ _ _,hK,hM,hD⟩
  |_=>cases hc
end
end Go.Cs
namespace Go.Cs
open Go Go.RowKit
section
variable {P : Program} {F : GQ} {K K0 : Nat → Option Obj} {B : Bs} {L N : Nat} {rd : Option Nat} {dp : Nat} {D D0 : List Deferred}
theorem Marks.nil(K:Nat→Option Obj)(B:Bs):Marks K B K []:=⟨[],rfl,List.nodup_nil,fun _ h=>by cases h⟩
theorem E8(hm:P.follows .mixedOrders=true)(hBr:Wh P B){f n:Nat}(hF:∀k,k<n→D5 P (Kk (K7 P) k)){c:Code}{k:Nat}{cc:Gn}(hc:Jv P f N false k c=some cc){E:Env}{H:Gb}{r:CX×Env×Gb}(he:ev (K7 P) n cc E H=some r)(hL:r.2.2.length≤L){ν:Mu}{a:Act}{w:World}(hS:St K B L ν H w)(hR:ER [] ν N E a):
  c.wpIn (Fr none) 0 P (fun x a w=>∃ν',XR r.1 x∧St K B L ν' r.2.2 w∧ER [] ν' N r.2.1 a∧Ext L H ν r.2.2 ν') a w:=by
 refine wpIn_mono (ZO (rd:=none) (K0:=K) (D0:=[]) (top:=false) hm hBr (fun h=>by cases h) n hF c k cc E H r hc (fun h=>by cases h) he hL K [] ν a w (IC.refl K) (Marks.nil K B) (fun _=>rfl) hS hR) fun x a w h=>?_
 obtain⟨ν',K',D',h1,h2,h3,h4,h5,-,h7⟩:=h
 have:=h7 rfl
 subst this
 exact⟨ν',h1,⟨h2.Nw.less h5,h2.dom⟩,h3,h4⟩
theorem OJ(hF:D5 P F)(hBr:Wh P B)(Vy:Y9 F){ops:Array Oper}{Q:Exit→Act→World→Prop}{l2:List Nat}:∀(l:List Nat)(ss:List GH),ss.length=l.length→(∀(q:Nat)(i:Nat)(s:GH),l[q]?=some i→ss[q]?=some s→∃o,ops[i]?=some o∧Nr P N ops o=some s)→
  ∀(E:Env)(H:Gb)(ν:Mu)(a:Act)(w:World)(r:Env×Gb),JW F ss E H=some r→r.2.length≤L→St K B L ν H w→ER D ν N E a→
  (∀ν' a' w',St K B L ν' r.2 w'→ER D ν' N r.1 a'→Ext L H ν r.2 ν'→wpOpsIn (Fr rd) dp P ops Q l2 a' w')→wpOpsIn (Fr rd) dp P ops Q (l++l2) a w
 |[],[],_,_,E,H,ν,a,w,r,he,_,hS,hR,hk=>by
  simp only[JW,GA]at he
  subst he
  exact hk ν a w hS hR (Ext.refl _ _ _)
 |i::l,s::ss,hl,hs,E,H,ν,a,w,r,he,hL,hS,hR,hk=>by
  obtain⟨o,ho,hc⟩:=hs 0 i s rfl rfl
  have ih:=OJ hF hBr Vy (ops:=ops) (Q:=Q) (l2:=l2) l ss (by simpa using hl) (fun q j t h1 h2=>hs (q+1) j t (by simpa using h1) (by simpa using h2))
  simp only[JW,Jk]at he
  obtain⟨⟨E1,H1⟩,he1,he2⟩:=he
  obtain⟨g,op,hg,hop,hd,rfl⟩:=QJ hc
  rw[List.cons_append,wpOpsIn_cons]
  unfold wpOpIn
  simp only[ho]
  rw[Ll hg hR]
  unfold Qs at he1
  dsimp only at he1
  split at he1
  ·rename_i hw
   rw[if_pos hw]
   rw[GD]at he1
   obtain⟨v,hv,he1⟩:=he1
   simp only[Prod.mk.injEq]at he1
   obtain⟨rfl,rfl⟩:=he1
   refine GbG hF hBr hS hop (fun t _=>hR.val t) hv (J2 (Aw Vy he2) hL) _ _ fun v' w' ν' hS' hV' hx'=>?_
   have hm:=hx'.mono hS
   exact ih _ _ ν' _ w' r he2 hL hS' ((hR.mono hm).put hd hV') fun ν2 a2 w2 h1 h2 h3=>hk ν2 a2 w2 h1 h2 (hx'.trans h3)
  ·rename_i hw
   rw[if_neg hw]
   simp only[GA,Prod.mk.injEq]at he1
   obtain⟨rfl,rfl⟩:=he1
   exact⟨fun _ _=>trivial,ih _ _ ν _ w r he2 hL hS (hR.put hd (by simp[V,VL,undef])) hk⟩
 |[],_::_,hl,_,_,_,_,_,_,_,_,_,_,_,_=>by simp at hl
 |_::_,[],hl,_,_,_,_,_,_,_,_,_,_,_,_=>by simp at hl
theorem VJ{cs:List CV}(h:VP cs=false):QN cs=cs:=by
 unfold VP at h
 unfold QN
 grind
theorem JZ.GfF{μ:Mu}{H:Gb}{w:World}(h:JZ K B μ H w){c:Nat}{o:Obj}(hc:K c=some o)(hB:B.heap.size≤c)(x:Obj):JZ (fun d=>if d=c then some x else K d) B μ H (w.putObj c x):=by
 have hlt:c<w.heap.size:=(Vo.1 (h.kept c o hc)).1
 have Si:∀{d:Nat},d≠c→(w.heap.setIfInBounds c x)[d]?=w.heap[d]?:=fun hd=>by simp[Ne.symm hd]
 refine⟨h.base.trans ⟨rfl,rfl,rfl,by simp[World.putObj],fun q hq=>Si oM⟩,fun d y hy=>?_,fun b blk m h1 h2 h3 h4=>?_,h.inj,fun b blk m h1 h2 h3=>?_⟩
 ·split at hy
  ·rename_i hd
   subst hd
   simp only[GA]at hy
   subst hy
   simp[World.putObj,hlt]
  ·rename_i hd;exact(Si hd).trans (h.kept d y hy)
 ·have hne:=h.Zf hc hB h1 h2 h4
  obtain⟨arr,T,fz,e1,e2,e3,e4⟩:=h.blk b blk m h1 h2 h3 h4
  exact⟨arr,T,fz,(Si hne).trans e1,e2,fun e=>by grind,e4⟩
 ·have hne:=h.Zf hc hB h1 (by rw[h2];decide) h3
  obtain⟨ob,e1,e2,e3,e4⟩:=h.mp b blk m h1 h2 h3
  exact⟨ob,(Si hne).trans e1,e2,e3,by rw[if_neg hne];exact e4⟩
def Y0(B:Bs)(c:Nat)(o:Obj):Bs:={B with frz:=fun d x=>if d=c then x=o else B.frz d x}
theorem Ea.frz{B B':Bs}(hB:B'.rnd=B.rnd){μ:Mu}{blk:JE}{r:Loop}(h:Ea B μ blk r):Ea B' μ blk r:=by
 obtain⟨s,env,z,h1,h2,h3,h4,h5⟩:=h
 exact⟨s,env,z,h1,h2,h3,h4,by rw[hB];exact h5⟩
theorem JZ.freeze{μ:Mu}{H:Gb}{w:World}(h:JZ K B μ H w){b:Nat}{es:List CV}{m:Z6}(hb:H[b]?=some ⟨es,.map,0⟩) (hz:VP es=false) (hm:μ b=some m) {xs:Array MapEntry} {cl:Nat} (hw:w.heap[m.c]?=some (.map xs cl)):
  JZ K (Y0 B m.c (.map xs cl)) μ (H.set b ⟨[.agg es],.map,0⟩) w:=by
 have hlb:=(ZK.1 hb).1
 have get:∀{b':Nat}{k':JE},(H.set b ⟨[.agg es],.map,0⟩)[b']?=some k'→(b'=b∧k'=⟨[.agg es],.map,0⟩)∨(b'≠b∧H[b']?=some k'):=by
  grind
 refine⟨h.base,h.kept,fun b' k' m' h1 h2 h3 h4=>?_,fun b1 b2 k1 k2 m1 m2 h1 h2 r1 r2 hne e1 e2=>?_,fun b' k' m' h1 h2 h3=>?_⟩
 ·rcases get h1 with⟨rfl,rfl⟩|⟨_,g⟩
  ·exact absurd rfl h3
  ·exact h.blk b' k' m' g h2 h3 h4
 ·have up:∀{b':Nat}{k':JE},(H.set b ⟨[.agg es],.map,0⟩)[b']?=some k'→∃k'',H[b']?=some k''∧k''.mode=k'.mode:=by
   grind
  obtain⟨q1,g1,f1⟩:=up h1
  obtain⟨q2,g2,f2⟩:=up h2
  exact h.inj b1 b2 q1 q2 m1 m2 g1 g2 (by rw[f1];exact r1) (by rw[f2];exact r2) hne e1 e2
 ·rcases get h1 with⟨rfl,rfl⟩|⟨hbb,g⟩
  ·rw[hm]at h3
   simp only[GA]at h3
   subst h3
   obtain⟨ob,e1,e2,e3,e4⟩:=h.mp b' _ m hb rfl hm
   obtain⟨xs',cl',rfl,f1,f2,f3⟩:=e2.map rfl
   rw[hw]at e1
   simp only[GA,Obj.map.injEq]at e1
   obtain⟨rfl,rfl⟩:=e1
   rw[VJ hz]at f1
   exact⟨_,hw,.inl ⟨rfl,xs,cl,rfl,f1,f2,fun _=>by simp[Y0]⟩,e3,e4⟩
  ·obtain⟨ob,e1,e2,e3,e4⟩:=h.mp b' k' m' g h2 h3
   refine⟨ob,e1,?_,e3,e4⟩
   rcases e2 with⟨f0,xs',cl',rfl,f1,f2,f3⟩|⟨r,rfl,hr⟩
   ·have hne:m'.c≠m.c:=Ne.symm (h.inj b b' _ k' m m' hb g (.inr rfl) (by rw[h2];decide) (Ne.symm hbb) hm h3)
    exact .inl ⟨f0,xs',cl',rfl,f1,f2,fun e=>by simp only[Y0,if_neg hne];exact f3 e⟩
   ·exact .inr ⟨r,rfl,hr.frz rfl⟩
theorem JZ.thaw{μ:Mu}{H:Gb}{w:World}{m:Z6}{o:Obj}(h:JZ K (Y0 B m.c o) μ H w){b:Nat}{es:List CV}(hb:H[b]?=some ⟨[.agg es],.map,0⟩) (hm:μ b=some m) (hz:VP es=false):
  JZ K B μ (H.set b ⟨es,.map,0⟩) w:=by
 have hlb:=(ZK.1 hb).1
 have get:∀{b':Nat}{k':JE},(H.set b ⟨es,.map,0⟩)[b']?=some k'→(b'=b∧k'=⟨es,.map,0⟩)∨(b'≠b∧H[b']?=some k'):=by
  grind
 refine⟨h.base,h.kept,fun b' k' m' h1 h2 h3 h4=>?_,fun b1 b2 k1 k2 m1 m2 h1 h2 r1 r2 hne e1 e2=>?_,fun b' k' m' h1 h2 h3=>?_⟩
 ·rcases get h1 with⟨rfl,rfl⟩|⟨_,g⟩
  ·exact absurd rfl h3
  ·exact h.blk b' k' m' g h2 h3 h4
 ·have up:∀{b':Nat}{k':JE},(H.set b ⟨es,.map,0⟩)[b']?=some k'→∃k'',H[b']?=some k''∧k''.mode=k'.mode:=by
   grind
  obtain⟨q1,g1,f1⟩:=up h1
  obtain⟨q2,g2,f2⟩:=up h2
  exact h.inj b1 b2 q1 q2 m1 m2 g1 g2 (by rw[f1];exact r1) (by rw[f2];exact r2) hne e1 e2
 ·rcases get h1 with⟨rfl,rfl⟩|⟨hbb,g⟩
  ·rw[hm]at h3
   simp only[GA]at h3
   subst h3
   obtain⟨ob,e1,e2,e3,e4⟩:=h.mp b' _ m hb rfl hm
   obtain⟨xs',cl',rfl,f1,f2,f3⟩:=e2.map rfl
   exact⟨_,e1,.inl ⟨rfl,xs',cl',rfl,by rw[VJ hz];exact f1,f2,fun e=>by rw[hz]at e;cases e⟩,e3,e4⟩
  ·obtain⟨ob,e1,e2,e3,e4⟩:=h.mp b' k' m' g h2 h3
   refine⟨ob,e1,?_,e3,e4⟩
   rcases e2 with⟨f0,xs',cl',rfl,f1,f2,f3⟩|⟨r,rfl,hr⟩
   ·have hne:m'.c≠m.c:=Ne.symm (h.inj b b' _ k' m m' hb g (.inr rfl) (by rw[h2];decide) (Ne.symm hbb) hm h3)
    exact .inl ⟨f0,xs',cl',rfl,f1,f2,fun e=>by have:=f3 e;simp only[Y0,if_neg hne]at this;exact this⟩
   ·exact .inr ⟨r,rfl,hr.frz rfl⟩
theorem JZ.Ggd{μ:Mu}{H:Gb}{w:World}(h:JZ K B μ H w):JZ K B μ (H++[⟨[],.dead,0⟩]) w:=by
 have get:∀{b:Nat}{k:JE},(H++[⟨[],.dead,0⟩])[b]?=some k→k.mode≠.dead→H[b]?=some k:=by
  grind
 exact⟨h.base,h.kept,fun b k m h1 h2 h3 h4=>h.blk b k m (get h1 h2) h2 h3 h4,fun b1 b2 k1 k2 m1 m2 h1 h2 r1 r2 hne e1 e2=>h.inj b1 b2 k1 k2 m1 m2 (get h1 (by grind)) (get h2 r2) r1 r2 hne e1 e2,
  fun b k m h1 h2 h3=>h.mp b k m (get h1 (by rw[h2];decide)) h2 h3⟩
theorem JZ.left{μ:Mu}{H:Gb}{w:World}(h:JZ K B μ H w)(n m:Nat):JZ K B μ (H.take n++List.replicate m ⟨[],.dead,0⟩) w:=by
 have get:∀{b:Nat}{k:JE},(H.take n++List.replicate m ⟨[],.dead,0⟩)[b]?=some k→k.mode≠.dead→H[b]?=some k:=by
  intro b k hb hd
  grind
 exact⟨h.base,h.kept,fun b k m h1 h2 h3 h4=>h.blk b k m (get h1 h2) h2 h3 h4,fun b1 b2 k1 k2 m1 m2 h1 h2 r1 r2 hne e1 e2=>h.inj b1 b2 k1 k2 m1 m2 (get h1 (by grind)) (get h2 r2) r1 r2 hne e1 e2,
  fun b k m h1 h2 h3=>h.mp b k m (get h1 (by rw[h2];decide)) h2 h3⟩
def Agree(D:List Nat)(E E':Env):Prop:=∀t,D.contains t=false→E t=E' t
theorem Agree.ev{D:List Nat}{E E':Env}(h:Agree D E E'){x:Jy}(hx:x.in D=false):E.ev x=E'.ev x:=by
 cases x with
 |tmp t=>exact h t hx
 |_=>rfl
theorem Agree.put{D:List Nat}{E E':Env}(h:Agree D E E'){d:Option Nat}{v:CV}:Agree D (E.put d v) (E'.put d v):=by
 intro t ht
 cases d with
 |none=>exact h t ht
 |some d=>
  simp only[Env.put,Env.upd]
  by_cases e:t=d
  ·simp[e]
  ·simp only[e,if_false];exact h t ht
theorem GdW{F:GQ}{op:Kc}{l:List Jy}(hl:op.rd=some l){E E':Env}{H:Gb}(h:∀x∈l,E.ev x=E'.ev x):JY F op E H=JY F op E' H:=by
 cases op<;>simp only[Kc.rd,GA,reduceCtorEq]at hl
 all_goals subst hl
 all_goals first|(simp only[List.mem_cons,List.not_mem_nil,or_false,forall_eq_or_imp,forall_eq]at h;simp only[JY,UZ,G7,h])|(simp only[JY];rw[List.map_congr_left h])
theorem FJ{F:GQ}{D:List Nat}:∀{ops:List GH}{E E':Env}{H:Gb}{r:Env×Gb},WE D (.region ops)=true→Agree D E E'→JW F ops E H=some r→∃E2,JW F ops E' H=some (E2,r.2)∧Agree D r.1 E2
 |[],E,E',H,r,_,h,e=>by
  simp only[JW,GA]at e;subst e
  exact⟨E',rfl,h⟩
 |s::ops,E,E',H,r,hd,h,e=>by
  simp only[WE,List.all_cons,NH]at hd
  obtain⟨⟨hg,ho⟩,hr⟩:=hd
  obtain⟨d,g,op⟩:=s
  simp only[Option.isNone_iff_eq_none]at hg
  subst hg
  cases hl:op.rd with
  |none=>simp[hl]at ho
  |some l=>
   simp only[hl,List.all_eq_true,Bool.not_eq_true']at ho
   have hop:=GdW (F:=F) hl (H:=H) fun x hx=>h.ev (ho x hx)
   simp only[JW,Qs,wanted,if_true,Jk,GD]at e⊢
   obtain⟨q,⟨u,hu,rfl⟩,e⟩:=e
   obtain⟨E2,h1,h2⟩:=FJ (by simpa[WE]using hr) h.put e
   exact⟨E2,⟨_,⟨u,hop▸hu,rfl⟩,h1⟩,h2⟩
theorem Mt{p:J5}{D:List Nat}:∀{n:Nat}{c:Gn}{E E':Env}{H:Gb}{r:CX×Env×Gb},WE D c=true→Agree D E E'→ev p n c E H=some r→∃E2,ev p n c E' H=some (r.1,E2,r.2.2)∧Agree D r.2.1 E2
 |0,_,_,_,_,_,_,_,e=>by cases e
 |n+1,c,E,E',H,r,hd,h,e=>by
  rw[Kh]at e⊢
  cases c with
  |skip=>simp only[GA]at e;subst e;exact⟨E',rfl,h⟩
  |ret=>simp only[GA]at e;subst e;exact⟨E',rfl,h⟩
  |region ops=>
   rw[GD]at e
   obtain⟨q,hq,rfl⟩:=e
   obtain⟨E2,h1,h2⟩:=FJ hd h hq
   exact⟨E2,by simp[h1],h2⟩
  |seq a b=>
   simp only[WE,NH]at hd
   rw[Jk]at e
   obtain⟨q,hq,e⟩:=e
   obtain⟨E2,h1,h2⟩:=Mt hd.1 h hq
   dsimp only
   rw[h1,Option.bind_some]
   dsimp only at e⊢
   cases hx:q.1 with
   |normal=>
    rw[hx]at e
    exact Mt hd.2 h2 e
   |exit id=>rw[hx]at e;simp only[GA]at e;subst e;exact⟨E2,by rw[hx],h2⟩
   |ret=>rw[hx]at e;simp only[GA]at e;subst e;exact⟨E2,by rw[hx],h2⟩
  |_=>cases hd
theorem JX.split{μ:Mu}:∀{cs:List CV}{s t:List MapEntry}{e:MapEntry},JX μ cs (s++e::t)→∃cs1 c cs2,cs=cs1++c::cs2∧JX μ (cs1++cs2) (s++t)∧∃k n v,c=.Jj [.int k n,v]∧e.key=.int k n∧V μ v e.val
 |[],s,t,e,h=>by
  simp only[JX]at h
  simp at h
 |c::cs,[],t,e,h=>by
  obtain⟨k,n,v,x,rest,rfl,h2,h3,h4,h5,h6⟩:=h
  simp only[List.nil_append,List.cons.injEq]at h2
  obtain⟨rfl,rfl⟩:=h2
  exact⟨[],_,cs,rfl,h6,k,n,v,rfl,h3,h4⟩
 |c::cs,y::s,t,e,h=>by
  obtain⟨k,n,v,x,rest,rfl,h2,h3,h4,h5,h6⟩:=h
  simp only[List.cons_append,List.cons.injEq]at h2
  obtain⟨rfl,rfl⟩:=h2
  obtain⟨cs1,c',cs2,rfl,g1,g2⟩:=JX.split h6
  exact⟨.Jj [.int k n,v]::cs1,c',cs2,rfl,⟨k,n,v,y,_,rfl,rfl,h3,h4,h5,g1⟩,g2⟩
theorem JX.GlN{μ:Mu}{cs:List CV}(h:JX μ cs []):cs=[]:=by
 cases cs with
 |nil=>rfl
 |cons c cs=>obtain⟨k,n,v,x,rest,-,h2,-⟩:=h;cases h2
theorem GdZ{xs:Array MapEntry}{seen:Array Nat}{e:MapEntry}(hn:(xs.toList.map (·.born)).Nodup)(he:e∈(leftOf xs seen).toList):
  ∃s t,(leftOf xs seen).toList=s++e::t∧(leftOf xs (seen.push e.born)).toList=s++t:=by
 obtain⟨s,t,hst⟩:=List.append_of_mem he
 refine⟨s,t,hst,?_⟩
 have h1:(leftOf xs (seen.push e.born)).toList=(leftOf xs seen).toList.filter fun x=>!(x.born==e.born):=by
  simp only[leftOf,Array.toList_filter,List.filter_filter]
  grind
 have h2:((leftOf xs seen).toList.map (·.born)).Nodup:=by
  simp only[leftOf,Array.toList_filter]
  grind
 rw[hst,Ij,List.map_cons,List.nodup_append]at h2
 obtain⟨g1,g2,g3⟩:=h2
 rw[List.nodup_cons]at g2
 rw[h1,hst,List.filter_append,List.filter_cons]
 simp only[BEq.rfl,Bool.not_true,Bool.false_eq_true,if_false]
 rw[List.filter_eq_self.2,List.filter_eq_self.2]
 ·grind
 simp_all
theorem OO{E:Env}{d:Nat}{v:CV}:(E.upd d v) d=v:=by simp[Env.upd]
theorem Ggl{E:Env}{d t:Nat}{v:CV}(h:t≠d):(E.upd d v) t=E t:=by simp[Env.upd,h]
def Gaw(Rr:Env→Gb→Option (CX×Env×Gb))(q:RM)(mb:Nat)(es:List CV)(n0:Nat)(r:CX×Env×Gb)(o:Option (CX×Env×Gb)):Prop:=
 ∃u z,o=some u∧Np q.id Rr (u.1,u.2.1,u.2.2.set mb ⟨es,.map,0⟩)=some z∧Left q.live n0 z r
def LG(Rb Rr:Env→Gb→Option (CX×Env×Gb))(q:RM)(mb:Nat)(es:List CV)(n0:Nat)(r:CX×Env×Gb)(left:List CV)(E:Env)(H:Gb):Prop:=
 ∀l,l.Perm left→Gaw Rr q mb es n0 r (Kb Rb q mb es n0 l E H)
section
variable {Rb Rr : Env → Gb → Option (CX × Env × Gb)} {q : RM} {mb n0 : Nat} {es : List CV} {r : CX × Env × Gb} {E : Env} {H : Gb}
theorem LG.nil(h:LG Rb Rr q mb es n0 r [] E H):Gaw Rr q mb es n0 r (some (.normal,q.fin E,H)):=h [] (List.Perm.refl _)
theorem LG.step{cs1 cs2:List CV}{c:CV}(h:LG Rb Rr q mb es n0 r (cs1++c::cs2) E H):
  ∃u,Rb (q.beg c E) H=some u∧u.2.2[mb]?=some ⟨[.agg es],.map,0⟩∧u.2.1 q.it=.ptr n0 0∧(u.1=.normal→LG Rb Rr q mb es n0 r (cs1++cs2) u.2.1 u.2.2)∧(u.1≠.normal→Gaw Rr q mb es n0 r (some u)):=by
 have key:∀l',l'.Perm (cs1++cs2)→∃u,Rb (q.beg c E) H=some u∧u.2.2[mb]?=some ⟨[.agg es],.map,0⟩∧u.2.1 q.it=.ptr n0 0∧(u.1=.normal→Gaw Rr q mb es n0 r (Kb Rb q mb es n0 l' u.2.1 u.2.2))∧(u.1≠.normal→Gaw Rr q mb es n0 r (some u)):=by
  intro l' hl
  have h1:=h (c::l') ((List.Perm.cons c hl).trans List.perm_middle.symm)
  cases hb:Rb (q.beg c E) H with
  |none=>simp[Gaw,Kb,hb]at h1
  |some u=>
   refine⟨u,rfl,?_⟩
   unfold Kb at h1
   rw[hb,Option.bind_some]at h1
   split at h1
   case isFalse=>simp[Gaw]at h1
   grind
 obtain⟨u,h1,h2,h3,h4,h5⟩:=key _ (List.Perm.refl _)
 refine⟨u,h1,h2,h3,fun hn l' hl=>?_,h5⟩
 grind
end
def Xx(K:Nat→Option Obj)(B:Bs)(L N:Nat)(H:Gb)(ν:Mu)(live:List Nat)(r:CX×Env×Gb):Exit→Act→World→Prop:=
 fun x a w=>∃ν' E,XR r.1 x∧St K B L ν' r.2.2 w∧ER [] ν' N E a∧r.2.1=Bg live E∧Ext L H ν r.2.2 ν'
def M7(K:Nat→Option Obj)(B:Bs)(L:Nat)(H:Gb)(ν:Mu)(live:List Nat)(r:CX×Env×Gb):Exit→Act→World→Prop:=
 fun x a w=>∃ν',XR r.1 x∧St K B L ν' r.2.2 w∧(a.defers=[]∧∀t∈live,V ν' (r.2.1 t) (a.tmps.getD t undef))∧Ext L H ν r.2.2 ν'
theorem Un{ops:Array Oper}{Q:Exit→Act→World→Prop}{i:Nat}{l:List Nat}{a:Act}{w:World}{o:Oper}(ho:ops[i]?=some o) (hg:o.guard=none) (hnd:∀c,o.op≠.defer c) {v:Value} {w':World} (h:(execOp a.eval o).run P w=.ok (.value v) w')
  (hk:wpOpsIn (Fr rd) dp P ops Q l (a.put o.dst v) w'):wpOpsIn (Fr rd) dp P ops Q (i::l) a w:=by
 rw[wpOpsIn_cons]
 unfold wpOpIn
 simp only[ho]
 rw[if_pos (by unfold Region.wanted;rw[hg])]
 refine⟨fun _ _=>trivial,?_⟩
 rw[Oper.semAt_eq _ _ _ hnd,h]
 exact hk
theorem Xd{l:IY}{o:GhN}(h:Gjo l=some o):∃rg o1 o2 e,l.ops.back?=some rg∧l.Pe.toList=[o1,o2]∧l.AY[0]?=some e∧
  rg.op=.range o.t o.m∧o1.op=.next (.tmp o.it) false∧o2.op=.extract (.tmp o.nx) 0∧e.op=.entry (.tmp o.it)∧rg.dst=some o.it∧o1.dst=some o.nx∧o2.dst=some o.more∧e.dst=some o.pair∧
  l.more=o.more∧l.Gav=l.out∧rg.guard=none∧o1.guard=none∧o2.guard=none∧e.guard=none∧o.it≠o.nx∧o.it≠o.more∧o.it≠o.pair∧o.nx≠o.more∧o.nx≠o.pair∧o.more≠o.pair:=by
 unfold Gjo at h
 split at h
 case h_2=>cases h
 rename_i rg o1 o2 e h1 h2 h3
 split at h
 case h_2=>cases h
 rename_i t m it1 nx1 it2 it nx more pair e1 e2 e3 e4 e5 e6 e7 e8
 obtain⟨hc,h⟩:=GI h
 simp only[GA]at h
 subst h
 simp only[NH,beq_iff_eq,bne_iff_ne,ne_eq,Option.isNone_iff_eq_none]at hc
 grind
theorem Sz(hm:P.follows .mixedOrders=true)(hBr:Wh P B){f n:Nat}(hF:∀k,k<n+2→D5 P (Kk (K7 P) k)){l:IY}{o:GhN}(ho:Gjo l=some o){m:Jy}
  {Ga:List GH}(has:Jt (l.AY.toList.tail.map (Nr P N l.AY))=some Ga){cc:Gn}(hcc:Jv P f N false 0 l.code=some cc){live:List Nat}
  (hlt:o.it<N∧o.nx<N∧o.more<N∧o.pair<N){mb:Nat}{es:List CV}{r:CX×Env×Gb}(hz:VP es=false)(hL:r.2.2.length≤L){H0:Gb}{ν0:Mu}{mt:Z6}{rb:Nat}(hrb:B.heap.size≤rb)(hKr:K rb=none){xs:Array MapEntry}{cl:Nat}(hst:MapKept.Stamped xs cl)
  {q:RM}(hq:q=⟨m,o.it,o.nx,o.more,o.pair,l.out,live⟩):
  ∀(a:Act)(w:World),(∃left E H ν seen c0,LG (ev (K7 P) (n+2) (.block l.nid (.seq (.region Ga) cc))) (ev (K7 P) (n+2) .skip) q mb es H0.length r left E H∧
   St (fun c=>if c=rb then some (.mapIter (some mt.c) cl seen c0)else K c) (Y0 B mt.c (.map xs cl)) L ν H w∧ER [] ν N E a∧Ext L H0 ν0 H ν∧JX ν left (leftOf xs seen).toList∧cl≤c0∧
   H[mb]?=some ⟨[.agg es],.map,0⟩∧E o.it=.ptr H0.length 0∧ν H0.length=some ⟨rb,0,0,0⟩∧ν mb=some mt∧mb<H0.length)→
  (Code.block l.out (.loop (.seq (.region l.j l.Pe false) (.seq (.cond (.tmp l.more) .skip (.exit l.Gav)) (.block l.nid (.seq (.region l.k l.AY false) l.code)))))).wpIn (Fr none) 0 P (Xx K B L N H0 ν0 live r) a w:=by
 obtain⟨rg,o1,o2,e,p1,p2,p3,p4,p5,p6,p7,p8,p9,p10,p11,p12,p13,p14,p15,p16,p17,p18,p19,p20,p21,p22,p23⟩:=Xd ho
 subst hq
 intro a w hinv
 have finish:∀(u:CX×Env×Gb)(x:Exit)(a:Act)(w:World)(ν:Mu)(seen:Array Nat)(c0:Nat),XR u.1 x→Gaw (ev (K7 P) (n+2) .skip) ⟨m,o.it,o.nx,o.more,o.pair,l.out,live⟩ mb es H0.length r (some u)→
   St (fun c=>if c=rb then some (.mapIter (some mt.c) cl seen c0)else K c) (Y0 B mt.c (.map xs cl)) L ν u.2.2 w→ER [] ν N u.2.1 a→Ext L H0 ν0 u.2.2 ν→u.2.2[mb]?=some ⟨[.agg es],.map,0⟩→ν mb=some mt→mb<H0.length→H0.length≤u.2.2.length→
   (match x with
    |.exit id=>if id=l.out then Xx K B L N H0 ν0 live r .normal a w else Xx K B L N H0 ν0 live r (.exit id) a w
    |x=>Xx K B L N H0 ν0 live r x a w):=by
  intro u x a w ν seen c0 hx hf hS hR hE hfz hmb WR hlen
  obtain⟨u',z,hu',hz',h1,h2,h3,h4⟩:=hf
  cases hu'
  have hKL:IC K (fun c=>if c=rb then some (.mapIter (some mt.c) cl seen c0)else K c):=fun c ob hc=>by
   grind
  have hS':JZ K B ν (u.2.2.set mb ⟨es,.map,0⟩) w:=(hS.Nw.less hKL).thaw hfz hmb hz
  have hzz:z=((u.1.inBlock l.out),u.2.1,u.2.2.set mb ⟨es,.map,0⟩):=by
   unfold Np at hz'
   dsimp only at hz'
   rw[Kh]at hz'
   split at hz'
   ·rename_i e;simp only[GA]at hz';rw[←hz',e]
   ·simp only[GA]at hz';exact hz'.symm
  subst hzz
  dsimp only at h1 h2 h3 h4
  rw[List.length_set]at h3
  have go:∀x',XR (u.1.inBlock l.out) x'→Xx K B L N H0 ν0 live r x' a w:=by
   intro x' hx'
   refine⟨ν,u.2.1,by rw[h1];exact hx',⟨by rw[h4];exact hS'.left _ _,fun b' hb' hl'=>hS.dom b' oM hl'⟩,hR,h2,⟨oM,hE.same,hE.far⟩⟩
  obtain⟨cx,E',H'⟩:=u
  cases cx with
  |normal=>simp only[XR]at hx;subst hx;exact go _ rfl
  |exit id=>
   simp only[XR]at hx;subst hx
   simp only[CX.inBlock]at go
   by_cases hid:id=l.out
   ·simp only[hid,if_true]at go⊢;exact go _ rfl
   ·simp only[hid,if_false]at go⊢;exact go _ rfl
  |ret=>simp only[XR]at hx;subst hx;exact go _ rfl
 refine wpIn_block ?_
 classical
 let J:Nat→Act→World→Prop:=fun k a w=>∃left E H ν seen c0,left.length=k∧LG (ev (K7 P) (n+2) (.block l.nid (.seq (.region Ga) cc))) (ev (K7 P) (n+2) .skip) ⟨m,o.it,o.nx,o.more,o.pair,l.out,live⟩ mb es H0.length r left E H∧
   St (fun c=>if c=rb then some (.mapIter (some mt.c) cl seen c0)else K c) (Y0 B mt.c (.map xs cl)) L ν H w∧ER [] ν N E a∧Ext L H0 ν0 H ν∧JX ν left (leftOf xs seen).toList∧cl≤c0∧
   H[mb]?=some ⟨[.agg es],.map,0⟩∧E o.it=.ptr H0.length 0∧ν H0.length=some ⟨rb,0,0,0⟩∧ν mb=some mt∧mb<H0.length
 obtain⟨Gn6,E0',H0',ν0',Gph,c00,hinv⟩:=hinv
 refine wpIn_loop (fun a w=>∃k,J k a w) (fun a w=>if h:∃k,J k a w then(least h).choose else 0) ⟨_,Gn6,E0',H0',ν0',Gph,c00,rfl,hinv⟩ fun a1 w1 hI=>?_
 rw[dif_pos hI]
 have hmin:=(least hI).choose_spec
 generalize (least hI).choose=k at hmin⊢
 obtain⟨⟨left,E,H,ν,seen,c0,hk,hall,hS,hR,hE,hMR,hc0,hfz,hit,hνr,hmb,WR⟩,-⟩:=hmin
 have hrow:w1.heap[rb]?=some (.mapIter (some mt.c) cl seen c0):=hS.Nw.kept rb _ (if_pos rfl)
 have hmap:w1.heap[mt.c]?=some (.map xs cl):=by
  obtain⟨ob,g1,g2,-,-⟩:=hS.Nw.mp mb _ mt hfz rfl hmb
  obtain⟨xs',cl',rfl,-,-,g3⟩:=g2.map rfl
  have:=g3 rfl
  simp only[Y0,if_true]at this
  rw[g1,this]
 have hiv:a1.eval (.tmp o.it)=.pointer (some ⟨rb,0,none⟩):=by
  have:=hR.val o.it
  rw[hit]at this
  simp only[V]at this
  obtain⟨mm,h1,h2⟩:=this
  rw[hνr]at h1
  simp only[GA]at h1
  subst h1
  exact h2
 have hsz:List.range l.Pe.size=[0,1]:=by
  have:l.Pe.size=2:=by rw[←Array.length_toList,p2];rfl
  rw[this];rfl
 have hget:l.Pe[0]?=some o1∧l.Pe[1]?=some o2:=by
  constructor<;>(rw[←GjQ,p2];rfl)
 have Gpn:∀c,o1.op≠.defer c:=fun c e=>by rw[p5]at e;cases e
 have GnQ:∀c,o2.op≠.defer c:=fun c e=>by rw[p6]at e;cases e
 have GtC:∀c,e.op≠.defer c:=fun c h=>by rw[p7]at h;cases h
 have Gh5:N≤a1.tmps.size:=hR.size
 refine wpIn_seq (wpIn_region ?_)
 rw[hsz]
 rcases run_next_at (P:=P) w1 o1.type rb mt.c cl c0 seen xs cl hrow hmap hst.1 hc0 with⟨hl0,hrun⟩|⟨x,hx,w2,hw2,hrun⟩
 ·
  refine Un hget.1 p15 Gpn (v:=.tuple #[.bool false]) (w':=w1) (by simp[execOp,p5,hiv,hrun]) ?_
  have Sc:ER [] ν N (E.upd o.nx (.Jj [.bool false])) (a1.put o1.dst (.tuple #[.bool false])):=by
   rw[p9];exact hR.put (dst:=some o.nx) (fun d hd=>by grind) (by simp[V,VL])
  have Wl:(a1.put o1.dst (.tuple #[.bool false])).eval (.tmp o.nx)=.tuple #[.bool false]:=by
   rw[p9]
   simp[Act.put,Act.eval,Array.getD_eq_getD_getElem?,Array.getElem?_setIfInBounds_self_of_lt (J6 hlt.2.1 Gh5)]
  refine Un hget.2 p16 GnQ (v:=.bool false) (w':=w1) (by simp[execOp,p6,Wl,Instr.extract]) ?_
  have hR2:ER [] ν N ((E.upd o.nx (.Jj [.bool false])).upd o.more (.bool false)) ((a1.put o1.dst (.tuple #[.bool false])).put o2.dst (.bool false)):=by
   rw[p10];exact Sc.put (dst:=some o.more) (fun d hd=>by grind) (by simp[V])
  show Exit.then _ _ .normal _ _
  refine wpIn_seq (wpIn_cond (t:=false) ?_ ?_)
  ·have:=hR2.val o.more
   rw[OO]at this
   simp only[V]at this
   rw[p12];exact this
  ·simp only[Bool.false_eq_true,if_false]
   refine wpIn_exit ?_
   have hle0:left=[]:=by
    have:(leftOf xs seen).toList=[]:=AV (by simpa using hl0)
    rw[this]at hMR
    exact hMR.GlN
   subst hle0
   have:=finish (.normal,_,H) .normal _ w1 ν seen c0 rfl hall.nil hS hR2 hE hfz hmb WR hE.len
   simp only at this
   show Exit.then _ _ (.exit l.Gav) _ _
   show Exit.inBlock l.out _ (.exit l.Gav) _ _
   simp only[Exit.inBlock,p13,if_true]
   exact this
 ·
  obtain⟨s,t,hs1,hs2⟩:=GdZ hst.2.1 hx
  rw[hs1]at hMR
  obtain⟨cs1,c,cs2,rfl,GsK,kd,kn,vv,rfl,hkey,hval⟩:=hMR.split
  obtain⟨u,hu1,hu2,hu3,hu4,hu5⟩:=hall.step
  have Gj6:w2.heap=w1.heap∧w2.os=w1.os∧w2.tape=w1.tape∧w2.output=w1.output:=by rcases hw2 with rfl|rfl<;>exact⟨rfl,rfl,rfl,rfl⟩
  have hS2:St (fun c=>if c=rb then some (.mapIter (some mt.c) cl (seen.push x.born) cl)else K c) (Y0 B mt.c (.map xs cl)) L ν H (ChangeMaps.setBlock w2 rb (.mapIter (some mt.c) cl (seen.push x.born) cl)):=by
   have h1:=(hS.Nw.same Gj6.1 Gj6.2.1 Gj6.2.2.1 Gj6.2.2.2).GfF (c:=rb) (if_pos rfl) hrb (.mapIter (some mt.c) cl (seen.push x.born) cl)
   refine⟨h1.less fun c ob hc=>?_,hS.dom⟩
   grind
  generalize hw3:ChangeMaps.setBlock w2 rb (.mapIter (some mt.c) cl (seen.push x.born) cl)=w3 at hrun hS2
  have hrow3:w3.heap[rb]?=some (.mapIter (some mt.c) cl (seen.push x.born) cl):=hS2.Nw.kept rb _ (if_pos rfl)
  have Go8:w3.heap[mt.c]?=some (.map xs cl):=by
   obtain⟨ob,g1,g2,-,-⟩:=hS2.Nw.mp mb _ mt hfz rfl hmb
   obtain⟨xs',cl',rfl,-,-,g3⟩:=g2.map rfl
   have:=g3 rfl
   simp only[Y0,if_true]at this
   rw[g1,this]
  have hent:=run_entry_at (P:=P) w3 rb mt.c cl seen xs cl x hrow3 Go8 (mem_left hx).1 hst.2.1
  refine Un hget.1 p15 Gpn (v:=.tuple #[.bool true,x.key,x.val]) (w':=w3) (by simp[execOp,p5,hiv,hrun]) ?_
  have Sc:ER [] ν N (E.upd o.nx (.Jj [.bool true,.int kd kn,vv])) (a1.put o1.dst (.tuple #[.bool true,x.key,x.val])):=by
   rw[p9];exact hR.put (dst:=some o.nx) (fun d hd=>by grind) (by
    simp only[V,VL]
    grind)
  have Wl:(a1.put o1.dst (.tuple #[.bool true,x.key,x.val])).eval (.tmp o.nx)=.tuple #[.bool true,x.key,x.val]:=by
   rw[p9]
   simp[Act.put,Act.eval,Array.getD_eq_getD_getElem?,Array.getElem?_setIfInBounds_self_of_lt (J6 hlt.2.1 Gh5)]
  refine Un hget.2 p16 GnQ (v:=.bool true) (w':=w3) (by simp[execOp,p6,Wl,Instr.extract]) ?_
  have hR2:ER [] ν N ((E.upd o.nx (.Jj [.bool true,.int kd kn,vv])).upd o.more (.bool true)) ((a1.put o1.dst (.tuple #[.bool true,x.key,x.val])).put o2.dst (.bool true)):=by
   rw[p10];exact Sc.put (dst:=some o.more) (fun d hd=>by grind) (by simp[V])
  show Exit.then _ _ .normal _ _
  refine wpIn_seq (wpIn_cond (t:=true) ?_ ?_)
  ·have:=hR2.val o.more
   rw[OO]at this
   simp only[V]at this
   rw[p12];exact this
  ·simp only[if_true]
   refine wpIn_skip ?_
   show Exit.then _ _ .normal _ _
   generalize ha2:(a1.put o1.dst (.tuple #[.bool true,x.key,x.val])).put o2.dst (.bool true)=a2 at hR2
   have GqK:a2.eval (.tmp o.it)=.pointer (some ⟨rb,0,none⟩):=by
    have:=hR2.val o.it
    rw[Ggl p19,Ggl p18,hit]at this
    simp only[V]at this
    obtain⟨mm,h1,h2⟩:=this
    rw[hνr]at h1
    simp only[GA]at h1
    subst h1
    exact h2
   refine wpIn_block ?_
   rw[Kh]at hu1
   dsimp only at hu1
   rw[GD]at hu1
   obtain⟨u1,hu1,rfl⟩:=hu1
   rw[Kh]at hu1
   dsimp only at hu1
   rw[Jk]at hu1
   obtain⟨u0,hu0,hu1⟩:=hu1
   cases n with
   |zero=>cases hu0
   |succ n=>
   rw[Kh]at hu0
   dsimp only at hu0
   rw[GD]at hu0
   obtain⟨v0,hv0,rfl⟩:=hu0
   dsimp only at hu1 hu2 hu3 hu4 hu5
   have huL:u1.2.2.length≤L:=by
    by_cases hn:(u1.1.inBlock l.nid)=.normal
    ·obtain⟨u',z,g0,g2,-,-,g3,-⟩:=hu4 hn (cs1++cs2) (List.Perm.refl _)
     have g1:=VZ (fun E H r h=>KT _ _ h) g0
     have g2:=UW (R:=ev (K7 P) (n+1+2) .skip) (fun E H r h=>KT _ _ h) g2
     simp only[List.length_set]at g2
     omega
    ·obtain⟨u',z,g0,g2,-,-,g3,-⟩:=hu5 hn
     cases g0
     have g2:=UW (R:=ev (K7 P) (n+1+2) .skip) (fun E H r h=>KT _ _ h) g2
     simp only[List.length_set]at g2
     omega
   have hvL:v0.2.length≤L:=J2 (KT _ _ hu1) huL
   refine wpIn_seq (wpIn_region ?_)
   have hops:List.range l.AY.size=0::(List.range' 1 (l.AY.size-1)++[]):=by
    have:0<l.AY.size:=(Vo.1 p3).1
    rw[List.append_nil,List.range_eq_range',show l.AY.size=(l.AY.size-1)+1 from by omega,List.range'_succ]
    simp
   rw[hops]
   refine Un p3 p17 GtC (v:=.tuple #[x.key,x.val]) (w':=w3) (by simp[execOp,p7,GqK,hent]) ?_
   have hR3:ER [] ν N (RM.beg ⟨m,o.it,o.nx,o.more,o.pair,l.out,live⟩ (.Jj [.int kd kn,vv]) E) (a2.put e.dst (.tuple #[x.key,x.val])):=by
    rw[p11];exact hR2.put (dst:=some o.pair) (fun d hd=>by grind) (by
     simp only[V,VL]
     grind)
   have hB':Wh P (Y0 B mt.c (.map xs cl)):=⟨hBr.rnd,hBr.glob⟩
   refine OJ (hF n oM) hB' (Yv _ _) (List.range' 1 (l.AY.size-1)) Ga ?_ ?_ _ H ν _ w3 v0 hv0 hvL hS2 hR3 fun ν4 a4 w4 hS4 hR4 hE4=>?_
   ·have:=Kw has
    simp at this
    simp[this]
   ·intro j i st hj hst'
    have h1:=KX has hst'
    grind
   ·show Exit.then _ _ .normal _ _
    refine wpIn_mono (E8 hm hB' (fun k hk=>hF k oM) hcc hu1 huL hS4 hR4) fun xx a5 w5 h5=>?_
    obtain⟨ν5,hx5,hS5,hR5,hE5⟩:=h5
    have hE6:Ext L H0 ν0 u1.2.2 ν5:=hE.trans (hE4.trans hE5)
    have hmono:∀b m,ν b=some m→ν5 b=some m:=fun b m h=>hE5.mono hS4 b m (hE4.mono hS2 b m h)
    have go:∀(hn:u1.1.inBlock l.nid=.normal),(∃k,J k a5 w5)∧(if h:∃k,J k a5 w5 then(least h).choose else 0)<k:=by
     intro hn
     have hJ:J (cs1++cs2).length a5 w5:=⟨cs1++cs2,u1.2.1,u1.2.2,ν5,seen.push x.born,cl,rfl,hu4 hn,hS5,hR5,hE6,by rw[hs2];exact GsK.mono hmono,Nat.le_refl _,hu2,hu3,hmono _ _ hνr,hmono _ _ hmb,WR⟩
     refine⟨⟨_,hJ⟩,?_⟩
     rw[dif_pos ⟨_,hJ⟩]
     have h1:=(least (p:=fun k=>J k a5 w5) ⟨_,hJ⟩).choose_spec.2 _ hJ
     grind
    have stop:∀(hn:u1.1.inBlock l.nid≠.normal)(xx:Exit),XR (u1.1.inBlock l.nid) xx→_:=fun hn xx hxx=>finish (u1.1.inBlock l.nid,u1.2) xx a5 w5 ν5 (seen.push x.born) cl hxx (hu5 hn) hS5 hR5 hE6 hu2 (hmono _ _ hmb) WR hE6.len
    obtain⟨cx,E5,H5⟩:=u1
    cases cx with
    |normal=>
     simp only[XR]at hx5;subst hx5
     exact go rfl
    |exit id=>
     simp only[XR]at hx5;subst hx5
     by_cases hid:id=l.nid
     ·have hb:(CX.exit id).inBlock l.nid=.normal:=by simp[CX.inBlock,hid]
      simp only[Exit.then,Exit.inBlock,hid,if_true]
      exact go hb
     ·have hb:(CX.exit id).inBlock l.nid=.exit id:=by simp[CX.inBlock,hid]
      simp only[Exit.then,Exit.inBlock,hid,if_false]
      have:=stop (by rw[hb];simp) (.exit id) (by rw[hb];rfl)
      exact this
    |ret=>
     simp only[XR]at hx5;subst hx5
     have hb:CX.ret.inBlock l.nid=.ret:=rfl
     exact stop (by rw[hb];simp) .ret (by rw[hb];rfl)
theorem GeI{c:Code}{l:IY}(h:Ghw c=some l):c=l.of:=by
 unfold Ghw at h
 split at h
 ·simp only[GA]at h;subst h;rfl
 ·cases h
theorem R4{H:Gb}{c:CV}{b:Nat}{es:List CV}(h:mapOf H c=some (b,es)):c=.GJ b∧H[b]?=some ⟨es,.map,0⟩∧VP es=false:=by
 unfold mapOf at h
 grind
theorem M7.later{H H1:Gb}{ν ν1:Mu}{live:List Nat}{r:CX×Env×Gb}(h:Ext L H ν H1 ν1){x:Exit}{a:Act}{w:World}(hq:M7 K B L H1 ν1 live r x a w):M7 K B L H ν live r x a w:=by
 obtain⟨ν',h1,h2,h3,h4⟩:=hq
 exact⟨ν',h1,h2,h3,h.trans h4⟩
theorem Giu(hm:P.follows .mixedOrders=true)(hBr:Wh P B){f:Nat}{live:List Nat}:∀(c:Code)(n:Nat),(∀k,k<n→D5 P (Kk (K7 P) k))→∀(cc:Gn)(E:Env)(H:Gb)(r:CX×Env×Gb),Al P f N live c=some cc→ev (K7 P) n cc E H=some r→r.2.2.length≤L→
  ∀(ν:Mu)(a:Act)(w:World),St K B L ν H w→ER [] ν N E a→c.wpIn (Fr none) 0 P (M7 K B L H ν live r) a w:=by
 intro c
 induction c with
 |seq x y ihx ihy=>
  intro n hF cc E H r hc he hL ν a w hS hR
  unfold Al at hc
  cases n with
  |zero=>cases he
  |succ n=>
  split at hc
  ·rename_i l hl
   have:=GeI hl
   subst this
   simp only[Jk]at hc
   obtain⟨o,ho,kz,hT,m,hom,pre,hpre,Ga,has,c',hc',rr,hrr,hc⟩:=hc
   obtain⟨hg,hc⟩:=GI hc
   simp only[GA]at hc
   subst hc
   simp only[NH,decide_eq_true_eq]at hg
   obtain⟨⟨⟨⟨⟨g1,g2⟩,g3⟩,g4⟩,g5⟩,g6⟩:=hg
   generalize hD:o.wr (.seq (.region Ga) c')=D at g5 g6 he
   generalize hlv:((List.range N).filter fun t=>!D.contains t)=lv at he
   rw[List.all_eq_true]at g6
   obtain⟨rg,o1,o2,e,p1,p2,p3,p4,p5,p6,p7,p8,p9,p10,p11,p12,p13,p14,p15,p16,p17,p18,p19,p20,p21,p22,p23⟩:=Xd ho
   rw[Kh]at he
   dsimp only at he
   rw[Jk]at he
   obtain⟨r1,hr1,hrest⟩:=he
   have Gu8:r1.2.2.length≤L:=by
    split at hrest
    ·exact J2 (KT _ _ hrest) hL
    ·cases hrest;exact hL
   cases n with
   |zero=>cases hr1
   |succ n=>
   rw[Kh]at hr1
   dsimp only at hr1
   rw[Jk]at hr1
   obtain⟨q0,hq0,he⟩:=hr1
   cases n with
   |zero=>cases hq0
   |succ n=>
   rw[Kh]at hq0
   dsimp only at hq0
   rw[GD]at hq0
   obtain⟨⟨E1,H1⟩,hv,rfl⟩:=hq0
   dsimp only at he
   rw[Kh]at he
   dsimp only at he
   have he:=ZU (fun E H=>VD (K7 P) (show n≤n+2 by omega) _ E H) (fun E H=>VD (K7 P) (show n≤n+2 by omega) _ E H) _ _ _ _ _ he
   obtain⟨mb,es,hmo,hall⟩:=VW he
   obtain⟨hmv,hmb,hz⟩:=R4 hmo
   have hlen1:H1.length+1≤L:=by
    obtain⟨z,hz1,-,-,h3,-⟩:=hall es (List.Perm.refl _)
    unfold JF at hz1
    rw[Jk]at hz1
    obtain⟨u,hu,hy⟩:=hz1
    have k1:=VZ (fun E H r h=>KT _ _ h) hu
    have k2:=UW (R:=ev (K7 P) (n+2) .skip) (fun E H r h=>KT _ _ h) hy
    simp only[Qi,List.length_cons,List.length_nil,List.length_set]at k1 k2
    omega
   refine wpIn_seq (wpIn_seq (wpIn_region ?_))
   have hsz:0<l.ops.size:=by
    grind
   have hops:List.range l.ops.size=List.range (l.ops.size-1)++[l.ops.size-1]:=by
    rw[←List.range_succ];congr 1;omega
   rw[hops]
   refine OJ (hF n oM) hBr (Yv _ _) (List.range (l.ops.size-1)) pre ?_ ?_ _ H ν _ w (E1,H1) hv (by dsimp only;omega) hS hR fun ν1 a1 w1 hS1 Sc hE1=>?_
   ·have:=Kw hpre
    simp at this
    simp[this]
   ·intro j i st hj hst'
    have h1:=KX hpre hst'
    grind
   ·dsimp only at hS1 Sc hE1
    have hmV:=Jd hom (fun t _=>Sc.val t)
    rw[hmv]at hmV
    simp only[V]at hmV
    obtain⟨mt,hmt,hev⟩:=hmV
    obtain⟨ob,Yi,Gmw,hBm,hKm⟩:=hS1.Nw.mp mb _ mt hmb rfl hmt
    obtain⟨xs,cl,rfl,hMR,hst,-⟩:=Gmw.map rfl
    rw[VJ hz]at hMR
    obtain⟨kt,et,_,_,hut,-⟩:=Ve hT
    have hrun:=run_range_map (P:=P) w1 o.t kt et mt.c xs cl hut Yi
    have hrg:l.ops[l.ops.size-1]?=some rg:=by grind
    refine Un hrg p14 (fun c h=>by rw[p4]at h;cases h) (v:=.pointer (some ⟨w1.heap.size,0,none⟩)) (w':=w1.alloc (.mapIter (some mt.c) cl #[] cl)) (by simp[execOp,p4,hev,hrun]) ?_
    show Exit.then _ _ .normal _ _
    have hfree:=hS1.Nw.free
    have WR:=(ZK.1 hmb).1
    let ν2:Mu:=ν1.set H1.length ⟨w1.heap.size,0,0,0⟩
    have hmono:∀b m,ν1 b=some m→ν2 b=some m:=by
     intro b m hm
     have hb:b≠H1.length:=fun e=>by rw[e,hS1.dom _ (Nat.le_refl _) oM]at hm;cases hm
     show ν1.set _ _ b=_
     rw[Mu.Jz _ _ hb];exact hm
    have hsame:∀b,b≠H1.length→ν2 b=ν1 b:=fun b hb=>Mu.Jz _ _ hb
    have h1:=(hS1.Nw.freeze hmb hz hmt Yi).alloc (.mapIter (some mt.c) cl #[] cl)
    have h2:=(h1.congr (ν:=ν2) (fun b hb=>hsame b (by simp at hb;omega)) hmono).Ggd
    have hS2:St (fun c=>if c=w1.heap.size then some (.mapIter (some mt.c) cl #[] cl)else K c) (Y0 B mt.c (.map xs cl)) L ν2 (H1.set mb ⟨[.agg es],.map,0⟩++[⟨[],.dead,0⟩]) (w1.alloc (.mapIter (some mt.c) cl #[] cl)):=
     ⟨h2,fun b hb hl=>by simp at hb;rw[hsame b oM];exact hS1.dom b oM hl⟩
    have hR2:ER [] ν2 N (E1.upd o.it (.ptr H1.length 0)) (a1.put rg.dst (.pointer (some ⟨w1.heap.size,0,none⟩))):=by
     rw[p8]
     refine(Sc.mono hmono).put (dst:=some o.it) (fun d hd=>by grind) ?_
     simp only[V]
     exact⟨_,Mu.set_self _ _ _,rfl⟩
    have hE2:Ext L H1 ν1 (H1.set mb ⟨[.agg es],.map,0⟩++[⟨[],.dead,0⟩]) ν2:=⟨sM,fun b hb=>hsame b oM,fun b hb=>hsame b oM⟩
    refine wpIn_mono (Sz (K:=K) (B:=B) (L:=L) (N:=N) hm hBr (n:=n) (fun k hk=>hF k oM) ho (m:=m) has hc' (live:=lv) ⟨g1,g2,g3,g4⟩ (mb:=mb) (es:=es) (r:=r1) hz Gu8 (H0:=H1) (ν0:=ν1) (mt:=mt) (rb:=w1.heap.size) hS1.Nw.base.size hfree hst (q:=_) rfl _ _
     ⟨es,_,_,ν2,#[],cl,fun l' hl'=>?_,hS2,hR2,hE2,?_,Nat.le_refl _,?_,OO,Mu.set_self _ _ _,hmono _ _ hmt,WR⟩) fun x a w hx=>?_
    ·obtain⟨z,hz1,hz2⟩:=hall l' hl'
     unfold JF at hz1
     rw[Jk]at hz1
     obtain⟨u,hu,hy⟩:=hz1
     exact⟨u,z,hu,hy,hz2⟩
    ·have:(leftOf xs #[]).toList=xs.toList:=by simp[leftOf]
     rw[this];exact hMR.mono hmono
    ·grind
    ·obtain⟨ν',El,hx1,hx2,hx3,hx4,hx5⟩:=hx
     have hk:∀t,D.contains t=false→r1.2.1 t=El t:=fun t ht=>by
      rw[hx4]
      unfold Bg
      by_cases hN:t<N
      ·have:lv.contains t=true:=by
        rw[←hlv,List.contains_iff_mem,List.mem_filter]
        exact⟨List.mem_range.2 hN,by rw[ht];rfl⟩
       rw[if_pos this]
      ·rw[hx3.top t oM]
       split<;>rfl
     obtain⟨cx,E3,H3⟩:=r1
     have hE3:=hE1.trans hx5
     cases cx with
     |normal=>
      simp only[XR]at hx1;subst hx1
      obtain⟨E4,h1,h2⟩:=Mt g5 hk hrest
      refine wpIn_mono (E8 hm hBr hF hrr (VD (K7 P) oM _ _ _ _ h1) hL hx2 hx3) fun x a w h=>?_
      obtain⟨ν5,y1,y2,y3,y4⟩:=h
      exact⟨ν5,y1,y2,⟨y3.defers,fun t ht=>by rw[h2 t (by simpa using g6 t ht)];exact y3.val t⟩,hE3.trans y4⟩
     |exit id=>
      simp only[GA]at hrest;subst hrest
      simp only[XR]at hx1;subst hx1
      exact⟨ν',rfl,hx2,⟨hx3.defers,fun t ht=>by rw[hk t (by simpa using g6 t ht)];exact hx3.val t⟩,hE3⟩
     |ret=>
      simp only[GA]at hrest;subst hrest
      simp only[XR]at hx1;subst hx1
      exact⟨ν',rfl,hx2,⟨hx3.defers,fun t ht=>by rw[hk t (by simpa using g6 t ht)];exact hx3.val t⟩,hE3⟩
  ·rename_i hl
   simp only[Jk,GD]at hc
   obtain⟨x',hx',y',hy',rfl⟩:=hc
   rw[Kh]at he
   dsimp only at he
   rw[Jk]at he
   obtain⟨q,hq,he⟩:=he
   have hqL:q.2.2.length≤L:=by
    split at he
    ·exact J2 (KT _ n he) hL
    grind
   refine wpIn_seq (wpIn_mono (E8 hm hBr (fun k hk=>hF k oM) hx' hq hqL hS hR) fun e a1 w1 h1=>?_)
   obtain⟨ν1,hx1,hS1,Sc,hE1⟩:=h1
   obtain⟨cx,E1,H1⟩:=q
   cases cx with
   |normal=>
    simp only[XR]at hx1;subst hx1
    exact wpIn_mono (ihy n (fun k hk=>hF k oM) y' E1 H1 r hy' he hL ν1 a1 w1 hS1 Sc) fun x a w h=>M7.later hE1 h
   |exit id=>
    simp only[GA]at he;subst he
    simp only[XR]at hx1;subst hx1
    exact⟨ν1,rfl,hS1,⟨Sc.defers,fun t _=>Sc.val t⟩,hE1⟩
   |ret=>
    simp only[GA]at he;subst he
    simp only[XR]at hx1;subst hx1
    exact⟨ν1,rfl,hS1,⟨Sc.defers,fun t _=>Sc.val t⟩,hE1⟩
 |_=>intro n hF cc E H r hc;simp[Al]at hc
end
end Go.Cs
namespace Go.Cs
open Go Go.RowKit
theorem ES(a:Int):∀l,(Gcl a l).Perm (a::l)
 |[]=>.refl _
 |b::l=>by
  unfold Gcl
  split
  ·exact .refl _
  ·exact((ES a l).cons b).trans (.swap a b l)
theorem Uo:∀l,(NC l).Perm l
 |[]=>.refl _
 |a::l=>(ES a _).trans ((Uo l).cons a)
theorem FX(a:Int):∀l:List Int,l.Pairwise (·≤·)→(Gcl a l).Pairwise (·≤·)
 |[],_=>by simp[Gcl]
 |b::l,h=>by
  obtain⟨h1,h2⟩:=List.pairwise_cons.1 h
  unfold Gcl
  split
  ·rename_i hab
   refine List.pairwise_cons.2 ⟨fun x hx=>?_,h⟩
   grind
  ·rename_i hab
   refine List.pairwise_cons.2 ⟨fun x hx=>?_,FX a l h2⟩
   rcases List.mem_cons.1 ((ES a l).mem_iff.1 hx)with rfl|hx
   ·omega
   ·exact h1 x hx
theorem QX:∀l,(NC l).Pairwise (·≤·)
 |[]=>.nil
 |a::l=>FX a _ (QX l)
theorem Q5(l:List Int):(NC l).length=l.length:=(Uo l).length_eq
theorem DR{l m:List Int}(hp:m.Perm l)(hs:m.Pairwise (·≤·)):m=NC l:=
 List.Perm.eq_of_pairwise (le:=fun a b=>a≤b) (fun a b _ _ h1 h2=>Int.le_antisymm h1 h2) hs (QX l) (hp.trans (Uo l).symm)
theorem Qo(l:List Int):l.mergeSort (fun x y=>decide (x≤y))=NC l:=
 DR (List.mergeSort_perm _ _) (by
  have:=List.pairwise_mergeSort (le:=fun x y:Int=>decide (x≤y)) (fun a b c h1 h2=>by simp at*;omega) (fun a b=>by simp;omega) l
  exact this.imp sM)
theorem FZ:∀{cs:List CV}{l:List Int},ZX cs=some l→cs=l.map .i
 |[],l,h=>by simp only[ZX,GA]at h;subst h;rfl
 |c::cs,l,h=>by
  unfold ZX at h
  split at h
  ·rename_i heq;cases heq
  ·rename_i n r heq
   simp only[List.cons.injEq]at heq
   obtain⟨rfl,rfl⟩:=heq
   rw[GD]at h
   obtain⟨l',h',rfl⟩:=h
   rw[FZ h']
   rfl
  ·cases h
def Ghv(P:Program)(f:Nat):Prop:=
 (∀(blk off cap:Nat)(zs:List Int)(w:World),Go.Sort.Holds (Value.int .i64) w blk off zs.toArray→blk<w.heap.size→zs.length≤16777216→
  Calls P f #[.slice (some ⟨blk,off,none⟩) zs.length cap] w fun e w'=>e=.returned (.tuple #[])∧∃n os,w'=Go.Sort.grow (Go.Sort.putRow (Value.int .i64) (Go.Sort.ahead w n) blk off (zs.mergeSort fun x y=>decide (x≤y)).toArray) os)∧
 ∀(p:Option Addr)(cap:Nat)(w:World),Calls P f #[.slice p 0 cap] w fun e w'=>e=.returned (.tuple #[])∧w'=w
def Gfz(P:Program)(f g:Nat):Prop:=
 ∀(w:World)(Bm b:Nat)(es:Array MapEntry)(cl:Nat)(ks:List Int),w.cell? ⟨Bm,0,none⟩=some (.map (some b))→w.heap[b]?=some (.map es cl)→MapKept.Stamped es cl→es.toList.map (·.key)=ks.map (Value.int .i64)→ks.length≤16777216→ks.all FU=true→Bm<w.heap.size→
  Calls P f #[.func (.func g) #[] #[.pointer (some ⟨Bm,0,none⟩)]] w fun e w'=>∃v,e=.returned v∧Below w.heap.size w w'∧
   ((ks=[]∧v=.slice none 0 0)∨ks≠[]∧∃c cap arr T,v=.slice (some ⟨c,0,none⟩) ks.length cap∧w.heap.size≤c∧w'.heap[c]?=some (.cells arr T (0,0))∧ks.length≤cap∧arr.size=cap∧arr.toList.take ks.length=(ks.mergeSort fun x y=>decide (x≤y)).map (Value.int .i64))
def D9(P:Program):Prop:=∀f fn,P.funcs[f]?=some fn→(isSort fn=true→Ghv P f)∧(isSorted fn=true→∀g,GaZ P=some g→Gfz P f g)
section
variable {P : Program} {K : Nat → Option Obj} {B : Bs} {L : Nat}
theorem JZ.grow{μ:Mu}{H:Gb}{w:World}(h:JZ K B μ H w)(os:Array Obj):JZ K B μ H (Go.Sort.grow w os):=by
 have old:∀{c:Nat}{o:Obj},w.heap[c]?=some o→(Go.Sort.grow w os).heap[c]?=some o:=fun hc=>by
  rw[Go.Sort.heap_grow_old _ _ (Vo.1 hc).1];exact hc
 exact⟨h.base.trans ⟨rfl,rfl,rfl,by simp[Go.Sort.grow],fun q hq=>Go.Sort.heap_grow_old _ _ (J6 hq h.base.size)⟩,fun c o hc=>old (h.kept c o hc),fun b k m h1 h2 h3 h4=>by
  obtain⟨arr,T,fz,e1,e2⟩:=h.blk b k m h1 h2 h3 h4
  exact⟨arr,T,fz,old e1,e2⟩,h.inj,fun b k m h1 h2 h3=>by
  obtain⟨ob,e1,e2⟩:=h.mp b k m h1 h2 h3
  exact⟨ob,old e1,e2⟩⟩
theorem GgT{f:Nat}(hc:Ghv P f){x:CV}{E:Env}{H:Gb}{r:CV×Gb}(hx:E 0=x)(h:UZ (.Bp (.tmp 0)) E H=some r){ν:Mu}{w:World}(hS:St K B L ν H w){v:Value}(hv:V ν x v):
  r.1=.Jj []∧Calls P f #[v] w fun e w'=>∃v' ν',e=.returned v'∧St K B L ν' r.2 w'∧V ν' (.Jj []) v'∧Ext L H ν r.2 ν':=by
 simp only[UZ,Env.ev,hx]at h
 have hu:V ν (.Jj []) (.tuple #[]):=by simp[V,VL]
 split at h
 ·rename_i b o len cap e tail
  simp only[V]at hv
  obtain⟨m,cap',off,hm,Guc,rfl,hlc,-,hoff,hfit⟩:=hv
  split at h
  ·rename_i h0
   simp only[GA]at h
   subst h;subst h0
   refine⟨rfl,(hc.2 _ cap' w).mono ?_⟩
   rintro e w' ⟨rfl,rfl⟩
   exact⟨_,ν,rfl,hS,hu,Ext.refl _ _ _⟩
  ·rename_i h0
   split at h
   case isFalse=>cases h
   rename_i hme
   obtain⟨rfl,hmax⟩:=hme
   simp only[Jk,GD]at h
   obtain⟨cs,hcs,l,hl,H',hst,rfl⟩:=h
   have hcl:=FZ hl
   subst hcl
   have ZI:off=m.s+o:=hoff.resolve_left oM
   subst ZI
   have hlen:l.length=len:=by
    have:=(hS.Nw.JD hcs hm).1;simpa using this
   subst hlen
   obtain⟨arr,T,hw,Xn,-,Gj_,hHl⟩:=hS.Nw.write (vs:=(NC l).map (Value.int .i64)) hst hm (by
    refine VL.Aq sM fun i c hi=>?_
    rw[Kr,GD]at hi
    obtain⟨z,hz,rfl⟩:=hi
    exact⟨.int .i64 z,by simp[hz],by simp[V]⟩)
   have hcells:∀j z,l[j]?=some z→arr[m.s+o+j]?=some (.int .i64 z):=by
    intro j z hz
    unfold JD at hcs
    split at hcs
    case h_2=>cases hcs
    rename_i blk hb
    split at hcs
    ·cases hcs
    rename_i hmode
    split at hcs
    case isFalse=>cases hcs
    simp only[GA]at hcs
    have hj:j<l.length:=(ZK.1 hz).1
    have h1:blk.cells[o+j]?=some (.i z):=by
     have:(l.map CV.i)[j]?=some (.i z):=by simp[hz]
     grind
    obtain⟨arr',T',fz',e1,e2,-⟩:=hS.Nw.blk b blk m hb (fun e=>hmode (.inl e)) (fun e=>hmode (.inr e)) hm
    rw[hw]at e1
    simp only[GA,Obj.cells.injEq]at e1
    obtain⟨rfl,rfl,rfl⟩:=e1
    obtain⟨u,hu1,hu2⟩:=e2 _ _ h1
    simp only[V]at hu2
    rw[Nat.add_assoc,hu1,hu2]
   have hH:Go.Sort.Holds (Value.int .i64) w m.c (m.s+o) l.toArray:=by
    intro j hj
    have hj':j<l.length:=by simpa using hj
    have hz:=hcells j l[j] (Jr hj')
    refine⟨?_,by simp[World.frozen?,hw]⟩
    simp only[World.cell?,hw,Option.isSome_none,Bool.false_eq_true,if_false]
    rw[hz]
    simp[hj']
   refine⟨rfl,(hc.1 m.c (m.s+o) cap' l w hH (Vo.1 hw).1 hmax).mono ?_⟩
   rintro e w' ⟨rfl,n,os,rfl⟩
   rw[Qo]
   refine⟨_,ν,rfl,⟨JZ.grow (Gj_.same (w':=Go.Sort.putRow (Value.int .i64) (Go.Sort.ahead w n) m.c (m.s+o) (NC l).toArray) ?_ rfl rfl rfl) os,fun b' hb' hl'=>hS.dom b' (by dsimp only at hb';omega) hl'⟩,hu,⟨by dsimp only;omega,fun _ _=>rfl,fun _ _=>rfl⟩⟩
   apply Array.ext_getElem?
   intro k
   by_cases hk:k=m.c
   ·subst hk
    rw[setRow_heap w m.c arr _ T (0,0) hw]
    simp only[Go.Sort.putRow,Go.Sort.mapBlock,Go.Sort.ahead,Array.getElem?_modify,if_true,hw,Option.map_some,Go.Sort.onCells,GA,Obj.cells.injEq,and_true]
    have hsl:=Q5 l
    simp only[QY,hsl]at Xn
    apply Array.ext_getElem?
    intro i
    simp only[Go.Sort.putCells,Array.getElem?_mapIdx,List.size_toArray,hsl,List.getElem?_toArray,QY]
    have hlt:m.s+o≤arr.toList.length:=by simp;omega
    rcases VB i (m.s+o)with h1|h1
    ·grind
    ·rcases VB i (m.s+o+l.length)with h2|h2
     ·grind
     grind
   ·rw[setRow_other w m.c k _ hk]
    simp[Go.Sort.putRow,Go.Sort.mapBlock,Go.Sort.ahead,Array.getElem?_modify,Ne.symm hk]
 ·simp only[GA]at h
  subst h
  simp only[V]at hv
  subst hv
  refine⟨rfl,(hc.2 _ 0 w).mono ?_⟩
  rintro e w' ⟨rfl,rfl⟩
  exact⟨_,ν,rfl,hS,hu,Ext.refl _ _ _⟩
 ·cases h
theorem Hw{μ:Mu}:∀{es:List CV}{l:List Int}{xs:List MapEntry},keysOf es=some l→JX μ es xs→xs.map (·.key)=l.map (Value.int .i64)
 |[],l,xs,h,hr=>by
  simp only[keysOf,GA]at h;subst h
  simp only[JX]at hr;subst hr;rfl
 |e::es,l,xs,h,hr=>by
  obtain⟨k,n,v,x,rest,rfl,rfl,h3,-,-,h6⟩:=hr
  unfold keysOf at h
  split at h
  ·rename_i heq;cases heq
  ·rename_i n' y r heq
   simp only[List.cons.injEq,CV.Jj.injEq,CV.int.injEq,and_true]at heq
   obtain⟨⟨⟨rfl,rfl⟩,rfl⟩,rfl⟩:=heq
   rw[GD]at h
   obtain⟨l',h',rfl⟩:=h
   rw[List.map_cons,List.map_cons,h3,Hw h' h6]
  ·cases h
theorem JZ.below{μ:Mu}{H:Gb}{w w':World}(h:JZ K B μ H w)(hb:Below w.heap.size w w'):JZ K B μ H w':=by
 have old:∀{c:Nat}{o:Obj},w.heap[c]?=some o→w'.heap[c]?=some o:=fun hc=>by
  rw[hb.block _ (Vo.1 hc).1];exact hc
 exact⟨⟨hb.os.trans h.base.os,hb.tape.trans h.base.tape,hb.output.trans h.base.output,J2 h.base.size hb.size,fun k hk=>by rw[hb.block k (J6 hk h.base.size)];exact h.base.block k hk⟩,fun c o hc=>old (h.kept c o hc),fun b k m h1 h2 h3 h4=>by
  obtain⟨arr,T,fz,e1,e2⟩:=h.blk b k m h1 h2 h3 h4
  exact⟨arr,T,fz,old e1,e2⟩,h.inj,fun b k m h1 h2 h3=>by
  obtain⟨ob,e1,e2⟩:=h.mp b k m h1 h2 h3
  exact⟨ob,old e1,e2⟩⟩
theorem Ghn{f g:Nat}(hc:Gfz P f g){x:CV}{E:Env}{H:Gb}{r:CV×Gb}(hx:E 0=x)(h:UZ (.KJ g (.tmp 0)) E H=some r){ν:Mu}{w:World}(hL:r.2.length≤L)(hS:St K B L ν H w){v:Value}(hv:V ν x v):
  Calls P f #[v] w fun e w'=>∃v' ν',e=.returned v'∧St K B L ν' r.2 w'∧V ν' r.1 v'∧Ext L H ν r.2 ν':=by
 simp only[UZ,Env.ev,hx]at h
 split at h
 case h_2=>cases h
 rename_i f' b
 split at h
 case isFalse=>cases h
 rename_i hfg
 subst hfg
 split at h
 case h_2=>cases h
 rename_i m' hb
 simp only[Jk]at h
 obtain⟨⟨mb,es⟩,hmo,l,hl,h⟩:=h
 obtain⟨rfl,hmb,hz⟩:=R4 hmo
 simp only[V,VL]at hv
 obtain⟨vs,rfl,u,rest,hvs,⟨mt,hmt,rfl⟩,rfl⟩:=hv
 have GrA:vs=#[.pointer (some ⟨mt.c,mt.s+0,none⟩)]:=by grind
 subst GrA
 obtain⟨arr,T,fz,hw,hcell,hrw,-⟩:=hS.Nw.blk b _ mt hb (fun e=>by cases e) (fun e=>by cases e) hmt
 obtain⟨-,-,hs0,rfl,-,-⟩:=hrw rfl
 have hs:mt.s=0:=hs0.1 rfl
 obtain⟨v0,hv0,hV0⟩:=hcell 0 _ rfl
 simp only[V]at hV0
 obtain⟨m2,hm2,rfl⟩:=hV0
 obtain⟨ob,Yi,Gmw,-,-⟩:=hS.Nw.mp mb _ m2 hmb rfl hm2
 obtain⟨xs,cl,rfl,hMR,hst,-⟩:=Gmw.map rfl
 rw[VJ hz]at hMR
 rw[hs,Nat.add_zero]at hv0⊢
 have hcl:w.cell? ⟨mt.c,0,none⟩=some (.map (some m2.c)):=by
  simp only[World.cell?,hw,Option.isSome_none,Bool.false_eq_true,if_false]
  exact hv0
 have hks:=Hw hl hMR
 have hmax:l.length≤16777216∧l.all FU=true:=by
  grind
 refine(hc w mt.c m2.c xs cl l hcl Yi hst hks hmax.1 hmax.2 (Vo.1 hw).1).mono ?_
 rintro e w' ⟨v,rfl,hbel,hcase⟩
 have hSb:=hS.Nw.below hbel
 rcases hcase with⟨rfl,rfl⟩|⟨hne,c,cap,Z0,T2,rfl,hcw,hw2,hcap,harr,htake⟩
 ·simp only[List.length_nil,if_true]at h
  simp only[GA]at h
  subst h
  exact⟨_,ν,rfl,⟨hSb,hS.dom⟩,by simp[V],Ext.refl _ _ _⟩
 ·by_cases hl0:l.length=0
  ·grind
  ·rw[if_neg hl0,if_pos hmax]at h
   simp only[GA]at h
   subst h
   rw[Qo]at htake
   simp only[Qi,List.length_cons,List.length_nil]at hL
   have hfree:∀d,w.heap.size≤d→K d=none:=fun d hd=>by
    cases hk:K d with
    |none=>rfl
    |some o=>have:=(Vo.1 (hS.Nw.kept d o hk)).1;omega
   have hk1:JZ (fun d=>if d=c then some (.cells Z0 T2)else K d) B ν H w':=by
    refine⟨hSb.base,fun d o hd=>?_,fun b k m h1 h2 h3 h4=>?_,hSb.inj,fun b k m h1 h2 h3=>?_⟩
    ·split at hd
     ·grind
     ·exact hSb.kept d o hd
    ·have hlt:=hS.Nw.there h1 h2 h4
     obtain⟨a1,a2,a3,a4,a5,a6,a7⟩:=hSb.blk b k m h1 h2 h3 h4
     grind
    ·have hlt:=hS.Nw.there h1 (by rw[h2];decide) h3
     obtain⟨ob,a1,a2,a3,a4⟩:=hSb.mp b k m h1 h2 h3
     grind
   have hmono:∀b m,ν b=some m→(ν.set H.length ⟨c,0,1,Z0.size⟩) b=some m:=by
    intro b m hm
    have hbn:b≠H.length:=fun e=>by rw[e,hS.dom _ (Nat.le_refl _) oM]at hm;cases hm
    rw[Mu.Jz _ _ hbn];exact hm
   have hk2:=hk1.congr (ν:=ν.set H.length ⟨c,0,1,Z0.size⟩) (fun b hb=>Mu.Jz _ _ oM) hmono
   have hsl:=Q5 l
   have hk3:=hk2.adopt (c:=c) (arr:=Z0) (T:=T2) (k:=⟨(NC l).map .i,.rw,1⟩) (s:=0) sM (J2 hS.Nw.base.size hcw) rfl ⟨fun _=>rfl,by simp[hsl];omega⟩ (Mu.set_self _ _ _) (fun i y hi=>by
    dsimp only at hi
    rw[Kr,GD]at hi
    obtain⟨z,hz',rfl⟩:=hi
    have hil:i<l.length:=by grind
    have h1:(Z0.toList.take l.length)[i]?=some (.int .i64 z):=by rw[htake];simp[hz']
    rw[Zx,if_pos hil,GjQ]at h1
    exact⟨_,by rw[Nat.zero_add];exact h1,by simp[V]⟩)
   refine⟨_,ν.set H.length ⟨c,0,1,Z0.size⟩,rfl,⟨hk3.less fun d o hd=>?_,fun b' hb' hl'=>?_⟩,?_,⟨sM,fun b' hb'=>Mu.Jz _ _ oM,fun b' hb'=>Mu.Jz _ _ oM⟩⟩
   ·grind
   ·simp at hb'
    rw[Mu.Jz _ _ oM];exact hS.dom b' oM hl'
   ·simp only[V]
    exact⟨_,cap,0,Mu.set_self _ _ _,rfl,rfl,hcap,by simpa using hcap,.inr rfl,by dsimp only;omega⟩
end
end Go.Cs
namespace Go.Cs
open Go Go.RowKit
section
variable {P : Program} {F : GQ} {K K0 : Nat → Option Obj} {B : Bs} {L N : Nat} {rd : Option Nat} {dp : Nat} {D D0 : List Deferred} {top : Bool}
def YL(tmps:Array Value):ResultVar→Sem Value
 |.tmp t=>pure (tmps.getD t undef)
 |.cell a t=>do loadVar t (←asAddr (tmps.getD a undef))
theorem GaV{ν:Mu}{E:Env}{H:Gb}{w:World}{tmps:Array Value}(hS:St K B L ν H w)(hV:∀t,V ν (E t) (tmps.getD t undef)):∀(l:List ResultVar)(rs:List Yh)(vs:List CV),Jt (l.map (Uv P))=some rs→Qu E H rs=some vs→
  ∃us,(l.mapM (YL tmps)).run P w=.ok us w∧VL ν vs us
 |[],rs,vs,h,hr=>by
  simp only[List.map_nil,Jt,GA]at h;subst h
  simp only[Qu,GA]at hr;subst hr
  exact⟨[],sM,by simp[VL]⟩
 |x::l,rs,vs,h,hr=>by
  simp only[List.map_cons]at h
  cases hx:Uv P x with
  |none=>rw[hx]at h;cases h
  |some y=>
   rw[hx]at h
   simp only[Jt,GD]at h
   obtain⟨ys,hys,rfl⟩:=h
   simp only[Qu,Jk,GD]at hr
   obtain⟨v,hv,us',Gl5,rfl⟩:=hr
   obtain⟨us,hrun,hVL⟩:=GaV hS hV l ys us' hys Gl5
   rw[List.mapM_cons]
   cases x with
   |tmp t=>
    simp only[Uv,GA]at hx;subst hx
    simp only[Ia,GA]at hv;subst hv
    refine⟨tmps.getD t undef::us,by simp only[YL,Sem.run_bind,Sem.run_pure,Result.andThen_ok,hrun],?_⟩
    simp only[VL]
    exact⟨_,_,rfl,hV t,hVL⟩
   |cell ad t=>
    simp only[Uv,Jk,GD]at hx
    obtain⟨g,hg,n,hn,rfl⟩:=hx
    simp only[Ia]at hv
    split at hv
    ·rename_i b o hb
     have h1:=hV ad
     rw[hb]at h1
     simp only[V]at h1
     obtain⟨m,hm,he⟩:=h1
     obtain⟨v',hr',hV'⟩:=Mr (P:=P) hS.Nw hg hn hv hm
     refine⟨v'::us,?_,?_⟩
     ·have h2:(YL tmps (.cell ad t)).run P w=.ok v' w:=by simp only[YL,he,asAddr,Sem.run_bind,Sem.run_pure,Result.andThen_ok,hr']
      simp_all
     ·simp only[VL];exact⟨_,_,rfl,hV',hVL⟩
    ·cases hv
theorem JZ.GlV{μ:Mu}{H:Gb}{w:World}(h:JZ K B μ H w){c:Nat}{o:Obj}(hc:K c=some o)(hB:B.heap.size≤c)(x:Obj):JZ (fun d=>if d=c then none else K d) B μ H (w.putObj c x):=by
 have Si:∀{d:Nat},d≠c→(w.heap.setIfInBounds c x)[d]?=w.heap[d]?:=fun hd=>by simp[Ne.symm hd]
 refine⟨h.base.trans ⟨rfl,rfl,rfl,by simp[World.putObj],fun q hq=>Si oM⟩,fun d y hy=>?_,fun b blk m h1 h2 h3 h4=>?_,h.inj,fun b blk m h1 h2 h3=>?_⟩
 ·split at hy
  ·cases hy
  ·rename_i hd;exact(Si hd).trans (h.kept d y hy)
 ·have hne:=h.Zf hc hB h1 h2 h4
  obtain⟨arr,T,fz,e1,e2,e3,e4⟩:=h.blk b blk m h1 h2 h3 h4
  exact⟨arr,T,fz,(Si hne).trans e1,e2,fun e=>by grind,e4⟩
 ·have hne:=h.Zf hc hB h1 (by rw[h2];decide) h3
  obtain⟨ob,e1,e2,e3,e4⟩:=h.mp b blk m h1 h2 h3
  exact⟨ob,(Si hne).trans e1,e2,e3,by rw[if_neg hne];exact e4⟩
theorem H_{fn:Func}{tmps:Array Value}{R:Ending→World→Prop}{n:Nat}{ν:Mu}{H:Gb}:∀(rs:List Nat)(K':Nat→Option Obj)(w:World),rs.Nodup→(∀r∈rs,K' r=some (.deferred (some []))∧K r=none∧B.heap.size≤r)→IC K K'→St K' B L ν H w→
  (∀w',St K B L ν H w'→∃v,(Go.results fn tmps).run P w'=.ok v w'∧R (.returned v) w')→LeavesInM Fence.wide n P fn tmps R (rs.map fun r=>{target:=.collected r,args:=#[]}) .returning w
 |[],K',w,_,_,hK,hS,hR=>hR w ⟨hS.Nw.less hK,hS.dom⟩
 |r::rs,K',w,hn,hrs,hK,hS,hR=>by
  obtain⟨h1,h2,h3⟩:=hrs r QT
  refine⟨sM,.inl ⟨r,_,rfl,run_takeDeferred (hS.Nw.kept r _ h1),?_⟩⟩
  refine H_ rs (fun d=>if d=r then none else K' d) _ (List.nodup_cons.1 hn).2 (fun r' hr'=>?_) (fun c o hc=>?_) ⟨hS.Nw.GlV h1 h3 _,hS.dom⟩ hR
  ·grind
  ·have hne:c≠r:=fun e=>by rw[e,h2]at hc;cases hc
   exact(if_neg hne).trans (hK c o hc)
theorem ER.entry{ν:Mu}{args:List CV}{tmps:Array Value}(hl:args.length≤N)(hs:N≤tmps.size)(hv:∀t,V ν (args.getD t .undef) (tmps.getD t undef)):ER [] ν N (entry args) {tmps,defers:=[]}:=
 ⟨rfl,hs,hv,fun t ht=>by unfold Cs.entry;grind⟩
theorem Ga4{z f0:Nat}{fn:Func}{x:Array Tmp×Code×Code}(h:VN P z=some (f0,fn,x)):P.funcs[f0]?=some fn∧f0=z/2/16:=by
 unfold VN at h
 rw[Jk]at h
 obtain⟨g,hg,h⟩:=h
 rw[Jk]at h
 grind
theorem XV{ν:Mu}{E:Env}{H:Gb}{w:World}{tmps:Array Value}(hS:St K B L ν H w){live:List Nat}(hV:∀t∈live,V ν (E t) (tmps.getD t undef)){l:List ResultVar}{rs:List Yh}{vs:List CV}(h:Jt (l.map (Uv P))=some rs)(hl:∀r∈rs,r.GdM∈live)(hr:Qu E H rs=some vs):
  ∃us,(l.mapM (YL tmps)).run P w=.ok us w∧VL ν vs us:=by
 induction l generalizing rs vs with
 |nil=>
  simp only[List.map_nil,Jt,GA]at h;subst h
  simp only[Qu,GA]at hr;subst hr
  exact⟨[],sM,by simp[VL]⟩
 |cons x l ih=>
  simp only[List.map_cons]at h
  cases hx:Uv P x with
  |none=>rw[hx]at h;cases h
  |some y=>
   rw[hx]at h
   simp only[Jt,GD]at h
   obtain⟨ys,hys,rfl⟩:=h
   simp only[Qu,Jk,GD]at hr
   obtain⟨v,hv,us',Gl5,rfl⟩:=hr
   obtain⟨us,hrun,hVL⟩:=ih hys (fun r hr=>hl r (VA _ hr)) Gl5
   have hy:=hl y QT
   rw[List.mapM_cons]
   cases x with
   |tmp t=>
    simp only[Uv,GA]at hx;subst hx
    simp only[Ia,GA]at hv;subst hv
    refine⟨tmps.getD t undef::us,by simp only[YL,Sem.run_bind,Sem.run_pure,Result.andThen_ok,hrun],?_⟩
    simp only[VL]
    exact⟨_,_,rfl,hV t hy,hVL⟩
   |cell ad t=>
    simp only[Uv,Jk,GD]at hx
    obtain⟨g,hg,n,hn,rfl⟩:=hx
    simp only[Ia]at hv
    split at hv
    ·rename_i b o hb
     have h1:=hV ad hy
     rw[hb]at h1
     simp only[V]at h1
     obtain⟨m,hm,he⟩:=h1
     obtain⟨v',hr',hV'⟩:=Mr (P:=P) hS.Nw hg hn hv hm
     refine⟨v'::us,?_,?_⟩
     ·have h2:(YL tmps (.cell ad t)).run P w=.ok v' w:=by simp only[YL,he,asAddr,Sem.run_bind,Sem.run_pure,Result.andThen_ok,hr']
      simp_all
     ·simp only[VL];exact⟨_,_,rfl,hV',hVL⟩
    ·cases hv
theorem PX{fn:Func}{cc:Gn}{rs:List Yh}(hrs:Jt (fn.results.toList.map (Uv P))=some rs){live:List Nat}(hl:∀r∈rs,r.GdM∈live){ν ν':Mu}{H H':Gb}{E':Env}{ms:List Nat}{K':Nat→Option Obj}{w':World}{a:Act}(hnd:ms.Nodup)(hms:∀r∈ms,K' r=some (.deferred (some []))∧K r=none∧B.heap.size≤r)(hK':IC K K')(hS':St K' B L ν' H' w')
  (hV:∀t∈live,V ν' (E' t) (a.tmps.getD t undef))(hd:a.defers=ms.map (fun r=>{target:=.collected r,args:=#[]}))(hE':Ext L H ν H' ν'){r:CV×Gb}(hr:(Cs.results ⟨fn.ntmps,0,cc,rs⟩ E' H').map (fun v=>(v,H'))=some r):
  LeavesInM Fence.wide 0 P fn a.tmps (fun e w'=>∃v' ν'',e=.returned v'∧St K B L ν'' r.2 w'∧V ν'' r.1 v'∧Ext L H ν r.2 ν'') a.defers .returning w':=by
 rw[GD]at hr
 obtain⟨v,hv,rfl⟩:=hr
 unfold Cs.results at hv
 rw[GD]at hv
 obtain⟨vs,hvs,rfl⟩:=hv
 rw[hd]
 refine H_ (K:=K) (B:=B) (L:=L) (ν:=ν') (H:=H') ms K' w' hnd hms hK' hS' fun w2 hS2=>?_
 obtain⟨us,hrun,hVL⟩:=XV (P:=P) hS2 hV hrs hl hvs
 have hrun':(Go.results fn a.tmps).run P w2=.ok (if h:us.toArray.size=1 then us.toArray[0]else .tuple us.toArray) w2:=by
  show(Array.mapM (YL a.tmps) fn.results >>= fun vs=>pure (if h:vs.size=1 then vs[0]else .tuple vs):Sem Value).run P w2=_
  rw[Array.mapM_eq_mapM_toList]
  simp_all
 refine⟨_,hrun',_,ν',rfl,hS2,?_,hE'⟩
 match vs,us,hVL with
 |[],us,hVL=>simp only[VL]at hVL;subst hVL;simp[V,VL]
 |[v],us,hVL=>
  simp only[VL]at hVL
  grind
 |v1::v2::vs,us,hVL=>
  have hl:=hVL.length
  have h1:¬(us.toArray.size=1):=by simp at hl⊢;omega
  rw[dif_neg h1]
  simp only[V]
  exact⟨_,rfl,by simpa using hVL⟩
theorem Glo{fn:Func}{p:String}{n:Nat}(h:GbU fn.name p n=true)(hd:(p.toList== "runtime.NumGoroutine".toList.take p.toList.length)=false:=by decide +kernel):fn.name≠ "runtime.NumGoroutine" :=by
 intro e
 unfold GbU at h
 simp_all
theorem Gg4(hp:D9 P){f:Nat}{fn:Func}(hfn:P.funcs[f]?=some fn) {cf:Gj} (hcf:GbM P fn=some cf) {n:Nat} {args:List CV} {H:Gb} {q:CX×Env×Gb} {r:CV×Gb} (hal:args.length≤cf.n) (hq:ev (K7 P) n cf.body (entry args) H=some q) (hleave:leave cf q=some r):
  (∃fn,P.funcs[f]?=some fn∧fn.name≠ "runtime.NumGoroutine" ∧fn.body.isSome=true)∧
  ∀K B L ν w (args':Array Value),Wh P B→r.2.length≤L→St K B L ν H w→VL ν args args'.toList→Calls P f args' w fun e w'=>∃v' ν',e=.returned v'∧St K B L ν' r.2 w'∧V ν' r.1 v'∧Ext L H ν r.2 ν':=by
 obtain⟨hp1,hp2⟩:=hp f fn hfn
 unfold GbM at hcf
 cases n with
 |zero=>cases hq
 |succ n=>
 have key:∀{x:Kc}{d:Option Nat}{rs:List Yh},cf=⟨1,0,.region [⟨d,none,x⟩],rs⟩→∃v,JY (Kk (K7 P) n) x (entry args) H=some v∧q=(.normal,(entry args).put d v.1,v.2):=by
  intro x d rs e
  subst e
  rw[Kh]at hq
  dsimp only at hq
  rw[GD]at hq
  obtain⟨y,hy,rfl⟩:=hq
  simp only[JW,Qs,wanted,if_true,Jk,GD]at hy
  grind
 split at hcf
 ·rename_i hn
  simp only[GA]at hcf
  obtain⟨v,hv,rfl⟩:=key hcf.symm
  subst hcf
  refine⟨⟨fn,hfn,Glo hn.1,hn.2⟩,fun K B L ν w args' _ hL hS hva=>?_⟩
  have hr:r=(.Jj [],v.2):=by
   simp only[leave,Cs.results,Qu,Option.map_some]at hleave
   simpa using hleave.symm
  subst hr
  match args,args',hva with
  |[],args',hva=>simp only[JY,UZ,Env.ev,entry]at hv;simp at hv
  |[x],args',hva=>
   have hl:=hva.length
   simp only[VL]at hva
   obtain⟨u,rest,h1,h2,rfl⟩:=hva
   have:args'=#[u]:=by grind
   subst this
   obtain⟨h3,h4⟩:=GgT (hp1 hn.1) (x:=x) (E:=entry [x]) rfl hv hS h2
   exact h4
  |x::y::l,args',hva=>
   grind
 ·split at hcf
  ·rename_i hn
   rw[GD]at hcf
   obtain⟨g,hg,hcf⟩:=hcf
   obtain⟨v,hv,rfl⟩:=key hcf.symm
   subst hcf
   refine⟨⟨fn,hfn,Glo hn.1,hn.2⟩,fun K B L ν w args' _ hL hS hva=>?_⟩
   have hr:r=v:=by
    simp only[leave,Cs.results,Qu,Ia,Option.map_some,Option.bind_some,Env.put,Env.upd]at hleave
    simpa using hleave.symm
   subst hr
   match args,args',hva with
   |[],args',hva=>simp only[JY,UZ,Env.ev,entry]at hv;simp at hv
   |[x],args',hva=>
    have hl:=hva.length
    simp only[VL]at hva
    obtain⟨u,rest,h1,h2,rfl⟩:=hva
    have:args'=#[u]:=by grind
    subst this
    exact Ghn (hp2 hn.1 g hg) (x:=x) (E:=entry [x]) rfl hv hL hS h2
   |x::y::l,args',hva=>
    grind
  ·cases hcf
theorem Ghu(hm:P.follows .mixedOrders=true)(hp:D9 P):∀n,D5 P (Kk (K7 P) n):=by
 intro n
 induction n using Nat.strongRecOn with
 |_ n ih=>
  intro f args H r h
  refine⟨Yv _ n _ _ _ _ h,fun hfb=>?_,fun z N fn ps a c hrnd=>?_⟩
  ·unfold Kk at h
   rw[Jk]at h
   obtain⟨cf,hcf,h⟩:=h
   split at h
   case isFalse=>cases h
   rename_i hal
   rw[Jk]at h
   obtain⟨q,hq,hleave⟩:=h
   unfold K7 at hcf
   rw[if_pos hfb,Jk]at hcf
   obtain⟨fn,hfn,hcf⟩:=hcf
   split at hcf
   ·rename_i cf' GnJ
    simp only[GA]at hcf
    subst hcf
    exact Gg4 hp hfn GnJ hal hq hleave
   unfold Xt at hcf
   obtain⟨hname,hcf⟩:=GI hcf
   rw[Jk]at hcf
   obtain⟨c,hbody,hcf⟩:=hcf
   rw[Jk]at hcf
   obtain⟨rs,hrs,hcf⟩:=hcf
   have Glf:q.2.2=r.2:=(EC hleave).symm
   refine⟨⟨fn,hfn,by simpa using hname,by simp[hbody]⟩,fun K B L ν w args' hBr hL hS hv=>callsIn_wide (n:=0) |>.1 ?_⟩
   refine callsIn_of_wp_marks hfn hbody trivial ?_
   have hlen:args'.size=args.length:=by have:=hv.length;simpa using this
   have hn:cf.n=fn.ntmps∧cf.round=0∧cf.res=rs:=by
    split at hcf
    ·grind
    ·rw[GD]at hcf;grind
   have hR:ER [] ν fn.ntmps (entry args) {tmps:=args'++Array.replicate (fn.ntmps-args'.size) undef,defers:=[]}:=by
    refine ER.entry (by rw[←hn.1];exact hal) (by simp;omega) fun t=>?_
    rcases VB t args.length with ht|ht
    ·have hx:args[t]?=some (args[t]'ht):=Jr ht
     obtain⟨u,hu,hV⟩:=hv.get hx
     have hu':args'[t]?=some u:=by simpa using hu
     rw[Bo,hx,Array.getD_eq_getD_getElem?,Array.getElem?_append_left oM,hu']
     exact hV
    ·rw[Bo,lX9 ht,Array.getD_eq_getD_getElem?,Array.getElem?_append_right oM,Array.getElem?_replicate]
     have:V ν CV.undef undef:=by simp[V,VL,undef]
     split<;>exact this
   have hlive:∀r∈rs,r.GdM∈rs.map Yh.GdM:=fun r hr=>List.mem_map_of_mem hr
   split at hcf
   ·rename_i cc hcc
    simp only[GA]at hcf
    subst hcf
    have hrn:Hu P f fn.ntmps c 0:=fun i x hi hk=>⟨fn,by
     unfold VN
     grind,rfl⟩
    refine wpIn_mono (ZO (rd:=none) (K0:=K) (D0:=[]) (N:=fn.ntmps) hm hBr (f:=f) (top:=true) (fun _=>rfl) n ih c 0 cc (entry args) H q hcc (fun _=>hrn) hq (by rw[Glf];exact hL) K [] ν _ w (IC.refl K) (Marks.nil K B) (fun h=>by cases h) hS hR) fun x a w' hx=>?_
    obtain⟨ν',K',D',Pd,hS',hR',hE',hK',⟨ms,rfl,hnd,hms⟩,-⟩:=hx
    obtain⟨cx,E',H'⟩:=q
    have fin:=fun hr=>PX (cc:=cc) hrs hlive hnd hms hK' hS' (fun t _=>hR'.val t) hR'.defers hE' (r:=r) hr
    cases cx with
    |normal=>simp only[XR]at Pd;subst Pd;exact fin hleave
    |ret=>simp only[XR]at Pd;subst Pd;exact fin hleave
    |exit id=>cases hleave
   ·rename_i hcc
    rw[GD]at hcf
    obtain⟨cc,hcc,rfl⟩:=hcf
    refine wpIn_mono (Giu (N:=fn.ntmps) hm hBr (f:=f) (live:=rs.map Yh.GdM) c n ih cc (entry args) H q hcc hq (by rw[Glf];exact hL) ν _ w hS hR) fun x a w' hx=>?_
    obtain⟨ν',Pd,hS',⟨hd',hV'⟩,hE'⟩:=hx
    obtain⟨cx,E',H'⟩:=q
    have fin:=fun hr=>PX (cc:=cc) hrs hlive (ms:=[]) List.nodup_nil (fun _ h=>by cases h) (IC.refl K) hS' hV' hd' hE' (r:=r) hr
    cases cx with
    |normal=>simp only[XR]at Pd;subst Pd;exact fin hleave
    |ret=>simp only[XR]at Pd;subst Pd;exact fin hleave
    |exit id=>cases hleave
  ·obtain⟨hz2,hps,f0,fn0,hat,rfl⟩:=hrnd
   obtain⟨Gyt,hf0⟩:=Ga4 hat
   constructor
   ·rintro rfl
    unfold Kk at h
    rw[Jk]at h
    obtain⟨cf,hcf,h⟩:=h
    split at h
    case isFalse=>cases h
    rename_i hal
    rw[Jk]at h
    obtain⟨q,hq,hleave⟩:=h
    unfold K7 at hcf
    rw[if_neg oM,Nat.add_sub_cancel_left]at hcf
    unfold EL at hcf
    rw[hat,Option.bind_some,if_pos hz2,GD]at hcf
    obtain⟨cc,hcc,rfl⟩:=hcf
    simp only at hal hq hcc
    obtain⟨cx,E',H'⟩:=q
    unfold leave at hleave
    simp only at hleave
    rw[if_neg dE,if_pos trivial]at hleave
    split at hleave
    case h_2=>cases hleave
    simp only[GA]at hleave
    subst hleave
    refine⟨_,rfl,sM,fun K B L ν w tmps l dp hBr hL hS hv hs=>?_⟩
    refine wpIn_mono (ZO (rd:=some l) (K0:=K) (D0:=[]) hm hBr (f:=f0) (top:=false) (fun h=>by cases h) n ih a 0 cc (entry args) H _ hcc (fun h=>by cases h) hq hL K [] ν _ w (IC.refl K) (Marks.nil K B) (fun _=>rfl) hS (ER.entry hal hs hv)) fun x a1 w1 hx=>?_
    obtain⟨ν',K',D',Pd,hS',hR',hE',hK',-,hD'⟩:=hx
    have:=hD' rfl
    subst this
    refine⟨ν',Pd,hR'.defers,hR'.size,fun t=>?_,⟨hS'.Nw.less hK',hS'.dom⟩,hE'⟩
    rw[Bo]
    rcases VB t fn0.ntmps with ht|ht
    ·rw[Kr,IX ht];exact hR'.val t
    ·rw[lX9 (by simpa using ht)]
     have:=hR'.val t
     rw[hR'.top t ht]at this
     exact this
   ·rintro rfl
    unfold Kk at h
    rw[Jk]at h
    obtain⟨cf,hcf,h⟩:=h
    split at h
    case isFalse=>cases h
    rename_i hal
    rw[Jk]at h
    obtain⟨q,hq,hleave⟩:=h
    have Gwl:VN P (z+1)=some (f0,fn0,ps,a,c):=by
     rw[←hat]
     unfold VN
     rw[show(z+1)/2=z/2 from by omega]
    unfold K7 at hcf
    rw[if_neg oM,Nat.add_assoc,Nat.add_sub_cancel_left]at hcf
    unfold EL at hcf
    rw[Gwl,Option.bind_some,if_neg oM,GD]at hcf
    obtain⟨cc,hcc,rfl⟩:=hcf
    simp only at hal hq hcc
    obtain⟨cx,E',H'⟩:=q
    unfold leave at hleave
    simp only at hleave
    rw[if_pos trivial,GA]at hleave
    subst hleave
    intro K B L ν w tmps l dp hBr hL hS hv hs
    refine wpIn_mono (ZO (rd:=some l) (K0:=K) (D0:=[]) hm hBr (f:=f0) (top:=false) (fun h=>by cases h) n ih c 0 cc (entry args) H _ hcc (fun h=>by cases h) hq hL K [] ν _ w (IC.refl K) (Marks.nil K B) (fun _=>rfl) hS (ER.entry hal hs hv)) fun x a1 w1 hx=>?_
    obtain⟨ν',K',D',Pd,hS',hR',hE',hK',-,-⟩:=hx
    refine⟨ν',?_,⟨hS'.Nw.less hK',hS'.dom⟩,hE'⟩
    cases cx with
    |normal=>exact .inl ⟨rfl,Pd⟩
    |ret=>exact .inr (.inl ⟨rfl,Pd⟩)
    |exit id=>exact .inr (.inr ⟨id,rfl,Pd⟩)
end
end Go.Cs
namespace Go.Cs
open Go Go.RowKit
theorem bridge{P:Program}{W:World}(hm:P.follows .mixedOrders=true)(hp:D9 P)(hG:ZR P W){f:Nat}(hfb:f<RB){args:List CV}{args':Array Value}{H0 H1:Gb}{μ:Mu}{v:CV}
  (h0:∀b blk m,H0[b]?=some blk→blk.mode≠.dead→μ b=some m→blk.mode=.ro∧m.c<W.heap.size∧∃arr T fz,W.heap[m.c]?=some (.cells arr T fz)∧∀(i:Nat)(c:CV),blk.cells[i]?=some c→∃v,arr[m.s+i]?=some v∧V μ c v)
  (hμ:∀b,H0.length≤b→μ b=none) (hrun:run (K7 P) f args H0=some (v,H1)) (hv:VL μ args args'.toList):
  Calls P f args' W fun e w'=>(∃ν v',e=.returned v'∧V ν v v')∧Below W.heap.size W w':=by
 obtain⟨n,hn⟩:=NR.1 hrun
 obtain⟨_,h⟩:=(Ghu hm hp n f args H0 (v,H1) hn).2.1 hfb
 have Nw:JZ (fun _=>none) ⟨W,XD P,fun _ _=>False⟩ μ H0 W:=by
  refine⟨Below.refl _ _,(fun c o h=>by cases h),fun b blk m hb hd _ hm=>?_,fun b1 b2 k1 k2 m1 m2 h1 h2 r1 r2 _ e1 e2=>?_,fun b blk m hb hd hm=>?_⟩
  ·obtain⟨q1,q2,arr,T,fz,q3,q4⟩:=h0 b blk m hb hd hm
   exact⟨arr,T,fz,q3,q4,(fun e=>by rw[q1]at e;cases e),fun _=>q2⟩
  ·have:=(h0 b1 k1 m1 h1 (by rcases r1 with r1|r1<;>(rw[r1];decide)) e1).1
   rcases r1 with r1|r1<;>(rw[r1]at this;cases this)
  ·have:=(h0 b blk m hb (by rw[hd];decide) hm).1
   rw[hd]at this;cases this
 refine(h (fun _=>none) ⟨W,XD P,fun _ _=>False⟩ H1.length μ W args' ⟨rfl,hG⟩ (Nat.le_refl _) ⟨Nw,fun b hb _=>hμ b hb⟩ hv).mono fun e w' he=>?_
 obtain⟨v',ν',rfl,hS,hV,_⟩:=he
 exact⟨⟨ν',v',rfl,hV⟩,hS.Nw.base⟩
end Go.Cs
namespace Go.Cs
open Go
section
variable {α : Type} {p : J5} {F : GQ} {E : Env} {H : Gb}
structure Keep{β:Type}(b:β):Type where
def sq(o:Option (CX×Env×Gb))(k:Env→Gb→Option (CX×Env×Gb))(_:Keep k):Option (CX×Env×Gb):=
 o.bind fun r=>match r.1 with|.normal=>k r.2.1 r.2.2|_=>some r
def opk(o:Option (CV×Gb))(k:CV→Gb→Option α)(_:Keep k):Option α:=o.bind fun q=>k q.1 q.2
def gk(v:CV)(b:Bool)(x y:α)(_:Keep (x,y)):α:=match v with|.bool c=>if c=b then x else y|_=>y
def ck(v:CV)(x y:Option α)(_:Keep (x,y)):Option α:=match v with|.bool t=>if t then x else y|_=>none
def ZH(F:GQ)(l:List GH)(E:Env)(H:Gb)(k:Env→Gb→Option α)(_:Keep (l,k)):Option α:=(JW F l E H).bind fun q=>k q.1 q.2
theorem Gbw{k:Env→Gb→Option α}{h:Keep (([]:List GH),k)}:ZH F [] E H k h=k E H:=rfl
theorem Gam{d:Option Nat}{op:Kc}{r:List GH}{k:Env→Gb→Option α}{h:Keep ((⟨d,none,op⟩::r:List GH),k)}:ZH F (⟨d,none,op⟩::r) E H k h=opk (JY F op E H) (fun v H'=>ZH F r (E.put d v) H' k ⟨⟩) ⟨⟩:=by
 show(JW F (⟨d,none,op⟩::r) E H).bind _=_
 unfold JW Qs wanted opk
 simp only[if_true]
 cases JY F op E H<;>rfl
theorem S_{d:Option Nat}{op:Kc}{t:Nat}{b:Bool}{r:List GH}{k:Env→Gb→Option α}{h:Keep ((⟨d,some (t,b),op⟩::r:List GH),k)}:
  ZH F (⟨d,some (t,b),op⟩::r) E H k h=gk (E t) b (opk (JY F op E H) (fun v H'=>ZH F r (E.put d v) H' k ⟨⟩) ⟨⟩) (ZH F r (E.put d .undef) H k ⟨⟩) ⟨⟩:=by
 show(JW F (⟨d,some (t,b),op⟩::r) E H).bind _=_
 unfold JW Qs wanted gk opk
 cases hE:E t<;>simp only[hE,Bool.false_eq_true,if_false,Option.bind_some]<;>try rfl
 rename_i c
 by_cases hc:c=b
 ·simp only[hc,beq_self_eq_true,if_true]
  cases JY F op E H<;>rfl
 ·have:(c==b)=false:=by simpa using hc
  simp only[this,Bool.false_eq_true,if_false,hc,Option.bind_some]
  rfl
noncomputable def Zy(F:GQ)(l:List G8)(E:Env)(H:Gb)(hs:List Gb)(k:Env→Gb→Option α)(_:Keep (l,k)):Option α:=(AU F l E H hs).bind fun q=>k q.1 q.2
theorem Z9{d:G8}{r:List G8}{hs:List Gb}:AU F (d::r) E H hs=(open Classical in
 if wanted d.s.guard E=false then AU F r (E.put d.s.dst .undef) H (if d.kind=3 then H::hs else hs)
 else if d.kind=3 then(JY F d.s.op E H).bind fun p=>AU F r (E.put d.s.dst p.1) p.2 (H::hs)
 else(G7 d.s.op E H).bind fun m=>
  if d.kind=1→∀H'∈hs.take (hs.length-d.low),G7 d.s.op E H'=some m then
   AU F r (E.put d.s.dst (made H m).1) (made H m).2 hs else none):=by rw[AU]
theorem Gf7{hs:List Gb}{k:Env→Gb→Option α}{h:Keep (([]:List G8),k)}:Zy F [] E H hs k h=k E H:=rfl
noncomputable def must(c:Prop)(x:Option α)(_:Keep x):Option α:=open Classical in if c then x else none
theorem Gew{x:Option α}{h:Keep x}:must True x h=x:=by unfold must;exact if_pos trivial
theorem Gc0{c:Prop}{x:Option α}{k:Keep x}(h:c):must c x k=x:=by unfold must;exact if_pos h
def mk1(o:Option (Option JE×(Nat→CV)))(k:(Option JE×(Nat→CV))→Option α)(_:Keep k):Option α:=o.bind k
theorem Ghq{m:Option JE×(Nat→CV)}{k:(Option JE×(Nat→CV))→Option α}{h:Keep k}:mk1 (some m) k h=k m:=rfl
theorem Gnn{d:Option Nat}{op:Kc}{no low:Nat}{r:List G8}{hs:List Gb}{k:Env→Gb→Option α}{h:Keep ((⟨⟨d,none,op⟩,no,0,low⟩::r:List G8),k)}:
  Zy F (⟨⟨d,none,op⟩,no,0,low⟩::r) E H hs k h=mk1 (G7 op E H) (fun m=>Zy F r (E.put d (made H m).1) (made H m).2 hs k ⟨⟩) ⟨⟩:=by
 unfold Zy mk1
 rw[Z9]
 unfold wanted
 grind
theorem GmI{d:Option Nat}{op:Kc}{no low:Nat}{r:List G8}{hs:List Gb}{k:Env→Gb→Option α}{h:Keep ((⟨⟨d,none,op⟩,no,1,low⟩::r:List G8),k)}:
  Zy F (⟨⟨d,none,op⟩,no,1,low⟩::r) E H hs k h=mk1 (G7 op E H) (fun m=>must (∀H'∈hs.take (hs.length-low),G7 op E H'=some m) (Zy F r (E.put d (made H m).1) (made H m).2 hs k ⟨⟩) ⟨⟩) ⟨⟩:=by
 unfold Zy mk1 must
 rw[Z9]
 unfold wanted
 grind
theorem GmW{d:Option Nat}{op:Kc}{no low:Nat}{r:List G8}{hs:List Gb}{k:Env→Gb→Option α}{h:Keep ((⟨⟨d,none,op⟩,no,3,low⟩::r:List G8),k)}:
  Zy F (⟨⟨d,none,op⟩,no,3,low⟩::r) E H hs k h=opk (JY F op E H) (fun v H'=>Zy F r (E.put d v) H' (H::hs) k ⟨⟩) ⟨⟩:=by
 unfold Zy opk
 rw[Z9]
 unfold wanted
 grind
theorem Gmm{d:Option Nat}{op:Kc}{no kind low t:Nat}{b:Bool}{r:List G8}{hs:List Gb}{k:Env→Gb→Option α}{h:Keep ((⟨⟨d,some (t,b),op⟩,no,kind,low⟩::r:List G8),k)}:
  Zy F (⟨⟨d,some (t,b),op⟩,no,kind,low⟩::r) E H hs k h=gk (E t) b (Zy F (⟨⟨d,none,op⟩,no,kind,low⟩::r) E H hs k ⟨⟩) (Zy F r (E.put d .undef) H (if kind=3 then H::hs else hs) k ⟨⟩) ⟨⟩:=by
 unfold Zy gk
 cases hE:E t<;>(rw[Z9];simp only[wanted,hE,if_true])
 rename_i c
 by_cases hc:c=b
 ·simp only[hc,beq_self_eq_true,if_true,Bool.true_eq_false,if_false]
  rw[Z9]
  simp only[wanted,Bool.true_eq_false,if_false]
 grind
theorem Ghr:den p .skip E H=some (.normal,E,H):=by rw[UE]
theorem Gj0:den p .ret E H=some (.ret,E,H):=by rw[UE]
theorem Gf3{id:Nat}:den p (.exit id) E H=some (.exit id,E,H):=by rw[UE]
theorem Gbc{ops:List GH}:den p (.region ops) E H=ZH (run p) ops E H (fun E H=>some (.normal,E,H)) ⟨⟩:=by
 rw[UE]
 unfold ZH
 dsimp only
 cases JW (run p) ops E H<;>rfl
theorem Xz{ops:List G8}:den p (.QK ops) E H=Zy (run p) ops E H [] (fun E H=>some (.normal,E,H)) ⟨⟩:=by
 rw[UE]
 unfold Zy
 dsimp only
 cases AU (run p) ops E H []<;>rfl
theorem Gks{a b:Gn}:den p (.seq a b) E H=sq (den p a E H) (fun E H=>den p b E H) ⟨⟩:=by rw[UE];rfl
theorem GfU{c:Jy}{a b:Gn}:den p (.cond c a b) E H=ck (E.ev c) (den p a E H) (den p b E H) ⟨⟩:=by
 rw[UE]
 unfold ck
 grind
def blk(id:Nat)(o:Option (CX×Env×Gb)):Option (CX×Env×Gb):=o.map fun r=>(r.1.inBlock id,r.2)
theorem GdF{id:Nat}{c:Gn}:den p (.block id c) E H=blk id (den p c E H):=by rw[UE];rfl
theorem XA{c:Gn}:den p (.loop c) E H=sq (den p c E H) (fun E H=>den p (.loop c) E H) ⟨⟩:=by
 conv=>lhs;rw[UE]
 rfl
theorem GbA{id:Nat}:blk id (some (.normal,E,H))=some (.normal,E,H):=rfl
theorem Gji{id:Nat}:blk id (some (.ret,E,H))=some (.ret,E,H):=rfl
theorem Ghx{id i:Nat}:blk id (some (.exit i,E,H))=some (if i=id then .normal else .exit i,E,H):=rfl
section
variable {k : Env → Gb → Option (CX × Env × Gb)} {h : Keep k}
theorem Rm:sq (some (.normal,E,H)) k h=k E H:=rfl
theorem GlS:sq (some (.ret,E,H)) k h=some (.ret,E,H):=rfl
theorem Gkw{i:Nat}:sq (some (.exit i,E,H)) k h=some (.exit i,E,H):=rfl
end
theorem Gi9{v:CV}{k:CV→Gb→Option α}{h:Keep k}:opk (some (v,H)) k h=k v H:=rfl
section
variable {x y : α} {h : Keep (x, y)}
theorem Gpm:gk (.bool true) true x y h=x:=rfl
theorem Gpk:gk (.bool true) false x y h=y:=rfl
theorem GoO:gk (.bool false) true x y h=y:=rfl
theorem Gpt:gk (.bool false) false x y h=x:=rfl
theorem GmE{l:List CV}{b:Bool}:gk (.Jj l) b x y h=y:=rfl
end
section
variable {x y : Option α} {h : Keep (x, y)}
theorem GsI:ck (.bool true) x y h=x:=rfl
theorem Gsy:ck (.bool false) x y h=y:=rfl
end
def lv(rs:List Yh)(o:Option (CX×Env×Gb)):Option (CV×Gb):=o.bind fun r=>leave ⟨0,0,.skip,rs⟩ r
theorem Gh{f n:Nat}{body:Gn}{res:List Yh}(hf:p f=some ⟨n,0,body,res⟩)(a:List CV)(H:Gb)(ha:a.length≤n):run p f a H=lv res (den p body (entry a) H):=run_eq hf a ha H
def fin(rs:List Yh)(E:Env)(H:Gb):Option (CV×Gb):=(Qu E H rs).map fun vs=>((match vs with|[v]=>v|vs=>.Jj vs),H)
theorem Gl9{rs:List Yh}:lv rs (some (.ret,E,H))=fin rs E H:=by
 unfold lv leave results fin
 simp only[Option.bind_some]
 cases Qu E H rs<;>rfl
theorem GdE{rs:List Yh}:lv rs (some (.normal,E,H))=fin rs E H:=by
 unfold lv leave results fin
 simp only[Option.bind_some]
 cases Qu E H rs<;>rfl
theorem GoW:fin [] E H=some (.Jj [],H):=rfl
theorem Goj{t:Nat}:fin [.tmp t] E H=some (E t,H):=rfl
theorem Gpl{t u:Nat}:fin [.tmp t,.tmp u] E H=some (.Jj [E t,E u],H):=rfl
def rc(H:Gb)(agg:Bool)(n:Nat):CV→Option CV
 |.ptr b o=>if agg then(JD H b o n).map .agg else QW H b o
 |_=>none
theorem Go1{t n:Nat}{g:Bool}:fin [.cell t g n] E H=(rc H g n (E t)).map fun v=>(v,H):=by
 unfold fin
 simp only[Qu,Ia,rc]
 cases E t<;>simp only[Option.bind_none,Option.map_none]
 split<;>first|(cases QW _ _ _<;>rfl)|(cases JD _ _ _ _<;>rfl)
theorem Gl_{t n u:Nat}{g:Bool}:fin [.cell t g n,.tmp u] E H=(rc H g n (E t)).map fun v=>(.Jj [v,E u],H):=by
 unfold fin
 simp only[Qu,Ia,rc]
 cases E t<;>simp only[Option.bind_none,Option.map_none]
 split<;>first|(cases QW _ _ _<;>rfl)|(cases JD _ _ _ _<;>rfl)
theorem Gf_{d:Nat}{v:CV}:E.put (some d) v=E.upd d v:=rfl
theorem GiG{v:CV}:E.put none v=E:=rfl
theorem EX{t:Nat}:E.ev (.tmp t)=E t:=rfl
theorem Ghz{v:CV}:E.ev (.const v)=v:=rfl
theorem Gc{d t:Nat}{v:CV}:(E.upd d v) t=if t=d then v else E t:=rfl
def base:Env:=fun _=>.undef
theorem Gk2:entry []=base:=rfl
theorem DK{a:CV}:entry [a]=base.upd 0 a:=by
 funext t;unfold entry Env.upd base
 grind
theorem QG{a b:CV}:entry [a,b]=(base.upd 0 a).upd 1 b:=by
 funext t;unfold entry Env.upd base
 grind
theorem A9{a b c:CV}:entry [a,b,c]=((base.upd 0 a).upd 1 b).upd 2 c:=by
 funext t;unfold entry Env.upd base
 grind
theorem NY{a b c d:CV}:entry [a,b,c,d]=(((base.upd 0 a).upd 1 b).upd 2 c).upd 3 d:=by
 funext t;unfold entry Env.upd base
 grind
theorem GjU{a b c d e:CV}:entry [a,b,c,d,e]=((((base.upd 0 a).upd 1 b).upd 2 c).upd 3 d).upd 4 e:=by
 funext t;unfold entry Env.upd base
 grind
def Gip(c a b:CV)(H:Gb):Option (CV×Gb):=match c with|.bool t=>some (if t then a else b,H)|_=>none
def PO(g:Bool)(n:Nat)(H:Gb):CV→Option (CV×Gb)
 |.ptr b o=>if g then(JD H b o n).map fun cs=>(.agg cs,H)else(QW H b o).map fun v=>(v,H)
 |_=>none
def OD(n:Nat)(H:Gb)(a v:CV):Option (CV×Gb):=match a with
 |.ptr b o=>if(cellsOf v).length=n then(Nh H b o (cellsOf v)).map fun H'=>(.undef,H')else none
 |_=>none
def GmQ(H:Gb):CV→Option (CV×Gb)
 |.ptr b o=>some (.ptr b o,H)
 |.iface t c=>some (.iface t c,H)
 |_=>none
def UU(op:BinOp)(x y:CV)(H:Gb):Option (CV×Gb):=match x,y with
 |.int k a,.int k' b=>if k=k' then(Ko op k a b).map fun v=>(v,H)else none
 |_,_=>none
def OZ(g:Bool)(ty:Nat)(x y:CV)(H:Gb):Option (CV×Gb):=(Oj ty x y).map fun t=>(.bool (if g then !t else t),H)
def Gfi(g:Bool)(n:Nat)(x y:CV)(H:Gb):Option (CV×Gb):=match x,y with
 |.agg xs,.agg ys=>if xs.length=n then(Qn xs ys).map fun t=>(.bool (if g then !t else t),H)else none
 |_,_=>none
def Gm8(x:CV)(H:Gb):Option (CV×Gb):=match x with|.bool t=>some (.bool !t,H)|_=>none
def GhZ(GN:Nat)(z:List CV)(l c:CV)(H:Gb):Option (CV×Gb):=match l,c with
 |.int .i64 l,.int .i64 c=>if 0≤l∧l≤c∧c≤(J9:Int)then some (.slice H.length 0 l.toNat c.toNat GN false,H++[⟨(List.replicate c.toNat z).flatten,.rw,GN⟩])else none
 |_,_=>none
def GbQ(off:Nat)(H:Gb):CV→Option (CV×Gb)
 |.ptr b o=>some (.ptr b (o+off),H)
 |_=>none
def JM(GN:Nat)(x i:CV)(H:Gb):Option (CV×Gb):=match x,i with
 |.slice b o len _ _ _,.int _ i=>if 0≤i∧i<(len:Int)then some (.ptr b (o+i.toNat*GN),H)else none
 |_,_=>none
def La(x:CV)(i:Nat)(H:Gb):Option (CV×Gb):=match x with|.Jj vs=>vs[i]?.map fun v=>(v,H)|_=>none
def UK(x:CV)(H:Gb):Option (CV×Gb):=match x with
 |.slice _ _ len _ _ _=>some (.i len,H)
 |.Gd=>some (.i 0,H)
 |_=>none
def TV(F:GQ)(g:CV)(args:List CV)(H:Gb):Option (CV×Gb):=match g with
 |.func f caps=>if f<RB then F f (args++caps) H else none
 |.yld b=>yieldOf F b args H
 |_=>none
def Gb7(o:Option (List CV))(H:Gb):Option (CV×Gb):=o.map fun cs=>(.agg cs,H)
def TG(o:Option (List CV))(GN len:Nat)(H:Gb):Option (CV×Gb):=o.map fun cs=>(.slice H.length 0 len len GN false,H++[⟨cs,.rw,GN⟩])
def Gba(o:Option CV)(H:Gb):Option (CV×Gb):=o.map fun v=>(v,H)
def GcR(GN:Nat)(s:CV)(o:Option (Nat×List CV))(H:Gb):Option (CV×Gb):=o.bind fun q=>Ju H GN s q.1 q.2
theorem Gi_{x:Jy}:JY F (.Km x) E H=some (E.ev x,H):=rfl
theorem Gi5{c a b:Jy}:JY F (.pick c a b) E H=Gip (E.ev c) (E.ev a) (E.ev b) H:=by
 simp only[JY,UZ,G7,Gip]<;>cases E.ev c<;>rfl
theorem Gkf{cs:List CV}:JY F (.new cs) E H=some (.ptr H.length 0,H++[⟨cs,.rw,0⟩]):=rfl
theorem Gkt{x:Jy}:JY F (.box x) E H=some (.ptr H.length 0,H++[⟨cellsOf (E.ev x),.rw,0⟩]):=rfl
theorem Gd2{z:List CV}{ps:List (Nat×Nat×Jy)}:JY F (.build z ps) E H=Gb7 (fill z (KM E ps)) H:=by
 simp only[JY,UZ,G7,Gb7]<;>cases fill z (KM E ps)<;>rfl
theorem LK{GN len:Nat}{z:List CV}{ps:List (Nat×Nat×Jy)}:JY F (.buildSlice GN z len ps) E H=TG (fill z (KM E ps)) GN len H:=by
 simp only[JY,UZ,G7,TG]<;>cases fill z (KM E ps)<;>rfl
theorem Gh9{g:Bool}{n:Nat}{a:Jy}:JY F (.load g n a) E H=PO g n H (E.ev a):=by
 simp only[JY,UZ,G7,PO]
 cases E.ev a<;>first|rfl|skip
 rename_i b o
 cases g
 ·simp only[Bool.false_eq_true,if_false];cases QW H b o<;>rfl
 ·simp only[if_true];cases JD H b o n<;>rfl
theorem GdD{n:Nat}{a v:Jy}:JY F (.store n a v) E H=OD n H (E.ev a) (E.ev v):=rfl
theorem TP{x:Jy}:JY F (.nilCheck x) E H=GmQ H (E.ev x):=by
 simp only[JY,UZ,G7,GmQ]<;>cases E.ev x<;>rfl
theorem Gj3{op:BinOp}{x y:Jy}:JY F (.bin op x y) E H=UU op (E.ev x) (E.ev y) H:=by
 simp only[JY,UZ,G7,UU]
 cases E.ev x<;>cases E.ev y<;>first|rfl|skip
 rename_i k a k' b
 by_cases h:k=k'
 ·simp only[h,if_true];cases Ko op k' a b<;>rfl
 ·simp only[h,if_false];rfl
theorem Gkc{g:Bool}{ty:Nat}{x y:Jy}:JY F (.eqv g ty x y) E H=OZ g ty (E.ev x) (E.ev y) H:=by
 simp only[JY,UZ,G7,OZ]<;>cases Oj ty (E.ev x) (E.ev y)<;>rfl
theorem Gjp{g:Bool}{n:Nat}{x y:Jy}:JY F (.eqs g n x y) E H=Gfi g n (E.ev x) (E.ev y) H:=by
 simp only[JY,UZ,G7,Gfi]
 cases E.ev x<;>cases E.ev y<;>first|rfl|skip
 rename_i xs ys
 dsimp only
 by_cases h:xs.length=n
 ·rw[if_pos h,if_pos h];cases Qn xs ys<;>rfl
 ·rw[if_neg h,if_neg h];rfl
theorem Gjz{x:Jy}:JY F (.not x) E H=Gm8 (E.ev x) H:=by
 simp only[JY,UZ,G7,Gm8]<;>cases E.ev x<;>rfl
theorem Lf{f:Nat}{cs:List Jy}:JY F (.Ug f cs) E H=some (.func f (cs.map E.ev),H):=rfl
theorem Pp{GN:Nat}{z:List CV}{l c:Jy}:JY F (.makeSlice GN z l c) E H=GhZ GN z (E.ev l) (E.ev c) H:=by
 show(G7 (.makeSlice GN z l c) E H).map (made H)=_
 unfold G7 GhZ
 dsimp only
 generalize E.ev l=a
 generalize E.ev c=b
 cases a<;>try rfl
 rename_i k n
 cases k<;>try rfl
 cases b<;>try rfl
 rename_i k' n'
 cases k'<;>try rfl
 dsimp only
 by_cases h:0≤n∧n≤n'∧n'≤(J9:Int)
 ·simp only[if_pos h];rfl
 ·simp only[if_neg h];rfl
theorem GdT{GN:Nat}{x:Jy}{lo hi mx:Option Jy}:JY F (.slice GN x lo hi mx) E H=Gba (sliceTo E GN (E.ev x) lo hi mx) H:=by
 simp only[JY,UZ,G7,Gba]<;>cases sliceTo E GN (E.ev x) lo hi mx<;>rfl
theorem Gfq{off:Nat}{x:Jy}:JY F (.field off x) E H=GbQ off H (E.ev x):=by
 simp only[JY,UZ,G7,GbQ]<;>cases E.ev x<;>rfl
theorem Gfp{GN:Nat}{x i:Jy}:JY F (.index GN x i) E H=JM GN (E.ev x) (E.ev i) H:=by
 simp only[JY,UZ,G7,JM]
 cases E.ev x<;>cases E.ev i<;>first|rfl|skip
 rename_i b o len cap ez tl k i
 dsimp only
 by_cases h:0≤i∧i<(len:Int)
 ·rw[if_pos h,if_pos h];rfl
 ·rw[if_neg h,if_neg h];rfl
theorem XJ{x:Jy}{i:Nat}:JY F (.extract x i) E H=La (E.ev x) i H:=by
 simp only[JY,UZ,G7,La]
 cases E.ev x<;>first|rfl|skip
 rename_i vs
 dsimp only
 cases vs[i]?<;>rfl
theorem Gco{x:Jy}:JY F (.len x) E H=UK (E.ev x) H:=by
 simp only[JY,UZ,G7,UK]<;>cases E.ev x<;>rfl
theorem Gce{GN:Nat}{s x:Jy}:JY F (.append GN s x) E H=GcR GN (E.ev s) (elems H GN (E.ev x)) H:=rfl
theorem Gin{f:Nat}{l:List Jy}:JY F (.call f l) E H=F f (l.map E.ev) H:=rfl
theorem GeE{g:Jy}{l:List Jy}:JY F (.KH g l) E H=TV F (E.ev g) (l.map E.ev) H:=by
 simp only[JY,TV]
 try (cases E.ev g<;>rfl)
end
end Go.Cs
namespace Go.Cs
theorem uA{p:Prop}(h:p:=by simp [Gc]):p:=h
end Go.Cs
namespace Go.Cs
open Go
section
variable {α : Type} {p : J5} {F : GQ} {E : Env} {H : Gb}
def ld(x:Option JE)(o:Nat):Option CV:=match x with
 |some k=>if k.mode=.dead∨k.mode=.map then none else k.cells[o]?
 |none=>none
def Ba(x:Option JE)(o n:Nat):Option (List CV):=match x with
 |some k=>if k.mode=.dead∨k.mode=.map then none else if o+n≤k.cells.length then some ((k.cells.drop o).take n)else none
 |none=>none
def Hl(H:Gb)(b:Nat)(x:Option JE)(o:Nat)(vs:List CV):Option Gb:=match x with
 |some k=>if k.mode=.rw∧o+vs.length≤k.cells.length∧vs.all leaf=true then some (H.set b {k with cells:=splice k.cells o vs})else none
 |none=>none
theorem OP{b o:Nat}:QW H b o=ld H[b]? o:=rfl
theorem Yl{b o n:Nat}:JD H b o n=Ba H[b]? o n:=rfl
theorem YH{b o:Nat}{vs:List CV}:Nh H b o vs=Hl H b H[b]? o vs:=rfl
theorem Ym{cs:List CV}{e o:Nat}:ld (some ⟨cs,.rw,e⟩) o=cs[o]?:=rfl
theorem Gla{cs:List CV}{e o:Nat}:ld (some ⟨cs,.ro,e⟩) o=cs[o]?:=rfl
theorem Qg{cs:List CV}{e o n:Nat}:Ba (some ⟨cs,.rw,e⟩) o n=if o+n≤cs.length then some ((cs.drop o).take n)else none:=rfl
theorem GbB{cs:List CV}{e o n:Nat}:Ba (some ⟨cs,.ro,e⟩) o n=if o+n≤cs.length then some ((cs.drop o).take n)else none:=rfl
theorem Vm{cs:List CV}{b e o:Nat}{v:CV}(hv:leaf v=true)(h:o<cs.length):Hl H b (some ⟨cs,.rw,e⟩) o [v]=some (H.set b ⟨cs.set o v,.rw,e⟩):=by
 unfold Hl
 have hs:splice cs o [v]=cs.set o v:=by
  unfold splice
  rw[List.set_eq_take_append_cons_drop]
  simp[h]
 grind
theorem GjB{t:Bool}{a b:CV}:Gip (.bool t) a b H=some (if t then a else b,H):=rfl
theorem Gc_{n b o:Nat}:PO false n H (.ptr b o)=(QW H b o).map fun v=>(v,H):=rfl
theorem GcW{n b o:Nat}:PO true n H (.ptr b o)=(JD H b o n).map fun cs=>(.agg cs,H):=rfl
theorem LB{n b o:Nat}{v:CV}:OD n H (.ptr b o) v=if(cellsOf v).length=n then(Nh H b o (cellsOf v)).map fun H'=>(.undef,H')else none:=rfl
theorem Gns{b o:Nat}:GmQ H (.ptr b o)=some (.ptr b o,H):=rfl
theorem Gim{k:IntKind}{a b:Int}:UU .add (.int k a) (.int k b) H=some (.int k (k.wrap (a+b)),H):=by simp[UU,Ko]
theorem GgY{k:IntKind}{a b:Int}:UU .sub (.int k a) (.int k b) H=some (.int k (k.wrap (a-b)),H):=by simp[UU,Ko]
theorem Gfx{k:IntKind}{a b:Int}:UU .mul (.int k a) (.int k b) H=some (.int k (k.wrap (a*b)),H):=by simp[UU,Ko]
theorem Ji{k:IntKind}{a b:Int}(h:b≠0):UU .quo (.int k a) (.int k b) H=some (.int k (k.wrap (a.tdiv b)),H):=by simp[UU,Ko,h]
theorem Jw{k:IntKind}{a b:Int}(h:b≠0):UU .rem (.int k a) (.int k b) H=some (.int k (a.tmod b),H):=by simp[UU,Ko,h]
theorem Gia{k:IntKind}{a b:Int}:UU .eql (.int k a) (.int k b) H=some (.bool (a==b),H):=by simp[UU,Ko]
theorem GhO{k:IntKind}{a b:Int}:UU .neq (.int k a) (.int k b) H=some (.bool (a != b),H):=by simp[UU,Ko]
theorem Gif{k:IntKind}{a b:Int}:UU .lss (.int k a) (.int k b) H=some (.bool (decide (a<b)),H):=by simp[UU,Ko]
theorem Ggj{k:IntKind}{a b:Int}:UU .leq (.int k a) (.int k b) H=some (.bool (decide (a≤b)),H):=by simp[UU,Ko]
theorem Gib{k:IntKind}{a b:Int}:UU .gtr (.int k a) (.int k b) H=some (.bool (decide (b<a)),H):=by simp[UU,Ko]
theorem Gg1{k:IntKind}{a b:Int}:UU .geq (.int k a) (.int k b) H=some (.bool (decide (b≤a)),H):=by simp[UU,Ko]
theorem GjP{g a b:Bool}:OZ g 0 (.bool a) (.bool b) H=some (.bool (if g then !(a==b)else a==b),H):=rfl
theorem GiR{g:Bool}:OZ g 1 .nilPtr .nilPtr H=some (.bool (if g then false else true),H):=by cases g<;>rfl
theorem Gdf{g:Bool}{b o:Nat}:OZ g 1 .nilPtr (.ptr b o) H=some (.bool (if g then true else false),H):=by cases g<;>rfl
theorem Gdl{g:Bool}{b o:Nat}:OZ g 1 (.ptr b o) .nilPtr H=some (.bool (if g then true else false),H):=by cases g<;>rfl
theorem GlX{t:Bool}:Gm8 (.bool t) H=some (.bool !t,H):=rfl
theorem GhQ{off b o:Nat}:GbQ off H (.ptr b o)=some (.ptr b (o+off),H):=rfl
theorem GfX{e b o len cap z:Nat}{t:Bool}{k:IntKind}{i:Int}:JM e (.slice b o len cap z t) (.int k i) H=if 0≤i∧i<(len:Int)then some (.ptr b (o+i.toNat*e),H)else none:=rfl
theorem Gbb{vs:List CV}{i:Nat}:La (.Jj vs) i H=vs[i]?.map fun v=>(v,H):=rfl
theorem GmC{b o len cap z:Nat}{t:Bool}:UK (.slice b o len cap z t) H=some (.i len,H):=rfl
theorem GmL:UK .Gd H=some (.i 0,H):=rfl
theorem Gij{f:Nat}{caps args:List CV}(hf:f<1000000):TV F (.func f caps) args H=F f (args++caps) H:=if_pos hf
theorem GgG{cs:List CV}:Gb7 (some cs) H=some (.agg cs,H):=rfl
theorem GeQ{cs:List CV}{e len:Nat}:TG (some cs) e len H=some (.slice H.length 0 len len e false,H++[⟨cs,.rw,e⟩]):=rfl
theorem GfE{v:CV}:Gba (some v) H=some (v,H):=rfl
theorem PC{e n:Nat}{s:CV}{new:List CV}:GcR e s (some (n,new)) H=Ju H e s n new:=rfl
theorem GsY{n b o:Nat}:rc H false n (.ptr b o)=QW H b o:=rfl
theorem Go9{n b o:Nat}:rc H true n (.ptr b o)=(JD H b o n).map .agg:=rfl
theorem Gdy{f:Nat→CV}{k:JE}:made H (some k,f)=(f H.length,H++[k]):=rfl
theorem Gg{n:Int}(h: -9223372036854775808≤n∧n≤9223372036854775807):IntKind.i64.wrap n=n:=by
 by_cases h0:0≤n
 ·have e:n % (2 ^ 64:Int)=n:=by omega
  simp only[IntKind.wrap,IntKind.bits,IntKind.signed,e]
  grind
 ·have e:n % (2 ^ 64:Int)=n+18446744073709551616:=by omega
  simp only[IntKind.wrap,IntKind.bits,IntKind.signed,e]
  grind
end
def csA:=And.intro @Ghr<|And.intro @Gj0<|And.intro @Gf3<|And.intro @Gbc<|And.intro @Xz<|And.intro @Gks<|And.intro @GfU<|And.intro @GdF<|And.intro @GbA<|And.intro @Gji<|And.intro @Ghx<|And.intro @Rm<|And.intro @GlS<|And.intro @Gkw<|And.intro @Gi9<|And.intro @Gpm<|And.intro @Gpk<|And.intro @GoO<|And.intro @Gpt<|And.intro @GmE<|And.intro @GsI<|And.intro @Gsy<|And.intro @Gl9<|And.intro @GdE<|And.intro @GoW<|And.intro @Goj<|And.intro @Gpl<|And.intro @Go1<|And.intro @Gl_<|And.intro @Gf_<|And.intro @GiG<|And.intro @EX<|And.intro @Ghz @Gc
def csB:=And.intro @Gbw<|And.intro @Gam<|And.intro @S_<|And.intro @Gi_<|And.intro @Gi5<|And.intro @Gkf<|And.intro @Gkt<|And.intro @Gd2<|And.intro @LK<|And.intro @Gh9<|And.intro @GdD<|And.intro @TP<|And.intro @Gj3<|And.intro @Gkc<|And.intro @Gjp<|And.intro @Gjz<|And.intro @Lf<|And.intro @Pp<|And.intro @GdT<|And.intro @Gfq<|And.intro @Gfp<|And.intro @XJ<|And.intro @Gco<|And.intro @Gce<|And.intro @Gin @GeE
def csV:=And.intro @GjB<|And.intro @Gc_<|And.intro @GcW<|And.intro @Gns<|And.intro @Gim<|And.intro @GgY<|And.intro @Gfx<|And.intro @Gia<|And.intro @GhO<|And.intro @Gif<|And.intro @Ggj<|And.intro @Gib<|And.intro @Gg1<|And.intro @GjP<|And.intro @GiR<|And.intro @Gdf<|And.intro @Gdl<|And.intro @GlX<|And.intro @GhQ<|And.intro @Gbb<|And.intro @GmC<|And.intro @GmL<|And.intro @Gij<|And.intro @GgG<|And.intro @GeQ<|And.intro @GfE<|And.intro @PC<|And.intro @GsY<|And.intro @Go9<|And.intro @OP<|And.intro @Yl<|And.intro @YH<|And.intro @Ym @Gla
end Go.Cs
namespace Go.Cs
open Go
theorem Gf{α:Type}{l:List α}{i:Nat}{k:α}(h:l[i]?=some k):i<l.length:=by
 grind
section
variable {F : GQ} {H : Gb}
theorem Gpg{a b:Int}(h:a<b):decide (a<b)=true:=Gz h
theorem GoQ{a b:Int}(h:b≤a):decide (a<b)=false:=Gw oM
theorem GnC{a b:Int}(h:a≤b):decide (a≤b)=true:=Gz h
theorem Gp6{a b:Int}(h:b<a):decide (a≤b)=false:=Gw oM
theorem Glc{a b:Int}(h:a=b):(a==b)=true:=by simp[h]
theorem GkR{a b:Int}(h:a≠b):(a==b)=false:=by simp[h]
theorem GnG{a b:Int}(h:a≠b):(a != b)=true:=by simp[h]
theorem Gn9{a b:Int}(h:a=b):(a != b)=false:=by simp[h]
theorem Qd{e b o len cap z:Nat}{t:Bool}{k:IntKind}{i:Int}(h:0≤i∧i<(len:Int)):JM e (.slice b o len cap z t) (.int k i) H=some (.ptr b (o+i.toNat*e),H):=by
 rw[GfX,if_pos h]
theorem ZV{GN:Nat}{z:List CV}{l c:Int}(h:0≤l∧l≤c∧c≤16777216):GhZ GN z (.i l) (.i c) H=some (.slice H.length 0 l.toNat c.toNat GN false,H++[⟨(List.replicate c.toNat z).flatten,.rw,GN⟩]):=by
 show(if 0≤l∧l≤c∧c≤16777216 then _ else _)=_;rw[if_pos h]
theorem Yr{n b o:Nat}{v:CV}(h:ld H[b]? o=some v):PO false n H (.ptr b o)=some (v,H):=by rw[Gc_,OP,h];rfl
theorem Geb{l:Gb}{a:JE}{i:Nat}(h:i=l.length):(l++[a])[i]?=some a:=by subst h;simp
theorem Gk8{l:Gb}{a:JE}{i:Nat}(h:i<l.length):(l++[a])[i]?=l[i]?:=by rw[IJ h]
theorem Gag{l:Gb}{x:JE}{c i:Nat}(h:c≠i):(l.set c x)[i]?=l[i]?:=by rw[KV h]
theorem Wy{l:Gb}{x:JE}{c i:Nat}(h:c=i∧c<l.length):(l.set c x)[i]?=some x:=by
 grind
theorem GfC{l:Gb}{a x:JE}{i:Nat}(h:i=l.length):(l++[a]).set i x=l++[x]:=by
 simp_all
theorem Gm0{l:Gb}{a x:JE}{i:Nat}(h:i<l.length):(l++[a]).set i x=l.set i x++[a]:=by rw[List.set_append_left _ _ h]
theorem UD{cs vs:List CV}{b e o:Nat}(h:o+vs.length≤cs.length)(hl:vs.all leaf=true):Hl H b (some ⟨cs,.rw,e⟩) o vs=some (H.set b ⟨splice cs o vs,.rw,e⟩):=by
 unfold Hl
 simp only[h,hl,and_self,if_true]
theorem Yb{cs:List CV}{b e o:Nat}{v:CV}(hv:leaf v=true)(h:o<cs.length):Hl H b (some ⟨cs,.rw,e⟩) o [v]=some (H.set b ⟨cs.set o v,.rw,e⟩):=Vm hv h
theorem Gl3{cs:List CV}{e o n:Nat}(h:o+n≤cs.length):Ba (some ⟨cs,.rw,e⟩) o n=some ((cs.drop o).take n):=by rw[Qg,if_pos h]
theorem GkA{cs:List CV}{e o n:Nat}(h:o+n≤cs.length):Ba (some ⟨cs,.ro,e⟩) o n=some ((cs.drop o).take n):=by rw[GbB,if_pos h]
theorem Z8{cs:List CV}:cellsOf (.agg cs)=cs:=rfl
theorem FI{k:IntKind}{n:Int}:cellsOf (.int k n)=[.int k n]:=rfl
theorem D6{b:Bool}:cellsOf (.bool b)=[.bool b]:=rfl
theorem Ht{b o:Nat}:cellsOf (.ptr b o)=[.ptr b o]:=rfl
theorem GaR:cellsOf .nilPtr=[.nilPtr]:=rfl
theorem Bq{b o len cap e:Nat}{t:Bool}:cellsOf (.slice b o len cap e t)=[.slice b o len cap e t]:=rfl
theorem M9:cellsOf .Gd=[.Gd]:=rfl
theorem RZ{f:Nat}{cs:List CV}:cellsOf (.func f cs)=[.func f cs]:=rfl
theorem Zi{v:CV}(h:leaf v=true):cellsOf v=[v]:=by cases v<;>first|rfl|cases h
theorem Jl{k:IntKind}{n:Int}:leaf (.int k n)=true:=rfl
theorem KU{b:Bool}:leaf (.bool b)=true:=rfl
theorem MK{b o:Nat}:leaf (.ptr b o)=true:=rfl
theorem Gc4:leaf .nilPtr=true:=rfl
theorem BJ{b o len cap e:Nat}{t:Bool}:leaf (.slice b o len cap e t)=true:=rfl
theorem Gc9:leaf .Gd=true:=rfl
theorem RG{f:Nat}{cs:List CV}:leaf (.func f cs)=true:=rfl
theorem GcG:leaf .nilFunc=true:=rfl
theorem Gat{cs:List CV}:fill cs []=some cs:=rfl
theorem P8{cs:List CV}{off size:Nat}{v:CV}{r:List (Nat×Nat×CV)}(h:(cellsOf v).length=size∧off+size≤cs.length):fill cs ((off,size,v)::r)=fill (splice cs off (cellsOf v)) r:=by
 conv=>lhs;unfold fill
 rw[if_pos h]
theorem GeP{cs:List CV}{off:Nat}{v:CV}{r:List (Nat×Nat×CV)}(hv:leaf v=true)(h:off+1≤cs.length):fill cs ((off,1,v)::r)=fill (splice cs off [v]) r:=by
 rw[P8 ⟨by rw[Zi hv];rfl,h⟩,Zi hv]
theorem Gad{E:Env}:KM E []=[]:=rfl
theorem SA{E:Env}{a b:Nat}{v:Jy}{r:List (Nat×Nat×Jy)}:KM E ((a,b,v)::r)=(a,b,E.ev v)::KM E r:=rfl
theorem GdU{n b o:Nat}{v:CV}(h:(cellsOf v).length=n):OD n H (.ptr b o) v=(Hl H b H[b]? o (cellsOf v)).map fun H'=>(.undef,H'):=by rw[LB,if_pos h];rfl
theorem Di{b o:Nat}{v:CV}(h:leaf v=true):OD 1 H (.ptr b o) v=(Hl H b H[b]? o [v]).map fun H'=>(.undef,H'):=by
 rw[LB,Zi h,if_pos (show [v].length=1 from rfl)];rfl
theorem Gkg{e:Nat}:elems H e .Gd=some (0,[]):=rfl
theorem Gju{b o c e z:Nat}{t:Bool}:elems H e (.slice b o 0 c z t)=some (0,[]):=rfl
theorem JN{b o n c e z:Nat}{t:Bool}(h:0<n):elems H e (.slice b o n c z t)=(Ba H[b]? o (n*e)).map fun cs=>(n,cs):=by
 unfold elems;dsimp only;rw[if_neg oM];rfl
theorem Gf5{cs:List CV}{o:Nat}{v:CV}(h:o<cs.length):splice cs o [v]=cs.set o v:=by
 unfold splice
 rw[List.set_eq_take_append_cons_drop]
 simp[h]
theorem Gcb{cs vs:List CV}(h:vs.length=cs.length):splice cs 0 vs=vs:=by
 unfold splice;simp[h]
theorem Gch{cs:List CV}{o:Nat}:splice cs o []=cs:=by unfold splice;simp
theorem Gh3{cs vs:List CV}{a v:CV}:splice (a::cs) 0 (v::vs)=v::splice cs 0 vs:=by unfold splice;simp
theorem Gf8{cs vs:List CV}{a:CV}{o:Nat}:splice (a::cs) (o+1) vs=a::splice cs o vs:=by
 unfold splice
 grind
def ZJ(x:CV)(m:Nat):Option Nat:=match x with
 |.int _ i=>if 0≤i∧i≤(m:Int)then some i.toNat else none
 |_=>none
def Us(x:Option CV)(m d:Nat):Option Nat:=match x with
 |some v=>ZJ v m
 |none=>some d
def Nj(len cap:Nat)(lo hi mx:Option CV):Option (Nat×Nat×Nat):=
 if mx.isSome=true∧hi.isNone=true then none else
 (Us mx cap cap).bind fun m=>(Us hi m len).bind fun h=>(Us lo h 0).bind fun l=>some (l,h,m)
def Ky(GN:Nat)(x:CV)(lo hi mx:Option CV):Option CV:=match x with
 |.Gd=>(Nj 0 0 lo hi mx).map fun _=>.Gd
 |.slice b o len cap e tail=>if e=GN∧len≤cap then(Nj len cap lo hi mx).map fun r=>.slice b (o+r.1*GN) (r.2.1-r.1) (r.2.2-r.1) e (tail&&mx.isNone)else none
 |_=>none
theorem Ev{E:Env}{GN:Nat}{x:CV}{lo hi mx:Option Jy}:sliceTo E GN x lo hi mx=Ky GN x (lo.map E.ev) (hi.map E.ev) (mx.map E.ev):=by
 cases lo<;>cases hi<;>cases mx<;>cases x<;>rfl
def Sj(zero:List CV)(s:CV)(H:Gb):Option (CV×Gb):=match s with
 |.slice b o len _ _ _=>if len=0 then some (.Jj [],H)else(Nh H b o (List.replicate len zero).flatten).map fun H'=>(.Jj [],H')
 |.Gd=>some (.Jj [],H)
 |_=>none
theorem Gea{E:Env}{zero:List CV}{s:Jy}:JY F (.clear zero s) E H=Sj zero (E.ev s) H:=rfl
theorem WU{zero:List CV}{b o len c e:Nat}{t:Bool}(h:0<len):Sj zero (.slice b o len c e t) H=(Hl H b H[b]? o (List.replicate len zero).flatten).map fun H'=>(.Jj [],H'):=by
 unfold Sj;dsimp only;rw[if_neg oM];rfl
theorem Gmo{a:Bool}:(if true=true then !a else a)=!a:=rfl
end
def Gt6:=And.intro @Gpg<|And.intro @GoQ<|And.intro @GnC<|And.intro @Gp6<|And.intro @Glc<|And.intro @GkR<|And.intro @GnG<|And.intro @Gn9<|And.intro @Qd<|And.intro @ZV<|And.intro @Geb<|And.intro @Gk8<|And.intro @Gag<|And.intro @Wy<|And.intro @GfC<|And.intro @Gm0<|And.intro @UD<|And.intro @Gl3<|And.intro @GkA<|And.intro @Gg<|And.intro @Ev<|And.intro @Di<|And.intro @Gea<|And.intro @WU @GdU
def Gta:=And.intro @Z8<|And.intro @FI<|And.intro @D6<|And.intro @Ht<|And.intro @GaR<|And.intro @Bq<|And.intro @M9<|And.intro @RZ<|And.intro @Jl<|And.intro @KU<|And.intro @MK<|And.intro @Gc4<|And.intro @BJ<|And.intro @Gc9<|And.intro @RG<|And.intro @GcG<|And.intro @Gat<|And.intro @GeP<|And.intro @P8<|And.intro @Gch<|And.intro @Gh3<|And.intro @Gf8<|And.intro @Gf5<|And.intro @Gcb<|And.intro @Gad<|And.intro @SA<|And.intro @Gkg<|And.intro @Gju @JN
end Go.Cs
namespace Go.Cs
open Go
section
variable {α : Type} {F : GQ} {E : Env} {H : Gb}
noncomputable def musts(op:Kc)(E:Env)(m:Option JE×(Nat→CV))(x:Option α):List Gb→Keep x→Option α
 |[],_=>x
 |a::l,_=>must (G7 op E a=some m) (musts op E m x l ⟨⟩) ⟨⟩
theorem GeG{op:Kc}{m:Option JE×(Nat→CV)}{x:Option α}{h:Keep x}:musts op E m x [] h=x:=rfl
theorem Lj{op:Kc}{m:Option JE×(Nat→CV)}{x:Option α}{a:Gb}{l:List Gb}{h:Keep x}:musts op E m x (a::l) h=must (G7 op E a=some m) (musts op E m x l ⟨⟩) ⟨⟩:=rfl
theorem Gax{op:Kc}{m:Option JE×(Nat→CV)}{x:Option α}:∀{l:List Gb},must (∀H'∈l,G7 op E H'=some m) x ⟨⟩=musts op E m x l ⟨⟩
 |[]=>by rw[Gc0 sM];rfl
 |a::l=>by
  rw[Lj,←Gax (l:=l)]
  unfold must
  grind
theorem Gkk{d:Option Nat}{op:Kc}{no low:Nat}{r:List G8}{hs:List Gb}{k:Env→Gb→Option α}{h:Keep ((⟨⟨d,none,op⟩,no,1,low⟩::r:List G8),k)}:
  Zy F (⟨⟨d,none,op⟩,no,1,low⟩::r) E H hs k h=mk1 (G7 op E H) (fun m=>musts op E m (Zy F r (E.put d (made H m).1) (made H m).2 hs k ⟨⟩) (hs.take (hs.length-low)) ⟨⟩) ⟨⟩:=by
 rw[GmI]
 unfold mk1
 congr 1
 funext m
 exact Gax
abbrev Tu:=Option JE×(Nat→CV)
def okV(v:CV):Option Tu:=some (none,fun _=>v)
theorem Gm3{v:CV}{k:Tu→Option α}{h:Keep k}:mk1 (okV v) k h=k (none,fun _=>v):=rfl
theorem Gjd{v:CV}:made H (none,fun _=>v)=(v,H):=rfl
theorem Giz{b:JE}{o:Nat}:made H (some b,fun k=>.ptr k o)=(.ptr H.length o,H++[b]):=rfl
theorem Gck{b:JE}{o n c e:Nat}{t:Bool}:made H (some b,fun k=>.slice k o n c e t)=(.slice H.length o n c e t,H++[b]):=rfl
theorem GkN{v:CV}{x:Option α}{h:Keep x}:must (okV v=some (none,fun _=>v)) x h=x:=Gc0 rfl
def GcH(g:Bool)(n:Nat)(H:Gb):CV→Option Tu
 |.ptr b o=>if g then(Ba H[b]? o n).bind fun cs=>okV (.agg cs)else(ld H[b]? o).bind okV
 |_=>none
def GmO:CV→Option Tu
 |.ptr b o=>okV (.ptr b o)
 |.iface t c=>okV (.iface t c)
 |_=>none
def Gbj(off:Nat):CV→Option Tu
 |.ptr b o=>okV (.ptr b (o+off))
 |_=>none
def Qh(GN:Nat)(x i:CV):Option Tu:=match x,i with
 |.slice b o len _ _ _,.int _ i=>if 0≤i∧i<(len:Int)then okV (.ptr b (o+i.toNat*GN))else none
 |_,_=>none
def Gex:CV→Option Tu
 |.slice _ _ len _ _ _=>okV (.i len)
 |.Gd=>okV (.i 0)
 |_=>none
def LP(x:CV)(i:Nat):Option Tu:=match x with|.Jj vs=>vs[i]?.bind okV|_=>none
def QE(op:BinOp)(x y:CV):Option Tu:=match x,y with
 |.int k a,.int k' b=>if k=k' then(Ko op k a b).bind okV else none
 |_,_=>none
def Gmv:CV→Option Tu
 |.bool t=>okV (.bool !t)
 |_=>none
def GhY(c a b:CV):Option Tu:=match c with|.bool t=>okV (if t then a else b)|_=>none
def Goq(g:Bool)(ty:Nat)(x y:CV):Option Tu:=(Oj ty x y).bind fun t=>okV (.bool (if g then !t else t))
def Glr(GN:Nat)(z:List CV)(l c:CV):Option Tu:=match l,c with
 |.int .i64 l,.int .i64 c=>if 0≤l∧l≤c∧c≤(J9:Int)then some (some ⟨(List.replicate c.toNat z).flatten,.rw,GN⟩,fun k=>.slice k 0 l.toNat c.toNat GN false)else none
 |_,_=>none
def Gca(o:Option (List CV)):Option Tu:=o.bind fun cs=>okV (.agg cs)
def SG(o:Option (List CV))(GN len:Nat):Option Tu:=o.bind fun cs=>some (some ⟨cs,.rw,GN⟩,fun k=>.slice k 0 len len GN false)
def Gbl(o:Option CV):Option Tu:=o.bind okV
theorem Gl7{x:Jy}:G7 (.Km x) E H=okV (E.ev x):=rfl
theorem Gmh{cs:List CV}:G7 (.new cs) E H=some (some ⟨cs,.rw,0⟩,fun k=>.ptr k 0):=rfl
theorem Glt{x:Jy}:G7 (.box x) E H=some (some ⟨cellsOf (E.ev x),.rw,0⟩,fun k=>.ptr k 0):=rfl
theorem GeB{f:Nat}{cs:List Jy}:G7 (.Ug f cs) E H=okV (.func f (cs.map E.ev)):=rfl
theorem GjV{c a b:Jy}:G7 (.pick c a b) E H=GhY (E.ev c) (E.ev a) (E.ev b):=by simp only[G7,GhY];cases E.ev c<;>rfl
theorem Gk6{g:Bool}{n:Nat}{a:Jy}:G7 (.load g n a) E H=GcH g n H (E.ev a):=by
 simp only[G7,GcH]
 cases E.ev a<;>first|rfl|skip
 rename_i b o
 cases g
 ·simp only[Bool.false_eq_true,if_false,OP];cases ld H[b]? o<;>rfl
 ·simp only[if_true,Yl];cases Ba H[b]? o n<;>rfl
theorem Xf{x:Jy}:G7 (.nilCheck x) E H=GmO (E.ev x):=by simp only[G7,GmO];cases E.ev x<;>rfl
theorem GiC{off:Nat}{x:Jy}:G7 (.field off x) E H=Gbj off (E.ev x):=by simp only[G7,Gbj];cases E.ev x<;>rfl
theorem Gmt{x:Jy}:G7 (.len x) E H=Gex (E.ev x):=by simp only[G7,Gex];cases E.ev x<;>rfl
theorem Gnp{x:Jy}:G7 (.not x) E H=Gmv (E.ev x):=by simp only[G7,Gmv];cases E.ev x<;>rfl
theorem Gg9{GN:Nat}{x i:Jy}:G7 (.index GN x i) E H=Qh GN (E.ev x) (E.ev i):=by
 simp only[G7,Qh]
 cases E.ev x<;>cases E.ev i<;>rfl
theorem Gcn{x:Jy}{i:Nat}:G7 (.extract x i) E H=LP (E.ev x) i:=by
 simp only[G7,LP]
 cases E.ev x<;>first|rfl|skip
 rename_i vs
 dsimp only
 cases vs[i]?<;>rfl
theorem GlD{op:BinOp}{x y:Jy}:G7 (.bin op x y) E H=QE op (E.ev x) (E.ev y):=by
 simp only[G7,QE]
 cases E.ev x<;>cases E.ev y<;>first|rfl|skip
 rename_i k a k' b
 dsimp only
 cases Ko op k a b<;>rfl
theorem Gno{g:Bool}{ty:Nat}{x y:Jy}:G7 (.eqv g ty x y) E H=Goq g ty (E.ev x) (E.ev y):=by
 simp only[G7,Goq]<;>cases Oj ty (E.ev x) (E.ev y)<;>rfl
theorem TD{GN:Nat}{z:List CV}{l c:Jy}:G7 (.makeSlice GN z l c) E H=Glr GN z (E.ev l) (E.ev c):=rfl
theorem GgO{z:List CV}{ps:List (Nat×Nat×Jy)}:G7 (.build z ps) E H=Gca (fill z (KM E ps)):=by
 simp only[G7,Gca]<;>cases fill z (KM E ps)<;>rfl
theorem Pf{GN len:Nat}{z:List CV}{ps:List (Nat×Nat×Jy)}:G7 (.buildSlice GN z len ps) E H=SG (fill z (KM E ps)) GN len:=by
 simp only[G7,SG]<;>cases fill z (KM E ps)<;>rfl
theorem LX{GN:Nat}{x:Jy}{lo hi mx:Option Jy}:G7 (.slice GN x lo hi mx) E H=Gbl (sliceTo E GN (E.ev x) lo hi mx):=by
 simp only[G7,Gbl]<;>cases sliceTo E GN (E.ev x) lo hi mx<;>rfl
theorem GiT{n b o:Nat}:GcH false n H (.ptr b o)=(ld H[b]? o).bind okV:=rfl
theorem Gkq{n b o:Nat}:GcH true n H (.ptr b o)=(Ba H[b]? o n).bind fun cs=>okV (.agg cs):=rfl
theorem Gnc{b o:Nat}:GmO (.ptr b o)=okV (.ptr b o):=rfl
theorem GfG{off b o:Nat}:Gbj off (.ptr b o)=okV (.ptr b (o+off)):=rfl
theorem Nv{e b o len cap z:Nat}{t:Bool}{k:IntKind}{i:Int}(h:0≤i∧i<(len:Int)):Qh e (.slice b o len cap z t) (.int k i)=okV (.ptr b (o+i.toNat*e)):=by
 show(if _ then _ else _)=_;rw[if_pos h]
theorem Glx{b o len cap z:Nat}{t:Bool}:Gex (.slice b o len cap z t)=okV (.i len):=rfl
theorem GmF:Gex .Gd=okV (.i 0):=rfl
theorem VO{v:CV}{n:Int}(h:∀H,UK v H=some (.i n,H)):Gex v=okV (.i n):=by
 have:=h []
 cases v<;>simp[UK]at this<;>(rw[←this];rfl)
theorem GbP{vs:List CV}{i:Nat}:LP (.Jj vs) i=vs[i]?.bind okV:=rfl
theorem Gl0{t:Bool}:Gmv (.bool t)=okV (.bool !t):=rfl
theorem GiW{t:Bool}{a b:CV}:GhY (.bool t) a b=okV (if t then a else b):=rfl
theorem Ghm{k:IntKind}{a b:Int}:QE .add (.int k a) (.int k b)=okV (.int k (k.wrap (a+b))):=by simp[QE,Ko]
theorem GgH{k:IntKind}{a b:Int}:QE .sub (.int k a) (.int k b)=okV (.int k (k.wrap (a-b))):=by simp[QE,Ko]
theorem GgF{k:IntKind}{a b:Int}:QE .eql (.int k a) (.int k b)=okV (.bool (a==b)):=by simp[QE,Ko]
theorem GfR{k:IntKind}{a b:Int}:QE .neq (.int k a) (.int k b)=okV (.bool (a != b)):=by simp[QE,Ko]
theorem Gh4{k:IntKind}{a b:Int}:QE .lss (.int k a) (.int k b)=okV (.bool (decide (a<b))):=by simp[QE,Ko]
theorem Gh7{k:IntKind}{a b:Int}:QE .leq (.int k a) (.int k b)=okV (.bool (decide (a≤b))):=by simp[QE,Ko]
theorem GfB{k:IntKind}{a b:Int}:QE .gtr (.int k a) (.int k b)=okV (.bool (decide (b<a))):=by simp[QE,Ko]
theorem Ghl{k:IntKind}{a b:Int}:QE .geq (.int k a) (.int k b)=okV (.bool (decide (b≤a))):=by simp[QE,Ko]
theorem Uy{GN:Nat}{z:List CV}{l c:Int}(h:0≤l∧l≤c∧c≤16777216):Glr GN z (.i l) (.i c)=some (some ⟨(List.replicate c.toNat z).flatten,.rw,GN⟩,fun k=>.slice k 0 l.toNat c.toNat GN false):=by
 show(if 0≤l∧l≤c∧c≤16777216 then _ else _)=_;rw[if_pos h]
theorem Ghf{cs:List CV}:Gca (some cs)=okV (.agg cs):=rfl
theorem GdY{cs:List CV}{e len:Nat}:SG (some cs) e len=some (some ⟨cs,.rw,e⟩,fun k=>.slice k 0 len len e false):=rfl
theorem MW{v:CV}:Gbl (some v)=okV v:=rfl
end
def GuZ:=And.intro @Gf7<|And.intro @Gnn<|And.intro @Gkk<|And.intro @GmW<|And.intro @Gmm<|And.intro @GeG<|And.intro @Lj<|And.intro @Gew<|And.intro @GkN<|And.intro @Ghq<|And.intro @Gm3<|And.intro @Gjd<|And.intro @Giz<|And.intro @Gck<|And.intro @Gl7<|And.intro @Gmh<|And.intro @Glt<|And.intro @GeB<|And.intro @GjV<|And.intro @Gk6<|And.intro @Xf<|And.intro @GiC<|And.intro @Gmt<|And.intro @Gnp<|And.intro @Gg9<|And.intro @Gcn @GlD
def GvG:=And.intro @Gno<|And.intro @TD<|And.intro @GgO<|And.intro @Pf<|And.intro @LX<|And.intro @GiT<|And.intro @Gkq<|And.intro @Gnc<|And.intro @GfG<|And.intro @Nv<|And.intro @Glx<|And.intro @GmF<|And.intro @GbP<|And.intro @Gl0<|And.intro @GiW<|And.intro @Ghm<|And.intro @GgH<|And.intro @GgF<|And.intro @GfR<|And.intro @Gh4<|And.intro @Gh7<|And.intro @GfB<|And.intro @Ghl<|And.intro @Uy<|And.intro @Ghf<|And.intro @GdY @MW
end Go.Cs
namespace Go.Cs
open Go Go.RowKit Go.ChangeShapes Go.WideShapes
inductive FK where
 |int (k:IntKind)
 |bool
 deriving DecidableEq,Inhabited
def FK.fits:FK→CV→Prop
 |.int k,c=>∃n,c=.int k n∧k.min≤n∧n≤k.max
 |.bool,c=>∃b,c=.bool b
def GhI(P:Program)(F:TypeId→Option (List FK)):Nat→List Field→Option (List FK)
 |_,[]=>some []
 |o,f::r=>if f.offset=o then(F f.type).bind fun a=>if P.cellsOf f.type=a.length then(GhI P F (o+a.length) r).map (a++·)else none else none
def flatK(P:Program):Nat→TypeId→Option (List FK)
 |0,_=>none
 |n+1,t=>match P.underlying t with
  |some (.int k)=>some [.int k]
  |some .bool=>some [.bool]
  |some (.struct fs)=>GhI P (flatK P n) 0 fs.toList
  |some (.array m e)=>(flatK P n e).bind fun a=>if P.cellsOf e=a.length then some (List.replicate m a).flatten else none
  |_=>none
def Flat(ks:List FK)(cs:List Value):Prop:=cs.length=ks.length∧∀(i:Nat)(k:FK),ks[i]?=some k→∃(v:Value)(c:CV),cs[i]?=some v∧k.fits c∧Zd v=some c∧∀μ,V μ c v
theorem Flat.app{ks ks':List FK}{cs cs':List Value}(h:Flat ks cs)(h':Flat ks' cs'):Flat (ks++ks') (cs++cs'):=by
 refine⟨by simp[h.1,h'.1],fun i k hi=>?_⟩
 rw[GlE]at hi⊢
 rw[h.1]
 split at hi
 ·rename_i hl;rw[if_pos hl];exact h.2 i k hi
 ·rename_i hl;rw[if_neg hl];exact h'.2 _ k hi
section
variable {H : Type} {enc : TypeId × Value → H} {P : Program} {w : World} {base : Nat} {spare : Nat → Bool} {held : Bool}
theorem XI{n fuel:Nat}(ih:∀t ks cs x,flatK P n t=some ks→DataW.trod enc P w base spare held fuel t cs=some x→P.cellsOf t=ks.length→cs.length=ks.length→Flat ks cs):
  ∀(fs:List Field)(o:Nat)(ks:List FK)(cs:List Value),GhI P (flatK P n) o fs=some ks→cs.length=o+ks.length→
   (∀f∈fs,∃x,DataW.trod enc P w base spare held fuel f.type ((cs.drop f.offset).take (P.cellsOf f.type))=some x)→Flat ks (cs.drop o)
 |[],o,ks,cs,h,hl,_=>by
  simp only[GhI,GA]at h
  subst h
  exact⟨by simp[hl],fun i k hi=>by simp at hi⟩
 |f::r,o,ks,cs,h,hl,hf=>by
  unfold GhI at h
  split at h
  ·rename_i ho
   rw[Jk]at h
   obtain⟨a,ha,h⟩:=h
   split at h
   ·rename_i hc
    rw[GD]at h
    obtain⟨ks',hk,rfl⟩:=h
    obtain⟨x,hx⟩:=hf f QT
    rw[Qi]at hl
    have h1:=ih f.type a _ x ha hx hc (by rw[List.length_take,List.length_drop,hc,ho];omega)
    have h2:=XI ih r (o+a.length) ks' cs hk oM (fun g hg=>hf g (VA _ hg))
    have:=h1.app h2
    rw[ho,hc,←List.drop_drop,List.take_append_drop]at this
    exact this
   ·cases h
  ·cases h
theorem FD:∀(n fuel:Nat)(t:TypeId)(ks:List FK)(cs:List Value)(x:DataW H×List MemPlace),flatK P n t=some ks→DataW.trod enc P w base spare held fuel t cs=some x→P.cellsOf t=ks.length→Flat ks cs
 |0,_,_,_,_,_,h,_,_=>by cases h
 |n+1,fuel,t,ks,cs,x,h,hx,hc=>by
  unfold flatK at h
  split at h
  ·rename_i k ht
   simp only[GA]at h
   subst h
   obtain⟨m,rfl,-,hw⟩:=DataW.trod_int ht hx
   simp only[Lit.wf,NH,decide_eq_true_eq]at hw
   refine⟨rfl,fun i k' hi=>?_⟩
   cases i with
   |zero=>
    simp only[List.getElem?_cons_zero,GA]at hi
    subst hi
    exact⟨_,.int k m,rfl,⟨m,rfl,hw⟩,rfl,fun μ=>by simp[V]⟩
   |succ i=>simp at hi
  ·rename_i ht
   simp only[GA]at h
   subst h
   obtain⟨b,rfl,-⟩:=DataW.trod_bool ht hx
   refine⟨rfl,fun i k' hi=>?_⟩
   cases i with
   |zero=>
    simp only[List.getElem?_cons_zero,GA]at hi
    subst hi
    exact⟨_,.bool b,rfl,⟨b,rfl⟩,rfl,fun μ=>by simp[V]⟩
   |succ i=>simp at hi
  ·rename_i fs ht
   obtain⟨xs,m,rfl,-,hl,hxl,hf⟩:=DataW.trod_struct ht hx
   have:=XI (n:=n) (fuel:=m) (fun t ks cs x h1 h2 h3 _=>FD n m t ks cs x h1 h2 h3) fs.toList 0 ks cs h oM (fun f hfm=>by
    obtain⟨i,hi,e⟩:=List.mem_iff_getElem.1 hfm
    have e':fs[i]?=some f:=by
     simp only[Array.getElem_toList]at e
     rw[←e];exact GkG (by simpa using hi)
    refine⟨_,(hf i f e').trans (Jr (by simp at hi;omega))⟩)
   simpa using this
  ·rename_i m e ht
   rw[Jk]at h
   obtain⟨a,ha,h⟩:=h
   split at h
   ·rename_i hce
    simp only[GA]at h
    subst h
    obtain⟨xs,k,rfl,-,hl,hxl,hf⟩:=DataW.trod_array ht hx
    have key:∀(j:Nat),j≤m→Flat (List.replicate j a).flatten (cs.take (j*a.length)):=by
     intro j
     induction j with
     |zero=>intro _;exact⟨sM,fun i k hi=>by simp at hi⟩
     |succ j ih=>
      intro hj
      have hx2:=hf j oM
      rw[Jr oM,hce]at hx2
      have h1:=FD n k e a _ _ ha hx2 hce
      have h2:=(ih oM).app h1
      rw[List.replicate_succ',List.flatten_append,show(j+1)*a.length=j*a.length+a.length by rw[Nat.add_mul,Nat.one_mul],List.take_add]
      simpa using h2
    have hlen:((List.replicate m a).flatten).length=m*a.length:=by simp
    have:=key m (Nat.le_refl m)
    rw[Qe (by rw[hl,hc,hlen];exact Nat.le_refl _)]at this
    exact this
   ·cases h
  ·cases h
end
def Gc3(W:World)(blk:JE)(tg:Option Z6):Prop:=
 blk.mode≠.dead→∀m,tg=some m→blk.mode=.ro∧m.c<W.heap.size∧∃arr T fz,W.heap[m.c]?=some (.cells arr T fz)∧∀(i:Nat)(c:CV),blk.cells[i]?=some c→∃v,arr[m.s+i]?=some v∧∀μ,V μ c v
def GnS(cv:Nat→CV)(blk:JE)(ks:List FK)(l:List (List CV)):Prop:=
 (∀j H',UK (cv j) H'=some (.i l.length,H'))∧(l≠[]→(∃cap,l.length≤cap∧∀j,cv j=.slice j 0 l.length cap ks.length false)∧blk.mode=.ro∧blk.GN=ks.length∧∀(i:Nat)(x:List CV),l[i]?=some x→i*ks.length+ks.length≤blk.cells.length∧(blk.cells.drop (i*ks.length)).take ks.length=x)∧
  ∀x∈l,x.length=ks.length∧∀(i:Nat)(k:FK),ks[i]?=some k→∃c,x[i]?=some c∧k.fits c
theorem LU{α:Type}{n:Nat}{p:Nat→α→Prop}(h:∀i,i<n→∃a,p i a):∃l:List α,l.length=n∧∀i a,l[i]?=some a→p i a:=by
 induction n with
 |zero=>exact⟨[],rfl,fun i a h=>by simp at h⟩
 |succ n ih=>
  obtain⟨l,hl,hp⟩:=ih fun i hi=>h i oM
  obtain⟨a,ha⟩:=h n oM
  refine⟨l++[a],by simp[hl],fun i b hb=>?_⟩
  rw[GlE]at hb
  split at hb
  ·exact hp i b hb
  ·have hi:=Gf hb
   simp only[List.length_singleton]at hi
   have:i=n:=by omega
   subst this
   simp[hl]at hb
   subst hb;exact ha
theorem Ul{H:Type}{enc:TypeId×Value→H}{P:Program}{W:World}{base:Nat}{r:Reach}{b0:Nat}{held:Bool}{t e:TypeId}{v:Value}{d:DataW H}{ps:List MemPlace}{n:Nat}{ks:List FK}
  (ht:P.underlying t=some (.slice e))(he:flatK P n e=some ks)(hc:P.cellsOf e=ks.length)(hk:0<ks.length)
  (hval:Value.okWide P W r b0 t v)(hd:DataW.Trod enc P W base (fun _=>true) held t v d ps):
  ∃(cv:Nat→CV)(blk:JE)(tg:Option Z6)(l:List (List CV)),(∀j μ,μ j=tg→V μ (cv j) v)∧Gc3 W blk tg∧GnS cv blk ks l∧((∀j,cv j=.Gd)∨∃n c,∀j,cv j=.slice j 0 n c ks.length false):=by
 obtain⟨a,len,cap,rfl⟩:=okWide_slice ht hval
 obtain⟨fuel,hf⟩:=hd
 rcases Go.Deep.open_slice ht hf with⟨h0,-⟩|⟨a',len',cap',m,k,D,Pl,h0,hb,hl,hm,hmm,-,hx⟩
 ·simp[Value.cells]at h0
  obtain⟨rfl,rfl,rfl⟩:=h0
  refine⟨fun _=>.Gd,⟨[],.dead,ks.length⟩,none,[],fun j μ _=>by simp[V],fun h=>absurd rfl h,⟨fun _ _=>rfl,fun h=>absurd rfl h,fun x hx=>by cases hx⟩,.inl fun _=>rfl⟩
 ·simp[Value.cells]at h0
  obtain⟨rfl,rfl,rfl⟩:=h0
  simp only[if_true]at hmm
  subst hmm
  have hspot:a'.spot=none:=by
   simp only[Value.okWide,ht,Cell.okWide,Cell.ok,World.has]at hval
   exact hval.2.2.2.1
  obtain⟨ab,ao,asp⟩:=a'
  simp only at hspot
  subst hspot
  have cell:∀q,q<m*ks.length→∃(arr:Array Value)(T:TypeId)(fz:_)(u:Value)(c:CV),W.heap[ab]?=some (.cells arr T fz)∧arr[ao+q]?=some u∧Zd u=some c∧(∀kk,ks[q % ks.length]?=some kk→kk.fits c)∧∀μ,V μ c u:=by
   intro q hq
   have hi:q/ks.length<m:=Nat.div_lt_of_lt_mul (by rw[Nat.mul_comm];exact hq)
   obtain⟨cs',h1,h2⟩:=hx _ hi
   have hfl:=FD n k e ks cs' _ he h2 hc
   obtain⟨-,hlen,hcell⟩:=World.cells?_some h1
   have hj:q % ks.length<ks.length:=Nat.mod_lt _ hk
   have h3:=hcell (q % ks.length) (by rw[hc];exact hj)
   rw[Go.Deep.add_add,hc,Nat.div_add_mod']at h3
   obtain⟨u,c,e1,e2,e3,e4⟩:=hfl.2 _ _ (Jr hj)
   rw[e1]at h3
   unfold World.cell? at h3
   have hab:((⟨ab,ao,none⟩:Addr).add q).block=ab:=by unfold Addr.add;split<;>rfl
   have hao:((⟨ab,ao,none⟩:Addr).add q).off=ao+q:=by unfold Addr.add;split<;>simp_all
   rw[hab,hao]at h3
   split at h3
   ·rename_i arr T fz harr
    split at h3
    ·cases h3
    ·exact⟨arr,T,fz,u,c,harr,h3,e3,fun kk hkk=>by rw[Jr hj]at hkk;simp only[GA]at hkk;rw[←hkk];exact e2,e4⟩
   ·cases h3
  obtain⟨cells,hcl,hcs⟩:=LU (n:=m*ks.length) (p:=fun q c=>∃(arr:Array Value)(T:TypeId)(fz:_)(u:Value),W.heap[ab]?=some (.cells arr T fz)∧arr[ao+q]?=some u∧Zd u=some c∧(∀kk,ks[q % ks.length]?=some kk→kk.fits c)∧∀μ,V μ c u)
   fun q hq=>by obtain⟨arr,T,fz,u,c,h⟩:=cell q hq;exact⟨c,arr,T,fz,u,h⟩
  have hlm:len*ks.length≤m*ks.length:=Nat.mul_le_mul_right _ hl
  refine⟨fun j=>.slice j 0 len m ks.length false,⟨cells,if m=0 then .dead else .ro,ks.length⟩,some ⟨ab,ao,ks.length,ao+m*ks.length⟩,(List.range len).map fun i=>(cells.drop (i*ks.length)).take ks.length,?_,?_,⟨?_,?_,?_⟩,.inr ⟨len,m,fun _=>rfl⟩⟩
  ·intro j μ hj
   simp only[V]
   exact⟨_,m,ao,hj,rfl,rfl,hl,sM,.inr rfl,Nat.le_refl _⟩
  ·intro Gh8 tm htm
   simp only[GA]at htm
   subst htm
   have hm0:m≠0:=by rintro rfl;simp at Gh8
   obtain⟨arr,T,fz,u,c,harr,-⟩:=cell 0 (Nat.mul_pos oM hk)
   refine⟨by simp[hm0],(Vo.1 harr).1,arr,T,fz,harr,fun i c hi=>?_⟩
   obtain⟨arr',T',fz',u',e1,e2,-,-,e5⟩:=hcs i c hi
   rw[harr]at e1
   simp only[GA,Obj.cells.injEq]at e1
   obtain⟨rfl,-,-⟩:=e1
   exact⟨u',e2,e5⟩
  ·intro j H'
   simp only[QY,List.length_range];rfl
  ·intro hne
   have GxT:0<len:=by
    rcases Nat.eq_zero_or_pos len with rfl|h
    ·simp at hne
    ·exact h
   have hm0:m≠0:=by omega
   refine⟨⟨m,by simpa using hl,fun j=>by simp⟩,by simp[hm0],rfl,fun i x hi=>?_⟩
   rw[Kr,GD]at hi
   obtain⟨i',hi',rfl⟩:=hi
   have hil:=Gf hi'
   rw[IX (by simpa using hil)]at hi'
   simp only[GA]at hi'
   subst hi'
   refine⟨?_,rfl⟩
   simp only[List.length_range]at hil
   have:(i+1)*ks.length≤len*ks.length:=Nat.mul_le_mul_right _ hil
   rw[Nat.add_mul,Nat.one_mul]at this
   simp only[hcl];omega
  ·intro x hx'
   rw[KI]at hx'
   obtain⟨i,hi,rfl⟩:=hx'
   have hil:i<len:=by simpa using hi
   have:(i+1)*ks.length≤len*ks.length:=Nat.mul_le_mul_right _ hil
   rw[Nat.add_mul,Nat.one_mul]at this
   refine⟨by simp[hcl];omega,fun j kk hj=>?_⟩
   have hjl:=Gf hj
   have hlt:i*ks.length+j<cells.length:=by omega
   obtain⟨arr',T',fz',u',e1,e2,-,e4,-⟩:=hcs (i*ks.length+j) _ (Jr hlt)
   refine⟨cells[i*ks.length+j],by rw[Zx,if_pos hjl,Z7,Jr hlt],e4 kk ?_⟩
   rw[Nat.mul_comm,Nat.mul_add_mod,Nat.mod_eq_of_lt hjl];exact hj
theorem Au{H:Type}{enc:TypeId×Value→H}{P:Program}{W:World}{base:Nat}{r:Reach}{b0:Nat}{spare:Nat→Bool}{held:Bool}{t e:TypeId}{fs:Array Field}{a:Array Value}{d:DataW H}{ps:List MemPlace}{ts:List TypeId}
  (ht:P.underlying t=some (.struct fs))(hts:P.cellTypes P.depth t=some ts)(hl:ts.length=P.cellsOf t)(hval:Value.okWide P W r b0 t (.agg a))(hd:DataW.Trod enc P W base spare held t (.agg a) d ps)
  {i:Nat}{f:Field}(hf:fs[i]?=some f) (hft:P.underlying f.type=some (.slice e)) (hu:ts[f.offset]?=some f.type) (hc1:P.cellsOf f.type=1):
  ∃u d' ps',a[f.offset]?=some u∧Value.okWide P W r b0 f.type u∧DataW.Trod enc P W base spare held f.type u d' ps':=by
 simp only[Value.okWide,ht]at hval
 obtain⟨a',ha,hsz,ts',Gmd,-,hcell⟩:=hval
 simp only[Value.agg.injEq]at ha
 subst ha
 rw[hts]at Gmd
 simp only[GA]at Gmd
 subst Gmd
 have hoff:=Gf hu
 obtain⟨u,hau⟩:∃u,a[f.offset]?=some u:=⟨_,GkG oM⟩
 obtain⟨u',hu',hok⟩:=hcell _ _ hau
 rw[Nat.mod_eq_of_lt hoff,hu]at hu'
 simp only[GA]at hu'
 subst hu'
 have hok':Value.okWide P W r b0 f.type u:=by
  unfold Value.okWide
  rw[hft]
  exact hok
 obtain⟨ad,n,c,rfl⟩:=okWide_slice hft hok'
 obtain⟨fuel,hd⟩:=hd
 obtain⟨xs,k,rfl,-,-,hxl,hx⟩:=DataW.trod_struct ht hd
 have h1:=hx i f hf
 rw[hc1]at h1
 have hi:i<xs.length:=by
  rw[hxl]
  exact(Vo.1 hf).1
 rw[Jr hi]at h1
 simp only[Value.cells]at h1
 have e1:(a.toList.drop f.offset).take 1=[.slice ad n c]:=by
  have h2:a.toList[f.offset]?=some (.slice ad n c):=by simpa using hau
  have hlt:=Gf h2
  rw[List.drop_eq_getElem_cons hlt]
  simp only[List.take_succ_cons,List.take_zero]
  rw[Jr hlt]at h2
  simp only[GA]at h2
  rw[h2]
 rw[e1]at h1
 exact⟨_,xs[i].1,xs[i].2,hau,hok',k,by simpa[Value.cells]using h1⟩
theorem Pt{H:Type}{enc:TypeId×Value→H}{P:Program}{W:World}{base:Nat}{spare:Nat→Bool}{held:Bool}{t:TypeId}{fs:Array Field}{a:Array Value}{d:DataW H}{ps:List MemPlace}
  (ht:P.underlying t=some (.struct fs))(hd:DataW.Trod enc P W base spare held t (.agg a) d ps)
  {i:Nat}{f:Field}{k:IntKind}(hf:fs[i]?=some f) (hft:P.underlying f.type=some (.int k)) (hc1:P.cellsOf f.type=1):
  ∃m:Int,a[f.offset]?=some (.int k m)∧k.min≤m∧m≤k.max:=by
 obtain⟨fuel,hd⟩:=hd
 obtain⟨xs,n,rfl,-,-,hxl,hx⟩:=DataW.trod_struct ht hd
 have h1:=hx i f hf
 have hi:i<xs.length:=by
  rw[hxl]
  exact(Vo.1 hf).1
 rw[hc1,Jr hi]at h1
 obtain⟨m,hm,-,hw⟩:=DataW.trod_int hft h1
 simp only[Lit.wf,NH,decide_eq_true_eq]at hw
 refine⟨m,?_,hw⟩
 simp only[Value.cells]at hm
 have h2:=congrArg (fun l=>l[0]?) hm
 simp only[Zx,Z7,List.getElem?_cons_zero,Nat.add_zero]at h2
 simpa using h2
theorem GeO{P:Program}{W:World}(hm:P.follows .mixedOrders=true)(hp:D9 P)(hG:ZR P W){f:Nat}(hfb:f<RB){args:List CV}{args':Array Value}{H0 H1:Gb}{tgs:List (Option Z6)}{v:CV}
  (hlen:tgs.length=H0.length)(hb:∀b blk,H0[b]?=some blk→Gc3 W blk (tgs.getD b none)) (hrun:run (K7 P) f args H0=some (v,H1)) (hv:VL (fun b=>tgs.getD b none) args args'.toList):
  Calls P f args' W fun e w'=>(∃ν v',e=.returned v'∧V ν v v')∧Below W.heap.size W w':=
 bridge hm hp hG hfb (μ:=fun b=>tgs.getD b none) (fun b blk m h1 h2 h3=>by
   obtain⟨q1,q2,arr,T,fz,q3,q4⟩:=hb b blk h1 h2 m h3
   exact⟨q1,q2,arr,T,fz,q3,fun i c hi=>by obtain⟨v,e1,e2⟩:=q4 i c hi;exact⟨v,e1,e2 _⟩⟩)
  (fun b h=>by rw[Bo,lX9 oM];rfl) hrun hv
end Go.Cs
namespace Go.Cs
open Go Go.RowKit Go.ChangeShapes Go.WideShapes
end Go.Cs
namespace Go.Cs
def csL:=And.intro @Nat.zero_add<|And.intro @Nat.add_zero<|And.intro @Nat.mul_one<|And.intro @Option.map_some.{0,0}<|And.intro @Option.bind_some.{0,0}<|And.intro @Option.map_none.{0,0}<|And.intro @Option.bind_none.{0,0}<|And.intro @List.map_cons.{0,0}<|And.intro @List.map_nil.{0,0}<|And.intro @List.getElem?_cons_zero.{0}<|And.intro @List.getElem?_cons_succ.{0}<|And.intro @List.cons_append.{0}<|And.intro @List.nil_append.{0}<|And.intro @List.append_nil.{0}<|And.intro @Bool.not_true<|And.intro @Bool.not_false<|And.intro @Bool.false_eq_true<|And.intro @decide_true<|And.intro @decide_false<|And.intro @List.length_append.{0}<|And.intro @List.length_cons.{0}<|And.intro @List.length_nil.{0}<|And.intro @List.length_set.{0}<|And.intro @List.drop_zero.{0}<|And.intro @List.drop_succ_cons.{0}<|And.intro @List.take_succ_cons.{0}<|And.intro @List.take_zero.{0}<|And.intro @Int.toNat_natCast<|And.intro @List.set_cons_zero.{0}<|And.intro @List.set_cons_succ.{0}<|And.intro @List.drop_nil.{0} @List.take_nil.{0}
def Gs:=And.intro csA<|And.intro csB<|And.intro csV<|And.intro GuZ<|And.intro GvG<|And.intro Gt6<|And.intro Gta csL
def csN:=And.intro @eq_self.{1}<|And.intro @true_and<|And.intro @and_true<|And.intro @and_self<|And.intro @Nat.le_refl<|And.intro @List.length_append.{0}<|And.intro @List.length_cons.{0}<|And.intro @List.length_nil.{0}<|And.intro @List.length_set.{0}<|And.intro @List.length_map.{0,0}<|And.intro @List.length_replicate.{0}<|And.intro @Nat.zero_add<|And.intro @Nat.add_zero<|And.intro @Nat.mul_one<|And.intro @Z8<|And.intro @FI<|And.intro @D6<|And.intro @Ht<|And.intro @Bq<|And.intro @M9<|And.intro @List.length_take.{0} @List.length_drop.{0}
def csF:=And.intro @Jl<|And.intro @BJ<|And.intro @KU<|And.intro @MK<|And.intro @Gc9<|And.intro @Gc4<|And.intro @RG<|And.intro @GcG<|And.intro @Bool.and_true<|And.intro @Bool.true_and<|And.intro @List.all_cons.{0}<|And.intro @List.all_nil.{0} @List.all_append.{0}
theorem dz{p:Prop}(h:p:=by first|omega|rfl|assumption|(simp only[csN,Nat.reduceAdd,Nat.reduceMul,Nat.reduceLeDiff,Nat.reduceEqDiff]<;>omega)|(simp only[csF];done)|(simp only[csF]<;>assumption)|fail):p:=h
end Go.Cs
namespace Go.Cs
open Go
section
variable {F : GQ} {E : Env} {H : Gb}
def Bw(op:BinOp)(x y:CV)(H:Gb):Option (CV×Gb):=match x,y with
 |.int k a,.int _ b=>(shiftOp op k a b).map fun v=>(v,H)
 |_,_=>none
def EK(op:BinOp)(x y:CV):Option Tu:=match x,y with
 |.int k a,.int _ b=>(shiftOp op k a b).bind okV
 |_,_=>none
def GiA(k:IntKind)(x:CV)(H:Gb):Option (CV×Gb):=match x with
 |.int _ n=>some (.int k (k.wrap n),H)
 |_=>none
def Ghs(k:IntKind)(x:CV):Option Tu:=match x with
 |.int _ n=>okV (.int k (k.wrap n))
 |_=>none
def vMm(big:Bool)(l:List CV)(H:Gb):Option (CV×Gb):=(Gj7 big l).map fun v=>(v,H)
theorem FB{op:BinOp}{x y:Jy}:JY F (.shift op x y) E H=Bw op (E.ev x) (E.ev y) H:=by
 simp only[JY,UZ,G7,Bw]
 cases E.ev x<;>cases E.ev y<;>first|rfl|skip
 rename_i k a k' b
 dsimp only
 cases shiftOp op k a b<;>rfl
theorem XT{op:BinOp}{x y:Jy}:G7 (.shift op x y) E H=EK op (E.ev x) (E.ev y):=by
 simp only[G7,EK]
 cases E.ev x<;>cases E.ev y<;>first|rfl|skip
 rename_i k a k' b
 dsimp only
 cases shiftOp op k a b<;>rfl
theorem Ke{k:IntKind}{x:Jy}:JY F (.conv k x) E H=GiA k (E.ev x) H:=by
 simp only[JY,UZ,G7,GiA]<;>cases E.ev x<;>rfl
theorem VK{k:IntKind}{x:Jy}:G7 (.conv k x) E H=Ghs k (E.ev x):=by
 simp only[G7,Ghs]<;>cases E.ev x<;>rfl
theorem GmJ{big:Bool}{l:List Jy}:JY F (.mm big l) E H=vMm big (l.map E.ev) H:=by
 simp only[JY,UZ,G7,vMm]<;>cases Gj7 big (l.map E.ev)<;>rfl
theorem GvD{k k':IntKind}{a b:Int}(h:0≤b):Bw .shl (.int k a) (.int k' b) H=some (.int k (k.wrap (a*2 ^ min b.toNat k.bits)),H):=by
 simp only[Bw,shiftOp];rw[if_neg oM];rfl
theorem GrT{k k':IntKind}{a b:Int}(h:0≤b):Bw .shr (.int k a) (.int k' b) H=some (.int k (a.fdiv (2 ^ min b.toNat k.bits)),H):=by
 simp only[Bw,shiftOp];rw[if_neg oM];rfl
theorem Gu5{k k':IntKind}{a b:Int}(h:0≤b):EK .shl (.int k a) (.int k' b)=okV (.int k (k.wrap (a*2 ^ min b.toNat k.bits))):=by
 simp only[EK,shiftOp];rw[if_neg oM];rfl
theorem Gs2{k k':IntKind}{a b:Int}(h:0≤b):EK .shr (.int k a) (.int k' b)=okV (.int k (a.fdiv (2 ^ min b.toNat k.bits))):=by
 simp only[EK,shiftOp];rw[if_neg oM];rfl
theorem KL{k k':IntKind}{n:Int}:GiA k (.int k' n) H=some (.int k (k.wrap n),H):=rfl
theorem VU{k k':IntKind}{n:Int}:Ghs k (.int k' n)=okV (.int k (k.wrap n)):=rfl
theorem Gn8{big:Bool}{k k':IntKind}{x y:Int}:vMm big [.int k x,.int k' y] H=some (.int k (if big then(if y>x then y else x)else(if y<x then y else x)),H):=rfl
theorem Gio{k:IntKind}{a b:Int}:QE .and (.int k a) (.int k b)=okV (.int k (k.wrap (BitVec.ofInt k.bits a &&& BitVec.ofInt k.bits b).toNat)):=by simp[QE,Ko]
theorem O1{k:IntKind}{a b:Int}:QE .mul (.int k a) (.int k b)=okV (.int k (k.wrap (a*b))):=by simp[QE,Ko]
theorem Gi7{k:IntKind}{a b:Int}(h:b≠0):QE .quo (.int k a) (.int k b)=okV (.int k (k.wrap (a.tdiv b))):=by simp[QE,Ko,h]
theorem Ns{k:IntKind}{a b:Int}(h:b≠0):QE .rem (.int k a) (.int k b)=okV (.int k (a.tmod b)):=by simp[QE,Ko,h]
end
end Go.Cs
namespace Go.Cs
open Go
def SL(p:J5)(c:Gn)(Inv:Nat→Env→Gb→Prop)(Post:CX→Env→Gb→Prop):Prop:=
 ∀k E H,Inv k E H→∃x E' H',den p (.loop c) E H=some (x,E',H')∧x≠.normal∧Post x E' H'
theorem GfT{p:J5}{c:Gn}{Inv:Nat→Env→Gb→Prop}{Post:CX→Env→Gb→Prop}
  (step:∀k E H,Inv k E H→∃x E' H',den p c E H=some (x,E',H')∧((x=.normal∧∃k',k'<k∧Inv k' E' H')∨(x≠.normal∧Post x E' H'))):SL p c Inv Post:=by
 intro k
 induction k using Nat.strongRecOn with
 |_ k ih=>
  intro E H hi
  obtain⟨x,E',H',e,h⟩:=step k E H hi
  rcases h with⟨rfl,k',hk,hi'⟩|⟨hx,hp⟩
  ·obtain⟨x2,E2,H2,e2,h2⟩:=ih k' hk E' H' hi'
   refine⟨x2,E2,H2,?_,h2⟩
   rw[XA,e,Rm,e2]
  ·refine⟨x,E',H',?_,hx,hp⟩
   rw[XA,e]
   cases x with
   |normal=>exact absurd rfl hx
   |exit i=>rfl
   |ret=>rfl
theorem SL.at{p:J5}{c:Gn}{Inv:Nat→Env→Gb→Prop}{Post:CX→Env→Gb→Prop}(h:SL p c Inv Post){E:Env}{H:Gb}{r:Option (CX×Env×Gb)}(hr:den p (.loop c) E H=r)(k:Nat)(hi:Inv k E H):
  ∃x E' H',r=some (x,E',H')∧x≠.normal∧Post x E' H':=by
 obtain⟨x,E',H',e,h⟩:=h k E H hi
 grind
theorem Gm{p:J5}{c:Gn}{Inv:Nat→Env→Gb→Prop}{Post:CX→Env→Gb→Prop}{k k':Nat}{E E':Env}{H H':Gb}(e:den p c E H=some (.normal,E',H'))(hk:k'<k)(hi:Inv k' E' H'):
 ∃x E' H',den p c E H=some (x,E',H')∧((x=.normal∧∃k',k'<k∧Inv k' E' H')∨(x≠.normal∧Post x E' H')):=⟨_,_,_,e,.inl ⟨rfl,k',hk,hi⟩⟩
theorem Gi{p:J5}{c:Gn}{Inv:Nat→Env→Gb→Prop}{Post:CX→Env→Gb→Prop}{k:Nat}{x:CX}{E E':Env}{H H':Gb}(e:den p c E H=some (x,E',H'))(hx:x≠.normal)(hp:Post x E' H'):
 ∃x E' H',den p c E H=some (x,E',H')∧((x=.normal∧∃k',k'<k∧Inv k' E' H')∨(x≠.normal∧Post x E' H')):=⟨_,_,_,e,.inr ⟨hx,hp⟩⟩
end Go.Cs
namespace Go.Cs
open Go
def Im:Gn→Bool
 |.seq a b=>Im a&&Im b
 |.cond _ a b=>Im a&&Im b
 |.block _ c=>Im c
 |.loop c=>Im c
 |.Qv .. =>false
 |_=>true
theorem ZW{E:Env}{d:Option Nat}{v:CV}{t:Nat}(h:t∉d.toList):E.put d v t=E t:=by
 cases d with
 |none=>rfl
 |some d=>
  simp only[Z4,Ad]at h
  simp only[Env.put,Env.upd,if_neg h]
theorem Vx{α:Type}{f:α→Option Nat}{a:α}{l:List α}{t:Nat}(h:t∉(a::l).filterMap f):t∉(f a).toList∧t∉l.filterMap f:=by
 grind
theorem Wz{F:GQ}{t:Nat}:∀{l:List GH}{E:Env}{H:Gb}{r:Env×Gb},JW F l E H=some r→t∉l.filterMap (·.dst)→r.1 t=E t
 |[],E,H,r,h,_=>by simp only[JW,GA]at h;subst h;rfl
 |s::l,E,H,r,h,ht=>by
  obtain⟨h1,h2⟩:=Vx ht
  simp only[JW,Jk]at h
  obtain⟨q,hq,hr⟩:=h
  rw[Wz hr h2]
  unfold Qs at hq
  split at hq
  ·rw[GD]at hq;obtain⟨p,_,rfl⟩:=hq;exact ZW h1
  ·simp only[GA]at hq;subst hq;exact ZW h1
theorem Sy{F:GQ}{t:Nat}:∀{l:List G8}{E:Env}{H:Gb}{hs:List Gb}{r:Env×Gb},AU F l E H hs=some r→t∉l.filterMap (·.s.dst)→r.1 t=E t
 |[],E,H,hs,r,h,_=>by simp only[AU,GA]at h;subst h;rfl
 |d::l,E,H,hs,r,h,ht=>by
  obtain⟨h1,h2⟩:=Vx ht
  unfold AU at h
  split at h
  ·rw[Sy h h2];exact ZW h1
  ·split at h
   ·rw[Jk]at h
    obtain⟨q,hq,hr⟩:=h
    rw[Sy hr h2];exact ZW h1
   ·rw[Jk]at h
    obtain⟨m,_,hr⟩:=h
    split at hr
    ·rw[Sy hr h2];exact ZW h1
    ·cases hr
theorem FQ(p:J5){t:Nat}:∀(n:Nat){c:Gn}{E:Env}{H:Gb}{r:CX×Env×Gb},ev p n c E H=some r→Im c=true→t∉wr c→r.2.1 t=E t
 |0,_,_,_,_,h,_,_=>by cases h
 |n+1,c,E,H,r,h,hn,ht=>by
  rw[Kh]at h
  cases c with
  |skip=>simp only[GA]at h;subst h;rfl
  |region ops=>rw[GD]at h;obtain⟨q,hq,rfl⟩:=h;exact Wz hq ht
  |QK ops=>rw[GD]at h;obtain⟨q,hq,rfl⟩:=h;exact Sy hq ht
  |seq a b=>
   simp only[wr,K_,not_or]at ht
   simp only[Im,NH]at hn
   rw[Jk]at h
   obtain⟨q,hq,h⟩:=h
   have h1:=FQ p n hq hn.1 ht.1
   split at h
   ·rw[FQ p n h hn.2 ht.2,h1]
   grind
  |cond c a b=>
   simp only[wr,K_,not_or]at ht
   simp only[Im,NH]at hn
   dsimp only at h
   split at h
   ·rename_i tt _
    cases tt with
    |true=>exact FQ p n h hn.1 ht.1
    |false=>exact FQ p n h hn.2 ht.2
   ·cases h
  |block id c=>
   simp only[wr]at ht
   rw[GD]at h
   obtain⟨q,hq,rfl⟩:=h
   exact FQ p n (r:=q) hq hn ht
  |loop c=>
   have ht':=ht
   have hn':=hn
   simp only[wr]at ht
   rw[Jk]at h
   obtain⟨q,hq,h⟩:=h
   have h1:=FQ p n hq hn ht
   split at h
   ·rw[FQ p n h hn' ht',h1]
   grind
  |Nc g ps k z=>
   rw[Jk]at h
   obtain⟨q,hq,h⟩:=h
   rw[(YF h).2]
  |Qv q b r=>cases hn
  |exit id=>simp only[GA]at h;subst h;rfl
  |ret=>simp only[GA]at h;subst h;rfl
theorem SS{p:J5}{c:Gn}{E E':Env}{H H':Gb}{x:CX}(h:den p c E H=some (x,E',H'))(hc:Im c=true){t:Nat}(ht:t∉wr c):E' t=E t:=by
 obtain⟨n,hn⟩:=Kz.1 h
 exact FQ p n hn hc ht
theorem Gq{p:J5}{c:Gn}{E0:Env}{H0:Gb}(Inv:Nat→Env→Gb→Prop)(Post:CX→Env→Gb→Prop)
  (step:∀k E H,(∀t,t∉wr c→E t=E0 t)→Inv k E H→∃x E' H',den p c E H=some (x,E',H')∧((x=.normal∧∃k',k'<k∧Inv k' E' H')∨(x≠.normal∧Post x E' H')))
  (k:Nat)(hi:Inv k E0 H0)(hc:Im c=true:=by decide +kernel):∃x E' H',den p (.loop c) E0 H0=some (x,E',H')∧x≠.normal∧Post x E' H'∧∀t,t∉wr c→E' t=E0 t:=by
 have key:SL p c (fun k E H=>(∀t,t∉wr c→E t=E0 t)∧Inv k E H) (fun x E' H'=>Post x E' H'∧∀t,t∉wr c→E' t=E0 t):=by
  refine GfT ?_
  rintro k E H ⟨hE,hi⟩
  obtain⟨x,E',H',e,h⟩:=step k E H hE hi
  have hE':∀t,t∉wr c→E' t=E0 t:=fun t ht=>(SS e hc ht).trans (hE t ht)
  grind
 obtain⟨x,E',H',e,hx,hp⟩:=key k E0 H0 ⟨fun _ _=>rfl,hi⟩
 exact⟨x,E',H',e,hx,hp⟩
end Go.Cs
namespace Go.Cs
open Go
theorem Jc{l vs:List CV}{o:Nat}:splice l o vs=l.take o++vs++l.drop (o+vs.length):=rfl
theorem JO{cs:List CV}{o n:Nat}{v:CV}{r:List (Nat×Nat×CV)}:fill cs ((o,n,v)::r)=if(cellsOf v).length=n∧o+n≤cs.length then fill (splice cs o (cellsOf v)) r else none:=rfl
theorem GvX:((0:Int)==0)=true∧((1:Int)==1)=true∧((2:Int)==2)=true∧((1:Int)==0)=false∧((2:Int)==0)=false∧((2:Int)==1)=false∧((0:Int)==1)=false∧((0:Int)==2)=false∧((1:Int)==2)=false∧((0:Int) != 0)=false∧((1:Int) != 1)=false∧((2:Int) != 2)=false:=by decide
def Ub:=And.intro GvX<|And.intro @Option.isSome_none.{0}<|And.intro @Option.isSome_some.{0}<|And.intro @and_self<|And.intro @Nat.zero_add<|And.intro @Nat.add_zero<|And.intro @DK<|And.intro @QG<|And.intro @A9<|And.intro @NY<|And.intro @GjU<|And.intro @Bool.true_and<|And.intro @Bool.false_and<|And.intro @Bool.and_true @Bool.and_false
def csX:=And.intro Ub<|And.intro @Jc<|And.intro @JO<|And.intro @Gat<|And.intro @LB<|And.intro @Z8<|And.intro @YH<|And.intro @UD<|And.intro @Jl<|And.intro @MK<|And.intro @KU<|And.intro @BJ<|And.intro @Jw<|And.intro @Ji<|And.intro @PC<|And.intro @Ke<|And.intro @KL<|And.intro @Ns<|And.intro @Go9<|And.intro @Yl<|And.intro @VK<|And.intro @VU<|And.intro @GmJ<|And.intro @Gn8<|And.intro @Di<|And.intro @Vm @Gmo
section
variable {f p q : Prop}
theorem W0(e:p:=by simp(disch:=first|exact dz|fail) only[simprocAttr,-List.reduceReplicate,Gs,↓reduceIte,Ub, *]):p:=e
theorem Jb(h:q)(e:p=q:=by(conv=>lhs;simp(disch:=first|exact dz|fail) only[simprocAttr,-List.reduceReplicate,Gs,↓reduceIte,Ub, *])<;>exact rfl):p:=e▸h
theorem Hz(e:p:=by simp(disch:=first|exact dz|fail) only[simprocAttr,-List.reduceReplicate,Gs,↓reduceIte,csX, *]):p:=e
theorem WX(h:q)(e:p=q:=by(conv=>lhs;simp(disch:=first|exact dz|fail) only[simprocAttr,-List.reduceReplicate,Gs,↓reduceIte,csX, *])<;>exact rfl):p:=e▸h
theorem tW(e:f→p=q:=by intro f;(conv=>lhs;simp(disch:=first|exact dz|fail) only[simprocAttr,-List.reduceReplicate,Gs,↓reduceIte,Ub,f])<;>exact rfl):f→p=q:=e
theorem tV(e:f→p:=by intro f;simp(disch:=first|exact dz|fail) only[simprocAttr,-List.reduceReplicate,Gs,↓reduceIte,Ub,f]):f→p:=e
variable {a1 a2 a3 a4 a5 a6 a7 a8 a9 I4 OL a12 TI XM a15 a16 a17 a18 a19 a20 a21 a22 a23 a24 a25 a26 a27 a28 a29 a30 : Prop} (x1 : a1) (x2 : a2) (x3 : a3) (x4 : a4) (x5 : a5) (x6 : a6) (x7 : a7) (x8 : a8) (x9 : a9) (x10 : I4) (OY : OL) (RP : a12) (Wi : TI) (x14 : XM) (x15 : a15) (x16 : a16) (x17 : a17) (x18 : a18) (x19 : a19) (x20 : a20) (x21 : a21) (x22 : a22) (x23 : a23) (x24 : a24) (x25 : a25) (x26 : a26) (x27 : a27) (x28 : a28) (x29 : a29) (x30 : a30)
def W1(h:q)(e:a1→p=q:=by exact tW):p:=e x1▸h
def V1(e:a1→p:=by exact tV):p:=e x1
def W2(h:q)(e:a1∧a2→p=q:=by exact tW):p:=e ⟨x1,x2⟩▸h
def V2(e:a1∧a2→p:=by exact tV):p:=e ⟨x1,x2⟩
def W3(h:q)(e:a1∧a2∧a3→p=q:=by exact tW):p:=e ⟨x1,x2,x3⟩▸h
def V3(e:a1∧a2∧a3→p:=by exact tV):p:=e ⟨x1,x2,x3⟩
def W4(h:q)(e:a1∧a2∧a3∧a4→p=q:=by exact tW):p:=e ⟨x1,x2,x3,x4⟩▸h
def V4(e:a1∧a2∧a3∧a4→p:=by exact tV):p:=e ⟨x1,x2,x3,x4⟩
def W5(h:q)(e:a1∧a2∧a3∧a4∧a5→p=q:=by exact tW):p:=e ⟨x1,x2,x3,x4,x5⟩▸h
def V5(e:a1∧a2∧a3∧a4∧a5→p:=by exact tV):p:=e ⟨x1,x2,x3,x4,x5⟩
def W6(h:q)(e:a1∧a2∧a3∧a4∧a5∧a6→p=q:=by exact tW):p:=e ⟨x1,x2,x3,x4,x5,x6⟩▸h
def V6(e:a1∧a2∧a3∧a4∧a5∧a6→p:=by exact tV):p:=e ⟨x1,x2,x3,x4,x5,x6⟩
def W7(h:q)(e:a1∧a2∧a3∧a4∧a5∧a6∧a7→p=q:=by exact tW):p:=e ⟨x1,x2,x3,x4,x5,x6,x7⟩▸h
def V7(e:a1∧a2∧a3∧a4∧a5∧a6∧a7→p:=by exact tV):p:=e ⟨x1,x2,x3,x4,x5,x6,x7⟩
def W8(h:q)(e:a1∧a2∧a3∧a4∧a5∧a6∧a7∧a8→p=q:=by exact tW):p:=e ⟨x1,x2,x3,x4,x5,x6,x7,x8⟩▸h
def V8(e:a1∧a2∧a3∧a4∧a5∧a6∧a7∧a8→p:=by exact tV):p:=e ⟨x1,x2,x3,x4,x5,x6,x7,x8⟩
def W9(h:q)(e:a1∧a2∧a3∧a4∧a5∧a6∧a7∧a8∧a9→p=q:=by exact tW):p:=e ⟨x1,x2,x3,x4,x5,x6,x7,x8,x9⟩▸h
def V9(e:a1∧a2∧a3∧a4∧a5∧a6∧a7∧a8∧a9→p:=by exact tV):p:=e ⟨x1,x2,x3,x4,x5,x6,x7,x8,x9⟩
def W10(h:q)(e:a1∧a2∧a3∧a4∧a5∧a6∧a7∧a8∧a9∧I4→p=q:=by exact tW):p:=e ⟨x1,x2,x3,x4,x5,x6,x7,x8,x9,x10⟩▸h
def W11(h:q)(e:a1∧a2∧a3∧a4∧a5∧a6∧a7∧a8∧a9∧I4∧OL→p=q:=by exact tW):p:=e ⟨x1,x2,x3,x4,x5,x6,x7,x8,x9,x10,OY⟩▸h
def V11(e:a1∧a2∧a3∧a4∧a5∧a6∧a7∧a8∧a9∧I4∧OL→p:=by exact tV):p:=e ⟨x1,x2,x3,x4,x5,x6,x7,x8,x9,x10,OY⟩
def W12(h:q)(e:a1∧a2∧a3∧a4∧a5∧a6∧a7∧a8∧a9∧I4∧OL∧a12→p=q:=by exact tW):p:=e ⟨x1,x2,x3,x4,x5,x6,x7,x8,x9,x10,OY,RP⟩▸h
def V12(e:a1∧a2∧a3∧a4∧a5∧a6∧a7∧a8∧a9∧I4∧OL∧a12→p:=by exact tV):p:=e ⟨x1,x2,x3,x4,x5,x6,x7,x8,x9,x10,OY,RP⟩
def W13(h:q)(e:a1∧a2∧a3∧a4∧a5∧a6∧a7∧a8∧a9∧I4∧OL∧a12∧TI→p=q:=by exact tW):p:=e ⟨x1,x2,x3,x4,x5,x6,x7,x8,x9,x10,OY,RP,Wi⟩▸h
def V13(e:a1∧a2∧a3∧a4∧a5∧a6∧a7∧a8∧a9∧I4∧OL∧a12∧TI→p:=by exact tV):p:=e ⟨x1,x2,x3,x4,x5,x6,x7,x8,x9,x10,OY,RP,Wi⟩
def W14(h:q)(e:a1∧a2∧a3∧a4∧a5∧a6∧a7∧a8∧a9∧I4∧OL∧a12∧TI∧XM→p=q:=by exact tW):p:=e ⟨x1,x2,x3,x4,x5,x6,x7,x8,x9,x10,OY,RP,Wi,x14⟩▸h
def V14(e:a1∧a2∧a3∧a4∧a5∧a6∧a7∧a8∧a9∧I4∧OL∧a12∧TI∧XM→p:=by exact tV):p:=e ⟨x1,x2,x3,x4,x5,x6,x7,x8,x9,x10,OY,RP,Wi,x14⟩
def W15(h:q)(e:a1∧a2∧a3∧a4∧a5∧a6∧a7∧a8∧a9∧I4∧OL∧a12∧TI∧XM∧a15→p=q:=by exact tW):p:=e ⟨x1,x2,x3,x4,x5,x6,x7,x8,x9,x10,OY,RP,Wi,x14,x15⟩▸h
def V15(e:a1∧a2∧a3∧a4∧a5∧a6∧a7∧a8∧a9∧I4∧OL∧a12∧TI∧XM∧a15→p:=by exact tV):p:=e ⟨x1,x2,x3,x4,x5,x6,x7,x8,x9,x10,OY,RP,Wi,x14,x15⟩
def W16(h:q)(e:a1∧a2∧a3∧a4∧a5∧a6∧a7∧a8∧a9∧I4∧OL∧a12∧TI∧XM∧a15∧a16→p=q:=by exact tW):p:=e ⟨x1,x2,x3,x4,x5,x6,x7,x8,x9,x10,OY,RP,Wi,x14,x15,x16⟩▸h
def V16(e:a1∧a2∧a3∧a4∧a5∧a6∧a7∧a8∧a9∧I4∧OL∧a12∧TI∧XM∧a15∧a16→p:=by exact tV):p:=e ⟨x1,x2,x3,x4,x5,x6,x7,x8,x9,x10,OY,RP,Wi,x14,x15,x16⟩
def W18(h:q)(e:a1∧a2∧a3∧a4∧a5∧a6∧a7∧a8∧a9∧I4∧OL∧a12∧TI∧XM∧a15∧a16∧a17∧a18→p=q:=by exact tW):p:=e ⟨x1,x2,x3,x4,x5,x6,x7,x8,x9,x10,OY,RP,Wi,x14,x15,x16,x17,x18⟩▸h
def V18(e:a1∧a2∧a3∧a4∧a5∧a6∧a7∧a8∧a9∧I4∧OL∧a12∧TI∧XM∧a15∧a16∧a17∧a18→p:=by exact tV):p:=e ⟨x1,x2,x3,x4,x5,x6,x7,x8,x9,x10,OY,RP,Wi,x14,x15,x16,x17,x18⟩
def W19(h:q)(e:a1∧a2∧a3∧a4∧a5∧a6∧a7∧a8∧a9∧I4∧OL∧a12∧TI∧XM∧a15∧a16∧a17∧a18∧a19→p=q:=by exact tW):p:=e ⟨x1,x2,x3,x4,x5,x6,x7,x8,x9,x10,OY,RP,Wi,x14,x15,x16,x17,x18,x19⟩▸h
def W20(h:q)(e:a1∧a2∧a3∧a4∧a5∧a6∧a7∧a8∧a9∧I4∧OL∧a12∧TI∧XM∧a15∧a16∧a17∧a18∧a19∧a20→p=q:=by exact tW):p:=e ⟨x1,x2,x3,x4,x5,x6,x7,x8,x9,x10,OY,RP,Wi,x14,x15,x16,x17,x18,x19,x20⟩▸h
def V20(e:a1∧a2∧a3∧a4∧a5∧a6∧a7∧a8∧a9∧I4∧OL∧a12∧TI∧XM∧a15∧a16∧a17∧a18∧a19∧a20→p:=by exact tV):p:=e ⟨x1,x2,x3,x4,x5,x6,x7,x8,x9,x10,OY,RP,Wi,x14,x15,x16,x17,x18,x19,x20⟩
def W22(h:q)(e:a1∧a2∧a3∧a4∧a5∧a6∧a7∧a8∧a9∧I4∧OL∧a12∧TI∧XM∧a15∧a16∧a17∧a18∧a19∧a20∧a21∧a22→p=q:=by exact tW):p:=e ⟨x1,x2,x3,x4,x5,x6,x7,x8,x9,x10,OY,RP,Wi,x14,x15,x16,x17,x18,x19,x20,x21,x22⟩▸h
def W23(h:q)(e:a1∧a2∧a3∧a4∧a5∧a6∧a7∧a8∧a9∧I4∧OL∧a12∧TI∧XM∧a15∧a16∧a17∧a18∧a19∧a20∧a21∧a22∧a23→p=q:=by exact tW):p:=e ⟨x1,x2,x3,x4,x5,x6,x7,x8,x9,x10,OY,RP,Wi,x14,x15,x16,x17,x18,x19,x20,x21,x22,x23⟩▸h
def V23(e:a1∧a2∧a3∧a4∧a5∧a6∧a7∧a8∧a9∧I4∧OL∧a12∧TI∧XM∧a15∧a16∧a17∧a18∧a19∧a20∧a21∧a22∧a23→p:=by exact tV):p:=e ⟨x1,x2,x3,x4,x5,x6,x7,x8,x9,x10,OY,RP,Wi,x14,x15,x16,x17,x18,x19,x20,x21,x22,x23⟩
def W24(h:q)(e:a1∧a2∧a3∧a4∧a5∧a6∧a7∧a8∧a9∧I4∧OL∧a12∧TI∧XM∧a15∧a16∧a17∧a18∧a19∧a20∧a21∧a22∧a23∧a24→p=q:=by exact tW):p:=e ⟨x1,x2,x3,x4,x5,x6,x7,x8,x9,x10,OY,RP,Wi,x14,x15,x16,x17,x18,x19,x20,x21,x22,x23,x24⟩▸h
def W26(h:q)(e:a1∧a2∧a3∧a4∧a5∧a6∧a7∧a8∧a9∧I4∧OL∧a12∧TI∧XM∧a15∧a16∧a17∧a18∧a19∧a20∧a21∧a22∧a23∧a24∧a25∧a26→p=q:=by exact tW):p:=e ⟨x1,x2,x3,x4,x5,x6,x7,x8,x9,x10,OY,RP,Wi,x14,x15,x16,x17,x18,x19,x20,x21,x22,x23,x24,x25,x26⟩▸h
end
end Go.Cs
namespace Go.Cs.Tryz
open Go Go.Cs A
noncomputable abbrev P:J5:=K7 Go.Proofs.Tryz.prog
abbrev ET:Gn:=S (T [m 20 8,bk 21 .geq 20 0] (J 21 (X 0))) (S (B 1 (T [m 24 0,m 25 8,q2 26 210 24 25,m 27 2,b 28 .eql 26 27] (I 28 (Q [m 29 8,m 6 29,n 7 0])))) (R [m 22 8,bk 23 .sub 22 1,m 8 23]))
def Gru:Gj:=⟨30,0,T [n 6 0,n 7 0] (S (T [m 9 0,q1 10 209 9,no 11 10] (I 11 (Q [n 6 0,n 7 5]))) (S (T [m 12 1,e 13 (.mm true [t 12,k 0]),m 14 0,z 15 14,f 16 0 15,l 17 1 16,e 18 (.mm false [t 13,t 17]),bk 19 .sub 18 1,m 8 19] (B 0 (W ET))) (Q [n 6 0,n 7 4]))),[r 6,r 7]⟩
theorem Gq8:P 113=some Gru:=by kernel_rfl
def Gtp:Gj:=⟨12,0,T [n 4 0] (S (T [m 5 0,m 6 1,q2 7 232 5 6,no 8 7] (I 8 (Q [n 4 (-1)]))) (Q [m 9 0,m 10 1,q2 11 210 9 10,m 4 11])),[r 4]⟩
theorem c154:P 154=some Gtp:=by kernel_rfl
def GtV:Gj:=⟨12,0,T [nb 2 false] (Q [m 3 0,e 4 (.eqv true 1 (t 3) (c .nilPtr)),m 5 4,gt 5 (m 6 0),gt 5 (z 7 6),gt 5 (f 8 0 7),gt 5 (l 9 1 8),gt 5 (bk 10 .gtr 9 0),an 11 5 10,m 2 11]),[r 2]⟩
theorem GsP:P 209=some GtV:=by kernel_rfl
def GtT:Gj:=⟨27,0,T [n 4 0] (T [m 6 1,m 7 0,z 8 7,f 9 1 8,l 10 1 9,b 11 .mul 6 10,m 5 11] (S (D [⟨m 24 0,12,0,0⟩,⟨q1 25 258 24,13,3,0⟩,⟨m 12 0,0,0,0⟩,⟨z 13 12,1,0,0⟩,⟨f 14 2 13,2,0,0⟩,⟨l 15 1 14,3,1,0⟩,⟨m 16 5,4,0,0⟩,⟨bk 17 .quo 16 64,5,0,0⟩,⟨x 18 1 15 17,6,0,0⟩,⟨l 19 1 18,7,1,0⟩,⟨m 20 5,8,0,0⟩,⟨bk 21 .rem 20 64,9,0,0⟩,⟨e 22 (.shift .shr (t 19) (t 21)),10,0,0⟩,⟨e 23 (.conv .i64 (t 22)),11,0,0⟩,⟨b 26 .and 23 25,14,0,1⟩,⟨m 4 26,15,0,1⟩]) .ret)),[r 4]⟩
theorem c210:P 210=some GtT:=by kernel_rfl
abbrev Ez:Gn:=S (T [m 14 8,m 15 0,z 16 15,f 17 0 16,l 18 1 17,b 19 .lss 14 18] (J 19 (X 0))) (S (B 1 (T [m 22 0,m 23 8,q2 24 210 22 23,m 25 2,b 26 .eql 24 25] (I 26 (Q [m 27 8,m 6 27,n 7 0])))) (R [m 20 8,bk 21 .add 20 1,m 8 21]))
def Gr8:Gj:=⟨28,0,T [n 6 0,n 7 0] (S (T [m 9 0,q1 10 209 9,no 11 10] (I 11 (Q [n 6 0,n 7 5]))) (S (T [m 12 1,e 13 (.mm true [t 12,k 0]),m 8 13] (B 0 (W Ez))) (Q [n 6 0,n 7 4]))),[r 6,r 7]⟩
theorem c226:P 226=some Gr8:=by kernel_rfl
def Gvo:Gj:=⟨19,0,T [nb 4 false] (Q [m 5 0,q1 6 209 5,m 7 6,gt 7 (m 8 1),gt 7 (bk 9 .geq 8 0),an 10 7 9,m 11 10,gt 11 (m 12 1),gt 11 (m 13 0),gt 11 (z 14 13),gt 11 (f 15 0 14),gt 11 (l 16 1 15),gt 11 (b 17 .lss 12 16),an 18 11 17,m 4 18]),[r 4]⟩
theorem c232:P 232=some Gvo:=by kernel_rfl
def GqY:Gj:=⟨9,0,T [n 2 0] (Q [m 3 0,z 4 3,f 5 1 4,l 6 1 5,e 7 (.shift .shl (k 1) (t 6)),bk 8 .sub 7 1,m 2 8]),[r 2]⟩
theorem Gsn:P 258=some GqY:=by kernel_rfl
end Go.Cs.Tryz
namespace Go.Cs
open Go
def Vq(n:Nat):Nat:=(n+63)/64
structure Side(H:Gb)(b wb n:Nat)(f:Nat→Bool):Prop where
 st:H[b]?=some ⟨[.i n,.i 1,.slice wb 0 (Vq n) (Vq n) 1 false],.rw,0⟩
 ws:∃ws:List Nat,ws.length=Vq n∧(∀w∈ws,w<18446744073709551616)∧H[wb]?=some ⟨ws.map (fun(m:Nat)=>CV.int .u64 m),.rw,1⟩∧∀i,i<n→(ws.getD (i/64) 0).testBit (i % 64)=f i
 pos:0<n∧n≤4096
theorem Side.frame{H H':Gb}{b wb n:Nat}{f:Nat→Bool}(s:Side H b wb n f)(h1:H'[b]?=H[b]?) (h2:H'[wb]?=H[wb]?):Side H' b wb n f:=
 ⟨by rw[h1,s.st],by rw[h2];exact s.ws,s.pos⟩
theorem Side.app{H:Gb}{b wb n:Nat}{f:Nat→Bool}(s:Side H b wb n f)(J:Gb):Side (H++J) b wb n f:=by
 obtain⟨ws,-,-,h,-⟩:=s.ws
 exact s.frame (IJ (Gf s.st)) (IJ (Gf h))
def Ei(b:Bool):Int:=if b then 1 else 0
def Pq(f:Nat→Bool):Nat→Nat→Option Nat
 |0,_=>none
 |k+1,j=>if f j=true then some j else Pq f k (j+1)
def U1(f:Nat→Bool):Nat→Option Nat
 |0=>none
 |j+1=>if f j=true then some j else U1 f j
def Nz(r:Option Nat):CV:=match r with
 |some j=>.Jj [.i j,.i 0]
 |none=>.Jj [.i 0,.i 4]
theorem GgM(x:Nat):IntKind.i64.wrap ((BitVec.ofInt 64 (IntKind.i64.wrap (x:Int)) &&& BitVec.ofInt 64 1).toNat:Int)=((x % 2:Nat):Int):=by
 have h4:BitVec.ofInt 64 (IntKind.i64.wrap (x:Int))=BitVec.ofNat 64 x:=by
  apply BitVec.eq_of_toNat_eq
  rw[BitVec.toNat_ofInt,BitVec.toNat_ofNat]
  have e:((2:Int) ^ (64:Nat))=18446744073709551616:=by decide
  have e2:((2:Int) ^ (63:Nat))=9223372036854775808:=by decide
  simp only[IntKind.wrap,IntKind.bits,IntKind.signed,e,Nat.reduceSub,e2,Bool.true_and,ge_iff_le,decide_eq_true_eq]
  split<;>omega
 rw[h4]
 have h5:(BitVec.ofNat 64 x &&& BitVec.ofInt 64 1).toNat=x % 2:=by
  grind
 rw[h5]
 exact Gg oM
theorem Glv(w k:Nat):((w/2 ^ k % 2:Nat):Int)=Ei (w.testBit k):=by
 rw[Nat.testBit_eq_decide_div_mod_eq]
 unfold Ei
 grind
theorem GkK(w k:Nat)(hk:k<64):(w:Int).fdiv (2 ^ min k 64)=((w/2 ^ k:Nat):Int):=by
 grind
theorem wrapN{n:Nat}(h:n≤9223372036854775807):IntKind.i64.wrap (n:Int)=n:=Gg oM
theorem KN(a b:Nat):(a:Int).tdiv (b:Int)=((a/b:Nat):Int):=by simp
theorem VY(a b:Nat):(a:Int).tmod (b:Int)=((a % b:Nat):Int):=by grind
end Go.Cs
namespace Go.Cs.Tryz
open Go Go.Cs
section
variable {H : Gb} {b wb n : Nat} {f : Nat → Bool}
theorem AJ(s:Side H b wb n f):run P 209 [.ptr b 0] H=some (.bool true,H):=by
 have h:=s.st
 have hp:=s.pos
 rw[Gh GsP _ _ sM]
 have hl:(0:Int)<n:=by omega
 exact W0
theorem Ep(s:Side H b wb n f):run P 258 [.ptr b 0] H=some (.i 1,H):=by
 have h:=s.st
 rw[Gh Gsn _ _ sM]
 have e:IntKind.i64.wrap (1*2 ^ min 1 IntKind.i64.bits)=2:=by decide
 have e2:IntKind.i64.wrap (2-1)=1:=by decide
 have:=@FB;have:=@GvD;exact W0
theorem MF(s:Side H b wb n f)(i:Int):run P 232 [.ptr b 0,.i i] H=some (.bool (decide (0≤i∧i<n)),H):=by
 have h1:=AJ s
 have h:=s.st
 rw[Gh c232 _ _ sM]
 by_cases hi:0≤i
 ·by_cases hn:i<n
  ·refine Jb ?_
   simp[hi,hn]
  ·refine Jb ?_
   simp[hn]
 ·refine Jb ?_
  simp[hi]
theorem EI(s:Side H b wb n f){i:Nat}(hi:i<n):run P 210 [.ptr b 0,.i i] H=some (.i (Ei (f i)),H):=by
 have h4:=Ep s
 have h:=s.st
 have hp:=s.pos
 obtain⟨ws,h1,h2,h3,h5⟩:=s.ws
 have hd:(i:Int).tdiv 64=((i/64:Nat):Int):=KN i 64
 have hm:(i:Int).tmod 64=((i % 64:Nat):Int):=VY i 64
 have hi0:IntKind.i64.wrap (i:Int)=i:=wrapN oM
 have hq:IntKind.i64.wrap ((i/64:Nat):Int)=((i/64:Nat):Int):=wrapN oM
 have hlt:i/64<Vq n:=by unfold Vq;omega
 have hx:(ws.map (fun(m:Nat)=>CV.int .u64 m))[i/64]?=some (.int .u64 ((ws.getD (i/64) 0:Nat):Int)):=by
  grind
 have hb1:(0:Int)≤((i/64:Nat):Int)∧((i/64:Nat):Int)<((Vq n:Nat):Int):=by omega
 have hb2:(0:Int)≤((i % 64:Nat):Int):=by omega
 have htn:(((i/64:Nat):Int)).toNat=i/64:=by omega
 have hsh:=GkK (ws.getD (i/64) 0) (i % 64) oM
 have hres:=GgM (ws.getD (i/64) 0/2 ^ (i % 64))
 rw[Glv,h5 i hi]at hres
 rw[Gh c210 _ _ sM]
 simp(disch:=first|exact dz|fail) only[simprocAttr,Gs,↓reduceIte,QG,h,h4,h3,XT,Gs2,VK,VU,Gio,Gi7,Ns,hi0,hd,hm,hq,htn,hx,Int.mul_one,IntKind.bits,hsh]
 exact congrArg (fun z=>some (CV.int .i64 z,H)) hres
theorem OG(s:Side H b wb n f)(i:Int):run P 154 [.ptr b 0,.i i] H=some (.i (if 0≤i∧i<n then Ei (f i.toNat)else -1),H):=by
 have h1:=MF s i
 rw[Gh c154 _ _ sM]
 by_cases hi:0≤i∧i<n
 ·have h2:=EI s (i:=i.toNat) oM
  have e:((i.toNat:Nat):Int)=i:=by omega
  rw[e]at h2
  rw[Gz hi]at h1
  rw[if_pos hi]
  exact W0
 ·rw[Gw hi]at h1
  rw[if_neg hi]
  exact W0
theorem GmX(s:Side H b wb n f){E0:Env}{j0:Nat}(h0:E0 0=.ptr b 0)(h2:E0 2=.i 1)(h8:E0 8=.i j0){r:Option (CX×Env×Gb)}(hr:den P (.loop Ez) E0 H=r):
  ∃x E',r=some (x,E',H)∧((x=.ret∧.Jj [E' 6,E' 7]=Nz (Pq f (n-j0) j0))∨(x=.exit 0∧Pq f (n-j0) j0=none)):=by
 have hst:=s.st
 have hp:=s.pos
 obtain⟨x',E',H',e,-,⟨rfl,h⟩,fr⟩:=Gq (p:=P) (c:=Ez) (E0:=E0) (H0:=H) (fun k E H'=>H'=H∧∃j:Nat,E 8=.i j∧k=n-j∧Pq f (n-j) j=Pq f (n-j0) j0)
  (fun x E' H'=>H'=H∧((x=.ret∧.Jj [E' 6,E' 7]=Nz (Pq f (n-j0) j0))∨(x=.exit 0∧Pq f (n-j0) j0=none))) (by
   rintro k E H' hE ⟨rfl,j,e8,rfl,hj⟩
   have e0:=(hE 0 dK).trans h0
   have e2:=(hE 2 dK).trans h2
   by_cases c:j<n
   ·have hg:=EI s c
    have hk:n-j=(n-(j+1))+1:=by omega
    rw[hk]at hj
    simp only[Pq]at hj
    by_cases hf:f j=true
    ·rw[if_pos hf]at hj
     rw[hf]at hg
     apply Gi (x:=.ret)
     ·simp(disch:=first|exact dz|fail) only[simprocAttr,Gs,↓reduceIte,Ez,e0,e2,e8,hst,hg,Ei]
      rfl
     ·simp
     ·exact⟨rfl,.inl ⟨rfl,by rw[←hj];simp[Gc,Nz]⟩⟩
    ·rw[if_neg hf]at hj
     have hf':f j=false:=by simpa using hf
     rw[hf']at hg
     have hw:IntKind.i64.wrap ((j:Int)+1)=((j+1:Nat):Int):=Gg oM
     apply Gm (k':=n-(j+1))
     ·simp(disch:=first|exact dz|fail) only[simprocAttr,Gs,↓reduceIte,Ez,e0,e2,e8,hst,hg,Ei,hw]
      rfl
     ·omega
     ·exact⟨rfl,j+1,uA,rfl,hj⟩
   ·have hk:n-j=0:=by omega
    rw[hk]at hj
    simp only[Pq]at hj
    apply Gi (x:=.exit 0)
    ·refine Jb ?_
     rfl
    ·simp
    grind) (n-j0) ⟨rfl,j0,h8,rfl,rfl⟩
 exact⟨x',E',hr.symm.trans e,h⟩
theorem R9(s:Side H b wb n f)(j:Nat):run P 226 [.ptr b 0,.i j,.i 1] H=some (Nz (Pq f (n-j) j),H):=by
 have h4:=AJ s
 rw[Gh c226 _ _ sM]
 have hm:(if(0:Int)>(j:Int)then(0:Int)else(j:Int))=j:=if_neg oM
 refine WX ?_
 generalize hr:den P (.loop Ez) _ _=r
 obtain⟨x,E',rfl,hp⟩:=GmX s (j0:=j) uA uA uA hr
 rcases hp with⟨rfl,h1⟩|⟨rfl,h1⟩
 ·exact W0
 ·rw[h1]
  simp(disch:=first|exact dz|fail) only[simprocAttr,Gs,↓reduceIte,Nz]
theorem Gl4(s:Side H b wb n f){E0:Env}{j0:Nat}(hj0:j0≤n)(h0:E0 0=.ptr b 0)(h2:E0 2=.i 1)(h8:E0 8=.i ((j0:Int)-1)){r:Option (CX×Env×Gb)}(hr:den P (.loop ET) E0 H=r):
  ∃x E',r=some (x,E',H)∧((x=.ret∧.Jj [E' 6,E' 7]=Nz (U1 f j0))∨(x=.exit 0∧U1 f j0=none)):=by
 have hst:=s.st
 have hp:=s.pos
 obtain⟨x',E',H',e,-,⟨rfl,h⟩,fr⟩:=Gq (p:=P) (c:=ET) (E0:=E0) (H0:=H) (fun k E H'=>H'=H∧∃j:Nat,E 8=.i ((j:Int)-1)∧j≤n∧k=j∧U1 f j=U1 f j0)
  (fun x E' H'=>H'=H∧((x=.ret∧.Jj [E' 6,E' 7]=Nz (U1 f j0))∨(x=.exit 0∧U1 f j0=none))) (by
   rintro k E H' hE ⟨rfl,j,e8,hjn,rfl,hj⟩
   have e0:=(hE 0 dK).trans h0
   have e2:=(hE 2 dK).trans h2
   rcases k with _|j
   ·simp only[U1]at hj
    apply Gi (x:=.exit 0)
    ·refine Jb ?_
     rfl
    ·simp
    grind
   ·have e8':E 8=.i (j:Int):=by rw[e8];congr 1;omega
    have hg:=EI s (i:=j) oM
    simp only[U1]at hj
    have c0:(0:Int)≤(j:Int):=by omega
    by_cases hf:f j=true
    ·rw[if_pos hf]at hj
     rw[hf]at hg
     apply Gi (x:=.ret)
     ·simp(disch:=first|exact dz|fail) only[simprocAttr,Gs,↓reduceIte,ET,e0,e2,e8',c0,hg,Ei]
      rfl
     ·simp
     ·exact⟨rfl,.inl ⟨rfl,by rw[←hj];simp[Gc,Nz]⟩⟩
    ·rw[if_neg hf]at hj
     have hf':f j=false:=by simpa using hf
     rw[hf']at hg
     have hw:IntKind.i64.wrap ((j:Int)-1)=(j:Int)-1:=Gg oM
     apply Gm (k':=j)
     ·simp(disch:=first|exact dz|fail) only[simprocAttr,Gs,↓reduceIte,ET,e0,e2,e8',c0,hg,Ei,hw]
      rfl
     ·omega
     ·exact⟨rfl,j,uA,oM,rfl,hj⟩) j0 ⟨rfl,j0,h8,hj0,rfl,rfl⟩
 exact⟨x',E',hr.symm.trans e,h⟩
theorem GeL(s:Side H b wb n f){j:Nat}(hj:j≤n):run P 113 [.ptr b 0,.i j,.i 1] H=some (Nz (U1 f j),H):=by
 have h4:=AJ s
 have hst:=s.st
 have hp:=s.pos
 rw[Gh Gq8 _ _ sM]
 have hm:(if(0:Int)>(j:Int)then(0:Int)else(j:Int))=j:=if_neg oM
 have hm2:(if(n:Int)<(j:Int)then(n:Int)else(j:Int))=j:=if_neg oM
 have hw:IntKind.i64.wrap ((j:Int)-1)=(j:Int)-1:=Gg oM
 refine WX ?_
 generalize hr:den P (.loop ET) _ _=r
 obtain⟨x,E',rfl,hp⟩:=Gl4 s (j0:=j) hj uA uA uA hr
 rcases hp with⟨rfl,h1⟩|⟨rfl,h1⟩
 ·exact W0
 ·rw[h1]
  simp(disch:=first|exact dz|fail) only[simprocAttr,Gs,↓reduceIte,Nz]
end
end Go.Cs.Tryz
namespace Go.Cs
open Go
structure Obj where
 nr:Int
 nd:Int
 kd:Int
 refs:List Int
 data:List Int
structure UG where
 slots:List (List Int)
 globals:List Int
 queue:List Int
 objs:List Obj
abbrev Tag:=Nat×Nat×Nat
abbrev Tags:=Nat→Option Tag
def ints(l:List Int):List CV:=l.map CV.i
theorem ZE(l:List Int):(ints l).length=l.length:=by simp[ints]
theorem Ai(l:List Int)(i:Nat):(ints l)[i]?=l[i]?.map CV.i:=by simp[ints]
theorem U2(l k:List Int):ints (l++k)=ints l++ints k:=by simp[ints]
theorem ints_set(l:List Int)(i:Nat)(v:Int):ints (l.set i v)=(ints l).set i (.i v):=by simp[ints,List.map_set]
theorem YB(l:List Int):(ints l).all leaf=true:=by simp[ints,leaf]
def Gp:CV→Nat
 |.slice b .. =>b
 |_=>0
def At(o:Tags)(t:Tag)(H:Gb)(v:CV)(e n:Nat)(cs:List CV):Prop:=
 (n=0∧cs=[]∧(v=.Gd∨∃b f,v=.slice b f 0 0 e false))∨
  ∃b tl,v=.slice b 0 n n e tl∧o b=some t∧H[b]?=some ⟨cs,.rw,e⟩∧cs.length=n*e
theorem At.pos{o:Tags}{t:Tag}{H:Gb}{v:CV}{e n:Nat}{cs:List CV}(h:At o t H v e n cs)(hn:0<n):
  ∃tl,v=.slice (Gp v) 0 n n e tl∧o (Gp v)=some t∧H[Gp v]?=some ⟨cs,.rw,e⟩∧cs.length=n*e:=by
 rcases h with⟨h,_⟩|⟨b,tl,rfl,h1,h2,h3⟩
 ·omega
 ·exact⟨tl,rfl,h1,h2,h3⟩
theorem At.len{o:Tags}{t:Tag}{H:Gb}{v:CV}{e n:Nat}{cs:List CV}(h:At o t H v e n cs)(H':Gb):UK v H'=some (.i n,H'):=by
 rcases h with⟨rfl,rfl,rfl|⟨b,f,rfl⟩⟩|⟨b,tl,rfl,h1,h2,h3⟩<;>rfl
theorem At.leaf{o:Tags}{t:Tag}{H:Gb}{v:CV}{e n:Nat}{cs:List CV}(h:At o t H v e n cs):leaf v=true:=by
 rcases h with⟨rfl,rfl,rfl|⟨b,f,rfl⟩⟩|⟨b,tl,rfl,h1,h2,h3⟩<;>rfl
theorem At.elems{o:Tags}{t:Tag}{H H':Gb}{v:CV}{e n:Nat}{cs:List CV}(h:At o t H v e n cs)(hf:∀c,o c=some t→H'[c]?=H[c]?):elems H' e v=some (n,cs):=by
 rcases h with⟨rfl,rfl,rfl|⟨b,f,rfl⟩⟩|⟨b,tl,rfl,h1,h2,h3⟩
 ·rfl
 ·rfl
 ·by_cases hn:n=0
  ·subst hn
   have:cs=[]:=AV oM
   subst this;rfl
  ·rw[JN oM,hf b h1,h2,Qg,Nat.zero_add,if_pos oM]
   simp[←h3]
theorem At.frame{o o':Tags}{t:Tag}{H H':Gb}{v:CV}{e n:Nat}{cs:List CV}(h:At o t H v e n cs)(ho:∀c,o c=some t→o' c=some t)(hf:∀c,o c=some t→H'[c]?=H[c]?):At o' t H' v e n cs:=by
 rcases h with h|⟨b,tl,rfl,h1,h2,h3⟩
 ·exact .inl h
 ·exact .inr ⟨b,tl,rfl,ho b h1,by rw[hf b h1,h2],h3⟩
theorem At.append{o:Tags}{t:Tag}{H:Gb}{v:CV}{e n k:Nat}{cs new:List CV}(h:At o t H v e n cs)(hk:0<k)(hm:n+k≤J9)(hl:new.all Go.Cs.leaf=true)(hnew:new.length=k*e):
  ∃H',Ju H e v k new=some (.slice H.length 0 (n+k) (n+k) e true,H')∧H'.length=H.length+1∧H'[H.length]?=some ⟨cs++new,.rw,e⟩∧∀c,c<H.length→o c≠some t→H'[c]?=H[c]?:=by
 rcases h with⟨rfl,rfl,rfl|⟨b,f,rfl⟩⟩|⟨b,tl,rfl,h1,h2,h3⟩
 ·refine⟨H++[⟨new,.rw,e⟩],?_,sM,sM,fun c hc _=>by rw[IJ hc]⟩
  unfold Ju
  dsimp only
  rw[if_neg oM,if_pos oM,Nat.zero_add]
 ·refine⟨H++[⟨new,.rw,e⟩],?_,sM,sM,fun c hc _=>by rw[IJ hc]⟩
  unfold Ju
  dsimp only
  rw[if_neg oM,if_neg oM,if_pos oM]
  simp
 ·have hb:=Gf h2
  have hold:(if n=0 then some []else JD H b 0 (n*e))=some cs:=by
   by_cases hn:n=0
   ·subst hn
    rw[if_pos rfl]
    congr 1
    exact(AV oM).symm
   ·rw[if_neg hn]
    unfold JD
    rw[h2]
    simp[←h3]
  cases tl with
  |false=>
   refine⟨H++[⟨cs++new,.rw,e⟩],?_,sM,sM,fun c hc _=>by rw[IJ hc]⟩
   unfold Ju
   dsimp only
   rw[if_neg oM,if_neg oM,if_pos oM,hold,Option.bind_some,if_neg sM]
  |true=>
   refine⟨H.set b ⟨cs,.dead,e⟩++[⟨cs++new,.rw,e⟩],?_,sM,sM,fun c hc hc'=>?_⟩
   ·unfold Ju
    dsimp only
    rw[if_neg oM,if_neg oM,if_pos oM,hold,Option.bind_some,if_pos rfl,h2]
    dsimp only
    rw[if_pos ⟨rfl,rfl,oM,hl⟩]
   ·rw[IJ (by simpa using hc),KV]
    rintro rfl
    exact hc' h1
structure Lay where
 sl:CV
 gl:CV
 qv:CV
 ov:CV
 sv:List CV
 hv:List (CV×CV)
def NP:List Obj→List (CV×CV)→List CV
 |x::xs,h::hs=>.i x.nr::.i x.nd::.i x.kd::h.1::h.2::NP xs hs
 |_,_=>[]
theorem DF:∀(xs:List Obj)(hs:List (CV×CV))(x:Obj)(h:CV×CV),hs.length=xs.length→NP (xs++[x]) (hs++[h])=NP xs hs++[.i x.nr,.i x.nd,.i x.kd,h.1,h.2]
 |[],[],_,_,_=>rfl
 |x::xs,h::hs,x',h',e=>by
  simp only[List.cons_append,NP]
  rw[DF xs hs x' h' (by simpa using e)]
structure Yd(o:Tags)(g:Nat)(H:Gb)(b:Nat)(M:UG)(L:Lay):Prop where
 dom:∀c t,o c=some t→c<H.length
 top:o b=some (g,0,0)
 cells:H[b]?=some ⟨[L.sl,L.gl,L.qv,L.ov],.rw,0⟩
 nsv:L.sv.length=M.slots.length
 slots:At o (g,1,0) H L.sl 1 M.slots.length L.sv
 slot:∀i s,M.slots[i]?=some s→∃v,L.sv[i]?=some v∧At o (g,2,i) H v 1 16 (ints s)
 globals:At o (g,3,0) H L.gl 1 16 (ints M.globals)
 queue:At o (g,4,0) H L.qv 1 M.queue.length (ints M.queue)
 nhv:L.hv.length=M.objs.length
 objs:At o (g,5,0) H L.ov 5 M.objs.length (NP M.objs L.hv)
 refs:∀j x,M.objs[j]?=some x→∃h,L.hv[j]?=some h∧At o (g,6,j) H h.1 1 x.refs.length (ints x.refs)∧At o (g,7,j) H h.2 1 x.data.length (ints x.data)
theorem Yd.frame{o o':Tags}{g:Nat}{H H':Gb}{b:Nat}{M:UG}{L:Lay}(m:Yd o g H b M L)(hd:∀c t,o' c=some t→c<H'.length)(ho:∀c k,o c=some (g,k)→o' c=some (g,k))(hf:∀c k,o c=some (g,k)→H'[c]?=H[c]?):Yd o' g H' b M L where
 dom:=hd
 top:=ho _ _ m.top
 cells:=by rw[hf _ _ m.top,m.cells]
 nsv:=m.nsv
 slots:=m.slots.frame (fun c=>ho c _) (fun c=>hf c _)
 slot:=fun i s h=>by
  obtain⟨v,h1,h2⟩:=m.slot i s h
  exact⟨v,h1,h2.frame (fun c=>ho c _) (fun c=>hf c _)⟩
 globals:=m.globals.frame (fun c=>ho c _) (fun c=>hf c _)
 queue:=m.queue.frame (fun c=>ho c _) (fun c=>hf c _)
 nhv:=m.nhv
 objs:=m.objs.frame (fun c=>ho c _) (fun c=>hf c _)
 refs:=fun j x h=>by
  obtain⟨v,h1,h2,h3⟩:=m.refs j x h
  exact⟨v,h1,h2.frame (fun c=>ho c _) (fun c=>hf c _),h3.frame (fun c=>ho c _) (fun c=>hf c _)⟩
theorem Yd.app{o:Tags}{g:Nat}{H:Gb}{b:Nat}{M:UG}{L:Lay}(m:Yd o g H b M L)(J:Gb):Yd o g (H++J) b M L:=
 m.frame (fun c t h=>by have:=m.dom c t h;simp;omega) (fun _ _ h=>h) (fun c k h=>IJ (m.dom c _ h))
structure Obj.Ok(n:Nat)(x:Obj):Prop where
 nr:0≤x.nr∧x.nr≤15∧x.refs.length=x.nr.toNat
 nd:0≤x.nd∧x.nd≤200∧x.data.length=x.nd.toNat
 kd:0≤x.kd∧x.kd≤3∧(x.kd=1→1≤x.nr)∧(x.kd=2→2≤x.nr)
 ids:∀v∈x.refs,0≤v∧v≤(n:Int)
structure UG.Ok(M:UG):Prop where
 ns:1≤M.slots.length∧M.slots.length≤4
 s16:∀s∈M.slots,s.length=16∧∀v∈s,0≤v∧v≤(M.objs.length:Int)
 g16:M.globals.length=16∧∀v∈M.globals,0≤v∧v≤(M.objs.length:Int)
 FV:M.queue.length≤64∧∀v∈M.queue,1≤v∧v≤(M.objs.length:Int)
 objs:∀x∈M.objs,x.Ok M.objs.length
 few:M.objs.length≤100000
def UG.GbN(M:UG)(mu i:Int):Int×Int:=
 if 0≤mu∧mu<M.slots.length∧0≤i∧i<16 then(((M.slots.getD mu.toNat []).getD i.toNat 0),0)else(0,1)
def UG.has(M:UG)(n:Int):Prop:=1≤n∧n≤(M.objs.length:Int)
instance(M:UG)(n:Int):Decidable (M.has n):=by unfold UG.has;exact inferInstance
def UG.obj(M:UG)(n:Int):Obj:=M.objs.getD (n-1).toNat ⟨0,0,0,[],[]⟩
def GoR(l:List Int)(i:Int):Int×Int:=if 0≤i∧i<(l.length:Int)then(l.getD i.toNat 0,0)else(0,1)
def UG.Du(M:UG)(n i:Int):Int×Int:=if M.has n then GoR (M.obj n).refs i else(0,4)
def UG.MC(M:UG)(n i:Int):Int×Int:=if M.has n then GoR (M.obj n).data i else(0,4)
def UG.JI(M:UG)(n:Int):(Int×Int×Int)×Int:=if M.has n then(((M.obj n).nr,(M.obj n).nd,(M.obj n).kd),0)else((0,0,0),4)
theorem Az{α:Type}{l:List α}{i:Nat}(d:α)(h:i<l.length):l[i]?=some (l.getD i d):=by
 simp[Bo,h]
theorem UG.GkC{M:UG}{n:Int}(h:M.has n):M.objs[(n-1).toNat]?=some (M.obj n):=Az _ (by unfold UG.has at h;omega)
end Go.Cs
namespace Go.Cs
open Go
section
variable {F : GQ} {E : Env} {H : Gb}
def Tj(F:GQ)(IE:List (Nat×String×Nat))(g:CV)(args:List CV)(H:Gb):Option (CV×Gb):=match g with
 |.func f caps=>if f<RB then F f (args++caps) H else none
 |.GfH name (.iface t x)=>(Eu IE t name).bind fun f=>F f (x::args) H
 |.yld b=>yieldOf F b args H
 |_=>none
theorem Jo{g:Jy}{l:List Jy}{IE:List (Nat×String×Nat)}:JY F (.Bc g l IE) E H=Tj F IE (E.ev g) (l.map E.ev) H:=by
 simp only[JY,Tj]
 grind
theorem JA{IE:List (Nat×String×Nat)}{f:Nat}{caps args:List CV}(hf:f<1000000):Tj F IE (.func f caps) args H=F f (args++caps) H:=if_pos hf
theorem GiV{k:IntKind}{a b:Int}:QE .or (.int k a) (.int k b)=okV (.int k (k.wrap (BitVec.ofInt k.bits a ||| BitVec.ofInt k.bits b).toNat)):=by simp[QE,Ko]
theorem WW{k:IntKind}{a b:Int}:QE .andNot (.int k a) (.int k b)=okV (.int k (k.wrap (BitVec.ofInt k.bits a &&& ~~~BitVec.ofInt k.bits b).toNat)):=by simp[QE,Ko]
theorem Gi4{IE:List (Nat×String×Nat)}{b:Nat}{args:List CV}:Tj F IE (.yld b) args H=yieldOf F b args H:=rfl
end
def cmY:=And.intro @Gi4 (show∀{F:GQ}{H:Gb}{b:Nat}{args:List CV},TV F (.yld b) args H=yieldOf F b args H from rfl)
def Sl(H:Gb)(v:CV)(e:Nat)(rs:List (List CV)):Prop:=
 (rs=[]∧(v=.Gd∨∃b o c t,v=.slice b o 0 c e t))∨
  ∃b o c t k,v=.slice b o rs.length c e t∧H[b]?=some k∧(k.mode=.rw∨k.mode=.ro)∧∀(i:Nat)(r:List CV),rs[i]?=some r→(k.cells.drop (o+i*e)).take e=r∧r.length=e
def KP(l:List Int):List (List CV):=l.map fun x=>[.i x]
abbrev Ur(H:Gb)(v:CV)(l:List Int):Prop:=Sl H v 1 (KP l)
section
variable {H : Gb} {v : CV} {e : Nat} {rs : List (List CV)}
theorem Sl.len(h:Sl H v e rs)(H':Gb):UK v H'=some (.i rs.length,H'):=by
 rcases h with⟨rfl,rfl|⟨b,o,c,t,rfl⟩⟩|⟨b,o,c,t,k,rfl,-⟩<;>rfl
theorem Ur.len{l:List Int}(h:Ur H v l)(H':Gb):UK v H'=some (.i l.length,H'):=by
 have:=Sl.len h H'
 simpa[KP]using this
theorem FT{α:Type}{l:List α}{i:Nat}{x:α}(h:(l.drop i).take 1=[x]):l[i]?=some x:=by
 have:=congrArg (fun r=>r[0]?) h
 grind
theorem Sl.at(h:Sl H v e rs){i:Nat}{r:List CV}(hi:rs[i]?=some r):
  ∃b o k,(∀H',JM e v (.i i) H'=some (.ptr b o,H'))∧H[b]?=some k∧(k.mode=.rw∨k.mode=.ro)∧(k.cells.drop o).take e=r∧r.length=e:=by
 rcases h with⟨rfl,-⟩|⟨b,o,c,t,k,rfl,h1,h2,h3⟩
 ·simp at hi
 ·have hl:=Gf hi
  obtain⟨q1,q2⟩:=h3 i r hi
  refine⟨b,o+i*e,k,fun H'=>?_,h1,h2,q1,q2⟩
  rw[Qd oM]
  simp
theorem Ur.at{l:List Int}(h:Ur H v l){i:Nat}{x:Int}(hi:l[i]?=some x):
  ∃b o,(∀H',JM 1 v (.i i) H'=some (.ptr b o,H'))∧ld H[b]? o=some (.i x):=by
 obtain⟨b,o,k,h1,h2,h3,h4,h5⟩:=Sl.at h (i:=i) (r:=[.i x]) (by simp[KP,hi])
 refine⟨b,o,h1,?_⟩
 have:=FT h4
 rw[h2]
 obtain⟨cs,m,z⟩:=k
 rcases h3 with rfl|rfl
 ·exact this
 ·exact this
theorem Sl.atN(h:Sl H v e rs){i:Nat}{r:List CV}(he:0<e)(hi:rs[i]?=some r):
  ∃b o,(∀H',JM e v (.i i) H'=some (.ptr b o,H'))∧Ba H[b]? o e=some r:=by
 obtain⟨b,o,k,h1,h2,h3,h4,h5⟩:=Sl.at h hi
 refine⟨b,o,h1,?_⟩
 have hlen:o+e≤k.cells.length:=by
  grind
 rw[h2]
 obtain⟨cs,m,z⟩:=k
 rcases h3 with rfl|rfl
 ·rw[Qg,if_pos hlen,←h4]
 ·rw[GbB,if_pos hlen,←h4]
theorem Sl.mono{H':Gb}(h:Sl H v e rs)(hb:∀b k,H[b]?=some k→k.mode=.rw∨k.mode=.ro→Gp v=b→H'[b]?=some k):Sl H' v e rs:=by
 rcases h with h|⟨b,o,c,t,k,rfl,h1,h2,h3⟩
 ·exact .inl h
 ·exact .inr ⟨b,o,c,t,k,rfl,hb b k h1 h2 rfl,h2,h3⟩
theorem Sl.app(h:Sl H v e rs)(J:Gb):Sl (H++J) v e rs:=
 h.mono fun b k hb _ _=>by grind
end
def KC{α:Type}(p:α→Bool):List α→Int→Int
 |[],_=> -1
 |x::l,j=>if p x=true then j else KC p l (j+1)
theorem Dr{α:Type}(p:α→Bool):∀(l:List α)(j:Int),0≤j→(decide (0≤KC p l j)=l.any p)
 |[],j,h=>by simp[KC]
 |x::l,j,h=>by
  unfold KC
  by_cases hx:p x=true
  ·rw[if_pos hx];simp[hx,h]
  ·rw[if_neg hx,Dr p l (j+1) oM];simp[hx]
end Go.Cs
namespace Go.Cs.Tryz
open Go Go.Cs A
def C54:Gj:=⟨9,0,T [nb 4 false] (Q [m 5 0,m 6 1,q2 7 144 5 6,bk 8 .geq 7 0,m 4 8]),[r 4]⟩
theorem c54:P 54=some C54:=by kernel_rfl
abbrev Lh:Gn:=T [b 9 .lss 8 7] (S (J 9 (X 0)) (S (B 1 (T [m 10 8,m 5 10] (T [m 11 1,m 12 0,m 13 5,x 14 1 12 13,l 15 1 14,b 16 .eql 11 15] (I 16 (Q [m 17 5,m 4 17]))))) (R [bk 18 .add 8 1,m 8 18])))
def Gvx:Gj:=⟨19,0,T [n 4 0] (S (T [m 6 0,le 7 6,n 8 0] (B 0 (W Lh))) (Q [n 4 (-1)])),[r 4]⟩
theorem Gwa:P 144=some Gvx:=by kernel_rfl
def Gwn:Gj:=⟨9,0,T [nb 4 false] (Q [m 5 0,m 6 1,q2 7 249 5 6,bk 8 .geq 7 0,m 4 8]),[r 4]⟩
theorem c201:P 201=some Gwn:=by kernel_rfl
abbrev EY:Gn:=T [b 9 .lss 8 7] (S (J 9 (X 0)) (S (B 1 (T [m 10 8,m 5 10] (T [m 11 1,m 12 0,m 13 5,x 14 1 12 13,l 15 1 14,e 16 (.KH (t 11) [t 15])] (I 16 (Q [m 17 5,m 4 17]))))) (R [bk 18 .add 8 1,m 8 18])))
def Gvq:Gj:=⟨19,0,T [n 4 0] (S (T [m 6 0,le 7 6,n 8 0] (B 0 (W EY))) (Q [n 4 (-1)])),[r 4]⟩
theorem GuH:P 249=some Gvq:=by kernel_rfl
end Go.Cs.Tryz
namespace Go.Cs
open Go
theorem drop_cons{α:Type}{l:List α}{j:Nat}{x:α}(h:l[j]?=some x):l.drop j=x::l.drop (j+1):=by
 have hl:=Gf h
 rw[List.drop_eq_getElem_cons hl]
 grind
end Go.Cs
namespace Go.Cs.Tryz
open Go Go.Cs
section
variable {H : Gb} {v : CV}
theorem Gl8{l:List Int}(hs:Ur H v l){fn:Nat}(hfn:fn<1000000){caps:List CV}{p:Int→Bool}(hp:∀x∈l,run P fn (.i x::caps) H=some (.bool (p x),H))(hl:l.length≤1000000)
  {E0:Env}(h0:E0 0=v)(h1:E0 1=.func fn caps)(h7:E0 7=.i l.length)(h8:E0 8=.i 0){r:Option (CX×Env×Gb)}(hr:den P (.loop EY) E0 H=r):
  ∃x E',r=some (x,E',H)∧((x=.ret∧E' 4=.i (KC p l 0))∨(x=.exit 0∧KC p l 0= -1)):=by
 obtain⟨x',E',H',e,-,⟨rfl,h⟩,fr⟩:=Gq (p:=P) (c:=EY) (E0:=E0) (H0:=H) (fun k E H'=>H'=H∧∃j:Nat,E 8=.i j∧j≤l.length∧k=l.length-j∧KC p (l.drop j) j=KC p l 0)
  (fun x E' H'=>H'=H∧((x=.ret∧E' 4=.i (KC p l 0))∨(x=.exit 0∧KC p l 0= -1))) (by
   rintro k E H' hE ⟨rfl,j,e8,hj,rfl,hd⟩
   have e0:=(hE 0 dK).trans h0
   have e1:=(hE 1 dK).trans h1
   have e7:=(hE 7 dK).trans h7
   by_cases c:j<l.length
   ·have hx:l[j]?=some l[j]:=Jr c
    obtain⟨b,o,q1,q2⟩:=Ur.at hs hx
    have hq:=hp l[j] (List.getElem_mem c)
    rw[drop_cons hx]at hd
    simp only[KC]at hd
    by_cases hf:p l[j]=true
    ·rw[if_pos hf]at hd
     rw[hf]at hq
     apply Gi (x:=.ret)
     ·simp(disch:=first|exact dz|fail) only[simprocAttr,Gs,↓reduceIte,EY,e0,e1,e7,e8,q1,Yr q2,Jo,JA hfn,hq]
      rfl
     ·simp
     ·exact⟨rfl,.inl ⟨rfl,by rw[←hd];simp[Gc]⟩⟩
    ·rw[if_neg hf]at hd
     have hf':p l[j]=false:=by simpa using hf
     rw[hf']at hq
     have hw:IntKind.i64.wrap ((j:Int)+1)=((j+1:Nat):Int):=Gg oM
     apply Gm (k':=l.length-(j+1))
     ·simp(disch:=first|exact dz|fail) only[simprocAttr,Gs,↓reduceIte,EY,e0,e1,e7,e8,q1,Yr q2,Jo,JA hfn,hq,hw]
      rfl
     ·omega
     ·exact⟨rfl,j+1,uA,oM,rfl,by rw[←hd];push_cast;rfl⟩
   ·have hk:l.drop j=[]:=List.drop_eq_nil_of_le oM
    rw[hk]at hd
    simp only[KC]at hd
    apply Gi (x:=.exit 0)
    ·refine Jb ?_
     rfl
    ·simp
    grind) l.length ⟨rfl,0,h8,oM,rfl,rfl⟩
 exact⟨x',E',hr.symm.trans e,h⟩
theorem Ga_{l:List Int}(hs:Ur H v l){fn:Nat}(hfn:fn<1000000){caps:List CV}{p:Int→Bool}(hp:∀x∈l,run P fn (.i x::caps) H=some (.bool (p x),H))(hl:l.length≤1000000):
  run P 249 [v,.func fn caps] H=some (.i (KC p l 0),H):=by
 have hlen:=Ur.len hs H
 rw[Gh GuH _ _ sM]
 refine Jb ?_
 generalize hr:den P (.loop EY) _ _=r
 obtain⟨x,E',rfl,hq⟩:=Gl8 hs hfn hp hl uA uA uA uA hr
 rcases hq with⟨rfl,h1⟩|⟨rfl,h1⟩
 ·exact W0
 ·exact W0
theorem Bf{l:List Int}(hs:Ur H v l){fn:Nat}(hfn:fn<1000000){caps:List CV}{p:Int→Bool}(hp:∀x∈l,run P fn (.i x::caps) H=some (.bool (p x),H))(hl:l.length≤1000000):
  run P 201 [v,.func fn caps] H=some (.bool (l.any p),H):=by
 have h:=Ga_ hs hfn hp hl
 have hd:=Dr p l 0 oM
 rw[Gh c201 _ _ sM]
 exact W0
theorem GnB{l:List Int}(hs:Ur H v l){y:Int}(hl:l.length≤1000000)
  {E0:Env}(h0:E0 0=v)(h1:E0 1=.i y)(h7:E0 7=.i l.length)(h8:E0 8=.i 0){r:Option (CX×Env×Gb)}(hr:den P (.loop Lh) E0 H=r):
  ∃x E',r=some (x,E',H)∧((x=.ret∧E' 4=.i (KC (fun x=>y==x) l 0))∨(x=.exit 0∧KC (fun x=>y==x) l 0= -1)):=by
 obtain⟨x',E',H',e,-,⟨rfl,h⟩,fr⟩:=Gq (p:=P) (c:=Lh) (E0:=E0) (H0:=H) (fun k E H'=>H'=H∧∃j:Nat,E 8=.i j∧j≤l.length∧k=l.length-j∧KC (fun x=>y==x) (l.drop j) j=KC (fun x=>y==x) l 0)
  (fun x E' H'=>H'=H∧((x=.ret∧E' 4=.i (KC (fun x=>y==x) l 0))∨(x=.exit 0∧KC (fun x=>y==x) l 0= -1))) (by
   rintro k E H' hE ⟨rfl,j,e8,hj,rfl,hd⟩
   have e0:=(hE 0 dK).trans h0
   have e1:=(hE 1 dK).trans h1
   have e7:=(hE 7 dK).trans h7
   by_cases c:j<l.length
   ·have hx:l[j]?=some l[j]:=Jr c
    obtain⟨b,o,q1,q2⟩:=Ur.at hs hx
    rw[drop_cons hx]at hd
    simp only[KC]at hd
    by_cases hf:(y==l[j])=true
    ·rw[if_pos hf]at hd
     apply Gi (x:=.ret)
     ·simp(disch:=first|exact dz|fail) only[simprocAttr,Gs,↓reduceIte,Lh,e0,e1,e7,e8,q1,Yr q2,hf]
      rfl
     ·simp
     ·exact⟨rfl,.inl ⟨rfl,by rw[←hd];simp[Gc]⟩⟩
    ·rw[if_neg hf]at hd
     have hf':(y==l[j])=false:=by simpa using hf
     have hw:IntKind.i64.wrap ((j:Int)+1)=((j+1:Nat):Int):=Gg oM
     apply Gm (k':=l.length-(j+1))
     ·refine Jb ?_
      rfl
     ·omega
     ·exact⟨rfl,j+1,uA,oM,rfl,by rw[←hd];push_cast;rfl⟩
   ·have hk:l.drop j=[]:=List.drop_eq_nil_of_le oM
    rw[hk]at hd
    simp only[KC]at hd
    apply Gi (x:=.exit 0)
    ·refine Jb ?_
     rfl
    ·simp
    grind) l.length ⟨rfl,0,h8,oM,rfl,rfl⟩
 exact⟨x',E',hr.symm.trans e,h⟩
theorem contains{l:List Int}(hs:Ur H v l)(y:Int)(hl:l.length≤1000000):run P 54 [v,.i y] H=some (.bool (l.any fun x=>y==x),H):=by
 have h:run P 144 [v,.i y] H=some (.i (KC (fun x=>y==x) l 0),H):=by
  have hlen:=Ur.len hs H
  rw[Gh Gwa _ _ sM]
  refine Jb ?_
  generalize hr:den P (.loop Lh) _ _=r
  obtain⟨x,E',rfl,hq⟩:=GnB hs (y:=y) hl uA uA uA uA hr
  rcases hq with⟨rfl,h1⟩|⟨rfl,h1⟩
  ·exact W0
  ·exact W0
 have hd:=Dr (fun x=>y==x) l 0 oM
 rw[Gh c54 _ _ sM]
 exact W0
end
end Go.Cs.Tryz
namespace Go.Cs.Tryz
open Go Go.Cs A
def GsR:Gj:=⟨20,0,T [n 6 0] (S (T [m 8 0,m 9 1,m 10 2,e 11 (.buildSlice 1 [i 0] 1 [(0,1,t 10)]),q3 12 218 8 9 11,m 7 12] (T [m 13 7,bk 14 .neq 13 0] (I 14 (Q [m 15 7,m 6 15])))) (T [m 16 0,m 17 1,m 18 2,q3 19 219 16 17 18] (Q [n 6 0]))),[r 6]⟩
theorem Gtf:P 125=some GsR:=by kernel_rfl
def GvK:Gj:=⟨21,0,T [bo 3 0,n 6 0] (S (B 0 (T [l 8 1 3,q1 9 209 8,no 10 9,m 7 10] (C 7 (Q [n 6 5]) (T [l 12 1 3,m 13 1,q2 14 232 12 13,no 15 14,m 16 15,gf 16 (m 17 2),gf 16 (e 18 (.Ug 263 [t 3])),gf 16 (q2 19 201 17 18),or 20 16 19,m 11 20] (I 11 (Q [n 6 1])))))) (Q [n 6 0])),[r 6]⟩
theorem c218:P 218=some GvK:=by kernel_rfl
def GvQ:Gj:=⟨39,0,T [m 8 1,m 9 0,z 10 9,f 11 1 10,l 12 1 11,b 13 .mul 8 12,m 6 13] (T [m 14 0,z 15 14,f 16 2 15,l 17 1 16,m 18 6,bk 19 .quo 18 64,x 20 1 17 19,m 7 20] (D [⟨m 25 0,4,0,0⟩,⟨q1 26 258 25,5,3,0⟩,⟨m 21 7,0,0,0⟩,⟨m 22 7,1,0,0⟩,⟨z 23 22,2,0,0⟩,⟨l 24 1 23,3,1,0⟩,⟨e 27 (.conv .u64 (t 26)),6,0,1⟩,⟨m 28 6,7,0,0⟩,⟨bk 29 .rem 28 64,8,0,0⟩,⟨e 30 (.shift .shl (t 27) (t 29)),9,0,1⟩,⟨b 31 .andNot 24 30,10,0,1⟩,⟨m 32 2,11,0,0⟩,⟨e 33 (.conv .u64 (t 32)),12,0,0⟩,⟨m 34 6,13,0,0⟩,⟨bk 35 .rem 34 64,14,0,0⟩,⟨e 36 (.shift .shl (t 33) (t 35)),15,0,0⟩,⟨b 37 .or 31 36,16,0,1⟩,⟨z 38 21,17,0,1⟩,⟨st 1 38 37,18,3,1⟩])),[]⟩
theorem Gtx:P 219=some GvQ:=by kernel_rfl
def GqF:Gj:=⟨8,0,T [nb 3 false] (Q [l 4 1 1,m 5 0,q2 6 264 4 5,no 7 6,m 3 7]),[r 3]⟩
theorem Gwe:P 263=some GqF:=by kernel_rfl
def GtO:Gj:=⟨13,0,T [nb 4 false] (Q [m 5 1,bk 6 .geq 5 0,m 7 6,gt 7 (m 8 1),gt 7 (m 9 0),gt 7 (q1 10 258 9),gt 7 (b 11 .leq 8 10),an 12 7 11,m 4 12]),[r 4]⟩
theorem GtE:P 264=some GtO:=by kernel_rfl
end Go.Cs.Tryz
namespace Go.Cs
open Go
structure Keeps(H H':Gb)(w:Nat→Prop):Prop where
 len:H.length≤H'.length
 keep:∀c,c<H.length→¬w c→H'[c]?=H[c]?
theorem Keeps.refl(H:Gb)(w:Nat→Prop):Keeps H H w:=⟨Nat.le_refl _,fun _ _ _=>rfl⟩
theorem Keeps.trans{H H' Da:Gb}{w:Nat→Prop}(a:Keeps H H' w)(b:Keeps H' Da w):Keeps H Da w:=
 ⟨J2 a.len b.len,fun c h hw=>by rw[b.keep c (J6 h a.len) hw,a.keep c h hw]⟩
theorem Keeps.weaken{H H':Gb}{w w':Nat→Prop}(a:Keeps H H' w)(h:∀c,w c→w' c):Keeps H H' w':=
 ⟨a.len,fun c hc hw=>a.keep c hc fun hh=>hw (h c hh)⟩
theorem Keeps.app(H J:Gb)(w:Nat→Prop):Keeps H (H++J) w:=⟨sM,fun c h _=>IJ h⟩
theorem Keeps.app'{H H':Gb}{w:Nat→Prop}(a:Keeps H H' w)(J:Gb):Keeps H (H'++J) w:=a.trans (.app _ _ _)
theorem Keeps.set{H H':Gb}{w:Nat→Prop}(a:Keeps H H' w){c:Nat}(hc:w c∨H.length≤c)(k:JE):Keeps H (H'.set c k) w:=
 ⟨by simpa using a.len,fun d hd hw=>by rw[KV,a.keep d hd hw];grind⟩
def Ao(w k:Nat)(x:Bool):Nat:=((BitVec.ofNat 64 w &&& ~~~BitVec.ofNat 64 (2 ^ k)) ||| BitVec.ofNat 64 ((if x then 1 else 0)*2 ^ k)).toNat
theorem GeN(w k:Nat)(x:Bool):Ao w k x<18446744073709551616:=by
 unfold Ao
 exact BitVec.isLt _
theorem GaS{w k j:Nat}(x:Bool)(hj:j<64)(hk:k<64):(Ao w k x).testBit j=if j=k then x else w.testBit j:=by
 unfold Ao
 rw[BitVec.testBit_toNat,BitVec.getLsbD_or,BitVec.getLsbD_and,BitVec.getLsbD_not,BitVec.getLsbD_ofNat,BitVec.getLsbD_ofNat,BitVec.getLsbD_ofNat]
 grind
theorem EZ{n:Nat}(h:n<18446744073709551616):IntKind.u64.wrap (n:Int)=n:=by
 have e:((2:Int) ^ (64:Nat))=18446744073709551616:=by decide
 simp only[IntKind.wrap,IntKind.bits,IntKind.signed,e,Bool.false_and,Bool.false_eq_true,if_false]
 omega
theorem GhS{w k:Nat}(x:Bool)(hk:k<64):
  IntKind.u64.wrap ((BitVec.ofInt 64 (IntKind.u64.wrap ((BitVec.ofInt 64 (w:Int) &&& ~~~BitVec.ofInt 64 (IntKind.u64.wrap (1*2 ^ min k 64))).toNat:Int)) ||| BitVec.ofInt 64 (IntKind.u64.wrap (Ei x*2 ^ min k 64))).toNat:Int)=((Ao w k x:Nat):Int):=by
 have hm:min k 64=k:=by omega
 have hp:2 ^ k<18446744073709551616:=by
  have:2 ^ k≤2 ^ 63:=Nat.pow_le_pow_right dE oM
  omega
 have e1:((1:Int)*2 ^ k)=((2 ^ k:Nat):Int):=by simp
 have e2:(Ei x*2 ^ k)=(((if x then 1 else 0)*2 ^ k:Nat):Int):=by cases x<;>simp[Ei]
 have e3:(if x then 1 else 0)*2 ^ k<18446744073709551616:=by cases x<;>simp<;>omega
 rw[hm,e1,e2,EZ hp,EZ e3]
 simp only[BitVec.ofInt_natCast]
 rw[EZ (BitVec.isLt _),EZ (BitVec.isLt _)]
 simp only[BitVec.ofInt_natCast]
 unfold Ao
 grind
theorem Gkp(x:Bool):IntKind.u64.wrap (Ei x)=Ei x:=by cases x<;>decide
theorem Side.put{H H':Gb}{b wb n:Nat}{f:Nat→Bool}(s:Side H b wb n f){i:Nat}(hi:i<n)(x:Bool){ws:List Nat}(h1:ws.length=Vq n)(h2:∀w∈ws,w<18446744073709551616)
  (h5:∀i,i<n→(ws.getD (i/64) 0).testBit (i % 64)=f i)(hb:H'[b]?=H[b]?)
  (hw:H'[wb]?=some ⟨(ws.set (i/64) (Ao (ws.getD (i/64) 0) (i % 64) x)).map (fun(m:Nat)=>CV.int .u64 m),.rw,1⟩):Side H' b wb n (fun k=>if k=i then x else f k):=by
 refine⟨by rw[hb,s.st],⟨_,by simpa using h1,fun w hw=>?_,hw,fun k hk=>?_⟩,s.pos⟩
 ·rcases List.mem_or_eq_of_mem_set hw with h|rfl
  ·exact h2 w h
  ·exact GeN _ _ _
 ·have hlt:i/64<ws.length:=by rw[h1];unfold Vq;omega
  rw[Bo,Ig]
  by_cases e:i/64=k/64
  ·rw[if_pos e,if_pos hlt,Option.getD_some,GaS x oM oM]
   grind
  grind
end Go.Cs
namespace Go.Cs.Tryz
open Go Go.Cs
section
variable {H : Gb} {b wb n : Nat} {f : Nat → Bool}
theorem GbK(s:Side H b wb n f)(x:Bool):run P 264 [.ptr b 0,.i (Ei x)] H=some (.bool true,H):=by
 have h4:=Ep s
 have h1:0≤Ei x:=by cases x<;>decide
 have h2:Ei x≤1:=by cases x<;>decide
 rw[Gh GtE _ _ sM]
 exact W0
theorem Gi1(s:Side H b wb n f){i:Nat}(hi:i<n)(x:Bool):
  ∃H',run P 219 [.ptr b 0,.i i,.i (Ei x)] H=some (.Jj [],H')∧Keeps H H' (·=wb)∧Side H' b wb n (fun k=>if k=i then x else f k):=by
 have h4:=Ep s
 have h:=s.st
 have hp:=s.pos
 obtain⟨ws,h1,h2,h3,h5⟩:=s.ws
 have hne:wb≠b:=by rintro rfl;rw[h]at h3;simp at h3
 have hd:(i:Int).tdiv 64=((i/64:Nat):Int):=KN i 64
 have hm:(i:Int).tmod 64=((i % 64:Nat):Int):=VY i 64
 have hi0:IntKind.i64.wrap (i:Int)=i:=wrapN oM
 have hq:IntKind.i64.wrap ((i/64:Nat):Int)=((i/64:Nat):Int):=wrapN oM
 have hlt:i/64<Vq n:=by unfold Vq;omega
 have hx:(ws.map (fun(m:Nat)=>CV.int .u64 m))[i/64]?=some (.int .u64 ((ws.getD (i/64) 0:Nat):Int)):=by
  grind
 have hb1:(0:Int)≤((i/64:Nat):Int)∧((i/64:Nat):Int)<((Vq n:Nat):Int):=by omega
 have hb2:(0:Int)≤((i % 64:Nat):Int):=by omega
 have hres:=GhS (w:=ws.getD (i/64) 0) (k:=i % 64) x oM
 have hlen:i/64<(ws.map (fun(m:Nat)=>CV.int .u64 m)).length:=by simp;omega
 have hc1:IntKind.u64.wrap 1=1:=by decide
 have hcx:=Gkp x
 refine⟨H.set wb ⟨(ws.set (i/64) (Ao (ws.getD (i/64) 0) (i % 64) x)).map (fun(m:Nat)=>CV.int .u64 m),.rw,1⟩,?_,Keeps.set (w:=fun c=>c=wb) (Keeps.refl H _) (.inl rfl) _,?_⟩
 ·rw[Gh Gtx _ _ sM]
  rw[List.map_set]
  simp(disch:=first|exact dz|fail) only[simprocAttr,Gs,↓reduceIte,A9,h,h4,h3,XT,Gu5,VK,VU,Ns,hi0,hd,hm,hq,hx,Int.mul_one,IntKind.bits,hc1,hcx,Ji,GiV,WW]
  exact congrArg (fun z=>some (CV.Jj [],H.set wb ⟨(ws.map (fun(m:Nat)=>CV.int .u64 m)).set (i/64) (.int .u64 z),.rw,1⟩)) hres
 ·exact s.put hi x h1 h2 h5 (by rw[KV hne]) (by grind)
theorem GbS(s:Side H b wb n f){i:Nat}(hi:i<n)(x:Bool){v:CV}(hv:Ur H v [Ei x]):run P 218 [.ptr b 0,.i i,v] H=some (.i 0,H++[⟨[.ptr b 0],.rw,0⟩]):=by
 have s':=s.app [⟨[.ptr b 0],.rw,0⟩]
 have h1:=AJ s'
 have h2:=MF s' i
 have e:decide ((0:Int)≤(i:Int)∧(i:Int)<(n:Int))=true:=Gz oM
 rw[e]at h2
 have h3:=GbK s' x
 have h4:run P 263 [.i (Ei x),.ptr H.length 0] (H++[⟨[.ptr b 0],.rw,0⟩])=some (.bool false,H++[⟨[.ptr b 0],.rw,0⟩]):=by
  rw[Gh Gwe _ _ sM]
  exact W0
 have h5:=Bf (Sl.app hv [⟨[.ptr b 0],.rw,0⟩]) (fn:=263) oM (caps:=[.ptr H.length 0]) (p:=fun _=>false) (by simpa using h4) sM
 have e2:([Ei x].any fun _=>false)=false:=rfl
 rw[e2]at h5
 rw[Gh c218 _ _ sM]
 have:=@Lf;exact W0
theorem Uz(s:Side H b wb n f){i:Nat}(hi:i<n)(x:Bool):
  ∃H',run P 125 [.ptr b 0,.i i,.i (Ei x)] H=some (.i 0,H')∧Keeps H H' (·=wb)∧Side H' b wb n (fun k=>if k=i then x else f k):=by
 have s1:=s.app [⟨[.i (Ei x)],.rw,1⟩]
 have hv:Ur (H++[⟨[.i (Ei x)],.rw,1⟩]) (.slice H.length 0 1 1 1 false) [Ei x]:=
  .inr ⟨H.length,0,1,false,⟨[.i (Ei x)],.rw,1⟩,rfl,sM,.inl rfl,fun i r h=>by
   match i,h with
   |0,h=>simp[KP]at h;subst h;simp
   |i+1,h=>simp[KP]at h⟩
 have h1:=GbS s1 hi x hv
 have s2:=s1.app [⟨[.ptr b 0],.rw,0⟩]
 obtain⟨H',h2,h3,h4⟩:=Gi1 s2 hi x
 refine⟨H',?_,((Keeps.app H _ _).app' _).trans h3,h4⟩
 rw[Gh Gtf _ _ sM]
 exact W0
end
end Go.Cs.Tryz
namespace Go.Cs.Tryz
open Go Go.Cs A
def C46:Gj:=⟨11,0,T [n 2 0] (S (T [m 3 0,q1 4 106 3,no 5 4] (I 5 (Q [n 2 0]))) (Q [m 6 0,z 7 6,f 8 0 7,l 9 1 8,le 10 9,m 2 10])),[r 2]⟩
theorem c46:P 46=some C46:=by kernel_rfl
def C56:Gj:=⟨21,0,T [n 4 0] (S (T [m 5 1,bk 6 .lss 5 0,m 7 6,gf 7 (m 8 1),gf 7 (m 9 0),gf 7 (q1 10 46 9),gf 7 (b 11 .geq 8 10),or 12 7 11] (I 12 (Q [n 4 (-1)]))) (Q [m 13 0,z 14 13,f 15 0 14,l 16 1 15,m 17 1,x 18 2 16 17,f 19 1 18,l 20 1 19,m 4 20])),[r 4]⟩
theorem c56:P 56=some C56:=by kernel_rfl
def C61:Gj:=⟨10,0,T [n 2 0] (S (T [m 3 0,q1 4 106 3,no 5 4] (I 5 (Q [n 2 0]))) (Q [m 6 0,z 7 6,f 8 6 7,l 9 1 8,m 2 9])),[r 2]⟩
theorem c61:P 61=some C61:=by kernel_rfl
def C62:Gj:=⟨21,0,T [n 4 0] (S (T [m 5 1,bk 6 .lss 5 0,m 7 6,gf 7 (m 8 1),gf 7 (m 9 0),gf 7 (q1 10 46 9),gf 7 (b 11 .geq 8 10),or 12 7 11] (I 12 (Q [n 4 (-1)]))) (Q [m 13 0,z 14 13,f 15 0 14,l 16 1 15,m 17 1,x 18 2 16 17,f 19 0 18,l 20 1 19,m 4 20])),[r 4]⟩
theorem c62:P 62=some C62:=by kernel_rfl
def GqW:Gj:=⟨13,0,T [nb 2 false] (Q [m 3 0,e 4 (.eqv true 1 (t 3) (c .nilPtr)),m 5 4,gt 5 (m 6 0),gt 5 (z 7 6),gt 5 (f 8 0 7),gt 5 (l 9 1 8),gt 5 (le 10 9),gt 5 (bk 11 .gtr 10 0),an 12 5 11,m 2 12]),[r 2]⟩
theorem GsM:P 106=some GqW:=by kernel_rfl
def Gwj:Gj:=⟨14,0,T [n 4 0] (S (B 0 (T [m 6 0,q1 7 106 6,no 8 7,m 5 8] (C 5 (Q [n 4 5]) (T [m 10 0,m 11 1,q2 12 153 10 11,no 13 12,m 9 13] (I 9 (Q [n 4 4])))))) (Q [n 4 0])),[r 4]⟩
theorem c124:P 124=some Gwj:=by kernel_rfl
def GtQ:Gj:=⟨26,0,T [nb 4 false] (Q [m 5 0,q1 6 106 5,m 7 6,gt 7 (m 8 1),gt 7 (bk 9 .geq 8 0),an 10 7 9,m 11 10,gt 11 (m 12 1),gt 11 (bk 13 .rem 12 2),gt 11 (bk 14 .eql 13 0),an 15 11 14,m 16 15,gt 16 (m 17 0),gt 16 (z 18 17),gt 16 (f 19 2 18),gt 16 (l 20 1 19),gt 16 (m 21 1),gt 16 (bk 22 .quo 21 2),gt 16 (q2 23 154 20 22),gt 16 (bk 24 .eql 23 1),an 25 16 24,m 4 25]),[r 4]⟩
theorem Grw:P 153=some GtQ:=by kernel_rfl
end Go.Cs.Tryz
namespace Go.Cs
open Go
structure Ob where
 addr:Nat
 id:Nat
 refs:List Int
 data:List Int
 kd:Nat
 pin:Bool
 deriving Inhabited
def G6(r d:Nat):Nat:=(2+r+d+1)/2*2
def Ob.size(o:Ob):Nat:=G6 o.refs.length o.data.length
def Ob.num(o:Ob):Nat:=o.refs.length+16*o.data.length+4096*o.kd
def Ob.cells(o:Ob):List Int:=(o.id:Int)::(o.num:Int)::(o.refs++o.data)
def Ob.cell(o:Ob)(k:Nat):Int:=o.cells.getD k 0
structure Hp where
 blk:List (Nat×Nat)
 objs:List Ob
 born:Nat
 fwd:List (Int×Int)
def Hp.nw(s:Hp):Nat:=64*s.blk.length
def Hp.obj(s:Hp)(a:Int):Option Ob:=s.objs.find? fun o=>(o.addr:Int)==a
def Hp.has(s:Hp)(a:Int):Bool:=s.objs.any fun o=>(o.addr:Int)==a
def Hp.owner(s:Hp)(w:Nat):Option Ob:=s.objs.find? fun o=>decide (o.addr≤w∧w<o.addr+o.size)
def Hp.word(s:Hp)(w:Nat):Int:=match s.owner w with
 |some o=>o.cell (w-o.addr)
 |none=>0
def Hp.starts(s:Hp)(i:Nat):Bool:=s.objs.any fun o=>o.addr==2*i
def Hp.pins(s:Hp)(i:Nat):Bool:=s.objs.any fun o=>o.addr==2*i&&o.pin
structure Ob.Ok(n born:Nat)(o:Ob):Prop where
 even:o.addr % 2=0
 nr:o.refs.length≤15
 nd:o.data.length≤200
 kd:o.kd≤3∧(o.kd=1→1≤o.refs.length)∧(o.kd=2→2≤o.refs.length)
 id:1≤o.id∧o.id≤born
 fits:o.addr+o.size≤n
structure Hp.Ok(s:Hp):Prop where
 nb:2≤s.blk.length∧s.blk.length≤64
 st:∀x∈s.blk,x.1≤3∧x.2<8
 ob:∀o∈s.objs,o.Ok s.nw s.born
 apart:s.objs.Pairwise fun a b=>a.addr+a.size≤b.addr
 ids:s.objs.Pairwise fun a b=>a.id≠b.id
 born:s.born≤1000000000000
theorem Ob.size_pos(o:Ob):2≤o.size:=by unfold Ob.size G6;omega
theorem Ob.size_le{o:Ob}{n b:Nat}(h:o.Ok n b):o.size≤218:=by have:=h.nr;have:=h.nd;unfold Ob.size G6;omega
theorem Ob.R8(o:Ob):o.size % 2=0:=by unfold Ob.size G6;omega
theorem Ki{α:Type}{r:α→α→Prop}:∀{l:List α}{a b:α},l.Pairwise r→a∈l→b∈l→a=b∨r a b∨r b a
 |[],_,_,_,h,_=>by cases h
 |x::l,a,b,hp,ha,hb=>by
  rw[List.pairwise_cons]at hp
  rw[List.mem_cons]at ha hb
  rcases ha with rfl|ha<;>rcases hb with rfl|hb
  ·exact .inl rfl
  ·exact .inr (.inl (hp.1 b hb))
  ·exact .inr (.inr (hp.1 a ha))
  ·exact Ki hp.2 ha hb
section
variable {s : Hp}
theorem Hp.Ok.same(h:s.Ok){a b:Ob}(ha:a∈s.objs)(hb:b∈s.objs){w:Nat}(h1:a.addr≤w∧w<a.addr+a.size)(h2:b.addr≤w∧w<b.addr+b.size):a=b:=by
 rcases Ki h.apart ha hb with e|e|e
 ·exact e
 ·omega
 ·omega
theorem YI{α:Type}{p:α→Bool}{l:List α}{a:α}(ha:a∈l)(hp:p a=true)(hu:∀b∈l,p b=true→b=a):l.find? p=some a:=by
 cases h:l.find? p with
 |none=>grind
 |some b=>grind
theorem Hp.Ok.obj(h:s.Ok){o:Ob}(ho:o∈s.objs):s.obj o.addr=some o:=by
 refine YI ho sM fun b hb e=>?_
 have e0:(b.addr:Int)=o.addr:=by simpa using e
 have e':b.addr=o.addr:=by omega
 have:=b.size_pos
 have:=o.size_pos
 exact h.same hb ho (w:=o.addr) oM oM
theorem Hp.Jf{a:Int}{o:Ob}(h:s.obj a=some o):o∈s.objs∧(o.addr:Int)=a:=
 ⟨List.mem_of_find?_eq_some h,by have:=Lp h;simpa using this⟩
theorem Hp.J4{a:Int}:s.has a=true↔∃o,s.obj a=some o:=by
 constructor
 ·intro h
  cases e:s.obj a with
  |some o=>exact⟨o,rfl⟩
  |none=>
   unfold Hp.obj at e
   rw[List.find?_eq_none]at e
   unfold Hp.has at h
   grind
 ·rintro ⟨o,h⟩
  obtain⟨h1,h2⟩:=Hp.Jf h
  unfold Hp.has
  grind
theorem Hp.J_{a:Int}:s.has a=false↔s.obj a=none:=by
 rw[←Bool.not_eq_true,Hp.J4]
 cases s.obj a<;>simp
theorem Hp.Ok.word(h:s.Ok){o:Ob}(ho:o∈s.objs){k:Nat}(hk:k<o.size):s.word (o.addr+k)=o.cell k:=by
 have:s.owner (o.addr+k)=some o:=YI ho (by simp;omega) fun b hb e=>h.same hb ho (w:=o.addr+k) (by simpa using e) oM
 unfold Hp.word
 rw[this]
 simp
theorem Hp.Gb4(h:s.Ok)(a:Int):s.has a=(decide (0≤a)&&(a.tmod 2==0&&s.starts (a.tdiv 2).toNat)):=by
 rw[Bool.eq_iff_iff,Hp.J4]
 simp only[NH,decide_eq_true_eq,beq_iff_eq,Hp.starts,List.any_eq_true]
 constructor
 ·rintro ⟨o,ho⟩
  obtain⟨h1,rfl⟩:=Hp.Jf ho
  have he:=(h.ob o h1).even
  grind
 ·rintro ⟨h0,h1,o,ho,h2⟩
  obtain⟨n,rfl⟩:∃n:Nat,a=n:=⟨a.toNat,oM⟩
  have hm:(n:Int).tmod 2=((n % 2:Nat):Int):=VY n 2
  have hd:(n:Int).tdiv 2=((n/2:Nat):Int):=KN n 2
  rw[hm]at h1
  rw[hd]at h2
  have e:o.addr=n:=by simp at h2;omega
  exact⟨o,by rw[←e];exact h.obj ho⟩
end
structure G5 where
 bb:Nat
 wb:Nat
 sb:Nat
 sw:Nat
 pb:Nat
 pw:Nat
 mb:Nat
 fb:Nat
def Gy(l:List (Nat×Nat)):List CV:=l.flatMap fun x=>[.i x.1,.i x.2]
def JB(l:List (Int×Int)):List CV:=l.map fun x=>.Jj [.i x.1,.i x.2]
def G5.all(L:G5)(hb:Nat):List Nat:=[hb,L.bb,L.wb,L.sb,L.sw,L.pb,L.pw,L.mb,L.fb]
def Q8(H:Gb)(b:Nat)(r:Int→Int→Prop):Prop:=∃l:List (Int×Int),H[b]?=some ⟨JB l,.map,0⟩∧(l.map (·.1)).Nodup∧∀k v,(k,v)∈l↔r k v
structure PH(H:Gb)(hb:Nat)(s:Hp)(L:G5):Prop where
 top:H[hb]?=some ⟨[.slice L.bb 0 s.blk.length s.blk.length 2 false,.slice L.wb 0 s.nw s.nw 1 false,.ptr L.sb 0,.ptr L.pb 0,.GJ L.mb,.GJ L.fb,.i s.born],.rw,0⟩
 blk:H[L.bb]?=some ⟨Gy s.blk,.rw,2⟩
 wrd:H[L.wb]?=some ⟨(List.range s.nw).map (fun w=>CV.i (s.word w)),.rw,1⟩
 Xk:Side H L.sb L.sw (32*s.blk.length) s.starts
 pin:Side H L.pb L.pw (32*s.blk.length) s.pins
 N7:Q8 H L.mb fun k v=>∃o∈s.objs,k=o.id∧v=o.addr
 fwd:Q8 H L.fb fun k v=>(k,v)∈s.fwd
 nod:(L.all hb).Nodup
abbrev Gr(H H':Gb):Prop:=Keeps H H' fun _=>False
theorem Gr.app(H J:Gb):Gr H (H++J):=Keeps.app H J _
theorem Gr.get{H H':Gb}(g:Gr H H'){c:Nat}{k:JE}(h:H[c]?=some k):H'[c]?=some k:=by rw[g.keep c (Gf h) (fun h=>h),h]
theorem Side.gr{H H':Gb}{b wb n:Nat}{f:Nat→Bool}(s:Side H b wb n f)(g:∀c,c=b∨c=wb→H'[c]?=H[c]?):Side H' b wb n f:=s.frame (g b (.inl rfl)) (g wb (.inr rfl))
section
variable {H H' : Gb} {hb : Nat} {s : Hp} {L : G5}
theorem PH.lt(p:PH H hb s L):∀c∈L.all hb,c<H.length:=by
 obtain⟨l1,h1,-⟩:=p.N7
 obtain⟨l2,h2,-⟩:=p.fwd
 obtain⟨w1,-,-,e1,-⟩:=p.Xk.ws
 obtain⟨w2,-,-,e2,-⟩:=p.pin.ws
 intro c hc
 simp only[G5.all,List.mem_cons,List.not_mem_nil,or_false]at hc
 rcases hc with rfl|rfl|rfl|rfl|rfl|rfl|rfl|rfl|rfl
 ·exact Gf p.top
 ·exact Gf p.blk
 ·exact Gf p.wrd
 ·exact Gf p.Xk.st
 ·exact Gf e1
 ·exact Gf p.pin.st
 ·exact Gf e2
 ·exact Gf h1
 ·exact Gf h2
theorem Q8.frame{b:Nat}{r:Int→Int→Prop}(m:Q8 H b r)(h:H'[b]?=H[b]?):Q8 H' b r:=by
 obtain⟨l,h1,h2⟩:=m
 exact⟨l,by rw[h,h1],h2⟩
theorem PH.frame(p:PH H hb s L)(h:∀c∈L.all hb,H'[c]?=H[c]?):PH H' hb s L where
 top:=by rw[h _ (by simp[G5.all]),p.top]
 blk:=by rw[h _ (by simp[G5.all]),p.blk]
 wrd:=by rw[h _ (by simp[G5.all]),p.wrd]
 Xk:=p.Xk.frame (h _ (by simp[G5.all])) (h _ (by simp[G5.all]))
 pin:=p.pin.frame (h _ (by simp[G5.all])) (h _ (by simp[G5.all]))
 N7:=p.N7.frame (h _ (by simp[G5.all]))
 fwd:=p.fwd.frame (h _ (by simp[G5.all]))
 nod:=p.nod
theorem PH.gr(p:PH H hb s L)(g:Gr H H'):PH H' hb s L:=p.frame fun c hc=>g.keep c (p.lt c hc) fun h=>h
theorem PH.app(p:PH H hb s L)(J:Gb):PH (H++J) hb s L:=p.gr (.app H J)
theorem PH.word(p:PH H hb s L){w:Nat}(hw:w<s.nw):ld H[L.wb]? w=some (.i (s.word w)):=by
 rw[p.wrd,Ym,Kr,IX hw];rfl
theorem Qa(l:List (Nat×Nat)):(Gy l).length=2*l.length:=by
 induction l with
 |nil=>rfl
 |cons x l ih=>simp only[Gy,List.flatMap_cons,Qi,List.length_cons,List.length_nil]at ih⊢;omega
theorem Kj:∀(l:List (Nat×Nat))(b:Nat)(x:Nat×Nat),l[b]?=some x→(Gy l)[b*2]?=some (.i x.1)∧(Gy l)[b*2+1]?=some (.i x.2)
 |[],b,x,h=>by simp at h
 |y::l,0,x,h=>by
  simp only[List.getElem?_cons_zero,GA]at h
  subst h
  exact⟨rfl,rfl⟩
 |y::l,b+1,x,h=>by
  simp only[List.getElem?_cons_succ]at h
  obtain⟨h1,h2⟩:=Kj l b x h
  have e1:(b+1)*2=b*2+1+1:=by omega
  have e2:(b+1)*2+1=b*2+1+1+1:=by omega
  rw[e2,e1]
  exact⟨h1,h2⟩
end
end Go.Cs
namespace Go.Cs.Tryz
open Go Go.Cs
section
variable {H : Gb} {hb : Nat} {s : Hp} {L : G5}
theorem KE(p:PH H hb s L)(k:s.Ok):run P 106 [.ptr hb 0] H=some (.bool true,H):=by
 have h:=p.top
 have hl:(0:Int)<(s.blk.length:Int):=by have:=k.nb;omega
 rw[Gh GsM _ _ sM]
 exact W0
theorem KY(p:PH H hb s L)(k:s.Ok):run P 46 [.ptr hb 0] H=some (.i s.blk.length,H):=by
 have h:=p.top
 have h1:=KE p k
 rw[Gh c46 _ _ sM]
 exact W0
theorem GaA(p:PH H hb s L)(k:s.Ok):run P 61 [.ptr hb 0] H=some (.i s.born,H):=by
 have h:=p.top
 have h1:=KE p k
 rw[Gh c61 _ _ sM]
 exact W0
def Hp.state(s:Hp)(b:Int):Int:=if 0≤b then(match s.blk[b.toNat]? with|some x=>(x.1:Int)|none=> -1)else -1
def Hp.space(s:Hp)(b:Int):Int:=if 0≤b then(match s.blk[b.toNat]? with|some x=>(x.2:Int)|none=> -1)else -1
theorem Gcj(p:PH H hb s L)(k:s.Ok)(b:Int):run P 62 [.ptr hb 0,.i b] H=some (.i (Hp.state s b),H):=by
 have h:=p.top
 have h1:=KY p k
 rw[Gh c62 _ _ sM]
 unfold Hp.state
 by_cases h0:0≤b
 ·rw[if_pos h0]
  obtain⟨n,rfl⟩:∃n:Nat,b=n:=⟨b.toNat,oM⟩
  by_cases hn:n<s.blk.length
  ·have hx:s.blk[n]?=some s.blk[n]:=Jr hn
   obtain⟨q1,q2⟩:=Kj s.blk n _ hx
   have hb2:=p.blk
   have c1:(0:Int)≤(n:Int)∧(n:Int)<(s.blk.length:Int):=by omega
   have c2:¬((n:Int)<0):=by omega
   have c3:¬((s.blk.length:Int)≤(n:Int)):=by omega
   exact W0
  ·have hx:s.blk[n]?=none:=lX9 oM
   have c2:¬((n:Int)<0):=by omega
   have c3:(s.blk.length:Int)≤(n:Int):=by omega
   exact W0
 ·rw[if_neg h0]
  have c2:b<0:=by omega
  exact W0
theorem Og(p:PH H hb s L)(k:s.Ok)(b:Int):run P 56 [.ptr hb 0,.i b] H=some (.i (Hp.space s b),H):=by
 have h:=p.top
 have h1:=KY p k
 rw[Gh c56 _ _ sM]
 unfold Hp.space
 by_cases h0:0≤b
 ·rw[if_pos h0]
  obtain⟨n,rfl⟩:∃n:Nat,b=n:=⟨b.toNat,oM⟩
  by_cases hn:n<s.blk.length
  ·have hx:s.blk[n]?=some s.blk[n]:=Jr hn
   obtain⟨q1,q2⟩:=Kj s.blk n _ hx
   have hb2:=p.blk
   have c1:(0:Int)≤(n:Int)∧(n:Int)<(s.blk.length:Int):=by omega
   have c2:¬((n:Int)<0):=by omega
   have c3:¬((s.blk.length:Int)≤(n:Int)):=by omega
   exact W0
  ·have hx:s.blk[n]?=none:=lX9 oM
   have c2:¬((n:Int)<0):=by omega
   have c3:(s.blk.length:Int)≤(n:Int):=by omega
   exact W0
 ·rw[if_neg h0]
  have c2:b<0:=by omega
  exact W0
theorem ZQ(p:PH H hb s L)(k:s.Ok)(a:Int)(ha:a≤9223372036854775807):run P 153 [.ptr hb 0,.i a] H=some (.bool (s.has a),H):=by
 have h:=p.top
 have h1:=KE p k
 rw[Hp.Gb4 k a,Gh Grw _ _ sM]
 by_cases h0:0≤a
 ·obtain⟨n,rfl⟩:∃n:Nat,a=n:=⟨a.toNat,oM⟩
  have hm:(n:Int).tmod 2=((n % 2:Nat):Int):=VY n 2
  have hd:(n:Int).tdiv 2=((n/2:Nat):Int):=KN n 2
  have hw:IntKind.i64.wrap ((n/2:Nat):Int)=((n/2:Nat):Int):=Gg oM
  have hg:=OG p.Xk ((n/2:Nat):Int)
  have tn:(((n/2:Nat):Int)).toNat=n/2:=by omega
  by_cases h2:n % 2=0
  ·have h2':(((n % 2:Nat):Int)==0)=true:=by rw[h2];rfl
   by_cases h3:n/2<32*s.blk.length
   ·have c:(0:Int)≤((n/2:Nat):Int)∧((n/2:Nat):Int)<((32*s.blk.length:Nat):Int):=by omega
    rw[if_pos c,tn]at hg
    have e:(Ei (s.starts (n/2))==1)=s.starts (n/2):=by cases s.starts (n/2)<;>rfl
    exact Hz
   ·have c:¬((0:Int)≤((n/2:Nat):Int)∧((n/2:Nat):Int)<((32*s.blk.length:Nat):Int)):=by omega
    rw[if_neg c]at hg
    have e:s.starts (n/2)=false:=by
     rw[←Bool.not_eq_true]
     unfold Hp.starts
     rw[List.any_eq_true]
     rintro ⟨o,ho,h4⟩
     have hf:=(k.ob o ho).fits
     have hp:=o.size_pos
     have h5:o.addr=2*(n/2):=by simpa using h4
     unfold Hp.nw at hf
     omega
    exact Hz
  ·have h2':(((n % 2:Nat):Int)==0)=false:=by simp;omega
   exact Hz
 ·exact W0
theorem Qy(p:PH H hb s L)(k:s.Ok)(a:Int)(ha:a≤9223372036854775807):run P 124 [.ptr hb 0,.i a] H=some (.i (if s.has a then 0 else 4),H):=by
 have h1:=KE p k
 have h2:=ZQ p k a ha
 rw[Gh c124 _ _ sM]
 cases e:s.has a with
 |true=>
  rw[e]at h2
  exact W0
 |false=>
  rw[e]at h2
  exact W0
end
end Go.Cs.Tryz
namespace Go.Cs.Tryz
open Go Go.Cs A
def GrS:Gj:=⟨11,0,T [e 2 (.new [i 0,i 0,i 0])] (Q [m 3 0,bk 4 .rem 3 16,m 5 0,bk 6 .rem 5 4096,bk 7 .quo 6 16,m 8 0,bk 9 .quo 8 4096,e 10 (.build [i 0,i 0,i 0] [(0,1,t 4),(1,1,t 7),(2,1,t 9)]),st 3 2 10]),[.cell 2 true 3]⟩
theorem GvT:P 155=some GrS:=by kernel_rfl
def Gu_:Gj:=⟨51,0,T [bo 1 0,nb 2 false] (Q [f 3 0 1,l 4 1 3,bk 5 .geq 4 0,m 6 5,gt 6 (f 7 0 1),gt 6 (l 8 1 7),gt 6 (bk 9 .leq 8 15),an 10 6 9,m 11 10,gt 11 (f 12 1 1),gt 11 (l 13 1 12),gt 11 (bk 14 .geq 13 0),an 15 11 14,m 16 15,gt 16 (f 17 1 1),gt 16 (l 18 1 17),gt 16 (bk 19 .leq 18 200),an 20 16 19,m 21 20,gt 21 (f 22 2 1),gt 21 (l 23 1 22),gt 21 (bk 24 .geq 23 0),an 25 21 24,m 26 25,gt 26 (f 27 2 1),gt 26 (l 28 1 27),gt 26 (bk 29 .leq 28 3),an 30 26 29,m 31 30,gt 31 (f 32 2 1),gt 31 (l 33 1 32),gt 31 (bk 34 .neq 33 1),gt 31 (m 35 34),gf 35 (f 36 0 1),gf 35 (l 37 1 36),gf 35 (bk 38 .geq 37 1),gt 31 (or 39 35 38),an 40 31 39,m 41 40,gt 41 (f 42 2 1),gt 41 (l 43 1 42),gt 41 (bk 44 .neq 43 2),gt 41 (m 45 44),gf 45 (f 46 0 1),gf 45 (l 47 1 46),gf 45 (bk 48 .geq 47 2),gt 41 (or 49 45 48),an 50 41 49,m 2 50]),[r 2]⟩
theorem GuI:P 163=some Gu_:=by kernel_rfl
def Gvc:Gj:=⟨15,0,T [bo 1 0,n 2 0] (S (T [lg 3 3 1,q1 4 163 3,no 5 4] (I 5 (Q [n 2 0]))) (Q [f 6 0 1,l 7 1 6,e 8 (.bin .add (k 2) (t 7)),f 9 1 1,l 10 1 9,b 11 .add 8 10,bk 12 .add 11 1,bk 13 .quo 12 2,bk 14 .mul 13 2,m 2 14])),[r 2]⟩
theorem GsQ:P 165=some Gvc:=by kernel_rfl
def GuC:Gj:=⟨13,0,T [bo 1 0,n 2 0] (Q [f 3 0 1,l 4 1 3,f 5 1 1,l 6 1 5,e 7 (.bin .mul (k 16) (t 6)),b 8 .add 4 7,f 9 2 1,l 10 1 9,e 11 (.bin .mul (k 4096) (t 10)),b 12 .add 8 11,m 2 12]),[r 2]⟩
theorem GrK:P 166=some GuC:=by kernel_rfl
end Go.Cs.Tryz
namespace Go.Cs
open Go
def GX(r d k:Int):List CV:=[.i r,.i d,.i k]
def JQ(r d k:Int):Bool:=decide (0≤r)&&(decide (r≤15)&&(decide (0≤d)&&(decide (d≤200)&&(decide (0≤k)&&(decide (k≤3)&&((k != 1||decide (1≤r))&&(k != 2||decide (2≤r))))))))
theorem QD{r d k:Int}(h:JQ r d k=true):(0≤r∧r≤15)∧(0≤d∧d≤200)∧(0≤k∧k≤3)∧(k≠1∨1≤r)∧(k≠2∨2≤r):=by
 simp only[JQ,NH,decide_eq_true_eq,Bool.or_eq_true,bne_iff_ne]at h
 omega
theorem NS{r d k:Int}:JQ r d k=true↔(0≤r∧r≤15)∧(0≤d∧d≤200)∧(0≤k∧k≤3)∧(k≠1∨1≤r)∧(k≠2∨2≤r):=by
 simp only[JQ,NH,decide_eq_true_eq,Bool.or_eq_true,bne_iff_ne]
 omega
def Gv(r d k:Int):Int:=if JQ r d k then((G6 r.toNat d.toNat:Nat):Int)else 0
theorem Ob.Ok.valid{o:Ob}{n b:Nat}(h:o.Ok n b):JQ o.refs.length o.data.length o.kd=true:=by
 have h1:=h.nr;have h2:=h.nd;have h3:=h.kd
 rw[NS];omega
theorem Ob.Ok.shape{o:Ob}{n b:Nat}(h:o.Ok n b):(o.num:Int).tmod 16=o.refs.length∧((o.num:Int).tmod 4096).tdiv 16=o.data.length∧(o.num:Int).tdiv 4096=o.kd∧o.num<65536:=by
 have h1:=h.nr;have h2:=h.nd;have h3:=h.kd
 have e1:(o.num:Int).tmod 16=((o.num % 16:Nat):Int):=VY _ 16
 have e2:(o.num:Int).tmod 4096=((o.num % 4096:Nat):Int):=VY _ 4096
 have e3:(o.num:Int).tdiv 4096=((o.num/4096:Nat):Int):=KN _ 4096
 have e4:((o.num % 4096:Nat):Int).tdiv 16=((o.num % 4096/16:Nat):Int):=KN _ 16
 rw[e1,e2,e3,e4]
 unfold Ob.num
 omega
end Go.Cs
namespace Go.Cs.Tryz
open Go Go.Cs
section
variable {H : Gb}
theorem Zj(n:Int)(h:0≤n∧n<65536):run P 155 [.i n] H=some (.agg (GX (n.tmod 16) ((n.tmod 4096).tdiv 16) (n.tdiv 4096)),H++[⟨GX (n.tmod 16) ((n.tmod 4096).tdiv 16) (n.tdiv 4096),.rw,0⟩]):=by
 obtain⟨m,rfl⟩:∃m:Nat,n=m:=⟨n.toNat,oM⟩
 have e2:(m:Int).tmod 4096=((m % 4096:Nat):Int):=VY _ 4096
 have e3:(m:Int).tdiv 4096=((m/4096:Nat):Int):=KN _ 4096
 have e4:((m % 4096:Nat):Int).tdiv 16=((m % 4096/16:Nat):Int):=KN _ 16
 have w1:IntKind.i64.wrap ((m % 4096/16:Nat):Int)=((m % 4096/16:Nat):Int):=Gg oM
 have w2:IntKind.i64.wrap ((m/4096:Nat):Int)=((m/4096:Nat):Int):=Gg oM
 rw[Gh GvT _ _ sM]
 unfold GX
 exact Hz
 all_goals rfl
theorem Xe(r d k:Int)(h:JQ r d k=true):run P 166 [.agg (GX r d k)] H=some (.i (r+16*d+4096*k),H++[⟨GX r d k,.rw,0⟩]):=by
 have hv:=QD h
 have w1:IntKind.i64.wrap (16*d)=16*d:=Gg oM
 have w2:IntKind.i64.wrap (r+16*d)=r+16*d:=Gg oM
 have w3:IntKind.i64.wrap (4096*k)=4096*k:=Gg oM
 have w4:IntKind.i64.wrap (r+16*d+4096*k)=r+16*d+4096*k:=Gg oM
 rw[Gh GrK _ _ sM]
 unfold GX
 exact W0
theorem Oh(r d k:Int):run P 163 [.agg (GX r d k)] H=some (.bool (JQ r d k),H++[⟨GX r d k,.rw,0⟩]):=by
 rw[Gh GuI _ _ sM]
 unfold JQ GX
 by_cases c1:0≤r
 ·by_cases c2:r≤15
  ·by_cases c3:0≤d
   ·by_cases c4:d≤200
    ·by_cases c5:0≤k
     ·by_cases c6:k≤3
      ·by_cases c7:(k != 1)=true
       ·by_cases c9:(k != 2)=true
        ·have:=@Bool.true_or;exact W0
        ·have c9':(k != 2)=false:=by simpa using c9
         have:=@Bool.true_or;have:=@Bool.false_or;exact W0
       ·have c7':(k != 1)=false:=by simpa using c7
        by_cases c8:1≤r
        ·by_cases c9:(k != 2)=true
         ·have:=@Bool.true_or;have:=@Bool.false_or;exact W0
         grind
        ·have:=@Bool.false_or;exact W0
      ·exact W0
     ·exact W0
    ·exact W0
   ·exact W0
  ·exact W0
 ·exact W0
theorem Vk(r d k:Int):run P 165 [.agg (GX r d k)] H=some (.i (Gv r d k),H++[⟨GX r d k,.rw,0⟩]++[⟨GX r d k,.rw,0⟩]):=by
 have hv:=Oh (H:=H++[⟨GX r d k,.rw,0⟩]) r d k
 rw[Gh GsQ _ _ sM]
 unfold Gv
 by_cases c:JQ r d k=true
 ·have hb:=QD c
  rw[c]at hv
  rw[if_pos c]
  unfold GX at hv⊢
  have w1:IntKind.i64.wrap (2+r)=2+r:=Gg oM
  have w2:IntKind.i64.wrap (2+r+d)=2+r+d:=Gg oM
  have w3:IntKind.i64.wrap (2+r+d+1)=2+r+d+1:=Gg oM
  have e:(2+r+d+1).tdiv 2=(2+r+d+1)/2:=Int.tdiv_eq_ediv_of_nonneg oM
  have w4:IntKind.i64.wrap ((2+r+d+1)/2)=(2+r+d+1)/2:=Gg oM
  have w5:IntKind.i64.wrap ((2+r+d+1)/2*2)=((G6 r.toNat d.toNat:Nat):Int):=by
   rw[Gg oM];unfold G6;omega
  exact Hz
 ·have c':JQ r d k=false:=by simpa using c
  rw[c']at hv⊢
  unfold GX at hv⊢
  exact W0
end
end Go.Cs.Tryz
namespace Go.Cs.Tryz
open Go Go.Cs A
def C63:Gj:=⟨18,0,T [nb 4 false] (Q [m 5 0,m 6 1,q2 7 153 5 6,m 8 7,gt 8 (m 9 0),gt 8 (z 10 9),gt 8 (f 11 3 10),gt 8 (l 12 1 11),gt 8 (m 13 1),gt 8 (bk 14 .quo 13 2),gt 8 (q2 15 154 12 14),gt 8 (bk 16 .eql 15 1),an 17 8 16,m 4 17]),[r 4]⟩
theorem c63:P 63=some C63:=by kernel_rfl
def C64:Gj:=⟨20,0,T [n 4 0,n 5 0] (S (T [m 7 0,m 8 1,q2 9 124 7 8,m 6 9] (T [m 10 6,bk 11 .neq 10 0] (I 11 (Q [m 12 6,n 4 0,m 5 12])))) (Q [m 13 0,z 14 13,f 15 1 14,l 16 1 15,m 17 1,x 18 1 16 17,l 19 1 18,m 4 19,n 5 0])),[r 4,r 5]⟩
theorem c64:P 64=some C64:=by kernel_rfl
def C65:Gj:=⟨23,0,T [e 4 (.new [i 0,i 0,i 0]),n 5 0] (S (T [m 7 0,m 8 1,q2 9 124 7 8,m 6 9] (T [m 10 6,bk 11 .neq 10 0] (I 11 (Q [e 12 (.build [i 0,i 0,i 0] []),m 13 6,st 3 4 12,m 5 13])))) (Q [m 14 0,z 15 14,f 16 1 15,l 17 1 16,m 18 1,bk 19 .add 18 1,x 20 1 17 19,l 21 1 20,q1 22 155 21,st 3 4 22,n 5 0])),[.cell 4 true 3,r 5]⟩
theorem c65:P 65=some C65:=by kernel_rfl
def C66:Gj:=⟨27,0,T [n 6 0,n 7 0] (T [m 11 0,m 12 1,m 13 2,ca 14 156 [t 11,t 12,t 13,c (.bool false)],m 10 14,ex 15 10 0,ex 16 10 1,m 8 15,m 9 16] (S (T [m 17 9,bk 18 .neq 17 0] (I 18 (Q [m 19 9,n 6 0,m 7 19]))) (Q [m 20 0,z 21 20,f 22 1 21,l 23 1 22,m 24 8,x 25 1 23 24,l 26 1 25,m 6 26,n 7 0]))),[r 6,r 7]⟩
theorem c66:P 66=some C66:=by kernel_rfl
def C67:Gj:=⟨27,0,T [n 6 0,n 7 0] (T [m 11 0,m 12 1,m 13 2,ca 14 156 [t 11,t 12,t 13,c (.bool true)],m 10 14,ex 15 10 0,ex 16 10 1,m 8 15,m 9 16] (S (T [m 17 9,bk 18 .neq 17 0] (I 18 (Q [m 19 9,n 6 0,m 7 19]))) (Q [m 20 0,z 21 20,f 22 1 21,l 23 1 22,m 24 8,x 25 1 23 24,l 26 1 25,m 6 26,n 7 0]))),[r 6,r 7]⟩
theorem c67:P 67=some C67:=by kernel_rfl
def Gtq:Gj:=⟨15,0,T [n 4 0] (Q [m 5 0,z 6 5,f 7 1 6,l 8 1 7,m 9 1,bk 10 .add 9 1,x 11 1 8 10,l 12 1 11,q1 13 155 12,q1 14 165 13,m 4 14]),[r 4]⟩
theorem GoC:P 114=some Gtq:=by kernel_rfl
def Gtb:Gj:=⟨50,0,T [n 8 0,n 9 0] (S (T [m 14 0,m 15 1,q2 16 124 14 15,m 10 16] (T [m 17 10,bk 18 .neq 17 0] (I 18 (Q [m 19 10,n 8 0,m 9 19])))) (T [m 20 0,z 21 20,f 22 1 21,l 23 1 22,m 24 1,bk 25 .add 24 1,x 26 1 23 25,l 27 1 26,q1 28 155 27,e 11 (.new [i 0,i 0,i 0]),st 3 11 28] (S (D [⟨m 29 1,0,0,0⟩,⟨bk 30 .add 29 2,1,0,0⟩,⟨f 31 0 11,2,0,0⟩,⟨l 32 1 31,3,1,0⟩,⟨m 12 30,4,0,0⟩,⟨m 13 32,5,0,0⟩]) (S (T [m 33 3] (I 33 (D [⟨m 34 12,0,0,0⟩,⟨f 35 0 11,1,0,0⟩,⟨l 36 1 35,2,1,0⟩,⟨b 37 .add 34 36,3,0,0⟩,⟨f 38 1 11,4,0,0⟩,⟨l 39 1 38,5,1,0⟩,⟨m 12 37,6,0,0⟩,⟨m 13 39,7,0,0⟩]))) (S (T [m 40 2,bk 41 .lss 40 0,m 42 41,gf 42 (m 43 2),gf 42 (m 44 13),gf 42 (b 45 .geq 43 44),or 46 42 45] (I 46 (Q [n 8 0,n 9 1]))) (Q [m 47 12,m 48 2,b 49 .add 47 48,m 8 49,n 9 0])))))),[r 8,r 9]⟩
theorem c156:P 156=some Gtb:=by kernel_rfl
end Go.Cs.Tryz
namespace Go.Cs
open Go
theorem Ob.Ghe(o:Ob){i:Nat}(h:i<o.refs.length):o.cell (2+i)=o.refs.getD i 0:=by
 have e:2+i=i+1+1:=by omega
 unfold Ob.cell Ob.cells
 grind
theorem Ob.Ge7(o:Ob){i:Nat}(h:i<o.data.length):o.cell (2+o.refs.length+i)=o.data.getD i 0:=by
 have e:2+o.refs.length+i=o.refs.length+i+1+1:=by omega
 unfold Ob.cell Ob.cells
 grind
def Hp.JI(s:Hp)(a:Int):List CV×Int:=match s.obj a with
 |some o=>(GX o.refs.length o.data.length o.kd,0)
 |none=>(GX 0 0 0,4)
def Hp.fieldAt(s:Hp)(a i:Int)(d:Bool):Int×Int:=match s.obj a with
 |some o=>if 0≤i∧i<((if d then o.data.length else o.refs.length:Nat):Int)then((o.addr:Int)+2+(if d then o.refs.length else 0:Nat)+i,0)else(0,1)
 |none=>(0,4)
def Hp.Du(s:Hp)(a i:Int):Int×Int:=match s.obj a with
 |some o=>if 0≤i∧i<(o.refs.length:Int)then(o.refs.getD i.toNat 0,0)else(0,1)
 |none=>(0,4)
def Hp.MC(s:Hp)(a i:Int):Int×Int:=match s.obj a with
 |some o=>if 0≤i∧i<(o.data.length:Int)then(o.data.getD i.toNat 0,0)else(0,1)
 |none=>(0,4)
def Hp.GZ(s:Hp)(a:Int):Int×Int:=match s.obj a with
 |some o=>(o.id,0)
 |none=>(0,4)
def Hp.pinnedAt(s:Hp)(a:Int):Bool:=match s.obj a with
 |some o=>o.pin
 |none=>false
def UF(p:Int×Int):CV:=.Jj [.i p.1,.i p.2]
end Go.Cs
namespace Go.Cs.Tryz
open Go Go.Cs
section
variable {H : Gb} {hb : Nat} {s : Hp} {L : G5}
theorem Ut(p:PH H hb s L)(k:s.Ok){o:Ob}(ho:o∈s.objs){j:Nat}(hj:j<o.size):ld H[L.wb]? (o.addr+j)=some (.i (o.cell j))∧((0:Int)≤((o.addr+j:Nat):Int)∧((o.addr+j:Nat):Int)<(s.nw:Int))∧s.nw≤4096:=by
 have h1:=(k.ob o ho).fits
 have h2:=k.nb
 have h3:s.nw≤4096:=by unfold Hp.nw;omega
 refine⟨?_,oM,h3⟩
 rw[←k.word ho hj]
 exact p.word oM
theorem Fb(p:PH H hb s L)(k:s.Ok){o:Ob}(ho:o∈s.objs):∃H',run P 114 [.ptr hb 0,.i o.addr] H=some (.i o.size,H')∧Gr H H':=by
 obtain⟨e1,e2,e3,e4⟩:=(k.ob o ho).shape
 obtain⟨q1,q2,q3⟩:=Ut p k ho (j:=1) (by have:=o.size_pos;omega)
 have q4:o.cell 1=(o.num:Int):=rfl
 rw[q4]at q1
 have h:=p.top
 have hs:=Zj (H:=H) o.num oM
 rw[e1,e2,e3]at hs
 have hw:=Vk (H:=H++[⟨GX o.refs.length o.data.length o.kd,.rw,0⟩]) o.refs.length o.data.length o.kd
 have hv:Gv o.refs.length o.data.length o.kd=(o.size:Int):=by
  unfold Gv
  rw[if_pos (k.ob o ho).valid]
  rfl
 rw[hv]at hw
 have w1:IntKind.i64.wrap ((o.addr:Int)+1)=((o.addr+1:Nat):Int):=Gg oM
 refine⟨_,?_,(((Gr.app H [⟨GX o.refs.length o.data.length o.kd,.rw,0⟩]).app' [⟨GX o.refs.length o.data.length o.kd,.rw,0⟩]).app' [⟨GX o.refs.length o.data.length o.kd,.rw,0⟩])⟩
 rw[Gh GoC _ _ sM]
 exact W0
theorem Ng(p:PH H hb s L)(k:s.Ok)(a:Int)(ha:a≤9223372036854775807):∃H',run P 65 [.ptr hb 0,.i a] H=some (.Jj [.agg (s.JI a).1,.i (s.JI a).2],H')∧Gr H H':=by
 have pj:=p.app [⟨GX 0 0 0,.rw,0⟩]
 have h1:=Qy pj k a ha
 unfold Hp.JI
 cases e:s.obj a with
 |none=>
  rw[Hp.J_.2 e]at h1
  refine⟨H++[⟨GX 0 0 0,.rw,0⟩],?_,Gr.app H _⟩
  unfold GX at h1⊢
  rw[Gh c65 _ _ sM]
  exact W0
 |some o=>
  obtain⟨ho,rfl⟩:=Hp.Jf e
  rw[Hp.J4.2 ⟨o,e⟩]at h1
  obtain⟨e1,e2,e3,e4⟩:=(k.ob o ho).shape
  obtain⟨q1,q2,q3⟩:=Ut pj k ho (j:=1) (by have:=o.size_pos;omega)
  have q4:o.cell 1=(o.num:Int):=rfl
  rw[q4]at q1
  have h:=pj.top
  have hs:=Zj (H:=H++[⟨GX 0 0 0,.rw,0⟩]) o.num oM
  rw[e1,e2,e3]at hs
  have w1:IntKind.i64.wrap ((o.addr:Int)+1)=((o.addr+1:Nat):Int):=Gg oM
  refine⟨H++[⟨GX o.refs.length o.data.length o.kd,.rw,0⟩]++[⟨GX o.refs.length o.data.length o.kd,.rw,0⟩],?_,(Gr.app H _).app' _⟩
  unfold GX at h1 hs h⊢q1
  rw[Gh c65 _ _ sM]
  exact W0
  all_goals rfl
theorem BL(p:PH H hb s L)(k:s.Ok)(a i:Int)(d:Bool)(ha:a≤9223372036854775807):∃H',run P 156 [.ptr hb 0,.i a,.i i,.bool d] H=some (UF (s.fieldAt a i d),H')∧Gr H H':=by
 have h1:=Qy p k a ha
 unfold Hp.fieldAt UF
 cases e:s.obj a with
 |none=>
  rw[Hp.J_.2 e]at h1
  refine⟨H,?_,Keeps.refl H _⟩
  rw[Gh c156 _ _ sM]
  exact W0
 |some o=>
  obtain⟨ho,rfl⟩:=Hp.Jf e
  rw[Hp.J4.2 ⟨o,e⟩]at h1
  obtain⟨e1,e2,e3,e4⟩:=(k.ob o ho).shape
  obtain⟨q1,q2,q3⟩:=Ut p k ho (j:=1) (by have:=o.size_pos;omega)
  have q4:o.cell 1=(o.num:Int):=rfl
  rw[q4]at q1
  have h:=p.top
  have hs:=Zj (H:=H) o.num oM
  rw[e1,e2,e3]at hs
  have hr:=(k.ob o ho).nr
  have hd:=(k.ob o ho).nd
  have w1:IntKind.i64.wrap ((o.addr:Int)+1)=((o.addr+1:Nat):Int):=Gg oM
  have w2:IntKind.i64.wrap ((o.addr:Int)+2)=(o.addr:Int)+2:=Gg oM
  have w3:IntKind.i64.wrap ((o.addr:Int)+2+(o.refs.length:Int))=(o.addr:Int)+2+(o.refs.length:Int):=Gg oM
  refine⟨H++[⟨GX o.refs.length o.data.length o.kd,.rw,0⟩]++[⟨GX o.refs.length o.data.length o.kd,.rw,0⟩],?_,(Gr.app H _).app' _⟩
  unfold GX at hs⊢
  dsimp only
  rw[Gh c156 _ _ sM]
  cases d
  ·by_cases c0:i<0
   ·have c1:¬(0≤i∧i<((if false=true then o.data.length else o.refs.length:Nat):Int)):=by omega
    rw[if_neg c1]
    exact W0
   ·by_cases c2:(o.refs.length:Int)≤i
    ·have c1:¬(0≤i∧i<((if false=true then o.data.length else o.refs.length:Nat):Int)):=by simp;omega
     rw[if_neg c1]
     exact W0
    ·have c1:(0≤i∧i<((if false=true then o.data.length else o.refs.length:Nat):Int)):=by simp;omega
     rw[if_pos c1]
     have w4:IntKind.i64.wrap ((o.addr:Int)+2+i)=(o.addr:Int)+2+i:=Gg oM
     refine Jb ?_
     simp
  ·by_cases c0:i<0
   ·have c1:¬(0≤i∧i<((if true=true then o.data.length else o.refs.length:Nat):Int)):=by omega
    rw[if_neg c1]
    exact W0
   ·by_cases c2:(o.data.length:Int)≤i
    ·have c1:¬(0≤i∧i<((if true=true then o.data.length else o.refs.length:Nat):Int)):=by simp;omega
     rw[if_neg c1]
     exact W0
    ·have c1:(0≤i∧i<((if true=true then o.data.length else o.refs.length:Nat):Int)):=by simp;omega
     rw[if_pos c1]
     have w4:IntKind.i64.wrap ((o.addr:Int)+2+(o.refs.length:Int)+i)=(o.addr:Int)+2+(o.refs.length:Int)+i:=Gg oM
     exact W0
     all_goals simp
theorem U4(p:PH H hb s L)(k:s.Ok)(a i:Int)(ha:a≤9223372036854775807):∃H',run P 66 [.ptr hb 0,.i a,.i i] H=some (UF (s.Du a i),H')∧Gr H H':=by
 obtain⟨H',h1,g⟩:=BL p k a i false ha
 have p':=p.gr g
 refine⟨H',?_,g⟩
 unfold Hp.fieldAt UF at h1
 unfold Hp.Du UF
 rw[Gh c66 _ _ sM]
 cases e:s.obj a with
 |none=>
  rw[e]at h1
  exact W0
 |some o=>
  rw[e]at h1
  dsimp only at h1⊢
  obtain⟨ho,rfl⟩:=Hp.Jf e
  have hif:(if false=true then o.data.length else o.refs.length)=o.refs.length:=rfl
  have Gh1:(if false=true then o.refs.length else 0)=0:=rfl
  rw[hif,Gh1]at h1
  by_cases c:0≤i∧i<(o.refs.length:Int)
  ·rw[if_pos c]at h1⊢
   obtain⟨n,rfl⟩:∃n:Nat,i=n:=⟨i.toNat,oM⟩
   have hsz:2+n<o.size:=by unfold Ob.size G6;omega
   obtain⟨q1,q2,q3⟩:=Ut p' k ho (j:=2+n) hsz
   rw[o.Ghe oM]at q1
   have h:=p'.top
   have e2:(o.addr:Int)+2+((0:Nat):Int)+(n:Int)=((o.addr+(2+n):Nat):Int):=by omega
   rw[e2]at h1
   exact W0
  ·rw[if_neg c]at h1⊢
   exact W0
theorem Gd6(p:PH H hb s L)(k:s.Ok)(a i:Int)(ha:a≤9223372036854775807):∃H',run P 67 [.ptr hb 0,.i a,.i i] H=some (UF (s.MC a i),H')∧Gr H H':=by
 obtain⟨H',h1,g⟩:=BL p k a i true ha
 have p':=p.gr g
 refine⟨H',?_,g⟩
 unfold Hp.fieldAt UF at h1
 unfold Hp.MC UF
 rw[Gh c67 _ _ sM]
 cases e:s.obj a with
 |none=>
  rw[e]at h1
  exact W0
 |some o=>
  rw[e]at h1
  dsimp only at h1⊢
  obtain⟨ho,rfl⟩:=Hp.Jf e
  have hif:(if true=true then o.data.length else o.refs.length)=o.data.length:=rfl
  have Gh1:(if true=true then o.refs.length else 0)=o.refs.length:=rfl
  rw[hif,Gh1]at h1
  by_cases c:0≤i∧i<(o.data.length:Int)
  ·rw[if_pos c]at h1⊢
   obtain⟨n,rfl⟩:∃n:Nat,i=n:=⟨i.toNat,oM⟩
   have hsz:2+o.refs.length+n<o.size:=by unfold Ob.size G6;omega
   obtain⟨q1,q2,q3⟩:=Ut p' k ho (j:=2+o.refs.length+n) hsz
   rw[o.Ge7 oM]at q1
   have h:=p'.top
   have e2:(o.addr:Int)+2+(o.refs.length:Int)+(n:Int)=((o.addr+(2+o.refs.length+n):Nat):Int):=by omega
   rw[e2]at h1
   exact W0
  ·rw[if_neg c]at h1⊢
   exact W0
theorem Gbq(p:PH H hb s L)(k:s.Ok)(a:Int)(ha:a≤9223372036854775807):run P 64 [.ptr hb 0,.i a] H=some (UF (s.GZ a),H):=by
 have h1:=Qy p k a ha
 unfold Hp.GZ UF
 rw[Gh c64 _ _ sM]
 cases e:s.obj a with
 |none=>
  rw[Hp.J_.2 e]at h1
  exact W0
 |some o=>
  obtain⟨ho,rfl⟩:=Hp.Jf e
  rw[Hp.J4.2 ⟨o,e⟩]at h1
  obtain⟨q1,q2,q3⟩:=Ut p k ho (j:=0) (by have:=o.size_pos;omega)
  have q4:o.cell 0=(o.id:Int):=rfl
  rw[q4]at q1
  rw[Nat.add_zero]at q1 q2
  have h:=p.top
  exact W0
theorem FO(p:PH H hb s L)(k:s.Ok)(a:Int)(ha:a≤9223372036854775807):run P 63 [.ptr hb 0,.i a] H=some (.bool (s.pinnedAt a),H):=by
 have h1:=ZQ p k a ha
 unfold Hp.pinnedAt
 rw[Gh c63 _ _ sM]
 cases e:s.obj a with
 |none=>
  rw[Hp.J_.2 e]at h1
  exact W0
 |some o=>
  obtain⟨ho,rfl⟩:=Hp.Jf e
  rw[Hp.J4.2 ⟨o,e⟩]at h1
  have h:=p.top
  have hd:(o.addr:Int).tdiv 2=((o.addr/2:Nat):Int):=KN o.addr 2
  have hf:=(k.ob o ho).fits
  have he:=(k.ob o ho).even
  have hz:=o.size_pos
  have hn:=k.nb
  unfold Hp.nw at hf
  have hw:IntKind.i64.wrap ((o.addr/2:Nat):Int)=((o.addr/2:Nat):Int):=Gg oM
  have hg:=OG p.pin ((o.addr/2:Nat):Int)
  have tn:(((o.addr/2:Nat):Int)).toNat=o.addr/2:=by omega
  rw[if_pos oM,tn]at hg
  have hp:s.pins (o.addr/2)=o.pin:=by
   unfold Hp.pins
   rw[Bool.eq_iff_iff,List.any_eq_true]
   constructor
   ·rintro ⟨x,hx,hh⟩
    simp only[NH,beq_iff_eq]at hh
    have:=x.size_pos
    have:x=o:=k.same hx ho (w:=o.addr) oM oM
    rw[←this];exact hh.2
   grind
  rw[hp]at hg
  have e2:(Ei o.pin==1)=o.pin:=by cases o.pin<;>rfl
  exact Hz
end
end Go.Cs.Tryz
namespace Go.Cs
open Go
structure Frm(g:Nat)(o:Tags)(H:Gb)(o':Tags)(H':Gb):Prop where
 len:H.length≤H'.length
 tag:∀c,c<H.length→o' c=o c
 new:∀c t,o' c=some t→H.length≤c→t.1=g
 keep:∀c,c<H.length→(∀k,o c≠some (g,k))→H'[c]?=H[c]?
theorem Frm.trans{g:Nat}{o o' o'':Tags}{H H' Da:Gb}(a:Frm g o H o' H')(c:Frm g o' H' o'' Da):Frm g o H o'' Da where
 len:=J2 a.len c.len
 tag:=fun x h=>by rw[c.tag x (J6 h a.len),a.tag x h]
 new:=fun x t h hx=>by
  by_cases hl:x<H'.length
  ·rw[c.tag x hl]at h;exact a.new x t h hx
  ·exact c.new x t h oM
 keep:=fun x h hk=>by
  have:=J6 h a.len
  rw[c.keep x this (by rw[a.tag x h];exact hk),a.keep x h hk]
theorem Frm.refl{g:Nat}{o:Tags}{H:Gb}(hd:∀c t,o c=some t→c<H.length):Frm g o H o H:=
 ⟨Nat.le_refl _,fun _ _=>rfl,fun c t h hc=>by have:=hd c t h;omega,fun _ _ _=>rfl⟩
theorem Frm.grow{g:Nat}{o:Tags}{H H':Gb}(hd:∀c t,o c=some t→c<H.length)(hl:H.length≤H'.length)(hk:∀c,c<H.length→H'[c]?=H[c]?):Frm g o H o H':=
 ⟨hl,fun _ _=>rfl,fun c t h hc=>by have:=hd c t h;omega,fun c h _=>hk c h⟩
theorem D_:∀(xs:List Obj)(hs:List (CV×CV))(j:Nat)(x x':Obj),xs[j]?=some x→x'.nr=x.nr→x'.nd=x.nd→x'.kd=x.kd→NP (xs.set j x') hs=NP xs hs
 |[],_,j,_,_,e,_,_,_=>by simp at e
 |y::ys,[],0,_,_,_,_,_,_=>rfl
 |y::ys,[],j+1,_,_,_,_,_,_=>rfl
 |y::ys,h::hs,0,x,x',e,e1,e2,e3=>by
  simp only[List.getElem?_cons_zero,GA]at e
  subst e
  simp only[List.set_cons_zero,NP,e1,e2,e3]
 |y::ys,h::hs,j+1,x,x',e,e1,e2,e3=>by
  simp only[List.getElem?_cons_succ]at e
  simp only[List.set_cons_succ,NP]
  rw[D_ ys hs j x x' e e1 e2 e3]
section
variable {o : Tags} {g : Nat} {H H' : Gb} {b : Nat} {M : UG} {L : Lay}
theorem Yd.setObj(m:Yd o g H b M L){j:Nat}{x x':Obj}(hx:M.objs[j]?=some x) (e:x'.nr=x.nr∧x'.nd=x.nd∧x'.kd=x.kd∧x'.refs.length=x.refs.length∧x'.data.length=x.data.length)
  (hl:H.length≤H'.length) (hf:∀c k,o c=some (g,k)→k≠(6,j)→k≠(7,j)→H'[c]?=H[c]?)
  (hr:∀h,L.hv[j]?=some h→At o (g,6,j) H' h.1 1 x.refs.length (ints x'.refs)∧At o (g,7,j) H' h.2 1 x.data.length (ints x'.data)):
  Yd o g H' b {M with objs:=M.objs.set j x'} L where
 dom:=fun c t h=>J6 (m.dom c t h) hl
 top:=m.top
 cells:=by rw[hf _ _ m.top sM sM,m.cells]
 nsv:=m.nsv
 slots:=m.slots.frame (fun c h=>h) (fun c h=>hf c _ h sM sM)
 slot:=fun i s h=>by
  obtain⟨v,h1,h2⟩:=m.slot i s h
  exact⟨v,h1,h2.frame (fun c h=>h) (fun c h=>hf c _ h sM sM)⟩
 globals:=m.globals.frame (fun c h=>h) (fun c h=>hf c _ h sM sM)
 queue:=m.queue.frame (fun c h=>h) (fun c h=>hf c _ h sM sM)
 nhv:=by simp[m.nhv]
 objs:=by
  have:=m.objs.frame (o':=o) (H':=H') (fun c h=>h) (fun c h=>hf c _ h sM sM)
  rw[D_ _ _ _ _ _ hx e.1 e.2.1 e.2.2.1,List.length_set]
  exact this
 refs:=fun i y h=>by
  rw[Ig]at h
  by_cases hij:j=i
  ·subst hij
   rw[if_pos rfl]at h
   split at h
   ·simp only[GA]at h
    subst h
    obtain⟨v,h1,h2,h3⟩:=m.refs j x hx
    obtain⟨h4,h5⟩:=hr v h1
    exact⟨v,h1,by rw[e.2.2.2.1];exact h4,by rw[e.2.2.2.2];exact h5⟩
   ·cases h
  ·rw[if_neg hij]at h
   obtain⟨v,h1,h2,h3⟩:=m.refs i y h
   refine⟨v,h1,h2.frame (fun c h=>h) (fun c h=>hf c _ h ?_ ?_),h3.frame (fun c h=>h) (fun c h=>hf c _ h ?_ ?_)⟩<;>
    (simp only[ne_eq,Prod.mk.injEq,not_and];omega)
def Tags.put(o:Tags)(c:Nat)(t:Tag):Tags:=fun d=>if d=c then some t else o d
theorem Tags.put_eq{o:Tags}{c:Nat}{t:Tag}:o.put c t c=some t:=by simp[Tags.put]
theorem Tags.Jp{o:Tags}{c d:Nat}{t:Tag}(h:d≠c):o.put c t d=o d:=by simp[Tags.put,h]
theorem Yd.grows(m:Yd o g H b M L){c:Nat}{t:Tag}(hc:H.length≤c)(hc':c<H'.length)(hf:∀c k,o c=some (g,k)→H'[c]?=H[c]?):Yd (o.put c t) g H' b M L:=
 m.frame (fun d k h=>by
   by_cases e:d=c
   ·subst e;exact hc'
   ·rw[Tags.Jp e]at h;have:=m.dom d k h;omega)
  (fun d k h=>by
     rw[Tags.Jp];· exact h
     ·have:=m.dom d _ h;omega) hf
theorem Yd.Gg6(m:Yd o g H b M L){l:List Int}{v:CV}{o':Tags}
  (hd:∀c t,o' c=some t→c<H'.length)(ho:∀c k,o c=some (g,k)→o' c=some (g,k))
  (hl:H.length≤H'.length)(hf:∀c k,o c=some (g,k)→k≠(4,0)→k≠(0,0)→H'[c]?=H[c]?) (hb:H'[b]?=some ⟨[L.sl,L.gl,v,L.ov],.rw,0⟩)
  (hr:At o' (g,4,0) H' v 1 l.length (ints l)):
  Yd o' g H' b {M with queue:=l} {L with qv:=v} where
 dom:=hd
 top:=ho _ _ m.top
 cells:=hb
 nsv:=m.nsv
 slots:=m.slots.frame (fun c=>ho c _) (fun c h=>hf c _ h sM sM)
 slot:=fun i s h=>by
  obtain⟨v,h1,h2⟩:=m.slot i s h
  exact⟨v,h1,h2.frame (fun c=>ho c _) (fun c h=>hf c _ h sM sM)⟩
 globals:=m.globals.frame (fun c=>ho c _) (fun c h=>hf c _ h sM sM)
 queue:=hr
 nhv:=m.nhv
 objs:=m.objs.frame (fun c=>ho c _) (fun c h=>hf c _ h sM sM)
 refs:=fun j x h=>by
  obtain⟨v,h1,h2,h3⟩:=m.refs j x h
  exact⟨v,h1,h2.frame (fun c=>ho c _) (fun c h=>hf c _ h sM sM),h3.frame (fun c=>ho c _) (fun c h=>hf c _ h sM sM)⟩
theorem Yd.born(m:Yd o g H b M L){x:Obj}{h:CV×CV}{v:CV}{o':Tags}
  (hd:∀c t,o' c=some t→c<H'.length)(ho:∀c k,o c=some (g,k)→o' c=some (g,k))
  (hf:∀c k,o c=some (g,k)→k≠(5,0)→k≠(0,0)→H'[c]?=H[c]?) (hb:H'[b]?=some ⟨[L.sl,L.gl,L.qv,v],.rw,0⟩)
  (hr:At o' (g,5,0) H' v 5 (M.objs.length+1) (NP M.objs L.hv++[.i x.nr,.i x.nd,.i x.kd,h.1,h.2]))
  (h1:At o' (g,6,M.objs.length) H' h.1 1 x.refs.length (ints x.refs)) (h2:At o' (g,7,M.objs.length) H' h.2 1 x.data.length (ints x.data)):
  Yd o' g H' b {M with objs:=M.objs++[x]} {L with ov:=v,hv:=L.hv++[h]} where
 dom:=hd
 top:=ho _ _ m.top
 cells:=hb
 nsv:=m.nsv
 slots:=m.slots.frame (fun c=>ho c _) (fun c h=>hf c _ h sM sM)
 slot:=fun i s h=>by
  obtain⟨v,h1,h2⟩:=m.slot i s h
  exact⟨v,h1,h2.frame (fun c=>ho c _) (fun c h=>hf c _ h sM sM)⟩
 globals:=m.globals.frame (fun c=>ho c _) (fun c h=>hf c _ h sM sM)
 queue:=m.queue.frame (fun c=>ho c _) (fun c h=>hf c _ h sM sM)
 nhv:=by simp[m.nhv]
 objs:=by
  show At o' (g,5,0) H' v 5 (M.objs++[x]).length (NP (M.objs++[x]) (L.hv++[h]))
  rw[DF _ _ _ _ m.nhv,Qi]
  exact hr
 refs:=fun j y hy=>by
  rw[GlE]at hy
  split at hy
  ·rename_i hj
   obtain⟨v,e1,e2,e3⟩:=m.refs j y hy
   refine⟨v,?_,e2.frame (fun c=>ho c _) (fun c h=>hf c _ h sM sM),e3.frame (fun c=>ho c _) (fun c h=>hf c _ h sM sM)⟩
   show(L.hv++[h])[j]?=_
   rw[IJ (by rw[m.nhv];exact hj)]
   exact e1
  ·rename_i hj
   have hj':j=M.objs.length:=by
    have:=Gf hy
    simp at this;omega
   subst hj'
   simp at hy
   subst hy
   refine⟨h,?_,h1,h2⟩
   show(L.hv++[h])[M.objs.length]?=_
   rw[←m.nhv];simp
end
end Go.Cs
namespace Go.Cs
open Go
def UG.setObj(M:UG)(n:Int)(x:Obj):UG:={M with objs:=M.objs.set (n-1).toNat x}
def UG.push(M:UG)(n:Int):UG×Int:=
 if M.has n then if M.queue.length=64 then(M,6)else({M with queue:=M.queue++[n]},0)else(M,4)
def UG.setRef(M:UG)(n i to:Int):UG×Int:=
 if M.has n then
  if 0≤i∧i<((M.obj n).refs.length:Int)∧(to=0∨M.has to)then
   (M.setObj n {M.obj n with refs:=(M.obj n).refs.set i.toNat to},0)
  else(M,1)
 else(M,4)
theorem Obj.Ok.more{n k:Nat}{x:Obj}(h:x.Ok n)(hk:n≤k):x.Ok k:=
 ⟨h.nr,h.nd,h.kd,fun v hv=>by have:=h.ids v hv;omega⟩
theorem UG.Ok.obj{M:UG}(w:M.Ok){n:Int}(c:M.has n):(M.obj n).Ok M.objs.length:=w.objs _ (JV (UG.GkC c))
theorem UG.Ok.setObj{M:UG}(w:M.Ok){n:Int}{x:Obj}(h:x.Ok M.objs.length):(M.setObj n x).Ok where
 ns:=w.ns
 s16:=by simpa[UG.setObj]using w.s16
 g16:=by simpa[UG.setObj]using w.g16
 FV:=by simpa[UG.setObj]using w.FV
 objs:=fun y hy=>by
  simp only[UG.setObj,List.length_set]at hy⊢
  rcases List.mem_or_eq_of_mem_set hy with hy|rfl
  ·exact w.objs y hy
  ·exact h
 few:=by simpa[UG.setObj]using w.few
theorem UG.Ok.push{M:UG}(w:M.Ok)(n:Int):(M.push n).1.Ok:=by
 unfold UG.push
 split
 ·rename_i h
  split
  ·exact w
  ·rename_i hq
   refine⟨w.ns,w.s16,w.g16,⟨?_,?_⟩,w.objs,w.few⟩
   ·have:=w.FV.1;simp;omega
   ·intro v hv
    simp only[K_,Ad]at hv
    rcases hv with hv|rfl
    ·exact w.FV.2 v hv
    ·exact h
 ·exact w
theorem UG.Ok.setRef{M:UG}(w:M.Ok)(n i to:Int):(M.setRef n i to).1.Ok:=by
 unfold UG.setRef
 split
 ·rename_i h
  split
  ·rename_i hi
   refine w.setObj ?_
   have hx:=w.obj h
   refine⟨by simpa using hx.nr,hx.nd,hx.kd,fun v hv=>?_⟩
   rcases List.mem_or_eq_of_mem_set hv with hv|rfl
   ·exact hx.ids v hv
   ·rcases hi.2.2 with rfl|h2
    ·omega
    ·unfold UG.has at h2;omega
  ·exact w
 ·exact w
def Loc(k:Nat):Tags:=fun c=>if k≤c then some (0,0,0)else none
abbrev z3:Tag:=(0,0,0)
theorem Gl{k c:Nat}{t:Tag}:Loc k c=some t↔k≤c∧t=z3:=by
 unfold Loc
 split
 ·simp only[GA];constructor
  ·intro h;exact⟨by assumption,h.symm⟩
  ·intro h;exact h.2.symm
 ·simp;omega
theorem At.adopt{k e n:Nat}{H:Gb}{v:CV}{cs:List CV}{o:Tags}{t:Tag}(h:At (Loc k) z3 H v e n cs)(ho:∀d s,o d=some s→d<k):
  ∃o':Tags,(∀d,d<k→o' d=o d)∧(∀d s,o' d=some s→k≤d→s=t∧d<H.length)∧At o' t H v e n cs:=by
 rcases h with h|⟨b,tl,rfl,h1,h2,h3⟩
 ·exact⟨o,fun _ _=>rfl,fun d s h1 h2=>by have:=ho d s h1;omega,.inl h⟩
 ·have hb:=(Gl.1 h1).1
  refine⟨o.put b t,fun d hd=>Tags.Jp oM,fun d s h4 h5=>?_,.inr ⟨b,tl,rfl,Tags.put_eq,h2,h3⟩⟩
  by_cases e:d=b
  ·subst e
   rw[Tags.put_eq]at h4
   simp only[GA]at h4
   exact⟨h4.symm,Gf h2⟩
  ·rw[Tags.Jp e]at h4
   have:=ho d s h4;omega
theorem Yd.Ap{o:Tags}{g:Nat}{H Hf:Gb}{b:Nat}{M:UG}{L:Lay}(m:Yd o g H b M L){v:CV}{l:List Int}(h:At (Loc H.length) z3 Hf v 1 l.length (ints l))(hl:H.length≤Hf.length)
  (hb:Hf[b]?=some ⟨[L.sl,L.gl,v,L.ov],.rw,0⟩) (hf:∀d,d<H.length→o d≠some (g,4,0)→d≠b→Hf[d]?=H[d]?):
  ∃o' L',Yd o' g Hf b {M with queue:=l} L'∧Frm g o H o' Hf:=by
 obtain⟨o',h1,h2,h3⟩:=h.adopt (o:=o) (t:=(g,4,0)) m.dom
 refine⟨o',{L with qv:=v},?_,?_⟩
 ·refine m.Gg6 (v:=v) ?_ ?_ hl ?_ hb h3
  ·intro c t h
   by_cases hc:c<H.length
   ·omega
   ·exact(h2 c t h oM).2
  ·intro c k h
   rw[h1 c (m.dom c _ h),h]
  ·intro c k h k1 k2
   refine hf c (m.dom c _ h) (by rw[h];simpa using k1) ?_
   rintro rfl
   rw[m.top]at h
   simp only[GA,Prod.mk.injEq,true_and]at h
   exact k2 h.symm
 ·refine⟨hl,h1,fun c t h hc=>?_,fun c hc hk=>hf c hc (hk _) ?_⟩
  ·rw[(h2 c t h hc).1]
  ·rintro rfl;exact hk _ m.top
end Go.Cs
namespace Go.Cs.Tryz
open Go Go.Cs A
def C53:Gj:=⟨13,0,T [e 2 (.Km (c .Gd))] (S (T [m 3 0,q1 4 106 3,no 5 4] (I 5 (Q [e 2 (.Km (c .Gd))]))) (Q [m 6 0,m 7 0,z 8 7,f 9 1 8,l 10 1 9,le 11 10,ca 12 143 [t 6,k 0,t 11],m 2 12])),[r 2]⟩
theorem c53:P 53=some C53:=by kernel_rfl
abbrev R_:Gn:=S (T [m 20 9,bk 21 .eql 20 0,m 22 21,gt 22 (m 23 8),gt 22 (e 24 (.bin .mul (k 2) (t 23))),gt 22 (m 25 2),gt 22 (b 26 .lss 24 25),an 27 22 26] (J 27 (X 0))) (S (B 1 (R [m 38 7,m 39 8,e 40 (.bin .mul (k 2) (t 39)),e 41 (.buildSlice 1 [i 0] 1 [(0,1,t 40)]),ap 42 1 38 41,m 7 42])) (R [m 29 0,z 30 29,f 31 2 30,l 32 1 31,m 33 8,bk 34 .add 33 1,ca 35 226 [t 32,t 34,k 1],m 28 35,ex 36 28 0,ex 37 28 1,m 8 36,m 9 37]))
def Gqy:Gj:=⟨44,0,T [e 6 (.Km (c .Gd))] (T [e 7 (.Km (c .Gd))] (S (T [m 11 0,z 12 11,f 13 2 12,l 14 1 13,m 15 1,bk 16 .quo 15 2,ca 17 226 [t 14,t 16,k 1],m 10 17,ex 18 10 0,ex 19 10 1,m 8 18,m 9 19] (B 0 (W R_))) (Q [m 43 7,m 6 43]))),[r 6]⟩
theorem c143:P 143=some Gqy:=by kernel_rfl
end Go.Cs.Tryz
namespace Go.Cs
open Go
def Ud(f:Nat→Bool):Nat→Nat→List Nat
 |0,_=>[]
 |k+1,j=>if f j=true then j::Ud f k (j+1)else Ud f k (j+1)
theorem M5(f:Nat→Bool):∀(k j n:Nat),n=j+k→Ud f k j=match Pq f k j with|some i=>i::Ud f (n-(i+1)) (i+1)|none=>[]
 |0,j,n,_=>rfl
 |k+1,j,n,h=>by
  simp only[Ud,Pq]
  by_cases hf:f j=true
  ·grind
  ·rw[if_neg hf,if_neg hf]
   exact M5 f k (j+1) n oM
theorem Pz(f:Nat→Bool):∀(k j i:Nat),Pq f k j=some i→j≤i∧i<j+k∧f i=true
 |0,j,i,h=>by cases h
 |k+1,j,i,h=>by
  simp only[Pq]at h
  by_cases hf:f j=true
  ·grind
  ·rw[if_neg hf]at h
   have:=Pz f k (j+1) i h
   grind
theorem UM(f:Nat→Bool):∀(k j:Nat)(l:List Nat),l.Pairwise (·<·)→(∀i∈l,j≤i∧i<j+k)→(∀i,j≤i→i<j+k→(f i=true↔i∈l))→Ud f k j=l
 |0,j,l,_,h,_=>by
  cases l with
  |nil=>rfl
  |cons x l=>have:=h x QT;omega
 |k+1,j,l,hs,h,hf=>by
  simp only[Ud]
  by_cases hj:f j=true
  ·rw[if_pos hj]
   have hm:=(hf j oM oM).1 hj
   cases l with
   |nil=>cases hm
   |cons x l=>
    rw[List.pairwise_cons]at hs
    have hx:x=j:=by
     rcases List.mem_cons.1 hm with e|e
     ·exact e.symm
     ·have:=hs.1 j e
      have:=h x QT
      omega
    subst hx
    congr 1
    refine UM f k (x+1) l hs.2 (fun i hi=>?_) (fun i h1 h2=>?_)
    ·grind
    grind
  ·rw[if_neg hj]
   refine UM f k (j+1) l hs (fun i hi=>?_) (fun i h1 h2=>hf i oM oM)
   grind
def Hp.all(s:Hp):List Int:=s.objs.map fun o=>(o.addr:Int)
theorem Hp.Ok.LQ{s:Hp}(k:s.Ok):Ud s.starts (32*s.blk.length) 0=s.objs.map fun o=>o.addr/2:=by
 refine UM _ _ _ _ ?_ ?_ ?_
 ·rw[List.pairwise_map]
  refine List.Pairwise.imp_of_mem (fun{a b} ha hb h=>?_) k.apart
  have h1:=(k.ob a ha).even
  have h2:=(k.ob b hb).even
  have h3:=a.size_pos
  omega
 ·intro i hi
  rw[KI]at hi
  obtain⟨o,ho,rfl⟩:=hi
  have h1:=(k.ob o ho).fits
  have h2:=o.size_pos
  unfold Hp.nw at h1
  omega
 ·intro i _ _
  unfold Hp.starts
  rw[List.any_eq_true,KI]
  constructor
  ·grind
  ·rintro ⟨o,ho,h⟩
   have h1:=(k.ob o ho).even
   exact⟨o,ho,by simp;omega⟩
theorem Hp.Ok.few{s:Hp}(k:s.Ok):s.objs.length≤2048:=by
 have h:∀(k j:Nat)(f:Nat→Bool),(Ud f k j).length≤k:=by
  intro k
  induction k with
  |zero=>intro j f;simp[Ud]
  |succ k ih=>intro j f;simp only[Ud];grind
 have h1:=h (32*s.blk.length) 0 s.starts
 rw[k.LQ,QY]at h1
 have:=k.nb
 omega
theorem At.keeps{k:Nat}{o:Tags}{t:Tag}{H H':Gb}{v:CV}{n:Nat}{cs:List CV}(h:At o t H v k n cs)(a:Gr H H'):At o t H' v k n cs:=by
 rcases h with h|⟨b,tl,rfl,h1,h2,h3⟩
 ·exact .inl h
 ·exact .inr ⟨b,tl,rfl,h1,a.get h2,h3⟩
abbrev IL(k:Nat)(H:Gb)(v:CV)(l:List Int):Prop:=At (Loc k) z3 H v 1 l.length (ints l)
theorem IL.nil{k:Nat}{H:Gb}:IL k H .Gd []:=.inl ⟨rfl,rfl,.inl rfl⟩
theorem IL.cat{k:Nat}{H:Gb}{v:CV}{l l2:List Int}(h:IL k H v l)(hk:k≤H.length)(hm:l.length+l2.length≤16777216):
  ∃v' H',Ju H 1 v l2.length (ints l2)=some (v',H')∧IL k H' v' (l++l2)∧Keeps H H' (fun c=>k≤c):=by
 by_cases h2:l2=[]
 ·subst h2
  refine⟨v,H,?_,by simpa using h,Keeps.refl _ _⟩
  rcases h with⟨_,_,rfl|⟨b,f,rfl⟩⟩|⟨b,tl,rfl,h1,h2,h3⟩<;>rfl
 ·have hp:0<l2.length:=Ld.2 h2
  obtain⟨H',a1,a2,a3,a4⟩:=At.append (k:=l2.length) (new:=ints l2) h hp hm (YB _) (by simp[ZE])
  refine⟨_,H',a1,.inr ⟨H.length,true,sM,Gl.2 ⟨hk,rfl⟩,by rw[a3,U2],by simp[ZE]⟩,⟨oM,fun c hc hk'=>a4 c oM (fun h=>by have:=(Gl.1 h).1;exact hk' this)⟩⟩
theorem IL.push{k:Nat}{H:Gb}{v:CV}{l:List Int}(h:IL k H v l)(hk:k≤H.length)(hm:l.length+1≤16777216)(x:Int):
  ∃v' H',Ju (H++[⟨[.i x],.rw,1⟩]) 1 v 1 [.i x]=some (v',H')∧IL k H' v' (l++[x])∧Keeps H H' (fun c=>k≤c):=by
 obtain⟨v',H',a,b,c⟩:=IL.cat (l2:=[x]) (h.keeps (.app H [⟨[.i x],.rw,1⟩])) (by simp;omega) hm
 exact⟨v',H',a,b,(Keeps.app H _ _).trans c⟩
theorem Gr.news{H0 H H':Gb}(a:Gr H0 H)(b:Keeps H H' (fun c=>H0.length≤c)):Gr H0 H':=
 ⟨J2 a.len b.len,fun c hc _=>by rw[b.keep c (J6 hc a.len) oM,a.keep c hc fun h=>h]⟩
theorem IL.sl{k:Nat}{H:Gb}{v:CV}{l:List Int}(h:IL k H v l):Ur H v l:=by
 rcases h with⟨h1,h2,rfl|⟨b,f,rfl⟩⟩|⟨b,tl,rfl,h1,h2,h3⟩
 ·exact .inl ⟨by simp[KP,AV h1],.inl rfl⟩
 ·exact .inl ⟨by simp[KP,AV h1],.inr ⟨b,f,0,false,rfl⟩⟩
 ·refine .inr ⟨b,0,l.length,tl,_,by simp[KP],h2,.inl rfl,fun i r hi=>?_⟩
  simp only[KP,Kr,GD]at hi
  obtain⟨x,hx,rfl⟩:=hi
  have hc:(ints l)[i]?=some (.i x):=by rw[Ai,hx];rfl
  refine⟨?_,rfl⟩
  rw[Nat.zero_add,Nat.mul_one]
  have hl:=Gf hc
  rw[List.drop_eq_getElem_cons hl,List.take_succ_cons,List.take_zero]
  grind
theorem N9{cs:List CV}{e n:Nat}(h:cs.length=n):Ba (some ⟨cs,.rw,e⟩) 0 n=some cs:=by
 rw[Qg,if_pos oM];simp[←h]
end Go.Cs
namespace Go.Cs.Tryz
open Go Go.Cs
section
variable {H : Gb} {hb : Nat} {s : Hp} {L : G5}
theorem Ge4(p:PH H hb s L)(k:s.Ok){to:Int}(hto:to≤4096){E0:Env}(h0:E0 0=.ptr hb 0)(h2:E0 2=.i to)(h7:E0 7=.Gd){j0:Nat}(hj:j0≤32*s.blk.length)(h8:.Jj [E0 8,E0 9]=Nz (Pq s.starts (32*s.blk.length-j0) j0))
  {r:Option (CX×Env×Gb)}(hr:den P (.loop R_) E0 H=r):
  ∃E' H',r=some (.exit 0,E',H')∧Gr H H'∧IL H.length H' (E' 7) (((Ud s.starts (32*s.blk.length-j0) j0).map fun i=>((2*i:Nat):Int)).takeWhile fun a=>decide (a<to)):=by
 have hnb:=k.nb
 obtain⟨x',E',H',e,-,⟨rfl,g,hnew⟩,fr⟩:=Gq (p:=P) (c:=R_) (E0:=E0) (H0:=H)
  (fun m E H'=>Gr H H'∧∃(j:Nat)(l:List Int),j≤32*s.blk.length∧m=32*s.blk.length+1-j∧l.length≤j∧.Jj [E 8,E 9]=Nz (Pq s.starts (32*s.blk.length-j) j)∧IL H.length H' (E 7) l∧
   l++(((Ud s.starts (32*s.blk.length-j) j).map fun i=>((2*i:Nat):Int)).takeWhile fun a=>decide (a<to))=(((Ud s.starts (32*s.blk.length-j0) j0).map fun i=>((2*i:Nat):Int)).takeWhile fun a=>decide (a<to)))
  (fun x E' H'=>x=.exit 0∧Gr H H'∧IL H.length H' (E' 7) (((Ud s.starts (32*s.blk.length-j0) j0).map fun i=>((2*i:Nat):Int)).takeWhile fun a=>decide (a<to))) (by
   rintro m E H' hE ⟨g,j,l,hj,rfl,hlj,e8,hn,hd⟩
   have e0:=(hE 0 dK).trans h0
   have e2:=(hE 2 dK).trans h2
   have pt:=(p.gr g).top
   rw[M5 s.starts _ _ (32*s.blk.length) oM]at hd
   cases hu:Pq s.starts (32*s.blk.length-j) j with
   |none=>
    rw[hu]at hd e8
    simp only[Nz,CV.Jj.injEq,List.cons.injEq,and_true]at e8
    simp only[List.map_nil,List.takeWhile_nil,List.append_nil]at hd
    apply Gi (x:=.exit 0)
    ·have:=@e8.1;have:=@e8.2;have:=show((4:Int)==0)=false from rfl;refine Jb ?_
     rfl
    ·simp
    ·exact⟨rfl,g,by rw[←hd];simpa[Gc]using hn⟩
   |some i=>
    rw[hu]at hd e8
    simp only[Nz,CV.Jj.injEq,List.cons.injEq,and_true]at e8
    obtain⟨b1,b2,b3⟩:=Pz _ _ _ _ hu
    have w1:IntKind.i64.wrap (2*(i:Int))=((2*i:Nat):Int):=Gg oM
    have w2:IntKind.i64.wrap ((i:Int)+1)=((i+1:Nat):Int):=Gg oM
    simp only[List.map_cons]at hd
    by_cases c:((2*i:Nat):Int)<to
    ·rw[List.takeWhile_cons_of_pos (by simpa using c)]at hd
     have hlen:l.length+1≤16777216:=by omega
     obtain⟨v',H1,a1,a2,a3⟩:=IL.push hn g.len hlen ((2*i:Nat):Int)
     have g1:=g.news a3
     have c':decide (((2*i:Nat):Int)<to)=true:=Gz c
     have pt1:=(p.gr g1).top
     have hnx:=R9 (p.gr g1).Xk (i+1)
     have hel:elems (H'++[⟨[.i ((2*i:Nat):Int)],.rw,1⟩]) 1 (.slice H'.length 0 1 1 1 false)=some (1,[.i ((2*i:Nat):Int)]):=by
      rw[JN oM]
      have:=@N9;exact W0
     obtain⟨u1,u2,hu2⟩:∃u1 u2,Nz (Pq s.starts (32*s.blk.length-(i+1)) (i+1))=.Jj [u1,u2]:=by
      cases Pq s.starts (32*s.blk.length-(i+1)) (i+1)with
      |none=>exact⟨_,_,rfl⟩
      |some q=>exact⟨_,_,rfl⟩
     rw[hu2]at hnx
     apply Gm (k':=32*s.blk.length+1-(i+1))
     ·have:=@e8.1;have:=@e8.2;have:=show((0:Int)==0)=true from rfl;refine Jb ?_
      rfl
     ·omega
     ·refine⟨g1,i+1,l++[((2*i:Nat):Int)],oM,rfl,by simp;omega,?_,?_,?_⟩
      ·rw[hu2];simp[Gc]
      ·simpa[Gc]using a2
      ·rw[←hd,List.append_assoc];rfl
    ·rw[List.takeWhile_cons_of_neg (by simpa using c),List.append_nil]at hd
     have c':decide (((2*i:Nat):Int)<to)=false:=Gw c
     apply Gi (x:=.exit 0)
     ·have:=@e8.1;have:=@e8.2;have:=show((0:Int)==0)=true from rfl;refine Jb ?_
      rfl
     ·simp
     ·exact⟨rfl,g,by rw[←hd];simpa[Gc]using hn⟩) _ ⟨Keeps.refl H _,j0,[],hj,rfl,sM,h8,by rw[h7];exact IL.nil,sM⟩
 grind
theorem Dq(p:PH H hb s L)(k:s.Ok){f:Nat}(hf:f≤s.nw){to:Int}(hto:to≤4096):
  ∃v H',run P 143 [.ptr hb 0,.i f,.i to] H=some (v,H')∧Gr H H'∧IL H.length H' v (((Ud s.starts (32*s.blk.length-f/2) (f/2)).map fun i=>((2*i:Nat):Int)).takeWhile fun a=>decide (a<to)):=by
 have hnb:=k.nb
 unfold Hp.nw at hf
 have hnx:=R9 p.Xk (f/2)
 obtain⟨u1,u2,hu2⟩:∃u1 u2,Nz (Pq s.starts (32*s.blk.length-f/2) (f/2))=.Jj [u1,u2]:=by
  cases Pq s.starts (32*s.blk.length-f/2) (f/2)with
  |none=>exact⟨_,_,rfl⟩
  |some q=>exact⟨_,_,rfl⟩
 rw[hu2]at hnx
 have hd:(f:Int).tdiv 2=((f/2:Nat):Int):=KN f 2
 have hw:IntKind.i64.wrap ((f/2:Nat):Int)=((f/2:Nat):Int):=Gg oM
 have pt:=p.top
 rw[Gh c143 _ _ sM]
 refine WX ?_
 generalize hr:den P (.loop R_) _ _=r
 obtain⟨E',H',rfl,g,hn⟩:=Ge4 p k hto (j0:=f/2) uA uA uA oM (by rw[hu2];simp[Gc]) hr
 refine⟨E' 7,H',?_,g,hn⟩
 exact W0
theorem Bd{α:Type}{p:α→Bool}:∀{l:List α},(∀x∈l,p x=true)→l.takeWhile p=l
 |[],_=>rfl
 |x::l,h=>by rw[List.takeWhile_cons_of_pos (h x QT),Bd fun y hy=>h y (VA _ hy)]
theorem U3(p:PH H hb s L)(k:s.Ok):∃v H',run P 53 [.ptr hb 0] H=some (v,H')∧Gr H H'∧IL H.length H' v s.all:=by
 have hnb:=k.nb
 obtain⟨v,H',h1,g,h2⟩:=Dq p k (f:=0) oM (to:=(s.nw:Int)) (by unfold Hp.nw;omega)
 have h1':run P 143 [.ptr hb 0,.i 0,.i s.nw] H=some (v,H'):=h1
 have h3:=KE p k
 have pt:=p.top
 refine⟨v,H',?_,g,?_⟩
 ·rw[Gh c53 _ _ sM]
  exact W0
 ·rw[show 32*s.blk.length-0/2=32*s.blk.length from rfl,show 0/2=0 from rfl,k.LQ,List.map_map]at h2
  have e:(s.objs.map ((fun i=>((2*i:Nat):Int))∘fun o=>o.addr/2))=s.all:=by
   unfold Hp.all
   refine List.map_congr_left fun o ho=>?_
   have:=(k.ob o ho).even
   grind
  rw[e,Bd]at h2
  ·exact h2
  ·intro x hx
   simp only[Hp.all,KI]at hx
   obtain⟨o,ho,rfl⟩:=hx
   have:=(k.ob o ho).fits
   have:=o.size_pos
   simp;omega
end
end Go.Cs.Tryz
namespace Go.Cs.Tryz
open Go Go.Cs A
def C31:Gj:=⟨48,0,T [n 4 0,n 5 0] (S (T [m 8 0,q1 9 106 8,no 10 9] (I 10 (Q [n 4 0,n 5 5]))) (S (T [m 11 1,bk 12 .lss 11 0,m 13 12,gf 13 (m 14 1),gf 13 (m 15 0),gf 13 (z 16 15),gf 13 (f 17 1 16),gf 13 (l 18 1 17),gf 13 (le 19 18),gf 13 (b 20 .geq 14 19),or 21 13 20] (I 21 (Q [n 4 0,n 5 4]))) (T [m 23 0,z 24 23,f 25 2 24,l 26 1 25,m 27 1,bk 28 .quo 27 2,bk 29 .add 28 1,ca 30 113 [t 26,t 29,k 1],m 22 30,ex 31 22 0,ex 32 22 1,m 6 31,m 7 32] (S (T [m 33 7,bk 34 .neq 33 0,m 35 34,gf 35 (m 36 1),gf 35 (m 37 6),gf 35 (e 38 (.bin .mul (k 2) (t 37))),gf 35 (m 39 0),gf 35 (m 40 6),gf 35 (e 41 (.bin .mul (k 2) (t 40))),gf 35 (q2 42 114 39 41),gf 35 (b 43 .add 38 42),gf 35 (b 44 .geq 36 43),or 45 35 44] (I 45 (Q [n 4 0,n 5 4]))) (Q [m 46 6,e 47 (.bin .mul (k 2) (t 46)),m 4 47,n 5 0]))))),[r 4,r 5]⟩
theorem c31:P 31=some C31:=by kernel_rfl
abbrev Oa:Gn:=S (T [m 6 0,z 7 6,f 8 0 7,l 9 1 8,m 10 1,x 11 2 9 10,f 12 0 11,l 13 1 12,bk 14 .eql 13 2,m 15 14,gt 15 (m 16 1),gt 15 (m 17 5),gt 15 (b 18 .add 16 17),gt 15 (m 19 0),gt 15 (z 20 19),gt 15 (f 21 0 20),gt 15 (l 22 1 21),gt 15 (le 23 22),gt 15 (b 24 .lss 18 23),an 25 15 24,m 26 25,gt 26 (m 27 0),gt 26 (z 28 27),gt 26 (f 29 0 28),gt 26 (l 30 1 29),gt 26 (m 31 1),gt 26 (m 32 5),gt 26 (b 33 .add 31 32),gt 26 (x 34 2 30 33),gt 26 (f 35 0 34),gt 26 (l 36 1 35),gt 26 (bk 37 .eql 36 3),an 38 26 37] (J 38 (X 0))) (B 1 (R [m 39 5,bk 40 .add 39 1,m 5 40]))
def Gwr:Gj:=⟨42,0,T [n 4 0] (T [n 5 1] (S (B 0 (W Oa)) (Q [m 41 5,m 4 41]))),[r 4]⟩
theorem Gr3:P 231=some Gwr:=by kernel_rfl
end Go.Cs.Tryz
namespace Go.Cs
open Go
def Hp.findAt(s:Hp)(a:Int):Int×Int:=if 0≤a∧a<(s.nw:Int)then(match s.owner a.toNat with|some o=>((o.addr:Int),0)|none=>(0,4))else(0,4)
theorem Od{f:Nat→Bool}:∀{j i:Nat},U1 f j=some i→i<j∧f i=true∧∀m,i<m→m<j→f m=false
 |0,_,h=>by cases h
 |j+1,i,h=>by
  simp only[U1]at h
  by_cases hf:f j=true
  ·grind
  ·rw[if_neg hf]at h
   obtain⟨h1,h2,h3⟩:=Od h
   grind
theorem OB{f:Nat→Bool}:∀{j:Nat},U1 f j=none→∀m,m<j→f m=false
 |0,_,m,h=>by omega
 |j+1,h,m,hm=>by
  simp only[U1]at h
  by_cases hf:f j=true
  ·rw[if_pos hf]at h;cases h
  ·rw[if_neg hf]at h
   by_cases e:m=j
   ·subst e;simpa using hf
   ·exact OB h m oM
theorem Hp.Ga6{s:Hp}{o:Ob}(k:s.Ok)(ho:o∈s.objs):s.starts (o.addr/2)=true:=by
 unfold Hp.starts
 rw[List.any_eq_true]
 have:=(k.ob o ho).even
 exact⟨o,ho,by simp;omega⟩
theorem Hp.GhD{s:Hp}{i:Nat}(h:s.starts i=true):∃o∈s.objs,o.addr=2*i:=by
 unfold Hp.starts at h
 grind
theorem Hp.Ok.GbW{s:Hp}(k:s.Ok)(w:Nat):
  (∃o,U1 s.starts (w/2+1)=some (o.addr/2)∧o∈s.objs∧o.addr≤w∧s.owner w=if w<o.addr+o.size then some o else none)∨(U1 s.starts (w/2+1)=none∧s.owner w=none):=by
 have hnone:∀{P:Prop},(∀o∈s.objs,¬(o.addr≤w∧w<o.addr+o.size))→s.owner w=none:=fun{_} h=>by
  unfold Hp.owner
  grind
 cases hd:U1 s.starts (w/2+1)with
 |none=>
  refine .inr ⟨rfl,hnone (P:=True) fun o ho h=>?_⟩
  have:=OB hd (o.addr/2) oM
  rw[Hp.Ga6 k ho]at this
  cases this
 |some i=>
  obtain⟨h1,h2,h3⟩:=Od hd
  obtain⟨o,ho,e⟩:=Hp.GhD h2
  refine .inl ⟨o,by rw[e];congr 1;omega,ho,oM,?_⟩
  by_cases c:w<o.addr+o.size
  ·rw[if_pos c]
   exact YI ho (by simp;omega) fun b hb hh=>k.same hb ho (w:=w) (by simpa using hh) ⟨oM,c⟩
  ·rw[if_neg c]
   refine hnone (P:=True) fun b hb hh=>?_
   have hbe:=(k.ob b hb).even
   by_cases c2:b.addr/2≤i
   ·rcases Ki k.apart hb ho with e2|e2|e2
    ·rw[e2]at hh;exact c hh.2
    ·omega
    ·have:=o.size_pos;omega
   ·have:=h3 (b.addr/2) oM oM
    rw[Hp.Ga6 k hb]at this
    cases this
def tails(l:List (Nat×Nat)):Nat:=(l.takeWhile fun x=>x.1==3).length
def Hp.span(s:Hp)(b:Nat):Nat:=if(s.blk.getD b (0,0)).1=2 then 1+tails (s.blk.drop (b+1))else 1
theorem Mw{l:List (Nat×Nat)}{j:Nat}{x:Nat×Nat}(h:l[j]?=some x):tails (l.drop j)=if x.1=3 then 1+tails (l.drop (j+1))else 0:=by
 unfold tails
 rw[drop_cons h]
 by_cases c:x.1=3
 ·rw[if_pos c,List.takeWhile_cons_of_pos (by simpa using c),List.length_cons];omega
 simp_all
theorem P9{l:List (Nat×Nat)}{j:Nat}(h:l.length≤j):tails (l.drop j)=0:=by
 unfold tails
 rw[List.drop_eq_nil_of_le h];rfl
end Go.Cs
namespace Go.Cs.Tryz
open Go Go.Cs
section
variable {H : Gb} {hb : Nat} {s : Hp} {L : G5}
theorem PE(p:PH H hb s L)(k:s.Ok)(a:Int):∃H',run P 31 [.ptr hb 0,.i a] H=some (UF (s.findAt a),H')∧Gr H H':=by
 have h1:=KE p k
 have pt:=p.top
 have hnb:=k.nb
 unfold Hp.findAt UF
 by_cases c0:a<0
 ·refine⟨H,?_,Keeps.refl _ _⟩
  rw[if_neg oM,Gh c31 _ _ sM]
  exact W0
 ·by_cases c1:(s.nw:Int)≤a
  ·refine⟨H,?_,Keeps.refl _ _⟩
   rw[if_neg oM,Gh c31 _ _ sM]
   exact W0
  ·obtain⟨w,rfl⟩:∃w:Nat,a=w:=⟨a.toNat,oM⟩
   have hwn:w<64*s.blk.length:=by unfold Hp.nw at c1;omega
   rw[if_pos oM,Kt]
   have hd:(w:Int).tdiv 2=((w/2:Nat):Int):=KN w 2
   have hw:IntKind.i64.wrap ((w/2:Nat):Int)=((w/2:Nat):Int):=Gg oM
   have hw1:IntKind.i64.wrap (((w/2:Nat):Int)+1)=((w/2+1:Nat):Int):=Gg oM
   have hl:=GeL p.Xk (j:=w/2+1) oM
   rcases k.GbW w with⟨o,e1,ho,e2,e3⟩|⟨e1,e3⟩
   ·rw[e1]at hl
    unfold Nz at hl
    have hev:=(k.ob o ho).even
    have hf:=(k.ob o ho).fits
    have hsz:=Ob.size_le (k.ob o ho)
    unfold Hp.nw at hf
    have hm:IntKind.i64.wrap (2*((o.addr/2:Nat):Int))=(o.addr:Int):=by rw[Gg oM];omega
    obtain⟨H',q1,g⟩:=Fb p k ho
    have hs:IntKind.i64.wrap ((o.addr:Int)+(o.size:Int))=(o.addr:Int)+(o.size:Int):=Gg oM
    refine⟨H',?_,g⟩
    rw[e3,Gh c31 _ _ sM]
    by_cases c2:w<o.addr+o.size
    ·rw[if_pos c2]
     have c3:¬((o.addr:Int)+(o.size:Int)≤(w:Int)):=by omega
     exact Hz
    ·rw[if_neg c2]
     have c3:((o.addr:Int)+(o.size:Int)≤(w:Int)):=by omega
     exact Hz
   ·rw[e1]at hl
    unfold Nz at hl
    refine⟨H,?_,Keeps.refl _ _⟩
    rw[e3,Gh c31 _ _ sM]
    exact Hz
theorem ZL(p:PH H hb s L){b:Nat}{x:Nat×Nat}(h:s.blk[b]?=some x):ld H[L.bb]? (b*2)=some (.i x.1)∧ld H[L.bb]? (b*2+1)=some (.i x.2)∧((0:Int)≤(b:Int)∧(b:Int)<(s.blk.length:Int)):=by
 obtain⟨q1,q2⟩:=Kj s.blk b x h
 have:=Gf h
 rw[p.blk,Ym,Ym]
 exact⟨q1,q2,oM⟩
theorem Gly(p:PH H hb s L)(k:s.Ok){b:Nat}{x:Nat×Nat}(hx:s.blk[b]?=some x)
  {E0:Env} (h0:E0 0=.ptr hb 0) (h1:E0 1=.i b) (h5:E0 5=.i 1) {r:Option (CX×Env×Gb)} (hr:den P (.loop Oa) E0 H=r):
  ∃E',r=some (.exit 0,E',H)∧E' 5=.i (s.span b):=by
 have hnb:=k.nb
 have hlt:=Gf hx
 have hgd:s.blk.getD b (0,0)=x:=by grind
 obtain⟨x',E',H',e,-,⟨rfl,rfl,hf⟩,fr⟩:=Gq (p:=P) (c:=Oa) (E0:=E0) (H0:=H)
  (fun m E H'=>H'=H∧∃n:Nat,E 5=.i n∧1≤n∧n≤s.blk.length∧m=s.blk.length-n∧(if x.1=2 then n+tails (s.blk.drop (b+n))else 1)=s.span b∧(x.1≠2→n=1))
  (fun x' E' H'=>x'=.exit 0∧H'=H∧E' 5=.i (s.span b)) (by
   rintro m E H' hE ⟨rfl,n,e5,hn1,hn2,rfl,hd,hne⟩
   have e0:=(hE 0 dK).trans h0
   have e1:=(hE 1 dK).trans h1
   have pt:=p.top
   obtain⟨q1,q2,q3⟩:=ZL p hx
   by_cases c:x.1=2
   ·rw[if_pos c]at hd
    rw[c]at q1
    have w1:IntKind.i64.wrap ((b:Int)+(n:Int))=((b+n:Nat):Int):=Gg oM
    by_cases c2:b+n<s.blk.length
    ·have hy:s.blk[b+n]?=some s.blk[b+n]:=Jr c2
     obtain⟨r1,r2,r3⟩:=ZL p hy
     have c2':decide (((b+n:Nat):Int)<(s.blk.length:Int))=true:=Gz oM
     rw[Mw hy]at hd
     by_cases c3:s.blk[b+n].1=3
     ·rw[if_pos c3]at hd
      rw[c3]at r1
      have w2:IntKind.i64.wrap ((n:Int)+1)=((n+1:Nat):Int):=Gg oM
      apply Gm (k':=s.blk.length-(n+1))
      ·refine Jb ?_
       rfl
      ·omega
      ·exact⟨rfl,n+1,uA,oM,oM,rfl,by grind,fun h=>absurd c h⟩
     ·rw[if_neg c3]at hd
      have c4:(((s.blk[b+n].1:Nat):Int)==3)=false:=by simp;omega
      apply Gi (x:=.exit 0)
      ·refine Jb ?_
       rfl
      ·simp
      ·exact⟨rfl,rfl,by rw[←hd];simp[Gc,e5]⟩
    ·have c2':decide (((b+n:Nat):Int)<(s.blk.length:Int))=false:=Gw oM
     rw[P9 oM]at hd
     apply Gi (x:=.exit 0)
     ·refine Jb ?_
      rfl
     ·simp
     ·exact⟨rfl,rfl,by rw[←hd];simp[Gc,e5]⟩
   ·rw[if_neg c]at hd
    have hn:=hne c
    subst hn
    have c4:(((x.1:Nat):Int)==2)=false:=by simp;omega
    apply Gi (x:=.exit 0)
    ·simp(disch:=first|exact dz|fail) only[simprocAttr,Gs,↓reduceIte,Oa,e0,e1,pt,Yr q1,c4]
     rfl
    ·simp
    ·exact⟨rfl,rfl,by rw[←hd];simp[Gc,e5]⟩) _ ⟨rfl,1,h5,oM,oM,rfl,by unfold Hp.span;rw[hgd],fun _=>rfl⟩
 exact⟨E',hr.symm.trans e,hf⟩
theorem Rl(p:PH H hb s L)(k:s.Ok){b:Nat}(hb':b<s.blk.length):run P 231 [.ptr hb 0,.i b] H=some (.i (s.span b),H):=by
 rw[Gh Gr3 _ _ sM]
 refine Jb ?_
 generalize hr:den P (.loop Oa) _ _=r
 obtain⟨E',rfl,h⟩:=Gly p k (b:=b) (Jr hb') uA uA uA hr
 exact W0
end
end Go.Cs.Tryz
namespace Go.Cs.Tryz
open Go Go.Cs A
abbrev F6:Gn:=S (T [m 76 10,m 77 1,m 78 2,b 79 .add 77 78,b 80 .lss 76 79] (J 80 (X 0))) (S (B 1 (T [m 84 0,m 85 10,q2 86 31 84 85,m 83 86,ex 87 83 0,ex 88 83 1,m 11 87,m 12 88] (T [m 89 12,bk 90 .eql 89 0,m 91 90,gt 91 (m 92 11),gt 91 (m 93 3),gt 91 (b 94 .neq 92 93),an 95 91 94] (I 95 (Q [n 8 8]))))) (R [m 81 10,bk 82 .add 81 2,m 10 82]))
def Gsz:Gj:=⟨96,0,T [n 8 0] (S (T [m 13 1,bk 14 .lss 13 0,m 15 14,gf 15 (m 16 1),gf 15 (m 17 0),gf 15 (z 18 17),gf 15 (f 19 1 18),gf 15 (l 20 1 19),gf 15 (le 21 20),gf 15 (b 22 .geq 16 21),or 23 15 22,m 24 23,gf 24 (m 25 1),gf 24 (bk 26 .rem 25 2),gf 24 (bk 27 .neq 26 0),or 28 24 27] (I 28 (Q [n 8 1]))) (T [m 29 1,bk 30 .quo 29 64,m 9 30] (S (T [m 31 2,bk 32 .leq 31 32] (C 32 (T [m 33 0,z 34 33,f 35 0 34,l 36 1 35,m 37 9,x 38 2 36 37,f 39 0 38,l 40 1 39,bk 41 .neq 40 1,m 42 41,gf 42 (m 43 1),gf 42 (m 44 2),gf 42 (b 45 .add 43 44),gf 42 (bk 46 .sub 45 1),gf 42 (bk 47 .quo 46 64),gf 42 (m 48 9),gf 42 (b 49 .neq 47 48),or 50 42 49] (I 50 (Q [n 8 5]))) (T [m 51 0,z 52 51,f 53 0 52,l 54 1 53,m 55 9,x 56 2 54 55,f 57 0 56,l 58 1 57,bk 59 .neq 58 2,m 60 59,gf 60 (m 61 1),gf 60 (bk 62 .rem 61 64),gf 60 (bk 63 .neq 62 0),or 64 60 63,m 65 64,gf 65 (m 66 0),gf 65 (m 67 9),gf 65 (q2 68 231 66 67),gf 65 (m 69 2),gf 65 (bk 70 .add 69 64),gf 65 (bk 71 .sub 70 1),gf 65 (bk 72 .quo 71 64),gf 65 (b 73 .neq 68 72),or 74 65 73] (I 74 (Q [n 8 5]))))) (S (T [m 75 1,m 10 75] (B 0 (W F6))) (Q [n 8 0]))))),[r 8]⟩
theorem c164:P 164=some Gsz:=by kernel_rfl
end Go.Cs.Tryz
namespace Go.Cs
open Go
def Hp.taken(s:Hp)(a n:Nat)(but:Int):Bool:=s.objs.any fun o=>(o.addr:Int) != but&&(decide (o.addr<a+n)&&decide (a<o.addr+o.size))
def Hp.Gx(s:Hp)(b:Nat):Nat:=(s.blk.getD b (0,0)).1
def Hp.fits(s:Hp)(a:Int)(n:Nat)(but:Int):Int:=
 if a<0∨(s.nw:Int)≤a∨a.toNat % 2≠0 then 1
 else if n≤32 then(if s.Gx (a.toNat/64)≠1∨(a.toNat+n-1)/64≠a.toNat/64 then 5 else if s.taken a.toNat n but then 8 else 0)
 else(if s.Gx (a.toNat/64)≠2∨a.toNat % 64≠0∨s.span (a.toNat/64)≠(n+63)/64 then 5 else if s.taken a.toNat n but then 8 else 0)
theorem Hp.Ok.Ru{s:Hp}(k:s.Ok){a n:Nat}{but:Int}(ha:a % 2=0)(hn:n % 2=0)(hn0:0<n):s.taken a n but=true↔∃j o,2*j<n∧s.owner (a+2*j)=some o∧(o.addr:Int)≠but:=by
 unfold Hp.taken
 rw[List.any_eq_true]
 constructor
 ·rintro ⟨o,ho,h⟩
  simp only[NH,bne_iff_ne,ne_eq,decide_eq_true_eq]at h
  have h1:=(k.ob o ho).even
  have h2:=o.R8
  have h3:=o.size_pos
  by_cases c:a≤o.addr
  ·refine⟨(o.addr-a)/2,o,oM,?_,h.1⟩
   have e:a+2*((o.addr-a)/2)=o.addr:=by omega
   rw[e]
   exact YI ho (by simp;omega) fun b hb hh=>k.same hb ho (w:=o.addr) (by simpa using hh) ⟨oM,oM⟩
  ·refine⟨0,o,oM,?_,h.1⟩
   exact YI ho (by simp;omega) fun b hb hh=>k.same hb ho (w:=a) (by simpa using hh) ⟨oM,oM⟩
 ·rintro ⟨j,o,h1,h2,h3⟩
  have hm:=List.mem_of_find?_eq_some h2
  have hp:=Lp h2
  grind
end Go.Cs
namespace Go.Cs.Tryz
open Go Go.Cs
section
variable {H : Gb} {hb : Nat} {s : Hp} {L : G5}
theorem GfN(p:PH H hb s L)(k:s.Ok){a n:Nat}{but:Int}(ha:a % 2=0)(hn:n % 2=0)(hn0:0<n)(hn2:n≤300)(ha2:(a:Int)<s.nw)
  {E0:Env}(h0:E0 0=.ptr hb 0)(h1:E0 1=.i a)(h2:E0 2=.i n)(h3:E0 3=.i but)(h10:E0 10=.i a){r:Option (CX×Env×Gb)}(hr:den P (.loop F6) E0 H=r):
  ∃x E' H',r=some (x,E',H')∧Gr H H'∧((x=.ret∧E' 8=.i 8∧s.taken a n but=true)∨(x=.exit 0∧s.taken a n but=false)):=by
 have hnb:=k.nb
 have ha3:a<4096:=by unfold Hp.nw at ha2;omega
 obtain⟨x',E',H',e,-,⟨g,hf⟩,fr⟩:=Gq (p:=P) (c:=F6) (E0:=E0) (H0:=H)
  (fun m E H'=>Gr H H'∧∃j:Nat,E 10=.i ((a+2*j:Nat):Int)∧2*j≤n∧m=n-2*j∧∀i o,i<j→s.owner (a+2*i)=some o→(o.addr:Int)=but)
  (fun x E' H'=>Gr H H'∧((x=.ret∧E' 8=.i 8∧s.taken a n but=true)∨(x=.exit 0∧s.taken a n but=false))) (by
   rintro m E H' hE ⟨g,j,e10,hj,rfl,hd⟩
   have e0:=(hE 0 dK).trans h0
   have e1:=(hE 1 dK).trans h1
   have e2:=(hE 2 dK).trans h2
   have e3:=(hE 3 dK).trans h3
   have w1:IntKind.i64.wrap ((a:Int)+(n:Int))=((a+n:Nat):Int):=Gg oM
   by_cases c:2*j<n
   ·have c':decide (((a+2*j:Nat):Int)<((a+n:Nat):Int))=true:=Gz oM
    have w2:IntKind.i64.wrap (((a+2*j:Nat):Int)+2)=((a+2*(j+1):Nat):Int):=Gg oM
    obtain⟨H1,q1,g1⟩:=PE (p.gr g) k ((a+2*j:Nat):Int)
    have g2:Gr H H1:=g.trans g1
    unfold UF Hp.findAt at q1
    rw[Kt]at q1
    have go:∀u v:Int,run P 31 [.ptr hb 0,.i ((a+2*j:Nat):Int)] H'=some (.Jj [.i u,.i v],H1)→((v==0)=true→(u != but)=false)→(∀o,s.owner (a+2*j)=some o→(o.addr:Int)=but)→
      ∃x E' GlR,den P F6 E H'=some (x,E',GlR)∧((x=CX.normal∧∃k',k'<n-2*j∧Gr H GlR∧∃j:Nat,E' 10=.i ((a+2*j:Nat):Int)∧2*j≤n∧k'=n-2*j∧∀i o,i<j→s.owner (a+2*i)=some o→(o.addr:Int)=but)∨
       x≠CX.normal∧Gr H GlR∧((x=.ret∧E' 8=.i 8∧s.taken a n but=true)∨(x=.exit 0∧s.taken a n but=false))):=by
     intro u v q1 huv ho
     by_cases cv:(v==0)=true
     ·apply Gm (k':=n-2*(j+1))
      ·refine W11 e0 e1 e2 e3 e10 w1 c' q1 cv (huv cv) w2 ?_
       rfl
      ·omega
      ·refine⟨g2,j+1,uA,oM,rfl,fun i o hi ho'=>?_⟩
       grind
     ·have cv':(v==0)=false:=by simpa using cv
      apply Gm (k':=n-2*(j+1))
      ·refine W9 e0 e1 e2 e10 w1 c' q1 cv' w2 ?_
       rfl
      ·omega
      ·refine⟨g2,j+1,uA,oM,rfl,fun i o hi ho'=>?_⟩
       grind
    by_cases cw:(0:Int)≤((a+2*j:Nat):Int)∧((a+2*j:Nat):Int)<(s.nw:Int)
    ·rw[if_pos cw]at q1
     cases ho:s.owner (a+2*j)with
     |none=>
      simp_all
     |some o=>
      rw[ho]at q1
      dsimp only at q1
      by_cases cb:(o.addr:Int)=but
      ·simp_all
      ·have cb':((o.addr:Int) != but)=true:=by simpa using cb
       apply Gi (x:=.ret)
       ·have:=show((0:Int)==0)=true from rfl;refine Jb ?_
        rfl
       ·simp
       ·exact⟨g2,.inl ⟨rfl,uA,(k.Ru ha hn hn0).2 ⟨j,o,c,ho,cb⟩⟩⟩
    ·rw[if_neg cw]at q1
     refine go _ _ q1 (fun h=>by cases h) (fun o h=>?_)
     have hm:=List.mem_of_find?_eq_some h
     have hp:=Lp h
     simp only[decide_eq_true_eq]at hp
     have:=(k.ob o hm).fits
     omega
   ·have c':decide (((a+2*j:Nat):Int)<((a+n:Nat):Int))=false:=Gw oM
    apply Gi (x:=.exit 0)
    ·refine Jb ?_
     rfl
    ·simp
    ·refine⟨g,.inr ⟨rfl,?_⟩⟩
     rw[←Bool.not_eq_true,k.Ru ha hn hn0]
     grind) _ ⟨Keeps.refl _ _,0,by rw[h10];rfl,oM,rfl,fun i o h=>by omega⟩
 grind
theorem Rs(p:PH H hb s L)(k:s.Ok)(a:Int){n:Nat}(but:Int)(hn:n % 2=0)(hn0:0<n)(hn2:n≤300):∃H',run P 164 [.ptr hb 0,.i a,.i n,.i but] H=some (.i (s.fits a n but),H')∧Gr H H':=by
 have pt:=p.top
 have hnb:=k.nb
 unfold Hp.fits
 by_cases c0:a<0
 ·refine⟨H,?_,Keeps.refl _ _⟩
  rw[if_pos (.inl c0),Gh c164 _ _ sM]
  exact W0
 obtain⟨m,rfl⟩:∃m:Nat,a=m:=⟨a.toNat,oM⟩
 rw[Kt]
 by_cases c1:(s.nw:Int)≤(m:Int)
 ·refine⟨H,?_,Keeps.refl _ _⟩
  rw[if_pos (.inr (.inl c1)),Gh c164 _ _ sM]
  exact W0
 have hm2:(m:Int).tmod 2=((m % 2:Nat):Int):=VY m 2
 by_cases c2:m % 2=0
 rotate_left
 ·refine⟨H,?_,Keeps.refl _ _⟩
  have c2':(((m % 2:Nat):Int) != 0)=true:=by simp;omega
  rw[if_pos (.inr (.inr c2)),Gh c164 _ _ sM]
  exact Hz
 have c2':(((m % 2:Nat):Int) != 0)=false:=by rw[c2];rfl
 rw[if_neg oM]
 have hnw:s.nw=64*s.blk.length:=rfl
 have hmb:m/64<s.blk.length:=by omega
 have hx:s.blk[m/64]?=some s.blk[m/64]:=Jr hmb
 obtain⟨q1,q2,q3⟩:=ZL p hx
 have hst:s.Gx (m/64)=s.blk[m/64].1:=by unfold Hp.Gx;grind
 have hd:(m:Int).tdiv 64=((m/64:Nat):Int):=KN m 64
 have hw:IntKind.i64.wrap ((m/64:Nat):Int)=((m/64:Nat):Int):=Gg oM
 by_cases c3:n≤32
 ·rw[if_pos c3]
  have c3':decide ((n:Int)≤32)=true:=Gz oM
  have w1:IntKind.i64.wrap ((m:Int)+(n:Int))=((m+n:Nat):Int):=Gg oM
  have w2:IntKind.i64.wrap (((m+n:Nat):Int)-1)=((m+n-1:Nat):Int):=by rw[Gg oM];omega
  have hd2:((m+n-1:Nat):Int).tdiv 64=(((m+n-1)/64:Nat):Int):=KN _ 64
  have w3:IntKind.i64.wrap (((m+n-1)/64:Nat):Int)=(((m+n-1)/64:Nat):Int):=Gg oM
  by_cases c4:s.blk[m/64].1=1
  ·have c4':(((s.blk[m/64].1:Nat):Int) != 1)=false:=by rw[c4];rfl
   by_cases c5:(m+n-1)/64=m/64
   ·have c5':((((m+n-1)/64:Nat):Int) != ((m/64:Nat):Int))=false:=by rw[c5];simp
    rw[if_neg oM]
    rw[Gh c164 _ _ sM]
    simp(disch:=first|exact dz|fail) only[simprocAttr,Gs,↓reduceIte,NY,pt,c0,c1,UK,Jw,Ji,hm2,c2',hd,hw,c3',Yr q1,c4',w1,w2,hd2,w3,c5']
    generalize hr:den P (.loop F6) _ _=r
    obtain⟨x,E',H',rfl,g,h⟩:=GfN p k (a:=m) (n:=n) (but:=but) c2 hn hn0 hn2 oM uA uA uA uA uA hr
    refine⟨H',?_,g⟩
    rcases h with⟨rfl,h1,h2⟩|⟨rfl,h2⟩
    ·rw[h2]
     exact W0
    ·rw[h2]
     exact W0
   ·have c5':((((m+n-1)/64:Nat):Int) != ((m/64:Nat):Int))=true:=by simp;omega
    refine⟨H,?_,Keeps.refl _ _⟩
    rw[if_pos (.inr c5),Gh c164 _ _ sM]
    exact Hz
  ·have c4':(((s.blk[m/64].1:Nat):Int) != 1)=true:=by simp;omega
   refine⟨H,?_,Keeps.refl _ _⟩
   rw[if_pos (.inl (by rw[hst];exact c4)),Gh c164 _ _ sM]
   exact Hz
 ·rw[if_neg c3]
  have c3':decide ((n:Int)≤32)=false:=Gw oM
  have GdA:(m:Int).tmod 64=((m % 64:Nat):Int):=VY m 64
  have w1:IntKind.i64.wrap ((n:Int)+64)=((n+64:Nat):Int):=Gg oM
  have w2:IntKind.i64.wrap (((n+64:Nat):Int)-1)=((n+63:Nat):Int):=by rw[Gg oM];omega
  have hd2:((n+63:Nat):Int).tdiv 64=(((n+63)/64:Nat):Int):=KN _ 64
  have w3:IntKind.i64.wrap (((n+63)/64:Nat):Int)=(((n+63)/64:Nat):Int):=Gg oM
  have hsp:=Rl p k hmb
  by_cases c4:s.blk[m/64].1=2
  ·have c4':(((s.blk[m/64].1:Nat):Int) != 2)=false:=by rw[c4];rfl
   by_cases c5:m % 64=0
   ·have c5':(((m % 64:Nat):Int) != 0)=false:=by rw[c5];rfl
    by_cases c6:s.span (m/64)=(n+63)/64
    ·have c6':(((s.span (m/64):Nat):Int) != (((n+63)/64:Nat):Int))=false:=by rw[c6];simp
     rw[if_neg oM]
     rw[Gh c164 _ _ sM]
     simp(disch:=first|exact dz|fail) only[simprocAttr,Gs,↓reduceIte,NY,pt,c0,c1,UK,Jw,Ji,hm2,GdA,c2',hd,hw,c3',Yr q1,c4',w1,w2,hd2,w3,c5',hsp,c6']
     generalize hr:den P (.loop F6) _ _=r
     obtain⟨x,E',H',rfl,g,h⟩:=GfN p k (a:=m) (n:=n) (but:=but) c2 hn hn0 hn2 oM uA uA uA uA uA hr
     refine⟨H',?_,g⟩
     rcases h with⟨rfl,h1,h2⟩|⟨rfl,h2⟩
     ·rw[h2]
      exact W0
     ·rw[h2]
      exact W0
    ·have c6':(((s.span (m/64):Nat):Int) != (((n+63)/64:Nat):Int))=true:=by simp;omega
     refine⟨H,?_,Keeps.refl _ _⟩
     rw[if_pos (.inr (.inr c6)),Gh c164 _ _ sM]
     exact Hz
   ·have c5':(((m % 64:Nat):Int) != 0)=true:=by simp;omega
    refine⟨H,?_,Keeps.refl _ _⟩
    rw[if_pos (.inr (.inl c5)),Gh c164 _ _ sM]
    exact Hz
  ·have c4':(((s.blk[m/64].1:Nat):Int) != 2)=true:=by simp;omega
   refine⟨H,?_,Keeps.refl _ _⟩
   rw[if_pos (.inl (by rw[hst];exact c4)),Gh c164 _ _ sM]
   exact Hz
end
end Go.Cs.Tryz
namespace Go.Cs.Tryz
open Go Go.Cs A
def C45:Gj:=⟨8,0,T [n 4 0] (Q [m 5 0,m 6 1,ca 7 135 [t 5,t 6,k 1],m 4 7]),[r 4]⟩
theorem c45:P 45=some C45:=by kernel_rfl
def Grn:Gj:=⟨36,0,T [n 8 0] (T [m 12 0,m 13 1,m 14 2,ca 15 156 [t 12,t 13,t 14,c (.bool false)],m 11 15,ex 16 11 0,ex 17 11 1,m 9 16,m 10 17] (S (T [m 18 10,bk 19 .neq 18 0] (I 19 (Q [m 20 10,m 8 20]))) (S (T [m 21 3,bk 22 .neq 21 0,m 23 22,gt 23 (m 24 0),gt 23 (m 25 3),gt 23 (q2 26 153 24 25),gt 23 (no 27 26),an 28 23 27] (I 28 (Q [n 8 1]))) (T [m 29 0,z 30 29,f 31 1 30,l 32 1 31,m 33 9,m 34 3,x 35 1 32 33,st 1 35 34] (Q [n 8 0]))))),[r 8]⟩
theorem Gt0:P 128=some Grn:=by kernel_rfl
def Gs7:Gj:=⟨22,0,T [n 6 0] (S (T [m 8 0,m 9 1,q2 10 124 8 9,m 7 10] (T [m 11 7,bk 12 .neq 11 0] (I 12 (Q [m 13 7,m 6 13])))) (T [m 14 0,z 15 14,f 16 3 15,l 17 1 16,m 18 1,bk 19 .quo 18 2,m 20 2,q3 21 125 17 19 20] (Q [n 6 0]))),[r 6]⟩
theorem Gtm:P 135=some Gs7:=by kernel_rfl
end Go.Cs.Tryz
namespace Go.Cs
open Go
def Hp.upd(s:Hp)(a:Nat)(f:Ob→Ob):Hp:={s with objs:=s.objs.map fun x=>if x.addr=a then f x else x}
structure NK(f:Ob→Ob)(x:Ob):Prop where
 addr:(f x).addr=x.addr
 id:(f x).id=x.id
 kd:(f x).kd=x.kd
 nr:(f x).refs.length=x.refs.length
 nd:(f x).data.length=x.data.length
def QM(a:Nat)(f:Ob→Ob)(x:Ob):Ob:=if x.addr=a then f x else x
theorem NK.pick{f:Ob→Ob}{a:Nat}{x:Ob}(t:x.addr=a→NK f x):NK (QM a f) x:=by
 unfold QM
 by_cases c:x.addr=a
 ·have:=t c
  exact⟨by rw[if_pos c,this.addr],by rw[if_pos c,this.id],by rw[if_pos c,this.kd],by rw[if_pos c,this.nr],by rw[if_pos c,this.nd]⟩
 ·exact⟨by rw[if_neg c],by rw[if_neg c],by rw[if_neg c],by rw[if_neg c],by rw[if_neg c]⟩
theorem NK.size{f:Ob→Ob}{x:Ob}(t:NK f x):(f x).size=x.size:=by unfold Ob.size;rw[t.nr,t.nd]
theorem NK.num{f:Ob→Ob}{x:Ob}(t:NK f x):(f x).num=x.num:=by unfold Ob.num;rw[t.nr,t.nd,t.kd]
theorem Ah{α:Type}{p:α→Bool}{g:α→α}:∀{l:List α},(∀x∈l,p (g x)=p x)→(l.map g).find? p=(l.find? p).map g
 |[],_=>rfl
 |x::l,h=>by
  rw[List.map_cons,List.find?_cons,List.find?_cons,h x QT]
  cases p x with
  |true=>rfl
  |false=>exact Ah fun y hy=>h y (VA _ hy)
def Hp.mp(s:Hp)(g:Ob→Ob):Hp:={s with objs:=s.objs.map g}
theorem YM{α:Type}{p:α→Bool}{g:α→α}{l:List α}(h:∀x∈l,p (g x)=p x):(l.map g).any p=l.any p:=by
 grind
section
variable {s : Hp} {g : Ob → Ob} (t : ∀ x ∈ s.objs, NK g x)
include t
theorem Hp.Ghp(w:Nat):(s.mp g).owner w=(s.owner w).map g:=
 Ah fun x hx=>by
  have e:=t x hx
  show decide ((g x).addr≤w∧w<(g x).addr+(g x).size)=_
  rw[e.addr,e.size]
theorem Hp.Gcc(b:Int):(s.mp g).obj b=(s.obj b).map g:=
 Ah fun x hx=>by
  show((((g x).addr:Nat):Int)==b)=_
  rw[(t x hx).addr]
theorem Hp.RH:(s.mp g).starts=s.starts:=by
 funext i
 exact YM fun x hx=>by
  show((g x).addr==2*i)=_
  rw[(t x hx).addr]
theorem Hp.Gbr(b:Int):(s.mp g).has b=s.has b:=
 YM fun x hx=>by
  show((((g x).addr:Nat):Int)==b)=_
  rw[(t x hx).addr]
theorem Hp.GgW(k v:Int):(∃o∈(s.mp g).objs,k=o.id∧v=o.addr)↔∃o∈s.objs,k=o.id∧v=o.addr:=by
 simp only[Hp.mp,KI]
 constructor
 ·rintro ⟨_,⟨x,hx,rfl⟩,h1,h2⟩
  exact⟨x,hx,by rw[h1];exact congrArg _ (t x hx).id,by rw[h2];exact congrArg _ (t x hx).addr⟩
 ·rintro ⟨x,hx,h1,h2⟩
  exact⟨_,⟨x,hx,rfl⟩,by rw[h1];exact congrArg _ (t x hx).id.symm,by rw[h2];exact congrArg _ (t x hx).addr.symm⟩
theorem Hp.Ok.mp(k:s.Ok):(s.mp g).Ok where
 nb:=k.nb
 st:=k.st
 ob:=fun o ho=>by
  simp only[Hp.mp,KI]at ho
  obtain⟨x,hx,rfl⟩:=ho
  have e:=t x hx
  have q:=k.ob x hx
  exact⟨by rw[e.addr];exact q.even,by rw[e.nr];exact q.nr,by rw[e.nd];exact q.nd,by rw[e.kd,e.nr];exact q.kd,by rw[e.id];exact q.id,by rw[e.addr,e.size];exact q.fits⟩
 apart:=by
  show(s.objs.map g).Pairwise _
  rw[List.pairwise_map]
  refine List.Pairwise.imp_of_mem (fun{x y} hx hy h=>?_) k.apart
  rw[(t x hx).addr,(t x hx).size,(t y hy).addr];exact h
 ids:=by
  show(s.objs.map g).Pairwise _
  rw[List.pairwise_map]
  refine List.Pairwise.imp_of_mem (fun{x y} hx hy h=>?_) k.ids
  rw[(t x hx).id,(t y hy).id];exact h
 born:=k.born
end
section
variable {s : Hp} {a : Nat} {f : Ob → Ob} (t : ∀ x ∈ s.objs, x.addr = a → NK f x)
include t
theorem Hp.Ra(w:Nat):(s.upd a f).owner w=(s.owner w).map (QM a f):=Hp.Ghp (fun x hx=>NK.pick (t x hx)) w
theorem Hp.GcY(b:Int):(s.upd a f).obj b=(s.obj b).map (QM a f):=Hp.Gcc (fun x hx=>NK.pick (t x hx)) b
theorem Hp.Oy:(s.upd a f).starts=s.starts:=Hp.RH (g:=QM a f) fun x hx=>NK.pick (t x hx)
theorem Hp.Gcu(b:Int):(s.upd a f).has b=s.has b:=Hp.Gbr (g:=QM a f) (fun x hx=>NK.pick (t x hx)) b
theorem Hp.GcX(k v:Int):(∃o∈(s.upd a f).objs,k=o.id∧v=o.addr)↔∃o∈s.objs,k=o.id∧v=o.addr:=Hp.GgW (g:=QM a f) (fun x hx=>NK.pick (t x hx)) k v
theorem Hp.Ok.upd(k:s.Ok):(s.upd a f).Ok:=Hp.Ok.mp (g:=QM a f) (fun x hx=>NK.pick (t x hx)) k
end
theorem Hp.Ok.Gig{s:Hp}(k:s.Ok){o:Ob}(ho:o∈s.objs){f:Ob→Ob}(t:NK f o){j:Nat}(hj:j<o.size){v:Int}(hc:∀m,m<o.size→(f o).cell m=if m=j then v else o.cell m)(w:Nat):
  (s.upd o.addr f).word w=if w=o.addr+j then v else s.word w:=by
 have tt:∀x∈s.objs,x.addr=o.addr→NK f x:=fun x hx e=>by
  have h1:=x.size_pos
  have h2:=o.size_pos
  rw[k.same hx ho (w:=o.addr) oM oM];exact t
 unfold Hp.word
 rw[Hp.Ra tt]
 cases hw:s.owner w with
 |none=>
  rw[if_neg]
  ·rfl
  rintro rfl
  have:s.owner (o.addr+j)=some o:=YI ho (by simp;omega) fun b hb e=>k.same hb ho (w:=o.addr+j) (by simpa using e) oM
  rw[this]at hw;cases hw
 |some x=>
  have hx:=List.mem_of_find?_eq_some hw
  have hp:=Lp hw
  simp only[decide_eq_true_eq]at hp
  show(QM o.addr f x).cell (w-(QM o.addr f x).addr)=_
  have e:=NK.pick (f:=f) (tt x hx)
  rw[e.addr]
  unfold QM
  by_cases c:x.addr=o.addr
  ·have h1:=x.size_pos
   have h2:=o.size_pos
   have hxo:=k.same hx ho (w:=o.addr) oM oM
   grind
  ·rw[if_neg c,if_neg]
   rintro rfl
   exact c (by rw[k.same hx ho (w:=o.addr+j) hp oM])
theorem GjO{s s':Hp}{w:Nat}{v:Int}(hn:s'.nw=s.nw)(hw:∀x,s'.word x=if x=w then v else s.word x):(List.range s'.nw).map (fun x=>CV.i (s'.word x))=((List.range s.nw).map (fun x=>CV.i (s.word x))).set w (.i v):=by
 refine List.ext_getElem? fun i=>?_
 grind
theorem Ob.XZ{o:Ob}{i:Nat}(h:i<o.refs.length)(v:Int)(m:Nat):({o with refs:=o.refs.set i v}:Ob).cell m=if m=2+i then v else o.cell m:=by
 unfold Ob.cell Ob.cells Ob.num
 grind
theorem PH.wrote{H H':Gb}{hb:Nat}{s s':Hp}{L:G5}(p:PH H hb s L)(h1:s'.blk=s.blk)(h2:s'.born=s.born)(h3:s'.fwd=s.fwd)(h4:s'.starts=s.starts)(h5:s'.pins=s.pins)
  (h6:∀k v:Int,(∃o∈s'.objs,k=o.id∧v=o.addr)↔∃o∈s.objs,k=o.id∧v=o.addr)(hw:H'[L.wb]?=some ⟨(List.range s'.nw).map (fun w=>CV.i (s'.word w)),.rw,1⟩) (hk:∀c∈L.all hb,c≠L.wb→H'[c]?=H[c]?):PH H' hb s' L:=by
 have nd:=p.nod
 simp only[G5.all,List.nodup_cons,List.mem_cons,List.not_mem_nil,or_false,not_or]at nd
 obtain⟨⟨n1,n2,n3,n4,n5,n6,n7,n8⟩,⟨n9,-⟩,⟨m1,m2,m3,m4,m5,m6⟩,-⟩:=nd
 have hn:s'.nw=s.nw:=by unfold Hp.nw;rw[h1]
 refine⟨?_,?_,hw,?_,?_,?_,?_,p.nod⟩
 ·rw[hk _ (by simp[G5.all]) n2,p.top,h1,h2,hn]
 ·rw[hk _ (by simp[G5.all]) n9,p.blk,h1]
 ·rw[h1,h4];exact p.Xk.frame (hk _ (by simp[G5.all]) (Ne.symm m1)) (hk _ (by simp[G5.all]) (Ne.symm m2))
 ·rw[h1,h5];exact p.pin.frame (hk _ (by simp[G5.all]) (Ne.symm m3)) (hk _ (by simp[G5.all]) (Ne.symm m4))
 ·obtain⟨l,q1,q2,q3⟩:=p.N7
  exact⟨l,by rw[hk _ (by simp[G5.all]) (Ne.symm m5),q1],q2,fun k v=>(q3 k v).trans (h6 k v).symm⟩
 ·rw[h3];exact p.fwd.frame (hk _ (by simp[G5.all]) (Ne.symm m6))
end Go.Cs
namespace Go.Cs
open Go
def Hp.setRef(s:Hp)(a i to:Int):Hp×Int:=match s.obj a with
 |some o=>if 0≤i∧i<(o.refs.length:Int)then(if to=0∨s.has to=true then(s.upd o.addr fun o=>{o with refs:=o.refs.set i.toNat to},0)else(s,1))else(s,1)
 |none=>(s,4)
def Hp.J8(s:Hp)(a:Int)(x:Bool):Hp×Int:=match s.obj a with
 |some o=>(s.upd o.addr fun o=>{o with pin:=x},0)
 |none=>(s,4)
theorem Yk(i:Nat)(v:Int)(o:Ob):NK (fun o=>{o with refs:=o.refs.set i v}) o:=⟨rfl,rfl,rfl,sM,rfl⟩
theorem Xq(x:Bool)(o:Ob):NK (fun o=>{o with pin:=x}) o:=⟨rfl,rfl,rfl,rfl,rfl⟩
theorem Hp.Gil{s:Hp}{a:Nat}{f:Ob→Ob}(t:∀x∈s.objs,x.addr=a→NK f x)(h:∀x,(f x).pin=x.pin):(s.upd a f).pins=s.pins:=by
 funext i
 refine YM fun x hx=>?_
 have e:=NK.pick (f:=f) (t x hx)
 show((QM a f x).addr==2*i&&(QM a f x).pin)=_
 rw[e.addr]
 unfold QM
 split
 ·rw[h]
 ·rfl
theorem Hp.Ok.setRef{s:Hp}(k:s.Ok)(a i to:Int):(s.setRef a i to).1.Ok:=by
 unfold Hp.setRef
 cases s.obj a with
 |none=>exact k
 |some o=>
  dsimp only
  split
  ·split
   ·exact k.upd fun x _ _=>Yk _ _ x
   ·exact k
  ·exact k
theorem Hp.Ok.J8{s:Hp}(k:s.Ok)(a:Int)(x:Bool):(s.J8 a x).1.Ok:=by
 unfold Hp.J8
 cases s.obj a with
 |none=>exact k
 |some o=>exact k.upd fun y _ _=>Xq _ y
def GnY(w:Nat→Prop)(H:Gb)(hb:Nat)(L:G5)(s':Hp)(v:CV)(r:Option (CV×Gb)):Prop:=∃H',r=some (v,H')∧Keeps H H' w∧PH H' hb s' L
def Did(H:Gb)(hb:Nat)(L:G5)(s':Hp)(v:CV)(r:Option (CV×Gb)):Prop:=∃H',r=some (v,H')∧Keeps H H' (·∈L.all hb)∧PH H' hb s' L
end Go.Cs
namespace Go.Cs.Tryz
open Go Go.Cs
section
variable {H : Gb} {hb : Nat} {s : Hp} {L : G5}
theorem YJ(p:PH H hb s L)(k:s.Ok)(a i to:Int)(ha:a≤9223372036854775807)(hto:to≤9223372036854775807):GnY (·=L.wb) H hb L (s.setRef a i to).1 (.i (s.setRef a i to).2) (run P 128 [.ptr hb 0,.i a,.i i,.i to] H):=by
 obtain⟨H',h1,g⟩:=BL p k a i false ha
 have p':=p.gr g
 have hh:=ZQ p' k to hto
 have kg:Keeps H H' (·=L.wb):=g.weaken fun _ h=>h.elim
 unfold Hp.fieldAt UF at h1
 unfold Hp.setRef
 rw[Gh Gt0 _ _ sM]
 cases e:s.obj a with
 |none=>
  rw[e]at h1
  refine⟨H',?_,kg,p'⟩
  exact W0
 |some o=>
  rw[e]at h1
  dsimp only at h1⊢
  obtain⟨ho,rfl⟩:=Hp.Jf e
  have hif:(if false=true then o.data.length else o.refs.length)=o.refs.length:=rfl
  have Gh1:(if false=true then o.refs.length else 0)=0:=rfl
  rw[hif,Gh1]at h1
  by_cases c:0≤i∧i<(o.refs.length:Int)
  rotate_left
  ·rw[if_neg c]at h1⊢
   refine⟨H',?_,kg,p'⟩
   exact W0
  rw[if_pos c]at h1⊢
  obtain⟨n,rfl⟩:∃n:Nat,i=n:=⟨i.toNat,oM⟩
  have hsz:2+n<o.size:=by unfold Ob.size G6;omega
  obtain⟨q1,q2,q3⟩:=Ut p' k ho (j:=2+n) hsz
  have pt:=p'.top
  have pw:=p'.wrd
  have e2:(o.addr:Int)+2+((0:Nat):Int)+(n:Int)=((o.addr+(2+n):Nat):Int):=by omega
  rw[e2]at h1
  have hlen:o.addr+(2+n)<((List.range s.nw).map (fun w=>CV.i (s.word w))).length:=by simp;omega
  have fin:GnY (·=L.wb) H hb L (s.upd o.addr fun o=>{o with refs:=o.refs.set n to}) (.i 0) (some (.i 0,H'.set L.wb ⟨((List.range s.nw).map (fun w=>CV.i (s.word w))).set (o.addr+(2+n)) (.i to),.rw,1⟩)):=by
   have tt:∀x∈s.objs,x.addr=o.addr→NK (fun o=>{o with refs:=o.refs.set n to}) x:=fun x _ _=>Yk _ _ x
   refine⟨_,rfl,kg.set (.inl rfl) _,p'.wrote rfl rfl rfl (Hp.Oy tt) (Hp.Gil tt fun _=>rfl) (Hp.GcX tt) ?_ fun c _ hc=>by rw[KV (Ne.symm hc)]⟩
   have hn':n<o.refs.length:=by omega
   rw[GjO (s':=s.upd o.addr fun o=>{o with refs:=o.refs.set n to}) (s:=s) (w:=o.addr+(2+n)) (v:=to) rfl fun w=>k.Gig ho (Yk n to o) hsz (fun m _=>Ob.XZ hn' to m) w]
   grind
  rw[Kt]
  by_cases c0:to=0
  ·subst c0
   rw[if_pos (.inl rfl)]
   obtain⟨H2,r1,r2,r3⟩:=fin
   refine⟨H2,?_,r2,r3⟩
   rw[←r1]
   exact Hz
  ·have c0':(to != 0)=true:=by simpa using c0
   cases ch:s.has to with
   |true=>
    rw[ch]at hh
    rw[if_pos (.inr rfl)]
    obtain⟨H2,r1,r2,r3⟩:=fin
    refine⟨H2,?_,r2,r3⟩
    rw[←r1]
    exact Hz
   |false=>
    rw[ch]at hh
    rw[if_neg (by rintro (h|h);exact c0 h;cases h)]
    refine⟨H',?_,kg,p'⟩
    exact W0
theorem GaC(p:PH H hb s L)(k:s.Ok)(a i to:Int)(ha:a≤9223372036854775807)(hto:to≤9223372036854775807):Did H hb L (s.setRef a i to).1 (.i (s.setRef a i to).2) (run P 128 [.ptr hb 0,.i a,.i i,.i to] H):=by
 obtain⟨H',a1,a2,a3⟩:=YJ p k a i to ha hto
 exact⟨H',a1,a2.weaken fun c h=>by rw[h];simp[G5.all],a3⟩
theorem GfM(p:PH H hb s L)(k:s.Ok)(a:Int)(x:Bool)(ha:a≤9223372036854775807):Did H hb L (s.J8 a x).1 (.i (s.J8 a x).2) (run P 135 [.ptr hb 0,.i a,.i (Ei x)] H):=by
 have h1:=Qy p k a ha
 unfold Hp.J8
 rw[Gh Gtm _ _ sM]
 cases e:s.obj a with
 |none=>
  rw[Hp.J_.2 e]at h1
  refine⟨H,?_,Keeps.refl _ _,p⟩
  exact W0
 |some o=>
  rw[Hp.J4.2 ⟨o,e⟩]at h1
  dsimp only
  obtain⟨ho,rfl⟩:=Hp.Jf e
  have pt:=p.top
  have hf:=(k.ob o ho).fits
  have he:=(k.ob o ho).even
  have hz:=o.size_pos
  have hn:=k.nb
  unfold Hp.nw at hf
  have hd:(o.addr:Int).tdiv 2=((o.addr/2:Nat):Int):=KN o.addr 2
  have hw:IntKind.i64.wrap ((o.addr/2:Nat):Int)=((o.addr/2:Nat):Int):=Gg oM
  obtain⟨H',q1,q2,q3⟩:=Uz p.pin (i:=o.addr/2) oM x
  have nd:=p.nod
  simp only[G5.all,List.nodup_cons,List.mem_cons,List.not_mem_nil,or_false,not_or]at nd
  have tt:∀y∈s.objs,y.addr=o.addr→NK (fun o=>{o with pin:=x}) y:=fun y _ _=>Xq _ y
  have hk:∀c∈L.all hb,c≠L.pw→H'[c]?=H[c]?:=fun c hc hne=>q2.keep c (p.lt c hc) hne
  have hwd:(s.upd o.addr fun o=>{o with pin:=x}).word=s.word:=by
   funext w
   unfold Hp.word
   rw[Hp.Ra tt]
   cases s.owner w with
   |none=>rfl
   |some y=>
    show(QM o.addr _ y).cell (w-(QM o.addr _ y).addr)=_
    unfold QM
    split<;>rfl
  have Gn7:(s.upd o.addr fun o=>{o with pin:=x}).pins=fun i=>if i=o.addr/2 then x else s.pins i:=by
   funext i
   rw[Bool.eq_iff_iff]
   simp only[Hp.pins,Hp.upd,List.any_map,List.any_eq_true,Function.comp_apply,NH,beq_iff_eq]
   grind
  refine⟨H',?_,q2.weaken fun c hc=>by rw[hc];simp[G5.all],?_⟩
  ·exact Hz
  ·obtain⟨⟨n1,n2,n3,n4,n5,n6,n7,n8⟩,⟨a1,a2,a3,a4,a5,a6,a7⟩,⟨m1,m2,m3,m4,m5,m6⟩,⟨r1,r2,r3,r4,r5⟩,⟨t1,t2,t3,t4⟩,⟨u1,u2,u3⟩,⟨v1,v2⟩,-⟩:=nd
   refine⟨?_,?_,?_,?_,?_,?_,?_,p.nod⟩
   ·exact(hk _ (by simp[G5.all]) n6).trans p.top
   ·exact(hk _ (by simp[G5.all]) a5).trans p.blk
   ·rw[hwd];exact(hk _ (by simp[G5.all]) m4).trans p.wrd
   ·rw[Hp.Oy tt];exact p.Xk.frame (hk _ (by simp[G5.all]) r3) (hk _ (by simp[G5.all]) t2)
   ·rw[Gn7];exact q3
   ·obtain⟨l,w1,w2,w3⟩:=p.N7
    exact⟨l,(hk _ (by simp[G5.all]) (Ne.symm v1)).trans w1,w2,fun k v=>(w3 k v).trans (Hp.GcX tt k v).symm⟩
   ·exact p.fwd.frame (hk _ (by simp[G5.all]) (Ne.symm v2))
theorem Ggi(p:PH H hb s L)(k:s.Ok)(a:Int)(ha:a≤9223372036854775807):Did H hb L (s.J8 a true).1 (.i (s.J8 a true).2) (run P 45 [.ptr hb 0,.i a] H):=by
 obtain⟨H',h1,h2,h3⟩:=GfM p k a true ha
 have h1':run P 135 [.ptr hb 0,.i a,.i 1] H=some (.i (s.J8 a true).2,H'):=h1
 refine⟨H',?_,h2,h3⟩
 rw[Gh c45 _ _ sM]
 exact W0
end
end Go.Cs.Tryz
namespace Go.Cs
open Go
section
variable {F : GQ} {E : Env} {H : Gb}
theorem Gfd:G7 .Yf E H=some (some ⟨[],.map,0⟩,fun k=>.GJ k):=rfl
theorem BF:JY F .Yf E H=some (.GJ H.length,H++[⟨[],.map,0⟩]):=rfl
def UN(k:IntKind)(m x v:CV)(H:Gb):Option (CV×Gb):=(Qj H k m x v).map fun H'=>(.undef,H')
def I6(k:IntKind)(m x:CV)(H:Gb):Option (CV×Gb):=(U5 H k m x).map fun H'=>(.Jj [],H')
def NV(ok:Bool)(k:IntKind)(z m x:CV)(H:Gb):Option (CV×Gb):=(Qm H ok k z m x).map fun v=>(v,H)
theorem Vg{k:IntKind}{m x v:Jy}:JY F (.QS k m x v) E H=UN k (E.ev m) (E.ev x) (E.ev v) H:=rfl
theorem Gbg{k:IntKind}{m x:Jy}:JY F (.YO k m x) E H=I6 k (E.ev m) (E.ev x) H:=rfl
theorem Nk{ok:Bool}{k:IntKind}{z:CV}{m x:Jy}:JY F (.Vn ok k z m x) E H=NV ok k z (E.ev m) (E.ev x) H:=by
 simp only[JY,UZ,G7,NV]
 cases Qm H ok k z (E.ev m) (E.ev x)<;>rfl
end
theorem R3{α β:Type}(f:α→β):∀(l:List α)(j:Nat),(l.map f).eraseIdx j=(l.eraseIdx j).map f
 |[],j=>by simp
 |x::l,0=>rfl
 |x::l,j+1=>by simp only[List.map_cons,List.eraseIdx_cons_succ,R3 f l j]
theorem Na(l:List (Int×Int)):QN (JB l)=JB l∧VP (JB l)=false:=by
 match l with
 |[]=>exact⟨rfl,rfl⟩
 |[x]=>exact⟨rfl,rfl⟩
 |x::y::r=>exact⟨rfl,rfl⟩
theorem Ar{n:Int}:∀{l:List (Int×Int)}{i:Nat},(∀v,(n,v)∉l)→UA .i64 n (JB l) i=some none
 |[],i,_=>rfl
 |(k,w)::l,i,h=>by
  have hk:(n==k)=false:=by
   grind
  show(if IntKind.i64=IntKind.i64 then(if(n==k)=true then some (some (i,CV.i w))else UA .i64 n (JB l) (i+1))else none)=_
  rw[if_pos rfl,hk]
  exact Ar fun v hv=>h v (VA _ hv)
theorem V_{n:Int}:∀{l:List (Int×Int)}{i:Nat}{v:Int},(l.map (·.1)).Nodup→(n,v)∈l→∃j,l[j]?=some (n,v)∧UA .i64 n (JB l) i=some (some (i+j,.i v))
 |(k,w)::l,i,v,hn,h=>by
  rw[List.map_cons,List.nodup_cons]at hn
  show∃j,_∧(if IntKind.i64=IntKind.i64 then(if(n==k)=true then some (some (i,CV.i w))else UA .i64 n (JB l) (i+1))else none)=_
  rw[if_pos rfl]
  by_cases hk:n=k
  ·simp_all
  ·have hk':(n==k)=false:=by simpa using hk
   rw[hk']
   have h':(n,v)∈l:=by
    grind
   obtain⟨j,q1,q2⟩:=V_ (i:=i+1) hn.2 h'
   refine⟨j+1,q1,?_⟩
   grind
section
variable {H : Gb} {b : Nat} {r : Int → Int → Prop}
theorem Q8.entries(m:Q8 H b r):∃l,H[b]?=some ⟨JB l,.map,0⟩∧entriesOf H (.GJ b)=some (JB l)∧(l.map (·.1)).Nodup∧∀k v,(k,v)∈l↔r k v:=by
 obtain⟨l,h1,h2,h3⟩:=m
 refine⟨l,h1,?_,h2,h3⟩
 unfold entriesOf
 dsimp only
 rw[h1]
 dsimp only
 rw[if_pos ⟨rfl,rfl⟩,(Na l).1]
theorem Q8.add(m:Q8 H b r){n v:Int}(hn:∀w,¬r n w):∃H',(∀H0,H0=H→UN .i64 (.GJ b) (.i n) (.i v) H0=some (.undef,H'))∧Keeps H H' (·=b)∧Q8 H' b fun k w=>r k w∨(k=n∧w=v):=by
 obtain⟨l,h1,h0,h2,h3⟩:=m.entries
 have hf:=Ar (n:=n) (l:=l) (i:=0) fun w hw=>hn w ((h3 n w).1 hw)
 refine⟨H.set b ⟨JB (l++[(n,v)]),.map,0⟩,?_,Keeps.set (w:=fun c=>c=b) (Keeps.refl H _) (.inl rfl) _,l++[(n,v)],by grind,?_,fun k w=>?_⟩
 ·rintro _ rfl
  unfold UN Qj
  dsimp only
  rw[if_pos ⟨rfl,rfl⟩,h0,Option.bind_some,hf,Option.bind_some]
  dsimp only
  unfold Jq
  rw[h1]
  dsimp only
  rw[if_pos ⟨rfl,rfl,(Na l).2⟩]
  simp[JB]
 ·grind
 grind
theorem Q8.get(m:Q8 H b r)(ok:Bool)(z:CV){n v:Int}(hv:r n v):NV ok .i64 z (.GJ b) (.i n) H=some (if ok then .Jj [.i v,.bool true]else .i v,H):=by
 obtain⟨l,h1,h0,h2,h3⟩:=m.entries
 obtain⟨j,q1,q2⟩:=V_ (i:=0) h2 ((h3 n v).2 hv)
 unfold NV Qm
 grind
theorem Q8.del(m:Q8 H b r)(n:Int):∃H',(∀H0,H0=H→I6 .i64 (.GJ b) (.i n) H0=some (.Jj [],H'))∧Keeps H H' (·=b)∧Q8 H' b fun k w=>r k w∧k≠n:=by
 obtain⟨l,h1,h0,h2,h3⟩:=m.entries
 by_cases c:∃v,(n,v)∈l
 ·obtain⟨v,hv⟩:=c
  obtain⟨j,q1,q2⟩:=V_ (i:=0) h2 hv
  rw[Nat.zero_add]at q2
  refine⟨H.set b ⟨JB (l.eraseIdx j),.map,0⟩,?_,Keeps.set (w:=fun c=>c=b) (Keeps.refl H _) (.inl rfl) _,l.eraseIdx j,by grind,?_,fun k w=>?_⟩
  ·rintro _ rfl
   unfold I6 U5
   dsimp only
   rw[if_pos rfl,h0,Option.bind_some,q2,Option.bind_some]
   dsimp only
   unfold Jq
   rw[h1]
   dsimp only
   rw[if_pos ⟨rfl,rfl,(Na l).2⟩]
   simp[JB,R3]
  ·grind
  ·have hj:=Gf q1
   rw[List.mem_eraseIdx_iff_getElem?]
   constructor
   ·rintro ⟨i,hi,e⟩
    refine⟨(h3 k w).1 (JV e),?_⟩
    rintro rfl
    have e1:(l.map (·.1))[i]?=some k:=by rw[Kr,e];rfl
    have e2:(l.map (·.1))[j]?=some k:=by rw[Kr,q1];rfl
    exact hi ((List.getElem?_inj (by simpa using Gf e) h2).1 (e1.trans e2.symm))
   ·rintro ⟨h4,h5⟩
    obtain⟨i,hi⟩:=List.mem_iff_getElem?.1 ((h3 k w).2 h4)
    grind
 ·have hno:∀v,(n,v)∉l:=fun v hv=>c ⟨v,hv⟩
  have hf:=Ar (n:=n) (l:=l) (i:=0) hno
  refine⟨H.set b ⟨JB l,.map,0⟩,?_,Keeps.set (w:=fun c=>c=b) (Keeps.refl H _) (.inl rfl) _,l,by grind,h2,fun k w=>?_⟩
  ·rintro _ rfl
   unfold I6 U5
   dsimp only
   rw[if_pos rfl,h0,Option.bind_some,hf,Option.bind_some]
   dsimp only
   unfold Jq
   rw[h1]
   dsimp only
   rw[if_pos ⟨rfl,rfl,(Na l).2⟩]
   rfl
  grind
end
end Go.Cs
