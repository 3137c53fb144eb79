/- PinHeld returns true for every input: Mostly moves and frees no object that is held, moves none that is pinned, and leaves what is kept as it is, but for addresses (P18.1, P18.4) Conditions: none. -/
import Derived.Test.YthlemjiphedjgaaGreatPinHeld4
import Derived.Test.YthlemjiphedjgaaGreatProg
import Derived.KernelRfl
import Derived.Shelf.SlIterI.Nil
import Derived.Shelf.SortM.Plain
import Derived.Shelf.SortM.SortNone
import Derived.Ground.GgzProg
import Derived.Ground.SlgmProg
import Derived.Test.YthlemjiphedjgaaGreatRows
import Derived.WalkKit
import Derived.ProofKit
import Derived.OpenShut
import Derived.ShutString
import Derived.ChangeOld
import Derived.Below
import Derived.SizedLaws
import Derived.Carry
set_option linter.unusedVariables false
set_option linter.unusedSimpArgs false
set_option linter.defProp false
set_option maxRecDepth 100000
namespace Go.Cs
open Go
theorem GdK{l k:List Nat}(h1:l.Nodup)(h2:k.Nodup)(h:∀x,x∈l↔x∈k):l.length=k.length:=
 ((List.perm_ext_iff_of_nodup h1 h2).2 fun{x}=>h x).length_eq
open Classical in
theorem Gjb(K:Int→Bool)(o:Ob)(i:Nat):(TF K o).refs[i]?=(o.refs[i]?).map fun r=>if BD K o∧Jh o.kd i=false then 0 else r:=by
 unfold TF
 split
 ·rename_i c
  show(Zt o.kd o.refs.length o.refs)[i]?=_
  rw[Uq]
  cases e:o.refs[i]? with
  |none=>rfl
  |some r=>
   have hi:=Gf e
   simp[hi,c]
 ·rename_i c
  cases e:o.refs[i]? with
  |none=>rfl
  |some r=>simp[c]
theorem Gdn(K:Int→Bool)(o:Ob):(TF K o).pin=o.pin∧(TF K o).data=o.data:=by
 unfold TF
 split<;>exact⟨rfl,rfl⟩
theorem Hp.Lo.release{s:Hp}(h:s.Lo)(b:Int):(s.release b).1.Lo:=by
 unfold Hp.release
 split
 ·split
  ·refine⟨?_,h.2⟩
   have h1:=h.1
   unfold Hp.freed Hp.Gx at*
   dsimp only
   rw[Bo,Ey]
   split
   ·rfl
   ·rw[←Bo];exact h1
  ·exact h
 ·exact h
theorem Hp.Lo.Kg{s:Hp}(h:s.Lo):∀n,(Kg s n).Lo
 |0=>h
 |n+1=>(h.Kg n).release n
noncomputable def img(K:Int→Bool)(f:Int→Int)(o:Ob):Ob:=YE f ((TF K o).to (f o.addr).toNat)
structure Ef(s:Hp)(R:Rt)(ws ks UJ:List Int)(sp:Int)(t:Hp)(ms:List (Int×Int)):Prop where
 k:s.Ok
 f:s.Fz
 us:s.Wj
 hs:Iz s R
 hsp:0≤sp∧sp<8
 hk:∀x,x∈ks↔KpW s R ws x
 hf:∀x,x∈UJ↔x∈UH s ws
 e:(t,ms)=Ri s (fun x=>decide (x∈ks)) (fun x=>decide (x∈UJ)) sp
section
variable {s : Hp} {R : Rt} {ws ks UJ : List Int} {sp : Int} {t : Hp} {ms : List (Int × Int)}
namespace Ef
theorem lo(m:Ef s R ws ks UJ sp t ms):s.Lo:=m.hs.2.2
theorem inv(m:Ef s R ws ks UJ sp t ms):MInv (s.GL fun x=>decide (x∈ks)).forget (fun x=>decide (x∈UJ)) sp (s.GL fun x=>decide (x∈ks)).objs.length (t,ms):=by
 rw[m.e]
 exact Pw m.k m.f m.lo m.us m.hsp _ _
theorem swm(o:Ob):o∈(s.GL fun x=>decide (x∈ks)).forget.objs↔∃o1∈s.objs,(o1.addr:Int)∈ks∧o=TF (fun x=>decide (x∈ks)) o1:=by
 show o∈(s.GL fun x=>decide (x∈ks)).objs↔_
 rw[Hp.Fh]
 simp only[decide_eq_true_eq]
theorem mv(m:Ef s R ws ks UJ sp t ms){x:Int×Int}(hx:x∈ms):∃o∈s.objs,(o.addr:Int)=x.1∧x.1∈ks∧JK ms x.1=x.2∧x.1≠x.2∧64≤x.2∧x.2≤4096∧x.1∉UJ∧o.pin=false:=by
 obtain⟨h1,h2,h3,h4,b,h5,h6⟩:=m.inv.frm x hx
 have hm:=List.mem_of_mem_take h1
 unfold Hp.all at hm
 obtain⟨o0,q1,q2⟩:=KI.1 hm
 obtain⟨o1,w1,w2,rfl⟩:=(swm o0).1 q1
 have k5:(s.GL fun x=>decide (x∈ks)).forget.Ok:=(m.k.GL _).forget
 have ha:((TF (fun x=>decide (x∈ks)) o1).addr:Int)=o1.addr:=by rw[(QO _ o1).addr]
 rw[ha]at q2
 have h9:=(m.inv.Gaz k5 (m.lo.GL _)).2 x hx
 obtain⟨y,hy⟩:=Hp.J4.1 h9.2.2
 obtain⟨y1,y2⟩:=Hp.Jf hy
 have y3:=(m.inv.ok.ob y y1).fits
 have y4:=m.inv.ok.nb
 have y5:t.nw=64*t.blk.length:=rfl
 have y6:=y.size_pos
 dsimp only at y3 y4
 refine⟨o1,w1,q2,by rw[←q2];exact w2,GcJ m.inv.Ic hx,h4,oM,oM,by simpa using h2,?_⟩
 unfold Hp.pinnedAt at h3
 rw[←q2,←ha,k5.obj q1]at h3
 rw[←(Gdn (fun x=>decide (x∈ks)) o1).1];exact h3
theorem out(m:Ef s R ws ks UJ sp t ms){a:Int}(h:JK ms a≠a):∃x∈ms,x.1=a:=by
 refine Classical.byContradiction fun c=>h (AB fun x hx e=>c ⟨x,hx,e⟩)
theorem f0(m:Ef s R ws ks UJ sp t ms):JK ms 0=0:=AB fun x hx e=>by
 obtain⟨o,h1,h2,-⟩:=m.mv hx
 have:=m.lo.2 o h1
 omega
theorem pos(m:Ef s R ws ks UJ sp t ms){a:Int}(h:0<a)(h2:a≤9223372036854775807):0<JK ms a∧JK ms a≤9223372036854775807:=by
 by_cases c:JK ms a=a
 ·rw[c];exact⟨h,h2⟩
 ·obtain⟨x,hx,rfl⟩:=m.out c
  obtain⟨o,-,-,-,h3,-,h4,h5,-⟩:=m.mv hx
  omega
theorem rok(m:Ef s R ws ks UJ sp t ms)(kr:R.Ok):(R.ren (JK ms)).Ok:=kr.ren m.f0 fun _=>m.pos
theorem kin(m:Ef s R ws ks UJ sp t ms){a:Int}(h:a∈ks):∃o∈s.objs,(o.addr:Int)=a:=by
 obtain⟨o,ho⟩:=Hp.J4.1 ((m.hk a).1 h).has
 exact⟨o,Hp.Jf ho⟩
theorem low(m:Ef s R ws ks UJ sp t ms){o:Ob}(ho:o∈s.objs):64≤JK ms o.addr:=by
 by_cases c:JK ms o.addr=o.addr
 ·rw[c];have:=m.lo.2 o ho;omega
 ·obtain⟨x,hx,e⟩:=m.out c
  obtain⟨o,-,-,-,h3,-,h4,h5,-⟩:=m.mv hx
  rw[←e]
  omega
theorem mem(m:Ef s R ws ks UJ sp t ms)(n:Nat)(x:Ob):x∈(Kg (t.mp (YE (JK ms))) n).objs↔∃o∈s.objs,(o.addr:Int)∈ks∧x=img (fun x=>decide (x∈ks)) (JK ms) o:=by
 rw[Y8]
 show x∈t.objs.map _↔_
 rw[KI]
 constructor
 ·rintro ⟨y,hy,rfl⟩
  obtain⟨o0,h1,rfl⟩:=(m.inv.obs y).1 hy
  obtain⟨o1,w1,w2,rfl⟩:=(swm o0).1 h1
  refine⟨o1,w1,w2,?_⟩
  unfold img
  rw[(QO _ o1).addr]
 ·rintro ⟨o1,w1,w2,rfl⟩
  refine⟨_,(m.inv.obs _).2 ⟨_,(swm _).2 ⟨o1,w1,w2,rfl⟩,rfl⟩,?_⟩
  unfold img
  rw[(QO _ o1).addr]
theorem ok5(m:Ef s R ws ks UJ sp t ms)(n:Nat):(Kg (t.mp (YE (JK ms))) n).Ok:=(m.inv.ok.mp fun x _=>Wq _ x).Kg _
theorem Xi(m:Ef s R ws ks UJ sp t ms){o:Ob}(ho:o∈s.objs)(K:Int→Bool):((img K (JK ms) o).addr:Int)=JK ms o.addr:=by
 have:=m.low ho
 show(((JK ms o.addr).toNat:Nat):Int)=_
 omega
theorem Gbi(K:Int→Bool)(f:Int→Int)(o:Ob):(img K f o).id=o.id:=(QO K o).id
theorem obj(m:Ef s R ws ks UJ sp t ms)(n:Nat){o:Ob}(ho:o∈s.objs)(hk:(o.addr:Int)∈ks):(Kg (t.mp (YE (JK ms))) n).obj (JK ms o.addr)=some (img (fun x=>decide (x∈ks)) (JK ms) o):=by
 rw[←m.Xi ho fun x=>decide (x∈ks)]
 exact(m.ok5 n).obj ((m.mem n _).2 ⟨o,ho,hk,rfl⟩)
theorem ident(m:Ef s R ws ks UJ sp t ms)(n:Nat){a:Int}(h:a∈ks):((Kg (t.mp (YE (JK ms))) n).GZ (JK ms a)).1=(s.GZ a).1∧(Kg (t.mp (YE (JK ms))) n).has (JK ms a)=true:=by
 obtain⟨o,ho,rfl⟩:=m.kin h
 have h1:=m.obj n ho h
 refine⟨?_,Hp.J4.2 ⟨_,h1⟩⟩
 unfold Hp.GZ
 rw[h1,m.k.obj ho]
 show(((img _ _ o).id:Nat):Int)=_
 rw[Gbi]
theorem Wx(m:Ef s R ws ks UJ sp t ms){o:Ob}(ho:o∈s.objs)(hk:(o.addr:Int)∈ks){i:Nat}{a:Int}(hi:o.refs[i]?=some a) (hc:¬(BD (fun x=>decide (x∈ks)) o∧Jh o.kd i=false)) (ha:s.has a=true):a∈ks:=by
 have kp:=(m.hk _).1 hk
 have NJ:=m.k.obj ho
 rw[m.hk]
 cases hst:Jh o.kd i with
 |true=>exact Kp.ref kp NJ hi hst ha
 |false=>
  have hn:¬BD (fun x=>decide (x∈ks)) o:=fun h=>hc ⟨h,hst⟩
  have hkd:o.kd=1∨o.kd=2:=by
   unfold Jh at hst
   simp only[Bool.or_eq_false_iff,Bool.and_eq_false_iff,bne_eq_false_iff_eq]at hst
   omega
  have h0:o.refs.getD 0 0≠0∧o.refs.getD 0 0∈ks:=by
   unfold BD at hn
   have:=Classical.not_not.1 fun h=>hn ⟨hkd,h⟩
   simpa using this
  have hi2:i=0∨(i=1∧o.kd=2):=by
   unfold Jh at hst
   simp only[Bool.or_eq_false_iff,Bool.and_eq_false_iff,bne_eq_false_iff_eq,decide_eq_false_iff_not,Iq]at hst
   omega
  rcases hi2 with rfl|⟨rfl,h2⟩
  ·have:o.refs.getD 0 0=a:=by rw[Bo,hi];rfl
   rw[←this]
   exact(m.hk _).1 h0.2
  ·obtain⟨c,hcc⟩:∃c,o.refs[0]?=some c:=⟨_,Jr (by have:=Gf hi;omega)⟩
   have:o.refs.getD 0 0=c:=by rw[Bo,hcc];rfl
   rw[this]at h0
   exact Kp.pair rfl kp NJ h2 hcc ((m.hk _).1 h0.2) hi ha
open Classical in
theorem Sw(o:Ob)(K:Int→Bool)(f:Int→Int)(i:Nat):(img K f o).refs[i]?=(o.refs[i]?).map fun r=>f (if BD K o∧Jh o.kd i=false then 0 else r):=by
 show(((TF K o).refs).map f)[i]?=_
 rw[Kr,Gjb,Option.map_map];rfl
theorem GoK(m:Ef s R ws ks UJ sp t ms)(n:Nat):Iz (Kg (t.mp (YE (JK ms))) n) (R.ren (JK ms)):=by
 refine⟨fun x hx y hy=>?_,fun v hv=>?_,Hp.Lo.Kg (s:=t.mp (YE (JK ms))) ⟨m.inv.lo.1,fun x hx=>?_⟩ n⟩
 ·obtain⟨o,ho,hk,rfl⟩:=(m.mem n x).1 hx
  obtain⟨i,hi⟩:=List.mem_iff_getElem?.1 hy
  rw[Sw,GD]at hi
  obtain⟨r,hr,rfl⟩:=hi
  by_cases c:BD (fun x=>decide (x∈ks)) o∧Jh o.kd i=false
  ·rw[if_pos c];exact .inl m.f0
  ·rw[if_neg c]
   by_cases r0:r=0
   ·rw[r0];exact .inl m.f0
   ·exact .inr (m.ident n (m.Wx ho hk hr c ((m.hs.1 o ho r (JV hr)).resolve_left r0))).2
 ·have hv':∃v0∈R.vals,v=JK ms v0:=by
   have e:(R.ren (JK ms)).vals=R.vals.map (JK ms):=by
    unfold Rt.vals Rt.flat Rt.ren
    simp only[Ij,List.map_flatten]
   rw[e]at hv
   obtain⟨v0,h1,rfl⟩:=KI.1 hv
   exact⟨v0,h1,rfl⟩
  obtain⟨v0,h1,rfl⟩:=hv'
  by_cases v00:v0=0
  ·rw[v00];exact .inl m.f0
  ·exact .inr (m.ident n ((m.hk v0).2 (.start (.inl ⟨h1,v00⟩) ((m.hs.2.1 v0 h1).resolve_left v00)))).2
 ·obtain⟨y,hy,rfl⟩:=KI.1 hx
  exact m.inv.lo.2 y hy
theorem Gmf(m:Ef s R ws ks UJ sp t ms)(n:Nat):((Kg (t.mp (YE (JK ms))) n).GZ 0).1=0∧(s.GZ 0).1=0:=by
 have h1:=Hp.J_.1 (m.GoK n).2.2.has
 have h2:=Hp.J_.1 m.lo.has
 unfold Hp.GZ
 rw[h1,h2]
 exact⟨rfl,rfl⟩
theorem GoB(m:Ef s R ws ks UJ sp t ms)(n:Nat){Q T:Rt}(hQ:Q.vis=R.vis)(hT:∀i,i≤2→T.li i=(R.ren (JK ms)).li i):GcM s (Kg (t.mp (YE (JK ms))) n) Q T:=fun x hx=>by
 rw[hQ]at hx
 obtain⟨h1,h2,h3⟩:=Rt.DI hx
 obtain⟨h4,-⟩:=Rt.Dl.1 ⟨x,hx,rfl⟩
 refine .inr ⟨JK ms x.2.2,by rw[hT _ h1,Rt.Ggb,Kr,h2];rfl,?_⟩
 exact(m.ident n ((m.hk _).2 (.start (.inl ⟨h4,h3⟩) ((m.hs.2.1 _ h4).resolve_left h3)))).1
theorem GmZ(m:Ef s R ws ks UJ sp t ms)(n:Nat){l:List Int}(hl:∀a,a∈l→Kp s (fun a=>a∈R.vals∧a≠0) true a):TW s (Kg (t.mp (YE (JK ms))) n) l where
 obs:=fun a ha x hx=>by
  have sub:∀a,a∈l→a∈ks:=fun a h=>(m.hk a).2 ((hl a h).mono fun a h=>.inl h)
  obtain⟨xm,rfl⟩:=Hp.Jf hx
  have hk:=sub _ ha
  have ct:=QO (fun x=>decide (x∈ks)) x
  refine⟨img (fun x=>decide (x∈ks)) (JK ms) x,(m.mem n _).2 ⟨x,xm,hk,rfl⟩,ct.id,?_,(Gdn _ x).2,ct.kd,fun i a b hra hrb=>?_⟩
  ·show((TF _ x).refs.map _).length=_
   rw[QY];exact ct.nr
  ·rw[Sw,hra,Option.map_some,GA]at hrb
   obtain⟨z1,z2⟩:=m.Gmf n
   by_cases a0:a=0
   ·subst a0
    rw[ite_self,m.f0]at hrb
    subst hrb
    exact .inl (by rw[z1,z2])
   ·have has:=(m.hs.1 x xm a (JV hra)).resolve_left a0
    by_cases c:BD (fun x=>decide (x∈ks)) x∧Jh x.kd i=false
    ·rw[if_pos c,m.f0]at hrb
     subst hrb
     refine .inr ⟨z1,?_⟩
     obtain⟨⟨c1,c2⟩,c3⟩:=c
     have hi2:i=0∨(i=1∧x.kd=2):=by
      unfold Jh at c3
      simp only[Bool.or_eq_false_iff,Bool.and_eq_false_iff,bne_eq_false_iff_eq,decide_eq_false_iff_not,Iq]at c3
      omega
     rcases hi2 with rfl|⟨rfl,h2⟩
     ·refine .inl ⟨rfl,c1,fun h=>c2 ?_⟩
      have:x.refs.getD 0 0=a:=by rw[Bo,hra];rfl
      rw[this]
      exact⟨a0,Gz (sub _ h)⟩
     ·obtain⟨r,hr⟩:∃r,x.refs[0]?=some r:=⟨_,Jr (by have:=Gf hra;omega)⟩
      refine .inr ⟨rfl,h2,0,?_,z1⟩
      rw[Sw,hr,Option.map_some,if_pos ⟨⟨c1,c2⟩,by rw[h2];rfl⟩,m.f0]
    ·rw[if_neg c]at hrb
     subst hrb
     exact .inl (m.ident n (m.Wx xm hk hra c has)).1.symm
theorem Gvr(m:Ef s R ws ks UJ sp t ms)(n:Nat){o:Ob}(ho:o∈s.objs)(hk:(o.addr:Int)∈ks):(Kg (t.mp (YE (JK ms))) n).whr o.id=(JK ms o.addr,0):=by
 have h:=(m.ok5 n).whr ((m.mem n _).2 ⟨o,ho,hk,rfl⟩)
 rw[Gbi,m.Xi ho]at h
 exact h
theorem Grp(m:Ef s R ws ks UJ sp t ms)(n:Nat){o:Ob}(ho:o∈s.objs)(hk:(o.addr:Int)∉ks):(Kg (t.mp (YE (JK ms))) n).whr o.id=(0,4):=
 Hp.Wt fun x hx e=>by
  obtain⟨o1,h1,h2,rfl⟩:=(m.mem n x).1 hx
  rw[Gbi]at e
  rcases Ki m.k.ids h1 ho with q|q|q
  ·exact hk (q▸h2)
  ·exact q oM
  ·exact q oM
theorem GoD(m:Ef s R ws ks UJ sp t ms){kl:List Int}(hs:Uc kl)(hkl:∀x,x∈kl↔KpW s R ws x):(s.objs.filter fun o=>decide ((o.addr:Int)∈ks)).length=kl.length:=by
 have e:(s.objs.filter fun o=>decide ((o.addr:Int)∈ks)).map (fun o=>(o.addr:Int))=kl:=by
  refine I8 ?_ hs fun x=>?_
  ·unfold Uc
   rw[List.pairwise_map]
   exact(m.k.apart.filter _).imp fun{a b} h=>by have:=a.size_pos;omega
  ·rw[hkl,←m.hk,KI]
   constructor
   ·rintro ⟨o,ho,rfl⟩
    simpa using(List.mem_filter.1 ho).2
   ·intro h
    obtain⟨o,ho,rfl⟩:=m.kin h
    exact⟨o,List.mem_filter.2 ⟨ho,by simpa using h⟩,rfl⟩
 rw[←e,QY]
theorem GlC{s:Hp}{ks:List Int}:(s.objs.filter fun o=>decide ((o.addr:Int)∈ks)).length+(s.objs.filter fun o=>!decide ((o.addr:Int)∈ks)).length=s.objs.length:=by
 induction s.objs with
 |nil=>rfl
 |cons x l ih=>
  simp only[List.filter_cons]
  cases decide ((x.addr:Int)∈ks)<;>simp<;>omega
theorem Gvs(m:Ef s R ws ks UJ sp t ms):t.objs.length=(s.objs.filter fun o=>decide ((o.addr:Int)∈ks)).length:=by
 have k5:(s.GL fun x=>decide (x∈ks)).forget.Ok:=(m.k.GL _).forget
 have h:=GdK (l:=t.objs.map (·.id)) (k:=(s.GL fun x=>decide (x∈ks)).forget.objs.map (·.id)) (by unfold List.Nodup;rw[List.pairwise_map];exact m.inv.ok.ids) (by unfold List.Nodup;rw[List.pairwise_map];exact k5.ids) fun x=>by
  simp only[KI]
  constructor
  ·rintro ⟨y,hy,rfl⟩
   obtain⟨o,ho,rfl⟩:=(m.inv.obs y).1 hy
   exact⟨o,ho,rfl⟩
  ·rintro ⟨o,ho,rfl⟩
   exact⟨_,(m.inv.obs _).2 ⟨o,ho,rfl⟩,rfl⟩
 rw[QY,QY]at h
 rw[h]
 show(Hp.GL _ _).objs.length=_
 unfold Hp.GL
 rw[QY]
theorem GmR(m:Ef s R ws ks UJ sp t ms):(s.objs.filter fun o=>decide ((o.addr:Int)∈ks)&&(JK ms o.addr != (o.addr:Int))).length=ms.length:=by
 have e:(s.objs.filter fun o=>decide ((o.addr:Int)∈ks)&&(JK ms o.addr != (o.addr:Int))).map (fun o=>(o.addr:Int))=ms.map (·.1):=by
  refine I8 ?_ m.inv.Ic fun x=>?_
  ·unfold Uc
   rw[List.pairwise_map]
   exact(m.k.apart.filter _).imp fun{a b} h=>by have:=a.size_pos;omega
  ·rw[KI,KI]
   constructor
   ·rintro ⟨o,ho,rfl⟩
    have h:=(List.mem_filter.1 ho).2
    simp only[NH,bne_iff_ne,ne_eq]at h
    obtain⟨x,hx,e⟩:=m.out h.2
    exact⟨x,hx,e⟩
   ·rintro ⟨y,hy,rfl⟩
    obtain⟨o,h1,h2,h3,h4,h5,-⟩:=m.mv hy
    refine⟨o,List.mem_filter.2 ⟨h1,?_⟩,h2⟩
    rw[h2,h4]
    simp only[h3,decide_true,Bool.true_and,bne_iff_ne,ne_eq]
    exact fun e=>h5 e.symm
 have:=congrArg List.length e
 rw[QY,QY]at this
 exact this
end Ef
end
end Go.Cs
namespace Go.Cs.Tryz
open Go Go.Cs A
abbrev Ghy:Gn:=S (T [m 8 6,m 9 1,le 10 9,b 11 .lss 8 10,m 12 11,gt 12 (m 13 6),gt 12 (bk 14 .lss 13 60),an 15 12 14] (J 15 (X 0))) (S (B 1 (D [⟨m 19 0,1,0,0⟩,⟨m 20 1,2,0,0⟩,⟨m 21 6,3,0,0⟩,⟨x 22 2 20 21,4,0,0⟩,⟨e 23 (.NI 2 1 (t 22) (k 0)),5,0,0⟩,⟨l 24 1 23,6,1,0⟩,⟨e 25 (.conv .i64 (t 24)),7,0,0⟩,⟨bk 26 .rem 25 100,8,0,0⟩,⟨q2 27 38 19 26,9,3,0⟩,⟨m 18 5,0,0,0⟩,⟨m 28 1,10,0,0⟩,⟨m 29 6,11,0,0⟩,⟨x 30 2 28 29,12,0,0⟩,⟨e 31 (.NI 2 1 (t 30) (k 1)),13,0,0⟩,⟨l 32 1 31,14,1,0⟩,⟨e 33 (.conv .i64 (t 32)),15,0,0⟩,⟨bk 34 .rem 33 16,16,0,0⟩,⟨b 35 .add 27 34,17,0,1⟩,⟨bk 36 .sub 35 4,18,0,1⟩,⟨e 37 (.buildSlice 1 [i 0] 1 [(0,1,t 36)]),19,0,1⟩,⟨ap 38 1 18 37,20,3,1⟩,⟨m 5 38,21,0,2⟩])) (R [m 16 6,bk 17 .add 16 1,m 6 17]))
def C9:Gj:=⟨40,0,T [e 4 (.Km (c .Gd))] (T [e 7 (.buildSlice 1 [] 0 []),m 5 7] (S (T [n 6 0] (B 0 (W Ghy))) (Q [m 39 5,m 4 39]))),[r 4]⟩
theorem c9:P 9=some C9:=by kernel_rfl
end Go.Cs.Tryz
namespace Go.Cs.Tryz
open Go Go.Cs
section
variable {H : Gb} {sb : Nat} {s t : Hp} {R T : Rt} {D : UR}
theorem GlH(m:AO H sb s t R T D)(kt:t.Ok){v:CV}{rs:List (List CV)}(hs:Sl H v 2 rs)(hu:U8R 2 rs){w0:CV}(q0:IL H.length H w0 [])
  {E0:Env}(h0:E0 0=.ptr sb 0)(h1:E0 1=v)(h5:E0 5=w0)(h6:E0 6=.i 0){r:Option (CX×Env×Gb)}(hr:den P (.loop Ghy) E0 H=r):
  ∃E' H' w l,r=some (.exit 0,E',H')∧Gr H H'∧E' 5=w∧IL H.length H' w l∧l.length≤60:=by
 obtain⟨x',E',H',e,-,⟨rfl,g,w,l,q1,q2,q3⟩,fr⟩:=Gq (p:=P) (c:=Ghy) (E0:=E0) (H0:=H)
  (fun q E H'=>Gr H H'∧∃(j:Nat)(w:CV)(l:List Int),E 6=.i j∧j≤60∧q=60-j∧E 5=w∧IL H.length H' w l∧l.length≤j)
  (fun x E' H'=>x=.exit 0∧Gr H H'∧∃(w:CV)(l:List Int),E' 5=w∧IL H.length H' w l∧l.length≤60) (by
   rintro q E H' hE ⟨g,j,w,l,e6,hj,rfl,e5,il,hl⟩
   have e0:=(hE 0 dK).trans h0
   have e1:=(hE 1 dK).trans h1
   have hs':=QA hs g
   have hvl:=Sl.len hs' H'
   by_cases c:j<rs.length
   ·have c':decide ((j:Int)<(rs.length:Int))=true:=Gz oM
    by_cases c2:j<60
    ·have c2':decide ((j:Int)<60)=true:=Gz oM
     obtain⟨row,hrow⟩:∃row,rs[j]?=some row:=⟨_,Jr c⟩
     obtain⟨zs,hz,rfl,hzb⟩:=hu.at hrow
     match zs,hz with
     |[x0,x1],_=>
      have z0:=hzb x0 sM
      have z1:=hzb x1 sM
      obtain⟨vo,i1,i2,ldY⟩:=hs'.row oM hrow
      have OI:=i1 H'
      have l0:=(ldY H' rfl).2 0 x0 rfl
      have l1:=(ldY H' rfl).2 1 x1 rfl
      rw[Nat.add_zero]at l0
      have w0:IntKind.i64.wrap x0=x0:=Gg oM
      have w1:IntKind.i64.wrap x1=x1:=Gg oM
      have r0:x0.tmod 100=x0 % 100:=Int.tmod_eq_emod_of_nonneg oM
      have r1:x1.tmod 16=x1 % 16:=Int.tmod_eq_emod_of_nonneg oM
      obtain⟨a,d1,a1,a2,-⟩:=Yt (m.gr g) kt (n:=x0 % 100) oM
      have w2:IntKind.i64.wrap (a+x1 % 16)=a+x1 % 16:=Gg oM
      have w3:IntKind.i64.wrap (a+x1 % 16-4)=a+x1 % 16-4:=Gg oM
      have wj:IntKind.i64.wrap ((j:Int)+1)=((j+1:Nat):Int):=Gg oM
      obtain⟨v2,X2,p1,p2,p3⟩:=IL.push il g.len oM (a+x1 % 16-4)
      suffices fin:∃E',den P Ghy E H'=some (.normal,E',X2)∧E' 6=.i ((j+1:Nat):Int)∧E' 5=v2 by
       obtain⟨E',y1,y2,y3⟩:=fin
       exact Gm y1 (k':=60-(j+1)) oM ⟨Gr.news g p3,j+1,v2,l++[a+x1 % 16-4],y2,oM,rfl,y3,p2,by simp;omega⟩
      simp(disch:=first|exact dz|fail) only[simprocAttr,Gs,↓reduceIte,Ub,e0,e1,e5,e6,hvl,c',c2',OI,i2,@Ni,@AL,@Nb,@YU,@Ke,@VK,@KL,@VU,@Jw,@Ns,l0,l1,w0,w1,r0,r1,d1,w2,w3,p1,wj]
      exact⟨_,rfl,uA,uA⟩
    ·have c2':decide ((j:Int)<60)=false:=Gw oM
     apply Gi (x:=.exit 0)
     ·simp(disch:=first|exact dz|fail) only[simprocAttr,Gs,↓reduceIte,Ub,e0,e1,e5,e6,hvl,c',c2']
      rfl
     ·simp
     ·exact⟨rfl,g,w,l,by simp[Gc,e5],il,oM⟩
   ·have c':decide ((j:Int)<(rs.length:Int))=false:=Gw oM
    apply Gi (x:=.exit 0)
    ·simp(disch:=first|exact dz|fail) only[simprocAttr,Gs,↓reduceIte,Ub,e0,e1,e5,e6,hvl,c']
     rfl
    ·simp
    ·exact⟨rfl,g,w,l,by simp[Gc,e5],il,oM⟩) _ ⟨Keeps.refl _ _,0,w0,[],h6,oM,rfl,h5,q0,sM⟩
 exact⟨E',H',w,l,hr.symm.trans e,g,q1,q2,q3⟩
theorem Gbv(m:AO H sb s t R T D)(kt:t.Ok){v:CV}{rs:List (List CV)}(hs:Sl H v 2 rs)(hu:U8R 2 rs):
  ∃w H' l,run P 9 [.ptr sb 0,v] H=some (w,H')∧Gr H H'∧IL H.length H' w l∧l.length≤60:=by
 obtain⟨X,hX⟩:∃X:Gb,X=H++[⟨[],.rw,1⟩]:=⟨_,rfl⟩
 have gX:Gr H X:=by rw[hX];exact Gr.app _ _
 have h0:IL X.length X (.slice H.length 0 0 0 1 false) []:=.inl ⟨rfl,rfl,.inr ⟨_,_,rfl⟩⟩
 rw[Gh c9 _ _ sM]
 simp(disch:=first|exact dz|fail) only[simprocAttr,Gs,↓reduceIte,Ub,←hX]
 generalize hr:den P (.loop Ghy) _ _=r
 obtain⟨E',H',w,l,rfl,g,q1,q2,q3⟩:=GlH (m.gr gX) kt (QA hs gX) hu h0 uA uA uA uA hr
 refine⟨w,H',l,?_,gX.trans g,?_,q3⟩
 ·simp(disch:=first|exact dz|fail) only[simprocAttr,Gs,↓reduceIte,Ub,q1]
  try rfl
 ·exact q2.frame (fun c h=>Gl.2 ⟨by have:=(Gl.1 h).1;have:=gX.len;omega,(Gl.1 h).2⟩) fun c h=>rfl
end
end Go.Cs.Tryz
namespace Go.Cs.Tryz
open Go Go.Cs A
abbrev GeX:Gn:=S (T [m 154 22,m 155 13,z 156 155,f 157 1 156,l 158 1 157,le 159 158,b 160 .lss 154 159] (J 160 (X 0))) (S (B 1 (T [m 163 13,z 164 163,f 165 1 164,l 166 1 165,m 167 22,x 168 8 166 167,lg 169 8 168,e 23 (.new [i 0,i 0,i 0,i 0,i 0,.Gd,.Gd,.bool false]),st 8 23 169] (T [m 171 17,f 172 1 23,l 173 1 172,q2 174 23 171 173,m 170 174,ex 175 170 0,ex 176 170 1,m 24 175,m 25 176] (S (T [m 177 11,f 178 0 23,l 179 1 178,q2 180 15 177 179,m 181 25,bk 182 .eql 181 0,e 183 (.eqv true 0 (t 180) (t 182))] (I 183 (Q [nb 6 false]))) (T [m 184 25,bk 185 .eql 184 0,m 186 185,gt 186 (m 187 24),gt 186 (f 188 0 23),gt 186 (l 189 1 188),gt 186 (b 190 .neq 187 189),an 191 186 190] (I 191 (T [m 192 21,bk 193 .add 192 1,m 21 193] (T [m 194 9,f 195 0 23,l 196 1 195,q2 197 15 194 196,m 198 197,gf 198 (f 199 7 23),gf 198 (l 200 1 199),or 201 198 200] (I 201 (Q [nb 6 false])))))))))) (R [m 161 22,bk 162 .add 161 1,m 22 162]))
def C4:Gj:=⟨209,0,T [bo 3 0,nb 6 false] (T [lg 26 7 3,q1 27 8 26,m 7 27] (S (T [m 28 7,e 29 (.eqv false 1 (t 28) (c .nilPtr))] (I 29 (Q [nb 6 false]))) (T [m 30 7,m 31 1,q2 32 9 30 31,m 8 32] (T [m 34 7,z 35 34,f 36 0 35,l 37 1 36,m 38 8,q2 39 10 37 38,m 33 39,ex 40 33 0,ex 41 33 1,m 9 40,m 10 41] (S (D [⟨m 43 7,0,0,0⟩,⟨z 44 43,1,0,0⟩,⟨f 45 0 44,2,0,0⟩,⟨l 46 1 45,3,1,0⟩,⟨m 47 7,4,0,0⟩,⟨z 48 47,5,0,0⟩,⟨f 49 1 48,6,0,0⟩,⟨l 50 1 49,7,1,0⟩,⟨m 51 8,8,0,0⟩,⟨q3 52 19 46 50 51,9,3,0⟩,⟨m 42 52,10,0,1⟩,⟨ex 53 42 0,11,0,1⟩,⟨ex 54 42 1,12,0,1⟩,⟨m 11 53,13,0,1⟩,⟨m 12 54,14,0,1⟩]) (S (D [⟨m 55 7,0,0,0⟩,⟨z 56 55,1,0,0⟩,⟨f 57 0 56,2,0,0⟩,⟨l 58 1 57,3,1,0⟩,⟨q1 59 12 58,4,3,0⟩,⟨m 60 7,5,0,0⟩,⟨z 61 60,6,0,0⟩,⟨f 62 1 61,7,0,0⟩,⟨l 63 1 62,8,1,0⟩,⟨q1 64 20 63,9,3,1⟩,⟨m 13 59,10,0,2⟩,⟨m 14 64,11,0,2⟩]) (S (D [⟨m 66 7,0,0,0⟩,⟨z 67 66,1,0,0⟩,⟨f 68 0 67,2,0,0⟩,⟨l 69 1 68,3,1,0⟩,⟨m 70 7,4,0,0⟩,⟨z 71 70,5,0,0⟩,⟨f 72 1 71,6,0,0⟩,⟨l 73 1 72,7,1,0⟩,⟨m 74 8,8,0,0⟩,⟨m 75 2,9,0,0⟩,⟨e 76 (.conv .i64 (t 75)),10,0,0⟩,⟨bk 77 .rem 76 8,11,0,0⟩,⟨q4 78 11 69 73 74 77,12,3,0⟩,⟨m 65 78,13,0,1⟩,⟨ex 79 65 0,14,0,1⟩,⟨e 15 (.new [i 0,i 0,i 0,i 0,i 0,i 0,i 0,i 0]),16,0,0⟩,⟨st 8 15 79,17,3,1⟩,⟨ex 80 65 1,15,0,1⟩,⟨m 16 80,18,0,2⟩]) (S (D [⟨m 81 7,0,0,0⟩,⟨z 82 81,1,0,0⟩,⟨f 83 0 82,2,0,0⟩,⟨l 84 1 83,3,1,0⟩,⟨q1 85 12 84,4,3,0⟩,⟨m 86 7,5,0,0⟩,⟨z 87 86,6,0,0⟩,⟨f 88 1 87,7,0,0⟩,⟨l 89 1 88,8,1,0⟩,⟨q1 90 20 89,9,3,1⟩,⟨m 17 85,10,0,2⟩,⟨m 18 90,11,0,2⟩]) (T [m 92 13,m 93 14,m 94 17,m 95 18,q4 96 21 92 93 94 95,m 91 96,ex 97 91 0,ex 98 91 1,m 19 97,m 20 98] (S (S (D [⟨m 99 10,0,0,0⟩,⟨bk 100 .neq 99 0,1,0,0⟩,⟨m 101 100,2,0,0⟩,⟨gf 101 (m 102 16),3,0,0⟩,⟨gf 101 (bk 103 .neq 102 0),4,0,0⟩,⟨or 104 101 103,5,0,0⟩,⟨m 105 104,6,0,0⟩,⟨gf 105 (m 106 12),7,0,0⟩,⟨gf 105 (bk 107 .neq 106 0),8,0,0⟩,⟨or 108 105 107,9,0,0⟩,⟨m 109 108,10,0,0⟩,⟨gf 109 (m 110 20),11,0,0⟩,⟨gf 109 (bk 111 .neq 110 0),12,0,0⟩,⟨or 112 109 111,13,0,0⟩,⟨m 113 112,14,0,0⟩,⟨gf 113 (m 114 19),15,0,0⟩,⟨gf 113 (le 115 114),16,0,0⟩,⟨gf 113 (bk 116 .neq 115 0),17,0,0⟩,⟨or 117 113 116,18,0,0⟩,⟨m 118 117,19,0,0⟩,⟨gf 118 (m 119 17),20,0,0⟩,⟨gf 118 (m 120 18),21,0,0⟩,⟨gf 118 (q2 121 22 119 120),22,3,0⟩,⟨gf 118 (no 122 121),23,0,1⟩,⟨or 123 118 122,24,0,1⟩,⟨m 124 123,25,0,1⟩,⟨gf 124 (f 125 0 15),26,0,1⟩,⟨gf 124 (l 126 1 125),27,1,1⟩,⟨gf 124 (m 127 11),28,0,1⟩,⟨gf 124 (le 128 127),29,0,1⟩,⟨gf 124 (b 129 .neq 126 128),30,0,1⟩,⟨or 130 124 129,31,0,1⟩,⟨m 131 130,32,0,1⟩,⟨gf 131 (m 132 17),33,0,1⟩,⟨gf 131 (z 133 132),34,0,1⟩,⟨gf 131 (f 134 1 133),35,0,1⟩,⟨gf 131 (l 135 1 134),36,1,1⟩,⟨gf 131 (le 136 135),37,0,1⟩,⟨gf 131 (m 137 11),38,0,1⟩,⟨gf 131 (le 138 137),39,0,1⟩,⟨gf 131 (b 139 .neq 136 138),40,0,1⟩,⟨or 140 131 139,41,0,1⟩,⟨m 141 140,42,0,1⟩,⟨gf 141 (f 142 2 15),43,0,1⟩,⟨gf 141 (l 143 1 142),44,1,1⟩,⟨gf 141 (m 144 13),45,0,1⟩,⟨gf 141 (z 145 144),46,0,1⟩,⟨gf 141 (f 146 1 145),47,0,1⟩,⟨gf 141 (l 147 1 146),48,1,1⟩,⟨gf 141 (le 148 147),49,0,1⟩,⟨gf 141 (m 149 11),50,0,1⟩,⟨gf 141 (le 150 149),51,0,1⟩,⟨gf 141 (b 151 .sub 148 150),52,0,1⟩,⟨gf 141 (b 152 .neq 143 151),53,0,1⟩,⟨or 153 141 152,54,0,1⟩]) (I 153 (Q [nb 6 false]))) (T [n 21 0] (S (T [n 22 0] (B 0 (W GeX))) (Q [m 202 21,f 203 4 15,l 204 1 203,b 205 .eql 202 204,m 206 205,gt 206 (ca 207 18 []),an 208 206 207,m 6 208]))))))))))))),[r 6]⟩
theorem c4:P 4=some C4:=by kernel_rfl
end Go.Cs.Tryz
namespace Go.Cs
open Go
theorem Ggg{n:Nat}{l:List Nat}(h:l.Nodup)(hl:∀x∈l,x<n):l.length≤n:=by
 have e:=((List.perm_ext_iff_of_nodup h ((List.nodup_range (n:=n)).filter fun x=>decide (x∈l))).2 fun{x}=>by
  rw[List.mem_filter,List.mem_range]
  simp only[decide_eq_true_eq]
  exact⟨fun h=>⟨hl x h,h⟩,fun h=>h.2⟩).length_eq
 rw[e]
 exact J2 (List.length_filter_le _ _) sM
theorem Hp.Ok.Gf2{s:Hp}(k:s.Ok):s.objs.length≤s.born+1:=by
 have:=Ggg (n:=s.born+1) (l:=s.objs.map (·.id)) (by unfold List.Nodup;rw[List.pairwise_map];exact k.ids) fun x hx=>by
  obtain⟨o,ho,rfl⟩:=KI.1 hx
  have:=(k.ob o ho).id
  omega
 simpa using this
theorem SH{α:Type}{p:α→Bool}{l:List α}{j:Nat}{x:α}(h:l[j]?=some x):((l.take (j+1)).filter p).length=((l.take j).filter p).length+if p x=true then 1 else 0:=by
 rw[Nl,h,List.filter_append,Qi]
 simp only[Z4,List.filter_cons,List.filter_nil]
 split<;>simp
structure Was(s t:Hp)(kl st:List Int)(f:Int→Int):Prop where
 w1:∀o∈s.objs,(o.addr:Int)∈kl→t.whr o.id=(f o.addr,0)
 w2:∀o∈s.objs,(o.addr:Int)∉kl→t.whr o.id=(0,4)
 mv:∀o∈s.objs,(o.addr:Int)∈kl→f o.addr≠o.addr→(o.addr:Int)∉st∧o.pin=false
def mvd(kl:List Int)(f:Int→Int)(o:Ob):Bool:=decide ((o.addr:Int)∈kl)&&(f o.addr != (o.addr:Int))
end Go.Cs
namespace Go.Cs.Tryz
open Go Go.Cs
section
variable {H : Gb} {o o' : Tags} {rb rb' : Nat} {s t : Hp} {L L' : NG}
theorem Gec(m:J3 o H rb s L)(k:s.Ok)(m':J3 o' H rb' t L')(kt:t.Ok){wk wst:CV}{kl st:List Int}(li:LI H wk kl)(hkl:kl.length≤100000)(si:Ur H wst st)(hst:st.length≤100000){f:Int→Int}(q:Was s t kl st f)
  {E0:Env}(h9:E0 9=wst)(h11:E0 11=wk)(WA:E0 13=.ptr rb 0)(h17:E0 17=.ptr rb' 0)(h21:E0 21=.i 0)(h22:E0 22=.i 0){r:Option (CX×Env×Gb)}(hr:den P (.loop GeX) E0 H=r):
  ∃E' H',r=some (.exit 0,E',H')∧Gr H H'∧E' 21=.i (s.objs.filter (mvd kl f)).length∧∀t,t∉wr GeX→E' t=E0 t:=by
 have few:=k.few
 obtain⟨x',E',H',e,-,⟨rfl,g,h10⟩,fr⟩:=Gq (p:=P) (c:=GeX) (E0:=E0) (H0:=H)
  (fun q E H'=>Gr H H'∧∃j:Nat,E 22=.i j∧j≤s.objs.length∧q=s.objs.length-j∧E 21=.i ((s.objs.take j).filter (mvd kl f)).length) (fun x E' H'=>x=.exit 0∧Gr H H'∧E' 21=.i (s.objs.filter (mvd kl f)).length) (by
   rintro z E H' hE ⟨g,j,e22,hj,rfl,e21⟩
   have e9:=(hE 9 dK).trans h9
   have e11:=(hE 11 dK).trans h11
   have e13:=(hE 13 dK).trans WA
   have e17:=(hE 17 dK).trans h17
   have hc:=(m.gr g).cells
   have hvl:=(m.gr g).objs.len H'
   by_cases c:j<s.objs.length
   ·have c':decide ((j:Int)<(s.objs.length:Int))=true:=Gz oM
    have w1:IntKind.i64.wrap ((j:Int)+1)=((j+1:Nat):Int):=Gg oM
    obtain⟨x,hx⟩:∃x,s.objs[j]?=some x:=⟨_,Jr c⟩
    have xm:=JV hx
    have hfl:=SH (p:=mvd kl f) hx
    have hle:((s.objs.take j).filter (mvd kl f)).length≤j:=by
     have:=List.length_filter_le (mvd kl f) (s.objs.take j)
     rw[List.length_take]at this
     omega
    obtain⟨N,hN⟩:∃N,N=((s.objs.take j).filter (mvd kl f)).length:=⟨_,rfl⟩
    rw[←hN]at hfl hle e21
    have w2:IntKind.i64.wrap ((N:Int)+1)=((N+1:Nat):Int):=Gg oM
    obtain⟨b1,n1,tl1,q1,q2,q3,q4,q5,q6⟩:=J3.row (m.gr g) hx
    rw[q1]at hc hvl
    have q7:Ba (some (⟨Gu L.hv s.objs,.rw,8⟩:JE)) (j*8) 8=some (Gt L.hv x):=by
     rw[Qg,if_pos oM,QH hx]
    have r1:=(m.refs x xm)
    obtain⟨X,hX⟩:∃X:Gb,X=H'++[⟨Gt L.hv x,.rw,0⟩]:=⟨_,rfl⟩
    have gX:Gr H' X:=by rw[hX];exact Gr.app _ _
    have tX:X[H'.length]?=some ⟨Gt L.hv x,.rw,0⟩:=by rw[hX];simp
    have s8:=Gjj (H:=H') (r:=Gt L.hv x) rfl (by simp[Gt,Jl,KU,r1.1.leaf,r1.2.leaf])
    have gHX:=g.trans gX
    have d1:=Ggq (m'.gr gHX) kt x.id
    have d2:=SI (li.gr gHX) hkl x.addr
    have d3:=WM (QA si gHX) hst x.addr
    suffices fin:∃E',den P GeX E H'=some (.normal,E',X)∧E' 22=.i ((j+1:Nat):Int)∧E' 21=.i ((s.objs.take (j+1)).filter (mvd kl f)).length by
     obtain⟨E',f1,f2,f3⟩:=fin
     exact Gm f1 (k':=s.objs.length-(j+1)) oM ⟨gHX,j+1,f2,oM,rfl,f3⟩
    rw[hfl]
    unfold Gt at q7 hX s8 tX
    unfold zOb at s8
    by_cases ck:(x.addr:Int)∈kl
    ·rw[q.w1 x xm ck]at d1
     unfold UF at d1
     dsimp only at d1
     rw[Gz ck]at d2
     have z0:((0:Int)==0)=true:=rfl
     by_cases cf:f x.addr=x.addr
     ·have cf':(f x.addr != (x.addr:Int))=false:=by rw[cf];simp
      have hm:¬mvd kl f x=true:=by unfold mvd;rw[cf'];simp
      rw[if_neg hm]
      simp(disch:=first|exact dz|fail) only[simprocAttr,Gs,↓reduceIte,Ub,e9,e11,e13,e17,e21,e22,hc,hvl,c',q3,q5,q7,s8,←hX,tX,d1,d2,z0,cf',w1,show(true==true)=true from rfl,Bool.not_true]
      exact⟨_,rfl,uA,by simp[Gc,e21]⟩
     ·have cf':(f x.addr != (x.addr:Int))=true:=by simpa using cf
      have hm:mvd kl f x=true:=by unfold mvd;rw[cf',Gz ck];rfl
      rw[if_pos hm]
      obtain⟨y1,y2⟩:=q.mv x xm ck cf
      rw[Gw y1]at d3
      rw[y2]at hX tX s8 q7
      simp(disch:=first|exact dz|fail) only[simprocAttr,Gs,↓reduceIte,Ub,e9,e11,e13,e17,e21,e22,hc,hvl,c',q3,q5,q7,s8,←hX,tX,d1,d2,d3,z0,cf',w1,w2,show(true==true)=true from rfl,Bool.not_true]
      exact⟨_,rfl,uA,uA⟩
    ·rw[q.w2 x xm ck]at d1
     unfold UF at d1
     dsimp only at d1
     rw[Gw ck]at d2
     have z0:((4:Int)==0)=false:=rfl
     have hm:¬mvd kl f x=true:=by unfold mvd;rw[Gw ck];simp
     rw[if_neg hm]
     simp(disch:=first|exact dz|fail) only[simprocAttr,Gs,↓reduceIte,Ub,e9,e11,e13,e17,e21,e22,hc,hvl,c',q3,q5,q7,s8,←hX,tX,d1,d2,z0,w1,show(false==false)=true from rfl,Bool.not_true]
     exact⟨_,rfl,uA,by simp[Gc,e21]⟩
   ·have c':decide ((j:Int)<(s.objs.length:Int))=false:=Gw oM
    rw[Qe oM]at e21
    apply Gi (x:=.exit 0)
    ·simp(disch:=first|exact dz|fail) only[simprocAttr,Gs,↓reduceIte,Ub,e13,e22,hc,hvl,c']
     rfl
    ·simp
    ·exact⟨rfl,g,by simp[Gc,e21]⟩) _ ⟨Keeps.refl _ _,0,h22,oM,rfl,by rw[h21];rfl⟩
 exact⟨E',H',hr.symm.trans e,g,h10,fr⟩
end
end Go.Cs.Tryz

namespace Go.Cs.Tryz
open Go Go.Cs
section
variable {H : Gb}
theorem GgX{bl mu:Int}{v:Nat→CV}(b:Beg (H++[⟨[.int .u8 bl,.int .u8 mu,v 2,v 3,v 4,v 5,v 6],.rw,0⟩]) bl mu v){v7:CV}{rs:List (List CV)}(hs7:Sl (H++[⟨[.int .u8 bl,.int .u8 mu,v 2,v 3,v 4,v 5,v 6],.rw,0⟩]) v7 2 rs)(hb7:Gp v7<H.length+1)(u7:U8R 2 rs){spc:Int}(GyW:0≤spc∧spc≤255)
  (awake:∀G:Gb,∃G',run P 18 [] G=some (.bool true,G')):
  ∃H',run P 4 [.agg [.int .u8 bl,.int .u8 mu,v 2,v 3,v 4,v 5,v 6],v7,.int .u8 spc] H=some (.bool true,H'):=by
 obtain⟨X,hX⟩:∃X:Gb,X=H++[⟨[.int .u8 bl,.int .u8 mu,v 2,v 3,v 4,v 5,v 6],.rw,0⟩]:=⟨_,rfl⟩
 rw[←hX]at b hs7
 have lX:X.length=H.length+1:=by rw[hX];simp
 have tX:X[H.length]?=some ⟨[.int .u8 bl,.int .u8 mu,v 2,v 3,v 4,v 5,v 6],.rw,0⟩:=by rw[hX];simp
 obtain⟨rs2,s2,-,u2⟩:=b.sl 0 _ rfl
 obtain⟨sb,X1,s,R,D,h1,w,hown,hborn,hs,hcn,Gps,len1⟩:=Xc b s2 u2 (sm:=False) fun h=>h.elim
 have k:=w.k
 have kr:=w.kr
 have few:s.objs.length≤41:=by have:=k.Gf2;omega
 have t1:=w.m.top
 have s71:Sl X1 v7 2 rs:=hs7.low (c0:=X.length) oM Gps
 obtain⟨w2,X2,ws,h2,g2,il2,hl2⟩:=Gbv w.m k s71 u7
 have m2:=w.m.gr g2
 have t2:=m2.top
 obtain⟨v3,X3,stl,h3,g3,sn3,GyN,hm3,hl3⟩:=GaH m2.ph k (IL.sl il2) oM
 have m3:=m2.gr g3
 have t3:=m3.top
 obtain⟨w4,X4,kl,h4,g4,il4,GqC,hm4⟩:=Gih m3.ph k m3.pr kr hs (QA (IL.sl il2) g3) oM
 have m4:=m3.gr g4
 have t4:=m4.top
 obtain⟨qh,X5,o5,L5,h5,g5,rh5,fr5⟩:=IW m4.ph k
 have m5:=m4.gr g5
 have t5:=m5.top
 obtain⟨qr,X6,o6,Q6,L6,h6,g6,rr6,cp6,fr6⟩:=Zr m5.pr kr
 have m6:=m5.gr g6
 have t6:=m6.top
 have hsp:0≤spc % 8∧spc % 8<8:=by omega
 have g26:=(g3.trans g4).trans (g5.trans g6)
 obtain⟨X7,ks,UJ,t,ms,hks,nd,hfx,em,h7,GfW,ph7,pr7⟩:=Gbm m6.ph k w.f hs.2.2 hcn.usd oM m6.pr kr hs (fun c h=>(m6.d1 c h).1) (QA (IL.sl il2) g26) oM hsp
 have M:Ef s R ws ks UJ (spc % 8) t ms:=⟨k,w.f,hcn.usd,hs,hsp,hks,hfx,em⟩
 have kk:∀x,x∈kl↔x∈ks:=fun x=>by rw[hm4,hks]
 have n1:=M.GoD GqC hm4
 have n2:=Ef.GlC (s:=s) (ks:=ks)
 have n3:=M.Gvs
 have n4:=M.GmR
 have G1U:kl.length≤41:=by omega
 obtain⟨nb,hnb⟩:∃nb,nb=s.blk.length:=⟨_,rfl⟩
 rw[←hnb]at ph7 h7
 have n5:(Kg (t.mp (YE (JK ms))) nb).objs.length=kl.length:=by
  rw[Y8]
  show(t.objs.map _).length=_
  rw[QY,n3,n1]
 have ok5:=M.ok5 nb
 have rok:=M.rok kr
 have sn5:=M.GoK nb
 have lR:∀{Q T:Rt},Q.vis=R.vis→(∀i,i≤2→T.li i=(R.ren (JK ms)).li i)→GcM s (Kg (t.mp (YE (JK ms))) nb) Q T:=M.GoB nb
 have lO:∀{l:List Int},(∀a,a∈l→Kp s (fun a=>a∈R.vals∧a≠0) true a)→TW s (Kg (t.mp (YE (JK ms))) nb) l:=M.GmZ nb
 have was:Was s (Kg (t.mp (YE (JK ms))) nb) kl stl (JK ms):=⟨fun o ho h=>M.Gvr nb ho ((kk _).1 h),fun o ho h=>M.Grp nb ho fun h'=>h ((kk _).2 h'),fun o ho h hne=>by
  obtain⟨x,hx,e⟩:=M.out hne
  obtain⟨o1,q1,q2,-,-,-,-,-,q3,q4⟩:=M.mv hx
  have eo:o1=o:=k.U8 q1 ho oM
  subst eo
  refine⟨fun h=>q3 ?_,q4⟩
  rw[e,hfx,←hm3];exact h⟩
 have n6:(s.objs.filter (mvd kl (JK ms))).length=ms.length:=by
  rw[←n4]
  congr 2
  funext o
  unfold mvd
  rw[decide_eq_decide.2 (kk _)]
 rw[n3,n1]at h7
 obtain⟨fr,hfr⟩:∃fr,fr=(s.objs.filter fun o=>!decide ((o.addr:Int)∈ks)).length:=⟨_,rfl⟩
 rw[←hfr]at h7 n2
 generalize (sizes (s.objs.filter fun o=>!decide ((o.addr:Int)∈ks)):Nat)=z1 at h7
 generalize (sizes (t.mp (YE (JK ms))).objs:Nat)=z2 at h7
 generalize (JR (Kg (t.mp (YE (JK ms))) nb) ms:Nat)=z3 at h7
 generalize (YW s (fun x=>decide (x∈ks)) ks:Nat)=z4 at h7
 generalize (Kg (t.mp (YE (JK ms))) nb)=tt at ph7 n5 ok5 sn5 lR lO was
 have Pk:∀c∈D.L.all D.hb,c<X1.length:=w.m.ph.lt
 have GvR:∀c,D.o1 c≠none→c<X1.length:=fun c h=>by
  cases e:D.o1 c with
  |none=>exact absurd e h
  |some u=>exact w.m.pr.dom c u e
 have Gkm:∀c,X1.length≤c→c<X6.length→X7[c]?=X6[c]?:=fun c h1 h2=>GfW.keep c h2 (by
  rintro (h|h)
  ·have:=Pk c h;omega
  ·have:=GvR c h;omega)
 have e2:=g2.len
 have e3:=g3.len
 have e4:=g4.len
 have e5:=g5.len
 have e6:=g6.len
 have e7:=GfW.len
 have t7:X7[sb]?=some ⟨[.ptr D.hb 0,.ptr D.rb 0,.ptr D.qb 0,.ptr D.ub 0],.rw,0⟩:=by
  rw[GfW.keep sb (Gf t6) (by
   rintro (h|h)
   ·exact m6.d0.1 h
   ·exact h m6.d0.2.1)]
  exact t6
 have rh7:J3 o5 X7 qh s L5:=(rh5.gr g6).frame (fun c u h=>by have:=(rh5.gr g6).dom c u h;omega) (fun _ _ h=>h) fun c u h=>Gkm c (by have:=fr5 c u h;omega) ((rh5.gr g6).dom c u h)
 have rr7:JJ o6 X7 qr Q6 L6:=rr6.frame (fun c u h=>by have:=rr6.dom c u h;omega) (fun _ _ h=>h) fun c u h=>Gkm c (by have:=fr6 c u h;omega) (rr6.dom c u h)
 have li7:LI X7 w4 kl:=(IL.fr (At.keeps il4 (g5.trans g6)) fun q1 q2 _=>Gkm _ oM q2).li
 have si7:Ur X7 v3 stl:=by
  have sn6:=QA sn3.1 (g4.trans (g5.trans g6))
  by_cases cf:stl=[]
  ·subst cf
   rcases sn6 with h|⟨b,o',c,t,kk,e,-⟩
   ·exact .inl h
   ·exact .inl ⟨rfl,.inr ⟨b,o',c,t,e⟩⟩
  ·have:=sn3.2 cf
   exact sn6.mono fun b kk hb _ he=>by
    rw[Gkm b oM (Gf hb)];exact hb
 obtain⟨Y7,hY7⟩:∃Y:Gb,Y=X7++[⟨[.i kl.length,.i z2,.i fr,.i z1,.i ms.length,.i z3,.i ks.length,.i z4],.rw,0⟩]:=⟨_,rfl⟩
 have gY7:Gr X7 Y7:=by rw[hY7];exact Gr.app _ _
 have tY7:Y7[X7.length]?=some ⟨[.i kl.length,.i z2,.i fr,.i z1,.i ms.length,.i z3,.i ks.length,.i z4],.rw,0⟩:=by rw[hY7];simp
 have u7':=Gr.get gY7 t7
 obtain⟨nh,X8,o8,L8,h8,g8,rh8,-⟩:=IW (ph7.gr gY7) ok5
 have u8':=Gr.get g8 u7'
 obtain⟨nr,X9,o9,Q9,L9,h9,g9,rr9,cp9,-⟩:=Zr (pr7.gr (gY7.trans g8)) rok
 have g79:=(gY7.trans g8).trans g9
 obtain⟨X10,bb,h10,g10⟩:=Gg7 (rh7.gr g79) k (rh8.gr g9) ok5 (rr7.gr g79) cp6.k rr9 cp9.k (lR (by
   unfold Rt.vis
   rw[cp6.all 0 oM,cp6.all 1 oM,cp6.all 2 oM]) fun i hi=>cp9.all i hi) fun l hl=>lO fun a ha=>by
  have:=(hl a).1 ha
  rw[cp6.vals]at this
  exact this
 obtain⟨X11,h11,g11⟩:=GdB ((rh8.gr g9).gr g10) ok5 (rr9.gr g10) cp9.k (by
  refine⟨sn5.1,fun v hv=>sn5.2.1 v ?_,sn5.2.2⟩
  rw[cp9.vals]at hv;exact hv)
 have g9b:=g10.trans g11
 have g7b:=g79.trans g9b
 have tb:=Gr.get ((g8.trans g9).trans g9b) tY7
 have ta:=Gr.get ((g8.trans g9).trans g10) tY7
 have hc1:=((rh8.gr g9).gr g9b).cells
 have hl1:=((rh8.gr g9).gr g9b).objs.len X11
 have GoH:=VO (v:=L8.ov) fun H=>((rh8.gr g9).gr g9b).objs.len H
 have hc2:=(rh7.gr g7b).cells
 have Gq5:=(rh7.gr g7b).objs.len X11
 have Gp2:=VO (v:=L5.ov) fun H=>(rh7.gr g7b).objs.len H
 rw[n5]at hl1 GoH
 have hk1:=(li7.gr g7b).len X11
 have hk2:=(li7.gr g7b).Gso
 have c1:((kl.length:Int) != (kl.length:Int))=false:=by simp
 have wS:IntKind.i64.wrap ((s.objs.length:Int)-(kl.length:Int))=(fr:Int):=by
  rw[Gg oM];omega
 have c2:((fr:Int) != (fr:Int))=false:=by simp
 have z0:((0:Int) != 0)=false:=rfl
 have ws8:IntKind.i64.wrap spc=spc:=Gg oM
 have r8:spc.tmod 8=spc % 8:=Int.tmod_eq_emod_of_nonneg oM
 unfold rep at h7
 rw[Gh c4 _ _ sM]
 simp(disch:=first|exact dz|fail) only[simprocAttr,Gs,↓reduceIte,Ub,←hX,tX,h1,h2,t2,h3,t3,h4,t4,h5,t5,h6,t6,@Ke,@VK,@KL,@VU,@Jw,@Ns,ws8,r8,h7,←hY7,u7',h8,u8',h9,h10,z0,h11,tb,ta,hc1,hl1,GoH,hc2,Gq5,Gp2,hk1,hk2,c1,wS,c2]
 generalize hr:den P (.loop GeX) _ _=r
 obtain⟨E',X12,rfl,g12,y21,f12⟩:=Gec (rh7.gr g7b) k ((rh8.gr g9).gr g9b) ok5 (li7.gr g7b) oM (QA si7 g7b) oM was uA uA uA uA uA uA hr
 have b15:=f12 15 dK
 simp only[Gc,Nat.reduceEqDiff,↓reduceIte]at b15
 rw[n6]at y21
 have tc:=Gr.get g12 tb
 obtain⟨G',hG⟩:=awake X12
 have c3:((ms.length:Int)==(ms.length:Int))=true:=by simp
 refine⟨G',?_⟩
 simp(disch:=first|exact dz|fail) only[simprocAttr,Gs,↓reduceIte,Ub,b15,y21,tc,c3,hG]
 try rfl
end
end Go.Cs.Tryz
namespace Go.Cs.Tryz
open Go Go.Cs A
def C17:Gj:=⟨29,0,T [e 6 (.new [i 0,i 0,i 0,i 0,i 0,i 0,i 0,i 0]),n 7 0] (S (T [m 10 0,m 11 1,m 12 2,q3 13 48 10 11 12,m 8 13] (T [m 14 8,bk 15 .neq 14 0] (I 15 (Q [e 16 (.build [i 0,i 0,i 0,i 0,i 0,i 0,i 0,i 0] []),m 17 8,st 8 6 16,m 7 17])))) (T [m 18 0,m 19 0,m 20 1,m 21 2,q3 22 50 19 20 21,q2 23 49 18 22,e 9 (.new [i 0,i 0,i 0,i 0,i 0,i 0,i 0,i 0]),st 8 9 23] (T [m 24 0,q1 25 59 24] (T [m 26 0,ca 27 60 [t 26,c .Gd,t 9]] (Q [lg 28 8 9,st 8 6 28,n 7 0]))))),[.cell 6 true 8,r 7]⟩
theorem c17:P 17=some C17:=by kernel_rfl
def C18:Gj:=⟨88,0,T [nb 0 false] (T [ca 12 32 [k 4],m 11 12,ex 13 11 0,ex 14 11 1,m 1 13,m 2 14] (T [ca 16 33 [k 1],m 15 16,ex 17 15 0,ex 18 15 1,m 3 17,m 4 18] (S (T [m 19 1,e 20 (.eqv false 1 (t 19) (c .nilPtr)),m 21 20,gf 21 (m 22 3),gf 21 (e 23 (.eqv false 1 (t 22) (c .nilPtr))),or 24 21 23,m 25 24,gf 25 (m 26 2),gf 25 (bk 27 .neq 26 0),or 28 25 27,m 29 28,gf 29 (m 30 4),gf 29 (bk 31 .neq 30 0),or 32 29 31,m 33 32,gf 33 (m 34 1),gf 33 (ca 35 74 [t 34,k 1,k 0]),gf 33 (bk 36 .neq 35 0),or 37 33 36] (I 37 (Q [nb 0 false]))) (S (T [m 39 1,e 40 (.build [i 0,i 0,i 0] [(0,1,k 1),(1,1,k 2)]),ca 41 75 [t 39,k 64,t 40],m 38 41,ex 42 38 0,ex 43 38 1,m 5 42,m 6 43] (T [m 44 6,bk 45 .neq 44 0] (I 45 (Q [nb 0 false])))) (S (T [m 47 1,e 48 (.build [i 0,i 0,i 0] []),ca 49 75 [t 47,k 70,t 48],m 46 49,ex 50 46 0,ex 51 46 1,m 7 50,m 8 51] (T [m 52 8,bk 53 .neq 52 0] (I 53 (Q [nb 0 false])))) (T [m 55 1,e 56 (.buildSlice 1 [i 0] 1 [(0,1,k 67)]),q2 57 10 55 56,m 54 57,ex 58 54 0,ex 59 54 1,m 9 58,m 2 59] (T [m 61 1,m 62 3,e 63 (.buildSlice 1 [i 0] 1 [(0,1,k 67)]),q3 64 17 61 62 63,m 60 64,ex 65 60 0,ex 66 60 1,e 10 (.new [i 0,i 0,i 0,i 0,i 0,i 0,i 0,i 0]),st 8 10 65,m 4 66] (Q [m 67 2,bk 68 .eql 67 0,m 69 68,gt 69 (m 70 4),gt 69 (bk 71 .eql 70 0),an 72 69 71,m 73 72,gt 73 (m 74 9),gt 73 (e 75 (.buildSlice 1 [i 0] 1 [(0,1,k 64)])),gt 73 (q2 76 76 74 75),an 77 73 76,m 78 77,gt 78 (f 79 0 10),gt 78 (l 80 1 79),gt 78 (bk 81 .eql 80 1),an 82 78 81,m 83 82,gt 83 (f 84 2 10),gt 83 (l 85 1 84),gt 83 (bk 86 .eql 85 1),an 87 83 86,m 0 87])))))))),[r 0]⟩
theorem c18:P 18=some C18:=by kernel_rfl
end Go.Cs.Tryz
namespace Go.Cs
open Go
def okB(s:Hp):Bool:=decide (2≤s.blk.length∧s.blk.length≤64)&&(s.blk.all (fun x=>decide (x.1≤3∧x.2<8))&&(s.objs.all (fun o=>decide (o.addr % 2=0∧o.refs.length≤15∧o.data.length≤200∧(o.kd≤3∧(o.kd=1→1≤o.refs.length)∧(o.kd=2→2≤o.refs.length))∧(1≤o.id∧o.id≤s.born)∧o.addr+o.size≤s.nw∧64≤o.addr))&&
 (decide (s.objs.Pairwise fun a b=>a.addr+a.size≤b.addr)&&(decide (s.objs.Pairwise fun a b=>a.id≠b.id)&&decide (s.born≤1000)))))
theorem GfJ{s:Hp}(h:okB s=true):s.Ok:=by
 simp only[okB,NH,decide_eq_true_eq,List.all_eq_true]at h
 obtain⟨h1,h2,h3,h4,h5,h6⟩:=h
 refine⟨h1,h2,fun o ho=>?_,h4,h5,oM⟩
 obtain⟨a,b,c,d,e,f,-⟩:=h3 o ho
 exact⟨a,b,c,d,e,f⟩
theorem Gp5{s:Hp}(h:okB s=true)(hz:s.Gx 0=0):s.Lo:=by
 simp only[okB,NH,decide_eq_true_eq,List.all_eq_true]at h
 exact⟨hz,fun x hx=>(h.2.2.1 x hx).2.2.2.2.2.2⟩
def Gpx(s:Hp):Bool:=s.objs.all fun o=>o.refs.all fun x=>x==0||s.has x
theorem Gnf{s:Hp}(h:Gpx s=true):∀o∈s.objs,∀x∈o.refs,x=0∨s.has x=true:=by
 simpa[Gpx,List.all_eq_true]using h
def pB:List (Nat×Nat):=[(0,0),(1,0),(0,0),(0,0)]
def pO:Ob:=⟨64,1,[0],[0,0],0,false⟩
def pS0:Hp:=⟨pB,[],0,[]⟩
def pS1:Hp:=⟨pB,[pO],1,[]⟩
def Wm:Hp:=⟨pB,[pO,⟨70,2,[],[],0,false⟩],2,[]⟩
theorem p0:(Hp.new 4).claim 1 1 1 0 0 0=(pS0,0):=by kernel_rfl
theorem p1:pS0.place 64 1 2 0=(pS1,1,0):=by kernel_rfl
theorem p2:pS1.place 70 0 0 0=(Wm,2,0):=by kernel_rfl
theorem Gg8:UH Wm [67]=[64]:=by kernel_rfl
theorem Gc5:∀a∈(Rt.new 1).vals,a=0:=by decide +kernel
theorem GuS{a:Int}:KpW Wm (Rt.new 1) [67] a↔a=64:=by
 constructor
 ·intro h
  unfold KpW at h
  induction h with
  |start h1 h2=>
   rcases h1 with h1|h1
   ·exact absurd (Gc5 _ h1.1) h1.2
   ·rw[Gg8]at h1
    simpa using h1
  |@ref a b o j _ h2 h3 h4 h5 ih=>
   subst ih
   have:Wm.obj 64=some pO:=by kernel_rfl
   rw[this]at h2
   cases h2
   have hb:b=0:=by
    have:=JV h3
    simpa[pO]using this
   subst hb
   have:Wm.has 0=false:=by kernel_rfl
   rw[this]at h5;cases h5
  |@pair a b c o _ _ h3 h4 _ _ _ _ ih1 ih2=>
   subst ih1
   have:Wm.obj 64=some pO:=by kernel_rfl
   rw[this]at h3
   cases h3
   cases h4
 ·rintro rfl
  exact .start (.inr (by rw[Gg8];simp)) (by kernel_rfl)
end Go.Cs
namespace Go.Cs.Tryz
open Go Go.Cs
section
variable {H : Gb} {hb : Nat} {s : Hp} {L : G5} {o : Tags} {rb : Nat} {R : Rt} {v : Nat → CV}
theorem Gee(p:PH H hb s L)(k:s.Ok)(lo:s.Lo)(m:JL o H rb R v)(kr:R.Ok)(hs:Iz s R){vw:CV}{ws:List Int}(hw:Ur H vw ws)(hl:ws.length≤200):
  ∃(H':Gb)(ks:List Int),(∀x,x∈ks↔KpW s R ws x)∧ks.Nodup∧
   run P 17 [.ptr hb 0,.ptr rb 0,vw] H=some (.Jj [.agg (rep (s.GL fun x=>decide (x∈ks)).objs.length (sizes (s.GL fun x=>decide (x∈ks)).objs:Nat) (s.objs.filter fun o=>!decide ((o.addr:Int)∈ks)).length (sizes (s.objs.filter fun o=>!decide ((o.addr:Int)∈ks)):Nat) 0 (JR (Kg (s.GL fun x=>decide (x∈ks)) s.blk.length) []:Nat) ks.length (YW s (fun x=>decide (x∈ks)) ks:Nat)),.i 0],H')∧
   Keeps H H' (·∈L.all hb)∧PH H' hb (Kg (s.GL fun x=>decide (x∈ks)) s.blk.length) L:=by
 obtain⟨X0,hX0⟩:∃X:Gb,X=H++[⟨rep 0 0 0 0 0 0 0 0,.rw,0⟩]:=⟨_,rfl⟩
 have g0:Gr H X0:=by rw[hX0];exact Gr.app _ _
 have l0:X0.length=H.length+1:=by rw[hX0];simp
 have t0:X0[H.length]?=some ⟨rep 0 0 0 0 0 0 0 0,.rw,0⟩:=by rw[hX0];simp
 have lt:=p.lt
 obtain⟨X1,d1,g1⟩:=EB (p.gr g0) k (m.gr g0) kr hs (QA hw g0) hl
 have F3:=g0.trans g1
 obtain⟨kb,X3,ks,d3,g3,hkb,GgL,hks⟩:=Mc (p.gr F3) k (m.gr F3) kr hs (QA hw F3) hl
 have g03:=F3.trans g3
 have p3:=p.gr g03
 have gl1:=g1.len
 have G0X:=F3.len
 have gl3:=g3.len
 obtain⟨X4,d4,g4,p4⟩:=Rh k lo p3 GgL (fun h=>by have:=lt _ h;omega)
 have gl4:=g4.len
 obtain⟨K,hK⟩:∃K:Int→Bool,K=fun x=>decide (x∈ks):=⟨_,rfl⟩
 rw[←hK]at p4 d4
 obtain⟨r2,hr2⟩:∃r:Nat,r=(s.objs.filter fun o=>!decide ((o.addr:Int)∈ks)).length:=⟨_,rfl⟩
 obtain⟨r3,hr3⟩:∃r:Nat,r=sizes (s.objs.filter fun o=>!decide ((o.addr:Int)∈ks)):=⟨_,rfl⟩
 obtain⟨r7,hr7⟩:∃r:Nat,r=YW s K ks:=⟨_,rfl⟩
 rw[←hr2,←hr3,←hr7]at d4
 have k4:=k.GL K
 obtain⟨X5,BG⟩:∃X:Gb,X=X4++[⟨rep 0 0 r2 r3 0 0 ks.length r7,.rw,0⟩]:=⟨_,rfl⟩
 have g5:Gr X4 X5:=by rw[BG];exact Gr.app _ _
 have l5:X5.length=X4.length+1:=by rw[BG];simp
 have t5:X5[X4.length]?=some ⟨rep 0 0 r2 r3 0 0 ks.length r7,.rw,0⟩:=by rw[BG];simp
 obtain⟨X6,d6,g6,p6⟩:=Br (p4.gr g5) k4
 have hbl:(s.GL K).blk.length=s.blk.length:=rfl
 rw[hbl]at p6
 have gl6:=g6.len
 have nL:∀c,H.length≤c→c∉L.all hb:=fun c hc h=>by have:=lt c h;omega
 have t6:X6[X4.length]?=some ⟨rep 0 0 r2 r3 0 0 ks.length r7,.rw,0⟩:=by
  rw[g6.keep _ oM (nL _ oM)];exact t5
 have k6:(Kg (s.GL K) s.blk.length).Ok:=k4.Kg _
 obtain⟨X7,d7,g7,t7⟩:=Om (M:=[]) (k0:=X6.length) (vm:=.Gd) p6 k6 (.inl ⟨rfl,rfl,.inl rfl⟩) sM (fun x hx=>by cases hx) (nL _ oM) t6
 rw[Y8]at t7
 have gl7:=g7.len
 have t7r:X7[H.length]?=some ⟨rep 0 0 0 0 0 0 0 0,.rw,0⟩:=by
  rw[g7.keep _ oM oM,g6.keep _ oM (nL _ oM),g5.keep _ oM fun h=>h,g4.keep _ oM (nL _ oM),(g1.trans g3).keep _ oM fun h=>h]
  exact t0
 obtain⟨X8,hX8⟩:∃X:Gb,X=X7.set H.length ⟨rep (s.GL K).objs.length (sizes (s.GL K).objs:Nat) r2 r3 0 (JR (Kg (s.GL K) s.blk.length) []:Nat) ks.length r7,.rw,0⟩:=⟨_,rfl⟩
 have t8:X8[H.length]?=some ⟨rep (s.GL K).objs.length (sizes (s.GL K).objs:Nat) r2 r3 0 (JR (Kg (s.GL K) s.blk.length) []:Nat) ks.length r7,.rw,0⟩:=by rw[hX8,Va (Gf t7r)]
 have g8:Keeps X7 X8 (·=H.length):=by rw[hX8];exact Keeps.set (w:=fun c=>c=H.length) (Keeps.refl _ _) (.inl rfl) _
 have p8:PH X8 hb (Kg (s.GL K) s.blk.length) L:=p6.frame fun c hc=>by
  have:=lt c hc
  rw[g8.keep c oM oM,g7.keep c oM oM]
 refine⟨X8,ks,hks,GgL.m.nodup,?_,⟨by have:=g8.len;omega,fun c hc hn=>?_⟩,by rw[←hK];exact p8⟩
 ·rw[←hK,←hr2,←hr3,←hr7]
  rw[Gh c17 _ _ sM]
  unfold rep at hX0 t0 d4 BG t5 t7 t7r hX8 t8⊢
  simp only[List.length_nil,Int.natCast_zero]at t7
  simp(disch:=first|exact dz|fail) only[simprocAttr,Gs,↓reduceIte,Ub,←hX0,d1,d3,d4,←BG,d6,d7,t7,t7r,hX8.symm,t8]
  try rfl
 ·rw[g8.keep c oM oM,g7.keep c oM oM,g6.keep c oM hn,g5.keep c oM fun h=>h,g4.keep c oM hn,g03.keep c hc fun h=>h]
theorem Geu:∃H',run P 18 [] H=some (.bool true,H'):=by
 obtain⟨hb,H1,L,h1,g1,q1,hL⟩:=Xm (H:=H) 4 oM
 obtain⟨rb,H2,o,v,h2,g2,m2,ho⟩:=R5 (H:=H1) 1 oM
 have q2:=q1.gr g2
 have k0:(Hp.new (4:Int).toNat).Ok:=Hp.EN dE
 obtain⟨H3,h3,k3,q3⟩:=BZ q2 k0 1 0
 rw[show Hp.new (4:Int).toNat=Hp.new 4 from rfl,p0]at h3 q3
 dsimp only at h3 q3
 have ok0:pS0.Ok:=GfJ dK
 obtain⟨H4,h4,k4,q4⟩:=Bz q3 ok0 dE 64 1 2 0
 rw[p1]at h4 q4
 have ok1:pS1.Ok:=GfJ dK
 obtain⟨H5,h5,k5,q5⟩:=Bz q4 ok1 dE 70 0 0 0
 rw[p2]at h5 q5
 have okb:okB Wm=true:=by decide +kernel
 have ok2:Wm.Ok:=GfJ okb
 have lo2:Wm.Lo:=Gp5 okb dE
 have pl1:=q1.lt
 have dis:∀c t,o c=some t→c∉L.all hb:=fun c t h hc=>by have:=ho c t h;have:=pl1 c hc;omega
 have k25:=(k3.trans k4).trans k5
 have m5:JL o H5 rb (Rt.new 1) v:=m2.frame (fun c t h=>J6 (m2.dom c t h) k25.len) (fun _ _ h=>h) fun c t h=>k25.keep c (m2.dom c t h) (dis c t h)
 have snd:Iz Wm (Rt.new 1):=⟨Gnf dK,fun x hx=>.inl (Gc5 x hx),lo2⟩
 obtain⟨X5,BG⟩:∃X:Gb,X=H5++[⟨[.i 67],.rw,1⟩]:=⟨_,rfl⟩
 have gX5:Gr H5 X5:=by rw[BG];exact Gr.app _ _
 have sX5:Ur X5 (.slice H5.length 0 1 1 1 false) [67]:=IL.sl (k:=0) (.inr ⟨H5.length,false,rfl,Gl.2 ⟨Nat.zero_le _,rfl⟩,by rw[BG];simp[ints],rfl⟩)
 obtain⟨w6,H6,l6,h6,g6,sn6,sr6,hm6,hl6⟩:=GaH (q5.gr gX5) ok2 sX5 sM
 have e6:l6=[64]:=I8 sr6 (by unfold Uc;decide) fun x=>by rw[hm6,Gg8]
 subst e6
 obtain⟨X6,hX6⟩:∃X:Gb,X=H6++[⟨[.i 67],.rw,1⟩]:=⟨_,rfl⟩
 have gX6:Gr H6 X6:=by rw[hX6];exact Gr.app _ _
 have sX6:Ur X6 (.slice H6.length 0 1 1 1 false) [67]:=IL.sl (k:=0) (.inr ⟨H6.length,false,rfl,Gl.2 ⟨Nat.zero_le _,rfl⟩,by rw[hX6];simp[ints],rfl⟩)
 have g56:=(gX5.trans g6).trans gX6
 obtain⟨H7,ks,hks,nd,h7,k7,q7⟩:=Gee (q5.gr g56) ok2 lo2 (m5.gr g56) (Rt.EN (n:=1) oM) snd sX6 sM
 have GnE:∀x,decide (x∈ks)=decide (x=64):=fun x=>decide_eq_decide.2 ((hks x).trans GuS)
 have eK:(fun x=>decide (x∈ks))=fun x=>decide (x=(64:Int)):=funext GnE
 have n1:(Wm.GL fun x=>decide (x∈ks)).objs.length=1:=by
  rw[eK];unfold Hp.GL;rw[QY];kernel_rfl
 have n2:(Wm.objs.filter fun o=>!decide ((o.addr:Int)∈ks)).length=1:=by
  have:(fun o:Ob=>!decide ((o.addr:Int)∈ks))=fun o=>!decide ((o.addr:Int)=64):=funext fun o=>by rw[GnE]
  rw[this]
  exact(by decide +kernel:(Wm.objs.filter fun o=>!decide ((o.addr:Int)=64)).length=1)
 rw[n1,n2]at h7
 generalize (sizes (Wm.GL fun x=>decide (x∈ks)).objs:Nat)=z1 at h7
 generalize (sizes (Wm.objs.filter fun o=>!decide ((o.addr:Int)∈ks)):Nat)=z2 at h7
 generalize (JR (Kg (Wm.GL fun x=>decide (x∈ks)) Wm.blk.length) []:Nat)=z3 at h7
 generalize (YW Wm (fun x=>decide (x∈ks)) ks:Nat)=z4 at h7
 obtain⟨X7,hX7⟩:∃X:Gb,X=H7++[⟨[.i 1,.i z1,.i 1,.i z2,.i 0,.i z3,.i ks.length,.i z4],.rw,0⟩]:=⟨_,rfl⟩
 have gX7:Gr H7 X7:=by rw[hX7];exact Gr.app _ _
 have tX7:X7[H7.length]?=some ⟨[.i 1,.i z1,.i 1,.i z2,.i 0,.i z3,.i ks.length,.i z4],.rw,0⟩:=by rw[hX7];simp
 have hb6:=sn6.2 sM
 have li7:Ur X7 w6 [64]:=(QA sn6.1 gX6).mono fun b kk hb _ he=>by
  have e1:=gX5.len
  have e2:=k25.len
  have e3:=g2.len
  have hlt:=Gf hb
  have hk:=k7.len
  rw[gX7.keep b oM fun h=>h,k7.keep b hlt fun h=>by have:=pl1 b h;omega]
  exact hb
 obtain⟨X8,hX8⟩:∃X:Gb,X=X7++[⟨[.i 64],.rw,1⟩]:=⟨_,rfl⟩
 have gX8:Gr X7 X8:=by rw[hX8];exact Gr.app _ _
 have tX8:=gX8.get tX7
 have li2:Ur X8 (.slice X7.length 0 1 1 1 false) [64]:=IL.sl (k:=0) (.inr ⟨X7.length,false,rfl,Gl.2 ⟨Nat.zero_le _,rfl⟩,by rw[hX8];simp[ints],rfl⟩)
 have hi:=XP (QA li7 gX8) li2 sM
 simp only[decide_true]at hi
 unfold UF at h4 h5
 unfold rep at h7
 have h1':run P 32 [.int .i64 4] H=_:=h1
 have h2':run P 33 [.int .i64 1] H1=_:=h2
 have h3':run P 74 [.ptr hb 0,.int .i64 1,.int .i64 0] H2=_:=h3
 have h4':run P 75 [.ptr hb 0,.int .i64 64,.agg [.int .i64 1,.int .i64 2,.int .i64 0]] H3=_:=h4
 have h5':run P 75 [.ptr hb 0,.int .i64 70,.agg [.int .i64 0,.int .i64 0,.int .i64 0]] H4=_:=h5
 have Gtw:X5=H5++[⟨[.int .i64 67],.rw,1⟩]:=BG
 have Gq3:X6=H6++[⟨[.int .i64 67],.rw,1⟩]:=hX6
 have GqZ:X7=H7++[⟨[.int .i64 1,.i z1,.int .i64 1,.i z2,.int .i64 0,.i z3,.i ks.length,.i z4],.rw,0⟩]:=hX7
 have GtG:X8=X7++[⟨[.int .i64 64],.rw,1⟩]:=hX8
 rw[Gh c18 _ _ sM]
 simp(disch:=first|exact dz|fail) only[simprocAttr,Gs,↓reduceIte,Gk2,h1',h2',Gdl,Gdf,show((0:Int) != 0)=false from rfl,h3',fill,splice,and_self,h4',h5',Gtw.symm,h6,Gq3.symm,h7,GqZ.symm,tX7,show((0:Int)==0)=true from rfl,GtG.symm,hi,tX8,show((1:Int)==1)=true from rfl]
 try exact⟨_,rfl⟩
end
end Go.Cs.Tryz
noncomputable section
namespace Go.Cs.Tryz
open Go Go.Cs Go.RowKit Go.ChangeShapes Go.WideShapes
theorem Eo{H:Gb}{cv:Nat→CV}{blk:JE}{n j:Nat}{l:List (List CV)}(hn:0<n)(h:GnS cv blk (List.replicate n (.int .u8)) l)(hs:(∀j,cv j=.Gd)∨∃m c,∀j,cv j=.slice j 0 m c (List.replicate n (FK.int .u8)).length false)(hj:H[j]?=some blk):
  Sl H (cv j) n l∧Gp (cv j)≤j∧U8R n l:=by
 obtain⟨h1,h2,h3⟩:=h
 rw[List.length_replicate]at h2 hs
 refine⟨?_,?_,fun x hx=>?_⟩
 ·rcases hs with hs|⟨m,c,hs⟩
  ·left
   refine⟨?_,.inl (hs j)⟩
   have:=h1 j H
   rw[hs j]at this
   simp only[UK,GA,Prod.mk.injEq,CV.int.injEq,true_and,and_true]at this
   exact AV oM
  ·have hm:m=l.length:=by
    have:=h1 j H
    rw[hs j]at this
    simp only[UK,GA,Prod.mk.injEq,CV.int.injEq,true_and,and_true]at this
    omega
   by_cases c0:l=[]
   ·left
    refine⟨c0,.inr ⟨j,0,c,false,?_⟩⟩
    rw[hs j,hm,c0];rfl
   ·obtain⟨-,q2,q3,q4⟩:=h2 c0
    refine .inr ⟨j,0,c,false,blk,by rw[hs j,hm],hj,.inr q2,fun i r hi=>?_⟩
    have:=q4 i r hi
    rw[Nat.zero_add]
    refine⟨this.2,?_⟩
    have:=(h3 r (JV hi)).1
    rw[List.length_replicate]at this
    exact this
 ·rcases hs with hs|⟨m,c,hs⟩
  ·rw[hs j];exact Nat.zero_le _
  ·rw[hs j];exact Nat.le_refl _
 ·obtain⟨q1,q2⟩:=h3 x hx
  rw[List.length_replicate]at q1
  obtain⟨zs,hl,hp⟩:=LU (n:=n) (p:=fun i z=>x[i]?=some (.int .u8 z)∧0≤z∧z≤255) fun i hi=>by
   obtain⟨c,e1,z,e2,e3,e4⟩:=q2 i (.int .u8) (by rw[List.getElem?_replicate,if_pos hi])
   exact⟨z,by rw[e1,e2],e3,e4⟩
  refine⟨zs,hl,List.ext_getElem? fun i=>?_,fun z hz=>?_⟩
  ·unfold u8s
   by_cases hi:i<n
   ·have hg:=Jr (l:=zs) (i:=i) oM
    rw[Kr,(hp i _ hg).1,hg];rfl
   ·rw[lX9 oM,lX9 (by simp;omega)]
  ·obtain⟨i,hi⟩:=List.mem_iff_getElem?.1 hz
   exact(hp i z hi).2
noncomputable def Gmr:Array Field:=match Go.Proofs.Tryz.prog.underlying 27 with
 |some (.struct fs)=>fs
 |_=>#[]
theorem u27:Go.Proofs.Tryz.prog.underlying 27=some (.struct Gmr):=by kernel_rfl
theorem GhM:Go.Proofs.Tryz.prog.cellTypes Go.Proofs.Tryz.prog.depth 27=some [5,5,22,23,24,25,23]:=by kernel_rfl
theorem Gdx:[5,5,22,23,24,25,23].length=Go.Proofs.Tryz.prog.cellsOf 27:=by kernel_rfl
theorem MG{i t o:Nat}(h:(Gmr[i]?).map (fun f=>(f.type,f.offset))=some (t,o)):∃f,Gmr[i]?=some f∧f.type=t∧f.offset=o:=by
 rw[GD]at h
 obtain⟨f,h1,h2⟩:=h
 simp only[Prod.mk.injEq]at h2
 exact⟨f,h1,h2.1,h2.2⟩
noncomputable def e25:TypeId:=match Go.Proofs.Tryz.prog.underlying 25 with
 |some (.slice e)=>e
 |_=>0
theorem u25:Go.Proofs.Tryz.prog.underlying 25=some (.slice e25):=by kernel_rfl
theorem Io{H:Type}{enc:TypeId×Value→H}{W:World}{base:Nat}{r:Reach}{b0:Nat}{held:Bool}{v:Value}{d:DataW H}{ps:List MemPlace}{w:Value}{dw:DataW H}{pw:List MemPlace}
  (hval:Value.okWide Go.Proofs.Tryz.prog W r b0 27 v)(hd:DataW.Trod enc Go.Proofs.Tryz.prog W base (fun _=>true) held 27 v d ps)
  (Gok:Value.okWide Go.Proofs.Tryz.prog W r b0 25 w)(hd7:DataW.Trod enc Go.Proofs.Tryz.prog W base (fun _=>true) held 25 w dw pw):
  ∃(bl mu:Int)(x:Nat→CV)(blks:List JE)(tgs:List (Option Z6))(y:CV)(rs:List (List CV)),tgs.length=blks.length∧(∀b blk,blks[b]?=some blk→Gc3 W blk (tgs.getD b none))∧
   V (fun b=>tgs.getD b none) (.agg [.int .u8 bl,.int .u8 mu,x 2,x 3,x 4,x 5,x 6]) v∧V (fun b=>tgs.getD b none) y w∧Beg (blks++[⟨[.int .u8 bl,.int .u8 mu,x 2,x 3,x 4,x 5,x 6],.rw,0⟩]) bl mu x∧Sl blks y 2 rs∧Gp y<blks.length+1∧U8R 2 rs:=by
 obtain⟨a,rfl⟩:∃a,v=.agg a:=by
  have h:=hval
  unfold Value.okWide at h
  rw[u27]at h
  obtain⟨a,ha,-⟩:=h
  exact⟨a,ha⟩
 have hsz:a.size=7:=by
  have h:=hval
  unfold Value.okWide at h
  rw[u27]at h
  obtain⟨a',ha,hs,-⟩:=h
  simp only[Value.agg.injEq]at ha
  subst ha
  rw[hs,←Gdx];rfl
 obtain⟨f0,e0,t0,o0⟩:=MG (i:=0) (t:=5) (o:=0) (by kernel_rfl)
 obtain⟨f1,e1,t1,o1⟩:=MG (i:=1) (t:=5) (o:=1) (by kernel_rfl)
 obtain⟨f2,e2,t2,o2⟩:=MG (i:=2) (t:=22) (o:=2) (by kernel_rfl)
 obtain⟨f3,e3,t3,o3⟩:=MG (i:=3) (t:=23) (o:=3) (by kernel_rfl)
 obtain⟨f4,e4,t4,o4⟩:=MG (i:=4) (t:=24) (o:=4) (by kernel_rfl)
 obtain⟨f5,e5,t5,o5⟩:=MG (i:=5) (t:=25) (o:=5) (by kernel_rfl)
 obtain⟨f6,e6,t6,o6⟩:=MG (i:=6) (t:=23) (o:=6) (by kernel_rfl)
 obtain⟨bl,a0,w0⟩:=Pt (k:=.u8) u27 hd e0 (by rw[t0];kernel_rfl) (by rw[t0];kernel_rfl)
 obtain⟨mu,a1,w1⟩:=Pt (k:=.u8) u27 hd e1 (by rw[t1];kernel_rfl) (by rw[t1];kernel_rfl)
 obtain⟨u2,_,_,a2,v2,d2⟩:=Au (e:=80) u27 GhM Gdx hval hd e2 (by rw[t2];kernel_rfl) (by rw[o2,t2];rfl) (by rw[t2];kernel_rfl)
 obtain⟨u3,_,_,a3,v3,d3⟩:=Au (e:=5) u27 GhM Gdx hval hd e3 (by rw[t3];kernel_rfl) (by rw[o3,t3];rfl) (by rw[t3];kernel_rfl)
 obtain⟨u4,_,_,a4,v4,d4⟩:=Au (e:=92) u27 GhM Gdx hval hd e4 (by rw[t4];kernel_rfl) (by rw[o4,t4];rfl) (by rw[t4];kernel_rfl)
 obtain⟨u5,_,_,a5,v5,d5⟩:=Au (e:=97) u27 GhM Gdx hval hd e5 (by rw[t5];kernel_rfl) (by rw[o5,t5];rfl) (by rw[t5];kernel_rfl)
 obtain⟨u6,_,_,a6,v6,d6⟩:=Au (e:=5) u27 GhM Gdx hval hd e6 (by rw[t6];kernel_rfl) (by rw[o6,t6];rfl) (by rw[t6];kernel_rfl)
 rw[o0]at a0;rw[o1]at a1;rw[o2]at a2;rw[o3]at a3;rw[o4]at a4;rw[o5]at a5;rw[o6]at a6
 rw[t2]at v2 d2;rw[t3]at v3 d3;rw[t4]at v4 d4;rw[t5]at v5 d5;rw[t6]at v6 d6
 obtain⟨c2,k2,g2,l2,x2,y2,s2,z2⟩:=Ul (n:=6) (ks:=List.replicate 4 (.int .u8)) (t:=22) (e:=80) (by kernel_rfl) (by kernel_rfl) (by kernel_rfl) dE v2 d2
 obtain⟨c3,k3,g3,l3,x3,y3,s3,z3⟩:=Ul (n:=6) (ks:=List.replicate 1 (.int .u8)) (t:=23) (e:=5) (by kernel_rfl) (by kernel_rfl) (by kernel_rfl) dE v3 d3
 obtain⟨c4,k4,g4,l4,x4,y4,s4,z4⟩:=Ul (n:=6) (ks:=List.replicate 3 (.int .u8)) (t:=24) (e:=92) (by kernel_rfl) (by kernel_rfl) (by kernel_rfl) dE v4 d4
 obtain⟨c5,k5,g5,l5,x5,y5,s5,z5⟩:=Ul (n:=6) (ks:=List.replicate 2 (.int .u8)) (t:=25) (e:=97) (by kernel_rfl) (by kernel_rfl) (by kernel_rfl) dE v5 d5
 obtain⟨c6,k6,g6,l6,x6,y6,s6,z6⟩:=Ul (n:=6) (ks:=List.replicate 1 (.int .u8)) (t:=23) (e:=5) (by kernel_rfl) (by kernel_rfl) (by kernel_rfl) dE v6 d6
 obtain⟨c7,k7,g7,l7,x7,y7,s7,z7⟩:=Ul (n:=6) (ks:=List.replicate 2 (.int .u8)) (t:=25) (e:=e25) u25 (by kernel_rfl) (by kernel_rfl) dE Gok hd7
 obtain⟨r1,r2,r3⟩:=Eo (H:=[k2,k3,k4,k5,k6,k7]) (j:=5) dE s7 z7 rfl
 refine⟨bl,mu,fun i=>match i with|2=>c2 0|3=>c3 1|4=>c4 2|5=>c5 3|_=>c6 4,[k2,k3,k4,k5,k6,k7],[g2,g3,g4,g5,g6,g7],c7 5,l7,rfl,fun b blk hb=>?_,?_,x7 5 _ rfl,⟨w0,w1,fun i n hi=>?_⟩,r1,Nat.lt_of_le_of_lt r2 sM,r3⟩
 ·match b,hb with
  |0,hb=>simp at hb;subst hb;exact y2
  |1,hb=>simp at hb;subst hb;exact y3
  |2,hb=>simp at hb;subst hb;exact y4
  |3,hb=>simp at hb;subst hb;exact y5
  |4,hb=>simp at hb;subst hb;exact y6
  |5,hb=>simp at hb;subst hb;exact y7
  |n+6,hb=>simp at hb
 ·simp only[V]
  refine⟨a,rfl,VL.Aq (by simp[hsz]) fun i c hi=>?_⟩
  match i,hi with
  |0,hi=>simp at hi;subst hi;exact⟨_,by simpa using a0,by simp[V]⟩
  |1,hi=>simp at hi;subst hi;exact⟨_,by simpa using a1,by simp[V]⟩
  |2,hi=>simp at hi;subst hi;exact⟨_,by simpa using a2,x2 0 _ rfl⟩
  |3,hi=>simp at hi;subst hi;exact⟨_,by simpa using a3,x3 1 _ rfl⟩
  |4,hi=>simp at hi;subst hi;exact⟨_,by simpa using a4,x4 2 _ rfl⟩
  |5,hi=>simp at hi;subst hi;exact⟨_,by simpa using a5,x5 3 _ rfl⟩
  |6,hi=>simp at hi;subst hi;exact⟨_,by simpa using a6,x6 4 _ rfl⟩
  |n+7,hi=>simp at hi
 ·match i,hi with
  |0,hi=>simp at hi;subst hi;obtain⟨p1,p2,p3⟩:=Eo (H:=[k2,k3,k4,k5,k6,k7]++[⟨[.int .u8 bl,.int .u8 mu,c2 0,c3 1,c4 2,c5 3,c6 4],.rw,0⟩]) (j:=0) dE s2 z2 rfl;exact⟨l2,p1,Nat.lt_of_le_of_lt p2 sM,p3⟩
  |1,hi=>simp at hi;subst hi;obtain⟨p1,p2,p3⟩:=Eo (H:=[k2,k3,k4,k5,k6,k7]++[⟨[.int .u8 bl,.int .u8 mu,c2 0,c3 1,c4 2,c5 3,c6 4],.rw,0⟩]) (j:=1) dE s3 z3 rfl;exact⟨l3,p1,Nat.lt_of_le_of_lt p2 sM,p3⟩
  |2,hi=>simp at hi;subst hi;obtain⟨p1,p2,p3⟩:=Eo (H:=[k2,k3,k4,k5,k6,k7]++[⟨[.int .u8 bl,.int .u8 mu,c2 0,c3 1,c4 2,c5 3,c6 4],.rw,0⟩]) (j:=2) dE s4 z4 rfl;exact⟨l4,p1,Nat.lt_of_le_of_lt p2 sM,p3⟩
  |3,hi=>simp at hi;subst hi;obtain⟨p1,p2,p3⟩:=Eo (H:=[k2,k3,k4,k5,k6,k7]++[⟨[.int .u8 bl,.int .u8 mu,c2 0,c3 1,c4 2,c5 3,c6 4],.rw,0⟩]) (j:=3) dE s5 z5 rfl;exact⟨l5,p1,Nat.lt_of_le_of_lt p2 sM,p3⟩
  |4,hi=>simp at hi;subst hi;obtain⟨p1,p2,p3⟩:=Eo (H:=[k2,k3,k4,k5,k6,k7]++[⟨[.int .u8 bl,.int .u8 mu,c2 0,c3 1,c4 2,c5 3,c6 4],.rw,0⟩]) (j:=4) dE s6 z6 rfl;exact⟨l6,p1,Nat.lt_of_le_of_lt p2 sM,p3⟩
  |n+5,hi=>simp at hi
theorem GoY{bl mu:Int}{x:Nat→CV}{blks:List JE}{y:CV}{rs:List (List CV)}(b:Beg (blks++[⟨[.int .u8 bl,.int .u8 mu,x 2,x 3,x 4,x 5,x 6],.rw,0⟩]) bl mu x)(hs:Sl blks y 2 rs)(hb:Gp y<blks.length+1)(hu:U8R 2 rs){n:Int}(hn:(Lit.int .u8 n).wf=true):∃H1,run (K7 Go.Proofs.Tryz.prog) 4 [.agg [.int .u8 bl,.int .u8 mu,x 2,x 3,x 4,x 5,x 6],y,.int .u8 n] blks=some (.bool true,H1):=
 GgX b (QA hs (Gr.app _ _)) hb hu (by
  simp only[Lit.wf,NH,decide_eq_true_eq]at hn
  exact⟨hn.1,hn.2⟩) fun G=>Geu (H:=G)
end Go.Cs.Tryz
namespace Go.Proofs
open Go.Shelf
def Tryz.keysA_ren:Go.Shelf.Ren:=⟨fun|7=>78|10=>168|n=>n,fun|23=>102|26=>3|3=>4|28=>129|0=>0|27=>128|33=>117|4=>4|n=>n,fun|n=>n⟩
theorem Tryz.keysA:Go.Proofs.SlLaysZI.n7 Tryz.prog Tryz.keysA_ren:={
 mixed:=by kernel_rfl
 f7:=⟨Tryz.f78.name,by decide,Tryz.func78.trans (congrArg some (by kernel_rfl))⟩
 f10:=⟨Tryz.f168.name,by decide,Tryz.func168.trans (congrArg some (by kernel_rfl))⟩
 t0:=Tryz.underlying0
 a0:=Tryz.isAgg0
 z0:=Tryz.sizeOf0
 v0:=Tryz.zeroValue0
 t4:=Tryz.underlying4
 a4:=Tryz.isAgg4
 z4:=Tryz.sizeOf4
 v4:=Tryz.zeroValue4
 t23:=Tryz.underlying102
 a23:=Tryz.isAgg102
 z23:=Tryz.sizeOf102
 v23:=Tryz.zeroValue102
 t26:=Tryz.underlying3
 a26:=Tryz.isAgg3
 z26:=Tryz.sizeOf3
 v26:=Tryz.zeroValue3
 t27:=Tryz.underlying128
 a27:=Tryz.isAgg128
 z27:=Tryz.sizeOf128
 v27:=Tryz.zeroValue128
 t28:=Tryz.underlying129
 a28:=Tryz.isAgg129
 z28:=Tryz.sizeOf129
 v28:=Tryz.zeroValue129
 t33:=Tryz.underlying117
 a33:=Tryz.isAgg117
 z33:=Tryz.sizeOf117
 v33:=Tryz.zeroValue117}
def Tryz.sortedA_ren:Go.Shelf.Ren:=⟨fun|6=>77|8=>167|9=>136|11=>239|13=>221|12=>220|23=>274|24=>275|14=>265|15=>266|16=>267|17=>268|18=>269|19=>270|20=>271|21=>272|22=>273|25=>294|26=>295|27=>296|28=>297|29=>298|30=>299|31=>305|n=>n,fun|26=>3|28=>129|24=>31|0=>0|3=>3|37=>239|48=>269|50=>245|4=>4|40=>263|39=>262|45=>156|5=>5|9=>9|51=>281|55=>205|57=>288|58=>289|33=>117|n=>n,fun|n=>n⟩
theorem Tryz.sortedA:Go.Proofs.SlLaysZI.n6 Tryz.prog Tryz.sortedA_ren:={
 mixed:=by kernel_rfl
 f6:=⟨Tryz.f77.name,by decide,Tryz.func77.trans (congrArg some (by kernel_rfl))⟩
 f8:=⟨Tryz.f167.name,by decide,Tryz.func167.trans (congrArg some (by kernel_rfl))⟩
 f11:=⟨Tryz.f239.name,by decide,Tryz.func239.trans (congrArg some (by kernel_rfl))⟩
 t0:=Tryz.underlying0
 a0:=Tryz.isAgg0
 z0:=Tryz.sizeOf0
 v0:=Tryz.zeroValue0
 t24:=Tryz.underlying31
 a24:=Tryz.isAgg31
 z24:=Tryz.sizeOf31
 v24:=Tryz.zeroValue31
 t26:=Tryz.underlying3
 a26:=Tryz.isAgg3
 z26:=Tryz.sizeOf3
 v26:=Tryz.zeroValue3
 t28:=Tryz.underlying129
 a28:=Tryz.isAgg129
 z28:=Tryz.sizeOf129
 v28:=Tryz.zeroValue129
 i26:=by kernel_rfl}
def Tryz.sortA_ren:Go.Shelf.Ren:=⟨fun|5=>136|8=>221|7=>220|19=>274|20=>275|10=>265|11=>266|12=>267|13=>268|14=>269|15=>270|16=>271|17=>272|18=>273|30=>294|31=>295|32=>296|33=>297|34=>298|35=>299|40=>305|n=>n,fun|23=>31|25=>3|3=>3|32=>239|22=>31|0=>0|44=>269|46=>245|4=>4|36=>263|35=>262|41=>156|5=>5|9=>9|53=>281|57=>205|63=>288|64=>289|n=>n,fun|n=>n⟩
theorem Tryz.sortA:Go.Proofs.SlLaysM.n5 Tryz.prog Tryz.sortA_ren:={
 mixed:=by kernel_rfl
 f5:=⟨Tryz.f136.name,by decide,Tryz.func136.trans (congrArg some (by kernel_rfl))⟩
 f7:=⟨Tryz.f220.name,by decide,Tryz.func220.trans (congrArg some (by kernel_rfl))⟩
 f8:=Tryz.func221.trans (congrArg some (by kernel_rfl))
 f10:=⟨Tryz.f265.name,by decide,Tryz.func265.trans (congrArg some (by kernel_rfl))⟩
 f11:=⟨Tryz.f266.name,by decide,Tryz.func266.trans (congrArg some (by kernel_rfl))⟩
 f12:=⟨Tryz.f267.name,by decide,Tryz.func267.trans (congrArg some (by kernel_rfl))⟩
 f13:=⟨Tryz.f268.name,by decide,Tryz.func268.trans (congrArg some (by kernel_rfl))⟩
 f14:=⟨Tryz.f269.name,by decide,Tryz.func269.trans (congrArg some (by kernel_rfl))⟩
 f15:=⟨Tryz.f270.name,by decide,Tryz.func270.trans (congrArg some (by kernel_rfl))⟩
 f16:=⟨Tryz.f271.name,by decide,Tryz.func271.trans (congrArg some (by kernel_rfl))⟩
 f17:=⟨Tryz.f272.name,by decide,Tryz.func272.trans (congrArg some (by kernel_rfl))⟩
 f18:=⟨Tryz.f273.name,by decide,Tryz.func273.trans (congrArg some (by kernel_rfl))⟩
 f19:=Tryz.func274.trans (congrArg some (by kernel_rfl))
 f20:=Tryz.func275.trans (congrArg some (by kernel_rfl))
 f30:=⟨Tryz.f294.name,by decide,Tryz.func294.trans (congrArg some (by kernel_rfl))⟩
 f31:=Tryz.func295.trans (congrArg some (by kernel_rfl))
 f32:=Tryz.func296.trans (congrArg some (by kernel_rfl))
 f33:=⟨Tryz.f297.name,by decide,Tryz.func297.trans (congrArg some (by kernel_rfl))⟩
 f34:=⟨Tryz.f298.name,by decide,Tryz.func298.trans (congrArg some (by kernel_rfl))⟩
 f35:=⟨Tryz.f299.name,by decide,Tryz.func299.trans (congrArg some (by kernel_rfl))⟩
 f40:=⟨Tryz.f305.name,by decide,Tryz.func305.trans (congrArg some (by kernel_rfl))⟩
 t0:=Tryz.underlying0
 a0:=Tryz.isAgg0
 z0:=Tryz.sizeOf0
 v0:=Tryz.zeroValue0
 t3:=Tryz.underlying3
 a3:=Tryz.isAgg3
 z3:=Tryz.sizeOf3
 v3:=Tryz.zeroValue3
 t4:=Tryz.underlying4
 a4:=Tryz.isAgg4
 z4:=Tryz.sizeOf4
 v4:=Tryz.zeroValue4
 t5:=Tryz.underlying5
 a5:=Tryz.isAgg5
 z5:=Tryz.sizeOf5
 v5:=Tryz.zeroValue5
 t9:=Tryz.underlying9
 a9:=Tryz.isAgg9
 z9:=Tryz.sizeOf9
 v9:=Tryz.zeroValue9
 t22:=Tryz.underlying31
 a22:=Tryz.isAgg31
 z22:=Tryz.sizeOf31
 v22:=Tryz.zeroValue31
 t23:=Tryz.underlying31
 a23:=Tryz.isAgg31
 z23:=Tryz.sizeOf31
 v23:=Tryz.zeroValue31
 t25:=Tryz.underlying3
 a25:=Tryz.isAgg3
 z25:=Tryz.sizeOf3
 v25:=Tryz.zeroValue3
 t32:=Tryz.underlying239
 a32:=Tryz.isAgg239
 z32:=Tryz.sizeOf239
 v32:=Tryz.zeroValue239
 t35:=Tryz.underlying262
 a35:=Tryz.isAgg262
 z35:=Tryz.sizeOf262
 v35:=Tryz.zeroValue262
 t36:=Tryz.underlying263
 a36:=Tryz.isAgg263
 z36:=Tryz.sizeOf263
 v36:=Tryz.zeroValue263
 t41:=Tryz.underlying156
 a41:=Tryz.isAgg156
 z41:=Tryz.sizeOf156
 v41:=Tryz.zeroValue156
 t44:=Tryz.underlying269
 a44:=Tryz.isAgg269
 z44:=Tryz.sizeOf269
 v44:=Tryz.zeroValue269
 t46:=Tryz.underlying245
 a46:=Tryz.isAgg245
 z46:=Tryz.sizeOf245
 v46:=Tryz.zeroValue245
 t53:=Tryz.underlying281
 a53:=Tryz.isAgg281
 z53:=Tryz.sizeOf281
 v53:=Tryz.zeroValue281
 t57:=Tryz.underlying205
 a57:=Tryz.isAgg205
 z57:=Tryz.sizeOf205
 v57:=Tryz.zeroValue205
 t63:=Tryz.underlying288
 a63:=Tryz.isAgg288
 z63:=Tryz.sizeOf288
 v63:=Tryz.zeroValue288
 t64:=Tryz.underlying289
 a64:=Tryz.isAgg289
 z64:=Tryz.sizeOf289
 v64:=Tryz.zeroValue289}
end Go.Proofs
namespace Go.Cs.Tryz
open Go Go.Cs Go.Proofs Go.RowKit Go.Maps Go.Sort Go.Shelf
open Go.WideElems (Fit rd rg rg_of)
theorem Gpr:Ghv Go.Proofs.Tryz.prog 136:=
 ⟨fun blk off cap zs w hH hblk hsz=>AnyM.slices_Sort_int Go.Proofs.Tryz.sortA blk off cap zs w hH hblk oM,fun p cap w=>AnyM.slices_Sort_int_none Go.Proofs.Tryz.sortA p cap w⟩
theorem Glz(m:Nat):AnyZI.SortsIn Go.Proofs.Tryz.prog Go.Proofs.Tryz.sortedA_ren Fence.wide m:=
 ⟨fun blk off cap ss W hH hblk hsz=>callsIn_wide.2 (AnyM.slices_Sort_int Go.Proofs.Tryz.sortA blk off cap ss W hH hblk hsz),
  fun p cap W=>callsIn_wide.2 (AnyM.slices_Sort_int_none Go.Proofs.Tryz.sortA p cap W)⟩
def RX:Value→Option (DataW Unit×List MemPlace):=fun _=>some (.lit (.bool true),[])
theorem Gnh{n:Int}(h:FU n=true):Go.keyOf Go.Proofs.Tryz.prog 3 (.int .i64 n)=some (.int .i64 n):=by
 have hw:(Lit.int .i64 n).wf=true:=h
 simp[Go.keyOf,hw,show Go.Proofs.Tryz.prog.underlying 3=some (.int .i64)from by kernel_rfl,mapKey]
theorem GoJ:Gfz Go.Proofs.Tryz.prog 77 168:=by
 intro w Bm b es cl ks hcell hb hst hkeys hlen hrange hBm
 have hsz:es.size=ks.length:=by have:=congrArg List.length hkeys;simpa using this
 have hmem:∀x∈es.toList,∃n,n∈ks∧x.key=.int .i64 n:=by
  intro x hx
  have:x.key∈ks.map (Value.int .i64):=by rw[←hkeys];exact List.mem_map_of_mem hx
  obtain⟨n,hn,e⟩:=KI.1 this
  exact⟨n,hn,e.symm⟩
 have hin:∀n∈ks,FU n=true:=fun n hn=>List.all_eq_true.1 hrange n hn
 have hrd:∀(x:MapEntry)(n:Int),n∈ks→x.key=.int .i64 n→rd Go.Proofs.Tryz.prog 3 RX x=some (.int .i64 n,.lit (.bool true)):=by
  intro x n hn hx
  simp[Go.WideElems.rd,hx,Gnh (hin n hn),RX]
 have hown:w.ownsMap Go.Proofs.Tryz.prog 3 RX b es.size (.map ((es.toList.map (rg Go.Proofs.Tryz.prog 3 RX)).foldr DataW.insert [])):=
  ⟨es,cl,hb,⟨by rw[hsz];exact J2 hlen dE,hst,fun x hx=>by obtain⟨n,hn,e⟩:=hmem x hx;exact⟨_,hrd x n hn e⟩⟩,Nat.le_refl _,rfl⟩
 generalize hD:(DataW.map ((es.toList.map (rg Go.Proofs.Tryz.prog 3 RX)).foldr DataW.insert []):DataW Unit)=D0 at hown
 have hsize:Maps.size D0=es.size:=by rw[←hD];simp[Maps.size,length_sorted]
 have hperm:(intKeys D0).Perm ks:=by
  rw[←hD]
  have h1:(((es.toList.map (rg Go.Proofs.Tryz.prog 3 RX)).foldr DataW.insert []).map fun p=>intOf p.1).Perm ((es.toList.map (rg Go.Proofs.Tryz.prog 3 RX)).map fun p=>intOf p.1):=(WideShapes.sorted_perm _).map _
  refine h1.trans ?_
  have h2:(es.toList.map (rg Go.Proofs.Tryz.prog 3 RX)).map (fun p=>intOf p.1)=ks:=by
   have h3:∀(l:List MapEntry)(k:List Int),(∀n∈k,n∈ks)→l.map (·.key)=k.map (Value.int .i64)→(l.map (rg Go.Proofs.Tryz.prog 3 RX)).map (fun p=>intOf p.1)=k:=by
    intro l
    induction l with
    |nil=>intro k _ hk;cases k with
     |nil=>rfl
     |cons a k=>simp at hk
    |cons x l ih=>
     intro k hin2 hk
     cases k with
     |nil=>simp at hk
     |cons a k=>
      simp only[List.map_cons,List.cons.injEq]at hk
      simp only[List.map_cons,List.cons.injEq]
      exact⟨by rw[rg_of (hrd x a (hin2 a QT) hk.1)];rfl,ih k (fun n hn=>hin2 n (VA _ hn)) hk.2⟩
   exact h3 _ _ (fun _ h=>h) hkeys
  rw[h2]
 have hseq:SeqGives Fence.wide 2 Go.Proofs.Tryz.prog 168 #[.pointer (some ⟨Bm,0,none⟩)] encZ (fun ss=>ss.Perm (intKeys D0)) (Maps.size D0) w:=
  AnyZI.keys_gives (ρ:=Go.Proofs.Tryz.keysA_ren) {Go.Proofs.Tryz.keysA with} Fence.wide _ trivial rfl oM Bm b es.size D0 w hBm hcell hown
 have cS:=AnyZI.sorted_in Go.Proofs.Tryz.sortedA Fence.wide 5 trivial trivial trivial trivial rfl oM (Glz _) (enters_of Go.Proofs.Tryz.func136 (by kernel_rfl) rfl) 168 #[.pointer (some ⟨Bm,0,none⟩)] trivial (enters_of Go.Proofs.Tryz.func168 (by kernel_rfl) rfl) _ _ (by rw[hsize,hsz];exact J2 hlen dE) (by rw[hsize,hsz];omega) w hseq
 change CallsIn _ _ Go.Proofs.Tryz.prog 77 _ _ _ at cS
 refine(callsIn_wide.1 cS).mono ?_
 rintro e w' ⟨v,ss,rfl,hS,hrow,hnil,hbel⟩
 have hp:ss.Perm ks:=hS.trans hperm
 have hsort:ss.mergeSort (fun x y=>decide (x≤y))=ks.mergeSort (fun x y=>decide (x≤y)):=by
  rw[Qo,Qo]
  exact DR ((Uo ss).trans hp) (QX ss)
 refine⟨v,rfl,hbel,?_⟩
 have hl:ss.length=ks.length:=hp.length_eq
 rcases hrow.2 with⟨rfl,h0⟩|⟨g,cap,cur,rfl,h1,h2,h3,h4,h5,h6⟩
 ·exact .inl ⟨AV oM,rfl⟩
 ·refine .inr ⟨fun e=>?_,g,cap,cur,_,by rw[hl],h1,h2,oM,by rw[h5,Nat.mul_one],?_⟩
  ·have:ss=[]:=AV (by rw[hl,e];rfl)
   have:=hnil.2 this
   cases this
  ·rw[←hl,←Nat.mul_one ss.length,h6,hsort]
theorem GjN:D9 Go.Proofs.Tryz.prog:=by
 intro f fn hfn
 have hall:((List.range Go.Proofs.Tryz.prog.funcs.size).all fun i=>match Go.Proofs.Tryz.prog.funcs[i]? with|some fn=>(!isSort fn||i==136)&&(!isSorted fn||i==77)|none=>true)=true:=by kernel_rfl
 have hf:f<Go.Proofs.Tryz.prog.funcs.size:=(Vo.1 hfn).1
 have h1:=List.all_eq_true.1 hall f (List.mem_range.2 hf)
 rw[hfn]at h1
 simp only[NH,Bool.or_eq_true,Bool.not_eq_true',beq_iff_eq]at h1
 refine⟨fun h=>?_,fun h g hg=>?_⟩
 ·rcases h1.1 with h2|rfl
  ·rw[h]at h2;cases h2
  ·exact Gpr
 ·rcases h1.2 with h2|rfl
  ·rw[h]at h2;cases h2
  ·have hk:GaZ Go.Proofs.Tryz.prog=some 168:=by kernel_rfl
   rw[hk]at hg
   simp only[GA]at hg
   subst hg
   exact GoJ
end Go.Cs.Tryz
namespace Go.Proofs.YthlemjiphedjgaaGreat.pinHeld
open Go Go.Cs Go.ChangeShapes Go.WideShapes Go.ChangeAt Go.RowKit
set_option linter.unusedVariables false
theorem own:ownKnob Tryz.prog.godebug=none:=by kernel_rfl
theorem laidOut:laidOutB Tryz.prog=true:=by kernel_rfl
theorem GlQ(W:World):ZR Tryz.prog W:=fun g zs hz=>by
 have hm:g∈((List.range Tryz.prog.globals.size).filter fun g=>(EF Tryz.prog g).isSome):=by
  refine List.mem_filter.2 ⟨List.mem_range.2 ?_,by rw[hz];rfl⟩
  unfold EF at hz
  rw[Jk]at hz
  obtain⟨x,hx,-⟩:=hz
  exact(Vo.1 hx).1
 rw[show((List.range Tryz.prog.globals.size).filter fun g=>(EF Tryz.prog g).isSome)=[]from by kernel_rfl]at hm
 cases hm
theorem follows:Tryz.prog.follows .mixedOrders=true:=by kernel_rfl
set_option maxRecDepth 100000 in
theorem lifted(os:Os)(started:os.Started)(H:Type)(enc:TypeId×Value→H):
  ReturnsInHanded {} Tryz.checked os 4 .any (Rows.pinHeldSpec.pre6 enc Tryz.prog Tryz.f4 Rows.pinHeldRow.domain false) (Rows.pinHeldSpec.post enc Tryz.prog Tryz.f4 false true false false):=by
 refine returnsInHanded_of_change_sized (C:=Tryz.checked) own started (by kernel_rfl) Tryz.func4
  (ChangeSpec.witness6 (enc:=enc) (C:=Tryz.checked) false ⟨#[],#[.agg #[.int .u8 0,.int .u8 0,.slice none 0 0,.slice none 0 0,.slice none 0 0,.slice none 0 0,.slice none 0 0],.slice none 0 0,.int .u8 0],[]⟩ 8 (by kernel_rfl) (by kernel_rfl) (by kernel_rfl) (by kernel_rfl)) ?_
 intro W base args ds gs before hval0 hW hcnd hsz0 _
 have hval:∀(j:Nat) t v,Tryz.f4.params[j]?=some t→args[j]?=some v→Value.okWide Tryz.prog W .any base t v:=hval0
 have hW':=hW
 obtain⟨p,q,hA0,hV,rfl,hfz,hnd⟩:=hW
 have hA:DataW.TrodAll enc Tryz.prog W 0 (fun _=>true) true Tryz.f4.params.toList args.toList ds p:=hA0
 rw[Tryz.params4]at hA hval
 clear hA0 hval0 hsz0 hcnd
 obtain⟨v0,vs0,d0,ds0,p0,q0,hargs,rfl,rfl,h0,r0⟩:=trodAll_cons hA
 obtain⟨v1,vs1,d1,ds1,p1,q1,rfl,rfl,rfl,h1,r1⟩:=trodAll_cons r0
 obtain⟨v2,vs2,d2,ds2,p2,q2,rfl,rfl,rfl,h2,r2⟩:=trodAll_cons r1
 obtain⟨rfl,rfl,rfl⟩:=trodAll_nil r2
 obtain rfl:args=#[v0,v1,v2]:=by cases args;simp_all
 obtain⟨rfl,rfl⟩:=trodVars_none hV
 have lt0:∀x∈p0,x.block<W.heap.size:=by obtain⟨m,hm⟩:=h0;exact DataW.trod_lt m _ _ _ hm
 obtain⟨bl0,mu0,x0,bs0,tg0,y1,rs1,ge0,bk0,vx0,vx1,bg0,sl1,u1⟩:=Go.Cs.Tryz.Io (hval 0 27 v0 rfl rfl) h0 (hval 1 25 v1 rfl rfl) h1
 have lt1:∀x∈p1,x.block<W.heap.size:=by obtain⟨m,hm⟩:=h1;exact DataW.trod_lt m _ _ _ hm
 obtain⟨x2,rfl,rfl,rfl,w2⟩:=open_int (k:=.u8) (show Tryz.prog.underlying 5=some (.int .u8)from by kernel_rfl) (hval 2 5 v2 rfl rfl) h2
 obtain⟨H1,hrun⟩:∃H1,run (K7 Tryz.prog) 4 [.agg [.int .u8 bl0,.int .u8 mu0,x0 2,x0 3,x0 4,x0 5,x0 6],y1,.int .u8 x2] bs0=some (.bool true,H1):=Go.Cs.Tryz.GoY bg0 sl1 u1.1 u1.2 w2
 have hb:∀b blk,bs0[b]?=some blk→Gc3 W blk (tg0.getD b none):=bk0
 refine(GeO follows Go.Cs.Tryz.GjN (GlQ W) dE (tgs:=tg0) (W:=W) (args':=#[v0,v1,.int .u8 x2]) ge0 hb hrun ?_).mono fun e W' he=>?_
 ·simp only[VL]
  exact⟨_,_,rfl,vx0,⟨_,_,rfl,vx1,⟨_,_,rfl,by simp[V],rfl⟩⟩⟩
 obtain⟨⟨ν,v',rfl,hv'⟩,bel⟩:=he
 simp only[V]at hv'
 subst hv'
 exact⟨_,rfl,_,_,_,[],_,[],hW',trodAll_mk1 (shut_bool (show Tryz.prog.underlying 4=some .bool from by kernel_rfl) _),(trodAll_cons_mk (Below.trod laidOut (by kernel_rfl) (of_decide_eq_true (by kernel_rfl)) h0 bel lt0) (trodAll_cons_mk (Below.trod laidOut (by kernel_rfl) (of_decide_eq_true (by kernel_rfl)) h1 bel lt1) (trodAll_cons_mk (shut_int (show Tryz.prog.underlying 5=some (.int .u8)from by kernel_rfl) w2) trodAll_mk0))),rfl,bel.frame _,fun h=>by cases h⟩
theorem over:Rows.pinHeldRow.holds Tryz.pinned (OpenSpec.ofChange Rows.pinHeldSpec):=
 OpenClaim.holds_of_wide 4 Tryz.f4 rfl rfl rfl rfl rfl rfl rfl ⟨rfl,rfl,rfl,rfl,rfl⟩ rfl rfl rfl rfl rfl (by kernel_rfl) Tryz.func4 (by kernel_rfl)
  (of_decide_eq_true (by kernel_rfl)) (by unfold Func.isWrapper;first|(rw[if_pos dK];kernel_rfl)|(rw[if_neg dK];exact⟨rfl,rfl⟩))
  (fun os started H enc _=>lifted os started H enc)
end Go.Proofs.YthlemjiphedjgaaGreat.pinHeld
namespace Go.Proofs.YthlemjiphedjgaaGreat
theorem pinHeld_holds:Rows.PinHeldSaid:=pinHeld.over
#print axioms pinHeld_holds
end Go.Proofs.YthlemjiphedjgaaGreat
