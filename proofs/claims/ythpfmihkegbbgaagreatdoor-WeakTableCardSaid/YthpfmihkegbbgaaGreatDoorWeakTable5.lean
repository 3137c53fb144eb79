/- WeakTable returns true for every input: Get after Put is the value, and changes no other key; Remove takes one entry out; Entries are just those that were put and not removed (P19.3, P19.7). At most 40 rows Conditions: none. -/
import Derived.Test.YthpfmihkegbbgaaGreatDoorWeakTable4
import Derived.Test.YthpfmihkegbbgaaGreatDoorProg
import Derived.KernelRfl
import Derived.Shelf.SlIterI.Nil
import Derived.Shelf.SortM.Plain
import Derived.Shelf.SortM.SortNone
import Derived.Ground.GgzProg
import Derived.Ground.SlgmProg
import Derived.Test.YthpfmihkegbbgaaGreatDoorRows
import Derived.ProofKit
import Derived.LaidMore
import Derived.OpenShut
import Derived.MakeChecks
import Derived.Test.YthpfmihkegbbgaaGreatDoorCards
import Derived.Test.YthpfmihkegbbgaaGreatDoorTie
import Derived.WalkKit
import Derived.ShutString
import Derived.ChangeOld
import Derived.Below
import Derived.SizedLaws
import Derived.Carry
set_option linter.unusedVariables false
set_option linter.unusedSimpArgs false
set_option linter.defProp false
set_option maxRecDepth 100000
namespace Go.Cs
open Go
section
variable {s : Hp} {head : Int} {C : List (List JY)} {W : List (Int × Int)} {A : List Int} {n : Nat}
theorem GiC{s:Hp}(k:s.Ok){a id:Int}(h:GQ s.vw a=some id):s.Gjb id=(a,0):=by
 unfold GQ Hp.vw at h
 simp only[Option.map_map,GJ,Function.comp_apply]at h
 obtain⟨o,ho,h1⟩:=h
 obtain⟨q1,q2⟩:=Hp.GV ho
 unfold Hp.Gjb
 cases e:s.objs.find? fun o=>(o.id:Int)==id with
 |none=>
  grind
 |some x=>
  have x1:=List.mem_of_find?_eq_some e
  have x2:=P9 e
  rw[beq_iff_eq]at x2
  have:x=o:=by
   rcases Na k.ids x1 q1 with h|h|h
   ·exact h
   ·omega
   ·omega
  grind
theorem TB.live(t:TB s head C W A n):Z5 (s.walk head).1=W.length:=by
 rw[t.tb.walk t.gd.ok t.gd.h0,t.wn.len,←Ow head 0 C]
 unfold Z5
 rw[List.filter_eq_self.2]
 intro x hx
 obtain⟨tr,h1,-,h3,-⟩:=Ggv hx
 obtain⟨w,h4,h5⟩:=t.wn.co tr h1
 rw[bne_iff_ne,h3]
 intro h0
 have:=t.gd.h0
 rw[←Nk,←h0,h5]at this
 cases this
end
end Go.Cs
namespace Go.Cs.Tryz
open Go Go.Cs
section
variable {H : Gb} {hb : Nat} {s : Hp} {L : G6} {head : Int} {C : List (List JY)} {W : List (Int × Int)} {A : List Int} {n sb k : Nat} {cs : List CV} {v : CV}
theorem Gmi(p:PH H hb s L)(t:TB s head C W A n)(sc:H[sb]?=some ⟨.ptr hb 0::cs,.rw,0⟩) (q:QL k H v W) (hl:W.length≤1000)
  {E0:Env} (h0:E0 0=.ptr sb 0) (h1:E0 1=.i head) (h2:E0 2=v) (h9:E0 9=.i 0) {r:Option (CX×Env×Gb)} (hr:den P (.loop Gdt) E0 H=r):
  ∃E' H',r=some (.exit 0,E',H')∧Gr H H'∧∀t,t∉wr Gdt→E' t=E0 t:=by
 obtain⟨x',E',H',e,-,⟨rfl,g⟩,fr⟩:=Gs (p:=P) (c:=Gdt) (E0:=E0) (H0:=H)
  (fun q E H'=>∃j:Nat,E 9=.i j∧j≤W.length∧q=W.length-j∧Gr H H')
  (fun x' E' H'=>x'=.exit 0∧Gr H H') (by
   rintro q' E H' hE ⟨j,e9,hj,rfl,g⟩
   have e0:=(hE 0 dK).trans h0
   have e1:=(hE 1 dK).trans h1
   have e2:=(hE 2 dK).trans h2
   have qH:=q.keeps g fun _ h=>h.elim
   have hvl:=qH.len H'
   by_cases c:j<W.length
   ·have c':decide ((j:Int)<(W.length:Int))=true:=G7 oM
    have hx:W[j]?=some W[j]:=JG c
    obtain⟨x,hxe⟩:∃x,x=W[j]:=⟨_,rfl⟩
    rw[←hxe]at hx
    have pH:=p.gr g
    have scH:=Gr.get g sc
    obtain⟨b,i1,i2,i3,i4,i5,-,-,-⟩:=qH.at hx
    have ldb:ld H'[b]? (j*2)=some (.i x.1):=by rw[i3,Qm,i4]
    have ldc:ld (some (⟨Zf W,.rw,2⟩:JD)) (j*2)=some (.i x.1):=by rw[Qm,i4]
    have w1:IntKind.i64.wrap ((j:Int)+1)=((j+1:Nat):Int):=Gh oM
    obtain⟨tr,h1',h2',-⟩:=t.wn.ok x (JV hx)
    have ha:=GjF pH t.gd.ok x.1
    rw[GiC t.gd.ok h2']at ha
    obtain⟨H1,v',r1,g1,hv1,hv2⟩:=GcS t pH h2' (JV hx) rfl
    have hi0:=NS (pH.gr g1) t.gd.ok v' hv2
    obtain⟨f2,he2⟩:∃e2,s.Nw v'=(x.2,e2):=by
     rw[Hp.Ew,←hv1]
     cases GQ s.vw v'<;>exact⟨_,rfl⟩
    rw[he2]at hi0
    unfold Q9 at hi0 ha
    have sc1:=Gr.get g1 scH
    have j3:=Gr.get g1 i3
    have ldd:ld H1[b]? (j*2+1)=some (.i x.2):=by rw[j3,Qm,i5]
    have lde:ld (some (⟨Zf W,.rw,2⟩:JD)) (j*2+1)=some (.i x.2):=by rw[Qm,i5]
    apply Gp (k':=W.length-(j+1))
    ·simp(disch:=first|exact dz|fail) only[simprocAttr,Gx,↓reduceIte,Gdt,e0,e1,e2,e9,hvl,c',scH,i1,i2,i3,ldc,ha,r1,sc1,hi0,j3,lde,bne_self_eq_false,w1]
     rfl
    ·omega
    ·exact⟨j+1,uA,oM,rfl,g.trans g1⟩
   ·have c':decide ((j:Int)<(W.length:Int))=false:=G5 oM
    apply Gj (x:=.exit 0)
    ·refine WX ?_
     rfl
    ·simp
    ·exact⟨rfl,g⟩) _ ⟨0,h9,oM,rfl,Keeps.refl _ _⟩
 grind
theorem GbA(p:PH H hb s L)(t:TB s head C W A n)(sc:H[sb]?=some ⟨.ptr hb 0::cs,.rw,0⟩) (q:QL k H v W) (hl:W.length≤1000):∃H',run P 9 [.ptr sb 0,.i head,v] H=some (.bool true,H')∧Gr H H':=by
 obtain⟨u,H1,h1,g1,hu⟩:=SI p t.gd.ok (Ze t.gd) t.gd.h0 t.hl t.of
 rw[t.live]at hu
 have hu1:=hu H1
 have q1:=q.keeps g1 fun _ h=>h.elim
 have hv:=q1.len H1
 rw[Gi c9 _ _ sM]
 refine WX ?_
 generalize hr:den P (.loop Gdt) _ _=r
 obtain⟨E',H2,rfl,g2,fr⟩:=Gmi (p.gr g1) t (Gr.get g1 sc) q1 hl uA uA uA uA hr
 refine⟨H2,?_,Keeps.trans g1 g2⟩
 exact W0
end
end Go.Cs.Tryz
namespace Go.Cs
open Go
theorem ZH{e:Nat}:∀{l:List Ob}{a:Nat},l.Pairwise (fun x y=>x.addr+x.size≤y.addr)→(∀o∈l,a≤o.addr∧o.addr+o.size≤e∧o.addr % 2=0)→a % 2=0→a≤e→
  ∀g∈Jj e a l,a≤g.1∧g.1+g.2≤e∧g.1 % 2=0∧∀o∈l,o.addr+o.size≤g.1∨g.1+g.2≤o.addr
 |[],a,_,_,h2,h3,g,hg=>by
  unfold Jj at hg
  grind
 |o::l,a,hp,h1,h2,h3,g,hg=>by
  rw[List.pairwise_cons]at hp
  have ho:=h1 o Nr
  have hsz:=Ob.PZ o
  unfold Jj at hg
  rcases NV.1 hg with hg|hg
  ·grind
  ·obtain⟨q1,q2,q3,q4⟩:=ZH (a:=o.addr+o.size) hp.2 (fun x hx=>⟨hp.1 x hx,(h1 x (U5 _ hx)).2⟩) oM ho.2.1 g hg
   grind
theorem Xt{s:Hp}{a b:Nat}(h1:64*b≤a)(h2:a+12≤64*(b+1))(h3:a % 2=0)(hb:b<s.blk.length)(hs:s.Gw b=1)(hno:∀o∈s.objs,o.addr+o.size≤a∨a+12≤o.addr):(s.place (a:Int) 8 1 3).2.2=0:=by
 have hnw:s.nw=64*s.blk.length:=rfl
 have e1:a/64=b:=by omega
 have hf:s.fits (a:Int) (Gt (8:Int).toNat (1:Int).toNat) (-1)=0:=by
  show s.fits (a:Int) 12 (-1)=0
  unfold Hp.fits
  rw[if_neg oM,if_pos oM,K_,e1,if_neg oM,if_neg]
  unfold Hp.taken
  grind
 unfold Hp.place
 rw[if_pos dE,if_pos hf]
theorem Xv:∀{l:List (Nat×Nat)},(∀y∈l,y.1≠0)→used l=l.length
 |[],_=>rfl
 |x::l,h=>by
  unfold used
  rw[if_neg (h x Nr),Xv fun y hy=>h y (U5 _ hy),List.length_cons,Nat.add_comm]
theorem BH{s:Hp}{c:Nat}(hc:Yd s c=true):∀{q b:Nat},b≤c→c<b+q→∃x,s.U0 q b=some x
 |0,b,h1,h2=>by omega
 |q+1,b,h1,h2=>by
  unfold Hp.U0
  split
  ·exact⟨_,rfl⟩
  ·rename_i h
   refine BH hc (q:=q) (b:=b+1) ?_ oM
   grind
theorem GaU{s:Hp}(f:s.Fz){nb m:Nat}(c:Cn True nb m s)(h:m+1<nb):∃b,s.Zk=some b:=by
 have hl:=c.len
 have hu:=c.us trivial
 obtain⟨x,l,e⟩:∃x l,s.blk=x::l:=by
  cases e:s.blk with
  |nil=>rw[e]at hl;simp at hl;omega
  |cons x l=>exact⟨x,l,rfl⟩
 have:∃y∈l,y.1=0:=by
  refine Classical.byContradiction fun hn=>?_
  have h1:used l=l.length:=Xv fun y hy h0=>hn ⟨y,hy,h0⟩
  rw[e]at hu hl
  rw[List.length_cons]at hl
  unfold used at hu
  omega
 obtain⟨y,hy,h0⟩:=this
 obtain⟨i,hi⟩:=List.mem_iff_getElem?.1 hy
 have li:=Gf hi
 have hil:s.blk[i+1]?=some y:=by rw[e];exact hi
 have hfr:Yd s (i+1)=true:=by
  unfold Yd
  rw[WE,hil]
  have:=f y (JV hil) h0
  grind
 rw[e,List.length_cons]at hl
 exact BH hfr (q:=s.blk.length-1) (b:=1) oM (by rw[e,List.length_cons];omega)
theorem GgA{s:Hp}(k:s.Ok)(lo:s.Lo)(f:s.Fz){nb m:Nat}(c:Cn True nb m s)(h:m+1<nb):∃s1 ad,s.alloc 0 8 1 3=(s1,ad,0):=by
 have sml:=c.sml trivial
 have key:∃a:Nat,(s.spot 0 12).2=some a∧(((s.spot 0 12).1.KT (a/64):Nat):Int)=0∧((s.spot 0 12).1.place (a:Int) 8 1 3).2.2=0:=by
  unfold Hp.spot
  split
  ·rename_i g l hg
   obtain⟨b,h1,h2⟩:=Hp.Db (s:=s) (n:=12) (l:=s.Ku 0 s.blk.length) (g:=g) (by rw[hg];exact Nr)
   have GxW:12≤g.2:=by
    have:g∈s.KH 12 (s.Ku 0 s.blk.length):=by rw[hg];exact Nr
    unfold Hp.KH at this
    grind
   unfold Hp.Ku at h1
   rw[List.mem_filter,List.mem_range]at h1
   obtain⟨h1,hin⟩:=h1
   unfold Pv at hin
   simp only[Qj,beq_iff_eq]at hin
   have hst:=hin.1
   unfold Hp.gaps at h2
   rw[if_pos hst]at h2
   have pw:(s.GX b).Pairwise fun x y=>x.addr+x.size≤y.addr:=k.apart.sublist List.filter_sublist
   obtain⟨q1,q2,q3,q4⟩:=ZH pw (fun o ho=>by
    obtain⟨o1,o2⟩:=Hp.F3 ho
    have:=(sml o o1).2
    have:=(k.ob o o1).even
    have:=o.size_pos
    omega) oM oM g h2
   have e1:g.1/64=b:=by omega
   refine⟨g.1,rfl,by rw[e1];exact hin.2,Xt (b:=b) q1 oM q3 h1 hst fun o ho=>?_⟩
   by_cases VN:o.addr/64=b
   ·have:o∈s.GX b:=by
     unfold Hp.GX
     grind
    grind
   grind
  ·obtain⟨b,hb⟩:=GaU f c h
   obtain⟨b1,b2,b3⟩:=Hp.U8 hb
   have hbl:b<s.blk.length:=by omega
   have ht:s.took 0={s with blk:=s.blk.set b (1,0)}:=by unfold Hp.took;rw[hb];rfl
   have hg:(s.blk.set b (1,0))[b]?=some (1,0):=ZG hbl
   have e1:64*b/64=b:=by omega
   rw[hb,ht]
   refine⟨64*b,rfl,?_,Xt (b:=b) (Nat.le_refl _) oM oM (by grind) ?_ fun o ho=>?_⟩
   ·rw[e1]
    unfold Hp.KT
    grind
   ·unfold Hp.Gw
    grind
   ·have h5:=sml o ho
    have h6:s.Gw b=0:=by
     unfold Yd at b3
     rw[beq_iff_eq]at b3
     unfold Hp.Gw
     grind
    grind
 obtain⟨a,h1,h2,h3⟩:=key
 unfold Hp.alloc
 have hw:Gt (8:Int).toNat (1:Int).toNat=12:=rfl
 grind
end Go.Cs
namespace Go.Cs.Tryz
open Go Go.Cs A
abbrev XN:Gq:=S (T [m 10 6,f 11 2 2,l 12 1 11,le 13 12,b 14 .lss 10 13,m 15 14,gt 15 (m 16 6),gt 15 (m 17 1),gt 15 (b 18 .lss 16 17),an 19 15 18] (J 19 (X 0))) (S (B 1 (T [f 22 2 2,l 23 1 22,m 24 6,x 25 4 23 24,lg 26 4 25,e 7 (.new [.int .u8 0,.int .u8 0,.int .u8 0,.int .u8 0]),st 4 7 26] (S (T [e 27 (.NC 4 1 (t 7) (k 0)),l 28 1 27,e 29 (.bin .rem (t 28) (c (.int .u8 8))),e 30 (.bin .eql (t 29) (c (.int .u8 7)))] (I 30 (R [e 31 (.NC 4 1 (t 7) (k 0)),u (.store 1 (t 31) (c (.int .u8 0)))]))) (T [m 32 5,m 8 32] (R [m 33 8,lg 34 4 7,e 35 (.buildSlice 4 [.int .u8 0,.int .u8 0,.int .u8 0,.int .u8 0] 1 [(0,4,t 34)]),ap 36 4 33 35,m 5 36]))))) (R [m 20 6,bk 21 .add 20 1,m 6 21]))
def C32:Gl:=⟨40,0,T [bo 2 0,e 4 (.new [.int .u8 0,.int .u8 0,.Gc,.Gc,.Gc,.Gc,.Gc])] (T [f 9 0 2,u (.store 1 (t 9) (c (.int .u8 22)))] (T [e 5 (.JR (c .Gc))] (S (T [n 6 0] (B 0 (W XN))) (T [m 37 5,f 38 2 2,st 1 38 37] (Q [lg 39 7 2,st 7 4 39]))))),[.cell 4 true 7]⟩
theorem c32:P 32=some C32:=by kernel_rfl
end Go.Cs.Tryz
namespace Go.Cs
open Go
theorem Gat{n:Nat}:∀{UR:List (List Int)}{i:Nat}{zs:List Int},(∀z∈UR,z.length=n)→UR[i]?=some zs→((UR.flatMap Y0).drop (i*n)).take n=Y0 zs
 |[],i,zs,_,h=>by simp at h
 |z::l,0,zs,hn,h=>by
  simp only[List.getElem?_cons_zero,GA]at h
  subst h
  have:(Y0 z).length=n:=by unfold Y0;grind
  grind
 |z::l,i+1,zs,hn,h=>by
  have hz:(Y0 z).length=n:=by unfold Y0;grind
  rw[List.flatMap_cons,Nat.add_mul,Nat.one_mul,Nat.add_comm,←List.drop_drop]
  have:(Y0 z++l.flatMap Y0).drop n=l.flatMap Y0:=by rw[←hz,List.drop_left]
  rw[this]
  exact Gat (fun y hy=>hn y (U5 _ hy)) (by simpa using h)
abbrev RL(n k:Nat)(H:Gb)(v:CV)(UR:List (List Int)):Prop:=At (Loc k) z3 H v n UR.length (UR.flatMap Y0)
theorem RL.sl{n k:Nat}{H:Gb}{v:CV}{UR:List (List Int)}(h:RL n k H v UR)(hn:∀z∈UR,z.length=n):Sl H v n (UR.map Y0):=by
 rcases h with⟨h1,-,h3⟩|⟨b,tl,rfl,h1,h2,h3⟩
 ·left
  grind
 ·refine .inr ⟨b,0,UR.length,tl,_,by rw[DW],h2,.inl rfl,fun i r hi=>?_⟩
  rw[K4,GJ]at hi
  obtain⟨zs,hz,rfl⟩:=hi
  dsimp only
  rw[Nat.zero_add,Gat hn hz]
  exact⟨rfl,by unfold Y0;grind⟩
theorem RL.push{n k:Nat}{H:Gb}{v:CV}{UR:List (List Int)}(h:RL n k H v UR)(hk:k≤H.length)(hm:UR.length+1≤16777216){zs:List Int}(hz:zs.length=n):
  ∃v' H',Jq (H++[⟨Y0 zs,.rw,n⟩]) n v 1 (Y0 zs)=some (v',H')∧RL n k H' v' (UR++[zs])∧Keeps H H' (fun c=>k≤c):=by
 obtain⟨v',H',a,b,c⟩:=LL.cat (q:=1) (new:=Y0 zs) (h.keeps (.app H [⟨Y0 zs,.rw,n⟩])) (by simp;omega) hm (by simp[Y0,Jo]) (by unfold Y0;rw[DW,hz,Nat.one_mul])
 refine⟨v',H',a,?_,(Keeps.app H _ _).trans c⟩
 grind
end Go.Cs
namespace Go.Cs.Tryz
open Go Go.Cs
section
variable {H0 H : Gb} {bb : Nat} {mu : Int} {v2 v3 v4 v5 v6 : CV}
theorem Giz(tB:H0[bb]?=some ⟨[.int .u8 22,.int .u8 mu,v2,v3,v4,v5,v6],.rw,0⟩) {rs:List (List CV)} (hs:Sl H0 v2 4 rs) (hv:Gn v2<H0.length) (hu:TS 4 rs)
  {E0:Env} (h1:E0 1=.i 16) (h2:E0 2=.ptr bb 0) (h5:E0 5=.Gc) (h6:E0 6=.i 0) {r:Option (CX×Env×Gb)} (hr:den P (.loop XN) E0 H0=r):
  ∃E' H' v UR,r=some (.exit 0,E',H')∧Gr H0 H'∧E' 5=v∧RL 4 H0.length H' v UR∧(UR=[]→v=.Gc)∧UR.length≤16∧(∀z∈UR,z.length=4∧(∀x∈z,0≤x∧x≤255)∧z.getD 0 0 % 8≠7)∧∀t,t∉wr XN→E' t=E0 t:=by
 obtain⟨x',E',H',e,-,⟨rfl,g,v,UR,q1,q2,qn,q3,q4⟩,fr⟩:=Gs (p:=P) (c:=XN) (E0:=E0) (H0:=H0)
  (fun q E H=>∃(j:Nat)(v:CV)(UR:List (List Int)),E 6=.i j∧j≤16∧q=16-j∧Gr H0 H∧E 5=v∧RL 4 H0.length H v UR∧(UR=[]→v=.Gc)∧UR.length=j∧∀z∈UR,z.length=4∧(∀x∈z,0≤x∧x≤255)∧z.getD 0 0 % 8≠7)
  (fun x E' H'=>x=.exit 0∧Gr H0 H'∧∃(v:CV)(UR:List (List Int)),E' 5=v∧RL 4 H0.length H' v UR∧(UR=[]→v=.Gc)∧UR.length≤16∧∀z∈UR,z.length=4∧(∀x∈z,0≤x∧x≤255)∧z.getD 0 0 % 8≠7) (by
   rintro q E H hE ⟨j,v,UR,e6,hj,rfl,g,e5,ql,hnil,hlen,hz⟩
   have e1:=(hE 1 dK).trans h1
   have e2:=(hE 2 dK).trans h2
   have tH:=Gr.get g tB
   have hs':=hs.low hv fun c hc=>g.keep c hc fun h=>h
   have hl:=hs'.len H
   by_cases c:j<rs.length
   ·have c':decide ((j:Int)<(rs.length:Int))=true:=G7 oM
    by_cases c2:j<16
    ·have c2':decide ((j:Int)<16)=true:=G7 oM
     obtain⟨row,hrow⟩:∃row,rs[j]?=some row:=⟨_,JG c⟩
     obtain⟨zs,hzl,rfl,hzb⟩:=hu.at hrow
     match zs,hzl with
     |[x0,x1,x2,x3],_=>
      have z0:=hzb x0 sM
      obtain⟨vo,hml,hmi,XH⟩:=hs'.row oM hrow
      obtain⟨l4,-⟩:=XH H rfl
      have m8:x0.tmod 8=x0 % 8:=Int.tmod_eq_emod_of_nonneg z0.1
      have wj:IntKind.i64.wrap ((j:Int)+1)=((j+1:Nat):Int):=Gh oM
      unfold Y0 at l4
      simp only[List.map_cons,List.map_nil]at l4
      obtain⟨y0,hy0⟩:∃y0,y0=if x0 % 8=7 then 0 else x0:=⟨_,rfl⟩
      obtain⟨Y,hY⟩:∃Y:Gb,Y=H++[⟨[.int .u8 y0,.int .u8 x1,.int .u8 x2,.int .u8 x3],.rw,0⟩]:=⟨_,rfl⟩
      have gY:Gr H Y:=by rw[hY];exact Gr.app _ _
      have tY:Y[H.length]?=some ⟨[.int .u8 y0,.int .u8 x1,.int .u8 x2,.int .u8 x3],.rw,0⟩:=by rw[hY];simp
      have lg:=g.len
      have lgY:=gY.len
      obtain⟨v',H',a1,b1,k1⟩:=RL.push (n:=4) (UR:=UR) (At.keeps ql gY) (zs:=[y0,x1,x2,x3]) oM oM rfl
      have kk:Gr H0 H':=Gr.news (g.trans gY) k1
      have a1:Jq (Y++[⟨[.int .u8 y0,.int .u8 x1,.int .u8 x2,.int .u8 x3],.rw,4⟩]) 4 v 1 [.int .u8 y0,.int .u8 x1,.int .u8 x2,.int .u8 x3]=some (v',H'):=a1
      have hzn:∀z∈UR++[[y0,x1,x2,x3]],z.length=4∧(∀x∈z,0≤x∧x≤255)∧z.getD 0 0 % 8≠7:=fun z hzm=>by
       rcases NV.1 hzm with h|h
       ·exact hz z h
       ·rw[Bz]at h
        subst h
        refine⟨rfl,fun x hx=>?_,?_⟩
        ·simp only[List.mem_cons,List.not_mem_nil,or_false]at hx
         rcases hx with rfl|h
         ·rw[hy0];split<;>omega
         ·exact hzb x (by simp;omega)
        grind
      by_cases c7:x0 % 8=7
      ·have c7':(x0 % 8==7)=true:=beq_iff_eq.2 c7
       rw[if_pos c7]at hy0
       subst hy0
       apply Gp (k':=16-(j+1))
       ·refine W17 e1 e2 e5 e6 tH hl c' c2' hml l4 @KG @KJ @GD m8 c7' @J5 @Gu ?_
        rw[←hY]
        refine W3 a1 e6 wj ?_
        rfl
       ·omega
       ·exact⟨j+1,v',_,uA,oM,rfl,kk,uA,b1,fun h=>by simp at h,by rw[QU,hlen];rfl,hzn⟩
      ·have c7':(x0 % 8==7)=false:=UF.2 c7
       rw[if_neg c7]at hy0
       subst hy0
       apply Gp (k':=16-(j+1))
       ·refine W17 e1 e2 e5 e6 tH hl c' c2' hml l4 @KG @KJ @GD m8 c7' @J5 @Gu ?_
        rw[←hY]
        refine W3 a1 e6 wj ?_
        rfl
       ·omega
       ·exact⟨j+1,v',_,uA,oM,rfl,kk,uA,b1,fun h=>by simp at h,by rw[QU,hlen];rfl,hzn⟩
    ·have c2':decide ((j:Int)<16)=false:=G5 oM
     apply Gj (x:=.exit 0)
     ·refine GH ?_
      rfl
     ·simp
     ·exact⟨rfl,g,v,UR,by simp[Gg,e5],ql,hnil,oM,hz⟩
   ·have c':decide ((j:Int)<(rs.length:Int))=false:=G5 oM
    apply Gj (x:=.exit 0)
    ·refine GH ?_
     rfl
    ·simp
    ·exact⟨rfl,g,v,UR,by simp[Gg,e5],ql,hnil,oM,hz⟩) _ ⟨0,.Gc,[],h6,oM,rfl,Keeps.refl _ _,h5,LL.nil,fun _=>rfl,rfl,fun z hz=>by cases hz⟩
 grind
theorem Xf{bl mu:Int}{v:Nat→CV}(b:Beg H bl mu v):∃H' v2 UR,run P 32 [.agg [.int .u8 bl,.int .u8 mu,v 2,v 3,v 4,v 5,v 6],.i 16] H=some (.agg [.int .u8 22,.int .u8 mu,v2,v 3,v 4,v 5,v 6],H')∧Gr H H'∧
  RL 4 H.length H' v2 UR∧Gn v2<H'.length+1∧UR.length≤16∧∀z∈UR,z.length=4∧(∀x∈z,0≤x∧x≤255)∧z.getD 0 0 % 8≠7:=by
 obtain⟨rs,hs,hv,hu⟩:=b.sl 0 _ rfl
 obtain⟨X,hX⟩:∃X:Gb,X=H++[⟨[.int .u8 22,.int .u8 mu,v 2,v 3,v 4,v 5,v 6],.rw,0⟩]++[⟨[.int .u8 0,.int .u8 0,.Gc,.Gc,.Gc,.Gc,.Gc],.rw,0⟩]:=⟨_,rfl⟩
 have gX:Gr H X:=by rw[hX];exact(Gr.app _ _).app' _
 have t2:X[H.length]?=some ⟨[.int .u8 22,.int .u8 mu,v 2,v 3,v 4,v 5,v 6],.rw,0⟩:=by rw[hX];simp
 have t4:X[H.length+1]?=some ⟨[.int .u8 0,.int .u8 0,.Gc,.Gc,.Gc,.Gc,.Gc],.rw,0⟩:=by rw[hX];simp
 have lX:X.length=H.length+2:=by rw[hX];simp
 rw[Gi c32 _ _ sM]
 refine GH ?_
 rw[←hX]
 generalize hr:den P (.loop XN) _ _=r
 obtain⟨E',X1,u,UR,rfl,g1,e5,ql,qn,q1,q2,fr⟩:=Giz t2 (hs.mono fun b k hb _ _=>Gr.get gX hb) (by grind) hu uA uA uA uA hr
 have e2:=fr 2 dK
 have e4:=fr 4 dK
 simp only[Gg,Nat.reduceEqDiff,↓reduceIte]at e2 e4
 have t2':=Gr.get g1 t2
 have t4':=Gr.get g1 t4
 have lu:=At.leaf ql
 have l1:=g1.len
 obtain⟨sv3,b3⟩:∃rs,Sl H (v 3) 1 rs:=by obtain⟨r,h,-⟩:=b.sl 1 _ rfl;exact⟨r,h⟩
 obtain⟨sv4,b4⟩:∃rs,Sl H (v 4) 3 rs:=by obtain⟨r,h,-⟩:=b.sl 2 _ rfl;exact⟨r,h⟩
 obtain⟨sv5,b5⟩:∃rs,Sl H (v 5) 2 rs:=by obtain⟨r,h,-⟩:=b.sl 3 _ rfl;exact⟨r,h⟩
 obtain⟨sv6,b6⟩:∃rs,Sl H (v 6) 1 rs:=by obtain⟨r,h,-⟩:=b.sl 4 _ rfl;exact⟨r,h⟩
 have lf:∀{x:CV}{e:Nat}{rs:List (List CV)},Sl H x e rs→leaf x=true:=fun h=>by
  rcases h with⟨-,rfl|⟨_,_,_,_,rfl⟩⟩|⟨_,_,_,_,_,rfl,_⟩<;>rfl
 obtain⟨Y1,hY1⟩:∃Y:Gb,Y=X1.set H.length ⟨[.int .u8 22,.int .u8 mu,u,v 3,v 4,v 5,v 6],.rw,0⟩:=⟨_,rfl⟩
 have s2:Y1[H.length]?=some ⟨[.int .u8 22,.int .u8 mu,u,v 3,v 4,v 5,v 6],.rw,0⟩:=by grind
 have s4:Y1[H.length+1]?=some ⟨[.int .u8 0,.int .u8 0,.Gc,.Gc,.Gc,.Gc,.Gc],.rw,0⟩:=by grind
 have st1:I_ X1 H.length (some (⟨[.int .u8 22,.int .u8 mu,v 2,v 3,v 4,v 5,v 6],.rw,0⟩:JD)) 2 [u]=some Y1:=by rw[Ve lu sM,hY1];rfl
 obtain⟨Y2,hY2⟩:∃Y:Gb,Y=Y1.set (H.length+1) ⟨[.int .u8 22,.int .u8 mu,u,v 3,v 4,v 5,v 6],.rw,0⟩:=⟨_,rfl⟩
 have st2:I_ Y1 (H.length+1) (some (⟨[.int .u8 0,.int .u8 0,.Gc,.Gc,.Gc,.Gc,.Gc],.rw,0⟩:JD)) 0 [.int .u8 22,.int .u8 mu,u,v 3,v 4,v 5,v 6]=some Y2:=by
  rw[Ya sM (by simp only[List.all_cons,List.all_nil,show leaf (.int .u8 22)=true from rfl,show leaf (.int .u8 mu)=true from rfl,lu,lf b3,lf b4,lf b5,lf b6,Bool.and_self]),hY2];rfl
 have u4:Y2[H.length+1]?=some ⟨[.int .u8 22,.int .u8 mu,u,v 3,v 4,v 5,v 6],.rw,0⟩:=by grind
 have ly1:Y1.length=X1.length:=by rw[hY1,List.length_set]
 have ly2:Y2.length=X1.length:=by rw[hY2,List.length_set,ly1]
 have gg:Gr H Y2:=⟨oM,fun c hc _=>by
  rw[hY2,NA oM,hY1,NA oM,g1.keep c oM (fun h=>h),gX.keep c hc fun h=>h]⟩
 refine⟨Y2,u,UR,?_,gg,?_,?_,q1,q2⟩
 ·have cu:=UJ lu
  exact V11 e2 e4 e5 t2' cu st1 s2 s4 @EF st2 u4
 ·exact ql.frame (fun c h=>Gm.2 ⟨by have:=(Gm.1 h).1;omega,(Gm.1 h).2⟩) fun c h=>by
   have:=(Gm.1 h).1
   grind
 ·by_cases hz:UR=[]
  ·rw[qn hz];exact Nat.succ_pos _
  ·obtain⟨tl,-,-,hc,-⟩:=At.pos ql (A7.2 hz)
   have:=Gf hc
   omega
end
end Go.Cs.Tryz
namespace Go.Cs.Tryz
open Go Go.Cs A
abbrev GcR:Gq:=S (T [m 5 0,q1 6 78 5,m 7 6,gt 7 (m 8 4),gt 7 (m 9 0),gt 7 (z 10 9),gt 7 (f 11 1 10),gt 7 (l 12 1 11),gt 7 (le 13 12),gt 7 (b 14 .lss 8 13),an 15 7 14] (J 15 (X 0))) (S (B 1 (R [m 18 3,m 19 0,z 20 19,f 21 1 20,l 22 1 21,m 23 4,x 24 8 22 23,f 25 0 24,l 26 1 25,e 27 (.buildSlice 1 [i 0] 1 [(0,1,t 26)]),ap 28 1 18 27,m 3 28])) (R [m 16 4,bk 17 .add 16 1,m 4 17]))
def C33:Gl:=⟨30,0,T [e 2 (.JR (c .Gc))] (T [e 3 (.JR (c .Gc))] (S (T [n 4 0] (B 0 (W GcR))) (Q [m 29 3,m 2 29]))),[r 2]⟩
theorem c33:P 33=some C33:=by kernel_rfl
end Go.Cs.Tryz
namespace Go.Cs.Tryz
open Go Go.Cs
section
variable {H : Gb} {o : Tags} {rb : Nat} {s t : Hp} {L : Qc} {sb : Nat} {R T : Rt} {D : UQ}
theorem Go9(m:JL o H rb s L)(k:s.Ok){E0:Env}(h0:E0 0=.ptr rb 0)(h3:E0 3=.Gc)(h4:E0 4=.i 0){r:Option (CX×Env×Gb)}(hr:den P (.loop GcR) E0 H=r):
  ∃E' H',r=some (.exit 0,E',H')∧Gr H H'∧IL H.length H' (E' 3) (JE s.objs):=by
 have few:=k.few
 obtain⟨x',E',H',e,-,⟨rfl,g,hnew⟩,fr⟩:=Gs (p:=P) (c:=GcR) (E0:=E0) (H0:=H)
  (fun q E H'=>Gr H H'∧∃j:Nat,E 4=.i j∧j≤s.objs.length∧q=s.objs.length-j∧IL H.length H' (E 3) (JE (s.objs.take j)))
  (fun x E' H'=>x=.exit 0∧Gr H H'∧IL H.length H' (E' 3) (JE s.objs)) (by
   rintro q E H' hE ⟨g,j,e4,hj,rfl,hn⟩
   have e0:=(hE 0 dK).trans h0
   have m':=m.gr g
   have hmd:=Qi m' k
   have hc:=m'.cells
   have hl:=m'.objs.len H'
   by_cases c:j<s.objs.length
   ·have c':decide ((j:Int)<(s.objs.length:Int))=true:=G7 oM
    have hx:s.objs[j]?=some s.objs[j]:=JG c
    obtain⟨x,hxe⟩:∃x,x=s.objs[j]:=⟨_,rfl⟩
    rw[←hxe]at hx
    obtain⟨b2,n,tl,q1,q2,q3,q4,q5,q6⟩:=JL.row m' hx
    rw[q1]at hc hl
    have q7:=Np (hv:=L.hv) hx (i:=0) (v:=.i x.addr) rfl
    rw[Nat.add_zero]at q7
    have w1:IntKind.i64.wrap ((j:Int)+1)=((j+1:Nat):Int):=Gh oM
    have hlen:(JE (s.objs.take j)).length≤2048:=by
     unfold JE
     grind
    have htk:s.objs.take (j+1)=s.objs.take j++[x]:=by rw[QV,hx];rfl
    obtain⟨v',H1,a1,a2,a3⟩:=IL.push hn g.len oM (x.addr:Int)
    have hel:elems (H'++[⟨[.i (x.addr:Int)],.rw,1⟩]) 1 (.slice H'.length 0 1 1 1 false)=some (1,[.i (x.addr:Int)]):=by
     rw[J7 oM]
     have:=@Kc;exact W0
    apply Gp (k':=s.objs.length-(j+1))
    ·refine W13 e0 e4 hmd hc hl c' q3 q7 @J5 @Gu hel a1 w1 ?_
     rfl
    ·omega
    ·refine⟨g.news a3,j+1,uA,oM,rfl,?_⟩
     rw[htk]
     show IL _ _ _ (JE (_++[x]))
     unfold JE at a2⊢
     rw[Es]
     simpa[Gg]using a2
   ·have c':decide ((j:Int)<(s.objs.length:Int))=false:=G5 oM
    rw[QA oM]at hn
    apply Gj (x:=.exit 0)
    ·refine GH ?_
     rfl
    ·simp
    ·exact⟨rfl,g,by simpa[Gg]using hn⟩) _ ⟨Keeps.refl H _,0,h4,oM,rfl,by rw[h3];exact IL.nil⟩
 grind
theorem Gi7(m:JL o H rb s L)(k:s.Ok):∃v H',run P 33 [.ptr rb 0] H=some (v,H')∧Gr H H'∧IL H.length H' v (JE s.objs):=by
 rw[Gi c33 _ _ sM]
 refine GH ?_
 generalize hr:den P (.loop GcR) _ _=r
 obtain⟨E',H',rfl,g,hn⟩:=Go9 m k uA uA uA hr
 refine⟨E' 3,H',?_,g,hn⟩
 exact W0
theorem PG:∃H',run P 30 [.ptr sb 0,.i 35] H=some (.agg [.i 1,.i 0,.i 11],H')∧Gr H H':=by
 have hmx:(if(0:Int)>(35:Int)then(0:Int)else(35:Int))=(35:Int):=if_neg oM
 have hm:(35:Int).tmod 40=35:=rfl
 have c1':decide ((35:Int)<24)=false:=rfl
 have c2':decide ((35:Int)<36)=true:=rfl
 have wq:IntKind.i64.wrap ((35:Int)-24)=11:=rfl
 refine⟨H++[⟨[.i 1,.i 0,.i 11],.rw,0⟩],?_,Gr.app _ _⟩
 rw[Gi c30 _ _ sM]
 exact EI
end
end Go.Cs.Tryz

namespace Go.Cs
open Go
theorem At.Gkw{k e n:Nat}{H X:Gb}{v:CV}{cs:List CV}(h:At (Loc k) z3 H v e n cs)(hk:∀b,k≤b→b<H.length→X[b]?=H[b]?):At (Loc k) z3 X v e n cs:=by
 rcases h with h|⟨b,tl,e,h1,h2,h3⟩
 ·exact .inl h
 ·exact .inr ⟨b,tl,e,h1,by rw[hk b (Gm.1 h1).1 (Gf h2),h2],h3⟩
theorem GkI{E:Env}{H:Gb}{t u v w:Nat}:fin [.tmp t,.tmp u,.tmp v,.tmp w] E H=some (.Jk [E t,E u,E v,E w],H):=rfl
theorem Gd.of{s:Hp}(k:s.Ok)(lo:s.Lo)(h:∀o∈s.objs,∀x∈o.refs,x=0∨s.has x=true):Gd s:=⟨k,lo,fun a r d kd e hv x hx=>by
 obtain⟨o,ho,rfl,-,-,-⟩:=Hp.YP hv
 rw[Gd.has]
 exact h o (Hp.GV ho).1 x hx⟩
theorem GcM:∀{a b:List Int},Y0 a=Y0 b→a=b
 |[],[],_=>rfl
 |[],y::b,h=>by simp[Y0]at h
 |x::a,[],h=>by simp[Y0]at h
 |x::a,y::b,h=>by
  simp only[Y0,List.map_cons,List.cons.injEq,CV.int.injEq,true_and]at h
  rw[h.1,GcM (a:=a) (b:=b) h.2]
theorem Gmz{s:Hp}(g:Gd s)(hb:s.born≤40){s1:Hp}{ad:Int}(h:s.alloc 0 8 1 3=(s1,ad,0)):TB s1 ad (List.replicate 8 []) [] (JE s.objs) 41∧64≤ad∧ad<4096:=by
 obtain⟨g1,b1,v1,l1,l2,e,hv⟩:=g.alloc oM h
 refine⟨⟨g1,GjT g oM h,Wnt.new _,oM,fun a ha=>?_⟩,l1,l2⟩
 unfold JE at ha
 obtain⟨o,ho,rfl⟩:=VA.1 ha
 rw[←Gd.has,hv]
 have h1:(s.vw (o.addr:Int)).isSome=true:=by rw[Gd.has];exact Hp.J2.2 ⟨o,g.ok.obj ho⟩
 by_cases c:(o.addr:Int)=ad
 ·rw[c,Jp];rfl
 ·rw[Jr c];exact h1
end Go.Cs
namespace Go.Cs.Tryz
open Go Go.Cs
section
variable {H : Gb}
inductive Gld(H':Gb):Option (CV×Gb)→Prop
 |none (sb:Nat):Gld H' (some (.Jk [.ptr sb 0,.i 0,.Gc,.bool true],H'))
 |some {sb hb k:Nat} {cs:List CV} {s:Hp} {L:G6} {head:Int} {C:List (List JY)} {W:List (Int×Int)} {A:List Int} {v:CV} (p:PH H' hb s L) (t:TB s head C W A 1000) (sc:H'[sb]?=some ⟨.ptr hb 0::cs,.rw,0⟩) (q:QL k H' v W) (hl:W.length≤40) (hd:head≠0):Gld H' (some (.Jk [.ptr sb 0,.i head,v,.bool true],H'))
theorem Wu{bl mu:Int}{v:Nat→CV}(b:Beg H bl mu v){v1:CV}{rs:List (List CV)}(hs:Sl H v1 3 rs)(hu:TS 3 rs):
  ∃H',Gld H' (run P 8 [.agg [.int .u8 bl,.int .u8 mu,v 2,v 3,v 4,v 5,v 6],v1] H):=by
 obtain⟨X0,hX0⟩:∃X:Gb,X=H++[⟨[.int .u8 bl,.int .u8 mu,v 2,v 3,v 4,v 5,v 6],.rw,0⟩]:=⟨_,rfl⟩
 have g0:Gr H X0:=by rw[hX0];exact Gr.app _ _
 have l0:X0.length=H.length+1:=by rw[hX0];simp
 have t0:X0[H.length]?=some ⟨[.int .u8 bl,.int .u8 mu,v 2,v 3,v 4,v 5,v 6],.rw,0⟩:=by rw[hX0];simp
 have b0:Beg X0 bl mu v:=⟨b.bl,b.mu,fun i n h=>by
  obtain⟨rs,q1,q2,q3⟩:=b.sl i n h
  exact⟨rs,q1.mono fun b k hb _ _=>Gr.get g0 hb,oM,q3⟩⟩
 obtain⟨X1,u,UR,r1,g1,ql,hbu,GxV,hzz⟩:=Xf b0
 have l1:=g1.len
 have t1:=Gr.get g1 t0
 obtain⟨X2,hX2⟩:∃X:Gb,X=X1.set H.length ⟨[.int .u8 22,.int .u8 mu,u,v 3,v 4,v 5,v 6],.rw,0⟩:=⟨_,rfl⟩
 have l2:X2.length=X1.length:=by rw[hX2,List.length_set]
 have t2:X2[H.length]?=some ⟨[.int .u8 22,.int .u8 mu,u,v 3,v 4,v 5,v 6],.rw,0⟩:=by grind
 have g2:Gr H X2:=⟨oM,fun c hc _=>by rw[hX2,NA oM,g1.keep c oM (fun h=>h),g0.keep c hc fun h=>h]⟩
 have lu:=At.leaf ql
 have lf:∀{x:CV}{e:Nat}{rs:List (List CV)},Sl H x e rs→leaf x=true:=fun h=>by
  rcases h with⟨-,rfl|⟨_,_,_,_,rfl⟩⟩|⟨_,_,_,_,_,rfl,_⟩<;>rfl
 obtain⟨_,b3,-⟩:=b.sl 1 _ rfl
 obtain⟨_,b4,-⟩:=b.sl 2 _ rfl
 obtain⟨_,b5,-⟩:=b.sl 3 _ rfl
 obtain⟨_,b6,-⟩:=b.sl 4 _ rfl
 have st:I_ X1 H.length (some (⟨[.int .u8 bl,.int .u8 mu,v 2,v 3,v 4,v 5,v 6],.rw,0⟩:JD)) 0 [.int .u8 22,.int .u8 mu,u,v 3,v 4,v 5,v 6]=some X2:=by
  rw[Ya sM (by simp only[List.all_cons,List.all_nil,show leaf (.int .u8 22)=true from rfl,show leaf (.int .u8 mu)=true from rfl,lu,lf b3,lf b4,lf b5,lf b6,Bool.and_self]),hX2];rfl
 have ql2:RL 4 X0.length X2 u UR:=At.Gkw ql fun c hc _=>by grind
 have su:=ql2.sl fun z hz=>(hzz z hz).1
 have uu:TS 4 (UR.map Y0):=fun r hr=>by
  grind
 obtain⟨v',hv'⟩:∃v':Nat→CV,v'=fun i=>if i=2 then u else v i:=⟨_,rfl⟩
 have bX:Beg X2 22 mu v':=⟨oM,b.mu,fun i n h=>by
  have key:∀(i:Nat)(n:Nat×Nat),[((2:Nat),(4:Nat)),(3,1),(4,3),(5,2),(6,1)][i]?=some n→n.1≠2→∃rs,Sl X2 (v' n.1) n.2 rs∧Gn (v' n.1)<X2.length+1∧TS n.2 rs:=fun i n h hn=>by
   obtain⟨rs,q1,q2,q3⟩:=b.sl i n h
   rw[hv']
   dsimp only
   rw[if_neg hn]
   exact⟨rs,q1.mono fun b k hb _ _=>Gr.get g2 hb,oM,q3⟩
  grind⟩
 have e2':v' 2=u:=by rw[hv'];rfl
 have e3':v' 3=v 3:=by rw[hv'];rfl
 have e4':v' 4=v 4:=by rw[hv'];rfl
 have e5':v' 5=v 5:=by rw[hv'];rfl
 have e6':v' 6=v 6:=by rw[hv'];rfl
 have Gse:True→∀zs,Y0 zs∈UR.map Y0→zs.getD 0 0 % 8≠7:=fun _ zs h=>by
  obtain⟨z,hz,e⟩:=VA.1 h
  have:=GcM e
  subst this
  exact(hzz z hz).2.2
 obtain⟨sb,X3,s,R,D,r3,w,hown,hborn,snd,cn,hkeep,hlt⟩:=Iu bX (rs2:=UR.map Y0) (by rw[e2'];exact su) uu (sm:=True) Gse
 rw[e2',e3',e4',e5',e6']at r3
 have t3:=w.m.top
 have rh3:=w.m.rh.cells
 have hol:=w.m.rh.objs.len X3
 rw[Gi c8 _ _ sM]
 refine GH ?_
 rw[←hX0]
 refine W8 r1 t1 st t2 r3 t3 rh3 hol ?_
 by_cases c0:s.objs.length=0
 ·have c0':((s.objs.length:Int)==0)=true:=by rw[c0];rfl
  refine W1 c0' ?_
  exact⟨X3,.none sb⟩
 ·have c0':((s.objs.length:Int)==0)=false:=UF.2 oM
  obtain⟨v9,X4,r4,g4,il⟩:=Gi7 w.m.rh w.k
  have m4:=w.m.gr g4
  have t4:=m4.top
  obtain⟨s1,ad,hal⟩:=GgA w.k snd.2.2 w.f cn (by grind)
  obtain⟨tb,ad1,ad2⟩:=Gmz (Gd.of w.k snd.2.2 snd.1) hborn hal
  obtain⟨X5,r5,m5,g5⟩:=m4.OH (Xg m4.ph w.k snd.2.2.1 (sp:=0) oM oM)
  rw[hal]at r5 m5
  have t5:=m5.top
  obtain⟨X6,r6,g6⟩:=PG (H:=X5) (sb:=sb)
  have m6:=m5.gr g6
  obtain⟨X7,D7,r7,m7,g7⟩:=m6.Gf7 (FE m6.pr w.kr 1 0 11 ad)
  have hset:(R.set 1 0 11 ad).2=0:=by
   have hg:=w.kr.g16
   unfold Rt.set Rt.loc
   grind
  rw[hset]at r7
  have few:=w.k.few
  have r5':run P 16 [.ptr D.hb 0,.int .i64 0] X4=some (.Jk [.i ad,.i 0],X5):=r5
  have r6':run P 30 [.ptr sb 0,.int .i64 35] X5=some (.agg [.i 1,.i 0,.i 11],X6):=r6
  have g47:N_ sb D X4 D7 X7:=(g5.trans (.gr g6)).trans g7
  have g37:N_ sb D X3 D7 X7:=(N_.gr g4).trans g47
  have GwJ:=g4.len
  have Gnf:∀c,c∈D7.L.all D7.hb→c<X4.length→D.own sb c:=fun c hc hl=>g47.own c hl (.inr (.inl hc))
  have row:Row X7 D7.hb D7.L (JE s.objs) sb v1 v9 rs [.ptr D7.rb 0,.ptr D7.qb 0,.ptr D7.ub 0]:={
   lt:=m7.ph.lt
   rows:=fun X kX=>hs.mono fun c k hc _ _=>by
    have hcl:=Gf hc
    have hn:¬D.own sb c:=fun h=>by have:=hown c h;omega
    rw[kX.keep c (by have:=g37.len;omega) (fun h=>hn (Gnf c h oM)),g37.keep c oM hn,hkeep c oM,g2.keep c hcl (fun h=>h),hc]
   u8:=hu
   sc:=fun X kX=>by rw[kX.keep sb (Gf m7.top) m7.d0.1,m7.top]
   li:=fun X kX=>IL.li (At.Gkw il fun c hc hcl=>by
    have hn:¬D.own sb c:=fun h=>by have:=w.m.lt c h;omega
    rw[kX.keep c (by have:=g47.len;omega) (fun h=>hn (Gnf c h hcl)),g47.keep c hcl hn])
   pos:=by unfold JE;rw[DW];omega}
  have t6:=m6.top
  refine GH ?_
  generalize hr:den P (.loop GdV) _ _=r
  obtain⟨x,E',X8,s',C',W',w',rfl,kp,p8,tb8,q8,hW,hc,fr⟩:=Gm9 row m7.ph tb oM uA uA uA uA uA uA hr
  have f8:=fr 8 dK
  have f10:=fr 10 dK
  simp only[Gg,Nat.reduceEqDiff,↓reduceIte]at f8 f10
  rcases hc with⟨rfl,f12⟩|⟨rfl,f4,f5,f6,f7⟩
  ·have:=@GkI;refine GH ?_
   exact⟨X8,.some p8 tb8 (row.sc X8 kp) q8 hW oM⟩
  ·have:=@GkI;refine GH ?_
   exact⟨X8,.some p8 tb8 (row.sc X8 kp) q8 hW oM⟩
end
end Go.Cs.Tryz
namespace Go.Cs.Tryz
open Go Go.Cs A
def C3:Gl:=⟨30,0,T [bo 2 0,nb 4 false] (T [lg 10 7 2,m 11 1,q2 12 8 10 11,m 9 12,ex 13 9 0,ex 14 9 1,ex 15 9 2,ex 16 9 3,m 5 13,m 6 14,m 7 15,m 8 16] (S (T [m 17 8,no 18 17] (I 18 (Q [nb 4 false]))) (Q [m 19 6,bk 20 .eql 19 0,m 21 20,gf 21 (m 22 5),gf 21 (m 23 6),gf 21 (m 24 7),gf 21 (q3 25 9 22 23 24),or 26 21 25,m 27 26,gt 27 (ca 28 10 []),an 29 27 28,m 4 29]))),[r 4]⟩
theorem c3:P 3=some C3:=by kernel_rfl
end Go.Cs.Tryz
namespace Go.Cs.Tryz
open Go Go.Cs
section
variable {H : Gb}
theorem GbF{bl mu:Int}{v:Nat→CV}(b:Beg (H++[⟨[.int .u8 bl,.int .u8 mu,v 2,v 3,v 4,v 5,v 6],.rw,0⟩]) bl mu v){v1:CV}{rs:List (List CV)}(hs:Sl H v1 3 rs)(hu:TS 3 rs)(awake:∀G:Gb,∃G',run P 10 [] G=some (.bool true,G')):
  ∃H',run P 3 [.agg [.int .u8 bl,.int .u8 mu,v 2,v 3,v 4,v 5,v 6],v1] H=some (.bool true,H'):=by
 obtain⟨X,hX⟩:∃X:Gb,X=H++[⟨[.int .u8 bl,.int .u8 mu,v 2,v 3,v 4,v 5,v 6],.rw,0⟩]:=⟨_,rfl⟩
 have gX:Gr H X:=by rw[hX];exact Gr.app _ _
 rw[←hX]at b
 have tX:X[H.length]?=some ⟨[.int .u8 bl,.int .u8 mu,v 2,v 3,v 4,v 5,v 6],.rw,0⟩:=by rw[hX];simp
 have hs':Sl X v1 3 rs:=hs.mono fun b k hb _ _=>Gr.get gX hb
 obtain⟨X1,h1⟩:=Wu b hs' hu
 obtain⟨y,hy⟩:∃y,y=run P 8 [.agg [.int .u8 bl,.int .u8 mu,v 2,v 3,v 4,v 5,v 6],v1] X:=⟨_,rfl⟩
 rw[←hy]at h1
 cases h1 with
 |none sb=>
  obtain⟨G,hG⟩:=awake X1
  rw[Gi c3 _ _ sM]
  refine GH ?_
  rw[←hX]
  refine W2 hy.symm hG ?_
  exact⟨_,rfl⟩
 |@some sb hb k cs s L head C W A w p t sc q hl hd=>
  obtain⟨X2,h2,g2⟩:=GbA p t sc q oM
  obtain⟨G,hG⟩:=awake X2
  have hd':(head==0)=false:=UF.2 hd
  rw[Gi c3 _ _ sM]
  refine WX ?_
  rw[←hX]
  refine W4 hy.symm hd' h2 hG ?_
  exact⟨_,rfl⟩
end
end Go.Cs.Tryz
noncomputable section
namespace Go.Cs.Tryz
open Go Go.Cs Go.RowKit Go.ChangeShapes Go.WideShapes
noncomputable def e28:TypeId:=match Go.Proofs.Tryz.prog.underlying 28 with
 |some (.slice e)=>e
 |_=>0
theorem u28:Go.Proofs.Tryz.prog.underlying 28=some (.slice e28):=by kernel_rfl
theorem IE{H:Type}{enc:TypeId×Value→H}{W:World}{base:Nat}{r:Reach}{b0:Nat}{held:Bool}{v:Value}{d:DataW H}{ps:List MemPlace}{w:Value}{dw:DataW H}{pw:List MemPlace}
  (hval:Value.okWide Go.Proofs.Tryz.prog W r b0 27 v)(hd:DataW.Trod enc Go.Proofs.Tryz.prog W base (fun _=>true) held 27 v d ps)
  (GnJ:Value.okWide Go.Proofs.Tryz.prog W r b0 28 w)(hd7:DataW.Trod enc Go.Proofs.Tryz.prog W base (fun _=>true) held 28 w dw pw):
  ∃(bl mu:Int)(x:Nat→CV)(blks:List JD)(tgs:List (Option ZF))(y:CV)(rs:List (List CV)),tgs.length=blks.length∧(∀b blk,blks[b]?=some blk→GcG W blk (tgs.getD b none))∧
   V (fun b=>tgs.getD b none) (.agg [.int .u8 bl,.int .u8 mu,x 2,x 3,x 4,x 5,x 6]) v∧V (fun b=>tgs.getD b none) y w∧Beg (blks++[⟨[.int .u8 bl,.int .u8 mu,x 2,x 3,x 4,x 5,x 6],.rw,0⟩]) bl mu x∧Sl blks y 3 rs∧TS 3 rs:=by
 obtain⟨a,rfl⟩:∃a,v=.agg a:=by
  have h:=hval
  unfold Value.okWide at h
  rw[u27]at h
  obtain⟨a,ha,-⟩:=h
  exact⟨a,ha⟩
 have hsz:a.size=7:=by
  have h:=hval
  unfold Value.okWide at h
  rw[u27]at h
  obtain⟨a',ha,hs,-⟩:=h
  simp only[Value.agg.injEq]at ha
  subst ha
  rw[hs,←Gdu];rfl
 obtain⟨f0,e0,t0,o0⟩:=M9 (i:=0) (t:=5) (o:=0) (by kernel_rfl)
 obtain⟨f1,e1,t1,o1⟩:=M9 (i:=1) (t:=5) (o:=1) (by kernel_rfl)
 obtain⟨f2,e2,t2,o2⟩:=M9 (i:=2) (t:=22) (o:=2) (by kernel_rfl)
 obtain⟨f3,e3,t3,o3⟩:=M9 (i:=3) (t:=23) (o:=3) (by kernel_rfl)
 obtain⟨f4,e4,t4,o4⟩:=M9 (i:=4) (t:=24) (o:=4) (by kernel_rfl)
 obtain⟨f5,e5,t5,o5⟩:=M9 (i:=5) (t:=25) (o:=5) (by kernel_rfl)
 obtain⟨f6,e6,t6,o6⟩:=M9 (i:=6) (t:=23) (o:=6) (by kernel_rfl)
 obtain⟨bl,a0,w0⟩:=PS (k:=.u8) u27 hd e0 (by rw[t0];kernel_rfl) (by rw[t0];kernel_rfl)
 obtain⟨mu,a1,w1⟩:=PS (k:=.u8) u27 hd e1 (by rw[t1];kernel_rfl) (by rw[t1];kernel_rfl)
 obtain⟨u2,_,_,a2,v2,d2⟩:=Ae (e:=137) u27 Gfq Gdu hval hd e2 (by rw[t2];kernel_rfl) (by rw[o2,t2];rfl) (by rw[t2];kernel_rfl)
 obtain⟨u3,_,_,a3,v3,d3⟩:=Ae (e:=5) u27 Gfq Gdu hval hd e3 (by rw[t3];kernel_rfl) (by rw[o3,t3];rfl) (by rw[t3];kernel_rfl)
 obtain⟨u4,_,_,a4,v4,d4⟩:=Ae (e:=139) u27 Gfq Gdu hval hd e4 (by rw[t4];kernel_rfl) (by rw[o4,t4];rfl) (by rw[t4];kernel_rfl)
 obtain⟨u5,_,_,a5,v5,d5⟩:=Ae (e:=144) u27 Gfq Gdu hval hd e5 (by rw[t5];kernel_rfl) (by rw[o5,t5];rfl) (by rw[t5];kernel_rfl)
 obtain⟨u6,_,_,a6,v6,d6⟩:=Ae (e:=5) u27 Gfq Gdu hval hd e6 (by rw[t6];kernel_rfl) (by rw[o6,t6];rfl) (by rw[t6];kernel_rfl)
 rw[o0]at a0;rw[o1]at a1;rw[o2]at a2;rw[o3]at a3;rw[o4]at a4;rw[o5]at a5;rw[o6]at a6
 rw[t2]at v2 d2;rw[t3]at v3 d3;rw[t4]at v4 d4;rw[t5]at v5 d5;rw[t6]at v6 d6
 obtain⟨c2,k2,g2,l2,x2,y2,s2,z2⟩:=Q_ (n:=6) (ks:=List.replicate 4 (.int .u8)) (t:=22) (e:=137) (by kernel_rfl) (by kernel_rfl) (by kernel_rfl) dE v2 d2
 obtain⟨c3,k3,g3,l3,x3,y3,s3,z3⟩:=Q_ (n:=6) (ks:=List.replicate 1 (.int .u8)) (t:=23) (e:=5) (by kernel_rfl) (by kernel_rfl) (by kernel_rfl) dE v3 d3
 obtain⟨c4,k4,g4,l4,x4,y4,s4,z4⟩:=Q_ (n:=6) (ks:=List.replicate 3 (.int .u8)) (t:=24) (e:=139) (by kernel_rfl) (by kernel_rfl) (by kernel_rfl) dE v4 d4
 obtain⟨c5,k5,g5,l5,x5,y5,s5,z5⟩:=Q_ (n:=6) (ks:=List.replicate 2 (.int .u8)) (t:=25) (e:=144) (by kernel_rfl) (by kernel_rfl) (by kernel_rfl) dE v5 d5
 obtain⟨c6,k6,g6,l6,x6,y6,s6,z6⟩:=Q_ (n:=6) (ks:=List.replicate 1 (.int .u8)) (t:=23) (e:=5) (by kernel_rfl) (by kernel_rfl) (by kernel_rfl) dE v6 d6
 obtain⟨c7,k7,g7,l7,x7,y7,s7,z7⟩:=Q_ (n:=6) (ks:=List.replicate 3 (.int .u8)) (t:=28) (e:=e28) u28 (by kernel_rfl) (by kernel_rfl) dE GnJ hd7
 obtain⟨r1,-,r3⟩:=FZ (H:=[k2,k3,k4,k5,k6,k7]) (j:=5) dE s7 z7 rfl
 refine⟨bl,mu,fun i=>match i with|2=>c2 0|3=>c3 1|4=>c4 2|5=>c5 3|_=>c6 4,[k2,k3,k4,k5,k6,k7],[g2,g3,g4,g5,g6,g7],c7 5,l7,rfl,fun b blk hb=>?_,?_,x7 5 _ rfl,⟨w0,w1,fun i n hi=>?_⟩,r1,r3⟩
 ·match b,hb with
  |0,hb=>simp at hb;subst hb;exact y2
  |1,hb=>simp at hb;subst hb;exact y3
  |2,hb=>simp at hb;subst hb;exact y4
  |3,hb=>simp at hb;subst hb;exact y5
  |4,hb=>simp at hb;subst hb;exact y6
  |5,hb=>simp at hb;subst hb;exact y7
  |n+6,hb=>simp at hb
 ·simp only[V]
  refine⟨a,rfl,VL.Z_ (by simp[hsz]) fun i c hi=>?_⟩
  match i,hi with
  |0,hi=>simp at hi;subst hi;exact⟨_,by simpa using a0,by simp[V]⟩
  |1,hi=>simp at hi;subst hi;exact⟨_,by simpa using a1,by simp[V]⟩
  |2,hi=>simp at hi;subst hi;exact⟨_,by simpa using a2,x2 0 _ rfl⟩
  |3,hi=>simp at hi;subst hi;exact⟨_,by simpa using a3,x3 1 _ rfl⟩
  |4,hi=>simp at hi;subst hi;exact⟨_,by simpa using a4,x4 2 _ rfl⟩
  |5,hi=>simp at hi;subst hi;exact⟨_,by simpa using a5,x5 3 _ rfl⟩
  |6,hi=>simp at hi;subst hi;exact⟨_,by simpa using a6,x6 4 _ rfl⟩
  |n+7,hi=>simp at hi
 ·match i,hi with
  |0,hi=>simp at hi;subst hi;obtain⟨p1,p2,p3⟩:=FZ (H:=[k2,k3,k4,k5,k6,k7]++[⟨[.int .u8 bl,.int .u8 mu,c2 0,c3 1,c4 2,c5 3,c6 4],.rw,0⟩]) (j:=0) dE s2 z2 rfl;exact⟨l2,p1,Nat.lt_of_le_of_lt p2 sM,p3⟩
  |1,hi=>simp at hi;subst hi;obtain⟨p1,p2,p3⟩:=FZ (H:=[k2,k3,k4,k5,k6,k7]++[⟨[.int .u8 bl,.int .u8 mu,c2 0,c3 1,c4 2,c5 3,c6 4],.rw,0⟩]) (j:=1) dE s3 z3 rfl;exact⟨l3,p1,Nat.lt_of_le_of_lt p2 sM,p3⟩
  |2,hi=>simp at hi;subst hi;obtain⟨p1,p2,p3⟩:=FZ (H:=[k2,k3,k4,k5,k6,k7]++[⟨[.int .u8 bl,.int .u8 mu,c2 0,c3 1,c4 2,c5 3,c6 4],.rw,0⟩]) (j:=2) dE s4 z4 rfl;exact⟨l4,p1,Nat.lt_of_le_of_lt p2 sM,p3⟩
  |3,hi=>simp at hi;subst hi;obtain⟨p1,p2,p3⟩:=FZ (H:=[k2,k3,k4,k5,k6,k7]++[⟨[.int .u8 bl,.int .u8 mu,c2 0,c3 1,c4 2,c5 3,c6 4],.rw,0⟩]) (j:=3) dE s5 z5 rfl;exact⟨l5,p1,Nat.lt_of_le_of_lt p2 sM,p3⟩
  |4,hi=>simp at hi;subst hi;obtain⟨p1,p2,p3⟩:=FZ (H:=[k2,k3,k4,k5,k6,k7]++[⟨[.int .u8 bl,.int .u8 mu,c2 0,c3 1,c4 2,c5 3,c6 4],.rw,0⟩]) (j:=4) dE s6 z6 rfl;exact⟨l6,p1,Nat.lt_of_le_of_lt p2 sM,p3⟩
  |n+5,hi=>simp at hi
theorem Gqz{bl mu:Int}{x:Nat→CV}{blks:List JD}{y:CV}{rs:List (List CV)}(b:Beg (blks++[⟨[.int .u8 bl,.int .u8 mu,x 2,x 3,x 4,x 5,x 6],.rw,0⟩]) bl mu x)(hs:Sl blks y 3 rs)(hu:TS 3 rs):∃H1,run (Kb Go.Proofs.Tryz.prog) 3 [.agg [.int .u8 bl,.int .u8 mu,x 2,x 3,x 4,x 5,x 6],y] blks=some (.bool true,H1):=
 GbF b hs hu fun G=>RF (H:=G)
end Go.Cs.Tryz
namespace Go.Proofs
open Go.Shelf
def Tryz.keysA_ren:Go.Shelf.Ren:=⟨fun|7=>46|10=>138|n=>n,fun|23=>113|26=>3|3=>4|28=>118|0=>0|27=>117|33=>126|4=>4|n=>n,fun|n=>n⟩
theorem Tryz.keysA:Go.Proofs.SlLaysZI.n7 Tryz.prog Tryz.keysA_ren:={
 mixed:=by kernel_rfl
 f7:=⟨Tryz.f46.name,by decide,Tryz.func46.trans (congrArg some (by kernel_rfl))⟩
 f10:=⟨Tryz.f138.name,by decide,Tryz.func138.trans (congrArg some (by kernel_rfl))⟩
 t0:=Tryz.underlying0
 a0:=Tryz.isAgg0
 z0:=Tryz.sizeOf0
 v0:=Tryz.zeroValue0
 t4:=Tryz.underlying4
 a4:=Tryz.isAgg4
 z4:=Tryz.sizeOf4
 v4:=Tryz.zeroValue4
 t23:=Tryz.underlying113
 a23:=Tryz.isAgg113
 z23:=Tryz.sizeOf113
 v23:=Tryz.zeroValue113
 t26:=Tryz.underlying3
 a26:=Tryz.isAgg3
 z26:=Tryz.sizeOf3
 v26:=Tryz.zeroValue3
 t27:=Tryz.underlying117
 a27:=Tryz.isAgg117
 z27:=Tryz.sizeOf117
 v27:=Tryz.zeroValue117
 t28:=Tryz.underlying118
 a28:=Tryz.isAgg118
 z28:=Tryz.sizeOf118
 v28:=Tryz.zeroValue118
 t33:=Tryz.underlying126
 a33:=Tryz.isAgg126
 z33:=Tryz.sizeOf126
 v33:=Tryz.zeroValue126}
def Tryz.sortedA_ren:Go.Shelf.Ren:=⟨fun|6=>45|8=>136|9=>137|11=>225|13=>227|12=>226|23=>277|24=>278|14=>269|15=>270|16=>271|17=>272|18=>273|19=>274|20=>140|21=>275|22=>276|25=>303|26=>304|27=>305|28=>306|29=>307|30=>230|31=>315|n=>n,fun|26=>3|28=>118|24=>36|0=>0|3=>3|37=>210|48=>301|50=>292|4=>4|40=>295|39=>294|45=>127|5=>5|9=>9|51=>322|55=>183|57=>330|58=>331|33=>126|n=>n,fun|n=>n⟩
theorem Tryz.sortedA:Go.Proofs.SlLaysZI.n6 Tryz.prog Tryz.sortedA_ren:={
 mixed:=by kernel_rfl
 f6:=⟨Tryz.f45.name,by decide,Tryz.func45.trans (congrArg some (by kernel_rfl))⟩
 f8:=⟨Tryz.f136.name,by decide,Tryz.func136.trans (congrArg some (by kernel_rfl))⟩
 f11:=⟨Tryz.f225.name,by decide,Tryz.func225.trans (congrArg some (by kernel_rfl))⟩
 t0:=Tryz.underlying0
 a0:=Tryz.isAgg0
 z0:=Tryz.sizeOf0
 v0:=Tryz.zeroValue0
 t24:=Tryz.underlying36
 a24:=Tryz.isAgg36
 z24:=Tryz.sizeOf36
 v24:=Tryz.zeroValue36
 t26:=Tryz.underlying3
 a26:=Tryz.isAgg3
 z26:=Tryz.sizeOf3
 v26:=Tryz.zeroValue3
 t28:=Tryz.underlying118
 a28:=Tryz.isAgg118
 z28:=Tryz.sizeOf118
 v28:=Tryz.zeroValue118
 i26:=by kernel_rfl}
def Tryz.sortA_ren:Go.Shelf.Ren:=⟨fun|5=>137|8=>227|7=>226|19=>277|20=>278|10=>269|11=>270|12=>271|13=>272|14=>273|15=>274|16=>140|17=>275|18=>276|30=>303|31=>304|32=>305|33=>306|34=>307|35=>230|40=>315|n=>n,fun|23=>36|25=>3|3=>3|32=>210|22=>36|0=>0|44=>301|46=>292|4=>4|36=>295|35=>294|41=>127|5=>5|9=>9|53=>322|57=>183|63=>330|64=>331|n=>n,fun|n=>n⟩
theorem Tryz.sortA:Go.Proofs.SlLaysM.n5 Tryz.prog Tryz.sortA_ren:={
 mixed:=by kernel_rfl
 f5:=⟨Tryz.f137.name,by decide,Tryz.func137.trans (congrArg some (by kernel_rfl))⟩
 f7:=⟨Tryz.f226.name,by decide,Tryz.func226.trans (congrArg some (by kernel_rfl))⟩
 f8:=Tryz.func227.trans (congrArg some (by kernel_rfl))
 f10:=⟨Tryz.f269.name,by decide,Tryz.func269.trans (congrArg some (by kernel_rfl))⟩
 f11:=⟨Tryz.f270.name,by decide,Tryz.func270.trans (congrArg some (by kernel_rfl))⟩
 f12:=⟨Tryz.f271.name,by decide,Tryz.func271.trans (congrArg some (by kernel_rfl))⟩
 f13:=⟨Tryz.f272.name,by decide,Tryz.func272.trans (congrArg some (by kernel_rfl))⟩
 f14:=⟨Tryz.f273.name,by decide,Tryz.func273.trans (congrArg some (by kernel_rfl))⟩
 f15:=⟨Tryz.f274.name,by decide,Tryz.func274.trans (congrArg some (by kernel_rfl))⟩
 f16:=⟨Tryz.f140.name,by decide,Tryz.func140.trans (congrArg some (by kernel_rfl))⟩
 f17:=⟨Tryz.f275.name,by decide,Tryz.func275.trans (congrArg some (by kernel_rfl))⟩
 f18:=⟨Tryz.f276.name,by decide,Tryz.func276.trans (congrArg some (by kernel_rfl))⟩
 f19:=Tryz.func277.trans (congrArg some (by kernel_rfl))
 f20:=Tryz.func278.trans (congrArg some (by kernel_rfl))
 f30:=⟨Tryz.f303.name,by decide,Tryz.func303.trans (congrArg some (by kernel_rfl))⟩
 f31:=Tryz.func304.trans (congrArg some (by kernel_rfl))
 f32:=Tryz.func305.trans (congrArg some (by kernel_rfl))
 f33:=⟨Tryz.f306.name,by decide,Tryz.func306.trans (congrArg some (by kernel_rfl))⟩
 f34:=⟨Tryz.f307.name,by decide,Tryz.func307.trans (congrArg some (by kernel_rfl))⟩
 f35:=⟨Tryz.f230.name,by decide,Tryz.func230.trans (congrArg some (by kernel_rfl))⟩
 f40:=⟨Tryz.f315.name,by decide,Tryz.func315.trans (congrArg some (by kernel_rfl))⟩
 t0:=Tryz.underlying0
 a0:=Tryz.isAgg0
 z0:=Tryz.sizeOf0
 v0:=Tryz.zeroValue0
 t3:=Tryz.underlying3
 a3:=Tryz.isAgg3
 z3:=Tryz.sizeOf3
 v3:=Tryz.zeroValue3
 t4:=Tryz.underlying4
 a4:=Tryz.isAgg4
 z4:=Tryz.sizeOf4
 v4:=Tryz.zeroValue4
 t5:=Tryz.underlying5
 a5:=Tryz.isAgg5
 z5:=Tryz.sizeOf5
 v5:=Tryz.zeroValue5
 t9:=Tryz.underlying9
 a9:=Tryz.isAgg9
 z9:=Tryz.sizeOf9
 v9:=Tryz.zeroValue9
 t22:=Tryz.underlying36
 a22:=Tryz.isAgg36
 z22:=Tryz.sizeOf36
 v22:=Tryz.zeroValue36
 t23:=Tryz.underlying36
 a23:=Tryz.isAgg36
 z23:=Tryz.sizeOf36
 v23:=Tryz.zeroValue36
 t25:=Tryz.underlying3
 a25:=Tryz.isAgg3
 z25:=Tryz.sizeOf3
 v25:=Tryz.zeroValue3
 t32:=Tryz.underlying210
 a32:=Tryz.isAgg210
 z32:=Tryz.sizeOf210
 v32:=Tryz.zeroValue210
 t35:=Tryz.underlying294
 a35:=Tryz.isAgg294
 z35:=Tryz.sizeOf294
 v35:=Tryz.zeroValue294
 t36:=Tryz.underlying295
 a36:=Tryz.isAgg295
 z36:=Tryz.sizeOf295
 v36:=Tryz.zeroValue295
 t41:=Tryz.underlying127
 a41:=Tryz.isAgg127
 z41:=Tryz.sizeOf127
 v41:=Tryz.zeroValue127
 t44:=Tryz.underlying301
 a44:=Tryz.isAgg301
 z44:=Tryz.sizeOf301
 v44:=Tryz.zeroValue301
 t46:=Tryz.underlying292
 a46:=Tryz.isAgg292
 z46:=Tryz.sizeOf292
 v46:=Tryz.zeroValue292
 t53:=Tryz.underlying322
 a53:=Tryz.isAgg322
 z53:=Tryz.sizeOf322
 v53:=Tryz.zeroValue322
 t57:=Tryz.underlying183
 a57:=Tryz.isAgg183
 z57:=Tryz.sizeOf183
 v57:=Tryz.zeroValue183
 t63:=Tryz.underlying330
 a63:=Tryz.isAgg330
 z63:=Tryz.sizeOf330
 v63:=Tryz.zeroValue330
 t64:=Tryz.underlying331
 a64:=Tryz.isAgg331
 z64:=Tryz.sizeOf331
 v64:=Tryz.zeroValue331}
end Go.Proofs
namespace Go.Cs.Tryz
open Go Go.Cs Go.Proofs Go.RowKit Go.Maps Go.Sort Go.Shelf
open Go.WideElems (Fit rd rg rg_of)
theorem GoO:GgK Go.Proofs.Tryz.prog 137:=
 ⟨fun blk off cap zs w hH hblk hsz=>AnyM.slices_Sort_int Go.Proofs.Tryz.sortA blk off cap zs w hH hblk oM,fun p cap w=>AnyM.slices_Sort_int_none Go.Proofs.Tryz.sortA p cap w⟩
theorem Gls(m:Nat):AnyZI.SortsIn Go.Proofs.Tryz.prog Go.Proofs.Tryz.sortedA_ren Fence.wide m:=
 ⟨fun blk off cap ss W hH hblk hsz=>callsIn_wide.2 (AnyM.slices_Sort_int Go.Proofs.Tryz.sortA blk off cap ss W hH hblk hsz),
  fun p cap W=>callsIn_wide.2 (AnyM.slices_Sort_int_none Go.Proofs.Tryz.sortA p cap W)⟩
def Sv:Value→Option (DataW Unit×List MemPlace):=fun _=>some (.lit (.bool true),[])
theorem Gln{n:Int}(h:Im n=true):keyOf Go.Proofs.Tryz.prog 3 (.int .i64 n)=some (.int .i64 n):=by
 have hw:(Lit.int .i64 n).wf=true:=h
 simp[keyOf,hw,show Go.Proofs.Tryz.prog.underlying 3=some (.int .i64)from by kernel_rfl,mapKey]
theorem GoG:Ghi Go.Proofs.Tryz.prog 45 138:=by
 intro w Bm b es cl ks hcell hb hst hkeys hlen hrange hBm
 have hsz:es.size=ks.length:=by have:=congrArg List.length hkeys;simpa using this
 have hmem:∀x∈es.toList,∃n,n∈ks∧x.key=.int .i64 n:=by
  intro x hx
  have:x.key∈ks.map (Value.int .i64):=by rw[←hkeys];exact List.mem_map_of_mem hx
  obtain⟨n,hn,e⟩:=VA.1 this
  exact⟨n,hn,e.symm⟩
 have hin:∀n∈ks,Im n=true:=fun n hn=>List.all_eq_true.1 hrange n hn
 have hrd:∀(x:MapEntry)(n:Int),n∈ks→x.key=.int .i64 n→rd Go.Proofs.Tryz.prog 3 Sv x=some (.int .i64 n,.lit (.bool true)):=by
  intro x n hn hx
  simp[Go.WideElems.rd,hx,Gln (hin n hn),Sv]
 have hown:w.ownsMap Go.Proofs.Tryz.prog 3 Sv b es.size (.map ((es.toList.map (rg Go.Proofs.Tryz.prog 3 Sv)).foldr DataW.insert [])):=
  ⟨es,cl,hb,⟨by rw[hsz];exact Jm hlen dE,hst,fun x hx=>by obtain⟨n,hn,e⟩:=hmem x hx;exact⟨_,hrd x n hn e⟩⟩,Nat.le_refl _,rfl⟩
 generalize hD:(DataW.map ((es.toList.map (rg Go.Proofs.Tryz.prog 3 Sv)).foldr DataW.insert []):DataW Unit)=D0 at hown
 have hsize:Maps.size D0=es.size:=by rw[←hD];simp[Maps.size,length_sorted]
 have hperm:(intKeys D0).Perm ks:=by
  rw[←hD]
  have h1:(((es.toList.map (rg Go.Proofs.Tryz.prog 3 Sv)).foldr DataW.insert []).map fun p=>intOf p.1).Perm ((es.toList.map (rg Go.Proofs.Tryz.prog 3 Sv)).map fun p=>intOf p.1):=(WideShapes.sorted_perm _).map _
  refine h1.trans ?_
  have h2:(es.toList.map (rg Go.Proofs.Tryz.prog 3 Sv)).map (fun p=>intOf p.1)=ks:=by
   have h3:∀(l:List MapEntry)(k:List Int),(∀n∈k,n∈ks)→l.map (·.key)=k.map (Value.int .i64)→(l.map (rg Go.Proofs.Tryz.prog 3 Sv)).map (fun p=>intOf p.1)=k:=by
    intro l
    induction l with
    |nil=>intro k _ hk;cases k with
     |nil=>rfl
     |cons a k=>simp at hk
    |cons x l ih=>
     intro k hin2 hk
     cases k with
     |nil=>simp at hk
     |cons a k=>
      simp only[List.map_cons,List.cons.injEq]at hk
      simp only[List.map_cons,List.cons.injEq]
      exact⟨by rw[rg_of (hrd x a (hin2 a Nr) hk.1)];rfl,ih k (fun n hn=>hin2 n (U5 _ hn)) hk.2⟩
   exact h3 _ _ (fun _ h=>h) hkeys
  rw[h2]
 have hseq:SeqGives Fence.wide 2 Go.Proofs.Tryz.prog 138 #[.pointer (some ⟨Bm,0,none⟩)] encZ (fun ss=>ss.Perm (intKeys D0)) (Maps.size D0) w:=
  AnyZI.keys_gives (ρ:=Go.Proofs.Tryz.keysA_ren) {Go.Proofs.Tryz.keysA with} Fence.wide _ trivial rfl oM Bm b es.size D0 w hBm hcell hown
 have cS:=AnyZI.sorted_in Go.Proofs.Tryz.sortedA Fence.wide 5 trivial trivial trivial trivial rfl oM (Gls _) (enters_of Go.Proofs.Tryz.func137 (by kernel_rfl) rfl) 138 #[.pointer (some ⟨Bm,0,none⟩)] trivial (enters_of Go.Proofs.Tryz.func138 (by kernel_rfl) rfl) _ _ (by rw[hsize,hsz];exact Jm hlen dE) (by rw[hsize,hsz];omega) w hseq
 change CallsIn _ _ Go.Proofs.Tryz.prog 45 _ _ _ at cS
 refine(callsIn_wide.1 cS).mono ?_
 rintro e w' ⟨v,ss,rfl,hS,hrow,hnil,hbel⟩
 have hp:ss.Perm ks:=hS.trans hperm
 have hsort:ss.mergeSort (fun x y=>decide (x≤y))=ks.mergeSort (fun x y=>decide (x≤y)):=by
  rw[Qp,Qp]
  exact Ef ((QZ ss).trans hp) (UO ss)
 refine⟨v,rfl,hbel,?_⟩
 have hl:ss.length=ks.length:=hp.length_eq
 rcases hrow.2 with⟨rfl,h0⟩|⟨g,cap,cur,rfl,h1,h2,h3,h4,h5,h6⟩
 ·exact .inl ⟨I4 oM,rfl⟩
 ·refine .inr ⟨fun e=>?_,g,cap,cur,_,by rw[hl],h1,h2,oM,by rw[h5,Nat.mul_one],?_⟩
  ·have:ss=[]:=I4 (by rw[hl,e];rfl)
   have:=hnil.2 this
   cases this
  ·rw[←hl,←Nat.mul_one ss.length,h6,hsort]
theorem GiE:Ej Go.Proofs.Tryz.prog:=by
 intro f fn hfn
 have hall:((List.range Go.Proofs.Tryz.prog.funcs.size).all fun i=>match Go.Proofs.Tryz.prog.funcs[i]? with|some fn=>(!isSort fn||i==137)&&(!isSorted fn||i==45)|none=>true)=true:=by kernel_rfl
 have hf:f<Go.Proofs.Tryz.prog.funcs.size:=(Vj.1 hfn).1
 have h1:=List.all_eq_true.1 hall f (List.mem_range.2 hf)
 rw[hfn]at h1
 simp only[Qj,Bool.or_eq_true,Bool.not_eq_true',beq_iff_eq]at h1
 refine⟨fun h=>?_,fun h g hg=>?_⟩
 ·rcases h1.1 with h2|rfl
  ·rw[h]at h2;cases h2
  ·exact GoO
 ·rcases h1.2 with h2|rfl
  ·rw[h]at h2;cases h2
  ·have hk:GbG Go.Proofs.Tryz.prog=some 138:=by kernel_rfl
   rw[hk]at hg
   simp only[GA]at hg
   subst hg
   exact GoG
end Go.Cs.Tryz
namespace Go.Proofs.YthpfmihkegbbgaaGreatDoor
open Go Go.Cs
def Xy:List (String×DataW Unit):=[("dustcart/weak.headShape",Rows.laid_dustcart_weak_headShape),("dustcart/weak.entryShape",Rows.laid_dustcart_weak_entryShape)]
def Gfn(P:Program)(t:TypeId):Bool:=match P.underlying t with
 |some (.struct fs)=>decide (P.cellsOf t=fs.size)&&fs.toList.zipIdx.all fun x=>decide (x.1.offset=x.2)&&decide (P.cellsOf x.1.type=1)&&(match P.underlying x.1.type with|some (.int .i64)=>true|_=>false)
 |_=>false
theorem RG{H:Type}{enc:TypeId×Value→H}{P:Program}{w:World}{base:Nat}{spare:Nat→Bool}{held:Bool}{fuel:Nat}{t:TypeId}{cs:List Value}{zs:List Int}{p:List MemPlace}
  (hB:Gfn P t=true)(h:DataW.trod enc P w base spare held fuel t cs=some (.agg (zs.map fun z=>.lit (.int .i64 z)),p)):cs=zs.map (Value.int .i64):=by
 unfold Gfn at hB
 split at hB
 case h_2=>cases hB
 rename_i fs ht
 rw[Qj,decide_eq_true_eq]at hB
 obtain⟨hc,hf⟩:=hB
 obtain⟨xs,n,rfl,hx,hl,hxl,hE⟩:=DataW.trod_struct ht h
 simp only[Prod.mk.injEq,DataW.agg.injEq]at hx
 have hz:=hx.1
 have hzl:zs.length=fs.size:=by
  have:=congrArg List.length hz
  simp at this;omega
 refine List.ext_getElem? fun i=>?_
 by_cases hi:i<fs.size
 ·have e:=List.all_eq_true.1 hf (fs[i],i) (by
   rw[List.mem_iff_getElem]
   exact⟨i,by simpa using hi,sM⟩)
  simp only[Qj,decide_eq_true_eq]at e
  obtain⟨⟨e1,e2⟩,e3⟩:=e
  have h1:=hE i fs[i] (Gf3 hi)
  have hxi:xs[i]?=some xs[i]:=JG oM
  rw[hxi]at h1
  split at e3
  case h_2=>cases e3
  rename_i hu
  obtain⟨m,q1,q2,-⟩:=DataW.trod_int hu h1
  rw[e1,e2]at q1
  have g1:cs[i]?=some (.int .i64 m):=by
   have:((cs.drop i).take 1)[0]?=some (Value.int .i64 m):=by rw[q1];rfl
   rw[SF,if_pos oM,BQ]at this
   simpa using this
  have g2:(zs.map fun z=>(DataW.lit (.int .i64 z):DataW H))[i]?=some (.lit (.int .i64 m)):=by
   rw[hz,K4,hxi,q2];rfl
  rw[K4,GJ]at g2
  obtain⟨z,g3,g4⟩:=g2
  simp only[DataW.lit.injEq,Lit.int.injEq,true_and]at g4
  rw[g1,K4,g3,g4];rfl
 ·rw[lX9 oM,lX9 (by simp;omega)]
theorem GoA:Tryz.prog.globalNamed "dustcart/weak.headShape" =some 0:=by kernel_rfl
theorem Gmj:Tryz.prog.globalNamed "dustcart/weak.entryShape" =some 1:=by kernel_rfl
theorem Gok:(Tryz.prog.globals[0]?).map (·.type)=some 69:=by kernel_rfl
theorem Gmb:(Tryz.prog.globals[1]?).map (·.type)=some 69:=by kernel_rfl
theorem Gfy:Gfn Tryz.prog 69=true:=by kernel_rfl
theorem GhJ:((List.range Tryz.prog.globals.size).filter fun g=>(ZO Tryz.prog g).isSome)=[0,1]:=by kernel_rfl
theorem gl0:ZO Tryz.prog 0=some [8,1,3]:=by kernel_rfl
theorem gl1:ZO Tryz.prog 1=some [3,1,2]:=by kernel_rfl
theorem WJ{P:Program}{w:World}{n:String}{g:Nat}{cs:Array Value}(hg:P.globalNamed n=some g)(h:w.var? P n=some cs):∃T fz,w.heap[g]?=some (.cells cs T fz):=by
 simp only[World.var?,hg,Option.bind_some]at h
 split at h
 ·rename_i cs' T fz hh
  simp only[GA]at h
  subst h
  exact⟨_,_,hh⟩
 ·cases h
theorem Sy{W:World}(h:laidMetH Tryz.prog Xy W):ZU Tryz.prog W:=by
 rw[MakeChecks.laidMetH_plain _ _ _ (by kernel_rfl)]at h
 obtain⟨ps,⟨g0,t0,cs0,f0,p0,q0,hg0,ht0,hv0,hd0,⟨g1,t1,cs1,f1,p1,q1,hg1,ht1,hv1,hd1,_,_⟩,_⟩,_,_⟩:=h
 obtain rfl:=Option.some.inj (GoA.symm.trans hg0)
 obtain rfl:=Option.some.inj (Gmj.symm.trans hg1)
 obtain rfl:=Option.some.inj (Gok.symm.trans ht0)
 obtain rfl:=Option.some.inj (Gmb.symm.trans ht1)
 have c0:=RG (zs:=[8,1,3]) Gfy hd0
 have c1:=RG (zs:=[3,1,2]) Gfy hd1
 obtain⟨T0,z0,k0⟩:=WJ hg0 hv0
 obtain⟨T1,z1,k1⟩:=WJ hg1 hv1
 intro g zs hz
 have hm:g∈((List.range Tryz.prog.globals.size).filter fun g=>(ZO Tryz.prog g).isSome):=by
  refine List.mem_filter.2 ⟨List.mem_range.2 ?_,by rw[hz];rfl⟩
  unfold ZO at hz
  rw[Jt]at hz
  obtain⟨x,hx,-⟩:=hz
  exact(Vj.1 hx).1
 rw[GhJ]at hm
 simp only[List.mem_cons,List.not_mem_nil,or_false]at hm
 rcases hm with rfl|rfl
 ·rw[gl0]at hz
  simp only[GA]at hz
  subst hz
  exact⟨T0,z0,by rw[k0,←c0]⟩
 ·rw[gl1]at hz
  simp only[GA]at hz
  subst hz
  exact⟨T1,z1,by rw[k1,←c1]⟩
theorem Gfr(os:Os)(args:Array Value):laidMetH Tryz.prog Xy ((World.doorLaid Tryz.prog 400 os).forCall (fun _ _=>0) ⟨#[],args,[]⟩).memory:=
 laidMetH_of_parts3 (fuel:=8) (laidMet_of_run' 8 (by kernel_rfl) (by kernel_rfl)) (by kernel_rfl) (by kernel_rfl)
end Go.Proofs.YthpfmihkegbbgaaGreatDoor
namespace Go.Proofs.YthpfmihkegbbgaaGreatDoor.weakTable
open Go Go.Cs Go.ChangeShapes Go.WideShapes Go.ChangeAt Go.RowKit
set_option linter.unusedVariables false
theorem own:ownKnob Tryz.prog.godebug=none:=by kernel_rfl
theorem laidOut:laidOutB Tryz.prog=true:=by kernel_rfl
theorem follows:Tryz.prog.follows .mixedOrders=true:=by kernel_rfl
set_option maxRecDepth 100000 in
theorem lifted(os:Os)(started:os.Started)(H:Type)(enc:TypeId×Value→H):
  ReturnsInHanded {} Tryz.checked os 3 .any (fun w args=>(Rows.weakTableSpec.pre enc Tryz.prog Tryz.f3 [] false w args∧laidMetH Tryz.prog Xy w)∧sizedMet enc Tryz.prog Tryz.f3 (OpenSpec.ofChange Rows.weakTableSpec) false w args) (Rows.weakTableSpec.post enc Tryz.prog Tryz.f3 false true false false):=by
 refine returnsInHanded_of_change_and (C:=Tryz.checked) (X:=fun w _=>laidMetH Tryz.prog Xy w) (fun _ _ _ hh h=>h.of_heap hh) own started (by kernel_rfl) Tryz.func3
  (ChangeSpec.witness_shaped (enc:=enc) (C:=Tryz.checked) (os:=os) (X:=fun w _=>laidMetH Tryz.prog Xy w) false (World.doorLaid Tryz.prog 400 os) #[.agg #[.int .u8 0,.int .u8 0,.slice none 0 0,.slice none 0 0,.slice none 0 0,.slice none 0 0,.slice none 0 0],.slice none 0 0] 8 rfl (World.shaped_of_RefB (by kernel_rfl) (by kernel_rfl)) (by kernel_rfl) (by kernel_rfl) (by kernel_rfl) (Gfr os _)) ?_
 intro W base args ds gs before hval0 hW hcnd hsz0 hL _
 have hval:∀(j:Nat) t v,Tryz.f3.params[j]?=some t→args[j]?=some v→Value.okWide Tryz.prog W .any base t v:=hval0
 have hW':=hW
 obtain⟨p,q,hA0,hV,rfl,hfz,hnd⟩:=hW
 have hA:DataW.TrodAll enc Tryz.prog W 0 (fun _=>true) true Tryz.f3.params.toList args.toList ds p:=hA0
 rw[Tryz.params3]at hA hval
 clear hA0 hval0 hsz0 hcnd
 obtain⟨v0,vs0,d0,ds0,p0,q0,hargs,rfl,rfl,h0,r0⟩:=trodAll_cons hA
 obtain⟨v1,vs1,d1,ds1,p1,q1,rfl,rfl,rfl,h1,r1⟩:=trodAll_cons r0
 obtain⟨rfl,rfl,rfl⟩:=trodAll_nil r1
 obtain rfl:args=#[v0,v1]:=by cases args;simp_all
 obtain⟨rfl,rfl⟩:=trodVars_none hV
 have lt0:∀x∈p0,x.block<W.heap.size:=by obtain⟨m,hm⟩:=h0;exact DataW.trod_lt m _ _ _ hm
 obtain⟨bl0,mu0,x0,bs0,tg0,y1,rs1,ge0,bk0,vx0,vx1,bg0,sl1,u1⟩:=Go.Cs.Tryz.IE (hval 0 27 v0 rfl rfl) h0 (hval 1 28 v1 rfl rfl) h1
 have lt1:∀x∈p1,x.block<W.heap.size:=by obtain⟨m,hm⟩:=h1;exact DataW.trod_lt m _ _ _ hm
 obtain⟨H1,hrun⟩:∃H1,run (Kb Tryz.prog) 3 [.agg [.int .u8 bl0,.int .u8 mu0,x0 2,x0 3,x0 4,x0 5,x0 6],y1] bs0=some (.bool true,H1):=Go.Cs.Tryz.Gqz bg0 sl1 u1
 have hb:∀b blk,bs0[b]?=some blk→GcG W blk (tg0.getD b none):=bk0
 refine(GdL follows Go.Cs.Tryz.GiE (Sy hL) dE (tgs:=tg0) (W:=W) (args':=#[v0,v1]) ge0 hb hrun ?_).mono fun e W' he=>?_
 ·simp only[VL]
  exact⟨_,_,rfl,vx0,⟨_,_,rfl,vx1,rfl⟩⟩
 obtain⟨⟨ν,v',rfl,hv'⟩,bel⟩:=he
 simp only[V]at hv'
 subst hv'
 exact⟨_,rfl,_,_,_,[],_,[],hW',trodAll_mk1 (shut_bool (show Tryz.prog.underlying 4=some .bool from by kernel_rfl) _),(trodAll_cons_mk (Below.trod laidOut (by kernel_rfl) (of_decide_eq_true (by kernel_rfl)) h0 bel lt0) (trodAll_cons_mk (Below.trod laidOut (by kernel_rfl) (of_decide_eq_true (by kernel_rfl)) h1 bel lt1) trodAll_mk0)),rfl,bel.frame _,fun h=>by cases h⟩
theorem Gco:Tryz.f3.isWrapper Tryz.pinned.checked.prog Rows.weakTableRow.wrapper Rows.weakTableRow.mainSum:=by
 unfold Func.isWrapper
 first|(rw[if_pos dK];kernel_rfl)|(rw[if_neg dK];exact⟨rfl,rfl⟩)
theorem Gl0:Tryz.pinned.checked.prog.funcNamed Rows.weakTableRow.func=some 3:=by kernel_rfl
theorem Gjh:joinedFacts Tryz.pinned.checked.prog 3 Tryz.f3 Rows.weakTableSpec Rows.weakTableRow=true:=by kernel_rfl
theorem Gos:Tryz.f3.isInstance Tryz.pinned.checked.prog Rows.weakTableRow.origin Rows.weakTableRow.targs:=of_decide_eq_true (by kernel_rfl)
set_option maxHeartbeats 2000000 in
theorem over:Rows.weakTableRow.holds Tryz.pinned (OpenSpec.ofChange Rows.weakTableSpec):=
 OpenClaim.holds_of_wide 3 Tryz.f3 rfl rfl rfl rfl rfl rfl rfl ⟨rfl,rfl,rfl,rfl,rfl⟩ rfl rfl rfl rfl rfl Gl0 Tryz.func3 Gjh Gos Gco
  (fun os started H enc _=>lifted os started H enc)
end Go.Proofs.YthpfmihkegbbgaaGreatDoor.weakTable
namespace Go.Proofs.YthpfmihkegbbgaaGreatDoor
theorem weakTable_row_holds:Rows.WeakTableSaid:=weakTable.over
theorem weakTable_holds:Rows.WeakTableCardSaid:=
 Claim7.holds_tied_plain_at .later [] [.data,.data] true (true, "c152f6d82ca194ae67d6b1058f2e90d96c76bfdf0a07b3ef32761bb776b3354e") false
  weakTable_row_holds (fun _ h=>by cases h) (by as_aux_lemma=>kernel_rfl) (fun _ h=>by cases h) weakTable_row_tie rfl ⟨rfl,rfl⟩ (by as_aux_lemma=>kernel_rfl) rfl
  (fun f fn hf hfn=>by
   obtain rfl:f=3:=Option.some.inj ((show Tryz.prog.funcNamed "dustcart/dustcartlaw19.WeakTable" =some 3 by as_aux_lemma=>kernel_rfl).symm.trans hf) |>.symm
   obtain rfl:fn=Tryz.f3:=(Option.some.inj (Tryz.func3.symm.trans hfn)).symm
   exact⟨by as_aux_lemma=>kernel_rfl,fun j t ht=>by
    rw[Tryz.params3]at ht
    have hm:t∈[27,28]:=by simpa using Array.mem_of_getElem? ht
    have hall:([27,28].all fun u=>!Tryz.prog.wantsStandIn u)=true:=by as_aux_lemma=>kernel_rfl
    exact(show Tryz.prog.wantsStandIn t=false by simpa using List.all_eq_true.1 hall t hm)⟩)
  (by as_aux_lemma=>kernel_rfl)
#print axioms weakTable_holds
end Go.Proofs.YthpfmihkegbbgaaGreatDoor
