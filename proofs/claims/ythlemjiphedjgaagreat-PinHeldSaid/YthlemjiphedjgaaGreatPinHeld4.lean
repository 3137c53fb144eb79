/- A part of the proof: PinHeld returns true for every input: Mostly moves and frees no object that is held, moves none that is pinned, and leaves what is kept as it is, but for addresses (P18.1, P18.4) Conditions: none. -/
import Derived.Test.YthlemjiphedjgaaGreatPinHeld3
import Derived.Test.YthlemjiphedjgaaGreatProg
import Derived.KernelRfl
set_option linter.unusedVariables false
set_option linter.unusedSimpArgs false
set_option linter.defProp false
set_option maxRecDepth 100000
namespace Go.Cs
open Go
theorem Hp.Lo.word{s:Hp}(h:s.Lo){w:Nat}(hw:w<64):s.word w=0:=by
 unfold Hp.word
 have e:s.owner w=none:=by
  unfold Hp.owner
  rw[List.find?_eq_none]
  intro x hx e
  have:=h.2 x hx
  grind
 rw[e]
theorem PH.sep{H:Gb}{hb:Nat}{s:Hp}{L:G5}(p:PH H hb s L)(k:s.Ok)(lo:s.Lo){l:List Int}(hs:Uc l){b:Nat}(h:H[b]?=some ⟨ints l,.rw,1⟩):b∉L.all hb:=by
 intro hb'
 have side:∀{a c n:Nat}{f:Nat→Bool},Side H a c n f→H[c]?=some ⟨ints l,.rw,1⟩→False:=fun{a c n f} sd e=>by
  obtain⟨ws,w1,-,w2,-⟩:=sd.ws
  rw[w2]at e
  simp only[GA,JE.mk.injEq,and_true]at e
  have hp:=sd.pos
  have h0:0<ws.length:=by rw[w1];unfold Vq;omega
  have e0:=congrArg (fun r=>r[0]?) e
  simp only[Kr,Jr h0,ints,Option.map_some]at e0
  grind
 obtain⟨l1,h1,-⟩:=p.N7
 obtain⟨l2,h2,-⟩:=p.fwd
 simp only[G5.all,List.mem_cons,List.not_mem_nil,or_false]at hb'
 rcases hb' with rfl|rfl|rfl|rfl|rfl|rfl|rfl|rfl|rfl
 ·rw[p.top]at h;simp at h
 ·rw[p.blk]at h;simp at h
 ·rw[p.wrd]at h
  simp only[GA,JE.mk.injEq,and_true]at h
  have hnb:=k.nb
  have hnw:s.nw=64*s.blk.length:=rfl
  have e:=fun(i:Nat)=>congrArg (fun r=>r[i]?) h
  have el:∀i:Nat,i<64→l[i]?=some 0:=fun i hi=>by
   have:=e i
   simp only[Kr,ints]at this
   rw[IX oM,Option.map_some,lo.word hi]at this
   grind
  have:=Jg (r:=fun a b:Int=>a<b) hs (i:=0) (j:=1) oM (el 0 oM) (el 1 oM)
  omega
 ·rw[p.Xk.st]at h;simp at h
 ·exact side p.Xk h
 ·rw[p.pin.st]at h;simp at h
 ·exact side p.pin h
 ·rw[h1]at h;simp at h
 ·rw[h2]at h;simp at h
theorem LI.apart{H H':Gb}{hb:Nat}{s:Hp}{L:G5}{w:CV}{l:List Int}(h:LI H w l)(p:PH H hb s L)(k:s.Ok)(lo:s.Lo)(hs:Uc l)(g:Keeps H H' (·∈L.all hb)):LI H' w l:=by
 rcases h with h|⟨b,tl,h1,h2,h3,h4⟩
 ·exact .inl h
 ·exact .inr ⟨b,tl,h1,h2,by rw[g.keep b (Gf h3) (p.sep k lo hs h3),h3],h4⟩
def BD(K:Int→Bool)(o:Ob):Prop:=(o.kd=1∨o.kd=2)∧¬(o.refs.getD 0 0≠0∧K (o.refs.getD 0 0)=true)
open Classical in
noncomputable def GeU(s:Hp)(K:Int→Bool)(a:Int):Hp:=match s.obj a with
 |some o=>if BD K o then s.upd o.addr zA else s
 |none=>s
def DY(kd:Nat)(l:List Int):Nat→Nat
 |0=>0
 |j+1=>DY kd l j+if l.getD j 0≠0∧Jh kd j=false then 1 else 0
theorem Gdh{kd:Nat}{l:List Int}:∀{j:Nat},DY kd l j≤j
 |0=>Nat.le_refl _
 |j+1=>by have:=@Gdh kd l j;unfold DY;split<;>omega
def Ob.WV(o:Ob):Nat:=DY o.kd o.refs o.refs.length
open Classical in
noncomputable def VH(s:Hp)(K:Int→Bool)(a:Int):Nat:=match s.obj a with
 |some o=>if BD K o then o.WV else 0
 |none=>0
theorem Iz.lo{s:Hp}{R:Rt}(h:Iz s R):s.Lo:=h.2.2
end Go.Cs
namespace Go.Cs.Tryz
open Go Go.Cs
section
variable {H : Gb} {hb : Nat} {s : Hp} {L : G5}
theorem A8(k:s.Ok)(lo:s.Lo)(p:PH H hb s L){a:Int}{o:Ob}(ho:s.obj a=some o){c7:Nat}(t7:H[c7]?=some ⟨GX o.refs.length o.data.length o.kd,.rw,0⟩) (h7n:c7∉L.all hb)
  {E0:Env} (h0:E0 0=.ptr hb 0) (h1:E0 1=.i a) (h7:E0 7=.ptr c7 0) (h11:E0 11=.i 0) (h43:E0 43=.i o.refs.length) (h44:E0 44=.i 0) {r:Option (CX×Env×Gb)} (hr:den P (.loop ZA) E0 H=r):
  ∃E' H',r=some (.exit 0,E',H')∧Keeps H H' (·=L.wb)∧PH H' hb (s.upd o.addr zA) L∧E' 11=.i o.WV:=by
 obtain⟨hom,hoa⟩:=Hp.Jf ho
 have hok:=k.ob o hom
 have hnr:=hok.nr
 have hkd:=hok.kd.1
 have hfi:=hok.fits
 have hnb:=k.nb
 have hnw:s.nw=64*s.blk.length:=rfl
 have uniq:∀x∈s.objs,x.addr=o.addr→x=o:=fun x hx hxa=>by
  have e1:=k.obj hx
  grind
 have zAo:s.upd o.addr (zf o.refs.length)=s.upd o.addr zA:=Yj fun x hx hxa=>by rw[uniq x hx hxa];rfl
 obtain⟨x',E',H',e,-,⟨rfl,g,pp,q1⟩,fr⟩:=Gq (p:=P) (c:=ZA) (E0:=E0) (H0:=H)
  (fun q E H'=>∃(j:Nat),E 44=.i j∧j≤o.refs.length∧q=o.refs.length-j∧Keeps H H' (·=L.wb)∧PH H' hb (s.upd o.addr (zf j)) L∧E 11=.i (DY o.kd o.refs j))
  (fun x' E' H'=>x'=.exit 0∧Keeps H H' (·=L.wb)∧PH H' hb (s.upd o.addr zA) L∧E' 11=.i o.WV) (by
   rintro q E H' hE ⟨j,e44,hj,rfl,g,pj,e11⟩
   have e0:=(hE 0 dK).trans h0
   have e1:=(hE 1 dK).trans h1
   have e7:=(hE 7 dK).trans h7
   have e43:=(hE 43 dK).trans h43
   have t7':H'[c7]?=_:=(g.keep c7 (Gf t7) fun e=>h7n (by rw[e];simp[G5.all])).trans t7
   have kj:(s.upd o.addr (zf j)).Ok:=k.upd fun x _ _=>Gdi j x
   by_cases c:j<o.refs.length
   ·have c':decide ((j:Int)<(o.refs.length:Int))=true:=Gz oM
    obtain⟨r,hr⟩:∃r,o.refs[j]?=some r:=⟨_,Jr c⟩
    have NJ:(s.upd o.addr (zf j)).obj a=some (zf j o):=by
     rw[Hp.GcY (fun x _ _=>Gdi j x),ho]
     simp[QM]
    have hre:((s.upd o.addr (zf j)).refsOf a)[j]?=some r:=by
     unfold Hp.refsOf
     rw[NJ]
     show(Zt o.kd j o.refs)[j]?=some r
     rw[Uq,hr];simp
    obtain⟨X,b1,g1⟩:=U4 pj kj a j oM
    rw[Hp.Vs hre]at b1
    unfold UF at b1
    have pX:=pj.gr g1
    have gX:Keeps H' X (·=L.wb):=g1.weaken fun _ h=>h.elim
    have t7X:=g1.get t7'
    have w1:IntKind.i64.wrap ((j:Int)+1)=((j+1:Nat):Int):=Gg oM
    suffices fin:∃(E':Env)(H2:Gb),den P ZA E H'=some (.normal,E',H2)∧E' 44=.i ((j+1:Nat):Int)∧Keeps H' H2 (·=L.wb)∧PH H2 hb (s.upd o.addr (zf (j+1))) L∧E' 11=.i (DY o.kd o.refs (j+1))by
     obtain⟨E',H2,f1,f2,f3,f4,f5⟩:=fin
     exact Gm f1 (k':=o.refs.length-(j+1)) oM ⟨j+1,f2,oM,rfl,g.trans f3,f4,f5⟩
    unfold GX at t7X
    have same:(r=0∨Jh o.kd j=true)→s.upd o.addr (zf (j+1))=s.upd o.addr (zf j):=fun h=>Yj fun x hx hxa=>by
     rw[uniq x hx hxa]
     unfold zf
     rw[Gb6 hr h]
    have cn:(r=0∨Jh o.kd j=true)→DY o.kd o.refs (j+1)=DY o.kd o.refs j:=fun h=>by
     rw[DY,if_neg (by rw[Bo,hr];rintro ⟨h1,h2⟩;rcases h with h|h<;>simp_all),Nat.add_zero]
    have cn1:r≠0→Jh o.kd j=false→DY o.kd o.refs (j+1)=DY o.kd o.refs j+1:=fun h1 h2=>by
     rw[DY,if_pos ⟨by rw[Bo,hr];exact h1,h2⟩]
    by_cases hr0:r=0
    ·have Gp4:(r != 0)=false:=by rw[hr0];rfl
     refine W8 e0 e1 e43 e44 c' b1 Gp4 w1 ?_
     exact⟨_,_,rfl,uA,gX,by rw[same (.inl hr0)];exact pX,by rw[cn (.inl hr0)];simp[Gc,e11]⟩
    ·have Gp4:(r != 0)=true:=by simpa using hr0
     have hso:=MX (H:=X) (kd:=o.kd) (i:=j) hkd
     cases hst:Jh o.kd j with
     |true=>
      rw[hst]at hso
      refine Jb ?_
      exact⟨_,_,rfl,uA,gX,by rw[same (.inr hst)];exact pX,by rw[cn (.inr hst)];simp[Gc,e11]⟩
     |false=>
      rw[hst]at hso
      obtain⟨X2,d1,d2,d3⟩:=YJ pX kj a j 0 oM oM
      have hset:(s.upd o.addr (zf j)).setRef a j 0=(s.upd o.addr (zf (j+1)),0):=by
       unfold Hp.setRef
       rw[NJ]
       dsimp only
       have hl2:(zf j o).refs.length=o.refs.length:=Yn _ _ _
       rw[if_pos (by rw[hl2];omega),if_pos (.inl rfl),Kt]
       congr 1
       show(s.upd o.addr (zf j)).upd o.addr _=_
       rw[Gdb (f:=zf j) fun x=>rfl]
       refine Yj fun x hx hxa=>?_
       rw[uniq x hx hxa]
       unfold zf
       dsimp only
       rw[Gfe c hst]
      rw[hset]at d1 d3
      have hcl:=@Gdh o.kd o.refs j
      have w2:IntKind.i64.wrap (((DY o.kd o.refs j:Nat):Int)+1)=((DY o.kd o.refs j+1:Nat):Int):=Gg oM
      refine Jb ?_
      exact⟨_,_,rfl,uA,gX.trans d2,d3,uA⟩
   ·have c':decide ((j:Int)<(o.refs.length:Int))=false:=Gw oM
    have hjj:j=o.refs.length:=by omega
    rw[hjj,zAo]at pj
    rw[hjj]at e11
    apply Gi (x:=.exit 0)
    ·refine Jb ?_
     rfl
    ·simp
    ·exact⟨rfl,g,pj,by simp[Gc,e11];rfl⟩) _ ⟨0,h44,oM,rfl,Keeps.refl _ _,by
     rw[Ghc fun x _ _=>by unfold zf;rw[GaY]];exact p,h11⟩
 exact⟨E',H',hr.symm.trans e,g,pp,q1⟩
theorem Ov(k:s.Ok)(lo:s.Lo)(p:PH H hb s L){a:Int}(hh:s.has a=true){f:Nat}{cs:List CV}{K:Int→Bool}(hf:∀X,Gr H X→∀x:Int,run P f (.i x::cs) X=some (.bool (K x),X))(hrb:f<1000000):
  ∃H',run P 222 [.ptr hb 0,.i a,.func f cs] H=some (.i (VH s K a:Nat),H')∧Keeps H H' (·=L.wb)∧PH H' hb (GeU s K a) L:=by
 classical
 obtain⟨o,ho⟩:=Hp.J4.1 hh
 obtain⟨hom,hoa⟩:=Hp.Jf ho
 have hok:=k.ob o hom
 have hlt:=k.has_lt hh
 have ec:GeU s K a=if BD K o then s.upd o.addr zA else s:=by unfold GeU;rw[ho]
 have en:VH s K a=if BD K o then o.WV else 0:=by unfold VH;rw[ho]
 obtain⟨X,h1,g1⟩:=Ng p k a oM
 have hsv:s.JI a=(GX o.refs.length o.data.length o.kd,0):=by unfold Hp.JI;rw[ho]
 rw[hsv]at h1
 obtain⟨X1,hX1⟩:∃X1:Gb,X1=X++[⟨GX o.refs.length o.data.length o.kd,.rw,0⟩]:=⟨_,rfl⟩
 have g2:Gr X X1:=by rw[hX1];exact Gr.app _ _
 have t1:X1[X.length]?=some ⟨GX o.refs.length o.data.length o.kd,.rw,0⟩:=by rw[hX1];simp
 have g12:Gr H X1:=g1.trans g2
 have p1:=p.gr g12
 have hno:X.length∉L.all hb:=fun h=>by have:=p.lt _ h;have:=g1.len;omega
 have kg:Keeps H X1 (·=L.wb):=g12.weaken fun _ h=>h.elim
 by_cases c1:o.kd=1∨o.kd=2
 ·have G27:0<o.refs.length:=by rcases c1 with h|h;exact hok.kd.2.1 h;exact J6 oM (hok.kd.2.2 h)
  have hr0:o.refs[0]?=some (o.refs.getD 0 0):=by grind
  obtain⟨X2,h2,g3⟩:=U4 p1 k a 0 oM
  have e0:=Hp.Vs (s:=s) (a:=a) (j:=0) (r:=o.refs.getD 0 0) (by unfold Hp.refsOf;rw[ho];exact hr0)
  rw[show(((0:Nat):Int))=0 from rfl]at e0
  rw[e0]at h2
  unfold UF at h2
  have t2:=g3.get t1
  have g23:Gr H X2:=g12.trans g3
  have kg2:Keeps H X2 (·=L.wb):=g23.weaken fun _ h=>h.elim
  have hck:=hf X2 g23 (o.refs.getD 0 0)
  have k12:((o.kd:Int) != 1&&(o.kd:Int) != 2)=false:=by rcases c1 with h|h<;>rw[h]<;>rfl
  have hkk:((o.kd:Int) != 1)=false∨(((o.kd:Int) != 1)=true∧((o.kd:Int) != 2)=false):=by
   grind
  by_cases cn:o.refs.getD 0 0≠0∧K (o.refs.getD 0 0)=true
  ·have hn:¬BD K o:=fun h=>h.2 cn
   rw[ec,en,if_neg hn,if_neg hn]
   rw[cn.2]at hck
   have c0:(o.refs.getD 0 0 != 0)=true:=by simpa using cn.1
   refine⟨X2,?_,kg2,p1.gr g3⟩
   rw[Gh c222 _ _ sM]
   unfold GX at h1 hX1 t1 t2
   refine Jb ?_
   rw[←hX1]
   rcases hkk with hkk|⟨hkk,Gjc⟩
   ·exact V6 hkk h2 c0 @Jo @JA hck
    try rfl
   ·exact V8 t1 hkk Gjc h2 c0 @Jo @JA hck
    try rfl
  ·have hc:BD K o:=⟨c1,cn⟩
   rw[ec,en,if_pos hc,if_pos hc]
   have hcase:(o.refs.getD 0 0 != 0)=false∨((o.refs.getD 0 0 != 0)=true∧K (o.refs.getD 0 0)=false):=by
    grind
   suffices fin:∃H',run P 222 [.ptr hb 0,.i a,.func f cs] H=some (.i o.WV,H')∧Keeps X2 H' (·=L.wb)∧PH H' hb (s.upd o.addr zA) L by
    obtain⟨H',f1,f2,f3⟩:=fin
    exact⟨H',f1,kg2.trans f2,f3⟩
   rw[Gh c222 _ _ sM]
   have t2s:=t2
   unfold GX at h1 hX1 t1 t2
   rcases hkk with hkk|⟨hkk,Gjc⟩<;>rcases hcase with c0|⟨c0,c2⟩
   ·refine W1 h1 ?_
    rw[←hX1]
    refine W4 hkk h2 c0 t2 ?_
    generalize hr:den P (.loop ZA) _ _=r
    obtain⟨E',H',f1,f2,f3,f4⟩:=A8 k lo (p1.gr g3) ho t2s hno uA uA uA uA uA uA hr
    rw[f1]
    refine Jb ?_
    exact⟨_,rfl,f2,f3⟩
   ·rw[c2]at hck
    refine W1 h1 ?_
    rw[←hX1]
    refine W7 hkk h2 c0 t2 @Jo @JA hck ?_
    generalize hr:den P (.loop ZA) _ _=r
    obtain⟨E',H',f1,f2,f3,f4⟩:=A8 k lo (p1.gr g3) ho t2s hno uA uA uA uA uA uA hr
    rw[f1]
    refine Jb ?_
    exact⟨_,rfl,f2,f3⟩
   ·refine W1 h1 ?_
    rw[←hX1]
    refine W6 t1 hkk Gjc h2 c0 t2 ?_
    generalize hr:den P (.loop ZA) _ _=r
    obtain⟨E',H',f1,f2,f3,f4⟩:=A8 k lo (p1.gr g3) ho t2s hno uA uA uA uA uA uA hr
    rw[f1]
    refine Jb ?_
    exact⟨_,rfl,f2,f3⟩
   ·rw[c2]at hck
    refine W1 h1 ?_
    rw[←hX1]
    refine W9 t1 hkk Gjc h2 c0 t2 @Jo @JA hck ?_
    generalize hr:den P (.loop ZA) _ _=r
    obtain⟨E',H',f1,f2,f3,f4⟩:=A8 k lo (p1.gr g3) ho t2s hno uA uA uA uA uA uA hr
    rw[f1]
    refine Jb ?_
    exact⟨_,rfl,f2,f3⟩
 ·have hn:¬BD K o:=fun h=>c1 h.1
  rw[ec,en,if_neg hn,if_neg hn]
  have n1:((o.kd:Int) != 1)=true:=bne_iff_ne.2 oM
  have n2:((o.kd:Int) != 2)=true:=bne_iff_ne.2 oM
  refine⟨X1,?_,kg,p1⟩
  rw[Gh c222 _ _ sM]
  unfold GX at h1 hX1 t1
  refine W1 h1 ?_
  rw[←hX1]
  try rfl
end
end Go.Cs.Tryz
namespace Go.Cs.Tryz
open Go Go.Cs A
def GuP:Gj:=⟨28,0,T [e 4 (.Km (c .Gd))] (S (T [m 5 0,q1 6 106 5,no 7 6,m 8 7,gf 8 (m 9 1),gf 8 (bk 10 .lss 9 0),or 11 8 10,m 12 11,gf 12 (m 13 1),gf 12 (m 14 0),gf 12 (z 15 14),gf 12 (f 16 0 15),gf 12 (l 17 1 16),gf 12 (le 18 17),gf 12 (b 19 .geq 13 18),or 20 12 19] (I 20 (Q [e 4 (.Km (c .Gd))]))) (Q [m 21 0,m 22 1,bk 23 .mul 22 64,m 24 1,bk 25 .add 24 1,bk 26 .mul 25 64,q3 27 143 21 23 26,m 4 27])),[r 4]⟩
theorem Gt_:P 207=some GuP:=by kernel_rfl
abbrev Me:Gn:=T [b 22 .lss 21 20] (S (J 22 (X 0)) (S (B 1 (T [x 23 1 19 21,l 24 1 23,m 9 24] (T [m 25 7,m 26 9,e 27 (.KH (t 25) [t 26])] (R [m 28 9,m 29 0,m 30 9,q2 31 114 29 30,b 32 .add 28 31,st 1 6 32])))) (R [bk 33 .add 21 1,m 21 33])))
def GqT:Gj:=⟨40,0,T [e 4 (.Km (c .Gd))] (S (T [m 10 0,m 11 1,q2 12 300 10 11,no 13 12] (I 13 (Q [e 4 (.Km (c .Gd))]))) (T [e 5 (.new [.Gd])] (T [m 14 1,bk 15 .mul 14 64,e 6 (.new [i 0]),st 1 6 15] (T [e 16 (.Ug 301 [t 6,t 5]),m 7 16] (S (T [m 17 0,m 18 1,q2 19 207 17 18,le 20 19,n 21 0] (B 0 (W Me))) (T [m 34 7,m 35 1,bk 36 .add 35 1,bk 37 .mul 36 64,e 38 (.KH (t 34) [t 37])] (Q [l 39 1 5,m 4 39]))))))),[r 4]⟩
theorem GrN:P 278=some GqT:=by kernel_rfl
def GvL:Gj:=⟨19,0,T [nb 4 false] (Q [m 5 0,m 6 1,q2 7 235 5 6,m 8 7,gt 8 (m 9 0),gt 8 (z 10 9),gt 8 (f 11 0 10),gt 8 (l 12 1 11),gt 8 (m 13 1),gt 8 (x 14 2 12 13),gt 8 (f 15 0 14),gt 8 (l 16 1 15),gt 8 (bk 17 .eql 16 1),an 18 8 17,m 4 18]),[r 4]⟩
theorem Gvb:P 300=some GvL:=by kernel_rfl
def Gur:Gj:=⟨15,0,T [m 4 0,l 5 1 1,b 6 .gtr 4 5] (I 6 (R [l 7 1 2,l 8 1 1,m 9 0,l 10 1 1,b 11 .sub 9 10,e 12 (.build [i 0,i 0] [(0,1,t 8),(1,1,t 11)]),e 13 (.buildSlice 2 [i 0,i 0] 1 [(0,2,t 12)]),ap 14 2 7 13,st 1 2 14])),[]⟩
theorem GsB:P 301=some Gur:=by kernel_rfl
end Go.Cs.Tryz
namespace Go.Cs
open Go
theorem Hp.Ok.Gaq{s:Hp}(k:s.Ok)(b:Nat)(hb:b≤s.blk.length):Ud s.starts (32*s.blk.length-32*b) (32*b)=(s.objs.filter fun o=>decide (64*b≤o.addr)).map fun o=>o.addr/2:=by
 refine UM _ _ _ _ ?_ ?_ ?_
 ·rw[List.pairwise_map]
  refine List.Pairwise.imp_of_mem (fun{x y} hx hy h=>?_) (k.apart.filter _)
  have h1:=(k.ob x (List.mem_filter.1 hx).1).even
  have h2:=(k.ob y (List.mem_filter.1 hy).1).even
  have h3:=x.size_pos
  omega
 ·intro i hi
  rw[KI]at hi
  obtain⟨o,ho,rfl⟩:=hi
  rw[List.mem_filter,decide_eq_true_iff]at ho
  have h1:=(k.ob o ho.1).fits
  have h2:=o.size_pos
  unfold Hp.nw at h1
  omega
 ·intro i h1 h2
  unfold Hp.starts
  rw[List.any_eq_true,KI]
  constructor
  ·grind
  ·rintro ⟨o,ho,h⟩
   have ho:=(List.mem_filter.1 ho).1
   have h1:=(k.ob o ho).even
   exact⟨o,ho,by simp;omega⟩
theorem takeWhile_filter{α:Type}{q:α→Bool}:∀{l:List α},l.Pairwise (fun a b=>q b=true→q a=true)→l.takeWhile q=l.filter q
 |[],_=>rfl
 |x::l,h=>by
  rw[List.pairwise_cons]at h
  by_cases c:q x=true
  ·rw[List.takeWhile_cons_of_pos c,List.filter_cons_of_pos c,takeWhile_filter h.2]
  simp_all
theorem Hp.Ok.Gj8{s:Hp}(k:s.Ok)(b:Nat)(hb:b≤s.blk.length):(((Ud s.starts (32*s.blk.length-32*b) (32*b)).map fun i=>((2*i:Nat):Int)).takeWhile fun a=>decide (a<((64*(b+1):Nat):Int)))=Kn (s.GK b):=by
 rw[k.Gaq b hb,List.map_map]
 have e:(s.objs.filter fun o=>decide (64*b≤o.addr)).map ((fun i=>((2*i:Nat):Int))∘fun o=>o.addr/2)=Kn (s.objs.filter fun o=>decide (64*b≤o.addr)):=by
  refine List.map_congr_left fun o ho=>?_
  have:=(k.ob o (List.mem_filter.1 ho).1).even
  grind
 rw[e]
 unfold Kn
 rw[List.takeWhile_map]
 congr 1
 rw[takeWhile_filter]
 ·rw[List.filter_filter]
  unfold Hp.GK
  grind
 ·refine List.Pairwise.imp_of_mem (fun{x y} hx hy h hq=>?_) (k.apart.filter _)
  grind
def Fp(s:Hp)(b:Nat):Bool:=s.blk.getD b (1,0)==(0,0)
theorem Hp.Sq{s:Hp}{sp:Int}(hsp:0≤sp∧sp<8){b:Nat}(h1:1≤b)(h2:b<s.blk.length):s.claim b 1 1 sp 0 0=if Fp s b then({s with blk:=s.blk.set b (1,sp.toNat)},0)else(s,8):=by
 unfold Hp.claim
 have hx:s.blk[b]?=some s.blk[b]:=Jr h2
 rw[if_pos oM,Kt]
 have e:(s.blk.drop b).take (1:Int).toNat=[s.blk[b]]:=by rw[drop_cons hx];rfl
 rw[e]
 have ef:Fp s b=(s.blk[b]==(0,0)):=by unfold Fp;grind
 rw[ef]
 have e2:(KA s.blk b (0,(0:Int).toNat) (1:Int).toNat).set b (1,sp.toNat)=s.blk.set b (1,sp.toNat):=by
  show((s.blk.set (b+0) (0,0)).set b (1,sp.toNat))=_
  rw[Nat.add_zero,List.set_set]
 grind
theorem Hp.Ok.GhF{s:Hp}(k:s.Ok)(b:Nat):(s.gaps b).length≤2049:=by
 have few:=k.few
 unfold Hp.gaps
 split
 ·have h1:=Zk (e:=64*(b+1)) (l:=s.GK b) (a:=64*b)
  have h2:(s.GK b).length≤s.objs.length:=List.length_filter_le _ _
  omega
 ·simp
end Go.Cs
namespace Go.Cs.Tryz
open Go Go.Cs
section
variable {H : Gb} {hb : Nat} {s : Hp} {L : G5}
theorem Db(p:PH H hb s L)(k:s.Ok){b:Nat}(hb':b<s.blk.length):∃v H',run P 207 [.ptr hb 0,.i b] H=some (v,H')∧Gr H H'∧IL H.length H' v (Kn (s.GK b)):=by
 have hnb:=k.nb
 obtain⟨v,H',h1,g,h2⟩:=Dq p k (f:=64*b) (by unfold Hp.nw;omega) (to:=((64*(b+1):Nat):Int)) oM
 rw[show 64*b/2=32*b by omega,k.Gj8 b oM]at h2
 have h3:=KE p k
 have pt:=p.top
 have c0:¬((b:Int)<0):=by omega
 have c1:¬((s.blk.length:Int)≤(b:Int)):=by omega
 have w1:IntKind.i64.wrap ((b:Int)*64)=((64*b:Nat):Int):=by rw[Gg oM];omega
 have w2:IntKind.i64.wrap ((b:Int)+1)=((b+1:Nat):Int):=Gg oM
 have w3:IntKind.i64.wrap (((b+1:Nat):Int)*64)=((64*(b+1):Nat):Int):=by rw[Gg oM];omega
 refine⟨v,H',?_,g,h2⟩
 rw[Gh Gt_ _ _ sM]
 exact W0
theorem Gd5(p:PH H hb s L)(k:s.Ok){b:Nat}(hb':b<s.blk.length):run P 300 [.ptr hb 0,.i b] H=some (.bool (decide (1≤b)&&decide (s.Gx b=1)),H):=by
 have h1:=Bt p k b
 have pt:=p.top
 have hx:s.blk[b]?=some s.blk[b]:=Jr hb'
 have hsn:s.Gx b=(s.blk[b]).1:=by unfold Hp.Gx;grind
 obtain⟨q1,q2,q3⟩:=ZL p hx
 have c1:decide ((b:Int)<(s.blk.length:Int))=true:=Gz oM
 rw[c1,Bool.and_true]at h1
 rw[Gh Gvb _ _ sM]
 have e1:(((s.blk[b]).1:Int)==1)=decide (s.Gx b=1):=by rw[hsn,Bool.eq_iff_iff];simp;omega
 by_cases c:1≤b
 ·have c':decide ((1:Int)≤(b:Int))=true:=Gz oM
  rw[c']at h1
  have:=Gz c;exact W0
 ·have c':decide ((1:Int)≤(b:Int))=false:=Gw oM
  rw[c']at h1
  have:=Gw c;exact W0
theorem GcZ{k c5 c6 a to:Nat}{v:CV}{l:List (Nat×Nat)}(h6:H[c6]?=some ⟨[.i a],.rw,0⟩) (h5:H[c5]?=some ⟨[v],.rw,0⟩) (hc:c5<k∧c6<k∧c5≠c6) (hk:k≤H.length) (hp:PL k H v l) (hl:l.length≤5000) (ha:a≤100000) (hto:to≤100000):
  ∃v' H',run P 301 [.i to,.ptr c6 0,.ptr c5 0] H=some (.Jj [],H')∧Keeps H H' (fun c=>k≤c∨c=c5)∧H'[c5]?=some ⟨[v'],.rw,0⟩∧PL k H' v' (l++if a<to then [(a,to-a)]else []):=by
 rw[Gh GsB _ _ sM]
 by_cases c:a<to
 ·have c':decide ((a:Int)<(to:Int))=true:=Gz oM
  have wS:IntKind.i64.wrap ((to:Int)-(a:Int))=((to-a:Nat):Int):=by rw[Gg oM];omega
  obtain⟨v',H1,a1,a2,a3⟩:=PL.push hp hk oM (a,to-a)
  have hel:elems (H++[⟨[.i (a:Int),.i ((to-a:Nat):Int)],.rw,2⟩]) 2 (.slice H.length 0 1 1 2 false)=some (1,[.i (a:Int),.i ((to-a:Nat):Int)]):=by
   rw[JN oM]
   have:=@N9;exact W0
  have h51:H1[c5]?=some ⟨[v],.rw,0⟩:=(a3.keep c5 (Gf h5) oM).trans h5
  have hlf:=PL.leaf a2
  dsimp only at a1
  have l5:=Gf h51
  refine⟨v',H1.set c5 ⟨[v'],.rw,0⟩,?_,Keeps.set (w:=fun c=>k≤c∨c=c5) (a3.weaken fun c h=>.inl h) (.inl (.inr rfl)) _,by rw[Va l5],?_⟩
  ·exact W0
  ·rw[if_pos c]
   exact a2.frame (fun _ h=>h) fun c h=>by rw[KV];have:=(Gl.1 h).1;omega
 ·have c':decide ((a:Int)<(to:Int))=false:=Gw oM
  refine⟨v,H,?_,Keeps.refl _ _,h5,?_⟩
  ·exact W0
  grind
theorem GkF(p:PH H hb s L)(k:s.Ok){b:Nat}(hb':b<s.blk.length){v19:CV}(hv:IL 0 H v19 (Kn (s.GK b))){c5 c6:Nat}(hc:c5<H.length∧c6<H.length∧c5≠c6)(hno:c5∉L.all hb∧c6∉L.all hb)
  (Wl:Kn (s.GK b)≠[]→Gp v19≠c5∧Gp v19≠c6)(t5:H[c5]?=some ⟨[.Gd],.rw,0⟩) (t6:H[c6]?=some ⟨[.i ((64*b:Nat):Int)],.rw,0⟩)
  {E0:Env} (h0:E0 0=.ptr hb 0) (h6:E0 6=.ptr c6 0) (h7:E0 7=.func 301 [.ptr c6 0,.ptr c5 0]) (h19:E0 19=v19) (h20:E0 20=.i (s.GK b).length) (h21:E0 21=.i 0) {r:Option (CX×Env×Gb)} (hr:den P (.loop Me) E0 H=r):
  ∃E' H' v a l,r=some (.exit 0,E',H')∧Keeps H H' (fun c=>c=c5∨c=c6)∧H'[c5]?=some ⟨[v],.rw,0⟩∧H'[c6]?=some ⟨[.i (a:Nat)],.rw,0⟩∧PL H.length H' v l∧a≤10000∧l.length≤2048∧l++Jm (64*(b+1)) a []=Jm (64*(b+1)) (64*b) (s.GK b)∧∀t,t∉wr Me→E' t=E0 t:=by
 have few:=k.few
 have hnb:=k.nb
 have hfl:(s.GK b).length≤2048:=J2 (List.length_filter_le _ _) few
 obtain⟨x',E',H',e,-,⟨rfl,g,v,a,l,hf⟩,fr⟩:=Gq (p:=P) (c:=Me) (E0:=E0) (H0:=H)
  (fun q E H'=>Keeps H H' (fun c=>c=c5∨c=c6)∧∃(j a:Nat)(v:CV)(l:List (Nat×Nat)),E 21=.i j∧j≤(s.GK b).length∧q=(s.GK b).length-j∧H'[c5]?=some ⟨[v],.rw,0⟩∧H'[c6]?=some ⟨[.i (a:Nat)],.rw,0⟩∧a≤10000∧l.length≤j∧PL H.length H' v l∧
   l++Jm (64*(b+1)) a ((s.GK b).drop j)=Jm (64*(b+1)) (64*b) (s.GK b))
  (fun x' E' H'=>x'=.exit 0∧Keeps H H' (fun c=>c=c5∨c=c6)∧∃(v:CV)(a:Nat)(l:List (Nat×Nat)),H'[c5]?=some ⟨[v],.rw,0⟩∧H'[c6]?=some ⟨[.i (a:Nat)],.rw,0⟩∧PL H.length H' v l∧a≤10000∧l.length≤2048∧l++Jm (64*(b+1)) a []=Jm (64*(b+1)) (64*b) (s.GK b)) (by
   rintro q E H' hE ⟨g,j,a,v,l,e21,hj,rfl,u5,u6,ha,hl,hn,hd⟩
   have e0:=(hE 0 dK).trans h0
   have e6:=(hE 6 dK).trans h6
   have e7:=(hE 7 dK).trans h7
   have e19:=(hE 19 dK).trans h19
   have e20:=(hE 20 dK).trans h20
   by_cases c:j<(s.GK b).length
   ·have c':decide ((j:Int)<((s.GK b).length:Int))=true:=Gz oM
    obtain⟨x,hx⟩:∃x,(s.GK b)[j]?=some x:=⟨_,Jr c⟩
    obtain⟨hxm,hxb⟩:=Hp.P6 (JV hx)
    have hok:=k.ob x hxm
    have hsz:=Ob.size_le hok
    have hnw:=hok.fits
    have hsn:s.nw=64*s.blk.length:=rfl
    have hla:0<(Kn (s.GK b)).length:=by simp[Kn];omega
    obtain⟨tl,a1,a2,a3,a4⟩:=At.pos hv hla
    have G1I:=Wl (Ld.1 hla)
    have hwH:H'[Gp v19]?=H[Gp v19]?:=g.keep _ (Gf a3) oM
    have hxa:(Kn (s.GK b))[j]?=some (x.addr:Int):=by simp[Kn,hx]
    have ix:∀X,JM 1 v19 (.i j) X=some (.ptr (Gp v19) j,X):=fun X=>by
     rw[a1];exact(if_pos (by simp[Kn];omega)).trans (by simp[Gp])
    have l1:ld H'[Gp v19]? j=some (.i x.addr):=by rw[hwH,a3,Ym,Ai,hxa];rfl
    rw[drop_cons hx]at hd
    have hd':Jm (64*(b+1)) a (x::(s.GK b).drop (j+1))=(if a<x.addr then [(a,x.addr-a)]else [])++Jm (64*(b+1)) (x.addr+x.size) ((s.GK b).drop (j+1)):=rfl
    rw[hd',←List.append_assoc]at hd
    obtain⟨v2,H2,r2,k2,w5,n2⟩:=GcZ (to:=x.addr) u6 u5 hc g.len hn oM oM oM
    have g2:Keeps H H2 (fun c=>c=c5∨c=c6):=⟨J2 g.len k2.len,fun d hd hw=>by rw[k2.keep d (J6 hd g.len) oM,g.keep d hd hw]⟩
    have w6:H2[c6]?=_:=(k2.keep c6 (Gf u6) oM).trans u6
    have p2:PH H2 hb s L:=p.frame fun d hd=>g2.keep d (p.lt d hd) fun h=>by
     grind
    obtain⟨H3,r3,g3⟩:=Fb p2 k hxm
    have x6:=g3.get w6
    have x5:=g3.get w5
    have w1:IntKind.i64.wrap ((j:Int)+1)=((j+1:Nat):Int):=Gg oM
    have wB:IntKind.i64.wrap ((x.addr:Int)+(x.size:Int))=((x.addr+x.size:Nat):Int):=Gg oM
    have hll:(l++if a<x.addr then [(a,x.addr-a)]else []).length≤j+1:=by split<;>simp<;>omega
    apply Gm (k':=(s.GK b).length-(j+1))
    ·refine W16 e0 e6 e7 e19 e20 e21 c' ix l1 @Jo @JA r2 r3 wB x6 w1 ?_
     rfl
    ·omega
    ·refine⟨⟨by rw[List.length_set];exact J2 g2.len g3.len,fun d hd hw=>by rw[KV oM,g3.keep d (J6 hd g2.len) fun h=>h,g2.keep d hd hw]⟩,j+1,x.addr+x.size,v2,_,uA,oM,rfl,by grind,by rw[Va (Gf x6)],oM,hll,?_,hd⟩
     exact(n2.keeps g3).frame (fun _ h=>h) fun d h=>by rw[KV];have:=(Gl.1 h).1;omega
   ·have c':decide ((j:Int)<((s.GK b).length:Int))=false:=Gw oM
    rw[Ge2 oM]at hd
    apply Gi (x:=.exit 0)
    ·refine Jb ?_
     rfl
    ·simp
    grind) _ ⟨Keeps.refl H _,0,64*b,.Gd,[],h21,oM,rfl,t5,t6,oM,sM,.inl ⟨rfl,rfl,.inl rfl⟩,sM⟩
 grind
theorem Gd_(p:PH H hb s L)(k:s.Ok){b:Nat}(hb':b<s.blk.length)(h1b:1≤b):∃v H',run P 278 [.ptr hb 0,.i b] H=some (v,H')∧Gr H H'∧PL H.length H' v (s.gaps b):=by
 have hnb:=k.nb
 have hu:=Gd5 p k hb'
 rw[Gz h1b,Bool.true_and]at hu
 rw[Gh GrN _ _ sM]
 unfold Hp.gaps
 by_cases c:s.Gx b=1
 ·rw[if_pos c]
  rw[Gz c]at hu
  have w0:IntKind.i64.wrap ((b:Int)*64)=((64*b:Nat):Int):=by rw[Gg oM];omega
  obtain⟨X,hX⟩:∃X:Gb,X=H++[⟨[.Gd],.rw,0⟩]++[⟨[.i ((64*b:Nat):Int)],.rw,0⟩]:=⟨_,rfl⟩
  have gX:Gr H X:=by rw[hX];exact(Gr.app H _).app' _
  have lX:X.length=H.length+2:=by rw[hX];simp
  have t5:X[H.length]?=some ⟨[.Gd],.rw,0⟩:=by rw[hX];simp
  have t6:X[H.length+1]?=some ⟨[.i ((64*b:Nat):Int)],.rw,0⟩:=by rw[hX];simp
  obtain⟨v19,H1,h1,g1,h19⟩:=Db (p.gr gX) k hb'
  have l1:=g1.len
  have hvl:=h19.len H1
  have hal:(Kn (s.GK b)).length=(s.GK b).length:=by simp[Kn]
  rw[hal]at hvl
  refine Jb ?_
  rw[←hX]
  refine W2 h1 hvl ?_
  generalize hr:den P (.loop Me) _ _=r
  have Wl:Kn (s.GK b)≠[]→Gp v19≠H.length∧Gp v19≠H.length+1:=fun h0=>by
   obtain⟨tl,a1,a2,a3,a4⟩:=At.pos h19 (Ld.2 h0)
   have:=(Gl.1 a2).1
   omega
  have hno:H.length∉L.all hb∧H.length+1∉L.all hb:=⟨fun h=>by have:=p.lt _ h;omega,fun h=>by have:=p.lt _ h;omega⟩
  have hv0:IL 0 H1 v19 (Kn (s.GK b)):=h19.frame (fun c h=>Gl.2 ⟨Nat.zero_le _,(Gl.1 h).2⟩) fun c h=>rfl
  obtain⟨E',H2,v,a,l,rfl,g2,u5,u6,hn,ha,hl,hd,fr⟩:=GkF ((p.gr gX).gr g1) k hb' hv0 (c5:=H.length) (c6:=H.length+1) oM hno Wl (g1.get t5) (g1.get t6) uA uA uA uA uA uA hr
  have f1:=fr 1 dK
  have f5:=fr 5 dK
  have f7:=fr 7 dK
  simp only[Gc,Nat.reduceEqDiff,↓reduceIte]at f1 f5 f7
  have w1:IntKind.i64.wrap ((b:Int)+1)=((b+1:Nat):Int):=Gg oM
  have w2:IntKind.i64.wrap (((b+1:Nat):Int)*64)=((64*(b+1):Nat):Int):=by rw[Gg oM];omega
  obtain⟨v2,H3,r3,k3,w5,n3⟩:=GcZ (to:=64*(b+1)) u6 u5 (k:=H1.length) oM g2.len hn oM oM oM
  have hg0:Jm (64*(b+1)) a []=if a<64*(b+1)then [(a,64*(b+1)-a)]else []:=rfl
  rw[hg0]at hd
  rw[hd]at n3
  refine⟨v2,H3,?_,⟨by have:=g2.len;have:=k3.len;omega,fun c hc _=>?_⟩,n3.frame (fun c h=>Gl.2 ⟨by have:=(Gl.1 h).1;omega,(Gl.1 h).2⟩) fun c h=>rfl⟩
  ·have:=@Jo;have:=@JA;exact W0
  ·rw[k3.keep c (by have:=g2.len;omega) oM,g2.keep c oM oM,g1.keep c oM fun h=>h,gX.keep c hc fun h=>h]
 ·rw[if_neg c]
  rw[Gw c]at hu
  refine⟨.Gd,H,?_,Keeps.refl _ _,.inl ⟨rfl,rfl,.inl rfl⟩⟩
  exact W0
theorem FM(p:PH H hb s L)(k:s.Ok){b:Nat}(hb':b<s.blk.length):run P 56 [.ptr hb 0,.i b] H=some (.i (s.KD b),H):=by
 have h2:=Og p k b
 have hx:s.blk[b]?=some s.blk[b]:=Jr hb'
 have e2:Hp.space s (b:Int)=(s.KD b:Int):=by
  unfold Hp.space Hp.KD
  grind
 rw[e2]at h2
 exact h2
end
end Go.Cs.Tryz
namespace Go.Cs.Tryz
open Go Go.Cs A
abbrev SE:Gn:=S (T [m 21 6,bk 22 .gtr 21 0] (J 22 (X 0))) (S (B 1 (R [m 25 0,z 26 25,f 27 0 26,l 28 1 27,m 29 1,m 30 6,b 31 .add 29 30,bk 32 .sub 31 1,e 33 (.build [i 0,i 0] []),x 34 2 28 32,st 2 34 33])) (R [m 23 6,bk 24 .sub 23 1,m 6 24]))
def GvC:Gj:=⟨35,0,T [n 4 0] (S (T [m 7 0,m 8 1,ca 9 230 [t 7,t 8,c (.bool true)],m 5 9] (T [m 10 5,bk 11 .neq 10 0] (I 11 (Q [m 12 5,m 4 12])))) (S (T [m 13 0,m 14 1,q2 15 207 13 14,le 16 15,bk 17 .gtr 16 0] (I 17 (Q [n 4 8]))) (S (T [m 18 0,m 19 1,q2 20 231 18 19,m 6 20] (B 0 (W SE))) (Q [n 4 0])))),[r 4]⟩
theorem c152:P 152=some GvC:=by kernel_rfl
def GrX:Gj:=⟨41,0,T [n 6 0] (S (B 0 (T [m 8 0,q1 9 106 8,no 10 9,m 7 10] (C 7 (Q [n 6 5]) (T [m 12 0,m 13 1,q2 14 235 12 13,no 15 14,m 16 15,gf 16 (m 17 2),gf 16 (no 18 17),or 19 16 18,m 11 19] (C 11 (Q [n 6 1]) (T [m 21 0,z 22 21,f 23 0 22,l 24 1 23,m 25 1,x 26 2 24 25,f 27 0 26,l 28 1 27,bk 29 .neq 28 1,m 30 29,gt 30 (m 31 0),gt 30 (z 32 31),gt 30 (f 33 0 32),gt 30 (l 34 1 33),gt 30 (m 35 1),gt 30 (x 36 2 34 35),gt 30 (f 37 0 36),gt 30 (l 38 1 37),gt 30 (bk 39 .neq 38 2),an 40 30 39,m 20 40] (I 20 (Q [n 6 5])))))))) (Q [n 6 0])),[r 6]⟩
theorem Gqu:P 230=some GrX:=by kernel_rfl
end Go.Cs.Tryz
namespace Go.Cs
open Go
def ZN(l:List (Nat×Nat))(b:Nat):Nat→List (Nat×Nat)
 |0=>l
 |n+1=>ZN (l.set (b+n) (0,0)) b n
theorem EW{b:Nat}:∀{n:Nat}{l:List (Nat×Nat)},(ZN l b n).length=l.length
 |0,_=>rfl
 |n+1,l=>by rw[ZN,EW];simp
theorem Ey{b i:Nat}:∀{n:Nat}{l:List (Nat×Nat)},(ZN l b n)[i]?=if b≤i∧i<b+n∧i<l.length then some (0,0)else l[i]?
 |0,l=>by rw[if_neg oM];rfl
 |n+1,l=>by
  rw[ZN,Ey,Ig,List.length_set]
  grind
def Hp.held(s:Hp)(b:Int):Int:=if 1≤b∧b<(s.blk.length:Int)then(if s.Gx b.toNat=1∨s.Gx b.toNat=2 then 0 else 5)else 1
def Hp.freed(s:Hp)(b:Nat):Hp:={s with blk:=ZN s.blk b (s.span b)}
def Hp.release(s:Hp)(b:Int):Hp×Int:=
 if s.held b=0 then(if s.GK b.toNat=[]then(s.freed b.toNat,0)else(s,8))else(s,s.held b)
theorem Hp.Ok.freed{s:Hp}(k:s.Ok)(b:Nat):(s.freed b).Ok:=by
 have hl:(s.freed b).blk.length=s.blk.length:=EW
 have hn:(s.freed b).nw=s.nw:=by unfold Hp.nw;rw[hl]
 refine⟨by rw[hl];exact k.nb,fun x hx=>?_,fun o ho=>by rw[hn];exact k.ob o ho,k.apart,k.ids,k.born⟩
 obtain⟨i,hi⟩:=List.mem_iff_getElem?.1 hx
 have:(ZN s.blk b (s.span b))[i]?=some x:=hi
 rw[Ey]at this
 split at this
 ·cases this;decide
 ·exact k.st x (JV this)
theorem Hp.Ok.release{s:Hp}(k:s.Ok)(b:Int):(s.release b).1.Ok:=by
 unfold Hp.release
 split
 ·split
  ·exact k.freed _
  ·exact k
 ·exact k
def Hp.forget(s:Hp):Hp:={s with fwd:=[]}
theorem Hp.Ok.forget{s:Hp}(k:s.Ok):s.forget.Ok:=⟨k.nb,k.st,k.ob,k.apart,k.ids,k.born⟩
def sizes(l:List Ob):Nat:=l.foldr (fun o n=>o.size+n) 0
end Go.Cs
namespace Go.Cs.Tryz
open Go Go.Cs
section
variable {H : Gb} {hb : Nat} {s : Hp} {L : G5}
theorem GeJ(p:PH H hb s L)(k:s.Ok)(b:Int):run P 230 [.ptr hb 0,.i b,.bool true] H=some (.i (s.held b),H):=by
 have h1:=KE p k
 have h2:=Bt p k b
 have pt:=p.top
 unfold Hp.held
 rw[Gh Gqu _ _ sM]
 by_cases c:1≤b∧b<(s.blk.length:Int)
 ·obtain⟨n,rfl⟩:∃n:Nat,b=n:=⟨b.toNat,oM⟩
  have c1:=Gz c.1
  have c2:=Gz c.2
  have hx:s.blk[n]?=some (s.blk[n]'oM):=Jr oM
  obtain⟨q1,-,q3⟩:=ZL p hx
  have e:s.Gx n=(s.blk[n]'oM).1:=by unfold Hp.Gx;rw[Bo,hx];rfl
  rw[if_pos c,Kt,e]
  generalize (s.blk[n]'oM).1=st at*
  have e1:(((st:Nat):Int) != 1)=decide (st≠1):=by rw[Bool.eq_iff_iff];simp;omega
  have e2:(((st:Nat):Int) != 2)=decide (st≠2):=by rw[Bool.eq_iff_iff];simp;omega
  by_cases x1:st=1
  ·subst x1
   rw[if_pos (.inl rfl)]
   exact V8 h1 h2 c1 c2 pt q3 q1 (show(((1:Nat):Int) != 1)=false from rfl)
  ·have y1:(((st:Nat):Int) != 1)=true:=by rw[e1];simpa using x1
   by_cases x2:st=2
   ·subst x2
    rw[if_pos (.inr rfl)]
    exact V9 h1 h2 c1 c2 pt q3 q1 y1 (show(((2:Nat):Int) != 2)=false from rfl)
   ·have y2:(((st:Nat):Int) != 2)=true:=by rw[e2];simpa using x2
    rw[if_neg oM]
    exact V9 h1 h2 c1 c2 pt q3 q1 y1 y2
 ·have c1:(decide (1≤b)&&decide (b<(s.blk.length:Int)))=false:=by simp;omega
  rw[if_neg c]
  exact V3 h1 h2 c1
theorem GeS(p:PH H hb s L)(hl:s.blk.length≤64){b n:Nat}(hn:b+n≤s.blk.length){E0:Env}(h0:E0 0=.ptr hb 0)(h1:E0 1=.i b)(h6:E0 6=.i n){r:Option (CX×Env×Gb)}(hr:den P (.loop SE) E0 H=r):
  ∃E' H',r=some (.exit 0,E',H')∧Keeps H H' (·=L.bb)∧PH H' hb {s with blk:=ZN s.blk b n} L:=by
 obtain⟨x',E',H',e,-,⟨rfl,g,hf⟩,fr⟩:=Gq (p:=P) (c:=SE) (E0:=E0) (H0:=H)
  (fun q E H'=>Keeps H H' (·=L.bb)∧∃l:List (Nat×Nat),E 6=.i q∧l.length=s.blk.length∧b+q≤l.length∧ZN l b q=ZN s.blk b n∧PH H' hb {s with blk:=l} L)
  (fun x E' H'=>x=.exit 0∧Keeps H H' (·=L.bb)∧PH H' hb {s with blk:=ZN s.blk b n} L) (by
   rintro q E H' hE ⟨g,l,e6,ll,lb,lf,pj⟩
   have e0:=(hE 0 dK).trans h0
   have e1:=(hE 1 dK).trans h1
   have pt:=pj.top
   cases q with
   |zero=>
    apply Gi (x:=.exit 0)
    ·refine Jb ?_
     rfl
    ·simp
    ·exact⟨rfl,g,lf▸pj⟩
   |succ q=>
    have c':decide (((q+1:Nat):Int)>0)=true:=Gz oM
    have w1:IntKind.i64.wrap ((b:Int)+((q+1:Nat):Int))=((b+q+1:Nat):Int):=by rw[Gg oM];omega
    have w2:IntKind.i64.wrap (((b+q+1:Nat):Int)-1)=((b+q:Nat):Int):=by rw[Gg oM];omega
    have w3:IntKind.i64.wrap (((q+1:Nat):Int)-1)=(q:Int):=by rw[Gg oM];omega
    obtain⟨st,pn⟩:=pj.EJ (b:=b+q) (x:=(0,0)) (by dsimp only;omega)
    have st':Hl H' L.bb H'[L.bb]? ((b+q)*2) [.i 0,.i 0]=_:=st
    have q2:(0:Int)≤((b+q:Nat):Int)∧((b+q:Nat):Int)<(l.length:Int):=by omega
    apply Gm (k':=q)
    ·refine Jb ?_
     rfl
    ·omega
    ·exact⟨g.set (.inl rfl) _,_,uA,by simpa using ll,by simp;omega,lf,pn⟩) _ ⟨Keeps.refl _ _,_,h6,rfl,hn,rfl,p⟩
 exact⟨E',H',hr.symm.trans e,g,hf⟩
theorem TQ(p:PH H hb s L)(k:s.Ok)(b:Int):Did H hb L (s.release b).1 (.i (s.release b).2) (run P 152 [.ptr hb 0,.i b] H):=by
 have h1:=GeJ p k b
 unfold Hp.release
 rw[Gh c152 _ _ sM]
 by_cases c:s.held b=0
 rotate_left
 ·have c':(s.held b != 0)=true:=by simpa using c
  rw[if_neg c]
  exact⟨H,by exact V2 h1 c',Keeps.refl _ _,p⟩
 rw[if_pos c]
 rw[c]at h1
 have hb1:1≤b∧b<(s.blk.length:Int):=by
  unfold Hp.held at c
  split at c
  ·assumption
  ·cases c
 obtain⟨n,rfl⟩:∃n:Nat,b=n:=⟨b.toNat,oM⟩
 rw[Kt]
 obtain⟨v,H1,h2,g1,li⟩:=Db p k (b:=n) oM
 have hlen:=li.len H1
 by_cases e:s.GK n=[]
 ·rw[if_pos e]
  rw[e]at hlen
  have c2:decide ((([]:List Ob).length:Int)>0)=false:=rfl
  have p1:=p.gr g1
  have h3:=Rl p1 k (b:=n) oM
  have hs:=Hp.SV (s:=s) (b:=n) oM
  have hlen':UK v H1=some (.i 0,H1):=hlen
  have c3:decide ((0:Int)>0)=false:=rfl
  unfold Did
  refine W4 h1 h2 hlen' h3 ?_
  generalize hr:den P (.loop SE) _ _=r
  obtain⟨E',H',rfl,g,ph⟩:=GeS p1 k.nb.2 hs uA uA uA hr
  refine⟨H',by exact W0,(g1.weaken fun _ h=>h.elim).trans (g.weaken fun c h=>by rw[h];simp[G5.all]),ph⟩
 ·rw[if_neg e]
  have c2:decide (((Kn (s.GK n)).length:Int)>0)=true:=Gz (by
   have:(s.GK n).length≠0:=fun h=>e (AV h)
   simp[Kn];omega)
  exact⟨H1,by exact V4 h1 h2 hlen c2,g1.weaken fun _ h=>h.elim,p.gr g1⟩
end
end Go.Cs.Tryz
namespace Go.Cs.Tryz
open Go Go.Cs A
def C51:Gj:=⟨17,0,T [n 2 0] (S (T [m 4 0,q1 5 106 4,no 6 5] (I 6 (Q [n 2 0]))) (T [m 7 0,z 8 7,f 9 5 8,l 10 1 9,e 11 (.Ya (t 10)),m 3 11] (T [m 12 0,z 13 12,f 14 5 13,l 15 1 14,u (.QI (t 15))] (Q [m 16 3,m 2 16])))),[r 2]⟩
theorem c51:P 51=some C51:=by kernel_rfl
def C55:Gj:=⟨14,0,T [nb 4 false] (Q [m 5 0,m 6 1,q2 7 63 5 6,m 8 7,gf 8 (m 9 0),gf 8 (m 10 1),gf 8 (q2 11 145 9 10),gf 8 (bk 12 .gtr 11 32),or 13 8 12,m 4 13]),[r 4]⟩
theorem c55:P 55=some C55:=by kernel_rfl
def GsO:Gj:=⟨15,0,T [n 4 0] (T [m 8 0,m 9 1,q2 10 65 8 9,m 7 10,ex 11 7 0,ex 12 7 1,e 5 (.new [i 0,i 0,i 0]),st 3 5 11,m 6 12] (Q [lg 13 3 5,q1 14 165 13,m 4 14])),[r 4]⟩
theorem c145:P 145=some GsO:=by kernel_rfl
end Go.Cs.Tryz
namespace Go.Cs
open Go
section
variable {F : GQ} {E : Env} {H : Gb}
def F9(m:CV)(H:Gb):Option (CV×Gb):=match m with
 |.GJ b=>(Jq H b []).map fun H'=>(.Jj [],H')
 |.Uk=>some (.Jj [],H)
 |_=>none
theorem TK{m:Jy}:JY F (.QI m) E H=F9 (E.ev m) H:=rfl
end
def Hp.KQ(s:Hp)(a:Int):Nat:=match s.obj a with
 |some o=>o.size
 |none=>2
def rep(k kw f fw m mw sc cl:Int):List CV:=[.i k,.i kw,.i f,.i fw,.i m,.i mw,.i sc,.i cl]
def QF(s:Hp)(K:Int→Bool)(j:Nat):Hp:={s with objs:=(s.objs.take j).filter (fun o=>K o.addr)++s.objs.drop j}
def KS(s:Hp)(K:Int→Bool)(j:Nat):List Ob:=(s.objs.take j).filter fun o=>!K o.addr
theorem R7{l m:List Ob}:sizes (l++m)=sizes l+sizes m:=by
 unfold sizes
 induction l with
 |nil=>simp
 |cons x l ih=>simp only[List.cons_append,List.foldr_cons,ih];omega
theorem Md{s:Hp}(k:s.Ok):∀{l:List Ob},(∀o∈l,o∈s.objs)→sizes l≤218*l.length
 |[],_=>Nat.le_refl _
 |x::l,h=>by
  have h1:=x.size_le (k.ob x (h x QT))
  have h2:=Md k (l:=l) fun o ho=>h o (VA _ ho)
  simp only[sizes,List.foldr_cons,List.length_cons]at h2⊢
  omega
theorem GhR{s:Hp}{K:Int→Bool}{j:Nat}{o:Ob}(h:o∈(QF s K j).objs):o∈s.objs:=by
 simp only[QF,K_,List.mem_filter]at h
 rcases h with h|h
 ·exact List.mem_of_mem_take h.1
 ·exact List.mem_of_mem_drop h
theorem WS{s:Hp}{K:Int→Bool}{j:Nat}:(QF s K j).objs.Sublist s.objs:=by
 have:=(List.filter_sublist (l:=s.objs.take j) (p:=fun o=>K o.addr)).append (List.Sublist.refl (s.objs.drop j))
 rwa[List.take_append_drop]at this
theorem Hp.Ok.QF{s:Hp}(k:s.Ok)(K:Int→Bool)(j:Nat):(QF s K j).Ok:=
 ⟨k.nb,k.st,fun o ho=>k.ob o (GhR ho),k.apart.sublist WS,k.ids.sublist WS,k.born⟩
theorem Gfa{s:Hp}{K:Int→Bool}:QF s K 0=s:=by simp[Go.Cs.QF]
theorem Gfl{s:Hp}{K:Int→Bool}{j:Nat}{o:Ob}(h:s.objs[j]?=some o) (hk:K o.addr=true):Go.Cs.QF s K (j+1)=Go.Cs.QF s K j∧KS s K (j+1)=KS s K j:=by
 have hd:s.objs.drop j=o::s.objs.drop (j+1):=drop_cons h
 have ht:s.objs.take (j+1)=s.objs.take j++[o]:=by rw[Nl,h];rfl
 unfold Go.Cs.QF KS
 rw[hd,ht,List.filter_append,List.filter_append]
 simp[hk]
theorem Gie{s:Hp}(k:s.Ok){K:Int→Bool}{j:Nat}{o:Ob}(h:s.objs[j]?=some o) (hk:K o.addr=false):
  Go.Cs.QF s K (j+1)=(Go.Cs.QF s K j).without o.addr∧KS s K (j+1)=KS s K j++[o]∧(Go.Cs.QF s K j).obj o.addr=some o:=by
 have hd:s.objs.drop j=o::s.objs.drop (j+1):=drop_cons h
 have ht:s.objs.take (j+1)=s.objs.take j++[o]:=by rw[Nl,h];rfl
 have hm:o∈(Go.Cs.QF s K j).objs:=by simp[Go.Cs.QF,hd]
 have ne:∀i x,i≠j→s.objs[i]?=some x→x.addr≠o.addr:=fun i x hi hx e=>by
  rcases Nat.lt_or_gt_of_ne hi with c|c
  ·have:=Jg k.apart c hx h;have:=x.size_pos;omega
  ·have:=Jg k.apart c h hx;have:=o.size_pos;omega
 refine⟨?_,?_,(k.QF K j).obj hm⟩
 ·have f1:((s.objs.take j).filter fun x=>K x.addr).filter (fun x=>x.addr != o.addr)=(s.objs.take j).filter fun x=>K x.addr:=List.filter_eq_self.2 fun x hx=>by
   obtain⟨i,hi⟩:=List.mem_iff_getElem?.1 (List.mem_filter.1 hx).1
   rw[Zx]at hi
   split at hi
   ·simpa using ne i x oM hi
   ·cases hi
  have f2:(s.objs.drop (j+1)).filter (fun x=>x.addr != o.addr)=s.objs.drop (j+1):=List.filter_eq_self.2 fun x hx=>by
   obtain⟨i,hi⟩:=List.mem_iff_getElem?.1 hx
   rw[Z7]at hi
   simpa using ne _ x oM hi
  unfold Go.Cs.QF Hp.without
  dsimp only
  rw[ht,hd]
  simp only[List.filter_append,List.filter_cons,hk,List.filter_nil,bne_self_eq_false,Bool.false_eq_true,if_false,List.append_nil,f1,f2]
 ·unfold KS
  rw[ht,List.filter_append]
  simp[hk]
end Go.Cs
namespace Go.Cs.Tryz
open Go Go.Cs
section
variable {H : Gb} {hb : Nat} {s : Hp} {L : G5}
theorem WZ(p:PH H hb s L)(k:s.Ok):∃n:Int,Did H hb L s.forget (.i n) (run P 51 [.ptr hb 0] H):=by
 have h1:=KE p k
 have pt:=p.top
 obtain⟨l,x1,x2,x3⟩:=p.fwd
 have nd:=p.nod
 simp only[G5.all,List.nodup_cons,List.mem_cons,List.not_mem_nil,or_false,not_or]at nd
 obtain⟨⟨n1,n2,n3,n4,n5,n6,n7,n8⟩,⟨a1,a2,a3,a4,a5,a6,a7⟩,⟨m1,m2,m3,m4,m5,m6⟩,⟨r1,r2,r3,r4,r5⟩,⟨t1,t2,t3,t5⟩,⟨u1,u2,u3⟩,⟨v1,v2⟩,v3,-⟩:=nd
 have hl:VQ (.GJ L.fb) H=some (.i l.length,H):=by
  unfold VQ entriesOf
  dsimp only
  rw[x1]
  dsimp only
  rw[if_pos ⟨rfl,rfl⟩,(Na l).1]
  simp[JB]
 have hc:F9 (.GJ L.fb) H=some (.Jj [],H.set L.fb ⟨[],.map,0⟩):=by
  unfold F9 Jq
  dsimp only
  rw[x1]
  dsimp only
  rw[if_pos ⟨rfl,rfl,(Na l).2⟩]
  rfl
 refine⟨l.length,H.set L.fb ⟨[],.map,0⟩,?_,Keeps.set (Keeps.refl H _) (.inl (by simp[G5.all])) _,?_⟩
 ·rw[Gh c51 _ _ sM]
  exact V6 h1 pt @Vf hl @TK hc
 ·have o:∀c,c≠L.fb→(H.set L.fb ⟨[],.map,0⟩)[c]?=H[c]?:=fun c h=>by rw[KV (Ne.symm h)]
  refine⟨(o _ n8).trans p.top,(o _ a7).trans p.blk,(o _ m6).trans p.wrd,p.Xk.frame (o _ r5) (o _ t5),p.pin.frame (o _ u3) (o _ v2),p.N7.frame (o _ v3),⟨[],?_,List.nodup_nil,fun _ _=>Iff.rfl⟩,p.nod⟩
  rw[Va (Gf x1)];rfl
theorem Ae(p:PH H hb s L)(k:s.Ok)(a:Int)(ha:a≤9223372036854775807):∃H',run P 145 [.ptr hb 0,.i a] H=some (.i (s.KQ a:Nat),H')∧Gr H H':=by
 obtain⟨X,h1,g1⟩:=Ng p k a ha
 obtain⟨r,d,kd,e1,e2⟩:∃r d kd:Int,(s.JI a).1=GX r d kd∧Gv r d kd=(s.KQ a:Nat):=by
  unfold Hp.JI Hp.KQ
  cases e:s.obj a with
  |none=>exact⟨0,0,0,rfl,rfl⟩
  |some o=>exact⟨_,_,_,rfl,by unfold Gv;rw[if_pos (k.ob o (Hp.Jf e).1).valid];rfl⟩
 rw[e1]at h1
 obtain⟨X1,hX1⟩:∃X1:Gb,X1=X++[⟨GX r d kd,.rw,0⟩]:=⟨_,rfl⟩
 have t1:X1[X.length]?=some ⟨GX r d kd,.rw,0⟩:=by rw[hX1];simp
 have h2:=Vk (H:=X1) r d kd
 rw[e2]at h2
 have gX:Gr X X1:=by rw[hX1];exact Gr.app _ _
 refine⟨X1++[⟨GX r d kd,.rw,0⟩]++[⟨GX r d kd,.rw,0⟩],?_,((g1.trans gX).trans (Gr.app _ _)).trans (Gr.app _ _)⟩
 rw[Gh c145 _ _ sM]
 unfold GX at h1 h2 hX1 t1⊢
 refine W1 h1 ?_
 rw[←hX1]
 exact V2 t1 h2
theorem XK(p:PH H hb s L)(k:s.Ok)(a:Int)(ha:a≤9223372036854775807):∃H',run P 55 [.ptr hb 0,.i a] H=some (.bool (s.pinnedAt a||decide (32<s.KQ a)),H')∧Gr H H':=by
 have h1:=FO p k a ha
 rw[Gh c55 _ _ sM]
 cases e:s.pinnedAt a with
 |true=>
  rw[e]at h1
  exact⟨H,by rw[Bool.true_or];exact V1 h1,Keeps.refl _ _⟩
 |false=>
  rw[e]at h1
  obtain⟨X,h2,g2⟩:=Ae p k a ha
  have c':decide (((s.KQ a:Nat):Int)>32)=decide (32<s.KQ a):=by rw[Bool.eq_iff_iff];simp;omega
  exact⟨X,by rw[Bool.false_or];exact V3 h1 h2 c',g2⟩
end
end Go.Cs.Tryz
namespace Go.Cs.Tryz
open Go Go.Cs A
abbrev Ti:Gn:=T [b 12 .lss 11 10] (S (J 12 (X 0)) (S (B 1 (T [x 13 1 9 11,l 14 1 13,m 7 14] (T [m 15 1,m 16 7,e 17 (.KH (t 15) [t 16]),no 18 17] (I 18 (T [m 19 2,z 20 19,f 21 2 20,l 22 1 21,bk 23 .add 22 1,z 24 19,f 25 2 24,st 1 25 23] (S (D [⟨m 30 0,4,0,0⟩,⟨m 31 7,5,0,0⟩,⟨q2 32 145 30 31,6,3,0⟩,⟨m 26 2,0,0,0⟩,⟨z 27 26,1,0,0⟩,⟨f 28 3 27,2,0,0⟩,⟨l 29 1 28,3,1,0⟩,⟨b 33 .add 29 32,7,0,1⟩,⟨z 34 26,8,0,1⟩,⟨f 35 3 34,9,0,1⟩,⟨st 1 35 33,10,3,1⟩]) (R [m 36 0,m 37 7,q2 38 40 36 37]))))))) (R [bk 39 .add 11 1,m 11 39])))
def Gwt:Gj:=⟨40,0,T [m 8 0,q1 9 53 8,le 10 9,n 11 0] (B 0 (W Ti)),[]⟩
theorem Gv8:P 140=some Gwt:=by kernel_rfl
end Go.Cs.Tryz
namespace Go.Cs.Tryz
open Go Go.Cs
section
variable {H : Gb} {hb : Nat} {s : Hp} {L : G5}
theorem IL.ats{H0 H X:Gb}{v:CV}{l:List Int}(h:IL H0.length H v l){w:Nat→Prop}(hw:∀c,w c→c<H0.length)(g:Keeps H X w){j:Nat}{x:Int}(hj:l[j]?=some x):
  ∃b o,(∀H',JM 1 v (.i j) H'=some (.ptr b o,H'))∧Qh 1 v (.i j)=okV (.ptr b o)∧ld X[b]? o=some (.i x):=by
 obtain⟨b,o,h1,h2,h3,h4⟩:=h.at hj
 refine⟨b,o,h1,h2,?_⟩
 have hlt:b<H.length:=by
  cases e:H[b]? with
  |none=>rw[e]at h3;simp[ld]at h3
  |some y=>exact Gf e
 rw[g.keep b hlt fun e=>by have:=hw b e;omega]
 exact h3
theorem Gnr(p:PH H hb s L)(k:s.Ok){ob:Nat}(Yi:ob∉L.all hb){r0 r1 f0 fw r4 r5 r6 r7:Int}(tO:H[ob]?=some ⟨rep r0 r1 f0 fw r4 r5 r6 r7,.rw,0⟩) (hf0:0≤f0∧f0≤100000) (hfw:0≤fw∧fw≤100000)
  {fn:Nat} {cs:List CV} {K:Int→Bool} (hf:∀X,Keeps H X (fun c=>c∈L.all hb∨c=ob)→∀x:Int,run P fn (.i x::cs) X=some (.bool (K x),X)) (hrb:fn<1000000)
  {v9:CV} (hat:∀X,Keeps H X (fun c=>c∈L.all hb∨c=ob)→∀(j:Nat)(o:Ob),s.objs[j]?=some o→∃b q,(∀H',JM 1 v9 (.i j) H'=some (.ptr b q,H'))∧ld X[b]? q=some (.i o.addr))
  {E0:Env} (h0:E0 0=.ptr hb 0) (h1:E0 1=.func fn cs) (h2:E0 2=.ptr ob 0) (h9:E0 9=v9) (h10:E0 10=.i s.objs.length) (h11:E0 11=.i 0) {r:Option (CX×Env×Gb)} (hr:den P (.loop Ti) E0 H=r):
  ∃E' H',r=some (.exit 0,E',H')∧Keeps H H' (fun c=>c∈L.all hb∨c=ob)∧PH H' hb (QF s K s.objs.length) L∧
   H'[ob]?=some ⟨rep r0 r1 (f0+(KS s K s.objs.length).length) (fw+sizes (KS s K s.objs.length)) r4 r5 r6 r7,.rw,0⟩:=by
 have few:=k.few
 have hnb:=k.nb
 have hnw:s.nw=64*s.blk.length:=rfl
 obtain⟨x',E',H',e,-,⟨rfl,g,pp,q1⟩,fr⟩:=Gq (p:=P) (c:=Ti) (E0:=E0) (H0:=H)
  (fun q E H'=>∃j:Nat,E 11=.i j∧j≤s.objs.length∧q=s.objs.length-j∧Keeps H H' (fun c=>c∈L.all hb∨c=ob)∧PH H' hb (QF s K j) L∧
   H'[ob]?=some ⟨rep r0 r1 (f0+(KS s K j).length) (fw+sizes (KS s K j)) r4 r5 r6 r7,.rw,0⟩)
  (fun x E' H'=>x=.exit 0∧Keeps H H' (fun c=>c∈L.all hb∨c=ob)∧PH H' hb (QF s K s.objs.length) L∧
   H'[ob]?=some ⟨rep r0 r1 (f0+(KS s K s.objs.length).length) (fw+sizes (KS s K s.objs.length)) r4 r5 r6 r7,.rw,0⟩) (by
   rintro q E H' hE ⟨j,e11,hj,rfl,g,pj,tj⟩
   have e0:=(hE 0 dK).trans h0
   have e1:=(hE 1 dK).trans h1
   have e2:=(hE 2 dK).trans h2
   have e9:=(hE 9 dK).trans h9
   have e10:=(hE 10 dK).trans h10
   have kj:=k.QF K j
   by_cases c:j<s.objs.length
   ·have c':decide ((j:Int)<(s.objs.length:Int))=true:=Gz oM
    obtain⟨o,ho⟩:∃o,s.objs[j]?=some o:=⟨_,Jr c⟩
    obtain⟨b,w,i1,i2⟩:=hat H' g j o ho
    have i3:=i1 H'
    have hk:=hf H' g o.addr
    have w1:IntKind.i64.wrap ((j:Int)+1)=((j+1:Nat):Int):=Gg oM
    cases hK:K o.addr with
    |true=>
     rw[hK]at hk
     obtain⟨y1,y2⟩:=Gfl ho hK
     apply Gm (k':=s.objs.length-(j+1))
     ·refine W12 e0 e1 e2 e9 e10 e11 c' i3 i2 @Jo (@JA) hk ?_
      rfl
     ·omega
     ·exact⟨j+1,by simp[Gc,w1],oM,rfl,g,by rw[y1];exact pj,by rw[y2];exact tj⟩
    |false=>
     rw[hK]at hk
     obtain⟨y1,y2,y3⟩:=Gie k ho hK
     have om:o∈s.objs:=JV ho
     have ok:=k.ob o om
     have hfi:=ok.fits
     have hsz:=o.size_le ok
     have hgl:(KS s K j).length≤2048:=by
      have:=List.length_filter_le (fun o=>!K o.addr) (s.objs.take j)
      unfold KS;rw[List.length_take]at this;omega
     have hgs:sizes (KS s K j)≤218*2048:=by
      have:=Md k (l:=KS s K j) fun x hx=>List.mem_of_mem_take (List.mem_filter.1 hx).1
      omega
     obtain⟨f1,hf1⟩:∃f1:Int,f1=f0+(KS s K j).length:=⟨_,rfl⟩
     obtain⟨fw1,Gu7⟩:∃f1:Int,f1=fw+sizes (KS s K j):=⟨_,rfl⟩
     rw[←hf1,←Gu7]at tj
     have wf:IntKind.i64.wrap (f1+1)=f1+1:=Gg oM
     have ww:IntKind.i64.wrap (fw1+(o.size:Int))=fw1+o.size:=Gg oM
     have lob:=Gf tj
     obtain⟨H2,hH2⟩:∃X:Gb,X=H'.set ob ⟨rep r0 r1 (f1+1) fw1 r4 r5 r6 r7,.rw,0⟩:=⟨_,rfl⟩
     have t2:H2[ob]?=some ⟨rep r0 r1 (f1+1) fw1 r4 r5 r6 r7,.rw,0⟩:=by rw[hH2,Va lob]
     have k2:Keeps H' H2 (·=ob):=by rw[hH2];exact Keeps.set (w:=fun c=>c=ob) (Keeps.refl _ _) (.inl rfl) _
     have p2:PH H2 hb (QF s K j) L:=pj.frame fun c hc=>k2.keep c (pj.lt c hc) fun e=>Yi (e▸hc)
     obtain⟨H3,d3,g3⟩:=Ae p2 kj o.addr oM
     have es:(QF s K j).KQ o.addr=o.size:=by unfold Hp.KQ;rw[y3]
     rw[es]at d3
     have t3:=g3.get t2
     obtain⟨H4,hH4⟩:∃X:Gb,X=H3.set ob ⟨rep r0 r1 (f1+1) (fw1+o.size) r4 r5 r6 r7,.rw,0⟩:=⟨_,rfl⟩
     have t4:H4[ob]?=some ⟨rep r0 r1 (f1+1) (fw1+o.size) r4 r5 r6 r7,.rw,0⟩:=by rw[hH4,Va (Gf t3)]
     have k4:Keeps H3 H4 (·=ob):=by rw[hH4];exact Keeps.set (w:=fun c=>c=ob) (Keeps.refl _ _) (.inl rfl) _
     have p3:=p2.gr g3
     have p4:PH H4 hb (QF s K j) L:=p3.frame fun c hc=>k4.keep c (p3.lt c hc) fun e=>Yi (e▸hc)
     obtain⟨H5,d5,k5,p5⟩:=PY p4 kj o.addr oM
     have ek:(QF s K j).kill o.addr=((QF s K j).without o.addr,0):=by unfold Hp.kill;rw[y3]
     rw[ek]at d5 p5
     dsimp only at d5 p5
     have t5:H5[ob]?=_:=(k5.keep ob (Gf t4) Yi).trans t4
     unfold rep at hH2 hH4 tj t2 t3
     apply Gm (k':=s.objs.length-(j+1))
     ·simp(disch:=first|exact dz|fail) only[simprocAttr,Gs,↓reduceIte,Ub,e0,e1,e2,e9,e10,e11,c',i3,i2,@Jo,@JA,hk,tj,wf,hH2.symm,t2,d3,t3,ww,hH4.symm,d5,w1,@Vm]
      rfl
     ·omega
     ·refine⟨j+1,uA,oM,rfl,(((g.trans (k2.weaken fun c h=>.inr h)).trans (g3.weaken fun _ h=>h.elim)).trans (k4.weaken fun c h=>.inr h)).trans (k5.weaken fun c h=>.inl h),by rw[y1];exact p5,?_⟩
      rw[t5,y2,Qi,R7]
      have:sizes [o]=o.size:=by simp[sizes]
      rw[this]
      simp only[List.length_cons,List.length_nil,Nat.zero_add]
      rw[show f0+(((KS s K j).length+1:Nat):Int)=f1+1 by omega,show fw+((sizes (KS s K j)+o.size:Nat):Int)=fw1+o.size by omega]
   ·have c':decide ((j:Int)<(s.objs.length:Int))=false:=Gw oM
    have hjj:j=s.objs.length:=by omega
    rw[hjj]at pj tj
    apply Gi (x:=.exit 0)
    ·refine Jb ?_
     rfl
    ·simp
    ·exact⟨rfl,g,pj,tj⟩) _ ⟨0,h11,oM,rfl,Keeps.refl _ _,by rw[Gfa];exact p,by simpa[KS,sizes]using tO⟩
 exact⟨E',H',hr.symm.trans e,g,pp,q1⟩
end
end Go.Cs.Tryz
namespace Go.Cs.Tryz
open Go Go.Cs A
abbrev Gde:Gn:=T [b 6 .lss 5 4] (S (J 6 (X 0)) (S (B 1 (T [m 7 5,m 2 7] (R [m 8 0,m 9 2,q2 10 152 8 9]))) (R [bk 11 .add 5 1,m 5 11])))
def C59:Gj:=⟨12,0,T [m 3 0,q1 4 46 3,n 5 0] (B 0 (W Gde)),[]⟩
theorem c59:P 59=some C59:=by kernel_rfl
abbrev T9:Gn:=T [b 10 .lss 9 8] (S (J 10 (X 0)) (S (B 1 (T [x 11 1 7 9,l 12 1 11,m 5 12] (R [m 13 3,m 14 0,m 15 5,q2 16 114 14 15,b 17 .add 13 16,m 3 17]))) (R [bk 18 .add 9 1,m 9 18])))
def Gvy:Gj:=⟨20,0,T [n 2 0] (T [n 3 0] (S (T [m 6 0,q1 7 53 6,le 8 7,n 9 0] (B 0 (W T9))) (Q [m 19 3,m 2 19]))),[r 2]⟩
theorem GvU:P 112=some Gvy:=by kernel_rfl
end Go.Cs.Tryz
namespace Go.Cs
open Go
theorem Hp.Xr(s:Hp)(b:Int):(s.release b).1.blk.length=s.blk.length:=by
 unfold Hp.release
 split
 ·split
  ·exact EW
  ·rfl
 ·rfl
def Kg(s:Hp):Nat→Hp
 |0=>s
 |n+1=>((Kg s n).release n).1
theorem GhU(s:Hp):∀n,(Kg s n).blk.length=s.blk.length
 |0=>rfl
 |n+1=>by rw[Kg,Hp.Xr,GhU]
theorem Hp.Ok.Kg{s:Hp}(k:s.Ok):∀n,(Kg s n).Ok
 |0=>k
 |n+1=>(k.Kg n).release n
end Go.Cs
namespace Go.Cs.Tryz
open Go Go.Cs
section
variable {H : Gb} {hb : Nat} {s : Hp} {L : G5}
theorem GlF(p:PH H hb s L)(k:s.Ok){E0:Env}(h0:E0 0=.ptr hb 0)(h4:E0 4=.i s.blk.length)(h5:E0 5=.i 0){r:Option (CX×Env×Gb)}(hr:den P (.loop Gde) E0 H=r):
  ∃E' H',r=some (.exit 0,E',H')∧Keeps H H' (·∈L.all hb)∧PH H' hb (Kg s s.blk.length) L:=by
 have hnb:=k.nb
 obtain⟨x',E',H',e,-,⟨rfl,g,pp⟩,fr⟩:=Gq (p:=P) (c:=Gde) (E0:=E0) (H0:=H)
  (fun q E H'=>∃j:Nat,E 5=.i j∧j≤s.blk.length∧q=s.blk.length-j∧Keeps H H' (·∈L.all hb)∧PH H' hb (Kg s j) L)
  (fun x E' H'=>x=.exit 0∧Keeps H H' (·∈L.all hb)∧PH H' hb (Kg s s.blk.length) L) (by
   rintro q E H' hE ⟨j,e5,hj,rfl,g,pj⟩
   have e0:=(hE 0 dK).trans h0
   have e4:=(hE 4 dK).trans h4
   by_cases c:j<s.blk.length
   ·have c':decide ((j:Int)<(s.blk.length:Int))=true:=Gz oM
    have w1:IntKind.i64.wrap ((j:Int)+1)=((j+1:Nat):Int):=Gg oM
    obtain⟨H2,d2,k2,p2⟩:=TQ pj (k.Kg j) j
    apply Gm (k':=s.blk.length-(j+1))
    ·refine W6 e0 e4 e5 c' d2 w1 ?_
     rfl
    ·omega
    ·exact⟨j+1,uA,oM,rfl,g.trans k2,p2⟩
   ·have c':decide ((j:Int)<(s.blk.length:Int))=false:=Gw oM
    have hjj:j=s.blk.length:=by omega
    rw[hjj]at pj
    apply Gi (x:=.exit 0)
    ·refine W3 e4 e5 c' ?_
     rfl
    ·simp
    ·exact⟨rfl,g,pj⟩) _ ⟨0,h5,oM,rfl,Keeps.refl _ _,p⟩
 exact⟨E',H',hr.symm.trans e,g,pp⟩
theorem Br(p:PH H hb s L)(k:s.Ok):Did H hb L (Kg s s.blk.length) (.Jj []) (run P 59 [.ptr hb 0] H):=by
 have h1:=KY p k
 rw[Gh c59 _ _ sM]
 unfold Did
 refine W1 h1 ?_
 generalize hr:den P (.loop Gde) _ _=r
 obtain⟨E',H',rfl,g,pp⟩:=GlF p k uA uA uA hr
 exact⟨H',by exact W0,g,pp⟩
theorem Gls(p:PH H hb s L)(k:s.Ok){k0:Nat}{v:CV}(li:IL k0 H v s.all){E0:Env}(h0:E0 0=.ptr hb 0)(h3:E0 3=.i 0)(h7:E0 7=v)(h8:E0 8=.i s.objs.length)(h9:E0 9=.i 0){r:Option (CX×Env×Gb)}(hr:den P (.loop T9) E0 H=r):
  ∃E' H',r=some (.exit 0,E',H')∧Gr H H'∧E' 3=.i (sizes s.objs:Nat):=by
 have few:=k.few
 obtain⟨x',E',H',e,-,⟨rfl,g,pp⟩,fr⟩:=Gq (p:=P) (c:=T9) (E0:=E0) (H0:=H)
  (fun q E H'=>∃j:Nat,E 9=.i j∧j≤s.objs.length∧q=s.objs.length-j∧Gr H H'∧E 3=.i (sizes (s.objs.take j):Nat))
  (fun x E' H'=>x=.exit 0∧Gr H H'∧E' 3=.i (sizes s.objs:Nat)) (by
   rintro q E H' hE ⟨j,e9,hj,rfl,g,e3⟩
   have e0:=(hE 0 dK).trans h0
   have e7:=(hE 7 dK).trans h7
   have e8:=(hE 8 dK).trans h8
   by_cases c:j<s.objs.length
   ·have c':decide ((j:Int)<(s.objs.length:Int))=true:=Gz oM
    obtain⟨o,ho⟩:∃o,s.objs[j]?=some o:=⟨_,Jr c⟩
    have om:o∈s.objs:=JV ho
    obtain⟨b,w,i1,i2⟩:=Ur.at (IL.sl (At.keeps li g)) (i:=j) (x:=o.addr) (by unfold Hp.all;rw[Kr,ho];rfl)
    obtain⟨H2,d2,g2⟩:=Fb (p.gr g) k om
    have hsz:=o.size_le (k.ob o om)
    have hs0:=Md k (l:=s.objs.take j) fun x hx=>List.mem_of_mem_take hx
    rw[List.length_take]at hs0
    have ht:s.objs.take (j+1)=s.objs.take j++[o]:=by rw[Nl,ho];rfl
    have es:sizes (s.objs.take (j+1))=sizes (s.objs.take j)+o.size:=by rw[ht,R7];simp[sizes]
    have w1:IntKind.i64.wrap ((j:Int)+1)=((j+1:Nat):Int):=Gg oM
    have w2:IntKind.i64.wrap ((sizes (s.objs.take j):Int)+(o.size:Int))=((sizes (s.objs.take j)+o.size:Nat):Int):=Gg oM
    apply Gm (k':=s.objs.length-(j+1))
    ·refine W11 e0 e3 e7 e8 e9 c' (i1 H') i2 d2 w1 w2 ?_
     rfl
    ·omega
    ·exact⟨j+1,uA,oM,rfl,g.trans g2,by rw[es];simp[Gc]⟩
   ·have c':decide ((j:Int)<(s.objs.length:Int))=false:=Gw oM
    have hjj:j=s.objs.length:=by omega
    apply Gi (x:=.exit 0)
    ·refine W3 e8 e9 c' ?_
     rfl
    ·simp
    ·exact⟨rfl,g,by simp[Gc,e3,hjj]⟩) _ ⟨0,h9,oM,rfl,Keeps.refl _ _,by rw[h3];rfl⟩
 exact⟨E',H',hr.symm.trans e,g,pp⟩
theorem GdR(p:PH H hb s L)(k:s.Ok):∃H',run P 112 [.ptr hb 0] H=some (.i (sizes s.objs:Nat),H')∧Gr H H':=by
 obtain⟨v,X,h1,g1,li⟩:=U3 p k
 have hlen:=li.len X
 have hal:s.all.length=s.objs.length:=by simp[Hp.all]
 rw[hal]at hlen
 rw[Gh GvU _ _ sM]
 refine W2 h1 hlen ?_
 generalize hr:den P (.loop T9) _ _=r
 obtain⟨E',H',rfl,g,pp⟩:=Gls (p.gr g1) k li uA uA uA uA uA hr
 exact⟨H',by exact V1 pp,g1.trans g⟩
end
end Go.Cs.Tryz

namespace Go.Cs
open Go
open Classical in
noncomputable def TF(K:Int→Bool)(o:Ob):Ob:=if BD K o then zA o else o
theorem QO(K:Int→Bool)(o:Ob):NK (TF K) o:=by
 constructor<;>(unfold TF;split<;>first|rfl|exact Yn _ _ _)
noncomputable def YD(K D:Int→Bool)(o:Ob):Ob:=if D o.addr=true then TF K o else o
theorem NT(K D:Int→Bool)(o:Ob):NK (YD K D) o:=by
 have h:=QO K o
 constructor<;>(unfold YD;split)<;>first|rfl|exact h.addr|exact h.id|exact h.kd|exact h.nr|exact h.nd
section
variable {s : Hp} {K D : Int → Bool} {a : Int}
theorem GcV{o:Ob}(ho:s.obj a=some o)(ha:D a=false):(s.mp (YD K D)).obj a=some o:=by
 rw[Hp.Gcc fun x _=>NT K D x,ho]
 obtain⟨-,rfl⟩:=Hp.Jf ho
 show some (YD K D o)=_
 unfold YD
 rw[ha];rfl
theorem GfZ(k:s.Ok)(hh:s.has a=true)(ha:D a=false):GeU (s.mp (YD K D)) K a=s.mp (YD K fun x=>D x||x==a):=by
 obtain⟨o,ho⟩:=Hp.J4.1 hh
 unfold GeU
 rw[GcV ho ha]
 obtain⟨om,rfl⟩:=Hp.Jf ho
 have uniq:∀x∈s.objs,x.addr=o.addr→x=o:=fun x hx e=>k.U8 hx om e
 have far:∀x:Ob,x.addr≠o.addr→YD K (fun y=>D y||y==(o.addr:Int)) x=YD K D x:=fun x hx=>by
  unfold YD
  have:((x.addr:Int)==(o.addr:Int))=false:=by simp;omega
  simp only[this,Bool.or_false]
 have near:YD K (fun y=>D y||y==(o.addr:Int)) o=TF K o:=by
  unfold YD
  simp
 have Gld:YD K D o=o:=by unfold YD;rw[ha];rfl
 dsimp only
 split
 ·rename_i c
  unfold Hp.upd Hp.mp
  simp only[List.map_map]
  congr 1
  refine List.map_congr_left fun x hx=>?_
  show(if(YD K D x).addr=o.addr then zA (YD K D x)else YD K D x)=_
  rw[(NT K D x).addr]
  by_cases e:x.addr=o.addr
  ·rw[if_pos e,uniq x hx e,near,Gld]
   unfold TF
   rw[if_pos c]
  ·rw[if_neg e,far x e]
 ·rename_i c
  unfold Hp.mp
  congr 1
  refine List.map_congr_left fun x hx=>?_
  by_cases e:x.addr=o.addr
  ·rw[uniq x hx e,near,Gld]
   unfold TF
   rw[if_neg c]
  ·rw[far x e]
theorem Geg(hh:s.has a=true)(ha:D a=false):VH (s.mp (YD K D)) K a=VH s K a:=by
 obtain⟨o,ho⟩:=Hp.J4.1 hh
 unfold VH
 rw[GcV ho ha,ho]
end
noncomputable def Hp.GL(s:Hp)(K:Int→Bool):Hp:={s with objs:=(s.objs.filter fun o=>K o.addr).map (TF K)}
theorem LJ(s:Hp)(K:Int→Bool):QF (s.mp (YD K K)) K (s.mp (YD K K)).objs.length=s.GL K:=by
 unfold QF Hp.GL Hp.mp
 congr 1
 dsimp only
 rw[List.take_length,List.drop_length,List.append_nil,List.filter_map]
 rw[show(fun o:Ob=>K o.addr)∘YD K K=fun o=>K o.addr from funext fun o=>by show K ((YD K K o).addr:Int)=_;rw[(NT K K o).addr]]
 refine List.map_congr_left fun x hx=>?_
 unfold YD
 rw[if_pos (List.mem_filter.1 hx).2]
theorem RN{g:Ob→Ob}:∀{l:List Ob},(∀x∈l,(g x).size=x.size)→sizes (l.map g)=sizes l
 |[],_=>rfl
 |x::l,h=>by
  have h1:=h x QT
  have h2:=RN (l:=l) fun y hy=>h y (VA _ hy)
  simp only[sizes,List.map_cons,List.foldr_cons]at h2⊢
  omega
theorem Gac(s:Hp)(K:Int→Bool):(KS (s.mp (YD K K)) K (s.mp (YD K K)).objs.length).length=(s.objs.filter fun o=>!K o.addr).length∧sizes (KS (s.mp (YD K K)) K (s.mp (YD K K)).objs.length)=sizes (s.objs.filter fun o=>!K o.addr):=by
 have e:KS (s.mp (YD K K)) K (s.mp (YD K K)).objs.length=(s.objs.filter fun o=>!K o.addr).map (YD K K):=by
  unfold KS Hp.mp
  dsimp only
  rw[List.take_length,List.filter_map]
  congr 2
  funext o
  show(!K ((YD K K o).addr:Int))=_
  rw[(NT K K o).addr]
 rw[e]
 exact⟨sM,RN fun x _=>(NT K K x).size⟩
theorem Hp.Fh{s:Hp}{K:Int→Bool}{x:Ob}:x∈(s.GL K).objs↔∃o∈s.objs,K o.addr=true∧x=TF K o:=by
 simp only[Hp.GL,KI,List.mem_filter]
 constructor
 ·rintro ⟨o,⟨h1,h2⟩,rfl⟩
  exact⟨o,h1,h2,rfl⟩
 ·rintro ⟨o,h1,h2,rfl⟩
  exact⟨o,⟨h1,h2⟩,rfl⟩
theorem Hp.Ok.GL{s:Hp}(k:s.Ok)(K:Int→Bool):(s.GL K).Ok:=by
 rw[←LJ]
 exact(k.mp fun x _=>NT K K x).QF K _
end Go.Cs

namespace Go.Cs
open Go
def JK(ms:List (Int×Int))(x:Int):Int:=match ms.find? fun m=>m.1==x with
 |some m=>m.2
 |none=>x
theorem AB{ms:List (Int×Int)}{x:Int}(h:∀m∈ms,m.1≠x):JK ms x=x:=by
 unfold JK
 rw[List.find?_eq_none.2 fun m hm=>by simpa using h m hm]
theorem LM{ms:List (Int×Int)}{a b:Int}(h:∀m∈ms,m.1≠a)(x:Int):JK (ms++[(a,b)]) x=if x=a then b else JK ms x:=by
 unfold JK
 rw[List.find?_append]
 by_cases c:x=a
 ·subst c
  rw[if_pos rfl,List.find?_eq_none.2 fun m hm=>by simpa using h m hm]
  simp
 ·rw[if_neg c]
  have:[(a,b)].find? (fun m=>m.1==x)=none:=by simp[Ne.symm c]
  rw[this,Option.or_none]
theorem Hp.Tp{s:Hp}{w sp:Int}{x:Nat×Nat}:∀{k b:Nat},s.F5 w sp k b=some x→(s.KD (x.1/64):Int)=sp
 |0,b,h=>by cases h
 |k+1,b,h=>by
  unfold Hp.F5 at h
  split at h
  ·rename_i hc
   split at h
   ·rename_i y hy
    simp only[GA]at h
    subst h
    obtain⟨h1,h2,h3⟩:=Hp.Gdr (List.mem_of_find?_eq_some hy)
    rw[show y.1/64=b by omega];exact hc.2
   ·exact Hp.Tp h
  ·exact Hp.Tp h
theorem Hp.Ls{s:Hp}{n:Nat}:∀{k b:Nat},s.Ue n k b≠0→b≤s.Ue n k b∧s.Ue n k b+n≤s.blk.length∧s.NZ (s.Ue n k b) n=true
 |0,b,h=>absurd rfl h
 |k+1,b,h=>by
  unfold Hp.Ue at h⊢
  split
  ·rename_i c1
   rw[if_pos c1]at h
   split
   ·exact⟨Nat.le_refl _,c1,by assumption⟩
   ·rename_i c2
    rw[if_neg c2]at h
    have:=Hp.Ls h
    exact⟨oM,this.2⟩
  ·rename_i c1
   rw[if_neg c1]at h
   exact absurd rfl h
theorem Hp.LA{s:Hp}{b:Nat}(hb:b<s.blk.length):s.NZ b 1=(s.Gx b==0):=by
 unfold Hp.NZ Hp.Gx
 rw[drop_cons (Jr hb),Bo,Jr hb,List.take_succ_cons,List.take_zero,List.all_cons,List.all_nil,Bool.and_true]
 rfl
theorem Hp.Fz.free{s:Hp}(f:s.Fz){b:Nat}(hb:b<s.blk.length):Fp s b=(s.Gx b==0):=by
 unfold Fp Hp.Gx
 have h:=f (s.blk[b]) (List.getElem_mem hb)
 rw[Bo,Bo,Jr hb]
 simp only[Option.getD_some]
 rw[Bool.eq_iff_iff,beq_iff_eq,beq_iff_eq,Prod.ext_iff]
 exact⟨fun e=>e.1,fun e=>⟨e,h e⟩⟩
section
variable {s : Hp} {r d kd sp : Int}
structure Fst(s:Hp)(sp:Int)(x:Hp×Int×Bool):Prop where
 objs:x.1.objs=s.objs∧x.1.born=s.born∧x.1.fwd=s.fwd∧x.1.blk.length=s.blk.length
 blk:∀b,s.Gx b≠0→x.1.blk.getD b (0,0)=s.blk.getD b (0,0)
 ok:x.1.Ok
 fz:x.1.Fz
 lo:s.Lo→x.1.Lo
 at_:x.2.2=true→∃m:Nat,x.2.1=m∧64≤m∧m/64<s.blk.length∧x.1.Gx (m/64)=1∧(x.1.KD (m/64):Int)=sp
theorem Hp.MZ(k:s.Ok)(f:s.Fz)(hw:¬32<Gv r d kd)(hsp:0≤sp∧sp<8):Fst s sp (s.first r d kd sp):=by
 have hnb:=k.nb
 unfold Hp.first
 rw[if_neg hw]
 split
 ·rename_i x hx
  have h1:=Hp.Iu hx
  have h2:=Hp.Tp hx
  exact⟨⟨rfl,rfl,rfl,rfl⟩,fun _ _=>rfl,k,f,fun h=>h,fun _=>⟨x.1,rfl,oM,oM,h1.1,h2⟩⟩
 ·split
  ·exact⟨⟨rfl,rfl,rfl,rfl⟩,fun _ _=>rfl,k,f,fun h=>h,fun h=>by cases h⟩
  ·rename_i c
   obtain⟨q1,q2,q3⟩:=Hp.Ls c
   have q1':1≤s.free 1:=q1
   have q2':s.free 1+1≤s.blk.length:=q2
   have q3':s.NZ (s.free 1) 1=true:=q3
   rw[Hp.LA oM,beq_iff_eq]at q3'
   have e:=Hp.Sq (s:=s) hsp (b:=s.free 1) q1' oM
   rw[f.free oM,q3',beq_self_eq_true,if_pos rfl]at e
   have hok:=k.claim (s.free 1:Int) 1 (fst:=1) (ZP:=0) sp 0 oM oM (.inl rfl)
   have hfz:=f.claim (s.free 1:Int) 1 (fst:=1) (ZP:=0) sp oM (.inr rfl) 0
   have hlo:=fun(h:s.Lo)=>h.claim (s.free 1:Int) 1 1 sp 0 0
   rw[e]at hok hfz hlo⊢
   refine⟨⟨rfl,rfl,rfl,sM⟩,fun b hb=>?_,hok,hfz,hlo,fun _=>⟨64*s.free 1,by dsimp only;omega,oM,oM,?_,?_⟩⟩
   ·dsimp only
    rw[Bo,KV (fun e=>hb (by rw[←e];exact q3')),←Bo]
   ·dsimp only
    unfold Hp.Gx
    rw[show 64*s.free 1/64=s.free 1 by omega,Bo,Va oM];rfl
   ·dsimp only
    unfold Hp.KD
    rw[show 64*s.free 1/64=s.free 1 by omega,Bo,Va oM]
    show((sp.toNat:Nat):Int)=sp
    omega
end
def Hp.GdI(s:Hp)(sp a:Int):Hp×Option Int:=match s.obj a with
 |some o=>
  if(s.first o.refs.length o.data.length o.kd sp).2.2=true∧((s.first o.refs.length o.data.length o.kd sp).1.move a (s.first o.refs.length o.data.length o.kd sp).2.1).2=0 then
   (((s.first o.refs.length o.data.length o.kd sp).1.move a (s.first o.refs.length o.data.length o.kd sp).2.1).1,some (s.first o.refs.length o.data.length o.kd sp).2.1)
  else((s.first o.refs.length o.data.length o.kd sp).1,none)
 |none=>(s,none)
def Hp.stays(s:Hp)(fx:Int→Bool)(sp a:Int):Bool:=fx a||((s.pinnedAt a||decide (32<s.KQ a))||((s.KD (a.toNat/64):Int))==sp)
def ED(fx:Int→Bool)(sp:Int)(x:Hp×List (Int×Int))(a:Int):Hp×List (Int×Int):=
 if x.1.stays fx sp a=true then x else((x.1.GdI sp a).1,x.2++match(x.1.GdI sp a).2 with|some b=>[(a,b)]|none=>[])
def OX(s:Hp)(fx:Int→Bool)(sp:Int)(j:Nat):Hp×List (Int×Int):=(s.all.take j).foldl (ED fx sp) (s,[])
theorem Mf{s:Hp}{fx:Int→Bool}{sp:Int}{j:Nat}{a:Int}(h:s.all[j]?=some a):OX s fx sp (j+1)=ED fx sp (OX s fx sp j) a:=by
 unfold OX
 rw[Nl,h,List.foldl_append];rfl
structure MInv(s:Hp)(fx:Int→Bool)(sp:Int)(j:Nat)(x:Hp×List (Int×Int)):Prop where
 ok:x.1.Ok
 fz:x.1.Fz
 lo:x.1.Lo
 us:x.1.Wj
 len:x.1.blk.length=s.blk.length∧x.1.born=s.born
 obs:∀o,o∈x.1.objs↔∃o0∈s.objs,o=o0.to (JK x.2 o0.addr).toNat
 frm:∀m∈x.2,m.1∈s.all.take j∧fx m.1=false∧s.pinnedAt m.1=false∧m.1≠m.2∧∃b:Nat,m.2=b∧64≤b
 Ic:Uc (x.2.map (·.1))
theorem Hp.Ok.GjM{s:Hp}(k:s.Ok):Uc s.all:=by
 unfold Uc Hp.all
 rw[List.pairwise_map]
 exact k.apart.imp fun{a b} h=>by have:=a.size_pos;omega
theorem MInv.obj{s:Hp}{fx:Int→Bool}{sp:Int}{j:Nat}{x:Hp×List (Int×Int)}(k:s.Ok)(h:MInv s fx sp j x){a:Int}(ha:s.all[j]?=some a):
  ∃o0∈s.objs,(o0.addr:Int)=a∧x.1.obj a=some o0∧∀m∈x.2,m.1<a:=by
 have ho:∃o0∈s.objs,(o0.addr:Int)=a:=by
  unfold Hp.all at ha
  rw[Kr,GD]at ha
  obtain⟨o0,h1,h2⟩:=ha
  exact⟨o0,JV h1,h2⟩
 obtain⟨o0,om,rfl⟩:=ho
 have lt:∀m∈x.2,m.1<(o0.addr:Int):=fun m hm=>by
  obtain⟨i,hi⟩:=List.mem_iff_getElem?.1 (h.frm m hm).1
  rw[Zx]at hi
  split at hi
  ·exact Jg k.GjM oM hi ha
  ·cases hi
 refine⟨o0,om,rfl,h.ok.obj ((h.obs o0).2 ⟨o0,om,?_⟩),lt⟩
 rw[AB fun m hm e=>by have:=lt m hm;omega,Kt];rfl
theorem MInv.step{s:Hp}{fx:Int→Bool}{sp:Int}{j:Nat}{x:Hp×List (Int×Int)}(k:s.Ok)(hsp:0≤sp∧sp<8)(h:MInv s fx sp j x){a:Int}(ha:s.all[j]?=some a):MInv s fx sp (j+1) (ED fx sp x a):=by
 obtain⟨t,ms⟩:=x
 have hj:=Gf ha
 obtain⟨o0,om,rfl,NJ,lt⟩:=h.obj k ha
 dsimp only at NJ lt
 have ne:∀m∈ms,m.1≠(o0.addr:Int):=fun m hm e=>by have:=lt m hm;omega
 have hin:o0∈t.objs:=(Hp.Jf NJ).1
 have more:∀m∈ms,m.1∈s.all.take (j+1):=fun m hm=>by
  have:=(h.frm m hm).1
  rw[Nl]
  exact K_.2 (.inl this)
 unfold ED
 dsimp only
 by_cases c:t.stays fx sp o0.addr=true
 ·rw[if_pos c]
  exact⟨h.ok,h.fz,h.lo,h.us,h.len,h.obs,fun m hm=>⟨more m hm,(h.frm m hm).2⟩,h.Ic⟩
 rw[if_neg c]
 have c':fx o0.addr=false∧o0.pin=false∧o0.size≤32∧((t.KD (o0.addr/64):Int)==sp)=false:=by
  unfold Hp.stays Hp.pinnedAt Hp.KQ at c
  rw[NJ,Kt]at c
  grind
 obtain⟨c1,c2,c3,c4⟩:=c'
 have Gka:s.pinnedAt o0.addr=false:=by unfold Hp.pinnedAt;rw[k.obj om];exact c2
 have ok0:=k.ob o0 om
 have hw:Gv o0.refs.length o0.data.length o0.kd=(o0.size:Int):=by
  unfold Gv;rw[if_pos ok0.valid];rfl
 have F:=Hp.MZ (r:=o0.refs.length) (d:=o0.data.length) (kd:=o0.kd) h.ok h.fz (by rw[hw];omega) hsp
 obtain⟨f1,f2,f3,f4⟩:=F.objs
 have fus:(t.first o0.refs.length o0.data.length o0.kd sp).1.Wj:=fun o hm=>by
  rw[f1]at hm
  have h1:=h.us o hm
  have h2:=F.blk (o.addr/64) (by rw[h1];split<;>omega)
  unfold Hp.Gx at h1⊢
  rw[h2];exact h1
 unfold Hp.GdI
 rw[NJ]
 dsimp only
 by_cases e:(t.first o0.refs.length o0.data.length o0.kd sp).2.2=true∧((t.first o0.refs.length o0.data.length o0.kd sp).1.move o0.addr (t.first o0.refs.length o0.data.length o0.kd sp).2.1).2=0
 rotate_left
 ·rw[if_neg e]
  dsimp only
  rw[List.append_nil]
  exact⟨F.ok,F.fz,F.lo h.lo,fus,⟨f4.trans h.len.1,f2.trans h.len.2⟩,fun o=>by rw[f1];exact h.obs o,fun m hm=>⟨more m hm,(h.frm m hm).2⟩,h.Ic⟩
 rw[if_pos e]
 dsimp only
 obtain⟨e1,e2⟩:=e
 obtain⟨m,g1,g2,g3,g4,g5⟩:=F.at_ e1
 generalize t.first o0.refs.length o0.data.length o0.kd sp=y at*
 obtain⟨y,ya,yb⟩:=y
 dsimp only at*
 subst g1
 have Gt4:y.obj o0.addr=some o0:=by unfold Hp.obj;rw[f1];exact NJ
 have yin:o0∈y.objs:=by rw[f1];exact hin
 unfold Hp.move at e2⊢
 rw[Gt4]at e2⊢
 dsimp only at e2⊢
 by_cases ef:y.fits m o0.size o0.addr=0
 rotate_left
 ·rw[if_neg ef]at e2
  exact absurd e2 ef
 rw[if_pos ef]
 dsimp only
 rw[Kt]
 obtain⟨m',w1,w2,w3,w4⟩:=F.ok.WY (by have:=o0.size_pos;omega) ef
 have w1':m'=m:=by omega
 subst w1'
 have w4':∀x∈y.objs,x.addr≠o0.addr→m'+o0.size≤x.addr∨x.addr+x.size≤m':=fun x hx hne=>w4 x hx oM
 have mok:=F.ok.moved yin w2 w3 w4'
 have GlT:∀o,o∈(y.moved o0 m').objs↔o=o0.to m'∨(o∈t.objs∧o.addr≠o0.addr):=fun o=>by
  show o∈NA (o0.to m') (y.without o0.addr).objs↔_
  rw[GU,Hp.GV,f1]
 have hne:(o0.addr:Int)≠(m':Int):=fun e=>by
  have h1:=h.us o0 hin
  have h2:=F.blk (o0.addr/64) (by rw[h1];split<;>omega)
  have e':o0.addr=m':=by omega
  unfold Hp.KD at c4 g5
  rw[e']at h2 c4
  rw[h2]at g5
  rw[g5]at c4
  simp at c4
 refine⟨mok,F.fz,⟨(F.lo h.lo).1,fun o hm=>?_⟩,fun o hm=>?_,⟨f4.trans h.len.1,f2.trans h.len.2⟩,fun o=>?_,fun q hq=>?_,?_⟩
 ·rcases(GlT o).1 hm with rfl|⟨h1,-⟩
  ·exact g2
  ·exact h.lo.2 o h1
 ·show y.Gx (o.addr/64)=_
  rcases(GlT o).1 hm with rfl|⟨h1,-⟩
  ·rw[Ob.Gdo,if_pos c3];exact g4
  ·exact fus o (by rw[f1];exact h1)
 ·rw[GlT]
  constructor
  ·rintro (rfl|⟨h1,h2⟩)
   ·exact⟨o0,om,by rw[LM ne,if_pos rfl,Kt]⟩
   ·obtain⟨o1,h3,h4⟩:=(h.obs o).1 h1
    refine⟨o1,h3,?_⟩
    rw[LM ne,if_neg,h4]
    intro e
    have:o1=o0:=k.U8 h3 om oM
    subst this
    rw[AB ne,Kt]at h4
    exact h2 (by rw[h4];rfl)
  ·rintro ⟨o1,h3,rfl⟩
   rw[LM ne]
   by_cases c:(o1.addr:Int)=o0.addr
   ·rw[if_pos c,Kt]
    have:o1=o0:=k.U8 h3 om oM
    subst this
    exact .inl rfl
   ·rw[if_neg c]
    have h1:=(h.obs _).2 ⟨o1,h3,rfl⟩
    refine .inr ⟨h1,fun e=>c ?_⟩
    have h5:=h.ok.U8 h1 hin e
    have h6:o1.id=o0.id:=by have:=congrArg Ob.id h5;exact this
    rcases Ki k.ids h3 om with h7|h7|h7
    ·rw[h7]
    ·exact absurd h6 h7
    ·exact absurd h6.symm h7
 ·rcases K_.1 hq with hq|hq
  ·exact⟨more q hq,(h.frm q hq).2⟩
  ·rw[Ad]at hq
   subst hq
   refine⟨?_,c1,Gka,hne,m',rfl,g2⟩
   rw[Nl,ha]
   exact K_.2 (.inr sM)
 ·unfold Uc
  rw[Ij,List.pairwise_append]
  refine⟨h.Ic,sM,fun u hu v hv=>?_⟩
  obtain⟨q,hq,rfl⟩:=KI.1 hu
  simp only[List.map_cons,List.map_nil,Ad]at hv
  rw[hv];exact lt q hq
theorem MInv.zero{s:Hp}{fx:Int→Bool}{sp:Int}(k:s.Ok)(f:s.Fz)(lo:s.Lo)(us:s.Wj):MInv s fx sp 0 (OX s fx sp 0):=
 ⟨k,f,lo,us,⟨rfl,rfl⟩,fun o=>by
  constructor
  ·exact fun h=>⟨o,h,by show o=o.to (JK [] o.addr).toNat;rw[AB (fun m hm=>by cases hm),Kt];rfl⟩
  ·rintro ⟨o0,h,rfl⟩
   show o0.to (JK [] o0.addr).toNat∈s.objs
   rw[AB (fun m hm=>by cases hm),Kt];exact h,fun m hm=>(by cases hm),List.Pairwise.nil⟩
theorem Tx{s:Hp}{fx:Int→Bool}{sp:Int}(k:s.Ok)(f:s.Fz)(lo:s.Lo)(us:s.Wj)(hsp:0≤sp∧sp<8):∀{j:Nat},j≤s.objs.length→MInv s fx sp j (OX s fx sp j)
 |0,_=>.zero k f lo us
 |j+1,hj=>by
  obtain⟨a,ha⟩:∃a,s.all[j]?=some a:=⟨_,Jr (by unfold Hp.all;rw[QY];omega)⟩
  rw[Mf ha]
  exact(Tx k f lo us hsp oM).step k hsp ha
end Go.Cs
namespace Go.Cs.Tryz
open Go Go.Cs A
abbrev TA:Gn:=T [b 23 .lss 22 21] (S (J 23 (X 0)) (S (B 1 (T [m 24 22,m 10 24] (T [m 25 0,m 26 10,m 27 2,q3 28 74 25 26 27,bk 29 .eql 28 0] (I 29 (Q [m 30 10,bk 31 .mul 30 64,m 6 31,nb 7 true]))))) (R [bk 32 .add 22 1,m 22 32])))
def Gvd:Gj:=⟨33,0,T [bo 4 1,n 6 0,nb 7 false] (S (T [m 12 0,lg 13 3 4,m 14 2,q3 15 227 12 13 14,m 11 15,ex 16 11 0,ex 17 11 1,m 8 16,m 9 17] (T [m 18 9] (I 18 (Q [m 19 8,m 6 19,nb 7 true])))) (S (T [m 20 0,q1 21 46 20,n 22 0] (B 0 (W TA))) (Q [n 6 0,nb 7 false]))),[r 6,r 7]⟩
theorem c146:P 146=some Gvd:=by kernel_rfl
abbrev LC:Gn:=T [b 35 .lss 34 33] (S (J 35 (X 2)) (S (B 3 (T [x 36 2 32 34,lg 37 2 36,e 11 (.new [i 0,i 0]),st 2 11 37] (T [f 38 1 11,l 39 1 38,m 40 8,b 41 .geq 39 40] (I 41 (Q [f 42 0 11,l 43 1 42,m 6 43,nb 7 true]))))) (R [bk 44 .add 34 1,m 34 44])))
abbrev ME:Gn:=T [b 17 .lss 16 15] (S (J 17 (X 0)) (S (B 1 (T [m 18 16,m 9 18] (S (T [m 19 0,m 20 9,q2 21 62 19 20,bk 22 .neq 21 1,m 23 22,gf 23 (m 24 0),gf 23 (m 25 9),gf 23 (q2 26 56 24 25),gf 23 (m 27 2),gf 23 (b 28 .neq 26 27),or 29 23 28] (I 29 (X 1))) (T [m 30 0,m 31 9,q2 32 278 30 31,le 33 32,n 34 0] (B 2 (W LC)))))) (R [bk 45 .add 16 1,m 16 45])))
def GrP:Gj:=⟨46,0,T [bo 4 1,n 6 0,nb 7 false] (T [lg 12 3 4,q1 13 165 12,m 8 13] (S (T [m 14 0,q1 15 46 14,n 16 0] (B 0 (W ME))) (Q [n 6 0,nb 7 false]))),[r 6,r 7]⟩
theorem c227:P 227=some GrP:=by kernel_rfl
end Go.Cs.Tryz
namespace Go.Cs.Tryz
open Go Go.Cs
section
variable {H : Gb} {hb : Nat} {s : Hp} {L : G5}
theorem GiU{w:Int}{l:List (Nat×Nat)}(hl:l.length≤5000){v:CV}(hv:PL 0 H v l)
  {E0:Env}(h8:E0 8=.i w)(h32:E0 32=v)(h33:E0 33=.i l.length)(h34:E0 34=.i 0){r':Option (CX×Env×Gb)}(hr:den P (.loop LC) E0 H=r'):
  ∃x E' H',r'=some (x,E',H')∧Gr H H'∧((∃y,x=.ret∧QC w l=some y∧E' 6=.i y.1∧E' 7=.bool true)∨(x=.exit 2∧QC w l=none))∧∀t,t∉wr LC→E' t=E0 t:=by
 obtain⟨x',E',H',e,-,⟨g,hf⟩,fr⟩:=Gq (p:=P) (c:=LC) (E0:=E0) (H0:=H)
  (fun q E H'=>Gr H H'∧∃j:Nat,E 34=.i j∧j≤l.length∧q=l.length-j∧QC w (l.drop j)=QC w l)
  (fun x E' H'=>Gr H H'∧((∃y,x=.ret∧QC w l=some y∧E' 6=.i y.1∧E' 7=.bool true)∨(x=.exit 2∧QC w l=none))) (by
   rintro q' E H' hE ⟨g,j,e34,hj,rfl,hd⟩
   have e8:=(hE 8 dK).trans h8
   have e32:=(hE 32 dK).trans h32
   have e33:=(hE 33 dK).trans h33
   by_cases c:j<l.length
   ·have c':decide ((j:Int)<(l.length:Int))=true:=Gz oM
    have hx:l[j]?=some l[j]:=Jr c
    obtain⟨x,hxe⟩:∃x,x=l[j]:=⟨_,rfl⟩
    rw[←hxe]at hx
    obtain⟨b,i1,i2,i3,i4,i5,-⟩:=PL.at (hv.keeps g) hx
    have OI:=i1 H'
    have hN:Ba (some ⟨Gy l,.rw,2⟩) (j*2) 2=some [.i x.1,.i x.2]:=by
     rw[Qg,if_pos (by have:=Gf i5;omega),drop_cons i4,drop_cons i5];rfl
    rw[drop_cons hx]at hd
    unfold QC at hd
    rw[List.find?_cons]at hd
    by_cases ca:w≤(x.2:Int)
    ·have Pg:decide ((x.2:Int)≥w)=true:=Gz ca
     rw[Gz ca]at hd
     apply Gi (x:=.ret)
     ·refine W9 e8 e32 e33 e34 c' OI i3 hN Pg ?_
      rfl
     ·simp
     ·exact⟨g.app' _,.inl ⟨x,rfl,hd.symm,uA,uA⟩⟩
    ·have Pg:decide ((x.2:Int)≥w)=false:=Gw ca
     rw[Gw ca]at hd
     have w1:IntKind.i64.wrap ((j:Int)+1)=((j+1:Nat):Int):=Gg oM
     apply Gm (k':=l.length-(j+1))
     ·refine W10 e8 e32 e33 e34 c' OI i3 hN Pg w1 ?_
      rfl
     ·omega
     ·exact⟨g.app' _,j+1,uA,oM,rfl,hd⟩
   ·have c':decide ((j:Int)<(l.length:Int))=false:=Gw oM
    rw[Ge2 oM]at hd
    apply Gi (x:=.exit 2)
    ·refine W3 e33 e34 c' ?_
     rfl
    ·simp
    ·exact⟨g,.inr ⟨rfl,hd.symm⟩⟩) _ ⟨Keeps.refl _ _,0,h34,oM,rfl,rfl⟩
 grind
theorem Gk5(p:PH H hb s L)(k:s.Ok)(lo:s.Lo){w sp:Int}{E0:Env}(h0:E0 0=.ptr hb 0)(h2:E0 2=.i sp)(h8:E0 8=.i w)(h15:E0 15=.i s.blk.length)(h16:E0 16=.i 0){r:Option (CX×Env×Gb)}(hr:den P (.loop ME) E0 H=r):
  ∃x E' H',r=some (x,E',H')∧Gr H H'∧((∃y,x=.ret∧s.gap w sp=some y∧E' 6=.i y.1∧E' 7=.bool true)∨(x=.exit 0∧s.gap w sp=none)):=by
 have hnb:=k.nb
 obtain⟨x',E',H',e,-,⟨g,hf⟩,fr⟩:=Gq (p:=P) (c:=ME) (E0:=E0) (H0:=H)
  (fun q E H'=>Gr H H'∧∃j:Nat,E 16=.i j∧j≤s.blk.length∧q=s.blk.length-j∧s.F5 w sp (s.blk.length-j) j=s.gap w sp)
  (fun x E' H'=>Gr H H'∧((∃y,x=.ret∧s.gap w sp=some y∧E' 6=.i y.1∧E' 7=.bool true)∨(x=.exit 0∧s.gap w sp=none))) (by
   rintro q E H' hE ⟨g,j,e16,hj,rfl,hd⟩
   have e0:=(hE 0 dK).trans h0
   have e2:=(hE 2 dK).trans h2
   have e8:=(hE 8 dK).trans h8
   have e15:=(hE 15 dK).trans h15
   by_cases c:j<s.blk.length
   ·have c':decide ((j:Int)<(s.blk.length:Int))=true:=Gz oM
    have w1:IntKind.i64.wrap ((j:Int)+1)=((j+1:Nat):Int):=Gg oM
    have pg:=p.gr g
    have d1:=U6 pg k c
    have d2:=FM pg k c
    rw[show s.blk.length-j=(s.blk.length-(j+1))+1 by omega]at hd
    unfold Hp.F5 at hd
    by_cases x1:s.Gx j=1
    ·have y1:((s.Gx j:Int) != 1)=false:=by rw[x1];rfl
     by_cases x2:(s.KD j:Int)=sp
     ·have y2:((s.KD j:Int) != sp)=false:=by rw[x2];simp
      rw[if_pos ⟨x1,x2⟩]at hd
      have hj1:1≤j:=by
       rcases Nat.eq_zero_or_pos j with h|h
       ·rw[h,lo.1]at x1;cases x1
       ·exact h
      obtain⟨v,H2,d3,g3,hv⟩:=Gd_ pg k c hj1
      have hvl:=hv.len H2
      have hgl:=k.GhF j
      have fin:∀(x:CX)(E2:Env)(H3:Gb),Gr H2 H3→((∃y,x=.ret∧QC w (s.gaps j)=some y∧E2 6=.i y.1∧E2 7=.bool true)∨(x=.exit 2∧QC w (s.gaps j)=none))→True:=fun _ _ _ _ _=>trivial
      suffices fin:∃(x:CX)(E':Env)(H3:Gb),den P ME E H'=some (x,E',H3)∧Gr H' H3∧((∃y,x=.ret∧QC w (s.gaps j)=some y∧E' 6=.i y.1∧E' 7=.bool true)∨(x=.normal∧QC w (s.gaps j)=none∧E' 16=.i ((j+1:Nat):Int)))by
       obtain⟨x,E',H3,f1,f2,f3⟩:=fin
       rcases f3 with⟨y,rfl,f4,f5,f6⟩|⟨rfl,f4,f5⟩
       ·rw[f4]at hd
        exact Gi f1 sM ⟨g.trans f2,.inl ⟨y,rfl,hd.symm,f5,f6⟩⟩
       ·rw[f4]at hd
        exact Gm f1 (k':=s.blk.length-(j+1)) oM ⟨g.trans f2,j+1,f5,oM,rfl,hd⟩
      refine W12 e0 e2 e8 e15 e16 c' d1 d2 y1 y2 d3 hvl ?_
      generalize hr:den P (.loop LC) _ _=r
      obtain⟨x,E2,H3,rfl,g4,h4,f2⟩:=GiU (w:=w) oM hv.il (by simp[Gc,e8]) uA uA uA hr
      have b16:=f2 16 dK
      simp only[Gc,Nat.reduceEqDiff,↓reduceIte,e16]at b16
      rcases h4 with⟨y,rfl,a1,a2,a3⟩|⟨rfl,a1⟩
      ·refine Jb ?_
       exact⟨_,_,_,rfl,g3.trans g4,.inl ⟨y,rfl,by first|exact a1|rfl,a2,a3⟩⟩
      ·refine Jb ?_
       exact⟨_,_,_,rfl,g3.trans g4,.inr ⟨rfl,by first|exact a1|trivial,uA⟩⟩
     ·have y2:((s.KD j:Int) != sp)=true:=by simpa using x2
      rw[if_neg fun h=>x2 h.2]at hd
      apply Gm (k':=s.blk.length-(j+1))
      ·refine W10 e0 e2 e15 e16 c' d1 d2 y1 y2 w1 ?_
       rfl
      ·omega
      ·exact⟨g,j+1,uA,oM,rfl,hd⟩
    ·have y1:((s.Gx j:Int) != 1)=true:=by simp;omega
     rw[if_neg fun h=>x1 h.1]at hd
     apply Gm (k':=s.blk.length-(j+1))
     ·refine W8 e0 e2 e15 e16 c' d1 y1 w1 ?_
      rfl
     ·omega
     ·exact⟨g,j+1,uA,oM,rfl,hd⟩
   ·have c':decide ((j:Int)<(s.blk.length:Int))=false:=Gw oM
    have hjj:s.blk.length-j=0:=by omega
    rw[hjj]at hd
    apply Gi (x:=.exit 0)
    ·refine W3 e15 e16 c' ?_
     rfl
    ·simp
    ·exact⟨g,.inr ⟨rfl,hd.symm⟩⟩) _ ⟨Keeps.refl _ _,0,h16,oM,rfl,by
     unfold Hp.gap
     rw[show s.blk.length-0=(s.blk.length-1)+1 by omega]
     show Hp.F5 s w sp ((s.blk.length-1)+1) 0=_
     rw[Hp.F5,if_neg fun h=>by rw[lo.1]at h;cases h.1]⟩
 exact⟨x',E',H',hr.symm.trans e,g,hf⟩
def Ge1(x:Option (Nat×Nat)):Int×Bool:=match x with
 |some y=>((y.1:Int),true)
 |none=>(0,false)
theorem Gd4(p:PH H hb s L)(k:s.Ok)(lo:s.Lo)(r d kd sp:Int):∃H',run P 227 [.ptr hb 0,.agg (GX r d kd),.i sp] H=some (.Jj [.i (Ge1 (s.gap (Gv r d kd) sp)).1,.bool (Ge1 (s.gap (Gv r d kd) sp)).2],H')∧Gr H H':=by
 obtain⟨X,hX⟩:∃X:Gb,X=H++[⟨GX r d kd,.rw,0⟩]:=⟨_,rfl⟩
 have gX:Gr H X:=by rw[hX];exact Gr.app _ _
 have tX:X[H.length]?=some ⟨GX r d kd,.rw,0⟩:=by rw[hX];simp
 have h2:=Vk (H:=X) r d kd
 obtain⟨X1,hX1⟩:∃X1:Gb,X1=X++[⟨GX r d kd,.rw,0⟩]++[⟨GX r d kd,.rw,0⟩]:=⟨_,rfl⟩
 rw[←hX1]at h2
 have g1:Gr X X1:=by rw[hX1];exact(Gr.app _ _).app' _
 have F3:=gX.trans g1
 have h3:=KY (p.gr F3) k
 rw[Gh c227 _ _ sM]
 unfold GX at h2 hX tX hX1⊢
 refine Jb ?_
 rw[←hX]
 refine W3 tX h2 h3 ?_
 generalize hr:den P (.loop ME) _ _=rr
 obtain⟨x,E',H',rfl,g,hf⟩:=Gk5 (p.gr F3) k lo (w:=Gv r d kd) (sp:=sp) uA uA uA uA uA hr
 rcases hf with⟨y,rfl,a1,a2,a3⟩|⟨rfl,a1⟩
 ·rw[a1]
  unfold Ge1
  exact⟨H',by exact V2 a2 a3,F3.trans g⟩
 ·rw[a1]
  unfold Ge1
  exact⟨H',by exact W0,F3.trans g⟩
theorem GfO(p:PH H hb s L)(k:s.Ok)(f:s.Fz){sp:Int}(hsp:0≤sp∧sp<8){E0:Env}(h0:E0 0=.ptr hb 0)(h2:E0 2=.i sp)(h21:E0 21=.i s.blk.length)(h22:E0 22=.i 0){r:Option (CX×Env×Gb)}(hr:den P (.loop TA) E0 H=r):
  ∃x E' H',r=some (x,E',H')∧Keeps H H' (·∈L.all hb)∧((x=.ret∧s.free 1≠0∧PH H' hb (s.claim (s.free 1) 1 1 sp 0 0).1 L∧(s.claim (s.free 1) 1 1 sp 0 0).2=0∧E' 6=.i (64*(s.free 1:Int))∧E' 7=.bool true)∨(x=.exit 0∧s.free 1=0∧PH H' hb s L)):=by
 have hnb:=k.nb
 obtain⟨x',E',H',e,-,⟨g,hf⟩,fr⟩:=Gq (p:=P) (c:=TA) (E0:=E0) (H0:=H)
  (fun q E H'=>Keeps H H' (·∈L.all hb)∧PH H' hb s L∧∃j:Nat,E 22=.i j∧j≤s.blk.length∧q=s.blk.length-j∧(1≤j→s.Ue 1 (s.blk.length-j+1) j=s.free 1))
  (fun x E' H'=>Keeps H H' (·∈L.all hb)∧((x=.ret∧s.free 1≠0∧PH H' hb (s.claim (s.free 1) 1 1 sp 0 0).1 L∧(s.claim (s.free 1) 1 1 sp 0 0).2=0∧E' 6=.i (64*(s.free 1:Int))∧E' 7=.bool true)∨(x=.exit 0∧s.free 1=0∧PH H' hb s L))) (by
   rintro q E H' hE ⟨g,pj,j,e22,hj,rfl,hd⟩
   have e0:=(hE 0 dK).trans h0
   have e2:=(hE 2 dK).trans h2
   have e21:=(hE 21 dK).trans h21
   by_cases c:j<s.blk.length
   ·have c':decide ((j:Int)<(s.blk.length:Int))=true:=Gz oM
    have w1:IntKind.i64.wrap ((j:Int)+1)=((j+1:Nat):Int):=Gg oM
    obtain⟨H2,d2,g2,p2⟩:=BZ pj k j sp
    by_cases x1:(s.claim (j:Int) 1 1 sp 0 0).2=0
    ·obtain⟨q1,q2,q3⟩:=BU x1
     have hfr:=hd q2
     have hfj:s.free 1=j:=by
      rw[←hfr,Hp.Ue,if_pos oM,Hp.LA c,q1]
      rfl
     have y1:((s.claim (j:Int) 1 1 sp 0 0).2==0)=true:=by rw[x1];rfl
     have w2:IntKind.i64.wrap ((j:Int)*64)=64*(j:Int):=by rw[Gg oM];omega
     apply Gi (x:=.ret)
     ·refine W8 e0 e2 e21 e22 c' d2 y1 w2 ?_
      rfl
     ·simp
     ·exact⟨g.trans g2,.inl ⟨rfl,oM,by rw[hfj];exact p2,by rw[hfj];exact x1,by rw[hfj];simp[Gc],uA⟩⟩
    ·have y1:((s.claim (j:Int) 1 1 sp 0 0).2==0)=false:=by simpa using x1
     rw[BP x1]at p2
     apply Gm (k':=s.blk.length-(j+1))
     ·refine W8 e0 e2 e21 e22 c' d2 y1 w1 ?_
      rfl
     ·omega
     ·refine⟨g.trans g2,p2,j+1,uA,oM,rfl,fun _=>?_⟩
      rcases Nat.eq_zero_or_pos j with h|h
      ·subst h
       show s.Ue 1 (s.blk.length-1+1) 1=s.free 1
       rw[Nat.sub_add_cancel oM];rfl
      ·have hfr:=hd h
       have hcl:=Hp.Sq (s:=s) hsp (b:=j) h c
       have hnf:Fp s j=false:=by
        rw[←Bool.not_eq_true]
        intro hh
        rw[if_pos hh]at hcl
        rw[hcl]at x1
        exact x1 rfl
       rw[f.free c]at hnf
       rw[Hp.Ue,if_pos oM,Hp.LA c,hnf,if_neg sM]at hfr
       rw[show s.blk.length-(j+1)+1=s.blk.length-j by omega]
       exact hfr
   ·have c':decide ((j:Int)<(s.blk.length:Int))=false:=Gw oM
    have hfr:=hd oM
    rw[Hp.Ue,if_neg oM]at hfr
    apply Gi (x:=.exit 0)
    ·refine W3 e21 e22 c' ?_
     rfl
    ·simp
    ·exact⟨g,.inr ⟨rfl,hfr.symm,pj⟩⟩) _ ⟨Keeps.refl _ _,p,0,h22,oM,rfl,fun h=>absurd h oM⟩
 exact⟨x',E',H',hr.symm.trans e,g,hf⟩
theorem WK(p:PH H hb s L)(k:s.Ok)(f:s.Fz)(lo:s.Lo){r d kd sp:Int}(hw:¬32<Gv r d kd)(hsp:0≤sp∧sp<8):
  Did H hb L (s.first r d kd sp).1 (.Jj [.i (s.first r d kd sp).2.1,.bool (s.first r d kd sp).2.2]) (run P 146 [.ptr hb 0,.agg (GX r d kd),.i sp] H):=by
 obtain⟨X,hX⟩:∃X:Gb,X=H++[⟨GX r d kd,.rw,0⟩]:=⟨_,rfl⟩
 have gX:Gr H X:=by rw[hX];exact Gr.app _ _
 have tX:X[H.length]?=some ⟨GX r d kd,.rw,0⟩:=by rw[hX];simp
 obtain⟨X1,h2,g1⟩:=Gd4 (p.gr gX) k lo r d kd sp
 have F3:=gX.trans g1
 have h3:=KY (p.gr F3) k
 unfold Did Hp.first
 rw[if_neg hw]
 rw[Gh c146 _ _ sM]
 unfold GX at h2 hX tX⊢
 cases hg:s.gap (Gv r d kd) sp with
 |some x=>
  rw[hg]at h2
  unfold Ge1 at h2
  dsimp only at h2⊢
  refine⟨X1,?_,F3.weaken fun _ h=>h.elim,p.gr F3⟩
  refine Jb ?_
  rw[←hX]
  exact V2 tX h2
 |none=>
  rw[hg]at h2
  unfold Ge1 at h2
  dsimp only at h2⊢
  refine Jb ?_
  rw[←hX]
  refine W3 tX h2 h3 ?_
  generalize hr:den P (.loop TA) _ _=rr
  obtain⟨x,E',H',rfl,g,hf⟩:=GfO (p.gr F3) k f hsp uA uA uA uA hr
  have kg:Keeps H H' (·∈L.all hb):=(F3.weaken fun _ h=>h.elim).trans g
  rcases hf with⟨rfl,a1,a2,a3,a4,a5⟩|⟨rfl,a1,a2⟩
  ·rw[if_neg a1]
   dsimp only
   rw[a3]
   exact⟨H',by exact V2 a4 a5,kg,a2⟩
  ·rw[if_pos a1]
   exact⟨H',by exact W0,kg,a2⟩
end
end Go.Cs.Tryz

namespace Go.Cs
open Go
def I9(W:List (Int×Int)):List CV:=W.flatMap fun x=>[.i x.1,.i x.2]
abbrev QL(k:Nat)(H:Gb)(v:CV)(W:List (Int×Int)):Prop:=At (Loc k) z3 H v 2 W.length (I9 W)
theorem MR(x:Int×Int)(W:List (Int×Int)):I9 (x::W)=.i x.1::.i x.2::I9 W:=rfl
theorem Gki(l k:List (Int×Int)):I9 (l++k)=I9 l++I9 k:=by simp[I9]
theorem SX:∀W:List (Int×Int),(I9 W).length=W.length*2
 |[]=>rfl
 |x::W=>by rw[MR,List.length_cons,List.length_cons,List.length_cons,SX W];omega
theorem Wn:∀W:List (Int×Int),(I9 W).all leaf=true
 |[]=>rfl
 |x::W=>by rw[MR];simp[Jl,Wn W]
theorem Gge:∀(W:List (Int×Int))(b:Nat)(x:Int×Int),W[b]?=some x→(I9 W)[b*2]?=some (.i x.1)∧(I9 W)[b*2+1]?=some (.i x.2)
 |[],b,x,h=>by simp at h
 |y::W,0,x,h=>by
  simp only[List.getElem?_cons_zero,GA]at h
  subst h;exact⟨rfl,rfl⟩
 |y::W,b+1,x,h=>by
  have:=Gge W b x (by simpa using h)
  rw[MR,Nat.add_mul]
  exact this
theorem QL.len{k:Nat}{H:Gb}{v:CV}{W:List (Int×Int)}(h:QL k H v W)(H':Gb):UK v H'=some (.i W.length,H'):=At.len h H'
theorem QL.leaf{k:Nat}{H:Gb}{v:CV}{W:List (Int×Int)}(h:QL k H v W):Go.Cs.leaf v=true:=At.leaf h
theorem QL.at{k:Nat}{H:Gb}{v:CV}{W:List (Int×Int)}(h:QL k H v W){i:Nat}{x:Int×Int}(hi:W[i]?=some x):
  ∃b,(∀H',JM 2 v (.i i) H'=some (.ptr b (i*2),H'))∧Qh 2 v (.i i)=okV (.ptr b (i*2))∧H[b]?=some ⟨I9 W,.rw,2⟩∧(I9 W)[i*2]?=some (.i x.1)∧(I9 W)[i*2+1]?=some (.i x.2)∧k≤b∧
   QL k (H.set b ⟨I9 (W.set i x),.rw,2⟩) v (W.set i x)∧∀y,QL k (H.set b ⟨I9 (W.set i (x.1,y)),.rw,2⟩) v (W.set i (x.1,y)):=by
 have hl:=Gf hi
 obtain⟨q1,q2⟩:=Gge W i x hi
 rcases h with⟨h1,-⟩|⟨b,tl,rfl,h1,h2,h3⟩
 ·omega
 ·have key:∀z,QL k (H.set b ⟨I9 (W.set i z),.rw,2⟩) (.slice b 0 W.length W.length 2 tl) (W.set i z):=fun z=>by
   refine .inr ⟨b,tl,by rw[List.length_set],h1,?_,SX _⟩
   grind
  refine⟨b,fun H'=>?_,?_,h2,q1,q2,(Gl.1 h1).1,key _,fun y=>key _⟩
  ·rw[Qd oM];simp
  ·rw[Nv oM];simp
theorem QL.keeps{k:Nat}{H H':Gb}{v:CV}{W:List (Int×Int)}(h:QL k H v W){w:Nat→Prop}(g:Keeps H H' w)(hw:∀c,w c→c<k):QL k H' v W:=by
 rcases h with h|⟨b,tl,e,h1,h2,h3⟩
 ·exact .inl h
 ·refine .inr ⟨b,tl,e,h1,?_,h3⟩
  rw[g.keep b (Gf h2) (fun h=>by have:=hw _ h;have:=(Gl.1 h1).1;omega),h2]
theorem QL.push{k:Nat}{H:Gb}{v:CV}{W:List (Int×Int)}(h:QL k H v W)(hk:k≤H.length)(hm:W.length+1≤16777216)(x:Int×Int):
  ∃v' H',Ju (H++[⟨[.i x.1,.i x.2],.rw,2⟩]) 2 v 1 [.i x.1,.i x.2]=some (v',H')∧QL k H' v' (W++[x])∧Keeps H H' (fun c=>k≤c):=by
 obtain⟨v',H',a,b,c⟩:=LL.cat (q:=1) (new:=[.i x.1,.i x.2]) (At.keeps h (.app H [⟨[.i x.1,.i x.2],.rw,2⟩])) (by simp;omega) hm (by simp[Jl]) rfl
 refine⟨v',H',a,?_,(Keeps.app H _ _).trans c⟩
 show At (Loc k) z3 H' v' 2 (W++[x]).length (I9 (W++[x]))
 rw[Gki,Qi];exact b
end Go.Cs
namespace Go.Cs.Tryz
open Go Go.Cs A
def C52:Gj:=⟨7,0,T [e 2 (.Km (c .nilPtr))] (Q [m 3 0,e 4 .Yf,e 5 (.build [.nilPtr,.Uk,.Gd] [(0,1,t 3),(1,1,t 4)]),bo 6 5,m 2 6]),[r 2]⟩
theorem c52:P 52=some C52:=by kernel_rfl
def C57:Gj:=⟨62,0,T [nb 6 false] (T [m 12 0,z 13 12,f 14 0 13,l 15 1 14,m 16 1,q2 17 65 15 16,m 11 17,ex 18 11 0,ex 19 11 1,e 7 (.new [i 0,i 0,i 0]),st 3 7 18,m 8 19] (S (T [m 20 8,bk 21 .neq 20 0] (I 21 (Q [nb 6 false]))) (S (D [⟨m 23 0,0,0,0⟩,⟨z 24 23,1,0,0⟩,⟨f 25 0 24,2,0,0⟩,⟨l 26 1 25,3,1,0⟩,⟨lg 27 3 7,4,1,0⟩,⟨m 28 2,5,0,0⟩,⟨q3 29 146 26 27 28,6,3,0⟩,⟨m 22 29,7,0,1⟩,⟨ex 30 22 0,8,0,1⟩,⟨ex 31 22 1,9,0,1⟩,⟨m 9 30,10,0,1⟩,⟨m 10 31,11,0,1⟩]) (S (T [m 32 10,no 33 32,m 34 33,gf 34 (m 35 0),gf 34 (z 36 35),gf 34 (f 37 0 36),gf 34 (l 38 1 37),gf 34 (m 39 1),gf 34 (m 40 9),gf 34 (q3 41 147 38 39 40),gf 34 (bk 42 .neq 41 0),or 43 34 42] (I 43 (Q [nb 6 false]))) (T [m 44 0,z 45 44,f 46 1 45,l 47 1 46,m 48 1,m 49 9,u (.QS .i64 (t 47) (t 48) (t 49))] (T [m 50 0,m 51 0,z 52 51,f 53 2 52,l 54 1 53,m 55 1,m 56 9,e 57 (.build [i 0,i 0] [(0,1,t 55),(1,1,t 56)]),e 58 (.buildSlice 2 [i 0,i 0] 1 [(0,2,t 57)]),ap 59 2 54 58,z 60 50,f 61 2 60,st 1 61 59] (Q [nb 6 true]))))))),[r 6]⟩
theorem c57:P 57=some C57:=by kernel_rfl
end Go.Cs.Tryz
namespace Go.Cs
open Go
def Mvr(H:Gb)(mb hb tb k:Nat)(ms:List (Int×Int)):Prop:=
 ∃v r,H[mb]?=some ⟨[.ptr hb 0,.GJ tb,v],.rw,0⟩∧QL k H v ms∧Q8 H tb r
theorem Hp.GiF{s:Hp}{a b:Int}(h:(s.move a b).2≠0):(s.move a b).1=s:=by
 unfold Hp.move at h⊢
 split
 ·rename_i o ho
  rw[ho]at h
  dsimp only at h
  split
  ·rename_i c
   rw[if_pos c]at h
   exact absurd rfl h
  ·rfl
 ·rfl
end Go.Cs
namespace Go.Cs.Tryz
open Go Go.Cs
section
variable {H : Gb} {hb : Nat} {s : Hp} {L : G5}
theorem Mj:run P 52 [.ptr hb 0] H=some (.ptr (H.length+1) 0,H++[⟨[],.map,0⟩]++[⟨[.ptr hb 0,.GJ H.length,.Gd],.rw,0⟩]):=by
 rw[Gh c52 _ _ sM]
 have:=@BF;have:=show∀b:Nat,cellsOf (CV.GJ b)=[CV.GJ b]from fun _=>rfl;exact Hz
theorem GbF(p:PH H hb s L)(k:s.Ok)(f:s.Fz)(lo:s.Lo){sp:Int}(hsp:0≤sp∧sp<8){o:Ob}{a:Int}(ho:s.obj a=some o)(hz:o.size≤32){mb tb k0:Nat}{ms:List (Int×Int)}(m:Mvr H mb hb tb k0 ms)(hk0:k0≤H.length)(hms:ms.length≤100000)
  (hd:mb∉L.all hb∧tb∉L.all hb∧mb<k0∧tb<k0∧∀c∈L.all hb,c<k0):
  ∃b H',run P 57 [.ptr mb 0,.i a,.i sp] H=some (.bool b,H')∧Keeps H H' (fun c=>c∈L.all hb∨c=mb∨c=tb∨k0≤c)∧PH H' hb (s.GdI sp a).1 L∧Mvr H' mb hb tb k0 (ms++match(s.GdI sp a).2 with|some b=>[(a,b)]|none=>[]):=by
 obtain⟨d1,d2,d3,d4,d5⟩:=hd
 obtain⟨v,r0,t0,ql,mt⟩:=m
 obtain⟨om,oa⟩:=Hp.Jf ho
 have ok0:=k.ob o om
 have hfi:=ok0.fits
 have hnb:=k.nb
 have hnw:s.nw=64*s.blk.length:=rfl
 have hmt:mb≠tb:=by
  rintro rfl
  obtain⟨l,h,-⟩:=mt
  rw[t0]at h;simp at h
 have hw:Gv o.refs.length o.data.length o.kd=(o.size:Int):=by
  unfold Gv;rw[if_pos ok0.valid];rfl
 obtain⟨X,h1,g1⟩:=Ng p k a oM
 have hsv:s.JI a=(GX o.refs.length o.data.length o.kd,0):=by unfold Hp.JI;rw[ho]
 rw[hsv]at h1
 obtain⟨X1,hX1⟩:∃X1:Gb,X1=X++[⟨GX o.refs.length o.data.length o.kd,.rw,0⟩]:=⟨_,rfl⟩
 have g2:Gr X X1:=by rw[hX1];exact Gr.app _ _
 have t1:X1[X.length]?=some ⟨GX o.refs.length o.data.length o.kd,.rw,0⟩:=by rw[hX1];simp
 have g12:Gr H X1:=g1.trans g2
 have F:=Hp.MZ (r:=o.refs.length) (d:=o.data.length) (kd:=o.kd) k f (by rw[hw];omega) hsp
 obtain⟨X2,h2,g3,p2⟩:=WK (p.gr g12) k f lo (r:=o.refs.length) (d:=o.data.length) (kd:=o.kd) (by rw[hw];omega) hsp
 have K2:Keeps H X2 (fun c=>c∈L.all hb∨c=mb∨c=tb∨k0≤c):=(g12.weaken fun _ h=>h.elim).trans (g3.weaken fun c h=>.inl h)
 have t0X:=g12.get t0
 have t02:X2[mb]?=_:=(g3.keep mb (Gf t0X) d1).trans t0X
 have Gaa:∀c,c<H.length→c∉L.all hb→X2[c]?=H[c]?:=fun c hc hn=>by
  rw[g3.keep c (J6 hc g12.len) hn,g12.keep c hc fun h=>h]
 have Ggc:∀Y:Gb,(∀c,k0≤c→c<H.length→Y[c]?=H[c]?)→QL k0 Y v ms:=fun Y h=>by
  rcases ql with q|⟨b,tl,e,q1,q2,q3⟩
  ·exact .inl q
  ·exact .inr ⟨b,tl,e,q1,by rw[h b (Gl.1 q1).1 (Gf q2),q2],q3⟩
 have Gp9:Mvr X2 mb hb tb k0 ms:=⟨v,r0,t02,Ggc X2 fun c hc hl=>Gaa c hl fun h=>by have:=d5 c h;omega,mt.frame (Gaa tb oM d2)⟩
 unfold Hp.GdI
 rw[ho]
 dsimp only
 have eta:∀x:Hp×Int×Bool,x=(x.1,x.2.1,x.2.2):=fun x=>rfl
 generalize s.first o.refs.length o.data.length o.kd sp=y at*
 obtain⟨y,ya,yb⟩:=y
 dsimp only at*
 unfold GX at h1 hX1 t1 h2
 cases yb with
 |false=>
  rw[if_neg sM]
  dsimp only
  rw[List.append_nil]
  refine⟨false,X2,?_,K2,p2,Gp9⟩
  rw[Gh c57 _ _ sM]
  refine W2 t0 h1 ?_
  rw[←hX1]
  exact V3 t0X t1 h2
 |true=>
  obtain⟨X3,h3,g4,p3⟩:=Gfj p2 F.ok a ya oM
  have K3:=K2.trans (g4.weaken (w':=fun c=>c∈L.all hb∨c=mb∨c=tb∨k0≤c) fun c h=>.inl h)
  have t03:X3[mb]?=_:=(g4.keep mb (Gf t02) d1).trans t02
  by_cases e:(y.move a ya).2=0
  ·rw[if_pos ⟨rfl,e⟩]
   dsimp only
   rw[e]at h3
   have GnO:∀c,c<H.length→c∉L.all hb→X3[c]?=H[c]?:=fun c hc hn=>by
    rw[g4.keep c (J6 hc K2.len) hn,Gaa c hc hn]
   obtain⟨X4,h4,g5,m4⟩:=(mt.frame (GnO tb oM d2)).put a ya
   have h4':=h4 X3 rfl
   have t04:X4[mb]?=_:=(g5.keep mb (Gf t03) hmt).trans t03
   have l4:H.length≤X4.length:=J2 K3.len g5.len
   obtain⟨v',X5,h5,q5,g6⟩:=(Ggc X4 fun c hc hl=>by rw[g5.keep c (J6 hl K3.len) oM,GnO c hl fun h=>by have:=d5 c h;omega]).push oM oM (a,ya)
   have t05:X5[mb]?=_:=(g6.keep mb (Gf t04) oM).trans t04
   obtain⟨X6,hX6⟩:∃X6:Gb,X6=X5.set mb ⟨[.ptr hb 0,.GJ tb,v'],.rw,0⟩:=⟨_,rfl⟩
   have K4:=K3.trans (g5.weaken (w':=fun c=>c∈L.all hb∨c=mb∨c=tb∨k0≤c) fun c h=>.inr (.inr (.inl h)))
   have K5:=K4.trans (g6.weaken (w':=fun c=>c∈L.all hb∨c=mb∨c=tb∨k0≤c) fun c h=>.inr (.inr (.inr h)))
   have K6:Keeps H X6 (fun c=>c∈L.all hb∨c=mb∨c=tb∨k0≤c):=by rw[hX6];exact K5.set (.inl (.inr (.inl rfl))) _
   have lf:leaf v'=true:=q5.leaf
   have p6:PH X6 hb (y.move a ya).1 L:=p3.frame fun c hc=>by
    have hc0:=d5 c hc
    have n1:c≠mb:=fun e=>d1 (e▸hc)
    rw[hX6,KV (Ne.symm n1),g6.keep c (by have:=p3.lt c hc;have:=g5.len;omega) oM,g5.keep c (p3.lt c hc) fun e=>d2 (e▸hc)]
   refine⟨true,X6,?_,K6,p6,v',_,by rw[hX6,Va (Gf t05)],?_,m4.frame (by rw[hX6,KV hmt,g6.keep tb oM oM])⟩
   ·rw[Gh c57 _ _ sM]
    refine W2 t0 h1 ?_
    rw[←hX1]
    refine W4 t0X t1 h2 t02 ?_
    have lfr:=@Vm
    simp(disch:=first|exact dz|fail) only[simprocAttr,Gs,↓reduceIte,Ub,h3,t03,@Vg,h4',t04,h5,t05,lf,@Vm,@Di,hX6]
   ·rcases q5 with q|⟨b,tl,e1,e2,e3,e4⟩
    ·exact .inl q
    ·exact .inr ⟨b,tl,e1,e2,by rw[hX6,KV fun e=>by have:=(Gl.1 e2).1;omega];exact e3,e4⟩
  ·rw[if_neg fun h=>e h.2]
   dsimp only
   rw[List.append_nil]
   rw[Hp.GiF e]at p3
   have e':((y.move a ya).2 != 0)=true:=by simpa using e
   refine⟨false,X3,?_,K3,p3,v,r0,t03,Ggc X3 fun c hc hl=>?_,mt.frame ?_⟩
   ·rw[Gh c57 _ _ sM]
    refine W2 t0 h1 ?_
    rw[←hX1]
    exact V6 t0X t1 h2 t02 h3 e'
   ·rw[g4.keep c (J6 hl K2.len) fun h=>by have:=d5 c h;omega,Gaa c hl fun h=>by have:=d5 c h;omega]
   ·rw[g4.keep tb (by have:=K2.len;omega) d2,Gaa tb oM d2]
end
end Go.Cs.Tryz
namespace Go.Cs.Tryz
open Go Go.Cs A
abbrev Gdp:Gn:=T [b 13 .lss 12 11] (S (J 13 (X 0)) (S (B 1 (T [x 14 1 10 12,l 15 1 14,m 7 15] (T [m 17 0,m 18 7,q2 19 31 17 18,m 16 19,ex 20 16 0,ex 21 16 1,m 8 20,m 9 21] (T [m 22 9,bk 23 .eql 22 0] (I 23 (R [m 24 5,m 25 8,e 26 (.buildSlice 1 [i 0] 1 [(0,1,t 25)]),ap 27 1 24 26,m 5 27])))))) (R [bk 28 .add 12 1,m 12 28])))
def C47:Gj:=⟨33,0,T [e 4 (.Km (c .Gd))] (T [e 5 (.Km (c .Gd))] (S (T [m 10 1,le 11 10,n 12 0] (B 0 (W Gdp))) (T [m 29 5,q1 30 136 29] (Q [m 31 5,q1 32 137 31,m 4 32])))),[r 4]⟩
theorem c47:P 47=some C47:=by kernel_rfl
def Gss:Gj:=⟨1,0,R [u (.Bp (t 0))],[]⟩
theorem Gsr:P 136=some Gss:=by kernel_rfl
abbrev MP:Gn:=S (T [m 29 5,m 30 4,le 31 30,b 32 .lss 29 31] (J 32 (X 2))) (S (B 3 (S (D [⟨m 35 4,0,0,0⟩,⟨m 36 5,1,0,0⟩,⟨x 37 1 35 36,2,0,0⟩,⟨l 38 1 37,3,1,0⟩,⟨m 39 4,4,0,0⟩,⟨m 40 5,5,0,0⟩,⟨bk 41 .sub 40 1,6,0,0⟩,⟨x 42 1 39 41,7,0,0⟩,⟨l 43 1 42,8,1,0⟩,⟨b 44 .neq 38 43,9,0,0⟩]) (I 44 (T [m 45 0,m 46 3,m 47 4,m 48 5,x 49 1 47 48,l 50 1 49,x 51 1 45 46,st 1 51 50] (R [m 52 3,bk 53 .add 52 1,m 3 53]))))) (R [m 33 5,bk 34 .add 33 1,m 5 34]))
abbrev Fq:Gn:=S (T [m 10 3,m 11 0,le 12 11,b 13 .lss 10 12] (J 13 (X 0))) (S (B 1 (S (D [⟨m 16 0,0,0,0⟩,⟨m 17 3,1,0,0⟩,⟨x 18 1 16 17,2,0,0⟩,⟨l 19 1 18,3,1,0⟩,⟨m 20 0,4,0,0⟩,⟨m 21 3,5,0,0⟩,⟨bk 22 .sub 21 1,6,0,0⟩,⟨x 23 1 20 22,7,0,0⟩,⟨l 24 1 23,8,1,0⟩,⟨b 25 .eql 19 24,9,0,0⟩]) (I 25 (T [m 26 0,m 27 3,e 28 (.slice 1 (t 26) (some (t 27)) none none),m 4 28] (S (T [n 5 1] (B 2 (W MP))) (T [m 54 0,m 55 3,e 56 (.slice 1 (t 54) (some (t 55)) none none),u (.clear [i 0] (t 56))] (Q [m 57 0,m 58 3,e 59 (.slice 1 (t 57) none (some (t 58)) none),m 2 59]))))))) (R [m 14 3,bk 15 .add 14 1,m 3 15]))
def Gwv:Gj:=⟨61,0,T [e 2 (.Km (c .Gd))] (S (T [m 6 0,le 7 6,bk 8 .lss 7 2] (I 8 (Q [m 9 0,m 2 9]))) (S (T [n 3 1] (B 0 (W Fq))) (Q [m 60 0,m 2 60]))),[r 2]⟩
theorem Grk:P 137=some Gwv:=by kernel_rfl
end Go.Cs.Tryz
namespace Go.Cs
open Go
theorem GcT{pre l:List Int}{i:Nat}(h:pre.length≤i):(pre++l.drop pre.length)[i]?=l[i]?:=by
 rw[lX8 h,Z7,Nat.add_sub_cancel' h]
theorem Gkx{pre l:List Int}{x:Int}(h:pre.length<l.length):(pre++l.drop pre.length).set pre.length x=(pre++[x])++l.drop (pre++[x]).length:=by
 rw[List.set_append_right _ _ (Nat.le_refl _),Nat.sub_self,drop_cons (Jr h),List.set_cons_zero,List.append_assoc,Qi]
 rfl
theorem GcK{l:List Int}(hs:l.Pairwise (·≤·)){i j:Nat}{x y:Int}(hij:i≤j)(hi:l[i]?=some x) (hj:l[j]?=some y):x≤y:=by
 rcases Nat.lt_or_eq_of_le hij with h|h
 ·exact Jg hs h hi hj
 ·subst h;rw[hi]at hj;cases hj;exact Int.le_refl _
theorem UL{l:List Int}{x:Int}{m:Nat}:x∈l.take m↔∃i,i<m∧l[i]?=some x:=by
 rw[List.mem_iff_getElem?]
 constructor
 ·rintro ⟨i,h⟩
  rw[Zx]at h
  split at h
  ·exact⟨i,by assumption,h⟩
  ·cases h
 ·rintro ⟨i,h1,h2⟩
  exact⟨i,by rw[Zx,if_pos h1,h2]⟩
theorem ints_at{l:List Int}{i:Nat}{x:Int}(h:l[i]?=some x):(ints l)[i]?=some (.i x):=by simp[ints,h]
section
variable {F : GQ} {E : Env} {H : Gb}
def Tt(x:CV)(H:Gb):Option (CV×Gb):=match x with
 |.Gd=>some (.Jj [],H)
 |.slice b o len _ e _=>if len=0 then some (.Jj [],H)else if e=1∧len≤J9 then(JD H b o len).bind fun cs=>(ZX cs).bind fun l=>(Nh H b o ((NC l).map .i)).map fun H'=>(.Jj [],H')else none
 |_=>none
theorem Ge_{x:Jy}:JY F (.Bp x) E H=Tt (E.ev x) H:=by
 simp only[JY,UZ,Tt]
 cases E.ev x<;>rfl
end
theorem Ib:∀l:List Int,ZX (ints l)=some l
 |[]=>rfl
 |x::l=>by
  have:=Ib l
  unfold ints at this⊢
  simp[ZX,this]
def UH(s:Hp)(ws:List Int):List Int:=ws.filterMap fun w=>if(s.findAt w).2=0 then some (s.findAt w).1 else none
theorem LH{s:Hp}{ws:List Int}{j:Nat}{w:Int}(h:ws[j]?=some w):UH s (ws.take (j+1))=UH s (ws.take j)++if(s.findAt w).2=0 then [(s.findAt w).1]else []:=by
 unfold UH
 rw[Nl,h,List.filterMap_append]
 congr 1
 simp only[Z4,List.filterMap_cons,List.filterMap_nil]
 split<;>rename_i h<;>split at h<;>grind
theorem PW{s:Hp}{ws:List Int}{x:Int}(h:x∈UH s ws):s.has x=true:=by
 unfold UH at h
 rw[List.mem_filterMap]at h
 obtain⟨w,-,h⟩:=h
 split at h
 ·rename_i c
  simp only[GA]at h
  subst h
  unfold Hp.findAt at c⊢
  split at c
  ·rename_i c2
   rw[if_pos c2]
   cases e:s.owner w.toNat with
   |none=>rw[e]at c;cases c
   |some o=>
    unfold Hp.has
    rw[List.any_eq_true]
    exact⟨o,List.mem_of_find?_eq_some e,sM⟩
  ·cases c
 ·cases h
theorem Rw(s:Hp)(ws:List Int):(UH s ws).length≤ws.length:=List.length_filterMap_le _ _
end Go.Cs
namespace Go.Cs.Tryz
open Go Go.Cs
section
def SN(k:Nat)(H:Gb)(v:CV)(l:List Int):Prop:=Ur H v l∧(l≠[]→k≤Gp v)
theorem SN.gr{k:Nat}{H H':Gb}{v:CV}{l:List Int}(h:SN k H v l)(g:Gr H H'):SN k H' v l:=⟨QA h.1 g,h.2⟩
theorem IL.sn{k:Nat}{H:Gb}{v:CV}{l:List Int}(h:IL k H v l):SN k H v l:=⟨h.sl,fun hl=>by
 obtain⟨tl,a1,a2,-⟩:=h.pos (Ld.2 hl)
 exact(Gl.1 a2).1⟩
variable {H : Gb}
theorem GmP{b k0:Nat}{tl:Bool}{l:List Int}(nd:l.Pairwise (·≤·))(hn:l.length≤100000)(hb:H[b]?=some ⟨ints l,.rw,1⟩) (h1:1≤k0) (h2:k0<l.length) (hs:Uc (l.take k0)) (he:l[k0]?=l[k0-1]?)
  {E0:Env} (e0:E0 0=.slice b 0 l.length l.length 1 tl) (e4:E0 4=.slice b k0 (l.length-k0) (l.length-k0) 1 tl) (e3:E0 3=.i k0) (e5:E0 5=.i 1) {r:Option (CX×Env×Gb)} (hr:den P (.loop MP) E0 H=r):
  ∃(E':Env)(H':Gb)(pre:List Int),r=some (.exit 2,E',H')∧Keeps H H' (·=b)∧E' 3=.i pre.length∧H'[b]?=some ⟨ints (pre++l.drop pre.length),.rw,1⟩∧Uc pre∧(∀x,x∈pre↔x∈l)∧pre.length<l.length∧∀t,t∉wr MP→E' t=E0 t:=by
 obtain⟨x',E',H',e,-,⟨rfl,g,pre,q1,q2,q3,q4,q5⟩,fr⟩:=Gq (p:=P) (c:=MP) (E0:=E0) (H0:=H)
  (fun q E H'=>Keeps H H' (·=b)∧∃(j:Nat)(pre:List Int),E 5=.i j∧1≤j∧k0+j≤l.length∧q=l.length-k0-j∧E 3=.i pre.length∧pre.length+1≤k0+j∧H'[b]?=some ⟨ints (pre++l.drop pre.length),.rw,1⟩∧Uc pre∧∀x,x∈pre↔x∈l.take (k0+j))
  (fun x E' H'=>x=.exit 2∧Keeps H H' (·=b)∧∃pre:List Int,E' 3=.i pre.length∧H'[b]?=some ⟨ints (pre++l.drop pre.length),.rw,1⟩∧Uc pre∧(∀x,x∈pre↔x∈l)∧pre.length<l.length) (by
   rintro q E H' hE ⟨g,j,pre,e5,hj1,hj,rfl,e3,hp,tb,sp,mp⟩
   have e0:=(hE 0 dK).trans e0
   have e4:=(hE 4 dK).trans e4
   have hbl:=Gf tb
   by_cases c:k0+j<l.length
   ·have c':decide ((j:Int)<((l.length-k0:Nat):Int))=true:=Gz oM
    obtain⟨x,hx⟩:∃x,l[k0+j]?=some x:=⟨_,Jr c⟩
    obtain⟨y,hy⟩:∃y,l[k0+j-1]?=some y:=⟨_,Jr oM⟩
    have w1:IntKind.i64.wrap ((j:Int)+1)=((j+1:Nat):Int):=Gg oM
    have w2:IntKind.i64.wrap ((j:Int)-1)=((j-1:Nat):Int):=by rw[Gg oM];omega
    have cx:=ints_at (by rw[GcT (pre:=pre) (l:=l) (i:=k0+j) oM];exact hx:(pre++l.drop pre.length)[k0+j]?=some x)
    have cy:=ints_at (by rw[GcT (pre:=pre) (l:=l) (i:=k0+(j-1)) oM,show k0+(j-1)=k0+j-1 by omega];exact hy:(pre++l.drop pre.length)[k0+(j-1)]?=some y)
    have i1:∀X,JM 1 (.slice b k0 (l.length-k0) (l.length-k0) 1 tl) (.i j) X=some (.ptr b (k0+j),X):=fun X=>by rw[Qd oM];simp
    have i1m:Qh 1 (.slice b k0 (l.length-k0) (l.length-k0) 1 tl) (.i j)=okV (.ptr b (k0+j)):=by rw[Nv oM];simp
    have i2m:Qh 1 (.slice b k0 (l.length-k0) (l.length-k0) 1 tl) (.i ((j-1:Nat):Int))=okV (.ptr b (k0+(j-1))):=by rw[Nv oM];simp
    have i3:∀X,JM 1 (.slice b 0 l.length l.length 1 tl) (.i pre.length) X=some (.ptr b pre.length,X):=fun X=>by rw[Qd oM];simp
    have hle:=GcK nd (i:=k0+j-1) (j:=k0+j) oM hy hx
    have mt:∀z,z∈l.take (k0+(j+1))↔z∈l.take (k0+j)∨z=x:=fun z=>by
     rw[←Nat.add_assoc,Nl,hx,K_];simp
    by_cases cxy:x=y
    ·have cn:(x != y)=false:=by rw[cxy];simp
     apply Gm (k':=l.length-k0-(j+1))
     ·simp(disch:=first|exact dz|fail) only[simprocAttr,Gs,↓reduceIte,e0,e3,e4,e5,c',i1m,i2m,tb,cx,cy,cn,w1,w2]
      rfl
     ·omega
     ·refine⟨g,j+1,pre,uA,oM,oM,rfl,by simp[Gc,e3],oM,tb,sp,fun z=>?_⟩
      rw[mt,mp]
      constructor
      ·exact .inl
      ·rintro (h|rfl)
       ·exact h
       ·exact UL.2 ⟨k0+j-1,oM,by rw[cxy];exact hy⟩
    ·have cn:(x != y)=true:=by simpa using cxy
     have w3:IntKind.i64.wrap ((pre.length:Int)+1)=((pre.length+1:Nat):Int):=Gg oM
     have hst:Hl H' b (some ⟨ints (pre++l.drop pre.length),.rw,1⟩) pre.length [.i x]=some (H'.set b ⟨ints ((pre++[x])++l.drop (pre++[x]).length),.rw,1⟩):=by
      rw[Vm rfl (by simp[ints];omega),←ints_set,Gkx oM]
     apply Gm (k':=l.length-k0-(j+1))
     ·simp(disch:=first|exact dz|fail) only[simprocAttr,Gs,↓reduceIte,e0,e3,e4,e5,c',i1,i3,i1m,i2m,tb,cx,cy,cn,w1,w2,w3,hst]
      rfl
     ·omega
     ·refine⟨g.set (.inl rfl) _,j+1,pre++[x],uA,oM,oM,rfl,uA,by simp;omega,by rw[Va hbl,Qi];rfl,?_,fun z=>?_⟩
      ·unfold Uc
       rw[List.pairwise_append]
       refine⟨sp,sM,fun u hu v hv=>?_⟩
       rw[Ad]at hv
       subst hv
       obtain⟨i,hi,hu⟩:=UL.1 ((mp u).1 hu)
       have:=GcK nd (i:=i) (j:=k0+j-1) oM hu hy
       omega
      ·rw[mt,K_,mp,Ad]
   ·have c':decide ((j:Int)<((l.length-k0:Nat):Int))=false:=Gw oM
    rw[Qe oM]at mp
    apply Gi (x:=.exit 2)
    ·simp(disch:=first|exact dz|fail) only[simprocAttr,Gs,↓reduceIte,e4,e5,c']
     rfl
    ·simp
    ·exact⟨rfl,g,pre,by simp[Gc,e3],tb,sp,mp,oM⟩) _ ⟨Keeps.refl _ _,1,l.take k0,e5,Nat.le_refl _,oM,rfl,by rw[e3,List.length_take,Nat.min_eq_left oM],by rw[List.length_take];omega,by
     rw[List.length_take,Nat.min_eq_left oM,List.take_append_drop];exact hb,hs,fun x=>by
     rw[Nl,he,K_]
     constructor
     ·exact .inl
     ·rintro (h|h)
      ·exact h
      ·exact UL.2 ⟨k0-1,oM,by simpa using h⟩⟩
 exact⟨E',H',pre,hr.symm.trans e,g,q1,q2,q3,q4,q5,fr⟩
theorem GmU{b:Nat}{tl:Bool}{l:List Int}(nd:l.Pairwise (·≤·))(hn:l.length≤100000)(h2:2≤l.length)(hb:H[b]?=some ⟨ints l,.rw,1⟩)
  {E0:Env} (e0:E0 0=.slice b 0 l.length l.length 1 tl) (e3:E0 3=.i 1) {r:Option (CX×Env×Gb)} (hr:den P (.loop Fq) E0 H=r):
  ∃(x:CX)(E':Env)(H':Gb),r=some (x,E',H')∧Keeps H H' (·=b)∧((x=.exit 0∧H'=H∧Uc l)∨∃pre z:List Int,x=.ret∧E' 2=.slice b 0 pre.length l.length 1 tl∧H'[b]?=some ⟨ints (pre++z),.rw,1⟩∧Uc pre∧(∀x,x∈pre↔x∈l))∧∀t,t∉wr Fq→E' t=E0 t:=by
 obtain⟨x',E',H',e,-,⟨g,q1⟩,fr⟩:=Gq (p:=P) (c:=Fq) (E0:=E0) (H0:=H)
  (fun q E H'=>H'=H∧∃k:Nat,E 3=.i k∧1≤k∧k≤l.length∧q=l.length-k∧Uc (l.take k))
  (fun x E' H'=>Keeps H H' (·=b)∧((x=.exit 0∧H'=H∧Uc l)∨∃pre z:List Int,x=.ret∧E' 2=.slice b 0 pre.length l.length 1 tl∧H'[b]?=some ⟨ints (pre++z),.rw,1⟩∧Uc pre∧(∀x,x∈pre↔x∈l))) (by
   rintro q E H' hE ⟨rfl,k,e3,hk1,hk,rfl,sk⟩
   have e0:=(hE 0 dK).trans e0
   by_cases c:k<l.length
   ·have c':decide ((k:Int)<(l.length:Int))=true:=Gz oM
    obtain⟨x,hx⟩:∃x,l[k]?=some x:=⟨_,Jr c⟩
    obtain⟨y,hy⟩:∃y,l[k-1]?=some y:=⟨_,Jr oM⟩
    have w1:IntKind.i64.wrap ((k:Int)+1)=((k+1:Nat):Int):=Gg oM
    have w2:IntKind.i64.wrap ((k:Int)-1)=((k-1:Nat):Int):=by rw[Gg oM];omega
    have cx:=ints_at hx
    have cy:=ints_at hy
    have i1m:Qh 1 (.slice b 0 l.length l.length 1 tl) (.i k)=okV (.ptr b k):=by rw[Nv oM];simp
    have i2m:Qh 1 (.slice b 0 l.length l.length 1 tl) (.i ((k-1:Nat):Int))=okV (.ptr b (k-1)):=by rw[Nv oM];simp
    have hle:=GcK nd (i:=k-1) (j:=k) oM hy hx
    by_cases cxy:x=y
    ·have cn:(x==y)=true:=by rw[cxy];simp
     have sl1:Ky 1 (.slice b 0 l.length l.length 1 tl) (some (.i k)) none none=some (.slice b k (l.length-k) (l.length-k) 1 tl):=by
      rw[DC oM];simp
     suffices fin:∃(E':Env)(X:Gb),den P Fq E H'=some (.ret,E',X)∧Keeps H' X (·=b)∧∃pre z:List Int,E' 2=.slice b 0 pre.length l.length 1 tl∧X[b]?=some ⟨ints (pre++z),.rw,1⟩∧Uc pre∧(∀x,x∈pre↔x∈l)by
      obtain⟨E',X,f1,f2,pre,z,f3,f4,f5,f6⟩:=fin
      exact Gi f1 sM ⟨f2,.inr ⟨pre,z,rfl,f3,f4,f5,f6⟩⟩
     simp(disch:=first|exact dz|fail) only[simprocAttr,Gs,↓reduceIte,e0,e3,c',i1m,i2m,hb,cx,cy,cn,w1,w2,sl1]
     generalize hr:den P (.loop MP) _ _=r
     obtain⟨E2,X,pre,rfl,g2,a3,tb,sp,mp,hp,f2⟩:=GmP (tl:=tl) nd hn hb hk1 c sk (by rw[hx,hy,cxy]) (by simp[Gc,e0]) uA (by simp[Gc,e3]) uA hr
     have b0:=f2 0 dK
     simp only[Gc,Nat.reduceEqDiff,↓reduceIte,e0]at b0
     have sl2:Ky 1 (.slice b 0 l.length l.length 1 tl) (some (.i pre.length)) none none=some (.slice b pre.length (l.length-pre.length) (l.length-pre.length) 1 tl):=by
      rw[DC oM];simp
     have sl3:Ky 1 (.slice b 0 l.length l.length 1 tl) none (some (.i pre.length)) none=some (.slice b 0 pre.length l.length 1 tl):=LZ oM
     have hcl:Sj [.i 0] (.slice b pre.length (l.length-pre.length) (l.length-pre.length) 1 tl) X=some (.Jj [],X.set b ⟨ints (pre++List.replicate (l.length-pre.length) 0),.rw,1⟩):=by
      rw[WU oM,tb]
      have hz:(List.replicate (l.length-pre.length) [CV.int .i64 0]).flatten=ints (List.replicate (l.length-pre.length) 0):=by
       induction l.length-pre.length with
       |zero=>rfl
       |succ n ih=>rw[List.replicate_succ,List.flatten_cons,ih,List.replicate_succ];rfl
      rw[hz,UD (by simp[ints]) (YB _),Option.map_some]
      congr 4
      unfold splice
      rw[U2,U2,List.take_append_of_le_length (by simp[ints]),Qe (by simp[ints]),Ge2 (by simp[ints]),List.append_nil]
     have n02:∀(E:Env) v,(E.upd 2 v) 2=v:=fun E v=>by simp[Gc]
     simp(disch:=first|exact dz|fail) only[simprocAttr,Gs,↓reduceIte,a3,b0,sl2,sl3,hcl]
     exact⟨_,_,rfl,g2.set (.inl rfl) _,pre,_,uA,by rw[Va (Gf tb)],sp,mp⟩
    ·have cn:(x==y)=false:=by simpa using cxy
     apply Gm (k':=l.length-(k+1))
     ·simp(disch:=first|exact dz|fail) only[simprocAttr,Gs,↓reduceIte,e0,e3,c',i1m,i2m,hb,cx,cy,cn,w1,w2]
      rfl
     ·omega
     ·refine⟨rfl,k+1,uA,oM,oM,rfl,?_⟩
      unfold Uc
      rw[Nl,hx,List.pairwise_append]
      refine⟨sk,sM,fun u hu v hv=>?_⟩
      simp only[Z4,Ad]at hv
      subst hv
      obtain⟨i,hi,hu⟩:=UL.1 hu
      have:=GcK nd (i:=i) (j:=k-1) oM hu hy
      omega
   ·have c':decide ((k:Int)<(l.length:Int))=false:=Gw oM
    rw[Qe oM]at sk
    apply Gi (x:=.exit 0)
    ·simp(disch:=first|exact dz|fail) only[simprocAttr,Gs,↓reduceIte,e0,e3,c']
     rfl
    ·simp
    ·exact⟨Keeps.refl _ _,.inl ⟨rfl,rfl,sk⟩⟩) _ ⟨rfl,1,e3,Nat.le_refl _,oM,rfl,by
     obtain⟨x,hx⟩:∃x,l[0]?=some x:=⟨_,Jr oM⟩
     rw[Nl,hx,List.take_zero]
     exact List.pairwise_singleton _ _⟩
 exact⟨x',E',H',hr.symm.trans e,g,q1,fr⟩
theorem Xj{k:Nat}{v:CV}{l:List Int}(h:IL k H v l)(hl:l.length≤100000):∃H',run P 136 [v] H=some (.Jj [],H')∧IL k H' v (NC l)∧Keeps H H' (fun c=>k≤c):=by
 have key:∀H',Tt v H=some (.Jj [],H')→run P 136 [v] H=some (.Jj [],H'):=fun H' h=>by
  rw[Gh Gsr _ _ sM]
  exact V2 @Ge_ h
 rcases h with⟨h1,h2,hv⟩|⟨b,tl,rfl,h1,h2,h3⟩
 ·have hl0:l=[]:=AV h1
  subst hl0
  refine⟨H,key H ?_,.inl ⟨rfl,rfl,hv⟩,Keeps.refl _ _⟩
  rcases hv with rfl|⟨b,f,rfl⟩<;>rfl
 ·by_cases h0:l.length=0
  ·have hl0:l=[]:=AV h0
   subst hl0
   exact⟨H,key H rfl,.inr ⟨b,tl,rfl,h1,h2,h3⟩,Keeps.refl _ _⟩
  ·have e1:(ints l).length=l.length:=by simp[ints]
   have lN:JD H b 0 l.length=some (ints l):=LW h2 oM (by rw[List.drop_zero,←e1,List.take_length])
   have sN:Nh H b 0 ((NC l).map .i)=some (H.set b ⟨ints (NC l),.rw,1⟩):=by
    show Nh H b 0 (ints (NC l))=_
    rw[YH,h2,UD (by simp[ints,Q5]) (YB _)]
    congr 3
    unfold splice
    simp[ints,Q5]
   refine⟨H.set b ⟨ints (NC l),.rw,1⟩,key _ ?_,.inr ⟨b,tl,by rw[Q5],h1,by rw[Va (Gf h2)],by simp[ints]⟩,Keeps.set (Keeps.refl _ _) (.inl (Gl.1 h1).1) _⟩
   unfold Tt
   dsimp only
   rw[if_neg h0,if_pos ⟨rfl,by unfold J9;omega⟩,lN,Option.bind_some,Ib,Option.bind_some,sN]
   rfl
theorem slices_Compact{k:Nat}{v:CV}{l:List Int}(h:IL k H v l)(nd:l.Pairwise (·≤·))(hl:l.length≤100000):∃v' H' pre,run P 137 [v] H=some (v',H')∧Keeps H H' (fun c=>k≤c)∧SN k H' v' pre∧Uc pre∧∀x,x∈pre↔x∈l:=by
 have hvl:=h.len H
 rw[Gh Grk _ _ sM]
 by_cases c:l.length<2
 ·have c':decide ((l.length:Int)<2)=true:=Gz oM
  refine⟨v,H,l,by exact V2 hvl c',Keeps.refl _ _,IL.sn h,?_,fun _=>Iff.rfl⟩
  match l,c with
  |[],_=>exact List.Pairwise.nil
  |[x],_=>exact List.pairwise_singleton _ _
 ·have c':decide ((l.length:Int)<2)=false:=Gw oM
  obtain⟨b,tl,e,q1,q2,q3⟩:∃b tl,v=.slice b 0 l.length l.length 1 tl∧Loc k b=some z3∧H[b]?=some ⟨ints l,.rw,1⟩∧(ints l).length=l.length*1:=by
   rcases h with⟨h1,-⟩|h
   ·omega
   ·exact h
  have hv:=IL.sn h
  subst e
  refine W2 hvl c' ?_
  generalize hr:den P (.loop Fq) _ _=r
  obtain⟨x,E',H',rfl,g,hc,f2⟩:=GmU (tl:=tl) nd hl oM q2 uA uA hr
  have b0:=f2 0 dK
  simp only[Gc,Nat.reduceEqDiff,↓reduceIte,DK]at b0
  have kb:=(Gl.1 q1).1
  rcases hc with⟨rfl,rfl,sl⟩|⟨pre,z,rfl,a2,tb,sp,mp⟩
  ·exact⟨_,H',l,by exact V1 b0,Keeps.refl _ _,hv,sl,fun _=>Iff.rfl⟩
  ·refine⟨.slice b 0 pre.length l.length 1 tl,H',pre,by exact V1 a2,g.weaken fun c h=>by rw[h];exact kb,⟨.inr ⟨b,0,l.length,tl,_,by simp[KP],tb,.inl rfl,fun i r hr=>?_⟩,fun _=>kb⟩,sp,mp⟩
   simp only[KP,Kr,GD]at hr
   obtain⟨x,hx,rfl⟩:=hr
   have hi:=Gf hx
   refine⟨?_,rfl⟩
   have:(ints (pre++z))[i]?=some (.i x):=ints_at (by rw[IJ hi];exact hx)
   dsimp only
   rw[Nat.zero_add,Nat.mul_one,drop_cons this];rfl
variable {hb : Nat} {s : Hp} {L : G5}
theorem Gmb(p:PH H hb s L)(k:s.Ok){vw:CV}{ws:List Int}(hw:Ur H vw ws)(hl:ws.length≤300){E0:Env}(h0:E0 0=.ptr hb 0)(h5:E0 5=.Gd)(h10:E0 10=vw)(h11:E0 11=.i ws.length)(h12:E0 12=.i 0){r:Option (CX×Env×Gb)}(hr:den P (.loop Gdp) E0 H=r):
  ∃(E':Env)(H':Gb)(w:CV),r=some (.exit 0,E',H')∧Gr H H'∧E' 5=w∧IL H.length H' w (UH s ws):=by
 obtain⟨x',E',H',e,-,⟨rfl,g,w,q1,q2⟩,fr⟩:=Gq (p:=P) (c:=Gdp) (E0:=E0) (H0:=H)
  (fun q E H'=>Gr H H'∧∃(j:Nat)(w:CV),E 12=.i j∧j≤ws.length∧q=ws.length-j∧E 5=w∧IL H.length H' w (UH s (ws.take j)))
  (fun x E' H'=>x=.exit 0∧Gr H H'∧∃w,E' 5=w∧IL H.length H' w (UH s ws)) (by
   rintro q E H' hE ⟨g,j,w,e12,hj,rfl,e5,il⟩
   have e0:=(hE 0 dK).trans h0
   have e10:=(hE 10 dK).trans h10
   have e11:=(hE 11 dK).trans h11
   by_cases c:j<ws.length
   ·have c':decide ((j:Int)<(ws.length:Int))=true:=Gz oM
    obtain⟨x,hx⟩:∃x,ws[j]?=some x:=⟨_,Jr c⟩
    obtain⟨b,o,i1,i2⟩:=Ur.at (QA hw g) hx
    have OI:=i1 H'
    have w1:IntKind.i64.wrap ((j:Int)+1)=((j+1:Nat):Int):=Gg oM
    obtain⟨X,d1,g1⟩:=PE (p.gr g) k x
    unfold UF at d1
    have ilX:=At.keeps il g1
    have hln:=Rw s (ws.take j)
    rw[List.length_take]at hln
    by_cases cf:(s.findAt x).2=0
    ·have cf':((s.findAt x).2==0)=true:=by rw[cf];rfl
     obtain⟨v2,X2,a1,a2,a3⟩:=IL.push ilX (by have:=(g.trans g1).len;omega) oM (s.findAt x).1
     apply Gm (k':=ws.length-(j+1))
     ·refine W12 e0 e5 e10 e11 e12 c' OI i2 d1 cf' a1 w1 ?_
      rfl
     ·omega
     ·exact⟨Gr.news (g.trans g1) a3,j+1,_,uA,oM,rfl,rfl,by rw[LH hx,if_pos cf];simpa[Gc]using a2⟩
    ·have cf':((s.findAt x).2==0)=false:=by simpa using cf
     apply Gm (k':=ws.length-(j+1))
     ·refine W10 e0 e10 e11 e12 c' OI i2 d1 cf' w1 ?_
      rfl
     ·omega
     ·exact⟨g.trans g1,j+1,_,uA,oM,rfl,rfl,by rw[LH hx,if_neg cf,List.append_nil];simpa[Gc,e5]using ilX⟩
   ·have c':decide ((j:Int)<(ws.length:Int))=false:=Gw oM
    rw[Qe oM]at il
    apply Gi (x:=.exit 0)
    ·refine W3 e11 e12 c' ?_
     rfl
    ·simp
    ·exact⟨rfl,g,w,by simp[Gc,e5],il⟩) _ ⟨Keeps.refl _ _,0,.Gd,h12,oM,rfl,h5,IL.nil⟩
 exact⟨E',H',w,hr.symm.trans e,g,q1,q2⟩
theorem Lg(p:PH H hb s L)(k:s.Ok){vw:CV}{ws:List Int}(hw:Ur H vw ws)(hl:ws.length≤300):
  ∃v H' l,run P 47 [.ptr hb 0,vw] H=some (v,H')∧Gr H H'∧SN H.length H' v l∧Uc l∧(∀x,x∈l↔x∈UH s ws)∧l.length≤4096:=by
 have hvl:=Ur.len hw H
 have hln:=Rw s ws
 rw[Gh c47 _ _ sM]
 refine W1 hvl ?_
 generalize hr:den P (.loop Gdp) _ _=r
 obtain⟨E',H1,w,rfl,g1,a5,il⟩:=Gmb p k hw hl uA uA uA uA uA hr
 obtain⟨H2,h2,il2,g2⟩:=Xj il oM
 obtain⟨v,H3,l,h3,g3,sn,sl,ml⟩:=slices_Compact il2 (QX _) (by rw[Q5];omega)
 have mm:∀x,x∈l↔x∈UH s ws:=fun x=>by rw[ml,M_]
 refine⟨v,H3,l,by exact V3 a5 h2 h3,Gr.news (Gr.news g1 g2) g3,sn,sl,mm,?_⟩
 exact k.IK sl fun x hx=>PW ((mm x).1 hx)
end
end Go.Cs.Tryz
namespace Go.Cs.Tryz
open Go Go.Cs A
def C10:Gj:=⟨17,0,T [e 4 (.Km (c .Gd)),n 5 0] (S (B 0 (T [m 7 0,q1 8 46 7,bk 9 .leq 8 0,m 6 9] (C 6 (Q [e 4 (.Km (c .Gd)),n 5 1]) (T [m 11 1,le 12 11,bk 13 .gtr 12 200,m 10 13] (I 10 (Q [e 4 (.Km (c .Gd)),n 5 3])))))) (Q [m 14 0,m 15 1,q2 16 47 14 15,m 4 16,n 5 0])),[r 4,r 5]⟩
theorem c10:P 10=some C10:=by kernel_rfl
def C19:Gj:=⟨22,0,T [e 6 (.Km (c .Gd)),n 7 0] (S (T [m 9 0,m 10 1,m 11 2,q3 12 48 9 10 11,m 8 12] (T [m 13 8,bk 14 .neq 13 0] (I 14 (Q [m 15 8,e 6 (.Km (c .Gd)),m 7 15])))) (Q [m 16 0,m 17 1,m 18 2,q3 19 50 16 17 18,q1 20 78 19,q1 21 77 20,m 6 21,n 7 0])),[r 6,r 7]⟩
theorem c19:P 19=some C19:=by kernel_rfl
def C48:Gj:=⟨25,0,T [n 6 0] (S (B 0 (T [m 8 0,q1 9 46 8,bk 10 .leq 9 0,m 11 10,gf 11 (m 12 1),gf 11 (q1 13 79 12),gf 11 (bk 14 .eql 13 0),or 15 11 14,m 7 15] (C 7 (Q [n 6 1]) (T [m 17 2,le 18 17,bk 19 .gtr 18 200,m 16 19] (C 16 (Q [n 6 3]) (T [m 21 0,m 22 1,q2 23 108 21 22,no 24 23,m 20 24] (I 20 (Q [n 6 5])))))))) (Q [n 6 0])),[r 6]⟩
theorem c48:P 48=some C48:=by kernel_rfl
def C50:Gj:=⟨21,0,T [e 6 (.Km (c .Uk))] (T [m 10 0,m 11 1,q1 12 142 11,m 13 0,m 14 2,q2 15 47 13 14,ap 16 1 12 15,q2 17 141 10 16,m 9 17,ex 18 9 0,ex 19 9 1,m 7 18,m 8 19] (Q [m 20 7,m 6 20])),[r 6]⟩
theorem c50:P 50=some C50:=by kernel_rfl
end Go.Cs.Tryz
namespace Go.Cs
open Go
def KpW(s:Hp)(R:Rt)(ws:List Int)(a:Int):Prop:=Kp s (fun a=>(a∈R.vals∧a≠0)∨a∈UH s ws) true a
theorem Ow{cs:List CV}:∀{l:List Int}{o:Nat},(∀(i:Nat)(r:List CV),(KP l)[i]?=some r→(cs.drop (o+i*1)).take 1=r∧r.length=1)→(cs.drop o).take l.length=ints l
 |[],o,_=>by simp[ints]
 |x::l,o,h=>by
  have h0:=(h 0 [.i x] (by simp[KP])).1
  have hx:=FT h0
  rw[Nat.zero_mul,Nat.add_zero]at hx
  rw[drop_cons hx,List.length_cons,List.take_succ_cons]
  have:=Ow (cs:=cs) (l:=l) (o:=o+1) fun i r hr=>by
   have:=h (i+1) r (by simpa[KP]using hr)
   rw[show o+(i+1)*1=o+1+i*1 by omega]at this
   exact this
  rw[this];rfl
theorem Ur.elems{H:Gb}{v:CV}{l:List Int}(h:Ur H v l):Go.Cs.elems H 1 v=some (l.length,ints l):=by
 rcases h with⟨h1,rfl|⟨b,o,c,t,rfl⟩⟩|⟨b,o,c,t,k,rfl,h1,h2,h3⟩
 ·have:l=[]:=by simpa[KP]using h1
  subst this;rfl
 ·have:l=[]:=by simpa[KP]using h1
  subst this;rfl
 ·have hl:(KP l).length=l.length:=by simp[KP]
  rw[hl]
  unfold Go.Cs.elems
  dsimp only
  by_cases c0:l.length=0
  ·rw[if_pos c0,AV c0];rfl
  ·rw[if_neg c0]
   have hc:=Ow h3
   have hle:o+l.length≤k.cells.length:=by
    have:=congrArg List.length hc
    simp[ints]at this
    omega
   have:JD H b o (l.length*1)=some (ints l):=by
    obtain⟨cs,m,z⟩:=k
    unfold JD
    rw[h1]
    rcases h2 with rfl|rfl<;>simp[hle,hc]
   rw[this];rfl
end Go.Cs
namespace Go.Cs.Tryz
open Go Go.Cs
section
variable {H : Gb} {hb : Nat} {s : Hp} {L : G5}
theorem GaH(p:PH H hb s L)(k:s.Ok){vw:CV}{ws:List Int}(hw:Ur H vw ws)(hl:ws.length≤200):
  ∃v H' l,run P 10 [.ptr hb 0,vw] H=some (.Jj [v,.i 0],H')∧Gr H H'∧SN H.length H' v l∧Uc l∧(∀x,x∈l↔x∈UH s ws)∧l.length≤4096:=by
 obtain⟨v,H',l,h1,h2⟩:=Lg p k hw oM
 have hvl:=Ur.len hw H
 have h3:=KY p k
 have hnb:=k.nb
 have c1:decide ((s.blk.length:Int)≤0)=false:=Gw oM
 have c2:decide ((ws.length:Int)>200)=false:=Gw oM
 refine⟨v,H',l,?_,h2⟩
 rw[Gh c10 _ _ sM]
 exact V5 h1 hvl h3 c1 c2
variable {o : Tags} {rb : Nat} {R : Rt} {v : Nat → CV}
theorem EB(p:PH H hb s L)(k:s.Ok)(m:JL o H rb R v)(kr:R.Ok)(hs:Iz s R){vw:CV}{ws:List Int}(hw:Ur H vw ws)(hl:ws.length≤200):∃H',run P 48 [.ptr hb 0,.ptr rb 0,vw] H=some (.i 0,H')∧Gr H H':=by
 have h1:=KY p k
 have h2:=Ac m kr
 have hns:=kr.ns
 have hnb:=k.nb
 have hvl:=Ur.len hw H
 have c1:decide ((s.blk.length:Int)≤0)=false:=Gw oM
 have c2:decide ((ws.length:Int)>200)=false:=Gw oM
 have c3:((R.slots.length:Int)==0)=false:=Iq.2 oM
 obtain⟨X,h3,g3⟩:=GhK p k m kr hs
 refine⟨X,?_,g3⟩
 rw[Gh c48 _ _ sM]
 exact V7 h1 h2 hvl c1 c2 c3 h3
theorem Mc(p:PH H hb s L)(k:s.Ok)(m:JL o H rb R v)(kr:R.Ok)(hs:Iz s R){vw:CV}{ws:List Int}(hw:Ur H vw ws)(hl:ws.length≤200):
  ∃mb H' ks,run P 50 [.ptr hb 0,.ptr rb 0,vw] H=some (.GJ mb,H')∧Gr H H'∧H.length≤mb∧Qb H' mb s ks∧∀x,x∈ks↔KpW s R ws x:=by
 obtain⟨w2,X2,h2,g2,li2⟩:=FH m kr
 have hvl:=kr.Uw
 have hll:=QB R.vis
 have hmem:∀a,a∈G_ R.vis↔a∈R.vals∧a≠0:=fun a=>by rw[VR,Rt.Dl]
 obtain⟨w3,X3,l3,h3,g3,sn3,s3,m3,n3⟩:=Lg (p.gr g2) k (QA hw g2) oM
 have he:=Ur.elems sn3.1
 obtain⟨w4,X4,h4,li4,g4⟩:=IL.cat (At.keeps li2 g3) (by have:=(g2.trans g3).len;omega) (l2:=l3) oM
 have Gmc:Gr H X4:=Gr.news (g2.trans g3) g4
 obtain⟨mb,X5,ks,t,h5,g5,hmb,m5,q1,q2,-⟩:=Tf (p.gr Gmc) k hs.1 hs.2.2.has (starts:=G_ R.vis++l3) (by rw[Qi];omega) (fun x hx=>by
  rcases K_.1 hx with hx|hx
  ·rcases hs.2.1 x ((hmem x).1 hx).1 with h|h
   ·omega
   ·have:=k.has_lt h;omega
  ·have:=k.has_lt (PW ((m3 x).1 hx));omega) li4.li (C:=False) (fun h=>h.elim)
 refine⟨mb,X5,ks,?_,Gmc.trans g5,J2 Gmc.len hmb,m5,fun x=>?_⟩
 ·rw[Gh c50 _ _ sM]
  exact V5 h2 h3 he h4 h5
 ·rw[q2]
  constructor
  ·refine fun h=>h.mono fun a ha=>?_
   rcases K_.1 ha with ha|ha
   ·exact .inl ((hmem a).1 ha)
   ·exact .inr ((m3 a).1 ha)
  ·refine fun h=>h.mono fun a ha=>?_
   rcases ha with ha|ha
   ·exact K_.2 (.inl ((hmem a).2 ha))
   ·exact K_.2 (.inr ((m3 a).2 ha))
theorem Gih(p:PH H hb s L)(k:s.Ok)(m:JL o H rb R v)(kr:R.Ok)(hs:Iz s R){vw:CV}{ws:List Int}(hw:Ur H vw ws)(hl:ws.length≤200):
  ∃w H' l,run P 19 [.ptr hb 0,.ptr rb 0,vw] H=some (.Jj [w,.i 0],H')∧Gr H H'∧IL H.length H' w l∧Uc l∧∀x,x∈l↔KpW s R ws x:=by
 obtain⟨X1,h1,g1⟩:=EB p k m kr hs hw hl
 obtain⟨mb,X2,ks,h2,g2,-,m2,q2⟩:=Mc (p.gr g1) k (m.gr g1) kr hs (QA hw g1) hl
 obtain⟨w4,X4,b,h4,h5,g4,li4⟩:=Xp k m2
 refine⟨w4,X4,NC ks,?_,(g1.trans g2).trans g4,li4.frame (fun c h=>Gl.2 ⟨by have:=(Gl.1 h).1;have:=(g1.trans g2).len;omega,(Gl.1 h).2⟩) fun c h=>rfl,Gay m2.m.nodup,fun x=>by rw[M_,q2]⟩
 rw[Gh c19 _ _ sM]
 exact V4 h1 h2 h4 h5
end
end Go.Cs.Tryz
namespace Go.Cs
open Go
theorem Gcq(f:List CV→Nat)(es:List CV):∃N,∀l,l.Perm es→f l≤N:=by
 obtain⟨n,hn⟩:=Ot (p:=fun n l=>l.Perm es→f l≤n) (fun n m l h1 h2 h3=>J2 (h2 h3) h1) (orders es) (fun l _=>⟨f l,fun _=>Nat.le_refl _⟩)
 exact⟨n,fun l hl=>hn l (BM es l hl) hl⟩
theorem Giw{l:List Nat}{E:Env}{t:Nat}(h:l.contains t=true):Bg l E t=E t:=by unfold Bg;rw[if_pos h]
section
variable {p : J5} {q : RM} {b : Gn} {E E' : Env} {H T : Gb} {mb : Nat} {es : List CV} {x : CX}
theorem Gb0(hm:mapOf H (E.ev q.m)=some (mb,es))(hT:T.length=H.length)
  (h:∀l,l.Perm es→∃z,JF (den p b) (den p .skip) q mb es E H l=some z∧z.1=x∧Bg q.live z.2.1=E'∧z.2.2.take H.length=T):
  ∃k,den p (.Qv q b .skip) E H=some (x,E',T++List.replicate k ⟨[],.dead,0⟩):=by
 obtain⟨N,hN⟩:=Gcq (fun l=>match JF (den p b) (den p .skip) q mb es E H l with|some z=>z.2.2.length|none=>0) es
 rw[UE]
 dsimp only
 obtain⟨y,h1,h2⟩:=WG (Rb:=den p b) (Rr:=den p .skip) (q:=q) (E:=E) (r:=(x,E',T++List.replicate N ⟨[],.dead,0⟩)) hm (fun l hl=>by
  obtain⟨z,a1,a2,a3,a4⟩:=h l hl
  have a5:=hN l hl
  rw[a1]at a5
  refine⟨z,a1,a2.symm,a3.symm,?_,?_⟩
  ·simp only[Qi,List.length_replicate]
   dsimp only at a5
   omega
  ·dsimp only
   rw[a4,Qi,List.length_replicate,hT,Nat.add_sub_cancel_left])
 obtain⟨z,a1,a2,a3,a4⟩:=h es (List.Perm.refl _)
 obtain⟨z',b1,b2,b3,b4,b5⟩:=h2 es (List.Perm.refl _)
 rw[a1]at b1
 cases b1
 refine⟨y.2.2.length-H.length,h1.trans ?_⟩
 rw[←a2,←a3,←a4,←b2,←b3,←b5]
theorem D8{R:Env→Gb→Option (CX×Env×Gb)}{it:Nat}(I:List CV→Env→Gb→Prop)(l0:List CV)
  (step:∀done e rest E H,done++e::rest=l0→I done E H→∃E' H',R (q.beg e E) H=some (.normal,E',H')∧H'[mb]?=some ⟨[.agg es],.map,0⟩∧E' q.it=.ptr it 0∧I (done++[e]) E' H'):
  ∀(l done:List CV)(E:Env)(H:Gb),done++l=l0→I done E H→∃E' H',Kb R q mb es it l E H=some (.normal,q.fin E',H')∧I l0 E' H'
 |[],done,E,H,h,hi=>⟨E,H,rfl,by rw[←h,List.append_nil];exact hi⟩
 |e::l,done,E,H,h,hi=>by
  obtain⟨E1,H1,a1,a2,a3,a4⟩:=step done e l E H h hi
  obtain⟨E2,H2,b1,b2⟩:=D8 I l0 step l (done++[e]) E1 H1 (by simpa using h) a4
  refine⟨E2,H2,?_,b2⟩
  unfold Kb
  rw[a1,Option.bind_some,if_pos ⟨a2,a3⟩]
  exact b1
theorem GeH(hm:mapOf H (E.ev q.m)=some (mb,es))(hT:T.length=H.length)(hb:Im b=true)
  (hl:(q.live.all fun t=>t != q.it&&t != q.nx&&t != q.more&&t != q.pair&&!(wr b).contains t)=true)(hit:(!(wr b).contains q.it&&q.it != q.nx&&q.it != q.more&&q.it != q.pair)=true)
  (he:∀e∈es,∃k v,e=.Jj [k,v])
  (h:∀l,l.Perm es→∃I:List CV→Gb→Prop,I [] (H.set mb ⟨[.agg es],.map,0⟩++[⟨[],.dead,0⟩])∧
   (∀done e rest Eb H1,done++e::rest=l→(∀t,t≠q.it→t≠q.nx→t≠q.more→t≠q.pair→t∉wr b→Eb t=E t)→Eb q.pair=e→I done H1→
    ∃E2 H2,den p b Eb H1=some (.normal,E2,H2)∧H2[mb]?=some ⟨[.agg es],.map,0⟩∧I (done++[e]) H2)∧
   ∀H1,I l H1→(H1.set mb ⟨es,.map,0⟩).take H.length=T):
  ∃k,den p (.Qv q b .skip) E H=some (.normal,Bg q.live E,T++List.replicate k ⟨[],.dead,0⟩):=by
 refine Gb0 hm hT fun l hp=>?_
 obtain⟨I,h1,h2,h3⟩:=h l hp
 simp only[List.all_eq_true,NH,bne_iff_ne,ne_eq,Bool.not_eq_true',List.contains_eq_mem,decide_eq_false_iff_not]at hl hit
 obtain⟨⟨⟨i1,i2⟩,i3⟩,i4⟩:=hit
 obtain⟨E2,H2,a1,⟨a2,a3⟩,a4⟩:=D8 (R:=den p b) (q:=q) (mb:=mb) (es:=es) (it:=H.length) (fun done E1 H1=>((∀t,t≠q.it→t≠q.nx→t≠q.more→t≠q.pair→t∉wr b→E1 t=E t)∧E1 q.it=.ptr H.length 0)∧I done H1) l
  (fun done e rest E1 H1 hd ⟨⟨e1,e2⟩,hi⟩=>by
   obtain⟨k,v,rfl⟩:=he e (hp.mem_iff.1 (by rw[←hd];simp))
   obtain⟨E2,H2,b1,b2,b3⟩:=h2 done _ rest (q.beg (.Jj [k,v]) E1) H1 hd (fun t t1 t2 t3 t4 t5=>by
    simp only[RM.beg,Env.upd,if_neg t2,if_neg t3,if_neg t4]
    exact e1 t t1 t2 t3 t4 t5) (by simp[RM.beg,Env.upd]) hi
   refine⟨E2,H2,b1,b2,?_,⟨fun t t1 t2 t3 t4 t5=>?_,?_⟩,b3⟩
   ·rw[SS b1 hb i1]
    simp only[RM.beg,Env.upd,if_neg i2,if_neg i3,if_neg i4]
    exact e2
   ·rw[SS b1 hb t5]
    simp only[RM.beg,Env.upd,if_neg t2,if_neg t3,if_neg t4]
    exact e1 t t1 t2 t3 t4 t5
   ·rw[SS b1 hb i1]
    simp only[RM.beg,Env.upd,if_neg i2,if_neg i3,if_neg i4]
    exact e2) l [] (E.upd q.it (.ptr H.length 0)) _ rfl ⟨⟨fun t t1 _ _ _ _=>by simp[Env.upd,t1],by simp[Env.upd]⟩,h1⟩
 refine⟨(.normal,q.fin E2,H2.set mb ⟨es,.map,0⟩),?_,rfl,?_,h3 H2 a4⟩
 ·unfold JF
  rw[a1,Option.bind_some]
  unfold Np
  simp only[CX.inBlock]
  rw[UE]
 ·funext t
  unfold Bg
  by_cases ht:q.live.contains t=true
  ·rw[if_pos ht,if_pos ht]
   obtain⟨⟨⟨⟨l1,l2⟩,l3⟩,l4⟩,l5⟩:=hl t (by simpa using ht)
   simp only[RM.fin,Env.upd,if_neg l2,if_neg l3]
   exact a2 t l1 l2 l3 l4 l5
  ·rw[if_neg ht,if_neg ht]
end
end Go.Cs
namespace Go.Cs.Tryz
open Go Go.Cs A
abbrev BH:RM:=⟨(.tmp 12),13,14,15,16,0,[0,1,2,3,4,5,6,8,9,10,11,12,26,27,28,29]⟩
abbrev Fx:Gn:=.block 1 (.seq (.region [⟨some 17,none,.extract (.tmp 16) 0⟩,⟨some 7,none,.Km (.tmp 17)⟩])
 (.seq (.region [⟨some 18,none,.Km (.tmp 0)⟩,⟨some 19,none,.Km (.tmp 7)⟩,⟨some 20,none,.Km (.tmp 5)⟩,⟨some 21,none,.call 139 [(.tmp 18),(.tmp 19),(.tmp 20)]⟩])
 (
  .cond (.tmp 21)
  (.region [⟨some 22,none,.field 7 (.tmp 6)⟩,⟨some 23,none,.load false 1 (.tmp 22)⟩,⟨some 24,none,.bin .add (.tmp 23) (.const (.int .i64 1))⟩,⟨some 25,none,.field 7 (.tmp 6)⟩,⟨none,none,.store 1 (.tmp 25) (.tmp 24)⟩])
  .skip)))
def C49:Gj:=⟨30,0,T [bo 3 1,e 4 (.new [i 0,i 0,i 0,i 0,i 0,i 0,i 0,i 0])] (T [e 8 (.Ug 138 [t 3]),m 5 8] (T [l 9 1 3,e 10 (.Ya (t 9)),e 11 (.build [i 0,i 0,i 0,i 0,i 0,i 0,i 0,i 0] [(6,1,t 10)]),e 6 (.new [i 0,i 0,i 0,i 0,i 0,i 0,i 0,i 0]),st 8 6 11] (S (T [l 12 1 3] (.Qv BH Fx .skip)) (T [m 26 0,m 27 5,q3 28 140 26 27 6] (Q [lg 29 8 6,st 8 4 29]))))),[.cell 4 true 8]⟩
theorem c49:P 49=some C49:=by kernel_rfl
def Gsh:Gj:=⟨7,0,T [nb 3 false] (Q [l 4 1 1,m 5 0,e 6 (.Vn false .i64 (.bool false) (t 4) (t 5)),m 3 6]),[r 3]⟩
theorem c138:P 138=some Gsh:=by kernel_rfl
def Gug:Gj:=⟨12,0,T [nb 6 false] (Q [m 7 0,m 8 1,m 9 2,q3 10 222 7 8 9,bk 11 .gtr 10 0,m 6 11]),[r 6]⟩
theorem c139:P 139=some Gug:=by kernel_rfl
end Go.Cs.Tryz
namespace Go.Cs
open Go
theorem Gj2{H:Gb}{b:Nat}{l:List (Int×CV)}(h:H[b]?=some ⟨[.agg (JH l)],.map,0⟩) {f:Int→Option CV} (hn:(l.map (·.1)).Nodup) (hf:∀k v,(k,v)∈l↔f k=some v) (ok:Bool) (z:CV) (n:Int):NV ok .i64 z (.GJ b) (.i n) H=some (GiX ok z (f n),H):=by
 have h0:entriesOf H (.GJ b)=some (JH l):=by
  unfold entriesOf
  dsimp only
  rw[h]
  rfl
 unfold NV Qm
 dsimp only
 rw[if_pos rfl,h0,Option.bind_some]
 cases e:f n with
 |some v=>
  obtain⟨j,q1,q2⟩:=YP (i:=0) hn ((hf n v).2 e)
  rw[q2];rfl
 |none=>
  rw[YX (i:=0) fun v hv=>by rw[(hf n v).1 hv]at e;cases e];rfl
def keyOf:CV→Int
 |.Jj [.int _ n,_]=>n
 |_=>0
theorem YN(l:List (Int×CV)):(JH l).map keyOf=l.map (·.1):=by
 unfold JH
 rw[List.map_map];rfl
noncomputable def YW(s:Hp)(K:Int→Bool)(l:List Int):Nat:=l.countP fun a=>decide (0<VH s K a)
theorem Hp.GjR{s:Hp}{g:Ob→Ob}(t:∀x∈s.objs,NK g x)(hp:∀x,(g x).pin=x.pin):(s.mp g).pins=s.pins:=by
 funext i
 exact YM fun x hx=>by
  show((g x).addr==2*i&&(g x).pin)=_
  rw[(t x hx).addr,hp]
theorem Gjt(K D:Int→Bool)(o:Ob):(YD K D o).pin=o.pin:=by
 unfold YD TF
 split
 ·split<;>rfl
 ·rfl
theorem Gh_(s:Hp)(K D:Int→Bool)(h:∀x,D x=false):s.mp (YD K D)=s:=by
 unfold Hp.mp
 rw[List.map_congr_left (g:=id) fun x _=>by unfold YD;rw[h];rfl,List.map_id]
def GlW(s:Hp):List CV:=(List.range s.nw).map fun w=>CV.i (s.word w)
theorem PH.mp{H H':Gb}{hb:Nat}{s:Hp}{L:G5}(p:PH H hb s L){g:Ob→Ob}(t:∀x∈s.objs,NK g x)(hp:∀x,(g x).pin=x.pin)(hw:H'[L.wb]?=some ⟨GlW (s.mp g),.rw,1⟩) (hk:∀c∈L.all hb,c≠L.wb→H'[c]?=H[c]?):PH H' hb (s.mp g) L:=
 p.wrote rfl rfl rfl (Hp.RH t) (Hp.GjR t hp) (Hp.GgW t) hw hk
end Go.Cs
namespace Go.Cs.Tryz
open Go Go.Cs
section
variable {H : Gb} {hb : Nat} {s : Hp} {L : G5}
theorem Gan(k:s.Ok)(lo:s.Lo)(p:PH H hb s L){a:Int}(hh:s.has a=true){f:Nat}{cs:List CV}{K:Int→Bool}(hf:∀X,Gr H X→∀x:Int,run P f (.i x::cs) X=some (.bool (K x),X))(hrb:f<1000000):
  ∃H',run P 139 [.ptr hb 0,.i a,.func f cs] H=some (.bool (decide (0<VH s K a)),H')∧Keeps H H' (·=L.wb)∧PH H' hb (GeU s K a) L:=by
 obtain⟨H',h1,h2,h3⟩:=Ov k lo p hh hf hrb
 have c':decide (((VH s K a:Nat):Int)>0)=decide (0<VH s K a):=by rw[Bool.eq_iff_iff];simp
 refine⟨H',?_,h2,h3⟩
 rw[Gh c139 _ _ sM]
 exact V2 h1 c'
theorem GbR(p:PH H hb s L)(k:s.Ok){ob:Nat}(Yi:ob∉L.all hb){r0 r1 f0 fw r4 r5 r6 r7:Int}(tO:H[ob]?=some ⟨rep r0 r1 f0 fw r4 r5 r6 r7,.rw,0⟩) (hf0:0≤f0∧f0≤100000) (hfw:0≤fw∧fw≤100000)
  {fn:Nat} {cs:List CV} {K:Int→Bool} (hf:∀X,Keeps H X (fun c=>c∈L.all hb∨c=ob)→∀x:Int,run P fn (.i x::cs) X=some (.bool (K x),X)) (hrb:fn<1000000):
  ∃H',run P 140 [.ptr hb 0,.func fn cs,.ptr ob 0] H=some (.Jj [],H')∧Keeps H H' (fun c=>c∈L.all hb∨c=ob)∧PH H' hb (QF s K s.objs.length) L∧
   H'[ob]?=some ⟨rep r0 r1 (f0+(KS s K s.objs.length).length) (fw+sizes (KS s K s.objs.length)) r4 r5 r6 r7,.rw,0⟩:=by
 obtain⟨v,X,h1,g1,li⟩:=U3 p k
 have hlen:=li.len X
 have hal:s.all.length=s.objs.length:=by simp[Hp.all]
 rw[hal]at hlen
 have lob:=Gf tO
 rw[Gh Gv8 _ _ sM]
 refine W2 h1 hlen ?_
 generalize hr:den P (.loop Ti) _ _=r
 have kX:∀Y,Keeps X Y (fun c=>c∈L.all hb∨c=ob)→Keeps H Y (fun c=>c∈L.all hb∨c=ob):=fun Y g=>(g1.weaken fun _ h=>h.elim).trans g
 obtain⟨E',H',rfl,g,pp,tt⟩:=Gnr (p.gr g1) k Yi (g1.get tO) hf0 hfw (fun Y g x=>hf Y (kX Y g) x) hrb (v9:=v) (fun Y g j o ho=>by
  obtain⟨b,q,a1,-,a3⟩:=IL.ats li (w:=fun c=>c∈L.all hb∨c=ob) (fun c h=>by
   rcases h with h|h
   ·exact p.lt c h
   ·rw[h];exact lob) g (j:=j) (x:=o.addr) (by unfold Hp.all;rw[Kr,ho];rfl)
  exact⟨b,q,a1,a3⟩) uA uA uA uA uA uA hr
 exact⟨H',by exact W0,kX _ g,pp,tt⟩
theorem Gaf{b3 mb:Nat}{ks:List Int}(t3:H[b3]?=some ⟨[.GJ mb],.rw,0⟩) (hg:∀n:Int,NV false .i64 (.bool false) (.GJ mb) (.i n) H=some (.bool (decide (n∈ks)),H)) (x:Int):
  run P 138 [.i x,.ptr b3 0] H=some (.bool (decide (x∈ks)),H):=by
 have h:=hg x
 rw[Gh c138 _ _ sM]
 exact V3 t3 h @Nk
theorem Rh(k:s.Ok)(lo:s.Lo)(p:PH H hb s L){mb:Nat}{ks:List Int}(m:Qb H mb s ks)(hmb:mb∉L.all hb):
  ∃H',run P 49 [.ptr hb 0,.GJ mb] H=some (.agg (rep 0 0 (s.objs.filter fun o=>!decide ((o.addr:Int)∈ks)).length (sizes (s.objs.filter fun o=>!decide ((o.addr:Int)∈ks))) 0 0 ks.length (YW s (fun x=>decide (x∈ks)) ks)),H')∧Keeps H H' (·∈L.all hb)∧PH H' hb (s.GL fun x=>decide (x∈ks)) L:=by
 have few:=k.few
 have Gd3:=m.few k
 obtain⟨K,hK⟩:∃K:Int→Bool,K=fun x=>decide (x∈ks):=⟨_,rfl⟩
 rw[←hK]
 obtain⟨l,tm,het,hlk,hnd,hlf⟩:=m.m.entries
 obtain⟨es,hes⟩:∃es,es=JH l:=⟨_,rfl⟩
 have hm1:=m.m.len
 obtain⟨X,hX⟩:∃X:Gb,X=H++[⟨[.GJ mb],.rw,0⟩]++[⟨rep 0 0 0 0 0 0 0 0,.rw,0⟩]++[⟨rep 0 0 0 0 0 0 ks.length 0,.rw,0⟩]:=⟨_,rfl⟩
 have gX:Gr H X:=by rw[hX];exact((Gr.app _ _).app' _).app' _
 have lX:X.length=H.length+3:=by rw[hX];simp
 have tb3:X[H.length]?=some ⟨[.GJ mb],.rw,0⟩:=by rw[hX];simp
 have tob:X[H.length+2]?=some ⟨rep 0 0 0 0 0 0 ks.length 0,.rw,0⟩:=by rw[hX];simp
 have trs:X[H.length+1]?=some ⟨rep 0 0 0 0 0 0 0 0,.rw,0⟩:=by rw[hX];simp
 have pX:=p.gr gX
 have tmX:=gX.get tm
 have lt:=p.lt
 have Gos:=Gf tm
 have GlY:H.length+2∉L.all hb:=fun h=>by have:=lt _ h;omega
 have hwb:L.wb∈L.all hb:=by simp[G5.all]
 have hwl:=lt _ hwb
 have hmw:mb≠L.wb:=fun e=>hmb (e▸hwb)
 obtain⟨cn,hcn⟩:∃cn,cn=YW s K ks:=⟨_,rfl⟩
 obtain⟨T,hT⟩:∃T:Gb,T=(X.set L.wb ⟨GlW (s.mp (YD K K)),.rw,1⟩).set (H.length+2) ⟨rep 0 0 0 0 0 0 ks.length cn,.rw,0⟩:=⟨_,rfl⟩
 have lT:T.length=X.length:=by rw[hT];simp
 have Tw:T[L.wb]?=some ⟨GlW (s.mp (YD K K)),.rw,1⟩:=by
  rw[hT,KV oM,Va oM]
 have To:T[H.length+2]?=some ⟨rep 0 0 0 0 0 0 ks.length cn,.rw,0⟩:=by
  rw[hT,Va (by rw[List.length_set];omega)]
 have Tk:∀c,c≠L.wb→c≠H.length+2→T[c]?=X[c]?:=fun c h1 h2=>by
  rw[hT,KV (Ne.symm h2),KV (Ne.symm h1)]
 have pT:PH T hb (s.mp (YD K K)) L:=pX.mp (fun x _=>NT K K x) (Gjt K K) Tw fun c hc hn=>Tk c hn fun e=>GlY (e▸hc)
 have mo:mapOf X (.GJ mb)=some (mb,es):=by
  unfold mapOf
  dsimp only
  rw[tmX]
  show(if VP (JH l)=true then none else some (mb,JH l))=_
  rw[(Vh l).2,hes]
  rfl
 have gets:∀(Y:Gb),(Y[mb]?=some ⟨[.agg es],.map,0⟩∨Y[mb]?=some ⟨es,.map,0⟩)→∀n:Int,NV false .i64 (.bool false) (.GJ mb) (.i n) Y=some (.bool (decide (n∈ks)),Y):=fun Y h n=>by
  have e:GiX false (.bool false) (if n∈ks then some (.bool true)else none)=.bool (decide (n∈ks)):=by
   by_cases c:n∈ks
   ·rw[if_pos c,Gz c];rfl
   ·rw[if_neg c,Gw c];rfl
  rcases h with h|h
  ·rw[hes]at h
   rw[Gj2 h (by rw[hlk];exact hnd) hlf,e]
  ·exact(m.frame (by rw[h,tm,hes])).get n
 have rng:∀(E:Env) r,den P (.Qv BH Fx .skip) E X=r→E 0=.ptr hb 0→E 4=.ptr (H.length+1) 0→E 5=.func 138 [.ptr H.length 0]→E 6=.ptr (H.length+2) 0→E 12=.GJ mb→∃z E2,r=some (.normal,E2,T++List.replicate z ⟨[],.dead,0⟩)∧E2 0=.ptr hb 0∧E2 4=.ptr (H.length+1) 0∧E2 5=.func 138 [.ptr H.length 0]∧E2 6=.ptr (H.length+2) 0:=fun E r hr e0 e4 e5 e6 e12=>by
  suffices h:∃z,den P (.Qv BH Fx .skip) E X=some (.normal,Bg BH.live E,T++List.replicate z ⟨[],.dead,0⟩)by
   obtain⟨z,h⟩:=h
   have at_:∀t,BH.live.contains t=true→Bg BH.live E t=E t:=fun t h=>Giw h
   exact⟨z,_,hr.symm.trans h,by rw[at_ 0 dE];exact e0,by rw[at_ 4 dE];exact e4,by rw[at_ 5 dE];exact e5,by rw[at_ 6 dE];exact e6⟩
  refine GeH (T:=T) (mb:=mb) (es:=es) (by rw[EX];rw[e12];exact mo) lT dK dK dK (fun e he=>?_) fun lo' hp=>⟨fun done H1=>Keeps X H1 (fun c=>c=L.wb∨c=H.length+2∨c=mb)∧PH H1 hb (s.mp (YD K fun x=>decide (x∈done.map keyOf))) L∧H1[H.length+2]?=some ⟨rep 0 0 0 0 0 0 ks.length (YW s K (done.map keyOf)),.rw,0⟩∧H1[mb]?=some ⟨[.agg es],.map,0⟩,?_,?_,?_⟩
  ·rw[hes]at he
   obtain⟨x,-,rfl⟩:=KI.1 he
   exact⟨_,_,rfl⟩
  ·have g1:Keeps X (X.set mb ⟨[.agg es],.map,0⟩++[⟨[],.dead,0⟩]) (fun c=>c=mb):=(Keeps.set (w:=fun c=>c=mb) (Keeps.refl _ _) (.inl rfl) _).app' _
   refine⟨g1.weaken fun c h=>.inr (.inr h),?_,?_,?_⟩
   ·rw[Gh_ s K (fun x=>decide (x∈List.map keyOf [])) fun x=>Gw sM]
    exact pX.frame fun c hc=>g1.keep c (pX.lt c hc) fun e=>hmb (e▸hc)
   ·rw[g1.keep _ oM oM]
    exact tob
   ·rw[IJ (by rw[List.length_set];omega),Va oM]
  ·rintro done e rest Eb H1 hd hE Gdk ⟨g,pj,to,tf⟩
   have he:e∈es:=hp.mem_iff.1 (by rw[←hd];simp)
   obtain⟨a,va,rfl,ha⟩:∃a va,e=.Jj [.i a,va]∧a∈ks:=by
    rw[hes]at he
    obtain⟨x,hx,rfl⟩:=KI.1 he
    exact⟨x.1,x.2,rfl,by rw[←hlk];exact KI.2 ⟨x,hx,rfl⟩⟩
   have hnot:a∉done.map keyOf:=by
    have h1:((done++CV.Jj [.i a,va]::rest).map keyOf).Nodup:=by
     rw[hd]
     have h2:=(hp.map keyOf)
     rw[hes,YN,hlk]at h2
     exact h2.nodup_iff.2 hnd
    rw[Ij,List.map_cons,List.nodup_append]at h1
    intro hc
    exact h1.2.2 a hc a (by simp[keyOf]) rfl
   have b0:=(hE 0 dE dE dE dE dK).trans e0
   have b5:=(hE 5 dE dE dE dE dK).trans e5
   have b6:=(hE 6 dE dE dE dE dK).trans e6
   have t3:H1[H.length]?=some ⟨[.GJ mb],.rw,0⟩:=by rw[g.keep _ oM oM];exact tb3
   have hha:s.has a=true:=m.has a ha
   have okj:=k.mp fun x _=>NT K (fun x=>decide (x∈done.map keyOf)) x
   have loj:(s.mp (YD K fun x=>decide (x∈done.map keyOf))).Lo:=⟨lo.1,fun x hx=>by
    obtain⟨y,hy,rfl⟩:=KI.1 hx
    rw[(NT K _ y).addr];exact lo.2 y hy⟩
   have hDa:(fun x:Int=>decide (x∈done.map keyOf)) a=false:=Gw hnot
   obtain⟨H2,d2,g2,p2⟩:=Gan okj loj pj (a:=a) (by rw[Hp.Gbr fun x _=>NT K _ x];exact hha) (f:=138) (cs:=[.ptr H.length 0]) (K:=K) (fun Y gY x=>by rw[hK];exact Gaf (gY.get t3) (gets Y (.inl (gY.get tf))) x) dE
   rw[Geg hha hDa]at d2
   rw[GfZ k hha hDa]at p2
   have eD:(fun x:Int=>decide (x∈done.map keyOf)||x==a)=fun x=>decide (x∈(done++[CV.Jj [.i a,va]]).map keyOf):=by
    funext x
    rw[Bool.eq_iff_iff]
    simp[keyOf]
   rw[eD]at p2
   have hcs:YW s K ((done++[CV.Jj [.i a,va]]).map keyOf)=YW s K (done.map keyOf)+if 0<VH s K a then 1 else 0:=by
    unfold YW
    rw[Ij,List.countP_append]
    congr 1
    show List.countP _ [a]=_
    by_cases c:0<VH s K a
    ·rw[if_pos c];simp[c]
    ·rw[if_neg c];simp[c]
   have hcl:YW s K (done.map keyOf)≤4096:=by
    have h1:=List.countP_le_length (p:=fun a=>decide (0<VH s K a)) (l:=done.map keyOf)
    have h2:=hp.length_eq
    rw[←hd,hes]at h2
    have h3:(JH l).length=ks.length:=by rw[←hlk];simp[JH]
    rw[h3]at h2
    simp only[Qi,List.length_cons,QY]at h1 h2
    unfold YW
    omega
   have to2:H2[H.length+2]?=_:=(g2.keep _ (Gf to) oM).trans to
   have tf2:H2[mb]?=_:=(g2.keep _ (Gf tf) hmw).trans tf
   have gK:Keeps X H2 (fun c=>c=L.wb∨c=H.length+2∨c=mb):=g.trans (g2.weaken fun c h=>.inl h)
   by_cases c:0<VH s K a
   ·rw[Gz c]at d2
    rw[if_pos c]at hcs
    have w1:IntKind.i64.wrap ((YW s K (done.map keyOf):Int)+1)=((YW s K (done.map keyOf)+1:Nat):Int):=Gg oM
    obtain⟨H3,hH3⟩:∃Y:Gb,Y=H2.set (H.length+2) ⟨rep 0 0 0 0 0 0 ks.length ((YW s K (done.map keyOf)+1:Nat):Int),.rw,0⟩:=⟨_,rfl⟩
    have g3:Keeps H2 H3 (·=H.length+2):=by rw[hH3];exact Keeps.set (w:=fun c=>c=H.length+2) (Keeps.refl _ _) (.inl rfl) _
    unfold rep at hH3 to2
    suffices fin:∃E2,den P Fx Eb H1=some (.normal,E2,H3)by
     obtain⟨E2,f⟩:=fin
     refine⟨E2,H3,f,?_,gK.trans (g3.weaken fun c h=>.inr (.inl h)),p2.frame fun c hc=>g3.keep c (p2.lt c hc) fun e=>GlY (e▸hc),?_,?_⟩
     ·rw[g3.keep mb (Gf tf2) oM];exact tf2
     ·rw[hcs,hH3,Va (Gf to2)];rfl
     ·rw[g3.keep mb (Gf tf2) oM];exact tf2
    simp(disch:=first|exact dz|fail) only[simprocAttr,Gs,↓reduceIte,b0,b5,b6,Gdk,d2,to2,w1,hH3.symm,@Vm]
    exact⟨_,rfl⟩
   ·rw[Gw c]at d2
    rw[if_neg c,Nat.add_zero]at hcs
    suffices fin:∃E2,den P Fx Eb H1=some (.normal,E2,H2)by
     obtain⟨E2,f⟩:=fin
     exact⟨E2,H2,f,tf2,gK,p2,by rw[hcs];exact to2,tf2⟩
    simp(disch:=first|exact dz|fail) only[simprocAttr,Gs,↓reduceIte,b0,b5,b6,Gdk,d2]
    exact⟨_,rfl⟩
  ·rintro H1 ⟨g,p1,to,tf⟩
   have hkk:(fun x:Int=>decide (x∈lo'.map keyOf))=K:=by
    rw[hK]
    funext x
    have h2:=(hp.map keyOf).mem_iff (a:=x)
    rw[hes,YN,hlk]at h2
    rw[Bool.eq_iff_iff,decide_eq_true_eq,decide_eq_true_eq];exact h2
   have hcc:YW s K (lo'.map keyOf)=cn:=by
    rw[hcn]
    unfold YW
    refine List.Perm.countP_eq _ ?_
    have h2:=hp.map keyOf
    rw[hes,YN,hlk]at h2
    exact h2
   rw[hkk]at p1
   rw[hcc]at to
   refine List.ext_getElem? fun c=>?_
   rw[Zx]
   by_cases hc:c<X.length
   ·rw[if_pos hc]
    by_cases c1:c=mb
    ·rw[c1,Va (Gf tf),Tk mb hmw oM,tmX,hes]
    ·rw[KV (Ne.symm c1)]
     by_cases c2:c=L.wb
     ·rw[c2,p1.wrd,Tw];rfl
     ·by_cases c3:c=H.length+2
      ·rw[c3,to,To]
      ·rw[Tk c c2 c3,g.keep c hc oM]
   ·rw[if_neg hc,lX9 oM]
 have hTk:Keeps X T (fun c=>c=L.wb∨c=H.length+2):=⟨oM,fun c _ hn=>Tk c (fun e=>hn (.inl e)) fun e=>hn (.inr e)⟩
 obtain⟨nk,hnk⟩:∃nk:Nat→Gb,nk=fun z=>T++List.replicate z ⟨[],.dead,0⟩:=⟨_,rfl⟩
 have kill:∀z,∃H',run P 140 [.ptr hb 0,.func 138 [.ptr H.length 0],.ptr (H.length+2) 0] (nk z)=some (.Jj [],H')∧Keeps (nk z) H' (fun c=>c∈L.all hb∨c=H.length+2)∧PH H' hb (s.GL K) L∧
   H'[H.length+2]?=some ⟨rep 0 0 (s.objs.filter fun o=>!K o.addr).length (sizes (s.objs.filter fun o=>!K o.addr)) 0 0 ks.length cn,.rw,0⟩:=fun z=>by
  have gz:Gr T (nk z):=by rw[hnk];exact Gr.app _ _
  have t3:(nk z)[H.length]?=some ⟨[.GJ mb],.rw,0⟩:=gz.get ((Tk _ oM oM).trans tb3)
  have tz:(nk z)[mb]?=some ⟨es,.map,0⟩:=gz.get ((Tk mb hmw oM).trans (by rw[tmX,hes]))
  obtain⟨H',d1,d2,d3,d4⟩:=GbR (pT.gr gz) (k.mp fun x _=>NT K K x) GlY (gz.get To) oM oM (fn:=138) (cs:=[.ptr H.length 0]) (K:=K) (fun Y g x=>by
   rw[hK]
   have n1:∀c,c<(nk z).length→c∉L.all hb→c≠H.length+2→Y[c]?=(nk z)[c]?:=fun c hc h1 h2=>g.keep c hc fun h=>h.elim h1 h2
   exact Gaf (by rw[n1 _ (Gf t3) (fun h=>by have:=lt _ h;omega) oM];exact t3) (gets Y (.inr (by rw[n1 _ (Gf tz) hmb oM];exact tz))) x) dE
  rw[LJ]at d3
  obtain⟨e1,e2⟩:=Gac s K
  rw[e1,e2,Int.zero_add,Int.zero_add]at d4
  exact⟨H',d1,d2,d3,d4⟩
 have hml:VQ (.GJ mb) X=some (.i ks.length,X):=by
  have:=(m.frame (gX.keep mb Gos fun h=>h)).m.len
  exact this
 obtain⟨Y1,hY1⟩:∃Y:Gb,Y=H++[⟨[.GJ mb],.rw,0⟩]++[⟨rep 0 0 0 0 0 0 0 0,.rw,0⟩]:=⟨_,rfl⟩
 have tY:Y1[H.length]?=some ⟨[.GJ mb],.rw,0⟩:=by rw[hY1];simp
 have gY:Gr H Y1:=by rw[hY1];exact(Gr.app _ _).app' _
 have hmY:VQ (.GJ mb) Y1=some (.i ks.length,Y1):=(m.frame (gY.keep mb Gos fun h=>h)).m.len
 have lY:Y1.length=H.length+2:=by rw[hY1];simp
 obtain⟨H0,hH0⟩:∃H0:Gb,H0=H:=⟨_,rfl⟩
 rw[Gh c49 _ _ sM]
 unfold rep at hX hY1
 have fa:=@JO
 have cm:=show cellsOf (CV.GJ mb)=[CV.GJ mb]from rfl
 have sp:=@Jc
 simp(disch:=first|exact dz|fail) only[simprocAttr,Gs,↓reduceIte,Ub,cm,←hY1,tY,@Vf,hmY,fa,sp,lY,←hX]
 have hXY:Y1++[⟨[.i 0,.i 0,.i 0,.i 0,.i 0,.i 0,.i ks.length,.i 0],.rw,0⟩]=X:=by rw[hX,hY1]
 rw[hXY]
 generalize hr:den P (.Qv BH Fx .skip) _ _=r
 obtain⟨z,E2,rfl,a0,a4,a5,a6⟩:=rng _ _ hr uA uA uA uA uA
 obtain⟨H',d1,d2,d3,d4⟩:=kill z
 have gz:Gr T (nk z):=by rw[hnk];exact Gr.app _ _
 have hnz:T++List.replicate z ⟨[],.dead,0⟩=nk z:=by rw[hnk]
 rw[hnz]
 have tr:H'[H.length+1]?=some ⟨rep 0 0 0 0 0 0 0 0,.rw,0⟩:=by
  rw[d2.keep _ (by have:=gz.len;omega) (by intro h;rcases h with h|h;have:=lt _ h;omega;omega)]
  exact gz.get ((Tk _ oM oM).trans trs)
 obtain⟨H4,hH4⟩:∃Y:Gb,Y=H'.set (H.length+1) ⟨rep 0 0 (s.objs.filter fun o=>!K o.addr).length (sizes (s.objs.filter fun o=>!K o.addr)) 0 0 ks.length cn,.rw,0⟩:=⟨_,rfl⟩
 have t4:H4[H.length+1]?=some ⟨rep 0 0 (s.objs.filter fun o=>!K o.addr).length (sizes (s.objs.filter fun o=>!K o.addr)) 0 0 ks.length cn,.rw,0⟩:=by rw[hH4,Va (Gf tr)]
 have k4:Keeps H' H4 (fun c=>c=H.length+1):=by rw[hH4];exact Keeps.set (w:=fun c=>c=H.length+1) (Keeps.refl _ _) (.inl rfl) _
 refine⟨H4,?_,⟨by have:=gX.len;have:=hTk.len;have:=gz.len;have:=d2.len;have:=k4.len;omega,fun c hc hn=>?_⟩,d3.frame fun c hc=>k4.keep c (d3.lt c hc) fun e=>by have:=lt c hc;omega⟩
 ·unfold rep at d4 tr t4 hH4⊢
  simp(disch:=first|exact dz|fail) only[simprocAttr,Gs,↓reduceIte,a0,a4,a5,a6,d1,d4,tr,t4,hH4.symm]
  rw[hcn,hK]
 ·have hcw:c≠L.wb:=fun e=>hn (e▸hwb)
  rw[k4.keep c (by have:=d2.len;have:=gz.len;omega) oM,d2.keep c (by have:=gz.len;omega) (by intro h;rcases h with h|h;exact hn h;omega),gz.keep c oM fun h=>h,Tk c hcw oM,gX.keep c hc fun h=>h]
end
end Go.Cs.Tryz
namespace Go.Cs.Tryz
open Go Go.Cs A
def Gvg:Gj:=⟨14,0,T [m 5 0,le 6 5,m 4 6] (R [m 7 0,m 8 4,m 9 4,e 10 (.conv .u64 (t 9)),q1 11 221 10,m 12 1,ca 13 228 [t 7,k 0,t 8,t 11,t 12]]),[]⟩
theorem Gup:P 149=some Gvg:=by kernel_rfl
def GrJ:Gj:=⟨10,0,T [bo 2 0,bo 3 1,n 4 0] (Q [f 5 0 2,l 6 1 5,f 7 0 3,l 8 1 7,b 9 .sub 6 8,m 4 9]),[r 4]⟩
theorem Gv9:P 150=some GrJ:=by kernel_rfl
def Gr_:Gj:=⟨8,0,T [n 2 0] (S (.cond (c (.bool false)) (Q [m 3 0,e 4 (.conv .u32 (t 3)),q1 5 274 4,m 2 5]) .skip) (Q [m 6 0,q1 7 275 6,m 2 7])),[r 2]⟩
theorem Gs4:P 221=some Gr_:=by kernel_rfl
abbrev SC:Gn:=B 1 (T [m 21 2,m 22 1,b 23 .sub 21 22,m 12 23] (S (T [m 24 12,bk 25 .leq 24 12] (I 25 (Q [m 26 0,m 27 1,m 28 2,m 29 4,q4 30 279 26 27 28 29]))) (S (T [m 31 3,bk 32 .eql 31 0] (I 32 (Q [m 33 0,m 34 1,m 35 2,m 36 4,q4 37 280 33 34 35 36]))) (S (T [m 38 10,no 39 38] (I 39 (T [m 40 0,m 41 1,m 42 2,m 43 4,q4 44 281 40 41 42 43] (R [m 45 3,bk 46 .sub 45 1,m 3 46])))) (T [m 48 0,m 49 1,m 50 2,m 51 4,q4 52 282 48 49 50 51,m 47 52,ex 53 47 0,ex 54 47 1,m 13 53,m 14 54] (S (T [m 55 14,bk 56 .eql 55 2] (I 56 (T [m 57 0,m 58 1,m 59 2,m 60 4,q4 61 283 57 58 59 60] (T [m 62 2,bk 63 .sub 62 1,m 64 13,m 65 1,b 66 .sub 64 65,b 67 .sub 63 66,m 13 67] (R [n 14 1]))))) (S (T [m 68 10,m 69 68,gt 69 (m 70 11),an 71 69 70,m 72 71,gt 72 (m 73 14),gt 72 (bk 74 .eql 73 1),an 75 72 74] (I 75 (T [m 76 0,m 77 1,m 78 2,m 79 4,q4 80 284 76 77 78 79] (I 80 .ret)))) (S (S (D [⟨m 81 1,0,0,0⟩,⟨bk 82 .gtr 81 0,1,0,0⟩,⟨m 83 82,2,0,0⟩,⟨gt 83 (m 84 4),3,0,0⟩,⟨gt 83 (m 85 0),4,0,0⟩,⟨gt 83 (m 86 1),5,0,0⟩,⟨gt 83 (bk 87 .sub 86 1),6,0,0⟩,⟨gt 83 (x 88 2 85 87),7,0,0⟩,⟨gt 83 (lg 89 2 88),8,1,0⟩,⟨gt 83 (m 90 0),9,0,0⟩,⟨gt 83 (m 91 13),10,0,0⟩,⟨gt 83 (x 92 2 90 91),11,0,0⟩,⟨gt 83 (lg 93 2 92),12,1,0⟩,⟨gt 83 (e 94 (.KH (t 84) [t 89,t 93])),13,3,0⟩,⟨gt 83 (bk 95 .lss 94 0),14,0,1⟩,⟨gt 83 (no 96 95),15,0,1⟩,⟨an 97 83 96,16,0,1⟩]) (I 97 (T [m 98 0,m 99 1,m 100 2,m 101 13,m 102 4,q5 103 285 98 99 100 101 102,m 15 103] (T [m 104 15,m 1 104] (X 1))))) (T [m 106 0,m 107 1,m 108 2,m 109 13,m 110 4,q5 111 286 106 107 108 109 110,m 105 111,ex 112 105 0,ex 113 105 1,m 16 112,m 17 113] (T [m 114 17,m 11 114] (T [m 115 16,m 116 1,b 117 .sub 115 116,m 118 2,m 119 16,b 120 .sub 118 119,m 18 117,m 19 120] (T [m 121 12,bk 122 .quo 121 8,m 20 122] (T [m 123 18,m 124 19,b 125 .lss 123 124] (C 125 (T [m 126 18,m 127 20,b 128 .geq 126 127,m 10 128] (T [m 129 0,m 130 1,m 131 16,m 132 3,m 133 4,q5 134 228 129 130 131 132 133] (R [m 135 16,bk 136 .add 135 1,m 1 136]))) (T [m 137 19,m 138 20,b 139 .geq 137 138,m 10 139] (T [m 140 0,m 141 16,bk 142 .add 141 1,m 143 2,m 144 3,m 145 4,q5 146 228 140 142 143 144 145] (R [m 147 16,m 2 147])))))))))))))))))
def Gr0:Gj:=⟨148,0,T [nb 10 true] (T [nb 11 true] (B 0 (W SC))),[]⟩
theorem c228:P 228=some Gr0:=by kernel_rfl
def Gvt:Gj:=⟨25,0,T [n 2 0] (S (T [m 3 0,e 4 (.bin .geq (t 3) (c (.int .u64 4294967296)))] (I 4 (T [m 5 0,e 6 (.shift .shr (t 5) (c (.int .u64 32))),m 0 6] (R [n 2 32])))) (S (T [m 7 0,e 8 (.bin .geq (t 7) (c (.int .u64 65536)))] (I 8 (T [m 9 0,e 10 (.shift .shr (t 9) (c (.int .u64 16))),m 0 10] (R [m 11 2,bk 12 .add 11 16,m 2 12])))) (S (T [m 13 0,e 14 (.bin .geq (t 13) (c (.int .u64 256)))] (I 14 (T [m 15 0,e 16 (.shift .shr (t 15) (c (.int .u64 8))),m 0 16] (R [m 17 2,bk 18 .add 17 8,m 2 18])))) (Q [m 19 2,m 20 0,e 21 (.conv .u8 (t 20)),e 22 (.Fg [0,1,2,2,3,3,3,3,4,4,4,4,4,4,4,4,5,5,5,5,5,5,5,5,5,5,5,5,5,5,5,5,6,6,6,6,6,6,6,6,6,6,6,6,6,6,6,6,6,6,6,6,6,6,6,6,6,6,6,6,6,6,6,6,7,7,7,7,7,7,7,7,7,7,7,7,7,7,7,7,7,7,7,7,7,7,7,7,7,7,7,7,7,7,7,7,7,7,7,7,7,7,7,7,7,7,7,7,7,7,7,7,7,7,7,7,7,7,7,7,7,7,7,7,7,7,7,7,8,8,8,8,8,8,8,8,8,8,8,8,8,8,8,8,8,8,8,8,8,8,8,8,8,8,8,8,8,8,8,8,8,8,8,8,8,8,8,8,8,8,8,8,8,8,8,8,8,8,8,8,8,8,8,8,8,8,8,8,8,8,8,8,8,8,8,8,8,8,8,8,8,8,8,8,8,8,8,8,8,8,8,8,8,8,8,8,8,8,8,8,8,8,8,8,8,8,8,8,8,8,8,8,8,8,8,8,8,8,8,8,8,8,8,8,8,8,8,8,8,8,8,8,8,8,8,8] (t 21)),e 23 (.conv .i64 (t 22)),b 24 .add 19 23,m 2 24])))),[r 2]⟩
theorem Gtg:P 275=some Gvt:=by kernel_rfl
abbrev Oe:Gn:=S (S (D [⟨m 18 9,0,0,0⟩,⟨m 19 1,1,0,0⟩,⟨b 20 .gtr 18 19,2,0,0⟩,⟨m 21 20,3,0,0⟩,⟨gt 21 (m 22 3),4,0,0⟩,⟨gt 21 (m 23 0),5,0,0⟩,⟨gt 21 (m 24 9),6,0,0⟩,⟨gt 21 (x 25 2 23 24),7,0,0⟩,⟨gt 21 (lg 26 2 25),8,1,0⟩,⟨gt 21 (m 27 0),9,0,0⟩,⟨gt 21 (m 28 9),10,0,0⟩,⟨gt 21 (bk 29 .sub 28 1),11,0,0⟩,⟨gt 21 (x 30 2 27 29),12,0,0⟩,⟨gt 21 (lg 31 2 30),13,1,0⟩,⟨gt 21 (e 32 (.KH (t 22) [t 26,t 31])),14,3,0⟩,⟨gt 21 (bk 33 .lss 32 0),15,0,1⟩,⟨an 34 21 33,16,0,1⟩]) (J 34 (X 2))) (S (B 3 (D [⟨m 37 0,0,0,0⟩,⟨m 38 9,1,0,0⟩,⟨m 42 0,5,0,0⟩,⟨m 43 9,6,0,0⟩,⟨bk 44 .sub 43 1,7,0,0⟩,⟨x 45 2 42 44,8,0,0⟩,⟨lg 46 2 45,9,1,0⟩,⟨m 47 0,10,0,0⟩,⟨m 48 9,11,0,0⟩,⟨x 49 2 47 48,12,0,0⟩,⟨lg 50 2 49,13,1,0⟩,⟨x 51 2 37 38,14,0,0⟩,⟨st 2 51 46,15,3,0⟩,⟨m 39 0,2,0,0⟩,⟨m 40 9,3,0,0⟩,⟨bk 41 .sub 40 1,4,0,0⟩,⟨x 52 2 39 41,16,0,1⟩,⟨st 2 52 50,17,3,1⟩])) (R [m 35 9,bk 36 .sub 35 1,m 9 36]))
abbrev OQ:Gn:=S (T [m 12 8,m 13 2,b 14 .lss 12 13] (J 14 (X 0))) (S (B 1 (T [m 17 8,m 9 17] (B 2 (W Oe)))) (R [m 15 8,bk 16 .add 15 1,m 8 16]))
def GsZ:Gj:=⟨53,0,T [m 10 1,bk 11 .add 10 1,m 8 11] (B 0 (W OQ)),[]⟩
theorem GqL:P 279=some GsZ:=by kernel_rfl
def Gwf:Gj:=⟨63,0,T [n 8 0,n 9 0] (T [m 15 2,m 16 1,b 17 .sub 15 16,m 10 17] (T [e 11 (.new [i 0])] (T [m 18 1,m 19 10,bk 20 .quo 19 4,bk 21 .mul 20 1,b 22 .add 18 21,m 12 22] (T [m 23 1,m 24 10,bk 25 .quo 24 4,bk 26 .mul 25 2,b 27 .add 23 26,m 13 27] (T [m 28 1,m 29 10,bk 30 .quo 29 4,bk 31 .mul 30 3,b 32 .add 28 31,m 14 32] (S (T [m 33 10,bk 34 .geq 33 8] (I 34 (S (T [m 35 10,bk 36 .geq 35 50] (I 36 (T [m 37 0,m 38 12,m 39 3,q4 40 303 37 38 11 39,m 12 40] (T [m 41 0,m 42 13,m 43 3,q4 44 303 41 42 11 43,m 13 44] (R [m 45 0,m 46 14,m 47 3,q4 48 303 45 46 11 47,m 14 48]))))) (R [m 49 0,m 50 12,m 51 13,m 52 14,m 53 3,ca 54 304 [t 49,t 50,t 51,t 52,t 11,t 53],m 13 54])))) (T [l 55 1 11] (B 0 (T [bk 58 .eql 55 0,m 57 58] (C 57 (Q [m 59 13,m 8 59,n 9 1]) (T [bk 61 .eql 55 12,m 60 61] (C 60 (Q [m 62 13,m 8 62,n 9 2]) (Q [m 56 13,m 8 56,n 9 0]))))))))))))),[r 8,r 9]⟩
theorem Gor:P 282=some Gwf:=by kernel_rfl
abbrev Gmx:Gn:=S (T [m 107 12,m 108 2,b 109 .lss 107 108] (J 109 (X 6))) (S (B 7 (S (S (D [⟨m 112 3,0,0,0⟩,⟨m 113 0,1,0,0⟩,⟨m 114 12,2,0,0⟩,⟨x 115 2 113 114,3,0,0⟩,⟨lg 116 2 115,4,1,0⟩,⟨m 117 0,5,0,0⟩,⟨m 118 12,6,0,0⟩,⟨bk 119 .sub 118 1,7,0,0⟩,⟨x 120 2 117 119,8,0,0⟩,⟨lg 121 2 120,9,1,0⟩,⟨e 122 (.KH (t 112) [t 116,t 121]),10,3,0⟩,⟨bk 123 .lss 122 0,11,0,1⟩,⟨no 124 123,12,0,1⟩]) (I 124 (X 6))) (D [⟨m 125 0,0,0,0⟩,⟨m 126 12,1,0,0⟩,⟨m 130 0,5,0,0⟩,⟨m 131 12,6,0,0⟩,⟨bk 132 .sub 131 1,7,0,0⟩,⟨x 133 2 130 132,8,0,0⟩,⟨lg 134 2 133,9,1,0⟩,⟨m 135 0,10,0,0⟩,⟨m 136 12,11,0,0⟩,⟨x 137 2 135 136,12,0,0⟩,⟨lg 138 2 137,13,1,0⟩,⟨x 139 2 125 126,14,0,0⟩,⟨st 2 139 134,15,3,0⟩,⟨m 127 0,2,0,0⟩,⟨m 128 12,3,0,0⟩,⟨bk 129 .sub 128 1,4,0,0⟩,⟨x 140 2 127 129,16,0,1⟩,⟨st 2 140 138,17,3,1⟩]))) (R [m 110 12,bk 111 .add 110 1,m 12 111]))
abbrev Gmk:Gn:=S (T [m 68 11,bk 69 .geq 68 1] (J 69 (X 4))) (S (B 5 (S (S (D [⟨m 72 3,0,0,0⟩,⟨m 73 0,1,0,0⟩,⟨m 74 11,2,0,0⟩,⟨x 75 2 73 74,3,0,0⟩,⟨lg 76 2 75,4,1,0⟩,⟨m 77 0,5,0,0⟩,⟨m 78 11,6,0,0⟩,⟨bk 79 .sub 78 1,7,0,0⟩,⟨x 80 2 77 79,8,0,0⟩,⟨lg 81 2 80,9,1,0⟩,⟨e 82 (.KH (t 72) [t 76,t 81]),10,3,0⟩,⟨bk 83 .lss 82 0,11,0,1⟩,⟨no 84 83,12,0,1⟩]) (I 84 (X 4))) (D [⟨m 85 0,0,0,0⟩,⟨m 86 11,1,0,0⟩,⟨m 90 0,5,0,0⟩,⟨m 91 11,6,0,0⟩,⟨bk 92 .sub 91 1,7,0,0⟩,⟨x 93 2 90 92,8,0,0⟩,⟨lg 94 2 93,9,1,0⟩,⟨m 95 0,10,0,0⟩,⟨m 96 11,11,0,0⟩,⟨x 97 2 95 96,12,0,0⟩,⟨lg 98 2 97,13,1,0⟩,⟨x 99 2 85 86,14,0,0⟩,⟨st 2 99 94,15,3,0⟩,⟨m 87 0,2,0,0⟩,⟨m 88 11,3,0,0⟩,⟨bk 89 .sub 88 1,4,0,0⟩,⟨x 100 2 87 89,16,0,1⟩,⟨st 2 100 98,17,3,1⟩]))) (R [m 70 11,bk 71 .sub 70 1,m 11 71]))
abbrev OC:Gn:=S (S (D [⟨m 19 9,0,0,0⟩,⟨m 20 2,1,0,0⟩,⟨b 21 .lss 19 20,2,0,0⟩,⟨m 22 21,3,0,0⟩,⟨gt 22 (m 23 3),4,0,0⟩,⟨gt 22 (m 24 0),5,0,0⟩,⟨gt 22 (m 25 9),6,0,0⟩,⟨gt 22 (x 26 2 24 25),7,0,0⟩,⟨gt 22 (lg 27 2 26),8,1,0⟩,⟨gt 22 (m 28 0),9,0,0⟩,⟨gt 22 (m 29 9),10,0,0⟩,⟨gt 22 (bk 30 .sub 29 1),11,0,0⟩,⟨gt 22 (x 31 2 28 30),12,0,0⟩,⟨gt 22 (lg 32 2 31),13,1,0⟩,⟨gt 22 (e 33 (.KH (t 23) [t 27,t 32])),14,3,0⟩,⟨gt 22 (bk 34 .lss 33 0),15,0,1⟩,⟨gt 22 (no 35 34),16,0,1⟩,⟨an 36 22 35,17,0,1⟩]) (J 36 (X 2))) (B 3 (R [m 37 9,bk 38 .add 37 1,m 9 38]))
abbrev MN:Gn:=S (T [m 15 10,bk 16 .lss 15 5] (J 16 (X 0))) (S (B 1 (S (B 2 (W OC)) (S (T [m 39 9,m 40 2,b 41 .eql 39 40] (I 41 (Q [nb 8 true]))) (S (T [m 42 2,m 43 1,b 44 .sub 42 43,bk 45 .lss 44 50] (I 45 (Q [nb 8 false]))) (S (D [⟨m 46 0,0,0,0⟩,⟨m 47 9,1,0,0⟩,⟨m 51 0,5,0,0⟩,⟨m 52 9,6,0,0⟩,⟨bk 53 .sub 52 1,7,0,0⟩,⟨x 54 2 51 53,8,0,0⟩,⟨lg 55 2 54,9,1,0⟩,⟨m 56 0,10,0,0⟩,⟨m 57 9,11,0,0⟩,⟨x 58 2 56 57,12,0,0⟩,⟨lg 59 2 58,13,1,0⟩,⟨x 60 2 46 47,14,0,0⟩,⟨st 2 60 55,15,3,0⟩,⟨m 48 0,2,0,0⟩,⟨m 49 9,3,0,0⟩,⟨bk 50 .sub 49 1,4,0,0⟩,⟨x 61 2 48 50,16,0,1⟩,⟨st 2 61 59,17,3,1⟩]) (S (T [m 62 9,m 63 1,b 64 .sub 62 63,bk 65 .geq 64 2] (I 65 (T [m 66 9,bk 67 .sub 66 1,m 11 67] (B 4 (W Gmk))))) (T [m 101 2,m 102 9,b 103 .sub 101 102,bk 104 .geq 103 2] (I 104 (T [m 105 9,bk 106 .add 105 1,m 12 106] (B 6 (W Gmx))))))))))) (R [m 17 10,bk 18 .add 17 1,m 10 18]))
def GrQ:Gj:=⟨141,0,T [nb 8 false] (T [m 13 1,bk 14 .add 13 1,m 9 14] (S (T [n 10 0] (B 0 (W MN))) (Q [nb 8 false]))),[r 8]⟩
theorem GsL:P 284=some GrQ:=by kernel_rfl
def Gr9:Gj:=⟨18,0,T [n 8 0] (Q [m 9 0,m 10 1,bk 11 .sub 10 1,m 12 1,m 13 1,bk 14 .add 13 1,m 15 2,m 16 3,ca 17 304 [t 9,t 11,t 12,t 14,t 15,t 16],m 8 17]),[r 8]⟩
theorem GsD:P 303=some Gr9:=by kernel_rfl
def GsW:Gj:=⟨41,0,T [n 12 0] (T [m 14 0,m 15 1,m 16 2,m 17 4,m 18 5,q5 19 306 14 15 16 17 18,m 13 19,ex 20 13 0,ex 21 13 1,m 1 20,m 2 21] (T [m 23 0,m 24 2,m 25 3,m 26 4,m 27 5,q5 28 306 23 24 25 26 27,m 22 28,ex 29 22 0,ex 30 22 1,m 2 29,m 3 30] (T [m 32 0,m 33 1,m 34 2,m 35 4,m 36 5,q5 37 306 32 33 34 35 36,m 31 37,ex 38 31 0,ex 39 31 1,m 1 38,m 2 39] (Q [m 40 2,m 12 40])))),[r 12]⟩
theorem Gun:P 304=some GsW:=by kernel_rfl
def GuU:Gj:=⟨32,0,T [n 10 0,n 11 0] (S (S (D [⟨m 12 4,0,0,0⟩,⟨m 13 0,1,0,0⟩,⟨m 14 2,2,0,0⟩,⟨x 15 2 13 14,3,0,0⟩,⟨lg 16 2 15,4,1,0⟩,⟨m 17 0,5,0,0⟩,⟨m 18 1,6,0,0⟩,⟨x 19 2 17 18,7,0,0⟩,⟨lg 20 2 19,8,1,0⟩,⟨e 21 (.KH (t 12) [t 16,t 20]),9,3,0⟩,⟨bk 22 .lss 21 0,10,0,1⟩]) (I 22 (T [m 23 3,z 24 23,l 25 1 24,bk 26 .add 25 1,z 27 23,st 1 27 26] (Q [m 28 2,m 29 1,m 10 28,m 11 29])))) (Q [m 30 1,m 31 2,m 10 30,m 11 31])),[r 10,r 11]⟩
theorem GsA:P 306=some GuU:=by kernel_rfl
end Go.Cs.Tryz
namespace Go.Cs
open Go
section
variable {F : GQ} {E : Env} {H : Gb}
theorem Gaj{l:List Nat}{n:Int}{kd:IntKind}{i:Jy}(hi:E.ev i=.int kd n)(h:0≤n∧n<(l.length:Int)):JY F (.Fg l i) E H=some (.int .u8 ((l.getD n.toNat 0:Nat):Int),H):=by
 simp only[JY,UZ,G7,hi]
 rw[if_pos h.1,Jr oM,Bo,Jr oM]
 rfl
end
theorem IG{a b c d e f:CV}:entry [a,b,c,d,e,f]=(((((base.upd 0 a).upd 1 b).upd 2 c).upd 3 d).upd 4 e).upd 5 f:=by
 funext t
 rcases t with _|_|_|_|_|_|t<;>rfl
theorem QL.row{k:Nat}{H:Gb}{v:CV}{W:List (Int×Int)}(h:QL k H v W){i:Nat}{x:Int×Int}(hi:W[i]?=some x):
  ∃b,(∀H',JM 2 v (.i i) H'=some (.ptr b (i*2),H'))∧Qh 2 v (.i i)=okV (.ptr b (i*2))∧H[b]?=some ⟨I9 W,.rw,2⟩∧Ba (some ⟨I9 W,.rw,2⟩) (i*2) 2=some [.i x.1,.i x.2]:=by
 obtain⟨b,i1,i2,i3,i4,i5,-⟩:=QL.at h hi
 refine⟨b,i1,i2,i3,?_⟩
 have:=Gf i5
 rw[Qg,if_pos oM,drop_cons i4,drop_cons i5];rfl
def Ord(W:List (Int×Int)):Prop:=Uc (W.map (·.1))∧∀x∈W,0≤x.1∧x.1≤100000
theorem Ord.lt{W:List (Int×Int)}(h:Ord W){i j:Nat}{x y:Int×Int}(hij:i<j)(hi:W[i]?=some x) (hj:W[j]?=some y):x.1<y.1:=
 Jg h.1 hij (by rw[Kr,hi];rfl) (by rw[Kr,hj];rfl)
theorem len8:∀n:Nat,n<256→1≤n→([0,1,2,2,3,3,3,3,4,4,4,4,4,4,4,4,5,5,5,5,5,5,5,5,5,5,5,5,5,5,5,5]++List.replicate 32 6++List.replicate 64 7++List.replicate 128 8).getD n 0≠0:=by decide +kernel
end Go.Cs
namespace Go.Cs.Tryz
open Go Go.Cs
section
variable {H : Gb}
theorem GdV{a0 a1 b0 b1:Int}(ha:0≤a0∧a0≤100000)(hb:0≤b0∧b0≤100000):∃H',run P 150 [.agg [.i a0,.i a1],.agg [.i b0,.i b1]] H=some (.i (a0-b0),H')∧Gr H H':=by
 have w:IntKind.i64.wrap (a0-b0)=a0-b0:=Gg oM
 refine⟨H++[⟨[.i a0,.i a1],.rw,0⟩]++[⟨[.i b0,.i b1],.rw,0⟩],?_,(Gr.app _ _).app' _⟩
 rw[Gh Gv9 _ _ sM]
 exact Hz
abbrev Fu:CV:=.func 150 []
variable {k : Nat} {v : CV} {W : List (Int × Int)}
theorem GbD(o:Ord W){i j:Nat}{x y:Int×Int}(hi:W[i]?=some x) (hj:W[j]?=some y) (X:Gb):∃X',run P 150 [.agg [.i x.1,.i x.2],.agg [.i y.1,.i y.2]] X=some (.i (x.1-y.1),X')∧Gr X X':=
 GdV (o.2 x (JV hi)) (o.2 y (JV hj))
theorem Gnj(q:QL k H v W)(o:Ord W)(hl:W.length≤300){j:Nat}(h1:1≤j)(h2:j<W.length){E0:Env}(e0:E0 0=v)(e1:E0 1=.i 0)(e3:E0 3=Fu)(e9:E0 9=.i j){r:Option (CX×Env×Gb)}(hr:den P (.loop Oe) E0 H=r):
  ∃E' H',r=some (.exit 2,E',H')∧Gr H H'∧∀t,t∉wr Oe→E' t=E0 t:=by
 obtain⟨x',E',H',e,-,⟨rfl,g⟩,fr⟩:=Gq (p:=P) (c:=Oe) (E0:=E0) (H0:=H)
  (fun q E H'=>H'=H∧E 9=.i j) (fun x E' H'=>x=.exit 2∧Gr H H') (by
   rintro q' E H' hE ⟨rfl,e9⟩
   have e0:=(hE 0 dK).trans e0
   have e1:=(hE 1 dK).trans e1
   have e3:=(hE 3 dK).trans e3
   obtain⟨x,hx⟩:∃x,W[j]?=some x:=⟨_,Jr h2⟩
   obtain⟨y,hy⟩:∃y,W[j-1]?=some y:=⟨_,Jr oM⟩
   obtain⟨b,-,i1,i2,i3⟩:=q.row hx
   obtain⟨b',-,j1,j2,j3⟩:=q.row hy
   obtain⟨X,d1,g1⟩:=GbD o hx hy H'
   have w1:IntKind.i64.wrap ((j:Int)-1)=((j-1:Nat):Int):=by rw[Gg oM];omega
   have c1:decide ((j:Int)>0)=true:=Gz oM
   have hlt:=o.lt (i:=j-1) (j:=j) oM hy hx
   have c2:decide (x.1-y.1<0)=false:=Gw oM
   apply Gi (x:=.exit 2)
   ·simp(disch:=first|exact dz|fail) only[simprocAttr,Gs,↓reduceIte,e0,e1,e3,e9,c1,w1,i1,j1,i2,j2,i3,j3,d1,c2]
    rfl
   ·simp
   ·exact⟨rfl,g1⟩) 0 ⟨rfl,e9⟩
 exact⟨E',H',hr.symm.trans e,g,fr⟩
theorem Gne(q:QL k H v W)(o:Ord W)(hl:W.length≤300){E0:Env}(e0:E0 0=v)(e1:E0 1=.i 0)(e2:E0 2=.i W.length)(e3:E0 3=Fu)(e8:E0 8=.i 1){r:Option (CX×Env×Gb)}(hr:den P (.loop OQ) E0 H=r):
  ∃E' H',r=some (.exit 0,E',H')∧Gr H H':=by
 obtain⟨x',E',H',e,-,⟨rfl,g⟩,fr⟩:=Gq (p:=P) (c:=OQ) (E0:=E0) (H0:=H)
  (fun q E H'=>Gr H H'∧∃j:Nat,E 8=.i j∧1≤j∧q=W.length-j) (fun x E' H'=>x=.exit 0∧Gr H H') (by
   rintro q' E H' hE ⟨g,j,e8,hj,rfl⟩
   have e0:=(hE 0 dK).trans e0
   have e1:=(hE 1 dK).trans e1
   have e2:=(hE 2 dK).trans e2
   have e3:=(hE 3 dK).trans e3
   by_cases c:j<W.length
   ·have c':decide ((j:Int)<(W.length:Int))=true:=Gz oM
    have w1:IntKind.i64.wrap ((j:Int)+1)=((j+1:Nat):Int):=Gg oM
    suffices fin:∃E' X,den P OQ E H'=some (.normal,E',X)∧Gr H' X∧E' 8=.i ((j+1:Nat):Int)by
     obtain⟨E',X,f1,f2,f3⟩:=fin
     exact Gm f1 (k':=W.length-(j+1)) oM ⟨g.trans f2,j+1,f3,oM,rfl⟩
    refine W3 e2 e8 c' ?_
    generalize hr:den P (.loop Oe) _ _=r
    obtain⟨E2,X,rfl,g2,f2⟩:=Gnj (At.keeps q g) o hl hj c (by simp[Gc,e0]) (by simp[Gc,e1]) (by simp[Gc,e3]) uA hr
    have b8:=f2 8 dK
    simp only[Gc,Nat.reduceEqDiff,↓reduceIte,e8]at b8
    refine W2 b8 w1 ?_
    exact⟨_,_,rfl,g2,uA⟩
   ·have c':decide ((j:Int)<(W.length:Int))=false:=Gw oM
    apply Gi (x:=.exit 0)
    ·refine W3 e2 e8 c' ?_
     rfl
    ·simp
    ·exact⟨rfl,g⟩) _ ⟨Keeps.refl _ _,1,e8,Nat.le_refl _,rfl⟩
 exact⟨E',H',hr.symm.trans e,g⟩
theorem GgR(q:QL k H v W)(o:Ord W)(hl:W.length≤300):∃H',run P 279 [v,.i 0,.i W.length,Fu] H=some (.Jj [],H')∧Gr H H':=by
 rw[Gh GqL _ _ sM]
 have w1:IntKind.i64.wrap ((0:Int)+1)=1:=by decide
 refine W1 w1 ?_
 generalize hr:den P (.loop OQ) _ _=r
 obtain⟨E2,X,rfl,g2⟩:=Gne q o hl uA uA uA uA uA hr
 exact⟨X,by exact W0,g2⟩
theorem order2(q:QL k H v W)(o:Ord W){a b:Nat}{sw:CV}(hab:a<b)(hb:b<W.length):∃H',run P 306 [v,.i a,.i b,sw,Fu] H=some (.Jj [.i a,.i b],H')∧Gr H H':=by
 obtain⟨x,hx⟩:∃x,W[b]?=some x:=⟨_,Jr hb⟩
 obtain⟨y,hy⟩:∃y,W[a]?=some y:=⟨_,Jr oM⟩
 obtain⟨b1,-,i1,i2,i3⟩:=q.row hx
 obtain⟨b2,-,j1,j2,j3⟩:=q.row hy
 obtain⟨X,d1,g1⟩:=GbD o hx hy H
 have hlt:=o.lt hab hy hx
 have c2:decide (x.1-y.1<0)=false:=Gw oM
 refine⟨X,?_,g1⟩
 rw[Gh GsA _ _ sM]
 simp(disch:=first|exact dz|fail) only[simprocAttr,Gs,↓reduceIte,Ub,i1,j1,i2,j2,i3,j3,d1,c2]
 try rfl
theorem median(q:QL k H v W)(o:Ord W){a b c:Nat}{sw:CV}(hab:a<b)(hbc:b<c)(hc:c<W.length):∃H',run P 304 [v,.i a,.i b,.i c,sw,Fu] H=some (.i b,H')∧Gr H H':=by
 obtain⟨X1,d1,g1⟩:=order2 q o (sw:=sw) hab oM
 obtain⟨X2,d2,g2⟩:=order2 (At.keeps q g1) o (sw:=sw) hbc hc
 obtain⟨X3,d3,g3⟩:=order2 (At.keeps q (g1.trans g2)) o (sw:=sw) hab oM
 refine⟨X3,?_,(g1.trans g2).trans g3⟩
 rw[Gh Gun _ _ sM]
 simp(disch:=first|exact dz|fail) only[simprocAttr,Gs,↓reduceIte,Ub,@IG,d1,d2,d3]
 try rfl
theorem BX(q:QL k H v W)(o:Ord W)(hl:W.length≤300){a:Nat}{sw:CV}(h1:1≤a)(h2:a+1<W.length):∃H',run P 303 [v,.i a,sw,Fu] H=some (.i a,H')∧Gr H H':=by
 obtain⟨X1,d1,g1⟩:=median q o (sw:=sw) (a:=a-1) (b:=a) (c:=a+1) oM oM h2
 have w1:IntKind.i64.wrap ((a:Int)-1)=((a-1:Nat):Int):=by rw[Gg oM];omega
 have w2:IntKind.i64.wrap ((a:Int)+1)=((a+1:Nat):Int):=Gg oM
 refine⟨X1,?_,g1⟩
 rw[Gh GsD _ _ sM]
 exact V3 w1 w2 d1
theorem Tz(q:QL k H v W)(o:Ord W)(hl:W.length≤300)(WA:13≤W.length):∃(m:Nat)(H':Gb),run P 282 [v,.i 0,.i W.length,Fu] H=some (.Jj [.i m,.i 1],H')∧Gr H H':=by
 obtain⟨n,hn⟩:∃n,n=W.length:=⟨_,rfl⟩
 rw[←hn]at hl WA⊢
 obtain⟨X,hX⟩:∃X:Gb,X=H++[⟨[.i 0],.rw,0⟩]:=⟨_,rfl⟩
 have gX:Gr H X:=by rw[hX];exact Gr.app _ _
 have tX:X[H.length]?=some ⟨[.i 0],.rw,0⟩:=by rw[hX];simp
 have qX:=At.keeps q gX
 have d4:(n:Int).tdiv 4=((n/4:Nat):Int):=KN n 4
 have w0:IntKind.i64.wrap ((n:Int)-0)=(n:Int):=by rw[Gg oM];omega
 have w1:IntKind.i64.wrap (((n/4:Nat):Int)*1)=((n/4:Nat):Int):=by rw[Gg oM];omega
 have w2:IntKind.i64.wrap (((n/4:Nat):Int)*2)=((n/4*2:Nat):Int):=by rw[Gg oM];omega
 have w3:IntKind.i64.wrap (((n/4:Nat):Int)*3)=((n/4*3:Nat):Int):=by rw[Gg oM];omega
 have w4:IntKind.i64.wrap ((n/4:Nat):Int)=((n/4:Nat):Int):=Gg oM
 have z1:IntKind.i64.wrap (0+((n/4:Nat):Int))=((n/4:Nat):Int):=by rw[Gg oM];omega
 have z2:IntKind.i64.wrap (0+((n/4*2:Nat):Int))=((n/4*2:Nat):Int):=by rw[Gg oM];omega
 have z3:IntKind.i64.wrap (0+((n/4*3:Nat):Int))=((n/4*3:Nat):Int):=by rw[Gg oM];omega
 have c8:decide ((n:Int)≥8)=true:=Gz oM
 by_cases c:n≥50
 ·have c5:decide ((n:Int)≥50)=true:=Gz oM
  obtain⟨X1,e1,g1⟩:=BX (a:=n/4) (sw:=.ptr H.length 0) qX o oM oM oM
  obtain⟨X2,e2,g2⟩:=BX (a:=n/4*2) (sw:=.ptr H.length 0) (At.keeps qX g1) o oM oM oM
  obtain⟨X3,e3,g3⟩:=BX (a:=n/4*3) (sw:=.ptr H.length 0) (At.keeps qX (g1.trans g2)) o oM oM oM
  have Gni:=(g1.trans g2).trans g3
  obtain⟨X4,e4,g4⟩:=median (a:=n/4) (b:=n/4*2) (c:=n/4*3) (sw:=.ptr H.length 0) (At.keeps qX Gni) o oM oM oM
  have t4:=Gr.get (Gni.trans g4) tX
  refine⟨n/4*2,X4,?_,gX.trans (Gni.trans g4)⟩
  rw[Gh Gor _ _ sM]
  simp(disch:=first|exact dz|fail) only[simprocAttr,Gs,↓reduceIte,Ub,w0,d4,w1,w2,w3,w4,z1,z2,z3,c8,c5,@Ji,←hX,e1,e2,e3,e4,t4]
  try rfl
 ·have c5:decide ((n:Int)≥50)=false:=Gw oM
  obtain⟨X4,e4,g4⟩:=median (a:=n/4) (b:=n/4*2) (c:=n/4*3) (sw:=.ptr H.length 0) qX o oM oM oM
  have t4:=Gr.get g4 tX
  refine⟨n/4*2,X4,?_,gX.trans g4⟩
  rw[Gh Gor _ _ sM]
  simp(disch:=first|exact dz|fail) only[simprocAttr,Gs,↓reduceIte,Ub,w0,d4,w1,w2,w3,w4,z1,z2,z3,c8,c5,@Ji,←hX,e4,t4]
  try rfl
theorem Gjy(q:QL k H v W)(o:Ord W)(hl:W.length≤300){E0:Env}(e0:E0 0=v)(e2:E0 2=.i W.length)(e3:E0 3=Fu)(e9:E0 9=.i 1)(hn:1≤W.length){r:Option (CX×Env×Gb)}(hr:den P (.loop OC) E0 H=r):
  ∃E' H',r=some (.exit 2,E',H')∧Gr H H'∧E' 9=.i W.length∧∀t,t∉wr OC→E' t=E0 t:=by
 obtain⟨x',E',H',e,-,⟨rfl,g,h9⟩,fr⟩:=Gq (p:=P) (c:=OC) (E0:=E0) (H0:=H)
  (fun q E H'=>Gr H H'∧∃j:Nat,E 9=.i j∧1≤j∧j≤W.length∧q=W.length-j) (fun x E' H'=>x=.exit 2∧Gr H H'∧E' 9=.i W.length) (by
   rintro q' E H' hE ⟨g,j,e9,hj,hj2,rfl⟩
   have e0:=(hE 0 dK).trans e0
   have e2:=(hE 2 dK).trans e2
   have e3:=(hE 3 dK).trans e3
   by_cases c:j<W.length
   ·have c':decide ((j:Int)<(W.length:Int))=true:=Gz oM
    obtain⟨x,hx⟩:∃x,W[j]?=some x:=⟨_,Jr c⟩
    obtain⟨y,hy⟩:∃y,W[j-1]?=some y:=⟨_,Jr oM⟩
    obtain⟨b,-,i1,i2,i3⟩:=QL.row (At.keeps q g:QL k H' v W) hx
    obtain⟨b',-,j1,j2,j3⟩:=QL.row (At.keeps q g:QL k H' v W) hy
    obtain⟨X,d1,g1⟩:=GbD o hx hy H'
    have w1:IntKind.i64.wrap ((j:Int)-1)=((j-1:Nat):Int):=by rw[Gg oM];omega
    have w2:IntKind.i64.wrap ((j:Int)+1)=((j+1:Nat):Int):=Gg oM
    have hlt:=o.lt (i:=j-1) (j:=j) oM hy hx
    have c2:decide (x.1-y.1<0)=false:=Gw oM
    apply Gm (k':=W.length-(j+1))
    ·simp(disch:=first|exact dz|fail) only[simprocAttr,Gs,↓reduceIte,e0,e2,e3,e9,c',w1,w2,i1,j1,i2,j2,i3,j3,d1,c2]
     rfl
    ·omega
    ·exact⟨g.trans g1,j+1,uA,oM,oM,rfl⟩
   ·have c':decide ((j:Int)<(W.length:Int))=false:=Gw oM
    have hjj:j=W.length:=by omega
    apply Gi (x:=.exit 2)
    ·simp(disch:=first|exact dz|fail) only[simprocAttr,Gs,↓reduceIte,e0,e2,e3,e9,c']
     rfl
    ·simp
    ·exact⟨rfl,g,by simp[Gc,e9,hjj]⟩) _ ⟨Keeps.refl _ _,1,e9,Nat.le_refl _,hn,rfl⟩
 exact⟨E',H',hr.symm.trans e,g,h9,fr⟩
theorem Gke(q:QL k H v W)(o:Ord W)(hl:W.length≤300){E0:Env}(e0:E0 0=v)(e2:E0 2=.i W.length)(e3:E0 3=Fu)(e9:E0 9=.i 1)(e10:E0 10=.i 0)(hn:1≤W.length){r:Option (CX×Env×Gb)}(hr:den P (.loop MN) E0 H=r):
  ∃E' H',r=some (.ret,E',H')∧Gr H H'∧E' 8=.bool true:=by
 obtain⟨x',E',H',e,-,⟨rfl,g,h8⟩,fr⟩:=Gq (p:=P) (c:=MN) (E0:=E0) (H0:=H)
  (fun q E H'=>H'=H∧E 9=.i 1∧E 10=.i 0) (fun x E' H'=>x=.ret∧Gr H H'∧E' 8=.bool true) (by
   rintro q' E H' hE ⟨rfl,e9,e10⟩
   have e0:=(hE 0 dK).trans e0
   have e2:=(hE 2 dK).trans e2
   have e3:=(hE 3 dK).trans e3
   suffices fin:∃E' X,den P MN E H'=some (.ret,E',X)∧Gr H' X∧E' 8=.bool true by
    obtain⟨E',X,f1,f2,f3⟩:=fin
    exact Gi f1 sM ⟨rfl,f2,f3⟩
   have c5:decide ((0:Int)<5)=true:=by decide
   refine W2 e10 c5 ?_
   generalize hr:den P (.loop OC) _ _=r
   obtain⟨E2,X,rfl,g2,h9,f2⟩:=Gjy q o hl (by simp[Gc,e0]) (by simp[Gc,e2]) (by simp[Gc,e3]) (by simp[Gc,e9]) hn hr
   have b2:=f2 2 dK
   simp only[Gc,Nat.reduceEqDiff,↓reduceIte,e2]at b2
   have cc:((W.length:Int)==(W.length:Int))=true:=by simp
   refine W3 b2 h9 cc ?_
   exact⟨_,_,rfl,g2,uA⟩) 0 ⟨rfl,e9,e10⟩
 exact⟨E',H',hr.symm.trans e,g,h8⟩
theorem Gem(q:QL k H v W)(o:Ord W)(hl:W.length≤300)(hn:1≤W.length):∃H',run P 284 [v,.i 0,.i W.length,Fu] H=some (.bool true,H')∧Gr H H':=by
 rw[Gh GsL _ _ sM]
 have w1:IntKind.i64.wrap ((0:Int)+1)=1:=by decide
 refine W1 w1 ?_
 generalize hr:den P (.loop MN) _ _=r
 obtain⟨E2,X,rfl,g2,h8⟩:=Gke q o hl uA uA uA uA uA hn hr
 exact⟨X,by exact V1 h8,g2⟩
theorem bits_Len{n:Nat}(h:n<256):∃m:Int,run P 221 [.int .u64 n] H=some (.i m,H)∧(1≤n→m≠0):=by
 have c1:decide ((n:Int)≥4294967296)=false:=Gw oM
 have c2:decide ((n:Int)≥65536)=false:=Gw oM
 have c3:decide ((n:Int)≥256)=false:=Gw oM
 have u8:IntKind.u8.wrap (n:Int)=n:=by
  have e:((2:Int) ^ (8:Nat))=256:=by decide
  simp only[IntKind.wrap,IntKind.bits,IntKind.signed,e,Bool.false_and,Bool.false_eq_true,if_false]
  omega
 have h0:=fun h1=>len8 n h h1
 obtain⟨l,hl⟩:∃l:List Nat,l=[0,1,2,2,3,3,3,3,4,4,4,4,4,4,4,4,5,5,5,5,5,5,5,5,5,5,5,5,5,5,5,5]++List.replicate 32 6++List.replicate 64 7++List.replicate 128 8:=⟨_,rfl⟩
 have ll:l.length=256:=by rw[hl];decide +kernel
 have l8:∀x∈l,x≤8:=by rw[hl];decide +kernel
 rw[←hl]at h0
 have hm:l.getD n 0≤8:=by
  rw[Bo,Jr oM]
  exact l8 _ (List.getElem_mem _)
 obtain⟨m,hmm⟩:∃m,m=l.getD n 0:=⟨_,rfl⟩
 rw[←hmm]at h0 hm
 have w1:IntKind.i64.wrap (m:Int)=(m:Int):=Gg oM
 have w2:IntKind.i64.wrap (0+(m:Int))=(m:Int):=by rw[Gg oM];omega
 have key:run P 275 [.int .u64 n] H=some (.i m,H):=by
  rw[Gh Gtg _ _ sM]
  have ix:∀(F:GQ)(E:Env)(X:Gb),E 21=.int .u8 (n:Int)→JY F (.Fg l (.tmp 21)) E X=some (.int .u8 (m:Int),X):=fun F E X h=>by
   rw[Gaj (by rw[EX];exact h) oM,Kt,hmm]
  have e8:([0,1,2,2,3,3,3,3,4,4,4,4,4,4,4,4,5,5,5,5,5,5,5,5,5,5,5,5,5,5,5,5]++List.replicate 32 6++List.replicate 64 7++List.replicate 128 8:List Nat)=l:=hl.symm
  simp only[List.replicate,List.cons_append,List.nil_append]at e8
  rw[e8]
  simp(disch:=first|exact dz|fail) only[simprocAttr,Gs,↓reduceIte,Ub,c1,c2,c3,u8,@Ke,@KL]
  rw[ix _ _ _ uA]
  simp(disch:=first|exact dz|fail) only[simprocAttr,Gs,↓reduceIte,w1,w2,@Ke,@KL]
  try rfl
 refine⟨m,?_,fun h1=>by have:=h0 h1;omega⟩
 rw[Gh Gs4 _ _ sM]
 exact V1 key
theorem Gpq(q:QL k H v W)(o:Ord W)(hl:W.length≤255){lim:Int}(hlim:1≤W.length→lim≠0){E0:Env}(e0:E0 0=v)(e1:E0 1=.i 0)(e2:E0 2=.i W.length)(e3:E0 3=.i lim)(e4:E0 4=Fu)(e10:E0 10=.bool true)(e11:E0 11=.bool true){r:Option (CX×Env×Gb)}(hr:den P (.loop SC) E0 H=r):
  ∃E' H',r=some (.ret,E',H')∧Gr H H':=by
 obtain⟨x',E',H',e,-,⟨rfl,g⟩,fr⟩:=Gq (p:=P) (c:=SC) (E0:=E0) (H0:=H)
  (fun q E H'=>H'=H∧E 1=.i 0∧E 2=.i W.length∧E 3=.i lim∧E 10=.bool true∧E 11=.bool true) (fun x E' H'=>x=.ret∧Gr H H') (by
   rintro q' E H' hE ⟨rfl,e1,e2,e3,e10,e11⟩
   have e0:=(hE 0 dK).trans e0
   have e4:=(hE 4 dK).trans e4
   have w0:IntKind.i64.wrap ((W.length:Int)-0)=(W.length:Int):=by rw[Gg oM];omega
   by_cases c:W.length≤12
   ·have c':decide ((W.length:Int)≤12)=true:=Gz oM
    obtain⟨X,d1,g1⟩:=GgR q o oM
    apply Gi (x:=.ret)
    ·refine W7 e0 e1 e2 e4 w0 c' d1 ?_
     rfl
    ·simp
    ·exact⟨rfl,g1⟩
   ·have c':decide ((W.length:Int)≤12)=false:=Gw oM
    have c0:(lim==0)=false:=by simpa using hlim oM
    obtain⟨m,X,d1,g1⟩:=Tz q o oM oM
    obtain⟨X2,d2,g2⟩:=Gem (At.keeps q g1) o oM oM
    have n12:((1:Int)==2)=false:=by decide
    have n11:((1:Int)==1)=true:=by decide
    apply Gi (x:=.ret)
    ·simp(disch:=first|exact dz|fail) only[simprocAttr,Gs,↓reduceIte,Ub,e0,e1,e2,e3,e4,e10,e11,w0,c',c0,d1,d2,n12,n11]
     rfl
    ·simp
    ·exact⟨rfl,g1.trans g2⟩) 0 ⟨rfl,e1,e2,e3,e10,e11⟩
 exact⟨E',H',hr.symm.trans e,g⟩
theorem slices_SortFunc(q:QL k H v W)(o:Ord W)(hl:W.length≤255):∃H',run P 149 [v,Fu] H=some (.Jj [],H')∧Gr H H':=by
 have hvl:=q.len H
 obtain⟨lim,h1,h2⟩:=bits_Len (H:=H) (n:=W.length) oM
 have uc:IntKind.u64.wrap (W.length:Int)=(W.length:Int):=EZ oM
 have hp:∃H',run P 228 [v,.i 0,.i W.length,.i lim,Fu] H=some (.Jj [],H')∧Gr H H':=by
  rw[Gh c228 _ _ sM]
  simp(disch:=first|exact dz|fail) only[simprocAttr,Gs,↓reduceIte,Ub]
  generalize hr:den P (.loop SC) _ _=r
  obtain⟨E2,X,rfl,g2⟩:=Gpq q o hl h2 uA uA uA uA uA uA uA hr
  exact⟨X,by exact W0,g2⟩
 obtain⟨X,d1,g1⟩:=hp
 refine⟨X,?_,g1⟩
 rw[Gh Gup _ _ sM]
 exact V6 hvl @Ke @KL uc h1 d1
end
end Go.Cs.Tryz
namespace Go.Cs.Tryz
open Go Go.Cs A
abbrev F7:Gn:=T [b 25 .lss 24 23] (S (J 25 (X 0)) (S (B 1 (T [m 26 24,m 8 26] (S (D [⟨l 27 1 4,0,1,0⟩,⟨m 28 8,1,0,0⟩,⟨x 29 1 27 28,2,0,0⟩,⟨l 30 1 29,3,1,0⟩,⟨bk 31 .leq 30 0,4,0,0⟩,⟨m 32 31,5,0,0⟩,⟨gf 32 (l 33 1 5),6,1,0⟩,⟨gf 32 (m 34 8),7,0,0⟩,⟨gf 32 (x 35 1 33 34),8,0,0⟩,⟨gf 32 (l 36 1 35),9,1,0⟩,⟨gf 32 (bk 37 .leq 36 0),10,0,0⟩,⟨or 38 32 37,11,0,0⟩,⟨m 39 38,12,0,0⟩,⟨gf 39 (m 40 8),13,0,0⟩,⟨gf 39 (bk 41 .gtr 40 0),14,0,0⟩,⟨gf 39 (m 42 41),15,0,0⟩,⟨gt 42 (l 43 1 4),16,1,0⟩,⟨gt 42 (m 44 8),17,0,0⟩,⟨gt 42 (x 45 1 43 44),18,0,0⟩,⟨gt 42 (l 46 1 45),19,1,0⟩,⟨gt 42 (l 47 1 4),20,1,0⟩,⟨gt 42 (m 48 8),21,0,0⟩,⟨gt 42 (bk 49 .sub 48 1),22,0,0⟩,⟨gt 42 (x 50 1 47 49),23,0,0⟩,⟨gt 42 (l 51 1 50),24,1,0⟩,⟨gt 42 (b 52 .leq 46 51),25,0,0⟩,⟨gf 39 (an 53 42 52),26,0,0⟩,⟨or 54 39 53,27,0,0⟩]) (I 54 (Q [n 6 0,n 7 1]))))) (R [bk 55 .add 24 1,m 24 55])))
def GrL:Gj:=⟨78,0,T [bo 4 1,bo 5 2,n 6 0,n 7 0] (S (T [m 14 0,q1 15 161 14,no 16 15] (I 16 (Q [n 6 0,n 7 5]))) (S (T [l 17 1 4,le 18 17,l 19 1 5,le 20 19,b 21 .neq 18 20] (I 21 (Q [n 6 0,n 7 1]))) (S (T [l 22 1 4,le 23 22,n 24 0] (B 0 (W F7))) (T [e 9 (.new [i 0]),u (.store 1 (t 9) (k 0))] (S (T [m 56 0,q1 57 169 56] (B 2 (.Nc (t 57) [58,59] 78 4832))) (Q [l 77 1 9,m 6 77,n 7 0])))))),[r 6,r 7]⟩
theorem Gsi:P 151=some GrL:=by kernel_rfl
def GgJ:Gj:=⟨78,1,R [m 11 59],[]⟩
theorem Gi3:P 1004832=some GgJ:=by kernel_rfl
def Gha:Gj:=⟨78,2,B 3 (S (D [⟨l 61 1 4,0,1,0⟩,⟨m 62 11,1,0,0⟩,⟨z 63 62,2,0,0⟩,⟨l 64 1 63,3,1,0⟩,⟨q2 65 229 61 64,4,3,0⟩,⟨m 60 65,5,0,1⟩,⟨ex 66 60 0,6,0,1⟩,⟨ex 67 60 1,7,0,1⟩,⟨m 12 66,8,0,1⟩,⟨m 13 67,9,0,1⟩]) (T [m 68 13] (I 68 (T [m 69 11,l 70 1 5,m 71 12,x 72 1 70 71,l 73 1 72,z 74 69,st 1 74 73] (R [l 75 1 9,bk 76 .add 75 1,st 1 9 76]))))),[]⟩
theorem Xl:P 1004833=some Gha:=by kernel_rfl
end Go.Cs.Tryz
namespace Go.Cs
open Go
theorem Rt.Ok.setAt{R:Rt}(k:R.Ok)(x:Nat×Nat){v:Int}(hv:0<v∧v≤9223372036854775807):(R.setAt x v).Ok:=by
 unfold Rt.setAt
 split
 ·refine⟨by rw[YS];exact k.ns,fun l hl=>?_,k.g16,k.FV,fun l hl w hw=>?_,k.vg,k.vq⟩
  ·rcases Za hl with h|⟨y,hy,rfl⟩
   ·exact k.s16 l h
   ·rw[List.length_set];exact k.s16 y hy
  ·rcases Za hl with h|⟨y,hy,rfl⟩
   ·exact k.vs l h w hw
   ·rcases List.mem_or_eq_of_mem_set hw with h|h
    ·exact k.vs y hy w h
    ·subst h;omega
 ·split
  ·refine⟨k.ns,k.s16,by rw[List.length_set];exact k.g16,k.FV,k.vs,fun w hw=>?_,k.vq⟩
   rcases List.mem_or_eq_of_mem_set hw with h|h
   ·exact k.vg w h
   ·subst h;omega
  ·refine⟨k.ns,k.s16,k.g16,by rw[List.length_set];exact k.FV,k.vs,k.vg,fun w hw=>?_⟩
   rcases List.mem_or_eq_of_mem_set hw with h|h
   ·exact k.vq w h
   ·omega
theorem Rt.Gg5{R:Rt}(x:Nat×Nat)(v:Int):(R.setAt x v).slots.length=R.slots.length:=by
 unfold Rt.setAt
 split
 ·simp
 ·split<;>rfl
def TR(R:Rt)(f:Int→Int)(D:List (Nat×Nat×Int)):Rt:=D.foldl (fun R x=>R.setAt (x.1,x.2.1) (f x.2.2)) R
theorem DW{R:Rt}{f:Int→Int}{D:List (Nat×Nat×Int)}{x:Nat×Nat×Int}:TR R f (D++[x])=(TR R f D).setAt (x.1,x.2.1) (f x.2.2):=by
 unfold TR
 rw[List.foldl_append];rfl
def AtR(R:Rt)(x:Nat×Nat×Int):Prop:=x.1≤2∧(R.li x.1)[x.2.1]?=some x.2.2∧x.2.2≠0
theorem Rt.DI{R:Rt}{x:Nat×Nat×Int}(h:x∈R.vis):AtR R x:=by
 unfold Rt.vis at h
 simp only[K_,Qk]at h
 rcases h with⟨a,b,c⟩|⟨a,b,c⟩|⟨a,b,c⟩<;>exact⟨oM,by rw[a];exact b,c⟩
theorem Rt.Gmg{R:Rt}{l j:Nat}{v:Int}(hl:l≤2)(h:(R.li l)[j]?=some v) (hv:v≠0):(l,j,v)∈R.vis:=by
 unfold Rt.vis
 simp only[K_,Qk]
 match l,hl with
 |0,_=>exact .inl ⟨rfl,h,hv⟩
 |1,_=>exact .inr (.inl ⟨rfl,h,hv⟩)
 |2,_=>exact .inr (.inr ⟨rfl,h,hv⟩)
structure Ql(R:Rt)(f:Int→Int)(D:List (Nat×Nat×Int)):Prop where
 ok:(TR R f D).Ok
 ns:(TR R f D).slots.length=R.slots.length
 li:∀i,i≤2→∀j,((TR R f D).li i)[j]?=if∃x∈D,x.1=i∧x.2.1=j then((R.li i)[j]?).map f else(R.li i)[j]?
open Classical in
theorem Ql.snoc{R:Rt}{f:Int→Int}{D:List (Nat×Nat×Int)}{x:Nat×Nat×Int}(kR:R.Ok)(h:Ql R f D)(hx:AtR R x)(hf:0<f x.2.2∧f x.2.2≤9223372036854775807):
  Ql R f (D++[x])∧x.2.1<((TR R f D).li x.1).length∧(x.1=0→x.2.1/16<(TR R f D).slots.length):=by
 have hlen:∀i,i≤2→((TR R f D).li i).length=(R.li i).length:=fun i hi=>by
  refine Nat.le_antisymm ?_ ?_
  ·refine Nat.le_of_not_lt fun hc=>?_
   have:=h.li i hi (R.li i).length
   rw[Jr hc,lX9 (Nat.le_refl _)]at this
   split at this<;>cases this
  ·refine Nat.le_of_not_lt fun hc=>?_
   have:=h.li i hi ((TR R f D).li i).length
   rw[lX9 (Nat.le_refl _),Jr hc]at this
   split at this<;>cases this
 have h1:=Gf hx.2.1
 have h2:x.2.1<((TR R f D).li x.1).length:=by rw[hlen _ hx.1];exact h1
 have h0:x.1=0→x.2.1/16<(TR R f D).slots.length:=fun e=>by
  rw[h.ns]
  rw[e]at h1
  have h1':x.2.1<R.flat.length:=h1
  rw[kR.K8]at h1'
  omega
 refine⟨⟨?_,?_,fun i hi j=>?_⟩,h2,h0⟩
 ·rw[DW];exact h.ok.setAt _ hf
 ·rw[DW,Rt.Gg5,h.ns]
 ·rw[DW,Rt.DU h.ok (x:=(x.1,x.2.1)) hx.1 h0 _ i hi]
  dsimp only
  by_cases c:i=x.1
  ·subst c
   rw[if_pos rfl,Ig]
   by_cases c2:x.2.1=j
   ·subst c2
    rw[if_pos rfl,if_pos h2,if_pos ⟨x,sM,rfl,rfl⟩,hx.2.1];rfl
   ·rw[if_neg c2,h.li _ hi]
    have:(∃y∈D++[x],y.1=x.1∧y.2.1=j)↔∃y∈D,y.1=x.1∧y.2.1=j:=by
     constructor
     ·rintro ⟨y,hy,e1,e2⟩
      rcases K_.1 hy with hy|hy
      ·exact⟨y,hy,e1,e2⟩
      ·rw[Ad]at hy;subst hy;exact absurd e2 c2
     ·rintro ⟨y,hy,e⟩
      exact⟨y,K_.2 (.inl hy),e⟩
    simp only[this]
  ·rw[if_neg c,h.li _ hi]
   have:(∃y∈D++[x],y.1=i∧y.2.1=j)↔∃y∈D,y.1=i∧y.2.1=j:=by
    constructor
    ·rintro ⟨y,hy,e1,e2⟩
     rcases K_.1 hy with hy|hy
     ·exact⟨y,hy,e1,e2⟩
     ·rw[Ad]at hy;subst hy;exact absurd e1.symm c
    ·rintro ⟨y,hy,e⟩
     exact⟨y,K_.2 (.inl hy),e⟩
   simp only[this]
theorem Ql.zero{R:Rt}{f:Int→Int}(k:R.Ok):Ql R f []:=⟨k,rfl,fun i _ j=>by rw[if_neg (by rintro ⟨x,h,-⟩;cases h)];rfl⟩
theorem Ql.take{R:Rt}{f:Int→Int}(k:R.Ok)(hf:∀y∈R.vis,0<f y.2.2∧f y.2.2≤9223372036854775807):∀n,n≤R.vis.length→Ql R f (R.vis.take n)
 |0,_=>Ql.zero k
 |n+1,h=>by
  have hx:R.vis[n]?=some R.vis[n]:=Jr oM
  rw[Nl,hx]
  have hy:R.vis[n]∈R.vis:=List.getElem_mem _
  exact(Ql.snoc k (Ql.take k hf n oM) (Rt.DI hy) (hf _ hy)).1
theorem Ql.pre{R:Rt}{f:Int→Int}(k:R.Ok)(hf:∀y∈R.vis,0<f y.2.2∧f y.2.2≤9223372036854775807){D:List (Nat×Nat×Int)}(h:D<+:R.vis):Ql R f D:=by
 rw[List.prefix_iff_eq_take.1 h]
 exact Ql.take k hf _ h.length_le
theorem Rt.Ok.Gc7{R:Rt}(k:R.Ok){y:Nat×Nat×Int}(hy:y∈R.vis):0<y.2.2∧y.2.2≤9223372036854775807:=by
 obtain⟨a1,a2,a3⟩:=Rt.DI hy
 have hm:=JV a2
 have:0≤y.2.2∧y.2.2≤9223372036854775807:=by
  revert hm
  match hy1:y.1,(by omega:y.1≤2)with
  |0,_=>intro hm;obtain⟨l,l1,l2⟩:=List.mem_flatten.1 hm;exact k.vs l l1 _ l2
  |1,_=>exact fun hm=>k.vg _ hm
  |2,_=>intro hm;have:=k.vq _ hm;omega
 omega
def Rt.ren(R:Rt)(f:Int→Int):Rt:=⟨R.slots.map fun l=>l.map f,R.glob.map f,R.queue.map f⟩
theorem Rt.Ggb(R:Rt)(f:Int→Int):∀i,(R.ren f).li i=(R.li i).map f
 |0=>by show(R.slots.map fun l=>l.map f).flatten=R.slots.flatten.map f;rw[List.map_flatten]
 |1=>rfl
 |_+2=>rfl
theorem Rt.Ok.ren{R:Rt}(k:R.Ok){f:Int→Int}(h0:f 0=0)(hf:∀x,0<x→x≤9223372036854775807→0<f x∧f x≤9223372036854775807):(R.ren f).Ok where
 ns:=by unfold Rt.ren;rw[QY];exact k.ns
 s16:=fun l hl=>by obtain⟨y,hy,rfl⟩:=KI.1 hl;rw[QY];exact k.s16 y hy
 g16:=by unfold Rt.ren;rw[QY];exact k.g16
 FV:=by unfold Rt.ren;rw[QY];exact k.FV
 vs:=fun l hl v hv=>by
  obtain⟨y,hy,rfl⟩:=KI.1 hl
  obtain⟨z,hz,rfl⟩:=KI.1 hv
  have:=k.vs y hy z hz
  by_cases c:z=0
  ·rw[c,h0];omega
  ·have:=hf z oM oM;omega
 vg:=fun v hv=>by
  obtain⟨z,hz,rfl⟩:=KI.1 hv
  have:=k.vg z hz
  by_cases c:z=0
  ·rw[c,h0];omega
  ·have:=hf z oM oM;omega
 vq:=fun v hv=>by
  obtain⟨z,hz,rfl⟩:=KI.1 hv
  have:=k.vq z hz
  exact hf z oM oM
theorem JL.same{o:Tags}{H:Gb}{rb:Nat}{R R':Rt}{v:Nat→CV}(m:JL o H rb R v)(hn:R'.slots.length=R.slots.length)(hl:∀i,i≤2→R'.li i=R.li i):JL o H rb R' v:=
 ⟨m.dom,m.top,by rw[hn];exact m.cells,fun i hi=>by rw[hl i hi];exact m.li i hi⟩
theorem Ql.all{R:Rt}{f:Int→Int}(h0:f 0=0)(h:Ql R f R.vis):(R.ren f).slots.length=(TR R f R.vis).slots.length∧∀i,i≤2→(R.ren f).li i=(TR R f R.vis).li i:=by
 refine⟨by rw[h.ns];simp[Rt.ren],fun i hi=>List.ext_getElem? fun j=>?_⟩
 rw[h.li i hi,Rt.Ggb,Kr]
 split
 ·rfl
 ·rename_i c
  cases e:(R.li i)[j]? with
  |none=>rfl
  |some v=>
   by_cases cv:v=0
   ·rw[cv,Option.map_some,h0]
   ·exact absurd ⟨_,Rt.Gmg hi e cv,rfl,rfl⟩ c
def Vr(from_ to:List Int)(x:Int):Int:=match(from_.zip to).find? fun m=>m.1==x with
 |some m=>m.2
 |none=>x
theorem II{from_ to:List Int}{x y:Int}{i:Nat}(hs:Uc from_)(hf:from_[i]?=some x) (ht:to[i]?=some y):Vr from_ to x=y:=by
 unfold Vr
 have hz:(from_.zip to)[i]?=some (x,y):=by
  rw[List.getElem?_zip_eq_some];exact⟨hf,ht⟩
 cases e:(from_.zip to).find? fun m=>m.1==x with
 |none=>
  rw[List.find?_eq_none]at e
  exact absurd (e (x,y) (JV hz)) sM
 |some m=>
  have h1:=Lp e
  have h2:=List.mem_of_find?_eq_some e
  obtain⟨j,hj⟩:=List.mem_iff_getElem?.1 h2
  rw[List.getElem?_zip_eq_some]at hj
  have hx:m.1=x:=by simpa using h1
  rw[hx]at hj
  have:i=j:=by
   rcases Nat.lt_trichotomy i j with c|c|c
   ·have:=Jg hs c hf hj.1;omega
   ·exact c
   ·have:=Jg hs c hj.1 hf;omega
  subst this
  rw[ht]at hj
  exact(Option.some.inj hj.2).symm
theorem Dn{from_ to:List Int}{x:Int}(h:x∉from_):Vr from_ to x=x:=by
 unfold Vr
 cases e:(from_.zip to).find? fun m=>m.1==x with
 |none=>rfl
 |some m=>
  have h1:=Lp e
  have h2:=List.mem_of_find?_eq_some e
  have hx:m.1=x:=by simpa using h1
  exact absurd (by rw[←hx];exact(List.of_mem_zip h2).1) h
end Go.Cs
namespace Go.Cs.Tryz
open Go Go.Cs
section
variable {H : Gb} {o : Tags} {rb : Nat} {R : Rt} {v : Nat → CV}
theorem Gjm{vf vt:CV}{fr to:List Int}(hf:LI H vf fr)(ht:LI H vt to)(hl:to.length=fr.length)(hs:Uc fr)(hp:∀x∈fr,0<x)(hq:∀x∈to,0<x)(hn:fr.length≤100000){c4 c5:Nat}(t4:H[c4]?=some ⟨[vf],.rw,0⟩) (t5:H[c5]?=some ⟨[vt],.rw,0⟩)
  {E0:Env} (h4:E0 4=.ptr c4 0) (h5:E0 5=.ptr c5 0) (h23:E0 23=.i fr.length) (h24:E0 24=.i 0) {r:Option (CX×Env×Gb)} (hr:den P (.loop F7) E0 H=r):
  ∃E',r=some (.exit 0,E',H)∧∀t,t∉wr F7→E' t=E0 t:=by
 obtain⟨x',E',H',e,-,⟨rfl,rfl⟩,fr'⟩:=Gq (p:=P) (c:=F7) (E0:=E0) (H0:=H)
  (fun q E H'=>H'=H∧∃j:Nat,E 24=.i j∧j≤fr.length∧q=fr.length-j)
  (fun x E' H'=>x=.exit 0∧H'=H) (by
   rintro q E H' hE ⟨rfl,j,e24,hj,rfl⟩
   have e4:=(hE 4 dK).trans h4
   have e5:=(hE 5 dK).trans h5
   have e23:=(hE 23 dK).trans h23
   by_cases c:j<fr.length
   ·have c':decide ((j:Int)<(fr.length:Int))=true:=Gz oM
    have w1:IntKind.i64.wrap ((j:Int)+1)=((j+1:Nat):Int):=Gg oM
    obtain⟨x,hx⟩:∃x,fr[j]?=some x:=⟨_,Jr c⟩
    obtain⟨y,hy⟩:∃y,to[j]?=some y:=⟨_,Jr oM⟩
    obtain⟨b,ox,-,i2,i3⟩:=hf.at hx
    obtain⟨b',oy,-,j2,j3⟩:=ht.at hy
    have Yg:=i3 H' (Keeps.refl _ _)
    have j3':=j3 H' (Keeps.refl _ _)
    have cx:decide (x≤0)=false:=Gw (by have:=hp x (JV hx);omega)
    have cy:decide (y≤0)=false:=Gw (by have:=hq y (JV hy);omega)
    suffices fin:∃E',den P F7 E H'=some (.normal,E',H')∧E' 24=.i ((j+1:Nat):Int)by
     obtain⟨E',f1,f2⟩:=fin
     exact Gm f1 (k':=fr.length-(j+1)) oM ⟨rfl,j+1,f2,oM,rfl⟩
    by_cases c0:j=0
    ·have cj:decide ((j:Int)>0)=false:=Gw oM
     simp(disch:=first|exact dz|fail) only[simprocAttr,Gs,↓reduceIte,e4,e5,e23,e24,c',t4,t5,i2,j2,Yg,j3',cx,cy,cj,w1]
     exact⟨_,rfl,uA⟩
    ·have cj:decide ((j:Int)>0)=true:=Gz oM
     have w2:IntKind.i64.wrap ((j:Int)-1)=((j-1:Nat):Int):=by rw[Gg oM];omega
     obtain⟨z,hz⟩:∃z,fr[j-1]?=some z:=⟨_,Jr oM⟩
     obtain⟨b2,oz,-,k2,k3⟩:=hf.at hz
     have k3':=k3 H' (Keeps.refl _ _)
     have hlt:z<x:=Jg hs (i:=j-1) (j:=j) oM hz hx
     have cz:decide (x≤z)=false:=Gw oM
     simp(disch:=first|exact dz|fail) only[simprocAttr,Gs,↓reduceIte,e4,e5,e23,e24,c',t4,t5,i2,j2,Yg,j3',cx,cy,cj,w1,w2,k2,k3',cz]
     exact⟨_,rfl,uA⟩
   ·have c':decide ((j:Int)<(fr.length:Int))=false:=Gw oM
    apply Gi (x:=.exit 0)
    ·refine W3 e23 e24 c' ?_
     rfl
    ·simp
    ·exact⟨rfl,rfl⟩) _ ⟨rfl,0,h24,oM,rfl⟩
 exact⟨E',hr.symm.trans e,fr'⟩
def GkM(o:Tags)(rb:Nat)(R:Rt)(v:Nat→CV)(fr to:List Int)(k0 b c4 c5 c9:Nat)(vf vt:CV)(ps env:List CV)(D:List (Nat×Nat×Int))(W:Nat→Prop)(H:Gb):Prop:=
 D<+:R.vis∧∃n:Nat,n≤D.length∧H[b]?=some (G9 0 ps env 4832)∧H[c9]?=some ⟨[.i n],.rw,0⟩∧H[c4]?=some ⟨[vf],.rw,0⟩∧H[c5]?=some ⟨[vt],.rw,0⟩∧IL k0 H vf fr∧IL k0 H vt to∧
  JL o H rb (TR R (Vr fr to) D) v∧(∀c,W c↔c=b∨c=c9∨o c≠none)
theorem GjJ{fr to:List Int}{k0 b c4 c5 c9:Nat}{vf vt:CV}{env:List CV}(he:env.length=78)(h4:entry env 4=.ptr c4 0)(h5:entry env 5=.ptr c5 0)(h9:entry env 9=.ptr c9 0)(k:R.Ok)
  (hk0:∀c t,o c=some t→c<k0)(hk:k0≤c4∧k0≤c5∧k0≤c9∧k0≤b∧b≠c4∧b≠c5∧b≠c9∧c9≠c4∧c9≠c5)
  (hl:to.length=fr.length)(hs:Uc fr)(hq:∀x∈to,0<x∧x≤9223372036854775807)(hn:fr.length≤100000):
  Yields b v R (GkM o rb R v fr to k0 b c4 c5 c9 vf vt [.i 58,.i 59] env) where
 gr:=fun D W H' Da=>by
  rintro ⟨np,n,n1,n2,n3,n4,n5,n6,n7,n8,n9⟩ g
  exact⟨np,n,n1,g.get n2,g.get n3,g.get n4,g.get n5,At.keeps n6 g,At.keeps n7 g,n8.gr g,n9⟩
 go:=fun D W H' x=>by
  rintro ⟨np,n,n1,n2,n3,n4,n5,n6,n7,n8,n9⟩ hx hp hl2
  obtain⟨q1,q2,q3,q4,q5,q6,q7,q8,q9⟩:=hk
  have hvl:=k.Uw
  have hDl:=hp.length_le
  rw[Qi]at hDl
  have xin:x∈R.vis:=hp.subset sM
  have xat:=Rt.DI xin
  have Gdw:∀y∈R.vis,0<Vr fr to y.2.2∧Vr fr to y.2.2≤9223372036854775807:=fun y hy=>by
   by_cases c:y.2.2∈fr
   ·obtain⟨i,hi⟩:=List.mem_iff_getElem?.1 c
    obtain⟨z,hz⟩:∃z,to[i]?=some z:=⟨_,Jr (by have:=Gf hi;omega)⟩
    rw[II hs hi hz]
    exact hq z (JV hz)
   ·rw[Dn c]
    exact k.Gc7 hy
  have dD:=Ql.pre (f:=Vr fr to) k Gdw ((List.prefix_append D [x]).trans hp)
  have dx:=Ql.pre (f:=Vr fr to) k Gdw hp
  obtain⟨-,d2,d0⟩:=Ql.snoc k dD xat (Gdw x xin)
  obtain⟨pb,hpb⟩:∃pb,pb=Gp (v x.1):=⟨_,rfl⟩
  rw[←hpb]at hl2
  have r0:run P (1000000+4832) (Qx env [.i 58,.i 59] [.agg (N7 x),.ptr pb x.2.1]) H'=some (.Jj ((List.range 78).map ((entry ((env.set 58 (.agg (N7 x))).set 59 (.ptr pb x.2.1))).upd 11 (.ptr pb x.2.1))),H'):=by
   rw[show(1000000+4832:Nat)=1004832 from rfl,SY Gi3 _ _ (by simp[Qx,he])]
   rw[show Qx env [.i 58,.i 59] [.agg (N7 x),.ptr pb x.2.1]=(env.set 58 (.agg (N7 x))).set 59 (.ptr pb x.2.1)from rfl]
   have e12:entry ((env.set 58 (.agg (N7 x))).set 59 (.ptr pb x.2.1)) 59=.ptr pb x.2.1:=by rw[Nu,if_pos rfl,if_pos (by rw[List.length_set];omega)]
   exact V2 e12 @GhW
  obtain⟨e1,he1⟩:∃e1,e1=(List.range 78).map ((entry ((env.set 58 (.agg (N7 x))).set 59 (.ptr pb x.2.1))).upd 11 (.ptr pb x.2.1)):=⟨_,rfl⟩
  rw[←he1]at r0
  have qq:∀t,t<58→t≠11→entry e1 t=entry env t:=fun t h1 h2=>by
   rw[he1,N_,if_pos oM]
   simp only[Gc,if_neg h2]
   rw[Nu,if_neg oM,Nu,if_neg oM]
  have u4:=(qq 4 oM oM).trans h4
  have u5:=(qq 5 oM oM).trans h5
  have u9:=(qq 9 oM oM).trans h9
  have u11:entry e1 11=.ptr pb x.2.1:=by
   rw[he1,N_,if_pos oM]
   simp only[Gc,↓reduceIte]
  have le1:e1.length≤78:=by rw[he1];simp
  obtain⟨X,hX⟩:∃X:Gb,X=H'.set b (G9 1 [.i 58,.i 59] env 4832):=⟨_,rfl⟩
  have hbl:=Gf n2
  have lX:X.length=H'.length:=by rw[hX,List.length_set]
  have xb:X[b]?=some (G9 1 [.i 58,.i 59] env 4832):=by rw[hX,Va hbl]
  have xo:∀c,c≠b→X[c]?=H'[c]?:=fun c hc=>by rw[hX,KV (Ne.symm hc)]
  have onb:∀c t,o c=some t→c<k0:=fun c t h=>hk0 c t h
  have x4:X[c4]?=some ⟨[vf],.rw,0⟩:=(xo _ oM).trans n4
  have x5:X[c5]?=some ⟨[vt],.rw,0⟩:=(xo _ oM).trans n5
  have x9:X[c9]?=some ⟨[.i n],.rw,0⟩:=(xo _ oM).trans n3
  have ilk:∀{w:CV}{l:List Int},IL k0 H' w l→IL k0 X w l:=fun{w l} h=>by
   rcases h with h|⟨c,tl,a1,a2,a3,a4⟩
   ·exact .inl h
   ·exact .inr ⟨c,tl,a1,a2,by rw[xo c fun e=>by rw[e,n2]at a3;simp[G9]at a3];exact a3,a4⟩
  have x6:=ilk n6
  have x7:=ilk n7
  have x8:JL o X rb (TR R (Vr fr to) D) v:=n8.frame (fun c t h=>by rw[lX];exact n8.dom c t h) (fun _ _ h=>h) fun c t h=>xo c fun e=>by have:=onb c t h;omega
  obtain⟨s1,s2,s3⟩:=x8.setAt dD.ok (x:=(x.1,x.2.1)) d2 xat.1 d0 (Vr fr to x.2.2)
  rw[←DW]at s3
  dsimp only at s1 s2 s3
  rw[←hpb]at s1 s2 s3
  have hpk:=onb pb _ s1
  have xl:ld X[pb]? x.2.1=some (.i x.2.2):=by rw[xo pb oM];exact hl2
  obtain⟨i,bs,bsi⟩:=AZ x6.li hs hn x.2.2
  have rr:RB+4832+1=1004833:=rfl
  by_cases hc:x.2.2∈fr
  ·rw[Gz hc]at bs
   have hfi:=bsi.1 hc
   obtain⟨y,hy⟩:∃y,to[i]?=some y:=⟨_,Jr (by have:=Gf hfi;omega)⟩
   have Gwh:=II hs hfi hy
   rw[Gwh]at s3
   obtain⟨by',oy,j1,j2,j3⟩:=x7.li.at hy
   have j3':=j3 X (Keeps.refl _ _)
   obtain⟨X2,hX2⟩:∃Y:Gb,Y=X.set pb ⟨(ints ((TR R (Vr fr to) D).li x.1)).set x.2.1 (.i y),.rw,1⟩:=⟨_,rfl⟩
   rw[←hX2]at s3
   have Jk:X2.length=X.length:=by rw[hX2,List.length_set]
   have hst:Hl X pb (some ⟨ints ((TR R (Vr fr to) D).li x.1),.rw,1⟩) x.2.1 [.i y]=some X2:=by
    rw[Vm rfl (by simp[ints];exact d2),hX2]
   have x2o:∀c,c≠pb→X2[c]?=X[c]?:=fun c hc=>by rw[hX2,KV (Ne.symm hc)]
   have x29:X2[c9]?=some ⟨[.i n],.rw,0⟩:=(x2o _ oM).trans x9
   obtain⟨X3,YC⟩:∃Y:Gb,Y=X2.set c9 ⟨[.i ((n+1:Nat):Int)],.rw,0⟩:=⟨_,rfl⟩
   have Jr:X3.length=X2.length:=by rw[YC,List.length_set]
   have x3o:∀c,c≠c9→X3[c]?=X2[c]?:=fun c hc=>by rw[YC,KV (Ne.symm hc)]
   have wn:IntKind.i64.wrap ((n:Int)+1)=((n+1:Nat):Int):=Gg oM
   have r1:run P (RB+4832+1) e1 X=some (.i 0,X3):=by
    rw[rr,Dh Xl _ _ le1]
    have cx:(ints ((TR R (Vr fr to) D).li x.1))[x.2.1]?=some (.i x.2.2):=by rw[s2,Ym]at xl;exact xl
    simp(disch:=first|exact dz|fail) only[simprocAttr,Gs,↓reduceIte,u4,u5,u9,u11,x4,x5,cx,bs,j1,j3',s2,hst,x29,wn,@Vm,YC.symm,@Ww]
    try rfl
   have tb3:X3[b]?=some (G9 1 [.i 58,.i 59] env 4832):=(x3o b oM).trans ((x2o b oM).trans xb)
   have hyl:=ZB (F:=run P) (args:=[.agg (N7 x),.ptr pb x.2.1]) n2 rfl r0 n2 (by rw[←hX];exact r1) tb3
   have fo:∀c,c≠b→c≠c9→c≠pb→(X3.set b (G9 0 [.i 58,.i 59] env 4832))[c]?=H'[c]?:=fun c h1 h2 h3=>by
    rw[KV (Ne.symm h1),x3o c h2,x2o c h3,xo c h1]
   have ilf:∀{w:CV}{l:List Int},IL k0 H' w l→IL k0 (X3.set b (G9 0 [.i 58,.i 59] env 4832)) w l:=fun{w l} h=>by
    rcases h with h|⟨c,tl,a1,a2,a3,a4⟩
    ·exact .inl h
    ·exact .inr ⟨c,tl,a1,a2,by rw[fo c (fun e=>by rw[e,n2]at a3;simp[G9]at a3) (fun e=>by rw[e,n3]at a3;simp at a3) fun e=>by have:=(Gl.1 a2).1;omega];exact a3,a4⟩
   rw[hpb]at hyl
   refine⟨W,_,hyl,⟨hp,n+1,by simp;omega,by rw[Va oM],?_,?_,?_,ilf n6,ilf n7,?_,n9⟩,⟨by rw[List.length_set];omega,fun c hc hn=>?_⟩,fun c h=>.inl h⟩
   ·rw[KV oM,YC,Va (Gf x29)]
   ·rw[fo _ oM oM oM,n4]
   ·rw[fo _ oM oM oM,n5]
   ·refine s3.frame (fun c t h=>by rw[List.length_set,Jr];exact s3.dom c t h) (fun _ _ h=>h) fun c t h=>?_
    have:=onb c t h
    rw[KV oM,x3o c oM]
   ·have hnn:=fun h=>hn ((n9 c).2 h)
    refine fo c (fun e=>hnn (.inl e)) (fun e=>hnn (.inr (.inl e))) fun e=>hnn (.inr (.inr ?_))
    rw[e,s1];simp
  ·rw[Gw hc]at bs
   have r1:run P (RB+4832+1) e1 X=some (.i 0,X):=by
    rw[rr,Dh Xl _ _ le1]
    simp(disch:=first|exact dz|fail) only[simprocAttr,Gs,↓reduceIte,u4,u5,u9,u11,x4,x5,xl,bs,@Ww]
    try rfl
   have hyl:=ZB (F:=run P) (args:=[.agg (N7 x),.ptr pb x.2.1]) n2 rfl r0 n2 (by rw[←hX];exact r1) xb
   have hback:X.set b (G9 0 [.i 58,.i 59] env 4832)=H':=by
    refine List.ext_getElem? fun c=>?_
    by_cases e:c=b
    ·rw[e,Va oM,n2]
    ·rw[KV (Ne.symm e),xo c e]
   rw[hback]at hyl
   rw[hpb]at hyl
   refine⟨W,_,hyl,⟨hp,n,by simp;omega,n2,n3,n4,n5,n6,n7,?_,n9⟩,Keeps.refl _ _,fun c h=>.inl h⟩
   refine n8.same (by rw[dx.ns,dD.ns]) fun l hl=>List.ext_getElem? fun j=>?_
   rw[dx.li l hl,dD.li l hl]
   have hfx:=Dn (to:=to) hc
   by_cases c1:∃y∈D,y.1=l∧y.2.1=j
   ·rw[if_pos c1,if_pos]
    obtain⟨y,hy,e⟩:=c1
    exact⟨y,K_.2 (.inl hy),e⟩
   ·rw[if_neg c1]
    split
    ·rename_i c2
     obtain⟨y,hy,e1,e2⟩:=c2
     rcases K_.1 hy with hy|hy
     ·exact absurd ⟨y,hy,e1,e2⟩ c1
     ·rw[Ad]at hy
      subst hy
      rw[←e1,←e2,xat.2.1,Option.map_some,hfx]
    ·rfl
theorem Gjs{X:Gb}{fr to:List Int}{k0 c4 c5 c9 bx:Nat}{vf vt:CV}(m:JL o X rb R v)(k:R.Ok)(hk0:∀c t,o c=some t→c<k0)(hk:k0≤c4∧k0≤c5∧k0≤c9∧k0≤X.length∧c9≠c4∧c9≠c5)
  (hl:to.length=fr.length)(hs:Uc fr)(hp:∀x∈fr,0<x)(hq:∀x∈to,0<x∧x≤9223372036854775807)(hn:fr.length≤100000)(t4:X[c4]?=some ⟨[vf],.rw,0⟩) (t5:X[c5]?=some ⟨[vt],.rw,0⟩) (t9:X[c9]?=some ⟨[.i 0],.rw,0⟩) (tx:X[bx]?=some ⟨[.ptr rb 0],.rw,0⟩)
  (lf:IL k0 X vf fr) (lt':IL k0 X vt to)
  {E0:Env} (e4:E0 4=.ptr c4 0) (e5:E0 5=.ptr c5 0) (e9:E0 9=.ptr c9 0) (e57:E0 57=.func 240 [.ptr bx 0]) {r:Option (CX×Env×Gb)} (hr:den P (.Nc (.tmp 57) [58,59] 78 4832) E0 X=r):
  ∃(X':Gb)(n:Nat),r=some (.normal,E0,X')∧Keeps X X' (fun c=>c=c9∨o c≠none)∧X'[c9]?=some ⟨[.i n],.rw,0⟩∧JL o X' rb (R.ren (Vr fr to)) v:=by
 obtain⟨q1,q2,q3,q4,q5,q6⟩:=hk
 obtain⟨H1,hH1⟩:∃H1:Gb,H1=X++[G9 0 [.i 58,.i 59] ((List.range 78).map E0) 4832]:=⟨_,rfl⟩
 have g1:Gr X H1:=by rw[hH1];exact Gr.app _ _
 have l1:H1.length=X.length+1:=by rw[hH1];simp
 have t1:H1[X.length]?=some (G9 0 [.i 58,.i 59] ((List.range 78).map E0) 4832):=by rw[hH1];simp
 have b4:=Gf t4
 have b5:=Gf t5
 have b9:=Gf t9
 have ent:∀t,t<78→entry ((List.range 78).map E0) t=E0 t:=fun t h=>by rw[N_,if_pos h]
 have Gdw:∀y∈R.vis,0<Vr fr to y.2.2∧Vr fr to y.2.2≤9223372036854775807:=fun y hy=>by
  by_cases c:y.2.2∈fr
  ·obtain⟨i,hi⟩:=List.mem_iff_getElem?.1 c
   obtain⟨z,hz⟩:∃z,to[i]?=some z:=⟨_,Jr (by have:=Gf hi;omega)⟩
   rw[II hs hi hz]
   exact hq z (JV hz)
  ·rw[Dn c]
   exact k.Gc7 hy
 obtain⟨W,X2,h1,⟨-,n,n1,n2,n3,n4,n5,n6,n7,n8,n9⟩,h3,h4⟩:=Mh (W0:=fun c=>c=X.length∨c=c9∨o c≠none) (m.gr g1) k
  (GjJ (b:=X.length) (c4:=c4) (c5:=c5) (c9:=c9) (vf:=vf) (vt:=vt) sM ((ent 4 oM).trans e4) ((ent 5 oM).trans e5) ((ent 9 oM).trans e9) k hk0 ⟨q1,q2,q3,q4,oM,oM,oM,q5,q6⟩ hl hs hq hn)
  (fun c h=>by
   rcases h with h|h|h
   ·omega
   ·omega
   ·intro e
    cases e2:o c with
    |none=>exact h e2
    |some u=>have:=hk0 c u e2;omega)
  (fun D W H' l j x iv kp hl2 hx hD=>by
   obtain⟨np,n,-,-,-,-,-,-,-,pr,-⟩:=iv
   have dl:=(Ql.pre (f:=Vr fr to) k Gdw np).li l hl2 j
   rw[if_neg (by rintro ⟨y,hy,a,b⟩;exact hD y hy a b),hx]at dl
   obtain⟨tl,-,-,a3,-⟩:=(pr.li l hl2).pos (by have:=Gf dl;omega)
   rw[a3,Ym]
   exact ints_at dl)
  ⟨List.nil_prefix,0,sM,t1,g1.get t9,g1.get t4,g1.get t5,At.keeps lf g1,At.keeps lt' g1,m.gr g1,fun c=>Iff.rfl⟩ (g1.get tx)
 have hd:=OT (p:=P) (g:=.tmp 57) (ps:=[58,59]) (k:=78) (z:=4832) (E:=E0) (H:=X) (H':=X2) (by rw[EX];exact e57) oM (by rw[←h1,hH1];rfl) n2
 have hl2:=h3.len
 have h0f:Vr fr to 0=0:=Dn fun h=>by have:=hp 0 h;omega
 have all:=Ql.all h0f (Ql.pre (f:=Vr fr to) k Gdw (List.prefix_refl _))
 refine⟨_,n,hr.symm.trans hd,⟨by rw[List.length_set];omega,fun c hc hn=>?_⟩,?_,?_⟩
 ·rw[KV oM,h3.keep c oM fun h=>?_,g1.keep c hc fun h=>h]
  rcases h with h|h|h
  ·omega
  ·exact hn (.inl h)
  ·exact hn (.inr h)
 ·rw[KV oM];exact n3
 ·refine(n8.same all.1 all.2).frame (fun c t h=>by rw[List.length_set];exact n8.dom c t h) (fun _ _ h=>h) fun c t h=>?_
  have:=hk0 c t h
  rw[KV oM]
theorem Pj(m:JL o H rb R v)(k:R.Ok){k0:Nat}(hk0:∀c t,o c=some t→c<k0)(hkl:k0≤H.length){vf vt:CV}{fr to:List Int}(hf:IL k0 H vf fr)(ht:IL k0 H vt to)
  (hl:to.length=fr.length)(hs:Uc fr)(hp:∀x∈fr,0<x)(hq:∀x∈to,0<x∧x≤9223372036854775807)(hn:fr.length≤100000):
  ∃(n:Nat)(H':Gb),run P 151 [.ptr rb 0,vf,vt] H=some (.Jj [.i n,.i 0],H')∧Keeps H H' (fun c=>o c≠none)∧JL o H' rb (R.ren (Vr fr to)) v:=by
 obtain⟨X,hX⟩:∃X:Gb,X=H++[⟨[vf],.rw,0⟩]++[⟨[vt],.rw,0⟩]:=⟨_,rfl⟩
 have gX:Gr H X:=by rw[hX];exact(Gr.app _ _).app' _
 have lX:X.length=H.length+2:=by rw[hX];simp
 have t4:X[H.length]?=some ⟨[vf],.rw,0⟩:=by rw[hX];simp
 have t5:X[H.length+1]?=some ⟨[vt],.rw,0⟩:=by rw[hX];simp
 have mX:=m.gr gX
 have h1:=Qw mX k
 have f1:IL k0 X vf fr:=At.keeps hf gX
 have f2:IL k0 X vt to:=At.keeps ht gX
 have v1:=f1.len X
 have v2:=f2.len X
 have v1':UK vt X=some (.i fr.length,X):=by rw[←hl];exact v2
 have cne:((fr.length:Int) != (fr.length:Int))=false:=by simp
 obtain⟨X2,hX2⟩:∃Y:Gb,Y=X++[⟨[.i 0],.rw,0⟩]++[⟨[.ptr rb 0],.rw,0⟩]:=⟨_,rfl⟩
 have g2:Gr X X2:=by rw[hX2];exact(Gr.app _ _).app' _
 have Jk:X2.length=X.length+2:=by rw[hX2];simp
 have t9:X2[X.length]?=some ⟨[.i 0],.rw,0⟩:=by rw[hX2];simp
 have tx:X2[X.length+1]?=some ⟨[.ptr rb 0],.rw,0⟩:=by rw[hX2];simp
 have hal:run P 169 [.ptr rb 0] (X++[⟨[.i 0],.rw,0⟩])=some (.func 240 [.ptr (X.length+1) 0],X2):=by
  rw[Gh Gmp _ _ sM]
  simp(disch:=first|exact dz|fail) only[simprocAttr,Gs,↓reduceIte,DK]
  rw[←hX2]
 have lf1:leaf vf=true:=At.leaf hf
 have lf2:leaf vt=true:=At.leaf ht
 have cl:∀w:CV,leaf w=true→cellsOf w=[w]:=fun w h=>by cases w<;>first|rfl|cases h
 have ce1:=cl _ lf1
 have ce2:=cl _ lf2
 rw[Gh Gsi _ _ sM]
 refine W2 ce1 ce2 ?_
 rw[←hX]
 refine W6 h1 t4 t5 v1 v1' cne ?_
 generalize hr:den P (.loop F7) _ _=r
 obtain⟨E2,rfl,fr2⟩:=Gjm f1.li f2.li hl hs hp (fun x hx=>(hq x hx).1) hn t4 t5 uA uA uA uA hr
 have b0:=fr2 0 dK
 have b4:=fr2 4 dK
 have b5:=fr2 5 dK
 simp only[Gc,Nat.reduceEqDiff,↓reduceIte]at b0 b4 b5
 have Ghk:(X++[⟨[CV.i 0],.rw,0⟩]:Gb).set X.length ⟨[CV.i 0],.rw,0⟩=X++[⟨[.i 0],.rw,0⟩]:=by
  rw[List.set_append_right _ _ (Nat.le_refl _),Nat.sub_self];rfl
 simp(disch:=first|exact dz|fail) only[simprocAttr,Gs,↓reduceIte,Ub,b0,b4,b5,Ghk,hal,@Vm]
 generalize hr:den P (.Nc (.tmp 57) [58,59] 78 4832) _ _=r
 have g12:=gX.trans g2
 obtain⟨X3,n,rfl,g3,t93,m3⟩:=Gjs (vf:=vf) (vt:=vt) (mX.gr g2) k hk0 (c4:=H.length) (c5:=H.length+1) (c9:=X.length) (bx:=X.length+1) ⟨oM,oM,oM,oM,oM,oM⟩ hl hs hp hq hn (g2.get t4) (g2.get t5) t9 tx (At.keeps hf g12) (At.keeps ht g12)
  (by simp[Gc,b4]) (by simp[Gc,b5]) uA uA hr
 refine⟨n,X3,?_,⟨by have:=g3.len;omega,fun c hc hn=>?_⟩,m3⟩
 ·simp(disch:=first|exact dz|fail) only[simprocAttr,Gs,↓reduceIte,Ub,t93]
  try rfl
 ·rw[g3.keep c oM (by intro h;rcases h with h|h;omega;exact hn h),g12.keep c hc fun h=>h]
end
end Go.Cs.Tryz
namespace Go.Cs.Tryz
open Go Go.Cs A
abbrev Gas:Gn:=T [b 68 .lss 67 66] (S (J 68 (X 4)) (S (B 5 (T [m 69 67,m 16 69] (T [m 71 0,m 72 13,m 73 16,q3 74 66 71 72 73,m 70 74,ex 75 70 0,ex 76 70 1,m 17 75,m 18 76] (T [m 78 9,m 79 17,e 80 (.Vn true .i64 (i 0) (t 78) (t 79)),m 77 80,ex 81 77 0,ex 82 77 1,m 19 81,m 20 82] (T [m 83 20] (I 83 (R [m 84 0,m 85 13,m 86 16,m 87 19,q4 88 128 84 85 86 87]))))))) (R [bk 89 .add 67 1,m 67 89])))
abbrev XG:Gn:=T [b 56 .lss 55 54] (S (J 56 (X 2)) (S (B 3 (T [x 57 1 53 55,l 58 1 57,m 13 58] (T [m 60 0,m 61 13,q2 62 65 60 61,m 59 62,ex 63 59 0,ex 64 59 1,e 14 (.new [i 0,i 0,i 0]),st 3 14 63,m 15 64] (T [f 65 0 14,l 66 1 65,n 67 0] (B 4 (W Gas)))))) (R [bk 90 .add 55 1,m 55 90])))
abbrev Rn:Gn:=T [b 29 .lss 28 27] (S (J 29 (X 0)) (S (B 1 (T [x 30 2 26 28,lg 31 2 30,e 11 (.new [i 0,i 0]),st 2 11 31] (S (D [⟨m 32 7,0,0,0⟩,⟨f 33 0 11,1,0,0⟩,⟨l 34 1 33,2,1,0⟩,⟨e 35 (.buildSlice 1 [i 0] 1 [(0,1,t 34)]),3,0,0⟩,⟨ap 36 1 32 35,4,3,0⟩,⟨m 37 8,5,0,0⟩,⟨f 38 1 11,6,0,0⟩,⟨l 39 1 38,7,1,0⟩,⟨e 40 (.buildSlice 1 [i 0] 1 [(0,1,t 39)]),8,0,0⟩,⟨ap 41 1 37 40,9,3,1⟩,⟨m 7 36,10,0,2⟩,⟨m 8 41,11,0,2⟩]) (R [m 42 9,f 43 0 11,l 44 1 43,f 45 1 11,l 46 1 45,u (.QS .i64 (t 42) (t 44) (t 46))])))) (R [bk 47 .add 28 1,m 28 47])))
def C58:Gj:=⟨91,0,T [m 21 2,q1 22 148 21,m 6 22] (T [m 23 6,ca 24 149 [t 23,c (.func 150 [])]] (T [e 7 (.Km (c .Gd)),e 8 (.Km (c .Gd))] (T [e 25 .Yf,m 9 25] (S (T [m 26 6,le 27 26,n 28 0] (B 0 (W Rn))) (T [m 48 1,m 49 7,m 50 8,q3 51 151 48 49 50] (T [m 52 0,q1 53 53 52,le 54 53,n 55 0] (B 2 (W XG)))))))),[]⟩
theorem c58:P 58=some C58:=by kernel_rfl
abbrev Gct:Gn:=T [b 27 .lss 26 25] (S (J 27 (X 0)) (S (B 1 (T [x 28 2 24 26,lg 29 2 28,e 7 (.new [i 0,i 0]),st 2 7 29] (D [⟨m 34 0,4,0,0⟩,⟨f 35 1 7,5,0,0⟩,⟨l 36 1 35,6,1,0⟩,⟨q2 37 145 34 36,7,3,0⟩,⟨m 30 2,0,0,0⟩,⟨z 31 30,1,0,0⟩,⟨f 32 5 31,2,0,0⟩,⟨l 33 1 32,3,1,0⟩,⟨b 38 .add 33 37,8,0,1⟩,⟨z 39 30,9,0,1⟩,⟨f 40 5 39,10,0,1⟩,⟨st 1 40 38,11,3,1⟩]))) (R [bk 41 .add 26 1,m 26 41])))
def C60:Gj:=⟨42,0,T [m 8 2,m 9 2,m 10 0,q1 11 53 10,le 12 11,m 13 0,q1 14 112 13,z 15 8,f 16 0 15,st 1 16 12,z 17 9,f 18 1 17,st 1 18 14] (T [m 19 2,m 20 1,le 21 20,z 22 19,f 23 4 22,st 1 23 21] (T [m 24 1,le 25 24,n 26 0] (B 0 (W Gct)))),[]⟩
theorem c60:P 60=some C60:=by kernel_rfl
def GsC:Gj:=⟨8,0,T [e 2 (.Km (c .Gd))] (S (T [m 3 0,e 4 (.eqv false 2 (t 3) (c .Gd))] (I 4 (Q [e 2 (.Km (c .Gd))]))) (Q [e 5 (.buildSlice 2 [] 0 []),m 6 0,ap 7 2 5 6,m 2 7])),[r 2]⟩
theorem c148:P 148=some GsC:=by kernel_rfl
end Go.Cs.Tryz
namespace Go.Cs
open Go
def YE(f:Int→Int)(o:Ob):Ob:={o with refs:=o.refs.map f}
def En(f:Int→Int)(i:Nat)(o:Ob):Ob:={o with refs:=(o.refs.take i).map f++o.refs.drop i}
theorem Wq(f:Int→Int)(o:Ob):NK (YE f) o:=⟨rfl,rfl,rfl,QY ..,rfl⟩
theorem Dy(f:Int→Int)(i:Nat)(o:Ob):NK (En f i) o:=⟨rfl,rfl,rfl,by simp[En];omega,rfl⟩
theorem Gj9(f:Int→Int)(o:Ob):En f o.refs.length o=YE f o:=by simp[En,YE]
theorem Gh0(f:Int→Int)(o:Ob):En f 0 o=o:=by simp[En]
def Zu(f:Int→Int)(c:Nat)(o:Ob):Ob:=if o.addr<c then YE f o else o
theorem Yo(f:Int→Int)(c:Nat)(o:Ob):NK (Zu f c) o:=by
 unfold Zu
 constructor<;>(split<;>first|rfl|exact QY ..)
theorem WJ{f:Int→Int}{i:Nat}{o:Ob}{r:Int}(h:o.refs[i]?=some r):(En f (i+1) o).refs=(En f i o).refs.set i (f r):=by
 have hi:=Gf h
 unfold En
 dsimp only
 rw[Nl,h,drop_cons h,Ij,List.set_append_right _ _ (by simp;omega)]
 simp only[QY,List.length_take,Nat.min_eq_left (Nat.le_of_lt hi),Nat.sub_self,List.set_cons_zero,Z4,List.map_cons,List.map_nil,List.append_assoc,List.cons_append,List.nil_append]
theorem GhH{f:Int→Int}{i:Nat}{o:Ob}{r:Int}(h:o.refs[i]?=some r):(En f i o).refs[i]?=some r:=by
 have hi:=Gf h
 unfold En
 dsimp only
 rw[lX8 (by simp;omega),drop_cons h]
 simp[Nat.min_eq_left (Nat.le_of_lt hi)]
theorem GhL{l:List Int}{i:Nat}{r:Int}(h:l[i]?=some r):l.set i r=l:=by
 refine List.ext_getElem? fun j=>?_
 rw[Ig]
 split
 ·rename_i e
  subst e
  rw[if_pos (Gf h),h]
 ·rfl
section
variable {s : Hp} {f : Int → Int}
theorem GcO(k:s.Ok){o:Ob}(ho:o∈s.objs){c:Nat}(hc:c≤o.addr):(s.mp (Zu f c)).obj o.addr=some o:=by
 rw[Hp.Gcc fun x _=>Yo f c x,k.obj ho,Option.map_some]
 unfold Zu
 rw[if_neg oM]
theorem Gc6(k:s.Ok){o:Ob}(ho:o∈s.objs){g h:Ob→Ob}(e:g o=h o):(s.mp (Zu f o.addr)).upd o.addr g=(s.mp (Zu f o.addr)).upd o.addr h:=
 Yj fun x hx hxa=>by
  obtain⟨y,hy,rfl⟩:=KI.1 hx
  rw[(Yo f _ y).addr]at hxa
  have:=k.U8 hy ho hxa
  subst this
  unfold Zu
  rw[if_neg oM]
  exact e
theorem Ghd(k:s.Ok){o:Ob}(ho:o∈s.objs):(s.mp (Zu f o.addr)).upd o.addr (En f o.refs.length)=s.mp (Zu f (o.addr+1)):=by
 unfold Hp.upd Hp.mp
 simp only[List.map_map]
 congr 1
 refine List.map_congr_left fun y hy=>?_
 show(if(Zu f o.addr y).addr=o.addr then En f o.refs.length (Zu f o.addr y)else Zu f o.addr y)=_
 rw[(Yo f _ y).addr]
 by_cases e:y.addr=o.addr
 ·rw[if_pos e]
  have:=k.U8 hy ho e
  subst this
  unfold Zu
  rw[if_neg oM,if_pos oM,Gj9]
 ·rw[if_neg e]
  unfold Zu
  by_cases c:y.addr<o.addr
  ·rw[if_pos c,if_pos oM]
  ·rw[if_neg c,if_neg oM]
theorem GgS{c d:Nat}(h:∀o∈s.objs,o.addr<c↔o.addr<d):s.mp (Zu f c)=s.mp (Zu f d):=by
 unfold Hp.mp
 congr 1
 refine List.map_congr_left fun y hy=>?_
 unfold Zu
 simp only[h y hy]
theorem Gi0{c:Nat}(h:∀o∈s.objs,o.addr<c):s.mp (Zu f c)=s.mp (YE f):=by
 unfold Hp.mp
 congr 1
 refine List.map_congr_left fun y hy=>?_
 unfold Zu
 rw[if_pos (h y hy)]
theorem GhX:s.mp (Zu f 0)=s:=by
 unfold Hp.mp
 rw[List.map_congr_left (g:=id) fun y _=>by unfold Zu;rw[if_neg oM];rfl,List.map_id]
end
theorem W_(W:List (Int×Int)):Vr (W.map (·.1)) (W.map (·.2))=JK W:=by
 funext x
 unfold Vr JK
 have:(W.map (·.1)).zip (W.map (·.2))=W:=by
  induction W with
  |nil=>rfl
  |cons a l ih=>simp[ih]
 rw[this]
 try cases W.find? fun m=>m.1==x<;>rfl
theorem GcJ{W:List (Int×Int)}(h:Uc (W.map (·.1))){x:Int×Int}(hx:x∈W):JK W x.1=x.2:=by
 obtain⟨i,hi⟩:=List.mem_iff_getElem?.1 hx
 rw[←W_]
 exact II h (by rw[Kr,hi];rfl) (by rw[Kr,hi];rfl)
theorem IL.Gll{k:Nat}{H:Gb}{v:CV}{l:List Int}(h:IL k H v l)(hk:k≤H.length)(hm:l.length+1≤16777216)(x:Int):
  ∃v' H',Ju (H++[⟨[.i x],.rw,1⟩]) 1 v 1 [.i x]=some (v',H')∧IL k H' v' (l++[x])∧H.length≤H'.length∧H.length<Gp v'∧∀c,c<H.length→(k≤c→c≠Gp v)→H'[c]?=H[c]?:=by
 obtain⟨lb,h1,hlb⟩:∃lb,At (only lb) z3 H v 1 l.length (ints l)∧(lb=H.length+7∨(lb=Gp v∧k≤lb)):=by
  rcases h with h|⟨b,tl,rfl,h1,h2,h3⟩
  ·exact⟨_,.inl h,.inl rfl⟩
  ·exact⟨b,.inr ⟨b,tl,rfl,Ka.2 ⟨rfl,rfl⟩,h2,h3⟩,.inr ⟨rfl,(Gl.1 h1).1⟩⟩
 obtain⟨X,a1,a2,a3,a4⟩:=At.append (At.keeps h1 (Gr.app H [⟨[.i x],.rw,1⟩])) (k:=1) (new:=[.i x]) oM (by unfold J9;omega) (by simp[Jl]) rfl
 have hl1:(H++[⟨[CV.i x],.rw,1⟩]:Gb).length=H.length+1:=by simp
 refine⟨_,X,a1,.inr ⟨(H++[⟨[CV.i x],.rw,1⟩]:Gb).length,true,sM,Gl.2 ⟨oM,rfl⟩,by rw[a3,U2];rfl,by simp[ints]⟩,oM,by simp[Gp],fun c hc hn=>?_⟩
 rw[a4 c oM fun e=>?_,IJ hc]
 rw[Ka]at e
 rcases hlb with h|⟨h,h'⟩
 ·omega
 ·exact hn oM oM
theorem IL.fr{k:Nat}{H H':Gb}{v:CV}{l:List Int}(h:IL k H v l)(g:k≤Gp v→Gp v<H.length→v≠.Gd→H'[Gp v]?=H[Gp v]?):IL k H' v l:=by
 rcases h with h|⟨b,tl,rfl,h1,h2,h3⟩
 ·exact .inl h
 ·exact .inr ⟨b,tl,rfl,h1,(g (Gl.1 h1).1 (Gf h2) sM).trans h2,h3⟩
theorem IL.TU{k:Nat}{H:Gb}{v:CV}{l:List Int}(h:IL k H v l)(hl:l≠[]):k≤Gp v∧Gp v<H.length:=by
 obtain⟨tl,a1,a2,a3,-⟩:=h.pos (Ld.2 hl)
 exact⟨(Gl.1 a2).1,Gf a3⟩
def mvF(W:List (Int×Int))(x:Int):Option CV:=(W.find? fun m=>m.1==x).map fun m=>.i m.2
theorem GhC{W:List (Int×Int)}{a b:Int}(h:∀m∈W,m.1≠a):GbH (mvF W) a (.i b)=mvF (W++[(a,b)]):=by
 funext x
 unfold GbH mvF
 rw[List.find?_append]
 by_cases c:x=a
 ·subst c
  rw[if_pos rfl,List.find?_eq_none.2 fun m hm=>by simpa using h m hm]
  simp
 ·rw[if_neg c]
  have:[(a,b)].find? (fun m=>m.1==x)=none:=by simp[Ne.symm c]
  rw[this,Option.or_none]
theorem Gkl(W:List (Int×Int))(x:Int):(∃b,mvF W x=some (.i b)∧JK W x=b∧∃m∈W,m.1=x∧m.2=b)∨(mvF W x=none∧JK W x=x):=by
 unfold mvF JK
 cases e:W.find? fun m=>m.1==x with
 |none=>exact .inr ⟨rfl,rfl⟩
 |some m=>exact .inl ⟨m.2,rfl,rfl,m,List.mem_of_find?_eq_some e,by have:=Lp e;simpa using this,rfl⟩
end Go.Cs
namespace Go.Cs.Tryz
open Go Go.Cs
section
variable {H : Gb}
theorem Gap{k:Nat}{w:CV}{W:List (Int×Int)}(h:QL k H w W)(hl:W.length≤100000):∃v' H',run P 148 [w] H=some (v',H')∧Gr H H'∧QL H.length H' v' W:=by
 by_cases c:w=.Gd
 ·subst c
  have:W=[]:=by
   rcases h with h|⟨b,tl,h,-⟩
   ·exact AV h.1
   ·cases h
  subst this
  refine⟨.Gd,H,?_,Keeps.refl _ _,.inl ⟨rfl,rfl,.inl rfl⟩⟩
  rw[Gh c148 _ _ sM]
  exact V1 (show OZ false 2 .Gd .Gd H=some (.bool true,H)from rfl)
 ·have he:elems (H++[⟨[],.rw,2⟩]) 2 w=some (W.length,I9 W):=At.elems (At.keeps h (Gr.app H [⟨[],.rw,2⟩])) fun c hc=>rfl
  have h0:QL H.length (H++[⟨[],.rw,2⟩]) (.slice H.length 0 0 0 2 false) []:=.inl ⟨rfl,rfl,.inr ⟨_,_,rfl⟩⟩
  obtain⟨v',H1,a1,a2,a3⟩:=LL.cat h0 sM (q:=W.length) (new:=I9 W) (by simp;omega) (Wn W) (SX W)
  obtain⟨b,f,n,d,t,rfl⟩:∃b f n d t,w=.slice b f n d 2 t:=by
   rcases h with⟨-,-,rfl|⟨b,f,rfl⟩⟩|⟨b,tl,rfl,-⟩
   ·exact absurd rfl c
   ·exact⟨_,_,_,_,_,rfl⟩
   ·exact⟨_,_,_,_,_,rfl⟩
  refine⟨v',H1,?_,Gr.news (Gr.app H _) a3,by rw[List.length_nil,Nat.zero_add]at a2;exact a2⟩
  rw[Gh c148 _ _ sM]
  exact V3 (show OZ false 2 (.slice b f n d 2 t) .Gd H=some (.bool false,H)from rfl) he a1
theorem GoN{W:List (Int×Int)}{v6:CV}{k1:Nat}(q:QL k1 H v6 W)(o:Ord W)(hl:W.length≤300){mb:Nat}(mf:NM H mb (mvF []) []){E0:Env}(h7:E0 7=.Gd)(h8:E0 8=.Gd)(h9:E0 9=.GJ mb)(h26:E0 26=v6)(h27:E0 27=.i W.length)(h28:E0 28=.i 0){r:Option (CX×Env×Gb)}(hr:den P (.loop Rn) E0 H=r):
  ∃(E':Env)(H':Gb)(vf vt:CV),r=some (.exit 0,E',H')∧Keeps H H' (·=mb)∧E' 7=vf∧E' 8=vt∧IL H.length H' vf (W.map (·.1))∧IL H.length H' vt (W.map (·.2))∧NM H' mb (mvF W) (W.map (·.1))∧∀t,t∉wr Rn→E' t=E0 t:=by
 have hmb:=mf.lt
 obtain⟨x',E',H',e,-,⟨rfl,g,vf,vt,q1,q2,q3,q4,q5⟩,fr⟩:=Gq (p:=P) (c:=Rn) (E0:=E0) (H0:=H)
  (fun q E H'=>∃(j:Nat)(vf vt:CV),E 28=.i j∧j≤W.length∧q=W.length-j∧Keeps H H' (·=mb)∧E 7=vf∧E 8=vt∧((j=0∧vf=.Gd∧vt=.Gd)∨(1≤j∧Gp vf≠Gp vt))∧IL H.length H' vf ((W.take j).map (·.1))∧IL H.length H' vt ((W.take j).map (·.2))∧NM H' mb (mvF (W.take j)) ((W.take j).map (·.1)))
  (fun x E' H'=>x=.exit 0∧Keeps H H' (·=mb)∧∃vf vt:CV,E' 7=vf∧E' 8=vt∧IL H.length H' vf (W.map (·.1))∧IL H.length H' vt (W.map (·.2))∧NM H' mb (mvF W) (W.map (·.1))) (by
   rintro q' E H' hE ⟨j,vf,vt,e28,hj,rfl,g,e7,e8,jj,f1,f2,m1⟩
   have e9:=(hE 9 dK).trans h9
   have e26:=(hE 26 dK).trans h26
   have e27:=(hE 27 dK).trans h27
   by_cases c:j<W.length
   ·have c':decide ((j:Int)<(W.length:Int))=true:=Gz oM
    have w1:IntKind.i64.wrap ((j:Int)+1)=((j+1:Nat):Int):=Gg oM
    obtain⟨x,hx⟩:∃x,W[j]?=some x:=⟨_,Jr c⟩
    obtain⟨b,i1,-,i2,i3⟩:=QL.row q hx
    have hbm:b≠mb:=fun e=>by
     obtain⟨l,hl,-⟩:=mf
     rw[e,hl]at i2;simp at i2
    have i2':H'[b]?=some ⟨I9 W,.rw,2⟩:=by rw[g.keep b (Gf i2) hbm];exact i2
    have OI:=i1 H'
    have ht:W.take (j+1)=W.take j++[x]:=by rw[Nl,hx];rfl
    obtain⟨X,hX⟩:∃X:Gb,X=H'++[⟨[.i x.1,.i x.2],.rw,0⟩]:=⟨_,rfl⟩
    have gX:Gr H' X:=by rw[hX];exact Gr.app _ _
    have lX:X.length=H'.length+1:=by rw[hX];simp
    have tX:X[H'.length]?=some ⟨[.i x.1,.i x.2],.rw,0⟩:=by rw[hX];simp
    have hgl:=g.len
    have f1X:=At.keeps f1 gX
    have f2X:=At.keeps f2 gX
    have h12:(W.take j).length=j:=by rw[List.length_take];omega
    obtain⟨v1,X1,a1,il1,a2,a3,a4⟩:=IL.Gll f1X oM (by rw[QY];omega) x.1
    have hj1:∀{l:List Int},l.length=j→1≤j→l≠[]:=fun{l} h1 h2 h3=>by rw[h3]at h1;simp at h1;omega
    have lf:Gp vf<H'.length∧Gp vt<H'.length:=by
     rcases jj with⟨-,rfl,rfl⟩|⟨h1,-⟩
     ·exact⟨by show 0<_;omega,by show 0<_;omega⟩
     ·exact⟨(f1.TU (hj1 (by simpa using h12) h1)).2,(f2.TU (hj1 (by simpa using h12) h1)).2⟩
    have f2a:IL H.length X1 vt ((W.take j).map (·.2)):=IL.fr f2X fun h1 h2 h3=>a4 _ h2 fun _=>by
     rcases jj with⟨-,-,h⟩|⟨-,h⟩
     ·exact absurd h h3
     ·exact Ne.symm h
    have l1:=il1.TU sM
    obtain⟨v2,X2,b1,il2,b2,b3,b4⟩:=IL.Gll f2a oM (by rw[QY];omega) x.2
    have GvA:IL H.length X2 v1 ((W.take j).map (·.1)++[x.1]):=IL.fr il1 fun h1 h2 _=>b4 _ h2 fun _=>by omega
    have low:∀c,c<H'.length→c<H.length→X2[c]?=H'[c]?:=fun c h1 h2=>by
     rw[b4 c oM oM,a4 c oM oM,gX.keep c h1 fun h=>h]
    have tX1:X1[H'.length]?=some ⟨[.i x.1,.i x.2],.rw,0⟩:=by rw[a4 _ oM oM];exact tX
    have tX2:X2[H'.length]?=some ⟨[.i x.1,.i x.2],.rw,0⟩:=by rw[b4 _ oM oM];exact tX1
    obtain⟨X3,d3,g3,m3,-⟩:=(m1.frame (low mb oM hmb)).set x.1 (v:=.i x.2) rfl
    have d3':=d3 X2 rfl
    have hnot:∀m∈W.take j,m.1≠x.1:=fun m hm=>by
     obtain⟨i,hi⟩:=List.mem_iff_getElem?.1 hm
     rw[Zx]at hi
     split at hi
     ·have:=o.lt (i:=i) (j:=j) oM hi hx;omega
     ·cases hi
    rw[GhC hnot,if_neg (fun h=>by
     obtain⟨m,hm,e⟩:=KI.1 h
     exact hnot m hm e)]at m3
    have GvE:IL H.length X3 v1 ((W.take (j+1)).map (·.1)):=by
     rw[ht,Ij]
     exact IL.fr GvA fun h1 h2 _=>g3.keep _ h2 oM
    have Gve:IL H.length X3 v2 ((W.take (j+1)).map (·.2)):=by
     rw[ht,Ij]
     exact IL.fr il2 fun h1 h2 _=>g3.keep _ h2 oM
    have kf:Keeps H X3 (·=mb):=⟨by have:=g3.len;omega,fun c hc hn=>by rw[g3.keep c oM hn,low c oM hc,g.keep c hc hn]⟩
    suffices fin:∃E',den P Rn E H'=some (.normal,E',X3)∧E' 28=.i ((j+1:Nat):Int)∧E' 7=v1∧E' 8=v2 by
     obtain⟨E',y1,y2,y3,y4⟩:=fin
     exact Gm y1 (k':=W.length-(j+1)) oM ⟨j+1,v1,v2,y2,oM,rfl,kf,y3,y4,.inr ⟨oM,oM⟩,GvE,Gve,by rw[ht,Ij];exact m3⟩
    simp(disch:=first|exact dz|fail) only[simprocAttr,Gs,↓reduceIte,Ub,e7,e8,e9,e26,e27,e28,c',OI,i2',i3,hX.symm,tX,a1,tX1,b1,tX2,@Vg,d3',w1]
    exact⟨_,rfl,uA,uA,uA⟩
   ·have c':decide ((j:Int)<(W.length:Int))=false:=Gw oM
    rw[Qe oM]at f1 f2 m1
    apply Gi (x:=.exit 0)
    ·refine W3 e27 e28 c' ?_
     rfl
    ·simp
    ·exact⟨rfl,g,vf,vt,by simp[Gc,e7],by simp[Gc,e8],f1,f2,m1⟩) _ ⟨0,.Gd,.Gd,h28,oM,rfl,Keeps.refl _ _,h7,h8,.inl ⟨rfl,rfl,rfl⟩,IL.nil,IL.nil,mf⟩
 exact⟨E',H',vf,vt,hr.symm.trans e,g,q1,q2,q3,q4,q5,fr⟩
variable {hb : Nat} {s : Hp} {L : G5}
theorem Gpf{M:List (Int×Int)}(k:s.Ok){o:Ob}(ho:o∈s.objs)(p:PH H hb (s.mp (Zu (JK M) o.addr)) L){mb:Nat}{ks:List Int}(mf:NM H mb (mvF M) ks)(hmb:mb≠L.wb)(hto:∀m∈M,s.has m.2=true)
  {E0:Env}(h0:E0 0=.ptr hb 0)(h9:E0 9=.GJ mb)(WA:E0 13=.i o.addr)(h66:E0 66=.i o.refs.length)(h67:E0 67=.i 0){r:Option (CX×Env×Gb)}(hr:den P (.loop Gas) E0 H=r):
  ∃E' H',r=some (.exit 4,E',H')∧Keeps H H' (·=L.wb)∧PH H' hb (s.mp (Zu (JK M) (o.addr+1))) L∧∀t,t∉wr Gas→E' t=E0 t:=by
 have ok:=k.ob o ho
 have hnr:=ok.nr
 have hfi:=ok.fits
 have hnb:=k.nb
 have hnw:s.nw=64*s.blk.length:=rfl
 have kB:(s.mp (Zu (JK M) o.addr)).Ok:=k.mp fun x _=>Yo _ _ x
 have oB:=GcO (f:=JK M) k ho (c:=o.addr) (Nat.le_refl _)
 obtain⟨x',E',H',e,-,⟨rfl,g,pp⟩,fr⟩:=Gq (p:=P) (c:=Gas) (E0:=E0) (H0:=H)
  (fun q E H'=>∃i:Nat,E 67=.i i∧i≤o.refs.length∧q=o.refs.length-i∧Keeps H H' (·=L.wb)∧PH H' hb ((s.mp (Zu (JK M) o.addr)).upd o.addr (En (JK M) i)) L)
  (fun x E' H'=>x=.exit 4∧Keeps H H' (·=L.wb)∧PH H' hb (s.mp (Zu (JK M) (o.addr+1))) L) (by
   rintro q E H' hE ⟨i,e67,hi,rfl,g,pj⟩
   have e0:=(hE 0 dK).trans h0
   have e9:=(hE 9 dK).trans h9
   have e13:=(hE 13 dK).trans WA
   have e66:=(hE 66 dK).trans h66
   by_cases c:i<o.refs.length
   ·have c':decide ((i:Int)<(o.refs.length:Int))=true:=Gz oM
    have w1:IntKind.i64.wrap ((i:Int)+1)=((i+1:Nat):Int):=Gg oM
    obtain⟨x,hx⟩:∃x,o.refs[i]?=some x:=⟨_,Jr c⟩
    have kj:((s.mp (Zu (JK M) o.addr)).upd o.addr (En (JK M) i)).Ok:=kB.upd fun x _ _=>Dy _ _ x
    have NJ:((s.mp (Zu (JK M) o.addr)).upd o.addr (En (JK M) i)).obj o.addr=some (En (JK M) i o):=by
     rw[Hp.GcY (fun x _ _=>Dy _ _ x),oB]
     simp[QM]
    obtain⟨X,b1,g1⟩:=U4 pj kj o.addr i oM
    rw[Hp.Vs (r:=x) (by unfold Hp.refsOf;rw[NJ];exact GhH hx)]at b1
    unfold UF at b1
    have mfX:NM X mb (mvF M) ks:=mf.frame (by rw[g1.keep mb (by have:=g.len;have:=mf.lt;omega) fun h=>h,g.keep mb mf.lt hmb])
    have mg:=mfX.get true (.i 0) x
    have gX:Keeps H X (·=L.wb):=g.trans (g1.weaken fun _ h=>h.elim)
    rcases Gkl M x with⟨b,y1,y2,y3⟩|⟨y1,y2⟩
    ·rw[y1]at mg
     have mg':NV true .i64 (.i 0) (.GJ mb) (.i x) X=some (.Jj [.i b,.bool true],X):=mg
     obtain⟨m,m1,-,m3⟩:=y3
     have hb2:s.has b=true:=by rw[←m3];exact hto m m1
     have hbl:=k.has_lt hb2
     obtain⟨X2,d1,d2,d3⟩:=YJ (pj.gr g1) kj o.addr i b oM oM
     have hset:((s.mp (Zu (JK M) o.addr)).upd o.addr (En (JK M) i)).setRef o.addr i b=((s.mp (Zu (JK M) o.addr)).upd o.addr (En (JK M) (i+1)),0):=by
      unfold Hp.setRef
      rw[NJ]
      dsimp only
      rw[if_pos ⟨oM,by rw[(Dy (JK M) i o).nr];omega⟩,if_pos (.inr (by rw[Hp.Gcu fun x _ _=>Dy _ _ x,Hp.Gbr fun x _=>Yo _ _ x];exact hb2)),Kt]
      congr 1
      show((s.mp (Zu (JK M) o.addr)).upd o.addr (En (JK M) i)).upd o.addr _=_
      rw[Gdb (f:=En (JK M) i) fun x=>rfl]
      refine Gc6 k ho ?_
      have:=WJ (f:=JK M) hx
      rw[y2]at this
      show({En (JK M) i o with refs:=(En (JK M) i o).refs.set i b}:Ob)=_
      rw[←this]
      rfl
     rw[hset]at d1 d3
     apply Gm (k':=o.refs.length-(i+1))
     ·simp(disch:=first|exact dz|fail) only[simprocAttr,Gs,↓reduceIte,e0,e9,e13,e66,e67,c',b1,@Nk,mg',d1,w1]
      rfl
     ·omega
     ·exact⟨i+1,uA,oM,rfl,gX.trans d2,d3⟩
    ·rw[y1]at mg
     have mg':NV true .i64 (.i 0) (.GJ mb) (.i x) X=some (.Jj [.i 0,.bool false],X):=mg
     apply Gm (k':=o.refs.length-(i+1))
     ·simp(disch:=first|exact dz|fail) only[simprocAttr,Gs,↓reduceIte,e0,e9,e13,e66,e67,c',b1,@Nk,mg',w1]
      rfl
     ·omega
     ·refine⟨i+1,uA,oM,rfl,gX,?_⟩
      have:(s.mp (Zu (JK M) o.addr)).upd o.addr (En (JK M) (i+1))=(s.mp (Zu (JK M) o.addr)).upd o.addr (En (JK M) i):=by
       refine Gc6 k ho ?_
       have h1:=WJ (f:=JK M) hx
       rw[y2,GhL (GhH hx)]at h1
       show({En (JK M) (i+1) o with refs:=(En (JK M) (i+1) o).refs}:Ob)=_
       rw[h1]
       rfl
      rw[this]
      exact pj.gr g1
   ·have c':decide ((i:Int)<(o.refs.length:Int))=false:=Gw oM
    have hii:i=o.refs.length:=by omega
    rw[hii,Ghd k ho]at pj
    apply Gi (x:=.exit 4)
    ·refine W3 e66 e67 c' ?_
     rfl
    ·simp
    ·exact⟨rfl,g,pj⟩) _ ⟨0,h67,oM,rfl,Keeps.refl _ _,by
     rw[Ghc fun x _ _=>Gh0 _ x];exact p⟩
 exact⟨E',H',hr.symm.trans e,g,pp,fr⟩
theorem Gol{M:List (Int×Int)}(k:s.Ok)(p:PH H hb s L){mb:Nat}{ks:List Int}(mf:NM H mb (mvF M) ks)(hmb:mb≠L.wb)(hto:∀m∈M,s.has m.2=true){k1:Nat}(hk1:L.wb<k1){v:CV}(li:IL k1 H v s.all)
  {E0:Env}(h0:E0 0=.ptr hb 0)(h9:E0 9=.GJ mb)(h53:E0 53=v)(h54:E0 54=.i s.objs.length)(h55:E0 55=.i 0){r:Option (CX×Env×Gb)}(hr:den P (.loop XG) E0 H=r):
  ∃E' H',r=some (.exit 2,E',H')∧Keeps H H' (·=L.wb)∧PH H' hb (s.mp (YE (JK M))) L:=by
 have few:=k.few
 obtain⟨x',E',H',e,-,⟨rfl,g,pp⟩,fr⟩:=Gq (p:=P) (c:=XG) (E0:=E0) (H0:=H)
  (fun q E H'=>∃j:Nat,E 55=.i j∧j≤s.objs.length∧q=s.objs.length-j∧Keeps H H' (·=L.wb)∧∃c,(∀(i:Nat)(o:Ob),s.objs[i]?=some o→(o.addr<c↔i<j))∧PH H' hb (s.mp (Zu (JK M) c)) L)
  (fun x E' H'=>x=.exit 2∧Keeps H H' (·=L.wb)∧PH H' hb (s.mp (YE (JK M))) L) (by
   rintro q E H' hE ⟨j,e55,hj,rfl,g,c0,hc0,pj⟩
   have e0:=(hE 0 dK).trans h0
   have e9:=(hE 9 dK).trans h9
   have e53:=(hE 53 dK).trans h53
   have e54:=(hE 54 dK).trans h54
   by_cases c:j<s.objs.length
   ·have c':decide ((j:Int)<(s.objs.length:Int))=true:=Gz oM
    have w1:IntKind.i64.wrap ((j:Int)+1)=((j+1:Nat):Int):=Gg oM
    obtain⟨o,ho⟩:∃o,s.objs[j]?=some o:=⟨_,Jr c⟩
    have om:=JV ho
    have ok:=k.ob o om
    have hfi:=ok.fits
    have hnb:=k.nb
    have hnw:s.nw=64*s.blk.length:=rfl
    have part:∀(i:Nat)(x:Ob),s.objs[i]?=some x→(x.addr<o.addr↔i<j):=fun i x hx=>by
     constructor
     ·intro h
      refine Nat.lt_of_not_le fun hij=>?_
      rcases Nat.lt_or_eq_of_le hij with h2|h2
      ·have:=Jg k.apart h2 ho hx;have:=o.size_pos;omega
      ·subst h2;rw[ho]at hx;cases hx;omega
     ·intro h
      have:=Jg k.apart h hx ho;have:=x.size_pos;omega
    have pj':PH H' hb (s.mp (Zu (JK M) o.addr)) L:=by
     rw[←GgS (c:=c0) fun x hx=>by
      obtain⟨i,hi⟩:=List.mem_iff_getElem?.1 hx
      rw[hc0 i x hi,part i x hi]]
     exact pj
    have ila:IL k1 H' v s.all:=IL.fr li fun h1 h2 _=>g.keep _ h2 oM
    obtain⟨b,w,i1,i2⟩:=Ur.at (IL.sl ila) (i:=j) (x:=o.addr) (by unfold Hp.all;rw[Kr,ho];rfl)
    have OI:=i1 H'
    have kB:(s.mp (Zu (JK M) o.addr)).Ok:=k.mp fun x _=>Yo _ _ x
    obtain⟨X,d1,g1⟩:=Ng pj' kB o.addr oM
    have hsv:(s.mp (Zu (JK M) o.addr)).JI o.addr=(GX o.refs.length o.data.length o.kd,0):=by unfold Hp.JI;rw[GcO k om (Nat.le_refl _)]
    rw[hsv]at d1
    obtain⟨X1,hX1⟩:∃X1:Gb,X1=X++[⟨GX o.refs.length o.data.length o.kd,.rw,0⟩]:=⟨_,rfl⟩
    have g2:Gr X X1:=by rw[hX1];exact Gr.app _ _
    have t1:X1[X.length]?=some ⟨GX o.refs.length o.data.length o.kd,.rw,0⟩:=by rw[hX1];simp
    have g12:=g1.trans g2
    unfold GX at d1 hX1 t1
    suffices fin:∃E' Y,den P XG E H'=some (.normal,E',Y)∧E' 55=.i ((j+1:Nat):Int)∧Keeps X1 Y (·=L.wb)∧PH Y hb (s.mp (Zu (JK M) (o.addr+1))) L by
     obtain⟨E',Y,f1,f2,f3,f4⟩:=fin
     refine Gm f1 (k':=s.objs.length-(j+1)) oM ⟨j+1,f2,oM,rfl,(g.trans (g12.weaken fun _ h=>h.elim)).trans f3,o.addr+1,fun i x hx=>?_,f4⟩
     have h1:=part i x hx
     constructor
     ·intro h
      by_cases h2:x.addr<o.addr
      ·have:=h1.1 h2;omega
      ·have h3:x.addr=o.addr:=by omega
       have:=k.Tm hx ho h3
       omega
     ·intro h
      by_cases h2:i<j
      ·have:=h1.2 h2;omega
      ·have h3:i=j:=by omega
       subst h3;rw[ho]at hx;cases hx;omega
    have mfX:NM X1 mb (mvF M) ks:=mf.frame (by rw[g12.keep mb (by have:=g.len;have:=mf.lt;omega) fun h=>h,g.keep mb mf.lt hmb])
    refine W8 e0 e53 e54 e55 c' OI i2 d1 ?_
    rw[←hX1]
    refine W1 t1 ?_
    generalize hr:den P (.loop Gas) _ _=r
    obtain⟨E2,Y,rfl,g3,p3,f3⟩:=Gpf k om (pj'.gr g12) mfX hmb hto (by simp[Gc,e0]) (by simp[Gc,e9]) uA uA uA hr
    have b55:=f3 55 dK
    simp only[Gc,Nat.reduceEqDiff,↓reduceIte,e55]at b55
    refine W2 b55 w1 ?_
    exact⟨_,_,rfl,uA,g3,p3⟩
   ·have c':decide ((j:Int)<(s.objs.length:Int))=false:=Gw oM
    apply Gi (x:=.exit 2)
    ·refine W3 e54 e55 c' ?_
     rfl
    ·simp
    ·refine⟨rfl,g,?_⟩
     rw[Gi0 (c:=c0) fun x hx=>by
      obtain⟨i,hi⟩:=List.mem_iff_getElem?.1 hx
      exact(hc0 i x hi).2 (by have:=Gf hi;omega)]at pj
     exact pj) _ ⟨0,h55,oM,rfl,Keeps.refl _ _,0,fun i x _=>by omega,by rw[GhX];exact p⟩
 exact⟨E',H',hr.symm.trans e,g,pp⟩
variable {o : Tags} {rb : Nat} {R : Rt} {v : Nat → CV}
theorem Gar{M:List (Int×Int)}(p:PH H hb s L)(k:s.Ok)(m:JL o H rb R v)(kr:R.Ok){k0:Nat}{vm:CV}(q:QL k0 H vm M)(od:Ord M)(hl:M.length≤255)(hto:∀x∈M,0<x.1∧0<x.2∧s.has x.2=true)(hd:∀c∈L.all hb,o c=none):
  ∃H',run P 58 [.ptr hb 0,.ptr rb 0,vm] H=some (.Jj [],H')∧Keeps H H' (fun c=>c=L.wb∨o c≠none)∧PH H' hb (s.mp (YE (JK M))) L∧JL o H' rb (R.ren (JK M)) v:=by
 obtain⟨v1,X1,d1,g1,q1⟩:=Gap q oM
 obtain⟨X2,d2,g2⟩:=slices_SortFunc q1 od hl
 have q2:=At.keeps q1 g2
 have hvl:=QL.len q2
 obtain⟨X3,YC⟩:∃X3:Gb,X3=X2++[⟨[],.map,0⟩]:=⟨_,rfl⟩
 have g3:Gr X2 X3:=by rw[YC];exact Gr.app _ _
 have l3:X3.length=X2.length+1:=by rw[YC];simp
 have mf:NM X3 X2.length (mvF []) []:=by
  have:=NM.new X2
  rw[←YC]at this
  exact this
 have Grb:=hvl X3
 have g13:=(g1.trans g2).trans g3
 have Gs8:=(g1.trans g2).len
 have lt:=p.lt
 have hwb:L.wb∈L.all hb:=by simp[G5.all]
 have hwl:=lt _ hwb
 rw[Gh c58 _ _ sM]
 have emap:=@BF
 simp(disch:=first|exact dz|fail) only[simprocAttr,Gs,↓reduceIte,Ub,d1,d2,emap,←YC,Grb]
 generalize hr:den P (.loop Rn) _ _=r
 obtain⟨E4,X4,vf,vt,rfl,g4,a7,a8,il1,il2,mf4,f4⟩:=GoN (At.keeps q2 g3) od oM mf uA uA uA uA uA uA hr
 have b0:=f4 0 dK
 have b1:=f4 1 dK
 have b9:=f4 9 dK
 simp only[Gc,Nat.reduceEqDiff,↓reduceIte]at b0 b1 b9
 have Gnd:∀c,c<H.length→X4[c]?=H[c]?:=fun c hc=>by rw[g4.keep c oM oM,g13.keep c hc fun h=>h]
 have m4:JL o X4 rb R v:=m.frame (fun c t h=>by have:=m.dom c t h;have:=g4.len;omega) (fun _ _ h=>h) fun c t h=>Gnd c (m.dom c t h)
 have p4:PH X4 hb s L:=p.frame fun c hc=>Gnd c (lt c hc)
 obtain⟨n,X5,d5,g5,m5⟩:=Pj m4 kr (k0:=X3.length) (fun c t h=>by have:=m.dom c t h;omega) (by have:=g4.len;omega) il1 il2 sM od.1 (fun x hx=>by
  obtain⟨y,hy,rfl⟩:=KI.1 hx
  exact(hto y hy).1) (fun x hx=>by
  obtain⟨y,hy,rfl⟩:=KI.1 hx
  have:=k.has_lt (hto y hy).2.2
  exact⟨(hto y hy).2.1,oM⟩) (by rw[QY];omega)
 rw[W_]at m5
 have omb:o X2.length=none:=Je fun h=>by
  cases e:o X2.length with
  |none=>exact h e
  |some t=>have:=m.dom _ t e;omega
 have p5:PH X5 hb s L:=p4.frame fun c hc=>g5.keep c (p4.lt c hc) fun h=>h (hd c hc)
 have mf5:=mf4.frame (g5.keep _ mf4.lt fun h=>h omb)
 obtain⟨v6,X6,d6,g6,li6⟩:=U3 p5 k
 have hlen:=li6.len X6
 have hal:s.all.length=s.objs.length:=by simp[Hp.all]
 rw[hal]at hlen
 have h5l:H.length≤X5.length:=by have:=g4.len;have:=g5.len;omega
 simp(disch:=first|exact dz|fail) only[simprocAttr,Gs,↓reduceIte,Ub,b0,b1,a7,a8,d5,d6,hlen]
 generalize hr:den P (.loop XG) _ _=r
 obtain⟨E7,X7,rfl,g7,p7⟩:=Gol k (p5.gr g6) (mf5.frame (g6.keep _ mf5.lt fun h=>h)) oM (fun x hx=>(hto x hx).2.2) (k1:=X5.length) oM li6 (by simp[Gc,b0]) (by simp[Gc,b9]) uA uA uA hr
 refine⟨X7,?_,⟨by have:=g6.len;have:=g7.len;omega,fun c hc hn=>?_⟩,p7,?_⟩
 ·simp(disch:=first|exact dz|fail) only[simprocAttr,Gs,↓reduceIte,Ub]
  try rfl
 ·rw[g7.keep c (by have:=g6.len;omega) (fun h=>hn (.inl h)),g6.keep c oM (fun h=>h),g5.keep c (by have:=g4.len;omega) (fun h=>hn (.inr h)),Gnd c hc]
 ·have m6:=m5.gr g6
  refine m6.frame (fun c t h=>J6 (m6.dom c t h) g7.len) (fun _ _ h=>h) fun c t h=>g7.keep c (m6.dom c t h) fun e=>?_
  rw[e,hd _ hwb]at h
  cases h
def JR(s:Hp)(M:List (Int×Int)):Nat:=M.foldr (fun m n=>s.KQ m.2+n) 0
theorem TM{s:Hp}{M:List (Int×Int)}{x:Int×Int}:JR s (M++[x])=JR s M+s.KQ x.2:=by
 unfold JR
 induction M with
 |nil=>simp
 |cons y M ih=>simp only[List.cons_append,List.foldr_cons,ih];omega
theorem PZ(k:s.Ok)(a:Int):s.KQ a≤218:=by
 unfold Hp.KQ
 cases e:s.obj a with
 |none=>decide
 |some o=>exact o.size_le (k.ob o (Hp.Jf e).1)
theorem O5(k:s.Ok):∀M:List (Int×Int),JR s M≤218*M.length
 |[]=>Nat.le_refl _
 |x::M=>by
  have h1:=PZ k x.2
  have h2:=O5 k M
  simp only[JR,List.foldr_cons,List.length_cons]at h2⊢
  omega
theorem Gk1{M:List (Int×Int)}(p:PH H hb s L)(k:s.Ok){k0:Nat}{vm:CV}(q:QL k0 H vm M)(hl:M.length≤255)(hto:∀x∈M,x.2≤9223372036854775807){ob:Nat}(Yi:ob∉L.all hb){r0 r1 r2 r3 r4 r6 r7:Int}(tO:H[ob]?=some ⟨rep r0 r1 r2 r3 r4 0 r6 r7,.rw,0⟩)
  {E0:Env} (h0:E0 0=.ptr hb 0) (h2:E0 2=.ptr ob 0) (h24:E0 24=vm) (h25:E0 25=.i M.length) (h26:E0 26=.i 0) {r:Option (CX×Env×Gb)} (hr:den P (.loop Gct) E0 H=r):
  ∃E' H',r=some (.exit 0,E',H')∧Keeps H H' (·=ob)∧H'[ob]?=some ⟨rep r0 r1 r2 r3 r4 (JR s M:Nat) r6 r7,.rw,0⟩:=by
 have hbo:=Gf tO
 obtain⟨x',E',H',e,-,⟨rfl,g,tt⟩,fr⟩:=Gq (p:=P) (c:=Gct) (E0:=E0) (H0:=H)
  (fun q E H'=>∃j:Nat,E 26=.i j∧j≤M.length∧q=M.length-j∧Keeps H H' (·=ob)∧H'[ob]?=some ⟨rep r0 r1 r2 r3 r4 (JR s (M.take j):Nat) r6 r7,.rw,0⟩)
  (fun x E' H'=>x=.exit 0∧Keeps H H' (·=ob)∧H'[ob]?=some ⟨rep r0 r1 r2 r3 r4 (JR s M:Nat) r6 r7,.rw,0⟩) (by
   rintro q' E H' hE ⟨j,e26,hj,rfl,g,tj⟩
   have e0:=(hE 0 dK).trans h0
   have e2:=(hE 2 dK).trans h2
   have e24:=(hE 24 dK).trans h24
   have e25:=(hE 25 dK).trans h25
   by_cases c:j<M.length
   ·have c':decide ((j:Int)<(M.length:Int))=true:=Gz oM
    have w1:IntKind.i64.wrap ((j:Int)+1)=((j+1:Nat):Int):=Gg oM
    obtain⟨x,hx⟩:∃x,M[j]?=some x:=⟨_,Jr c⟩
    obtain⟨b,i1,-,i2,i3⟩:=QL.row q hx
    have OI:=i1 H'
    have i2':H'[b]?=some ⟨I9 M,.rw,2⟩:=by
     rw[g.keep b (Gf i2) fun e=>?_];exact i2
     rw[e,tO]at i2;simp at i2
    have ht:M.take (j+1)=M.take j++[x]:=by rw[Nl,hx];rfl
    obtain⟨X,hX⟩:∃X:Gb,X=H'++[⟨[.i x.1,.i x.2],.rw,0⟩]:=⟨_,rfl⟩
    have gX:Gr H' X:=by rw[hX];exact Gr.app _ _
    have tX:X[H'.length]?=some ⟨[.i x.1,.i x.2],.rw,0⟩:=by rw[hX];simp
    have pj:PH H' hb s L:=p.frame fun c hc=>g.keep c (p.lt c hc) fun e=>Yi (e▸hc)
    obtain⟨Y,d1,g1⟩:=Ae (pj.gr gX) k x.2 (hto x (JV hx))
    have hs1:=O5 k (M.take j)
    have hs2:=PZ k x.2
    rw[List.length_take]at hs1
    have tY:=Gr.get (gX.trans g1) tj
    have tXo:=Gr.get gX tj
    have w2:IntKind.i64.wrap ((JR s (M.take j):Int)+(s.KQ x.2:Int))=((JR s (M.take j)+s.KQ x.2:Nat):Int):=Gg oM
    obtain⟨Z,hZ⟩:∃Z:Gb,Z=Y.set ob ⟨rep r0 r1 r2 r3 r4 ((JR s (M.take j)+s.KQ x.2:Nat):Int) r6 r7,.rw,0⟩:=⟨_,rfl⟩
    have kZ:Keeps Y Z (·=ob):=by rw[hZ];exact Keeps.set (w:=fun c=>c=ob) (Keeps.refl _ _) (.inl rfl) _
    have tZ:Z[ob]?=some ⟨rep r0 r1 r2 r3 r4 ((JR s (M.take j)+s.KQ x.2:Nat):Int) r6 r7,.rw,0⟩:=by rw[hZ,Va (Gf tY)]
    unfold rep at tY hZ tXo
    apply Gm (k':=M.length-(j+1))
    ·simp(disch:=first|exact dz|fail) only[simprocAttr,Gs,↓reduceIte,Ub,e0,e2,e24,e25,e26,c',OI,i2',i3,←hX,tX,tXo,d1,tY,w2,hZ.symm,@Vm,w1]
     rfl
    ·omega
    ·exact⟨j+1,uA,oM,rfl,(g.trans ((gX.trans g1).weaken fun _ h=>h.elim)).trans kZ,by rw[ht,TM];exact tZ⟩
   ·have c':decide ((j:Int)<(M.length:Int))=false:=Gw oM
    rw[Qe oM]at tj
    apply Gi (x:=.exit 0)
    ·refine W3 e25 e26 c' ?_
     rfl
    ·simp
    ·exact⟨rfl,g,tj⟩) _ ⟨0,h26,oM,rfl,Keeps.refl _ _,tO⟩
 exact⟨E',H',hr.symm.trans e,g,tt⟩
theorem Om{M:List (Int×Int)}(p:PH H hb s L)(k:s.Ok){k0:Nat}{vm:CV}(q:QL k0 H vm M)(hl:M.length≤255)(hto:∀x∈M,x.2≤9223372036854775807){ob:Nat}(Yi:ob∉L.all hb){r0 r1 r2 r3 r4 r6 r7:Int}(tO:H[ob]?=some ⟨rep r0 r1 r2 r3 r4 0 r6 r7,.rw,0⟩):
  ∃H',run P 60 [.ptr hb 0,vm,.ptr ob 0] H=some (.Jj [],H')∧Keeps H H' (·=ob)∧H'[ob]?=some ⟨rep s.objs.length (sizes s.objs:Nat) r2 r3 M.length (JR s M:Nat) r6 r7,.rw,0⟩:=by
 obtain⟨v1,X1,d1,g1,li1⟩:=U3 p k
 have hlen:=li1.len X1
 have hal:s.all.length=s.objs.length:=by simp[Hp.all]
 rw[hal]at hlen
 obtain⟨X2,d2,g2⟩:=GdR (p.gr g1) k
 have g12:=g1.trans g2
 have t2:=Gr.get g12 tO
 obtain⟨X3,YC⟩:∃X:Gb,X=X2.set ob ⟨rep s.objs.length r1 r2 r3 r4 0 r6 r7,.rw,0⟩:=⟨_,rfl⟩
 have t3:X3[ob]?=some ⟨rep s.objs.length r1 r2 r3 r4 0 r6 r7,.rw,0⟩:=by rw[YC,Va (Gf t2)]
 obtain⟨X4,hX4⟩:∃X:Gb,X=X3.set ob ⟨rep s.objs.length (sizes s.objs:Nat) r2 r3 r4 0 r6 r7,.rw,0⟩:=⟨_,rfl⟩
 have t4:X4[ob]?=some ⟨rep s.objs.length (sizes s.objs:Nat) r2 r3 r4 0 r6 r7,.rw,0⟩:=by rw[hX4,Va (Gf t3)]
 obtain⟨X5,BG⟩:∃X:Gb,X=X4.set ob ⟨rep s.objs.length (sizes s.objs:Nat) r2 r3 M.length 0 r6 r7,.rw,0⟩:=⟨_,rfl⟩
 have t5:X5[ob]?=some ⟨rep s.objs.length (sizes s.objs:Nat) r2 r3 M.length 0 r6 r7,.rw,0⟩:=by rw[BG,Va (Gf t4)]
 have k5:Keeps H X5 (·=ob):=by
  rw[BG,hX4,YC]
  exact(((g12.weaken (w':=fun c=>c=ob) fun _ h=>h.elim).set (.inl rfl) _).set (.inl rfl) _).set (.inl rfl) _
 have q5:QL k0 X5 vm M:=by
  rcases q with h|⟨b,tl,e,h1,h2,h3⟩
  ·exact .inl h
  ·exact .inr ⟨b,tl,e,h1,by rw[k5.keep b (Gf h2) fun e=>(by rw[e,tO]at h2;simp at h2)];exact h2,h3⟩
 have p5:PH X5 hb s L:=p.frame fun c hc=>k5.keep c (p.lt c hc) fun e=>Yi (e▸hc)
 have hm4:=q5.len X4
 have hm5:=q5.len X5
 have t5r:=t5
 rw[Gh c60 _ _ sM]
 unfold rep at t2 YC t3 hX4 t4 BG t5
 simp(disch:=first|exact dz|fail) only[simprocAttr,Gs,↓reduceIte,Ub,d1,hlen,d2,t2,YC.symm,t3,hX4.symm,t4,BG.symm,hm4,hm5,@Vm]
 generalize hr:den P (.loop Gct) _ _=r
 obtain⟨E6,X6,rfl,g6,t6⟩:=Gk1 p5 k q5 hl hto Yi t5r uA uA uA uA uA hr
 refine⟨X6,?_,k5.trans g6,t6⟩
 simp(disch:=first|exact dz|fail) only[simprocAttr,Gs,↓reduceIte,Ub]
 try rfl
end
end Go.Cs.Tryz
namespace Go.Cs.Tryz
open Go Go.Cs A
abbrev P7:Gn:=T [b 48 .lss 47 46] (S (J 48 (X 0)) (S (B 1 (T [x 49 1 45 47,l 50 1 49,m 15 50] (T [m 51 11,m 52 15,q2 53 54 51 52,no 54 53,m 55 54,gt 55 (m 56 0),gt 55 (m 57 15),gt 55 (q2 58 55 56 57),gt 55 (no 59 58),an 60 55 59,m 61 60,gt 61 (m 62 0),gt 61 (m 63 15),gt 61 (bk 64 .quo 63 64),gt 61 (q2 65 56 62 64),gt 61 (m 66 3),gt 61 (b 67 .neq 65 66),an 68 61 67] (I 68 (R [m 69 13,m 70 15,m 71 3,q3 72 57 69 70 71]))))) (R [bk 73 .add 47 1,m 47 73])))
def C11:Gj:=⟨90,0,T [e 8 (.new [i 0,i 0,i 0,i 0,i 0,i 0,i 0,i 0]),n 9 0] (S (T [m 16 0,m 17 1,m 18 2,q3 19 48 16 17 18,m 10 19] (T [m 20 10,bk 21 .neq 20 0] (I 21 (Q [e 22 (.build [i 0,i 0,i 0,i 0,i 0,i 0,i 0,i 0] []),m 23 10,st 8 8 22,m 9 23])))) (S (T [m 24 3,bk 25 .lss 24 0,m 26 25,gf 26 (m 27 3),gf 26 (bk 28 .geq 27 8),or 29 26 28] (I 29 (Q [e 30 (.build [i 0,i 0,i 0,i 0,i 0,i 0,i 0,i 0] []),st 8 8 30,n 9 1]))) (T [m 31 0,m 32 2,q2 33 47 31 32,m 11 33] (T [m 34 0,m 35 0,m 36 1,m 37 2,q3 38 50 35 36 37,q2 39 49 34 38,e 12 (.new [i 0,i 0,i 0,i 0,i 0,i 0,i 0,i 0]),st 8 12 39] (T [m 40 0,q1 41 51 40] (T [m 42 0,q1 43 52 42,m 13 43] (S (T [m 44 0,q1 45 53 44,le 46 45,n 47 0] (B 0 (W P7))) (T [m 74 0,m 75 1,m 76 13,z 77 76,f 78 2 77,l 79 1 78,q3 80 58 74 75 79] (T [m 81 0,q1 82 59 81] (T [m 83 0,m 84 13,z 85 84,f 86 2 85,l 87 1 86,q3 88 60 83 87 12] (Q [lg 89 8 12,st 8 8 89,n 9 0]))))))))))),[.cell 8 true 8,r 9]⟩
theorem c11:P 11=some C11:=by kernel_rfl
end Go.Cs.Tryz
namespace Go.Cs
open Go
theorem Hp.Fz.GL{s:Hp}(h:s.Fz)(K:Int→Bool):(s.GL K).forget.Fz:=h
theorem Hp.Lo.GL{s:Hp}(h:s.Lo)(K:Int→Bool):(s.GL K).forget.Lo:=⟨h.1,fun x hx=>by
 obtain⟨o,h1,-,rfl⟩:=Hp.Fh.1 hx
 rw[(QO K o).addr];exact h.2 o h1⟩
theorem Hp.Wj.GL{s:Hp}(h:s.Wj)(K:Int→Bool):(s.GL K).forget.Wj:=fun x hx=>by
 obtain⟨o,h1,-,rfl⟩:=Hp.Fh.1 hx
 rw[(QO K o).addr,(QO K o).size];exact h o h1
noncomputable def Ri(s:Hp)(K fx:Int→Bool)(sp:Int):Hp×List (Int×Int):=OX (s.GL K).forget fx sp (s.GL K).objs.length
theorem Pw{s:Hp}(k:s.Ok)(f:s.Fz)(lo:s.Lo)(us:s.Wj){sp:Int}(hsp:0≤sp∧sp<8)(K fx:Int→Bool):MInv (s.GL K).forget fx sp (s.GL K).objs.length (Ri s K fx sp):=
 Tx (k.GL K).forget (f.GL K) (lo.GL K) (us.GL K) hsp (Nat.le_refl _)
theorem Y8(s:Hp):∀n,(Kg s n).objs=s.objs
 |0=>rfl
 |n+1=>by
  rw[Kg]
  have:∀(t:Hp)(b:Int),(t.release b).1.objs=t.objs:=fun t b=>by
   unfold Hp.release
   split
   ·split<;>rfl
   ·rfl
  rw[this,Y8 s n]
theorem MInv.Gaz{s:Hp}{fx:Int→Bool}{sp:Int}{j:Nat}{x:Hp×List (Int×Int)}(k:s.Ok)(lo:s.Lo)(h:MInv s fx sp j x):Ord x.2∧∀m∈x.2,0<m.1∧0<m.2∧x.1.has m.2=true:=by
 have hm:∀m∈x.2,∃o0∈s.objs,m.1=o0.addr:=fun m hm=>by
  have:=List.mem_of_mem_take (h.frm m hm).1
  unfold Hp.all at this
  obtain⟨o0,h1,h2⟩:=KI.1 this
  exact⟨o0,h1,h2.symm⟩
 refine⟨⟨h.Ic,fun m hmm=>?_⟩,fun m hmm=>?_⟩
 ·obtain⟨o0,h1,h2⟩:=hm m hmm
  have:=(k.ob o0 h1).fits
  have:=o0.size_pos
  have:=k.nb
  have:s.nw=64*s.blk.length:=rfl
  omega
 ·obtain⟨o0,h1,h2⟩:=hm m hmm
  have h3:=lo.2 o0 h1
  obtain⟨-,-,-,-,b,h4,h5⟩:=h.frm m hmm
  refine⟨oM,oM,?_⟩
  have h6:=(h.obs _).2 ⟨o0,h1,rfl⟩
  rw[←h2,GcJ h.Ic hmm,h4,Kt]at h6
  exact Hp.J4.2 ⟨_,by rw[h4];exact h.ok.obj h6⟩
theorem Tg{s:Hp}{fx:Int→Bool}{sp:Int}:∀{j:Nat},(OX s fx sp j).2.length≤j
 |0=>Nat.le_refl _
 |j+1=>by
  have h:=@Tg s fx sp j
  cases e:s.all[j]? with
  |none=>
   unfold OX at h⊢
   rw[Nl,e]
   simp only[Option.toList_none,List.append_nil]
   omega
  |some a=>
   rw[Mf e]
   unfold ED
   split
   ·omega
   ·dsimp only
    rw[Qi]
    split<;>simp<;>omega
end Go.Cs
namespace Go.Cs.Tryz
open Go Go.Cs
section
variable {H : Gb} {hb : Nat} {s : Hp} {L : G5}
theorem GlG(p:PH H hb s L)(k:s.Ok)(f:s.Fz)(lo:s.Lo)(us:s.Wj){sp:Int}(hsp:0≤sp∧sp<8){vf:CV}{UJ:List Int}(hf:Ur H vf UJ)(hfl:UJ.length≤100000){k1:Nat}{va:CV}(li:IL k1 H va s.all){mb tb:Nat}(m:Mvr H mb hb tb H.length [])
  (hd:mb∉L.all hb∧tb∉L.all hb)(hfn:UJ≠[]→Gp vf∉L.all hb∧Gp vf≠mb∧Gp vf≠tb)(hln:s.all≠[]→Gp va∉L.all hb∧Gp va≠mb∧Gp va≠tb)
  {E0:Env}(h0:E0 0=.ptr hb 0)(h3:E0 3=.i sp)(h11:E0 11=vf)(WA:E0 13=.ptr mb 0)(h45:E0 45=va)(h46:E0 46=.i s.objs.length)(h47:E0 47=.i 0){r:Option (CX×Env×Gb)}(hr:den P (.loop P7) E0 H=r):
  ∃E' H',r=some (.exit 0,E',H')∧Keeps H H' (fun c=>c∈L.all hb∨c=mb∨c=tb)∧PH H' hb (OX s (fun x=>decide (x∈UJ)) sp s.objs.length).1 L∧Mvr H' mb hb tb H.length (OX s (fun x=>decide (x∈UJ)) sp s.objs.length).2∧∀t,t∉wr P7→E' t=E0 t:=by
 have few:=k.few
 obtain⟨fx,hfx⟩:∃fx:Int→Bool,fx=fun x=>decide (x∈UJ):=⟨_,rfl⟩
 rw[←hfx]
 have lt:=p.lt
 have m0:=m
 obtain⟨w0,r0,t0,ql0,mt0⟩:=m0
 have hmb:=Gf t0
 have htb:tb<H.length:=by
  obtain⟨l,h,-⟩:=mt0
  exact Gf h
 obtain⟨x',E',H',e,-,⟨rfl,g,pp,mm⟩,fr⟩:=Gq (p:=P) (c:=P7) (E0:=E0) (H0:=H)
  (fun q E H'=>∃j:Nat,E 47=.i j∧j≤s.objs.length∧q=s.objs.length-j∧Keeps H H' (fun c=>c∈L.all hb∨c=mb∨c=tb)∧PH H' hb (OX s fx sp j).1 L∧Mvr H' mb hb tb H.length (OX s fx sp j).2)
  (fun x E' H'=>x=.exit 0∧Keeps H H' (fun c=>c∈L.all hb∨c=mb∨c=tb)∧PH H' hb (OX s fx sp s.objs.length).1 L∧Mvr H' mb hb tb H.length (OX s fx sp s.objs.length).2) (by
   rintro q E H' hE ⟨j,e47,hj,rfl,g,pj,mj⟩
   have e0:=(hE 0 dK).trans h0
   have e3:=(hE 3 dK).trans h3
   have e11:=(hE 11 dK).trans h11
   have e13:=(hE 13 dK).trans WA
   have e45:=(hE 45 dK).trans h45
   have e46:=(hE 46 dK).trans h46
   by_cases c:j<s.objs.length
   ·have c':decide ((j:Int)<(s.objs.length:Int))=true:=Gz oM
    have w1:IntKind.i64.wrap ((j:Int)+1)=((j+1:Nat):Int):=Gg oM
    obtain⟨a,ha⟩:∃a,s.all[j]?=some a:=⟨_,Jr (by unfold Hp.all;rw[QY];omega)⟩
    have iv:=Tx (fx:=fx) k f lo us hsp (Nat.le_of_lt c)
    obtain⟨o0,om,rfl,NJ,-⟩:=iv.obj k ha
    have ila:IL k1 H' va s.all:=IL.fr li fun _ h2 _=>g.keep _ h2 (by
     have:=hln (fun h=>by rw[h]at ha;cases ha)
     rintro (h|h|h)
     ·exact this.1 h
     ·exact this.2.1 h
     ·exact this.2.2 h)
    obtain⟨b,w,i1,i2⟩:=Ur.at (IL.sl ila) ha
    have OI:=i1 H'
    have hf':Ur H' vf UJ:=by
     by_cases cf:UJ=[]
     ·subst cf
      rcases hf with h|⟨b,o,c,t,kk,e,-⟩
      ·exact .inl h
      ·exact .inl ⟨rfl,.inr ⟨b,o,c,t,e⟩⟩
     ·exact hf.mono fun b kk hb _ he=>by
       have:=hfn cf
       rw[he]at this
       rw[g.keep b (Gf hb) (by
        rintro (h|h|h)
        ·exact this.1 h
        ·exact this.2.1 h
        ·exact this.2.2 h)]
       exact hb
    have hcon:=contains hf' (o0.addr:Int) oM
    have hany:(UJ.any fun x=>(o0.addr:Int)==x)=fx o0.addr:=by
     rw[hfx,Bool.eq_iff_iff]
     simp
    rw[hany]at hcon
    have okj:=iv.ok
    have olt:=k.ob o0 om
    have hfi:=olt.fits
    have hz0:=o0.size_pos
    have hnb:=k.nb
    have hnw:s.nw=64*s.blk.length:=rfl
    obtain⟨X,d1,g1⟩:=XK pj okj o0.addr oM
    have hq:(o0.addr:Int).tdiv 64=((o0.addr/64:Nat):Int):=KN o0.addr 64
    have wq:IntKind.i64.wrap ((o0.addr/64:Nat):Int)=((o0.addr/64:Nat):Int):=Gg oM
    have d2:=FM (pj.gr g1) okj (b:=o0.addr/64) (by rw[iv.len.1];omega)
    have gX:Keeps H X (fun c=>c∈L.all hb∨c=mb∨c=tb):=g.trans (g1.weaken fun _ h=>h.elim)
    suffices fin:∃E' Y,den P P7 E H'=some (.normal,E',Y)∧E' 47=.i ((j+1:Nat):Int)∧Keeps H Y (fun c=>c∈L.all hb∨c=mb∨c=tb)∧PH Y hb (OX s fx sp (j+1)).1 L∧Mvr Y mb hb tb H.length (OX s fx sp (j+1)).2 by
     obtain⟨E',Y,f1,f2,f3,f4,f5⟩:=fin
     exact Gm f1 (k':=s.objs.length-(j+1)) oM ⟨j+1,f2,oM,rfl,f3,f4,f5⟩
    rw[Mf ha]
    unfold ED Hp.stays
    rw[Kt]
    have mjX:∀Y,Gr H' Y→Mvr Y mb hb tb H.length (OX s fx sp j).2:=fun Y gY=>by
     obtain⟨w,r,t,ql,mt⟩:=mj
     exact⟨w,r,gY.get t,At.keeps ql gY,mt.frame (by obtain⟨l,h,-⟩:=mt;rw[gY.keep tb (Gf h) fun h=>h])⟩
    cases cc:fx o0.addr with
    |true=>
     rw[cc]at hcon
     rw[if_pos sM]
     simp(disch:=first|exact dz|fail) only[simprocAttr,Gs,↓reduceIte,e0,e3,e11,e13,e45,e46,e47,c',OI,i2,hcon,w1]
     exact⟨_,_,rfl,uA,g,pj,mj⟩
    |false=>
     rw[cc]at hcon
     cases cx:((OX s fx sp j).1.pinnedAt o0.addr||decide (32<(OX s fx sp j).1.KQ o0.addr))with
     |true=>
      rw[cx]at d1
      rw[if_pos sM]
      simp(disch:=first|exact dz|fail) only[simprocAttr,Gs,↓reduceIte,e0,e3,e11,e13,e45,e46,e47,c',OI,i2,hcon,d1,w1]
      exact⟨_,_,rfl,uA,gX,pj.gr g1,mjX X g1⟩
     |false=>
      rw[cx]at d1
      by_cases cs:((OX s fx sp j).1.KD (o0.addr/64):Int)=sp
      ·have cs':(((OX s fx sp j).1.KD (o0.addr/64):Int) != sp)=false:=by simpa using cs
       rw[if_pos (by simpa using cs)]
       simp(disch:=first|exact dz|fail) only[simprocAttr,Gs,↓reduceIte,e0,e3,e11,e13,e45,e46,e47,c',OI,i2,hcon,d1,@Ji,hq,wq,d2,cs',w1]
       exact⟨_,_,rfl,uA,gX,pj.gr g1,mjX X g1⟩
      ·have cs':(((OX s fx sp j).1.KD (o0.addr/64):Int) != sp)=true:=by simpa using cs
       rw[if_neg (by simpa using cs)]
       have hsz:o0.size≤32:=by
        simp only[Bool.or_eq_false_iff,decide_eq_false_iff_not]at cx
        have:=cx.2
        unfold Hp.KQ at this
        rw[NJ]at this
        dsimp only at this
        omega
       have hml:=@Tg s fx sp j
       obtain⟨bb,Y,d3,g3,p3,m3⟩:=GbF (pj.gr g1) okj iv.fz iv.lo hsp NJ hsz (mjX X g1) (by have:=gX.len;omega) oM ⟨hd.1,hd.2,hmb,htb,lt⟩
       simp(disch:=first|exact dz|fail) only[simprocAttr,Gs,↓reduceIte,e0,e3,e11,e13,e45,e46,e47,c',OI,i2,hcon,d1,@Ji,hq,wq,d2,cs',d3,w1]
       refine⟨_,_,rfl,uA,⟨J2 gX.len g3.len,fun c hc hn=>?_⟩,p3,m3⟩
       rw[g3.keep c (by have:=gX.len;omega) (by
        rintro (h|h|h|h)
        ·exact hn (.inl h)
        ·exact hn (.inr (.inl h))
        ·exact hn (.inr (.inr h))
        ·omega),gX.keep c hc hn]
   ·have c':decide ((j:Int)<(s.objs.length:Int))=false:=Gw oM
    have hjj:j=s.objs.length:=by omega
    rw[hjj]at pj mj
    apply Gi (x:=.exit 0)
    ·refine W3 e46 e47 c' ?_
     rfl
    ·simp
    ·exact⟨rfl,g,pj,mj⟩) _ ⟨0,h47,oM,rfl,Keeps.refl _ _,p,m⟩
 exact⟨E',H',hr.symm.trans e,g,pp,mm,fr⟩
variable {o : Tags} {rb : Nat} {R : Rt} {v : Nat → CV}
theorem Gbm(p:PH H hb s L)(k:s.Ok)(f:s.Fz)(lo:s.Lo)(us:s.Wj)(few:s.objs.length≤255)(m:JL o H rb R v)(kr:R.Ok)(hs:Iz s R)(hd:∀c∈L.all hb,o c=none){vw:CV}{ws:List Int}(hw:Ur H vw ws)(hl:ws.length≤200){sp:Int}(hsp:0≤sp∧sp<8):
  ∃(H':Gb)(ks UJ:List Int)(t:Hp)(ms:List (Int×Int)),(∀x,x∈ks↔KpW s R ws x)∧ks.Nodup∧(∀x,x∈UJ↔x∈UH s ws)∧(t,ms)=Ri s (fun x=>decide (x∈ks)) (fun x=>decide (x∈UJ)) sp∧
   run P 11 [.ptr hb 0,.ptr rb 0,vw,.i sp] H=some (.Jj [.agg (rep t.objs.length (sizes (t.mp (YE (JK ms))).objs:Nat) (s.objs.filter fun o=>!decide ((o.addr:Int)∈ks)).length (sizes (s.objs.filter fun o=>!decide ((o.addr:Int)∈ks)):Nat) ms.length (JR (Kg (t.mp (YE (JK ms))) s.blk.length) ms:Nat) ks.length (YW s (fun x=>decide (x∈ks)) ks:Nat)),.i 0],H')∧
   Keeps H H' (fun c=>c∈L.all hb∨o c≠none)∧PH H' hb (Kg (t.mp (YE (JK ms))) s.blk.length) L∧JL o H' rb (R.ren (JK ms)) v:=by
 obtain⟨X0,hX0⟩:∃X:Gb,X=H++[⟨rep 0 0 0 0 0 0 0 0,.rw,0⟩]:=⟨_,rfl⟩
 have g0:Gr H X0:=by rw[hX0];exact Gr.app _ _
 have l0:X0.length=H.length+1:=by rw[hX0];simp
 have t0:X0[H.length]?=some ⟨rep 0 0 0 0 0 0 0 0,.rw,0⟩:=by rw[hX0];simp
 have lt:=p.lt
 have ltm:=m.dom
 obtain⟨X1,d1,g1⟩:=EB (p.gr g0) k (m.gr g0) kr hs (QA hw g0) hl
 have F3:=g0.trans g1
 obtain⟨vf,X2,UJ,d2,g2,sn2,sf2,mf2,nf2⟩:=Lg (p.gr F3) k (QA hw F3) oM
 have g02:=F3.trans g2
 obtain⟨kb,X3,ks,d3,g3,hkb,GgL,hks⟩:=Mc (p.gr g02) k (m.gr g02) kr hs (QA hw g02) hl
 have g03:=g02.trans g3
 have p3:=p.gr g03
 have gl3:=g03.len
 have G1u:=g3.len
 have gl0:=(g1.trans (g2.trans g3)).len
 have gl2:=g02.len
 obtain⟨X4,d4,g4,p4⟩:=Rh k lo p3 GgL (fun h=>by have:=lt _ h;omega)
 have gl4:=g4.len
 obtain⟨K,hK⟩:∃K:Int→Bool,K=fun x=>decide (x∈ks):=⟨_,rfl⟩
 obtain⟨fx,hfx⟩:∃fx:Int→Bool,fx=fun x=>decide (x∈UJ):=⟨_,rfl⟩
 rw[←hK]at p4 d4
 obtain⟨r2,hr2⟩:∃r:Nat,r=(s.objs.filter fun o=>!decide ((o.addr:Int)∈ks)).length:=⟨_,rfl⟩
 obtain⟨r3,hr3⟩:∃r:Nat,r=sizes (s.objs.filter fun o=>!decide ((o.addr:Int)∈ks)):=⟨_,rfl⟩
 obtain⟨r7,hr7⟩:∃r:Nat,r=YW s K ks:=⟨_,rfl⟩
 rw[←hr2,←hr3,←hr7]at d4
 have k4:=k.GL K
 obtain⟨X5,BG⟩:∃X:Gb,X=X4++[⟨rep 0 0 r2 r3 0 0 ks.length r7,.rw,0⟩]:=⟨_,rfl⟩
 have g5:Gr X4 X5:=by rw[BG];exact Gr.app _ _
 have l5:X5.length=X4.length+1:=by rw[BG];simp
 have t5:X5[X4.length]?=some ⟨rep 0 0 r2 r3 0 0 ks.length r7,.rw,0⟩:=by rw[BG];simp
 obtain⟨fg,X6,d6,g6,p6⟩:=WZ (p4.gr g5) k4
 have gl6:=g6.len
 obtain⟨X7,hX7⟩:∃X:Gb,X=X6++[⟨[],.map,0⟩]++[⟨[.ptr hb 0,.GJ X6.length,.Gd],.rw,0⟩]:=⟨_,rfl⟩
 have g7:Gr X6 X7:=by rw[hX7];exact(Gr.app _ _).app' _
 have l7:X7.length=X6.length+2:=by rw[hX7];simp
 have d7:=Mj (H:=X6) (hb:=hb)
 rw[←hX7]at d7
 have t7a:X7[X6.length]?=some ⟨[],.map,0⟩:=by rw[hX7];simp
 have t7b:X7[X6.length+1]?=some ⟨[.ptr hb 0,.GJ X6.length,.Gd],.rw,0⟩:=by rw[hX7];simp
 have k6:(s.GL K).forget.Ok:=k4.forget
 obtain⟨va,X8,d8,g8,il8⟩:=U3 (p6.gr g7) k6
 have gl8:=g8.len
 have hlen:=il8.len X8
 have hal:(s.GL K).forget.all.length=(s.GL K).objs.length:=by simp[Hp.all,Hp.forget]
 rw[hal]at hlen
 have nL:∀c,H.length≤c→c∉L.all hb:=fun c hc h=>by have:=lt c h;omega
 have mv0:Mvr X8 (X6.length+1) hb X6.length X8.length []:=⟨.Gd,fun _ _=>False,g8.get t7b,.inl ⟨rfl,rfl,.inl rfl⟩,[],by rw[g8.get t7a];rfl,List.nodup_nil,fun k v=>by simp⟩
 have Gnq:∀c,c<X2.length→c∉L.all hb→X8[c]?=X2[c]?:=fun c hc hn=>by
  rw[g8.keep c (by have:=g3.len;omega) fun h=>h,g7.keep c (by have:=g3.len;omega) fun h=>h,g6.keep c (by have:=g3.len;omega) hn,g5.keep c (by have:=g3.len;omega) fun h=>h,g4.keep c (by have:=g3.len;omega) hn,g3.keep c hc fun h=>h]
 have hfn:UJ≠[]→Gp vf∉L.all hb∧Gp vf<X2.length:=fun h=>by
  have h1:=sn2.2 h
  refine⟨nL _ (by have:=F3.len;omega),?_⟩
  rcases sn2.1 with⟨e,-⟩|⟨b,o',c,t,kk,rfl,h2,-⟩
  ·exact absurd (by simpa[KP]using e) h
  ·exact Gf h2
 have sf8:Ur X8 vf UJ:=by
  by_cases cf:UJ=[]
  ·subst cf
   rcases sn2.1 with h|⟨b,o',c,t,kk,e,-⟩
   ·exact .inl h
   ·exact .inl ⟨rfl,.inr ⟨b,o',c,t,e⟩⟩
  ·exact sn2.1.mono fun b kk hb _ he=>by
    rw[Gnq b (Gf hb) (by rw[←he];exact(hfn cf).1)];exact hb
 have hil:(s.GL K).forget.all≠[]→X7.length≤Gp va:=fun h=>(il8.TU h).1
 have cs1:decide (sp<0)=false:=Gw oM
 have cs2:decide (sp≥8)=false:=Gw oM
 rw[Gh c11 _ _ sM]
 have t0r:=t0
 have t5r:=t5
 unfold rep at hX0 t0 d4 BG t5
 simp(disch:=first|exact dz|fail) only[simprocAttr,Gs,↓reduceIte,Ub,←hX0,d1,cs1,cs2,d2,d3,d4,←BG,d6,d7,d8,hlen]
 generalize hr:den P (.loop P7) _ _=r
 obtain⟨E9,X9,rfl,g9,p9,m9,f9⟩:=GlG (p6.gr (g7.trans g8)) k6 (f.GL K) (lo.GL K) (us.GL K) hsp sf8 oM il8 mv0 ⟨nL _ oM,nL _ oM⟩
  (fun h=>⟨(hfn h).1,by have:=(hfn h).2;omega,by have:=(hfn h).2;omega⟩) (fun h=>⟨nL _ (by have:=hil h;omega),by have:=hil h;omega,by have:=hil h;omega⟩)
  uA uA uA uA uA (by simp[Gc];rfl) uA hr
 have b0:=f9 0 dK
 have b1:=f9 1 dK
 have b8:=f9 8 dK
 have b12:=f9 12 dK
 have b13:=f9 13 dK
 simp only[Gc,Nat.reduceEqDiff,↓reduceIte]at b0 b1 b8 b12 b13
 have inv:=Pw k f lo us hsp K fx
 obtain⟨t,ht⟩:∃t,t=(Ri s K fx sp).1:=⟨_,rfl⟩
 obtain⟨ms,hms⟩:∃ms,ms=(Ri s K fx sp).2:=⟨_,rfl⟩
 have etm:Ri s K fx sp=(t,ms):=by rw[ht,hms]
 have p9':PH X9 hb t L:=by rw[ht,hfx];exact p9
 have m9':Mvr X9 (X6.length+1) hb X6.length X8.length ms:=by rw[hms,hfx];exact m9
 rw[etm]at inv
 obtain⟨od,hto⟩:=inv.Gaz k6 (lo.GL K)
 have hml:ms.length≤(s.GL K).objs.length:=by rw[hms];exact Tg
 have hsl:(s.GL K).objs.length≤s.objs.length:=by
  unfold Hp.GL
  rw[QY]
  exact List.length_filter_le _ _
 obtain⟨vm,rm,t9,ql9,mt9⟩:=m9'
 have gl9:=g9.len
 have Goy:∀c,c<H.length→c∉L.all hb→X9[c]?=H[c]?:=fun c hc hn=>by
  rw[g9.keep c oM (by rintro (h|h|h);exact hn h;omega;omega),g8.keep c oM fun h=>h,g7.keep c oM fun h=>h,g6.keep c oM hn,g5.keep c oM fun h=>h,g4.keep c oM hn,g03.keep c hc fun h=>h]
 have pr9:JL o X9 rb R v:=m.frame (fun c u h=>by have:=ltm c u h;omega) (fun _ _ h=>h) fun c u h=>Goy c (ltm c u h) fun hc=>by rw[hd c hc]at h;cases h
 have on:∀c,H.length≤c→o c=none:=fun c hc=>Je fun h=>by
  cases e:o c with
  |none=>exact h e
  |some u=>have:=ltm c u e;omega
 obtain⟨X10,d10,g10,p10,GnD⟩:=Gar p9' inv.ok pr9 kr ql9 od oM hto hd
 have k10:(t.mp (YE (JK ms))).Ok:=inv.ok.mp fun x _=>Wq _ x
 have hbl:(t.mp (YE (JK ms))).blk.length=s.blk.length:=inv.len.1
 obtain⟨X11,d11,g11,p11⟩:=Br p10 k10
 rw[hbl]at p11
 have k11:(Kg (t.mp (YE (JK ms))) s.blk.length).Ok:=k10.Kg _
 have GzW:=g10.len
 have G17:=g11.len
 have GcF:∀c,H.length≤c→c<X9.length→X11[c]?=X9[c]?:=fun c h1 h2=>by
  rw[g11.keep c oM (nL c h1),g10.keep c h2 (by rintro (h|h);exact nL c h1 (h▸(by simp[G5.all]));exact h (on c h1))]
 have GoX:∀c,H.length≤c→c<X9.length→X10[c]?=X9[c]?:=fun c h1 h2=>by
  rw[g10.keep c h2 (by rintro (h|h);exact nL c h1 (h▸(by simp[G5.all]));exact h (on c h1))]
 have Guf:X11[X6.length+1]?=some ⟨[.ptr hb 0,.GJ X6.length,vm],.rw,0⟩:=(GcF _ oM (Gf t9)).trans t9
 have Gv0:QL X8.length X11 vm ms:=by
  rcases ql9 with h|⟨b,tl,e,h1,h2,h3⟩
  ·exact .inl h
  ·exact .inr ⟨b,tl,e,h1,by rw[GcF b (by have:=(Gl.1 h1).1;omega) (Gf h2)];exact h2,h3⟩
 have t9o:X9[X4.length]?=some ⟨rep 0 0 r2 r3 0 0 ks.length r7,.rw,0⟩:=by
  rw[g9.keep _ oM (by rintro (h|h|h);exact nL _ oM h;omega;omega),g8.keep _ oM fun h=>h,g7.keep _ oM fun h=>h,g6.keep _ oM (nL _ oM)]
  exact t5r
 have Gud:X11[X4.length]?=some ⟨rep 0 0 r2 r3 0 0 ks.length r7,.rw,0⟩:=(GcF _ oM (Gf t9o)).trans t9o
 obtain⟨X12,d12,g12,t12⟩:=Om p11 k11 Gv0 oM (fun x hx=>by have:=inv.ok.has_lt (hto x hx).2.2;omega) (nL _ oM) Gud
 rw[Y8]at t12
 have e1:(t.mp (YE (JK ms))).objs.length=t.objs.length:=by unfold Hp.mp;rw[QY]
 rw[e1]at t12
 have G1w:=g12.len
 have t9r:X9[H.length]?=some ⟨rep 0 0 0 0 0 0 0 0,.rw,0⟩:=by
  rw[g9.keep _ oM (by rintro (h|h|h);exact nL _ oM h;omega;omega),g8.keep _ oM fun h=>h,g7.keep _ oM fun h=>h,g6.keep _ oM (nL _ oM),g5.keep _ oM fun h=>h,g4.keep _ oM (nL _ oM),(g1.trans (g2.trans g3)).keep _ oM fun h=>h]
  exact t0r
 have Glu:X12[H.length]?=some ⟨rep 0 0 0 0 0 0 0 0,.rw,0⟩:=by
  rw[g12.keep _ oM oM,GcF _ (Nat.le_refl _) oM];exact t9r
 obtain⟨X13,GkB⟩:∃X:Gb,X=X12.set H.length ⟨rep t.objs.length (sizes (t.mp (YE (JK ms))).objs:Nat) r2 r3 ms.length (JR (Kg (t.mp (YE (JK ms))) s.blk.length) ms:Nat) ks.length r7,.rw,0⟩:=⟨_,rfl⟩
 have t13:X13[H.length]?=some ⟨rep t.objs.length (sizes (t.mp (YE (JK ms))).objs:Nat) r2 r3 ms.length (JR (Kg (t.mp (YE (JK ms))) s.blk.length) ms:Nat) ks.length r7,.rw,0⟩:=by rw[GkB,Va (Gf Glu)]
 have g13:Keeps X12 X13 (·=H.length):=by rw[GkB];exact Keeps.set (w:=fun c=>c=H.length) (Keeps.refl _ _) (.inl rfl) _
 have p13:PH X13 hb (Kg (t.mp (YE (JK ms))) s.blk.length) L:=p11.frame fun c hc=>by
  have:=lt c hc
  rw[g13.keep c oM oM,g12.keep c oM oM]
 have Guu:JL o X13 rb (R.ren (JK ms)) v:=GnD.frame (fun c u h=>by have:=GnD.dom c u h;have:=g13.len;omega) (fun _ _ h=>h) fun c u h=>by
  have h1:=ltm c u h
  rw[g13.keep c oM oM,g12.keep c oM oM,g11.keep c oM fun hc=>by rw[hd c hc]at h;cases h]
 refine⟨X13,ks,UJ,t,ms,hks,GgL.m.nodup,mf2,by rw[←hK,←hfx];exact etm.symm,?_,⟨by have:=g13.len;omega,fun c hc hn=>?_⟩,p13,Guu⟩
 ·rw[←hK,←hr2,←hr3,←hr7]
  unfold rep at t12 Glu GkB t13⊢
  have G2k:X10[X6.length+1]?=some ⟨[.ptr hb 0,.GJ X6.length,vm],.rw,0⟩:=(GoX _ oM (Gf t9)).trans t9
  simp(disch:=first|exact dz|fail) only[simprocAttr,Gs,↓reduceIte,Ub,b0,b1,b8,b12,b13,t9,d10,d11,Guf,d12,t12,Glu,GkB.symm,t13]
  try rfl
 ·rw[g13.keep c oM oM,g12.keep c oM oM,g11.keep c oM (fun h=>hn (.inl h)),g10.keep c oM (by rintro (h|h);exact hn (.inl (h▸(by simp[G5.all])));exact hn (.inr h)),Goy c hc fun h=>hn (.inl h)]
end
end Go.Cs.Tryz
namespace Go.Cs.Tryz
open Go Go.Cs A
def C22:Gj:=⟨8,0,T [nb 4 false] (Q [m 5 0,m 6 1,q2 7 93 5 6,m 4 7]),[r 4]⟩
theorem c22:P 22=some C22:=by kernel_rfl
abbrev Gdq:Gn:=S (T [m 10 6,m 11 0,z 12 11,f 13 1 12,l 14 1 13,le 15 14,b 16 .lss 10 15] (J 16 (X 0))) (S (B 1 (T [m 19 0,z 20 19,f 21 1 20,l 22 1 21,m 23 6,x 24 8 22 23,f 25 1 24,l 26 1 25,m 27 1,b 28 .eql 26 27] (I 28 (Q [m 29 0,z 30 29,f 31 1 30,l 32 1 31,m 33 6,x 34 8 32 33,f 35 0 34,l 36 1 35,m 4 36,n 5 0])))) (R [m 17 6,bk 18 .add 17 1,m 6 18]))
def C23:Gj:=⟨37,0,T [n 4 0,n 5 0] (S (T [m 7 0,q1 8 68 7,no 9 8] (I 9 (Q [n 4 0,n 5 5]))) (S (T [n 6 0] (B 0 (W Gdq))) (Q [n 4 0,n 5 4]))),[r 4,r 5]⟩
theorem c23:P 23=some C23:=by kernel_rfl
def C89:Gj:=⟨14,0,T [n 4 0] (T [m 8 0,m 9 1,q2 10 177 8 9,m 7 10,ex 11 7 0,ex 12 7 1,m 5 11,m 6 12] (Q [m 13 5,m 4 13])),[r 4]⟩
theorem c89:P 89=some C89:=by kernel_rfl
def C90:Gj:=⟨51,0,T [bo 8 2,bo 9 3,nb 12 false] (S (T [m 13 4,bk 14 .eql 13 0,m 15 14,gt 15 (f 16 2 8),gt 15 (f 17 2 16),gt 15 (l 18 1 17),gt 15 (bk 19 .eql 18 1),gt 15 (m 20 19),gf 20 (f 21 2 8),gf 20 (f 22 2 21),gf 20 (l 23 1 22),gf 20 (bk 24 .eql 23 2),gt 15 (or 25 20 24),an 26 15 25] (I 26 (Q [m 27 5,f 28 5 8,l 29 1 28,e 30 (.index 1 (t 29) (k 0)),l 31 1 30,q2 32 15 27 31,no 33 32,m 12 33]))) (Q [m 34 4,bk 35 .eql 34 1,m 36 35,gt 36 (f 37 2 8),gt 36 (f 38 2 37),gt 36 (l 39 1 38),gt 36 (bk 40 .eql 39 2),an 41 36 40,m 42 41,gt 42 (m 43 1),gt 42 (f 44 5 9),gt 42 (l 45 1 44),gt 42 (e 46 (.index 1 (t 45) (k 0))),gt 42 (l 47 1 46),gt 42 (q2 48 89 43 47),gt 42 (bk 49 .eql 48 0),an 50 42 49,m 12 50])),[r 12]⟩
theorem c90:P 90=some C90:=by kernel_rfl
def C92:Gj:=⟨16,0,T [bo 3 1,n 4 0,n 5 0] (S (T [m 6 0,q1 7 84 6,no 8 7] (I 8 (Q [n 4 0,n 5 5]))) (S (T [m 9 0,lg 10 3 3,q2 11 171 9 10,no 12 11] (I 12 (Q [n 4 0,n 5 1]))) (Q [m 13 0,lg 14 3 3,q2 15 175 13 14,m 4 15,n 5 0]))),[r 4,r 5]⟩
theorem c92:P 92=some C92:=by kernel_rfl
abbrev PN:Gn:=S (T [m 34 8,m 35 0,z 36 35,f 37 1 36,l 38 1 37,m 39 7,x 40 8 38 39,f 41 5 40,l 42 1 41,le 43 42,b 44 .lss 34 43] (J 44 (X 4))) (S (B 5 (T [m 47 0,z 48 47,f 49 1 48,l 50 1 49,m 51 7,x 52 8 50 51,f 53 5 52,l 54 1 53,m 55 8,x 56 1 54 55,l 57 1 56,m 9 57] (T [m 58 9,bk 59 .neq 58 0,m 60 59,gt 60 (m 61 0),gt 60 (m 62 9),gt 60 (q2 63 179 61 62),gt 60 (no 64 63),an 65 60 64] (I 65 (Q [nb 4 false]))))) (R [m 45 8,bk 46 .add 45 1,m 8 46]))
abbrev XQ:Gn:=S (T [m 25 7,m 26 0,z 27 26,f 28 1 27,l 29 1 28,le 30 29,b 31 .lss 25 30] (J 31 (X 2))) (S (B 3 (T [n 8 0] (B 4 (W PN)))) (R [m 32 7,bk 33 .add 32 1,m 7 33]))
abbrev GaD:Gn:=S (T [m 12 6,m 13 5,le 14 13,b 15 .lss 12 14] (J 15 (X 0))) (S (B 1 (T [m 18 0,m 19 5,m 20 6,x 21 1 19 20,l 22 1 21,q2 23 179 18 22,no 24 23] (I 24 (Q [nb 4 false])))) (R [m 16 6,bk 17 .add 16 1,m 6 17]))
def C93:Gj:=⟨66,0,T [nb 4 false] (T [m 10 1,q1 11 86 10,m 5 11] (S (T [n 6 0] (B 0 (W GaD))) (S (T [n 7 0] (B 2 (W XQ))) (Q [nb 4 true])))),[r 4]⟩
theorem c93:P 93=some C93:=by kernel_rfl
def GrD:Gj:=⟨23,0,T [n 4 0,n 5 0] (S (T [m 7 0,m 8 1,q2 9 122 7 8,m 6 9] (T [m 10 6,bk 11 .neq 10 0] (I 11 (Q [m 12 6,n 4 0,m 5 12])))) (S (D [⟨m 17 0,4,0,0⟩,⟨m 18 1,5,0,0⟩,⟨q2 19 87 17 18,6,3,0⟩,⟨m 13 0,0,0,0⟩,⟨z 14 13,1,0,0⟩,⟨f 15 1 14,2,0,0⟩,⟨l 16 1 15,3,1,0⟩,⟨x 20 8 16 19,7,0,1⟩,⟨f 21 1 20,8,0,1⟩,⟨l 22 1 21,9,1,1⟩,⟨m 4 22,10,0,1⟩,⟨n 5 0,11,0,1⟩]) .ret)),[r 4,r 5]⟩
theorem Gvi:P 177=some GrD:=by kernel_rfl
end Go.Cs.Tryz
namespace Go.Cs
open Go
def Hp.whr(s:Hp)(i:Int):Int×Int:=match s.objs.find? fun o=>(o.id:Int)==i with
 |some o=>(o.addr,0)
 |none=>(0,4)
theorem Hp.Ok.whr{s:Hp}(k:s.Ok){o:Ob}(ho:o∈s.objs):s.whr o.id=((o.addr:Int),(0:Int)):=by
 unfold Hp.whr
 rw[YI ho sM fun b hb e=>by
  rcases Ki k.ids hb ho with h|h|h
  ·exact h
  ·have:(b.id:Int)=o.id:=by simpa using e
   exact absurd oM h
  ·have:(b.id:Int)=o.id:=by simpa using e
   exact absurd oM h]
theorem Hp.Wt{s:Hp}{i:Int}(h:∀o∈s.objs,(o.id:Int)≠i):s.whr i=(0,4):=by
 unfold Hp.whr
 rw[List.find?_eq_none.2 fun o ho=>by simpa using h o ho]
end Go.Cs
namespace Go.Cs.Tryz
open Go Go.Cs
section
variable {H : Gb} {o : Tags} {rb : Nat} {s : Hp} {L : NG}
theorem GnW(m:J3 o H rb s L)(k:s.Ok){i:Int}{E0:Env}(h0:E0 0=.ptr rb 0)(h1:E0 1=.i i)(h6:E0 6=.i 0){r:Option (CX×Env×Gb)}(hr:den P (.loop Gdq) E0 H=r):
  ∃x E',r=some (x,E',H)∧((∃y∈s.objs,(y.id:Int)=i∧x=.ret∧E' 4=.i y.addr∧E' 5=.i 0)∨(x=.exit 0∧∀y∈s.objs,(y.id:Int)≠i)):=by
 have few:=k.few
 obtain⟨x',E',H',e,-,⟨rfl,hf⟩,fr⟩:=Gq (p:=P) (c:=Gdq) (E0:=E0) (H0:=H)
  (fun q E H'=>H'=H∧∃j:Nat,E 6=.i j∧j≤s.objs.length∧q=s.objs.length-j∧∀y∈s.objs.take j,(y.id:Int)≠i)
  (fun x E' H'=>H'=H∧((∃y∈s.objs,(y.id:Int)=i∧x=.ret∧E' 4=.i y.addr∧E' 5=.i 0)∨(x=.exit 0∧∀y∈s.objs,(y.id:Int)≠i))) (by
   rintro q E H' hE ⟨rfl,j,e6,hj,rfl,hd⟩
   have e0:=(hE 0 dK).trans h0
   have e1:=(hE 1 dK).trans h1
   have hc:=m.cells
   have hvl:=m.objs.len H'
   by_cases c:j<s.objs.length
   ·have c':decide ((j:Int)<(s.objs.length:Int))=true:=Gz oM
    have w1:IntKind.i64.wrap ((j:Int)+1)=((j+1:Nat):Int):=Gg oM
    obtain⟨y,hy⟩:∃y,s.objs[j]?=some y:=⟨_,Jr c⟩
    have ym:=JV hy
    obtain⟨b,n,tl,q1,q2,q3,q4,q5,q6⟩:=J3.row m hy
    have i1:(Gu L.hv s.objs)[j*8+1]?=some (.i y.id):=JU hy rfl
    have i0:(Gu L.hv s.objs)[j*8]?=some (.i y.addr):=JU (i:=0) hy rfl
    rw[q1]at hc hvl
    by_cases ce:(y.id:Int)=i
    ·have ce':((y.id:Int)==i)=true:=by simpa using ce
     apply Gi (x:=.ret)
     ·simp(disch:=first|exact dz|fail) only[simprocAttr,Gs,↓reduceIte,e0,e1,e6,hc,hvl,c',q3,q5,i1,i0,ce']
      rfl
     ·simp
     ·exact⟨rfl,.inl ⟨y,ym,ce,rfl,uA,uA⟩⟩
    ·have ce':((y.id:Int)==i)=false:=by simpa using ce
     apply Gm (k':=s.objs.length-(j+1))
     ·simp(disch:=first|exact dz|fail) only[simprocAttr,Gs,↓reduceIte,e0,e1,e6,hc,hvl,c',q3,q5,i1,ce',w1]
      rfl
     ·omega
     ·refine⟨rfl,j+1,uA,oM,rfl,fun z hz=>?_⟩
      rw[Nl,hy]at hz
      rcases K_.1 hz with h|h
      ·exact hd z h
      ·simp only[Z4,Ad]at h
       rw[h];exact ce
   ·have c':decide ((j:Int)<(s.objs.length:Int))=false:=Gw oM
    rw[Qe oM]at hd
    apply Gi (x:=.exit 0)
    ·simp(disch:=first|exact dz|fail) only[simprocAttr,Gs,↓reduceIte,e0,e6,hc,hvl,c']
     rfl
    ·simp
    ·exact⟨rfl,.inr ⟨rfl,hd⟩⟩) _ ⟨rfl,0,h6,oM,rfl,fun y hy=>by cases hy⟩
 exact⟨x',E',hr.symm.trans e,hf⟩
theorem Ggq(m:J3 o H rb s L)(k:s.Ok)(i:Int):run P 23 [.ptr rb 0,.i i] H=some (UF (s.whr i),H):=by
 have h1:=Nt m k
 rw[Gh c23 _ _ sM]
 refine W1 h1 ?_
 generalize hr:den P (.loop Gdq) _ _=r
 obtain⟨x,E',rfl,hf⟩:=GnW m k (i:=i) uA uA uA hr
 rcases hf with⟨y,ym,rfl,rfl,a4,a5⟩|⟨rfl,hn⟩
 ·rw[k.whr ym]
  unfold UF
  exact V2 a4 a5
 ·rw[Hp.Wt hn]
  unfold UF
  exact W0
theorem GdQ(m:J3 o H rb s L)(k:s.Ok)(a:Int):run P 177 [.ptr rb 0,.i a] H=some (UF (s.GZ a),H):=by
 have h0:=Yw m k a
 have h1:=KR m k a
 have hc:=m.cells
 unfold Hp.KC at h1
 unfold Hp.GZ UF
 rw[Gh Gvi _ _ sM]
 cases e:s.obj a with
 |none=>
  have h:=Hp.J_.2 e
  rw[h]at h0
  exact W0
 |some x=>
  have h:=Hp.J4.2 ⟨x,e⟩
  rw[h]at h0 h1
  rw[if_pos rfl]at h1
  have hx:=Hp.Q_ e
  obtain⟨b,n,tl,q1,q2,q3,q4,q5,q6⟩:=J3.row m hx
  have i1:(Gu L.hv s.objs)[s.idx a*8+1]?=some (.i x.id):=JU hx rfl
  rw[q1]at hc
  simp(disch:=first|exact dz|fail) only[simprocAttr,Gs,↓reduceIte,Ub,h0,h1,hc,q3,q5,i1]
  try rfl
theorem Yx(m:J3 o H rb s L)(k:s.Ok)(a:Int):run P 89 [.ptr rb 0,.i a] H=some (.i (s.GZ a).1,H):=by
 have h1:=GdQ m k a
 unfold UF at h1
 rw[Gh c89 _ _ sM]
 exact V1 h1
theorem WH{o3:Tags}{R:Rt}{L3:Vz}{qb:Nat}(m:JJ o3 H qb R L3)(k:R.Ok){x:Nat×Nat×Int}(hx:x.1≤2){y:Int}(hy:(R.li x.1)[x.2.1]?=some y):
  ∃H',run P 92 [.ptr qb 0,.agg [.i (K9 x).1,.i (K9 x).2.1,.i (K9 x).2.2]] H=some (.Jj [.i y,.i 0],H')∧Gr H H':=by
 have hloc:=k.DL (x:=x) hx (Gf hy)
 generalize (K9 x).1=a at*
 generalize (K9 x).2.1=b at*
 generalize (K9 x).2.2=c at*
 obtain⟨X,hX⟩:∃X:Gb,X=H++[⟨[.i a,.i b,.i c],.rw,0⟩]:=⟨_,rfl⟩
 have gX:Gr H X:=by rw[hX];exact Gr.app _ _
 have tX:X[H.length]?=some ⟨[.i a,.i b,.i c],.rw,0⟩:=by rw[hX];simp
 have h1:=U9 (m.gr gX) k
 have h2:=Gdc (m.gr gX) k a b c
 rw[hloc]at h2
 obtain⟨X2,hX2⟩:∃Y:Gb,Y=X++[⟨[.i a,.i b,.i c],.rw,0⟩]:=⟨_,rfl⟩
 have g2:Gr X X2:=by rw[hX2];exact Gr.app _ _
 have t2:=Gr.get g2 tX
 rw[←hX2]at h2
 have h3:=T_ (m.gr (gX.trans g2)) k hloc
 have e:(R.li x.1).getD x.2.1 0=y:=by rw[Bo,hy];rfl
 rw[e]at h3
 refine⟨_,?_,(gX.trans g2).trans (Gr.app X2 [⟨[.i a,.i b,.i c],.rw,0⟩])⟩
 rw[Gh c92 _ _ sM]
 simp(disch:=first|exact dz|fail) only[simprocAttr,Gs,↓reduceIte,Ub,←hX,h1,tX,h2,t2,h3]
 try rfl
theorem GoU(m:J3 o H rb s L)(k:s.Ok){w:CV}{l:List Int}(li:LI H w l)(hl:l.length≤100000)(hh:∀x∈l,s.has x=true){E0:Env}(h0:E0 0=.ptr rb 0)(h5:E0 5=w)(h6:E0 6=.i 0){r:Option (CX×Env×Gb)}(hr:den P (.loop GaD) E0 H=r):
  ∃E',r=some (.exit 0,E',H)∧∀t,t∉wr GaD→E' t=E0 t:=by
 obtain⟨x',E',H',e,-,⟨rfl,rfl⟩,fr⟩:=Gq (p:=P) (c:=GaD) (E0:=E0) (H0:=H)
  (fun q E H'=>H'=H∧∃j:Nat,E 6=.i j∧j≤l.length∧q=l.length-j) (fun x E' H'=>x=.exit 0∧H'=H) (by
   rintro q E H' hE ⟨rfl,j,e6,hj,rfl⟩
   have e0:=(hE 0 dK).trans h0
   have e5:=(hE 5 dK).trans h5
   have hvl:=li.len H'
   by_cases c:j<l.length
   ·have c':decide ((j:Int)<(l.length:Int))=true:=Gz oM
    have w1:IntKind.i64.wrap ((j:Int)+1)=((j+1:Nat):Int):=Gg oM
    obtain⟨x,hx⟩:∃x,l[j]?=some x:=⟨_,Jr c⟩
    obtain⟨b,w',i1,-,i3⟩:=li.at hx
    have Yg:=i3 H' (Keeps.refl _ _)
    have h1:=IB m k x
    rw[hh x (JV hx)]at h1
    apply Gm (k':=l.length-(j+1))
    ·refine W9 e0 e5 e6 hvl c' i1 Yg h1 w1 ?_
     rfl
    ·omega
    ·exact⟨rfl,j+1,uA,oM,rfl⟩
   ·have c':decide ((j:Int)<(l.length:Int))=false:=Gw oM
    apply Gi (x:=.exit 0)
    ·refine W4 e5 e6 hvl c' ?_
     rfl
    ·simp
    ·exact⟨rfl,rfl⟩) _ ⟨rfl,0,h6,oM,rfl⟩
 exact⟨E',hr.symm.trans e,fr⟩
theorem GoA(m:J3 o H rb s L)(k:s.Ok){jj:Nat}{x:Ob}(hx:s.objs[jj]?=some x) (hs:∀y∈x.refs,y=0∨s.has y=true) {E0:Env} (h0:E0 0=.ptr rb 0) (h7:E0 7=.i jj) (h8:E0 8=.i 0) {r:Option (CX×Env×Gb)} (hr:den P (.loop PN) E0 H=r):
  ∃E',r=some (.exit 4,E',H)∧∀t,t∉wr PN→E' t=E0 t:=by
 have xm:=JV hx
 have hnr:=(k.ob x xm).nr
 obtain⟨b,n,tl,q1,q2,q3,q4,q5,q6⟩:=J3.row m hx
 have i5:(Gu L.hv s.objs)[jj*8+5]?=some (L.hv x.id).1:=JU hx rfl
 have li:LI H (L.hv x.id).1 x.refs:=At.il (m.refs x xm).1
 obtain⟨x',E',H',e,-,⟨rfl,rfl⟩,fr⟩:=Gq (p:=P) (c:=PN) (E0:=E0) (H0:=H)
  (fun q E H'=>H'=H∧∃j:Nat,E 8=.i j∧j≤x.refs.length∧q=x.refs.length-j) (fun x E' H'=>x=.exit 4∧H'=H) (by
   rintro q E H' hE ⟨rfl,j,e8,hj,rfl⟩
   have e0:=(hE 0 dK).trans h0
   have e7:=(hE 7 dK).trans h7
   have hc:=m.cells
   rw[q1]at hc
   have hvl:=li.len H'
   by_cases c:j<x.refs.length
   ·have c':decide ((j:Int)<(x.refs.length:Int))=true:=Gz oM
    have w1:IntKind.i64.wrap ((j:Int)+1)=((j+1:Nat):Int):=Gg oM
    obtain⟨y,hy⟩:∃y,x.refs[j]?=some y:=⟨_,Jr c⟩
    obtain⟨b',w',i1,-,i3⟩:=li.at hy
    have Yg:=i3 H' (Keeps.refl _ _)
    suffices fin:∃E',den P PN E H'=some (.normal,E',H')∧E' 8=.i ((j+1:Nat):Int)by
     obtain⟨E',f1,f2⟩:=fin
     exact Gm f1 (k':=x.refs.length-(j+1)) oM ⟨rfl,j+1,f2,oM,rfl⟩
    by_cases cy:y=0
    ·have cy':(y != 0)=false:=by rw[cy];rfl
     simp(disch:=first|exact dz|fail) only[simprocAttr,Gs,↓reduceIte,e0,e7,e8,hc,q3,q5,i5,hvl,c',i1,Yg,cy',w1]
     exact⟨_,rfl,uA⟩
    ·have cy':(y != 0)=true:=by simpa using cy
     have h1:=IB m k y
     rw[(hs y (JV hy)).resolve_left cy]at h1
     simp(disch:=first|exact dz|fail) only[simprocAttr,Gs,↓reduceIte,e0,e7,e8,hc,q3,q5,i5,hvl,c',i1,Yg,cy',h1,w1]
     exact⟨_,rfl,uA⟩
   ·have c':decide ((j:Int)<(x.refs.length:Int))=false:=Gw oM
    apply Gi (x:=.exit 4)
    ·simp(disch:=first|exact dz|fail) only[simprocAttr,Gs,↓reduceIte,e0,e7,e8,hc,q3,q5,i5,hvl,c']
     rfl
    ·simp
    ·exact⟨rfl,rfl⟩) _ ⟨rfl,0,h8,oM,rfl⟩
 exact⟨E',hr.symm.trans e,fr⟩
theorem Gpa(m:J3 o H rb s L)(k:s.Ok)(hs:∀x∈s.objs,∀y∈x.refs,y=0∨s.has y=true){E0:Env}(h0:E0 0=.ptr rb 0)(h7:E0 7=.i 0){r:Option (CX×Env×Gb)}(hr:den P (.loop XQ) E0 H=r):
  ∃E',r=some (.exit 2,E',H):=by
 have few:=k.few
 obtain⟨x',E',H',e,-,⟨rfl,rfl⟩,fr⟩:=Gq (p:=P) (c:=XQ) (E0:=E0) (H0:=H)
  (fun q E H'=>H'=H∧∃j:Nat,E 7=.i j∧j≤s.objs.length∧q=s.objs.length-j) (fun x E' H'=>x=.exit 2∧H'=H) (by
   rintro q E H' hE ⟨rfl,j,e7,hj,rfl⟩
   have e0:=(hE 0 dK).trans h0
   have hc:=m.cells
   have hvl:=m.objs.len H'
   by_cases c:j<s.objs.length
   ·have c':decide ((j:Int)<(s.objs.length:Int))=true:=Gz oM
    have w1:IntKind.i64.wrap ((j:Int)+1)=((j+1:Nat):Int):=Gg oM
    obtain⟨x,hx⟩:∃x,s.objs[j]?=some x:=⟨_,Jr c⟩
    suffices fin:∃E',den P XQ E H'=some (.normal,E',H')∧E' 7=.i ((j+1:Nat):Int)by
     obtain⟨E',f1,f2⟩:=fin
     exact Gm f1 (k':=s.objs.length-(j+1)) oM ⟨rfl,j+1,f2,oM,rfl⟩
    refine W5 e0 e7 hc hvl c' ?_
    generalize hr:den P (.loop PN) _ _=r
    obtain⟨E2,rfl,f2⟩:=GoA m k hx (hs x (JV hx)) (by simp[Gc,e0]) (by simp[Gc,e7]) uA hr
    have b7:=f2 7 dK
    simp only[Gc,Nat.reduceEqDiff,↓reduceIte,e7]at b7
    refine W2 b7 w1 ?_
    exact⟨_,rfl,uA⟩
   ·have c':decide ((j:Int)<(s.objs.length:Int))=false:=Gw oM
    apply Gi (x:=.exit 2)
    ·simp(disch:=first|exact dz|fail) only[simprocAttr,Gs,↓reduceIte,e0,e7,hc,hvl,c']
     rfl
    ·simp
    ·exact⟨rfl,rfl⟩) _ ⟨rfl,0,h7,oM,rfl⟩
 exact⟨E',hr.symm.trans e⟩
theorem GdB{o3:Tags}{R:Rt}{L3:Vz}{qb:Nat}(m:J3 o H rb s L)(k:s.Ok)(m3:JJ o3 H qb R L3)(kr:R.Ok)(hs:Iz s R):∃H',run P 22 [.ptr rb 0,.ptr qb 0] H=some (.bool true,H')∧Gr H H':=by
 obtain⟨w,X,d1,g1,li⟩:=PD m3 kr
 have hll:=QB R.vis
 have hvl:=kr.Uw
 have hmem:∀a,a∈G_ R.vis↔a∈R.vals∧a≠0:=fun a=>by rw[VR,Rt.Dl]
 refine⟨X,?_,g1⟩
 have key:run P 93 [.ptr rb 0,.ptr qb 0] H=some (.bool true,X):=by
  rw[Gh c93 _ _ sM]
  refine W1 d1 ?_
  generalize hr:den P (.loop GaD) _ _=r
  obtain⟨E2,rfl,f2⟩:=GoU (m.gr g1) k li.li oM (fun x hx=>(hs.2.1 x ((hmem x).1 hx).1).resolve_left ((hmem x).1 hx).2) uA uA uA hr
  have b0:=f2 0 dK
  simp only[Gc,Nat.reduceEqDiff,↓reduceIte,QG]at b0
  refine W1 b0 ?_
  generalize hr:den P (.loop XQ) _ _=r
  obtain⟨E3,rfl⟩:=Gpa (m.gr g1) k hs.1 (by simp[Gc,b0]) uA hr
  exact W0
 rw[Gh c22 _ _ sM]
 exact V1 key
theorem Gjg{o':Tags}{rb':Nat}{t:Hp}{L':NG}(m':J3 o' H rb' t L')(kt:t.Ok){x n:Ob}{hv hv':Nat→CV×CV}(l1:LI H (hv x.id).1 x.refs)(l2:LI H (hv' n.id).1 n.refs)(lf:leaf (hv x.id).2=true∧leaf (hv' n.id).2=true){w:CV}{l:List Int}(li:LI H w l)(hl:l.length≤100000){i:Nat}
  (h:(i=0∧(x.kd=1∨x.kd=2)∧∃r,x.refs[0]?=some r∧r∉l)∨(i=1∧x.kd=2∧∃r,n.refs[0]?=some r∧(t.GZ r).1=0)):
  ∃H',run P 90 [.ptr rb 0,.ptr rb' 0,.agg (Gt hv x),.agg (Gt hv' n),.i i,w] H=some (.bool true,H')∧Gr H H':=by
 obtain⟨X,hX⟩:∃X:Gb,X=H++[⟨Gt hv x,.rw,0⟩]++[⟨Gt hv' n,.rw,0⟩]:=⟨_,rfl⟩
 have gX:Gr H X:=by rw[hX];exact(Gr.app _ _).app' _
 have t1:X[H.length]?=some ⟨Gt hv x,.rw,0⟩:=by rw[hX];simp
 have t2:X[H.length+1]?=some ⟨Gt hv' n,.rw,0⟩:=by rw[hX];simp
 have lf1:=l1.leaf
 have lf2:=l2.leaf
 refine⟨X,?_,gX⟩
 rw[Gh c90 _ _ sM]
 unfold Gt at hX t1 t2⊢
 rcases h with⟨rfl,hk,r,hr,hn⟩|⟨rfl,hk,r,hr,hz⟩
 ·obtain⟨b,f,i1,-,i3⟩:=(l1.gr gX).at hr
  have OI:∀Y,JM 1 (hv x.id).1 (.i 0) Y=some (.ptr b f,Y):=i1
  have Yg:=i3 X (Keeps.refl _ _)
  have hh:=SI (li.gr gX) hl r
  rw[Gw hn]at hh
  have c0:(((0:Nat):Int)==0)=true:=rfl
  rcases hk with hk|hk
  ·have k1:((x.kd:Int)==1)=true:=by rw[hk];rfl
   simp(disch:=first|exact dz|fail) only[simprocAttr,Gs,↓reduceIte,Ub,@IG,←hX,c0,t1,k1,OI,Yg,hh]
   try rfl
  ·have k1:((x.kd:Int)==1)=false:=by rw[hk];rfl
   have k2:((x.kd:Int)==2)=true:=by rw[hk];rfl
   simp(disch:=first|exact dz|fail) only[simprocAttr,Gs,↓reduceIte,Ub,@IG,←hX,c0,t1,k1,k2,OI,Yg,hh]
   try rfl
 ·obtain⟨b,f,i1,-,i3⟩:=(l2.gr gX).at hr
  have OI:∀Y,JM 1 (hv' n.id).1 (.i 0) Y=some (.ptr b f,Y):=i1
  have Yg:=i3 X (Keeps.refl _ _)
  have hi:=Yx (m'.gr gX) kt r
  rw[hz]at hi
  have c0:(((1:Nat):Int)==0)=false:=rfl
  have c1:(((1:Nat):Int)==1)=true:=rfl
  have k2:((x.kd:Int)==2)=true:=by rw[hk];rfl
  simp(disch:=first|exact dz|fail) only[simprocAttr,Gs,↓reduceIte,Ub,@IG,←hX,c0,c1,t1,t2,k2,OI,Yg,hi]
  try rfl
end
end Go.Cs.Tryz
namespace Go.Cs.Tryz
open Go Go.Cs A
abbrev Ga1:Gn:=S (T [m 177 22,m 178 21,le 179 178,b 180 .lss 177 179] (J 180 (X 6))) (S (B 7 (T [m 184 1,m 185 21,m 186 22,x 187 3 185 186,lg 188 3 187,q2 189 92 184 188,m 183 189,ex 190 183 0,ex 191 183 1,m 23 190,m 24 191] (T [m 192 0,m 193 23,q2 194 89 192 193,m 25 194] (S (T [m 195 25,bk 196 .eql 195 0] (I 196 (X 7))) (T [m 198 3,m 199 21,m 200 22,x 201 3 199 200,lg 202 3 201,q2 203 92 198 202,m 197 203,ex 204 197 0,ex 205 197 1,m 26 204,m 27 205] (T [m 206 27,bk 207 .neq 206 0,m 208 207,gf 208 (m 209 2),gf 208 (m 210 26),gf 208 (q2 211 89 209 210),gf 208 (m 212 25),gf 208 (b 213 .neq 211 212),or 214 208 213] (I 214 (R [m 215 10,m 216 25,m 217 22,e 218 (.build [i 0,i 0,i 0] [(0,1,k 3),(1,1,t 216),(2,1,t 217)]),q2 219 88 215 218,m 10 219])))))))) (R [m 181 22,bk 182 .add 181 1,m 22 182]))
abbrev XU:Gn:=S (T [m 146 20,f 147 6 13,l 148 1 147,le 149 148,b 150 .lss 146 149] (J 150 (X 4))) (S (B 5 (S (D [⟨f 153 6 13,0,0,0⟩,⟨l 154 1 153,1,1,0⟩,⟨m 155 20,2,0,0⟩,⟨x 156 1 154 155,3,0,0⟩,⟨l 157 1 156,4,1,0⟩,⟨f 158 6 16,5,0,0⟩,⟨l 159 1 158,6,1,0⟩,⟨m 160 20,7,0,0⟩,⟨x 161 1 159 160,8,0,0⟩,⟨l 162 1 161,9,1,0⟩,⟨b 163 .neq 157 162,10,0,0⟩]) (I 163 (R [m 164 10,f 165 1 13,l 166 1 165,f 167 5 13,l 168 1 167,le 169 168,e 170 (.bin .add (k 1) (t 169)),m 171 20,b 172 .add 170 171,e 173 (.build [i 0,i 0,i 0] [(0,1,k 11),(1,1,t 166),(2,1,t 172)]),q2 174 88 164 173,m 10 174])))) (R [m 151 20,bk 152 .add 151 1,m 20 152]))
abbrev Rc:Gn:=S (T [m 102 17,f 103 5 13,l 104 1 103,le 105 104,b 106 .lss 102 105] (J 106 (X 2))) (S (B 3 (S (D [⟨m 109 0,0,0,0⟩,⟨f 110 5 13,1,0,0⟩,⟨l 111 1 110,2,1,0⟩,⟨m 112 17,3,0,0⟩,⟨x 113 1 111 112,4,0,0⟩,⟨l 114 1 113,5,1,0⟩,⟨q2 115 89 109 114,6,3,0⟩,⟨m 116 2,7,0,0⟩,⟨f 117 5 16,8,0,0⟩,⟨l 118 1 117,9,1,0⟩,⟨m 119 17,10,0,0⟩,⟨x 120 1 118 119,11,0,0⟩,⟨l 121 1 120,12,1,0⟩,⟨q2 122 89 116 121,13,3,1⟩,⟨m 18 115,14,0,2⟩,⟨m 19 122,15,0,2⟩]) (S (T [m 123 18,m 124 19,b 125 .eql 123 124,m 126 125,gf 126 (m 127 19),gf 126 (bk 128 .eql 127 0),gf 126 (m 129 128),gt 129 (m 130 0),gt 129 (m 131 2),gt 129 (lg 132 8 13),gt 129 (lg 133 8 16),gt 129 (m 134 17),gt 129 (m 135 11),gt 129 (ca 136 90 [t 130,t 131,t 132,t 133,t 134,t 135]),gf 126 (an 137 129 136),or 138 126 137] (I 138 (X 3))) (R [m 139 10,f 140 1 13,l 141 1 140,m 142 17,e 143 (.bin .add (k 1) (t 142)),e 144 (.build [i 0,i 0,i 0] [(0,1,k 11),(1,1,t 141),(2,1,t 143)]),q2 145 88 139 144,m 10 145])))) (R [m 107 17,bk 108 .add 107 1,m 17 108]))
abbrev RD:Gn:=S (T [m 51 12,m 52 11,le 53 52,b 54 .lss 51 53] (J 54 (X 0))) (S (B 1 (S (D [⟨m 61 0,4,0,0⟩,⟨m 62 11,5,0,0⟩,⟨m 63 12,6,0,0⟩,⟨x 64 1 62 63,7,0,0⟩,⟨l 65 1 64,8,1,0⟩,⟨q2 66 87 61 65,9,3,0⟩,⟨m 57 0,0,0,0⟩,⟨z 58 57,1,0,0⟩,⟨f 59 1 58,2,0,0⟩,⟨l 60 1 59,3,1,0⟩,⟨x 67 8 60 66,10,0,1⟩,⟨lg 68 8 67,11,1,1⟩,⟨e 13 (.new [i 0,i 0,i 0,i 0,i 0,.Gd,.Gd,.bool false]),12,0,0⟩,⟨st 8 13 68,13,3,1⟩]) (T [m 70 2,f 71 1 13,l 72 1 71,q2 73 23 70 72,m 69 73,ex 74 69 0,ex 75 69 1,m 14 74,m 15 75] (S (T [m 76 15,bk 77 .neq 76 0] (I 77 (T [m 78 10,f 79 1 13,l 80 1 79,e 81 (.build [i 0,i 0,i 0] [(0,1,k 10),(1,1,t 80)]),q2 82 88 78 81,m 10 82] (X 1)))) (S (D [⟨m 87 2,4,0,0⟩,⟨m 88 14,5,0,0⟩,⟨q2 89 87 87 88,6,3,0⟩,⟨m 83 2,0,0,0⟩,⟨z 84 83,1,0,0⟩,⟨f 85 1 84,2,0,0⟩,⟨l 86 1 85,3,1,0⟩,⟨x 90 8 86 89,7,0,1⟩,⟨lg 91 8 90,8,1,1⟩,⟨e 16 (.new [i 0,i 0,i 0,i 0,i 0,.Gd,.Gd,.bool false]),9,0,0⟩,⟨st 8 16 91,10,3,1⟩]) (S (T [f 92 2 16,lg 93 3 92,f 94 2 13,lg 95 3 94,e 96 (.eqs true 3 (t 93) (t 95))] (I 96 (T [m 97 10,f 98 1 13,l 99 1 98,e 100 (.build [i 0,i 0,i 0] [(0,1,k 11),(1,1,t 99)]),q2 101 88 97 100,m 10 101] (X 1)))) (S (T [n 17 0] (B 2 (W Rc))) (T [n 20 0] (B 4 (W XU)))))))))) (R [m 55 12,bk 56 .add 55 1,m 12 56]))
def C21:Gj:=⟨221,0,T [e 8 (.Km (c .Gd)),n 9 0] (S (T [m 28 0,q1 29 68 28,no 30 29,m 31 30,gf 31 (m 32 1),gf 31 (q1 33 84 32),gf 31 (no 34 33),or 35 31 34,m 36 35,gf 36 (m 37 2),gf 36 (q1 38 68 37),gf 36 (no 39 38),or 40 36 39,m 41 40,gf 41 (m 42 3),gf 41 (q1 43 84 42),gf 41 (no 44 43),or 45 41 44] (I 45 (Q [e 8 (.Km (c .Gd)),n 9 1]))) (T [e 46 (.buildSlice 3 [] 0 []),m 10 46] (T [m 47 0,m 48 1,q1 49 86 48,ca 50 85 [t 47,t 49,c (.bool true)],m 11 50] (S (T [n 12 0] (B 0 (W RD))) (T [m 175 1,q1 176 91 175,m 21 176] (S (T [n 22 0] (B 6 (W Ga1))) (Q [m 220 10,m 8 220,n 9 0]))))))),[r 8,r 9]⟩
theorem c21:P 21=some C21:=by kernel_rfl
end Go.Cs.Tryz
namespace Go.Cs
open Go
def GnF(s t:Hp)(l:List Int)(x n:Ob)(i:Nat):Prop:=
 ∀a b:Int,x.refs[i]?=some a→n.refs[i]?=some b→(s.GZ a).1=(t.GZ b).1∨((t.GZ b).1=0∧
  ((i=0∧(x.kd=1∨x.kd=2)∧a∉l)∨(i=1∧x.kd=2∧∃r,n.refs[0]?=some r∧(t.GZ r).1=0)))
structure Bec(s t:Hp)(l:List Int)(x n:Ob):Prop where
 mem:n∈t.objs
 id:n.id=x.id
 nr:n.refs.length=x.refs.length
 data:n.data=x.data
 kd:n.kd=x.kd
 refs:∀i,GnF s t l x n i
structure TW(s t:Hp)(l:List Int):Prop where
 obs:∀a∈l,∀x,s.obj a=some x→∃n,Bec s t l x n
def GcM(s t:Hp)(R T:Rt):Prop:=∀x∈R.vis,(s.GZ x.2.2).1=0∨∃y,(T.li x.1)[x.2.1]?=some y∧(t.GZ y).1=(s.GZ x.2.2).1
end Go.Cs
namespace Go.Cs.Tryz
open Go Go.Cs
section
variable {H : Gb} {o o' : Tags} {rb rb' : Nat} {s t : Hp} {L L' : NG}
theorem GkI(m:J3 o H rb s L)(k:s.Ok)(m':J3 o' H rb' t L')(kt:t.Ok){l:List Int}{w:CV}(li:LI H w l)(hl:l.length≤100000){x n:Ob}(hx:x∈s.objs)(bc:Bec s t l x n){b13 b16:Nat}(t13:H[b13]?=some ⟨Gt L.hv x,.rw,0⟩) (t16:H[b16]?=some ⟨Gt L'.hv n,.rw,0⟩)
  {E0:Env} (h0:E0 0=.ptr rb 0) (h2:E0 2=.ptr rb' 0) (h11:E0 11=w) (WA:E0 13=.ptr b13 0) (h16:E0 16=.ptr b16 0) (h17:E0 17=.i 0) {r:Option (CX×Env×Gb)} (hr:den P (.loop Rc) E0 H=r):
  ∃E' H',r=some (.exit 2,E',H')∧Gr H H'∧E' 10=E0 10∧∀t,t∉wr Rc→E' t=E0 t:=by
 have hnr:=(k.ob x hx).nr
 have r1:LI H (L.hv x.id).1 x.refs:=At.il (m.refs x hx).1
 have r2:LI H (L'.hv n.id).1 n.refs:=At.il (m'.refs n bc.mem).1
 have lf1:=(m.refs x hx).2.leaf
 have lf2:=(m'.refs n bc.mem).2.leaf
 obtain⟨x',E',H',e,-,⟨rfl,g,h10⟩,fr⟩:=Gq (p:=P) (c:=Rc) (E0:=E0) (H0:=H)
  (fun q E H'=>Gr H H'∧E 10=E0 10∧∃j:Nat,E 17=.i j∧j≤x.refs.length∧q=x.refs.length-j) (fun x E' H'=>x=.exit 2∧Gr H H'∧E' 10=E0 10) (by
   rintro q E H' hE ⟨g,e10,j,e17,hj,rfl⟩
   have e0:=(hE 0 dK).trans h0
   have e2:=(hE 2 dK).trans h2
   have e11:=(hE 11 dK).trans h11
   have e13:=(hE 13 dK).trans WA
   have e16:=(hE 16 dK).trans h16
   have hvl:=r1.len H'
   have Gev:=g.get t13
   have Gi6:=g.get t16
   have G13:=Gev
   have GyX:=Gi6
   unfold Gt at Gev Gi6
   by_cases c:j<x.refs.length
   ·have c':decide ((j:Int)<(x.refs.length:Int))=true:=Gz oM
    have w1:IntKind.i64.wrap ((j:Int)+1)=((j+1:Nat):Int):=Gg oM
    obtain⟨a,ha⟩:∃a,x.refs[j]?=some a:=⟨_,Jr c⟩
    obtain⟨b,hb⟩:∃b,n.refs[j]?=some b:=⟨_,Jr (by rw[bc.nr];exact c)⟩
    obtain⟨c1,f1,i1,i2,i3⟩:=r1.at ha
    obtain⟨c2,f2,j1,j2,j3⟩:=r2.at hb
    have Yg:=i3 H' g
    have j3':=j3 H' g
    have d1:=Yx (m.gr g) k a
    have d2:=Yx (m'.gr g) kt b
    suffices fin:∃E' Y,den P Rc E H'=some (.normal,E',Y)∧Gr H' Y∧E' 10=E0 10∧E' 17=.i ((j+1:Nat):Int)by
     obtain⟨E',Y,f1,f2,f3,f4⟩:=fin
     exact Gm f1 (k':=x.refs.length-(j+1)) oM ⟨g.trans f2,f3,j+1,f4,oM,rfl⟩
    rcases bc.refs j a b ha hb with h|⟨h1,h2⟩
    ·have ce:((s.GZ a).1==(t.GZ b).1)=true:=by rw[h];simp
     simp(disch:=first|exact dz|fail) only[simprocAttr,Gs,↓reduceIte,Ub,e0,e2,e11,e13,e16,e17,Gev,Gi6,hvl,c',i1,i2,Yg,d1,j1,j2,j3',d2,ce,w1]
     exact⟨_,_,rfl,Keeps.refl _ _,by simp[Gc,e10],uA⟩
    ·by_cases ce0:(s.GZ a).1=(t.GZ b).1
     ·have ce:((s.GZ a).1==(t.GZ b).1)=true:=by rw[ce0];simp
      simp(disch:=first|exact dz|fail) only[simprocAttr,Gs,↓reduceIte,Ub,e0,e2,e11,e13,e16,e17,Gev,Gi6,hvl,c',i1,i2,Yg,d1,j1,j2,j3',d2,ce,w1]
      exact⟨_,_,rfl,Keeps.refl _ _,by simp[Gc,e10],uA⟩
     ·have ce:((s.GZ a).1==(t.GZ b).1)=false:=by simpa using ce0
      have cz:((t.GZ b).1==0)=true:=by rw[h1];rfl
      obtain⟨Y,d3,g3⟩:=Gjg (rb:=rb) (m'.gr g) kt (x:=x) (n:=n) (hv:=L.hv) (hv':=L'.hv) (r1.gr g) (r2.gr g) ⟨lf1,lf2⟩ (li.gr g) hl (i:=j) (by
       rcases h2 with⟨a1,a2,a3⟩|⟨a1,a2,a3⟩
       ·exact .inl ⟨a1,a2,a,by rw[←a1];exact ha,a3⟩
       ·exact .inr ⟨a1,a2,a3⟩)
      have l8:Ba (some ⟨Gt L.hv x,.rw,0⟩) 0 8=some (Gt L.hv x):=rfl
      have l8':Ba (some ⟨Gt L'.hv n,.rw,0⟩) 0 8=some (Gt L'.hv n):=rfl
      unfold Gt at d3
      simp(disch:=first|exact dz|fail) only[simprocAttr,Gs,↓reduceIte,Ub,e0,e2,e11,e13,e16,e17,Gev,Gi6,hvl,c',i1,i2,Yg,d1,j1,j2,j3',d2,ce,cz,d3,w1]
      exact⟨_,_,rfl,g3,by simp[Gc,e10],uA⟩
   ·have c':decide ((j:Int)<(x.refs.length:Int))=false:=Gw oM
    apply Gi (x:=.exit 2)
    ·simp(disch:=first|exact dz|fail) only[simprocAttr,Gs,↓reduceIte,Ub,e13,e17,Gev,hvl,c']
     rfl
    ·simp
    ·exact⟨rfl,g,by simp[Gc,e10]⟩) _ ⟨Keeps.refl _ _,rfl,0,h17,oM,rfl⟩
 exact⟨E',H',hr.symm.trans e,g,h10,fr⟩
theorem GkJ(m:J3 o H rb s L)(k:s.Ok)(m':J3 o' H rb' t L'){l:List Int}{x n:Ob}(hx:x∈s.objs)(bc:Bec s t l x n){b13 b16:Nat}(t13:H[b13]?=some ⟨Gt L.hv x,.rw,0⟩) (t16:H[b16]?=some ⟨Gt L'.hv n,.rw,0⟩)
  {E0:Env} (WA:E0 13=.ptr b13 0) (h16:E0 16=.ptr b16 0) (h20:E0 20=.i 0) {r:Option (CX×Env×Gb)} (hr:den P (.loop XU) E0 H=r):
  ∃E',r=some (.exit 4,E',H)∧E' 10=E0 10∧∀t,t∉wr XU→E' t=E0 t:=by
 have hnd:=(k.ob x hx).nd
 have r1:LI H (L.hv x.id).2 x.data:=At.il (m.refs x hx).2
 have r2:LI H (L'.hv n.id).2 n.data:=At.il (m'.refs n bc.mem).2
 unfold Gt at t13 t16
 obtain⟨x',E',H',e,-,⟨rfl,rfl,h10⟩,fr⟩:=Gq (p:=P) (c:=XU) (E0:=E0) (H0:=H)
  (fun q E H'=>H'=H∧E 10=E0 10∧∃j:Nat,E 20=.i j∧j≤x.data.length∧q=x.data.length-j) (fun x E' H'=>x=.exit 4∧H'=H∧E' 10=E0 10) (by
   rintro q E H' hE ⟨rfl,e10,j,e20,hj,rfl⟩
   have e13:=(hE 13 dK).trans WA
   have e16:=(hE 16 dK).trans h16
   have hvl:=r1.len H'
   by_cases c:j<x.data.length
   ·have c':decide ((j:Int)<(x.data.length:Int))=true:=Gz oM
    have w1:IntKind.i64.wrap ((j:Int)+1)=((j+1:Nat):Int):=Gg oM
    obtain⟨a,ha⟩:∃a,x.data[j]?=some a:=⟨_,Jr c⟩
    obtain⟨c1,f1,i1,i2,i3⟩:=r1.at ha
    obtain⟨c2,f2,j1,j2,j3⟩:=r2.at (i:=j) (x:=a) (by rw[bc.data];exact ha)
    have Yg:=i3 H' (Keeps.refl _ _)
    have j3':=j3 H' (Keeps.refl _ _)
    have ce:(a != a)=false:=by simp
    apply Gm (k':=x.data.length-(j+1))
    ·simp(disch:=first|exact dz|fail) only[simprocAttr,Gs,↓reduceIte,Ub,e13,e16,e20,t13,t16,hvl,c',i1,i2,Yg,j1,j2,j3',ce,w1]
     rfl
    ·omega
    ·exact⟨rfl,by simp[Gc,e10],j+1,uA,oM,rfl⟩
   ·have c':decide ((j:Int)<(x.data.length:Int))=false:=Gw oM
    apply Gi (x:=.exit 4)
    ·simp(disch:=first|exact dz|fail) only[simprocAttr,Gs,↓reduceIte,Ub,e13,e20,t13,hvl,c']
     rfl
    ·simp
    ·exact⟨rfl,rfl,by simp[Gc,e10]⟩) _ ⟨rfl,rfl,0,h20,oM,rfl⟩
 exact⟨E',hr.symm.trans e,h10,fr⟩
theorem Gkh(m:J3 o H rb s L)(k:s.Ok)(m':J3 o' H rb' t L')(kt:t.Ok){l:List Int}{w:CV}(li:LI H w l)(hl:l.length≤100000)(hh:∀a∈l,s.has a=true)(lo:TW s t l)
  {E0:Env}(h0:E0 0=.ptr rb 0)(h2:E0 2=.ptr rb' 0)(h11:E0 11=w)(h12:E0 12=.i 0){r:Option (CX×Env×Gb)}(hr:den P (.loop RD) E0 H=r):
  ∃E' H',r=some (.exit 0,E',H')∧Gr H H'∧E' 10=E0 10∧∀t,t∉wr RD→E' t=E0 t:=by
 obtain⟨x',E',H',e,-,⟨rfl,g,h10⟩,fr⟩:=Gq (p:=P) (c:=RD) (E0:=E0) (H0:=H)
  (fun q E H'=>Gr H H'∧E 10=E0 10∧∃j:Nat,E 12=.i j∧j≤l.length∧q=l.length-j) (fun x E' H'=>x=.exit 0∧Gr H H'∧E' 10=E0 10) (by
   rintro q E H' hE ⟨g,e10,j,e12,hj,rfl⟩
   have e0:=(hE 0 dK).trans h0
   have e2:=(hE 2 dK).trans h2
   have e11:=(hE 11 dK).trans h11
   have hvl:=li.len H'
   by_cases c:j<l.length
   ·have c':decide ((j:Int)<(l.length:Int))=true:=Gz oM
    have w1:IntKind.i64.wrap ((j:Int)+1)=((j+1:Nat):Int):=Gg oM
    obtain⟨a,ha⟩:∃a,l[j]?=some a:=⟨_,Jr c⟩
    have al:=JV ha
    obtain⟨c1,f1,i1,i2,i3⟩:=li.at ha
    have Yg:=i3 H' g
    have mg:=m.gr g
    have hha:=hh a al
    obtain⟨x,hx⟩:=Hp.J4.1 hha
    have xm:=(Hp.Jf hx).1
    obtain⟨n,bc⟩:=lo.obs a al x hx
    have ix:=KR mg k a
    unfold Hp.KC at ix
    rw[if_pos hha]at ix
    obtain⟨b1,n1,tl1,q1,q2,q3,q4,q5,q6⟩:=J3.row mg (Hp.Q_ hx)
    have hc:=mg.cells
    rw[q1]at hc
    have q7:Ba (some (⟨Gu L.hv s.objs,.rw,8⟩:JE)) (s.idx a*8) 8=some (Gt L.hv x):=by
     rw[Qg,if_pos oM,QH (Hp.Q_ hx)]
    have r1:=(m.refs x xm)
    have r2:=(m'.refs n bc.mem)
    obtain⟨X,hX⟩:∃X:Gb,X=H'++[⟨Gt L.hv x,.rw,0⟩]:=⟨_,rfl⟩
    have gX:Gr H' X:=by rw[hX];exact Gr.app _ _
    have tX:X[H'.length]?=some ⟨Gt L.hv x,.rw,0⟩:=by rw[hX];simp
    have s8:=Gjj (H:=H') (r:=Gt L.hv x) rfl (by simp[Gt,Jl,KU,r1.1.leaf,r1.2.leaf])
    have gHX:=g.trans gX
    have mX:=m'.gr gHX
    have at1:run P 23 [.ptr rb' 0,.i x.id] X=some (.Jj [.i n.addr,.i 0],X):=by
     have h:=Ggq mX kt n.id
     rw[kt.whr bc.mem,bc.id]at h
     exact h
    have Gnk:=kt.obj bc.mem
    have nhas:t.has n.addr=true:=Hp.J4.2 ⟨n,Gnk⟩
    have ix2:=KR mX kt n.addr
    unfold Hp.KC at ix2
    rw[if_pos nhas]at ix2
    obtain⟨b2,n2,tl2,p1,p2,p3,p4,p5,p6⟩:=J3.row mX (Hp.Q_ Gnk)
    have hc2:=mX.cells
    rw[p1]at hc2
    have p7:Ba (some (⟨Gu L'.hv t.objs,.rw,8⟩:JE)) (t.idx n.addr*8) 8=some (Gt L'.hv n):=by
     rw[Qg,if_pos oM,QH (Hp.Q_ Gnk)]
    obtain⟨Y,hY⟩:∃Y:Gb,Y=X++[⟨Gt L'.hv n,.rw,0⟩]:=⟨_,rfl⟩
    have gY:Gr X Y:=by rw[hY];exact Gr.app _ _
    have tY:Y[X.length]?=some ⟨Gt L'.hv n,.rw,0⟩:=by rw[hY];simp
    have s8':=Gjj (H:=X) (r:=Gt L'.hv n) rfl (by simp[Gt,Jl,KU,r2.1.leaf,r2.2.leaf])
    have tX':=gY.get tX
    have gHY:=gHX.trans gY
    have tXo:=tX'
    have tYo:=tY
    have heq:∀Z:Gb,Gfi true 3 (.agg [.i n.refs.length,.i n.data.length,.i n.kd]) (.agg [.i x.refs.length,.i x.data.length,.i x.kd]) Z=some (.bool false,Z):=fun Z=>by
     rw[bc.nr,bc.data,bc.kd]
     unfold Gfi
     simp[Qn]
    suffices fin:∃E' Z,den P RD E H'=some (.normal,E',Z)∧Gr Y Z∧E' 10=E0 10∧E' 12=.i ((j+1:Nat):Int)by
     obtain⟨E',Z,f1,f2,f3,f4⟩:=fin
     exact Gm f1 (k':=l.length-(j+1)) oM ⟨gHY.trans f2,f3,j+1,f4,oM,rfl⟩
    unfold Gt at q7 hX s8 tX p7 hY s8' tX' tY
    unfold zOb at s8 s8'
    simp(disch:=first|exact dz|fail) only[simprocAttr,Gs,↓reduceIte,Ub,e0,e2,e11,e12,hvl,c',i1,i2,Yg,ix,hc,q3,q5,q7,s8,←hX,tX,at1,ix2,hc2,p3,p5,p7,s8',←hY,tX',tY,heq]
    generalize hr:den P (.loop Rc) _ _=r
    obtain⟨E2,Z,rfl,g2,z10,f2⟩:=GkI ((mg.gr gX).gr gY) k (mX.gr gY) kt (li.gr gHY) hl xm bc tXo tYo (by simp[Gc,e0]) (by simp[Gc,e2]) (by simp[Gc,e11]) uA uA uA hr
    have b13:=f2 13 dK
    have b16:=f2 16 dK
    have b12:=f2 12 dK
    simp only[Gc,Nat.reduceEqDiff,↓reduceIte,e12,e10]at b13 b16 b12 z10
    refine W1 b13 ?_
    generalize hr:den P (.loop XU) _ _=r
    obtain⟨E3,rfl,z3,f3⟩:=GkJ (((mg.gr gX).gr gY).gr g2) k ((mX.gr gY).gr g2) xm bc (g2.get tXo) (g2.get tYo) (by simp[Gc,b13]) (by simp[Gc,b16]) uA hr
    have c12:=f3 12 dK
    simp only[Gc,Nat.reduceEqDiff,↓reduceIte,b12,z10]at c12 z3
    refine W2 c12 w1 ?_
    exact⟨_,_,rfl,g2,by simp[Gc,z3],uA⟩
   ·have c':decide ((j:Int)<(l.length:Int))=false:=Gw oM
    apply Gi (x:=.exit 0)
    ·simp(disch:=first|exact dz|fail) only[simprocAttr,Gs,↓reduceIte,Ub,e11,e12,hvl,c']
     rfl
    ·simp
    ·exact⟨rfl,g,by simp[Gc,e10]⟩) _ ⟨Keeps.refl _ _,rfl,0,h12,oM,rfl⟩
 exact⟨E',H',hr.symm.trans e,g,h10,fr⟩
theorem GjX{o3 o4:Tags}{R T:Rt}{L3 L4:Vz}{qb qb':Nat}(m:J3 o H rb s L)(k:s.Ok)(m':J3 o' H rb' t L')(kt:t.Ok)(n3:JJ o3 H qb R L3)(kr:R.Ok)(n4:JJ o4 H qb' T L4)(kT:T.Ok)(lr:GcM s t R T){w:CV}{k0:Nat}(hw:P3 k0 H w R.vis)
  {E0:Env}(h0:E0 0=.ptr rb 0)(h1:E0 1=.ptr qb 0)(h2:E0 2=.ptr rb' 0)(h3:E0 3=.ptr qb' 0)(h21:E0 21=w)(h22:E0 22=.i 0){r:Option (CX×Env×Gb)}(hr:den P (.loop Ga1) E0 H=r):
  ∃E' H',r=some (.exit 6,E',H')∧Gr H H'∧E' 10=E0 10:=by
 have hvl:=kr.Uw
 obtain⟨x',E',H',e,-,⟨rfl,g,h10⟩,fr⟩:=Gq (p:=P) (c:=Ga1) (E0:=E0) (H0:=H)
  (fun q E H'=>Gr H H'∧E 10=E0 10∧∃j:Nat,E 22=.i j∧j≤R.vis.length∧q=R.vis.length-j) (fun x E' H'=>x=.exit 6∧Gr H H'∧E' 10=E0 10) (by
   rintro q E H' hE ⟨g,e10,j,e22,hj,rfl⟩
   have e0:=(hE 0 dK).trans h0
   have e1:=(hE 1 dK).trans h1
   have e2:=(hE 2 dK).trans h2
   have e3:=(hE 3 dK).trans h3
   have e21:=(hE 21 dK).trans h21
   have hwl:=At.len hw H'
   by_cases c:j<R.vis.length
   ·have c':decide ((j:Int)<(R.vis.length:Int))=true:=Gz oM
    have w1:IntKind.i64.wrap ((j:Int)+1)=((j+1:Nat):Int):=Gg oM
    obtain⟨x,hx⟩:∃x,R.vis[j]?=some x:=⟨_,Jr c⟩
    have xm:=JV hx
    obtain⟨y1,y2,y3⟩:=Rt.DI xm
    obtain⟨p1,p2,p3,p4⟩:=P3.at hw hx
    have p3':=p3 H'
    have p4':=p4 H' (g.keep _ p2 fun h=>h)
    obtain⟨X,d1,g1⟩:=WH (n3.gr g) kr (x:=x) y1 y2
    have p5:=p4 X ((g.trans g1).keep _ p2 fun h=>h)
    have d2:=Yx ((m.gr g).gr g1) k x.2.2
    suffices fin:∃E' Y,den P Ga1 E H'=some (.normal,E',Y)∧Gr H' Y∧E' 10=E0 10∧E' 22=.i ((j+1:Nat):Int)by
     obtain⟨E',Y,f1,f2,f3,f4⟩:=fin
     exact Gm f1 (k':=R.vis.length-(j+1)) oM ⟨g.trans f2,f3,j+1,f4,oM,rfl⟩
    rcases lr x xm with h|⟨y,hy,he⟩
    ·have cz:((s.GZ x.2.2).1==0)=true:=by rw[h];rfl
     simp(disch:=first|exact dz|fail) only[simprocAttr,Gs,↓reduceIte,Ub,e0,e1,e2,e3,e21,e22,hwl,c',p3',p4',d1,d2,cz,w1]
     exact⟨_,_,rfl,g1,by simp[Gc,e10],uA⟩
    ·by_cases h:(s.GZ x.2.2).1=0
     ·have cz:((s.GZ x.2.2).1==0)=true:=by rw[h];rfl
      simp(disch:=first|exact dz|fail) only[simprocAttr,Gs,↓reduceIte,Ub,e0,e1,e2,e3,e21,e22,hwl,c',p3',p4',d1,d2,cz,w1]
      exact⟨_,_,rfl,g1,by simp[Gc,e10],uA⟩
     ·have cz:((s.GZ x.2.2).1==0)=false:=by simpa using h
      obtain⟨Y,d3,g3⟩:=WH ((n4.gr g).gr g1) kT (x:=x) y1 hy
      have d4:=Yx ((m'.gr g).gr (g1.trans g3)) kt y
      have cc:((t.GZ y).1 != (s.GZ x.2.2).1)=false:=by rw[he];simp
      simp(disch:=first|exact dz|fail) only[simprocAttr,Gs,↓reduceIte,Ub,e0,e1,e2,e3,e21,e22,hwl,c',p3,p4',p5,d1,d2,cz,d3,d4,cc,w1]
      exact⟨_,_,rfl,g1.trans g3,by simp[Gc,e10],uA⟩
   ·have c':decide ((j:Int)<(R.vis.length:Int))=false:=Gw oM
    apply Gi (x:=.exit 6)
    ·simp(disch:=first|exact dz|fail) only[simprocAttr,Gs,↓reduceIte,Ub,e21,e22,hwl,c']
     rfl
    ·simp
    ·exact⟨rfl,g,by simp[Gc,e10]⟩) _ ⟨Keeps.refl _ _,rfl,0,h22,oM,rfl⟩
 exact⟨E',H',hr.symm.trans e,g,h10⟩
theorem Gg7{o3 o4:Tags}{R T:Rt}{L3 L4:Vz}{qb qb':Nat}(m:J3 o H rb s L)(k:s.Ok)(m':J3 o' H rb' t L')(kt:t.Ok)(n3:JJ o3 H qb R L3)(kr:R.Ok)(n4:JJ o4 H qb' T L4)(kT:T.Ok)(lr:GcM s t R T)(lo:∀l,(∀a,a∈l↔Kp s (fun a=>a∈R.vals∧a≠0) true a)→TW s t l):
  ∃H' b,run P 21 [.ptr rb 0,.ptr qb 0,.ptr rb' 0,.ptr qb' 0] H=some (.Jj [.slice b 0 0 0 3 false,.i 0],H')∧Gr H H':=by
 have h1:=Nt m k
 have h2:=U9 n3 kr
 have h3:=Nt m' kt
 have h4:=U9 n4 kT
 obtain⟨X0,hX0⟩:∃X:Gb,X=H++[⟨[],.rw,3⟩]:=⟨_,rfl⟩
 have g0:Gr H X0:=by rw[hX0];exact Gr.app _ _
 obtain⟨w1,X1,d1,g1,li1⟩:=PD (n3.gr g0) kr
 have hll:=QB R.vis
 have hvl:=kr.Uw
 have hmem:∀a,a∈G_ R.vis↔a∈R.vals∧a≠0:=fun a=>by rw[VR,Rt.Dl]
 obtain⟨w2,X2,l,d2,g2,li2,s2,k2⟩:=Gej ((m.gr g0).gr g1) k true (st:=G_ R.vis) oM li1.li
 have k2':∀a,a∈l↔Kp s (fun a=>a∈R.vals∧a≠0) true a:=fun a=>(k2 a).trans ⟨fun h=>h.mono fun a h=>(hmem a).1 h,fun h=>h.mono fun a h=>(hmem a).2 h⟩
 have hh:∀a∈l,s.has a=true:=fun a ha=>((k2 a).1 ha).has
 have few:=k.IK s2 hh
 have g02:=(g0.trans g1).trans g2
 rw[Gh c21 _ _ sM]
 simp(disch:=first|exact dz|fail) only[simprocAttr,Gs,↓reduceIte,Ub,h1,h2,h3,h4,←hX0,d1,d2]
 generalize hr:den P (.loop RD) _ _=r
 obtain⟨E3,X3,rfl,g3,z10,f3⟩:=Gkh (m.gr g02) k (m'.gr g02) kt li2 oM hh (lo l k2') uA uA uA uA hr
 have b0:=f3 0 dK
 have b1:=f3 1 dK
 have b2:=f3 2 dK
 have b3:=f3 3 dK
 simp only[Gc,Nat.reduceEqDiff,↓reduceIte]at b0 b1 b2 b3 z10
 have g03:=g02.trans g3
 obtain⟨w4,X4,d4,g4,p3⟩:=OA (n3.gr g03) kr
 have g04:=g03.trans g4
 simp(disch:=first|exact dz|fail) only[simprocAttr,Gs,↓reduceIte,Ub,b1,d4]
 generalize hr:den P (.loop Ga1) _ _=r
 obtain⟨E5,X5,rfl,g5,y10⟩:=GjX (m.gr g04) k (m'.gr g04) kt (n3.gr g04) kr (n4.gr g04) kT lr p3 (by simp[Gc,b0]) (by simp[Gc,b1]) (by simp[Gc,b2]) (by simp[Gc,b3]) uA uA hr
 simp only[Gc,Nat.reduceEqDiff,↓reduceIte,z10]at y10
 refine⟨X5,H.length,?_,g04.trans g5⟩
 simp(disch:=first|exact dz|fail) only[simprocAttr,Gs,↓reduceIte,Ub,y10]
 try rfl
end
end Go.Cs.Tryz

