/- A part of the proof: WeakTable returns true for every input: Get after Put is the value, and changes no other key; Remove takes one entry out; Entries are just those that were put and not removed (P19.3, P19.7). At most 40 rows Conditions: none. -/
import Derived.Test.YthpfmihkegbbgaaGreatDoorWeakTable3
import Derived.Test.YthpfmihkegbbgaaGreatDoorProg
import Derived.KernelRfl
set_option linter.unusedVariables false
set_option linter.unusedSimpArgs false
set_option linter.defProp false
set_option maxRecDepth 100000
namespace Go.Cs
open Go
theorem Gfx{s:Hp}(k:s.Ok)(h0:s.has 0=false){st:Int→Prop}{ks:List Int}{wf:Int→List Int}(sd:Sd s st ks wf)(hst:∀a,st a→s.has a=true→a∈ks)(hstr:∀a∈ks,∀b∈s.strOf a,s.has b=true→b∈ks)(htb:∀a∈ks,Gd0 s a ks wf):
  ∀x,x∈ks↔Kp s st true x:=fun x=>⟨sd.kp x,fun hx=>by
 induction hx with
 |start a1 a2=>exact hst _ a1 a2
 |@ref a b o j _ a2 a3 a4 a5 ih=>
  by_cases c:b=0
  ·rw[c,h0]at a5;cases a5
  ·exact hstr a ih b (Hp.Bn.2 ⟨c,o,a2,j,a3,a4⟩) a5
 |@pair a b c o _ a2 a3 a4 a5 a6 a7 a8 ih1 ih2=>
  have e0:s.keyOf a=c:=by unfold Hp.keyOf Hp.refsOf;grind
  have e1:s.valOf a=b:=by unfold Hp.valOf Hp.refsOf;grind
  have hk:s.VB a=2:=by unfold Hp.VB;rw[a3];exact a4
  have hc0:s.keyOf a≠0:=fun h=>by rw[←e0,h]at a6;have:=a6.has;rw[h0]at this;cases this
  rcases htb a ih1 hk hc0 with⟨q1,q2⟩|⟨q1,q2⟩
  ·rw[e1]at q2;exact q2 a8
  ·rw[e0]at q1;exact absurd ih2 q1⟩
end Go.Cs
namespace Go.Cs.Tryz
open Go Go.Cs
section
variable {hb : Nat} {s : Hp} {L : G6} {wb mk mw : Nat} {nt : Nat}
theorem Gi6(k:s.Ok){o:Tags}{H:Gb}{ks:List Int}{wf:Int→List Int}(m:Yc o H hb s L wb mk mw ks wf nt)(wk:WOk nt ks wf){l:List Int}(hl:l.length≤100000)(hle:∀x∈l,x≤9223372036854775807){w:CV}(hw:LI H w l)(hwo:l≠[]→o (Gn w)=none)
  {E0:Env}(h0:E0 8=.ptr wb 0)(h48:E0 24=w)(h49:E0 25=.i l.length)(h50:E0 26=.i 0){r:Option (CX×Env×Gb)}(hr:den P (.loop XY) E0 H=r):
  ∃E' H',r=some (.exit 0,E',H')∧Z0 s hb L wb mk mw nt (fun x=>x∈l) o H ks wf H'∧∀t,t∉wr XY→E' t=E0 t:=by
 obtain⟨x',E',H',e,-,⟨rfl,q⟩,fr⟩:=Gs (p:=P) (c:=XY) (E0:=E0) (H0:=H)
  (fun q E H'=>∃j:Nat,E 26=.i j∧j≤l.length∧q=l.length-j∧Z0 s hb L wb mk mw nt (fun x=>x∈l.take j) o H ks wf H')
  (fun x' E' H'=>x'=.exit 0∧Z0 s hb L wb mk mw nt (fun x=>x∈l) o H ks wf H') (by
   rintro q E H' hE ⟨j,e50,hj,rfl,o',ks',wf',m',g,rc⟩
   have e0:=(hE 8 dK).trans h0
   have e48:=(hE 24 dK).trans h48
   have e49:=(hE 25 dK).trans h49
   by_cases c:j<l.length
   ·have c':decide ((j:Int)<(l.length:Int))=true:=G7 oM
    obtain⟨x,hx⟩:∃x,l[j]?=some x:=⟨_,JG c⟩
    have IC:=hwo (fun h=>by rw[h]at c;exact absurd c sM)
    obtain⟨tl,a1,a2,a3,a4⟩:=hw.pos oM
    have Pp:H'[Gn w]?=H[Gn w]?:=g.keep _ (Gf a3) IC
    have ix:∀X,JU 1 w (.i j) X=some (.ptr (Gn w) j,X):=fun X=>by
     rw[a1];exact(if_pos oM).trans (by simp[Gn])
    have l1:ld H'[Gn w]? j=some (.i x):=by rw[Pp,a3,Qm];simp[ints,hx]
    obtain⟨H2,r1,o2,ZE,wf2,m2,g2,rc2⟩:=YZ k 4097 o' H' ks' wf' x oM m' (wk.next rc) (hle x (JV hx))
    have w1:IntKind.i64.wrap ((j:Int)+1)=((j+1:Nat):Int):=Gh oM
    apply Gp (k':=l.length-(j+1))
    ·refine W9 e0 e48 e49 e50 c' ix l1 r1 w1 ?_
     rfl
    ·omega
    ·refine⟨j+1,uA,oM,rfl,o2,ZE,wf2,m2,g.trans g2,(rc.trans rc2).weaken fun b=>?_⟩
     rw[QV,hx,Yu,NV,Bz]
   ·have c':decide ((j:Int)<(l.length:Int))=false:=G5 oM
    rw[QA oM]at rc
    apply Gj (x:=.exit 0)
    ·refine GH ?_
     rfl
    ·simp
    ·exact⟨rfl,o',ks',wf',m',g,rc⟩) _ ⟨0,h50,oM,rfl,o,ks,wf,m,Vo.gr (Keeps.refl _ _),(LH.refl wk.no).weaken fun b=>by simp⟩
 grind
structure WSt(s:Hp)(st:Int→Prop)(j nt:Nat)(ks:List Int)(wf:Int→List Int):Prop where
 wk:WOk nt ks wf
 sd:Sd s st ks wf
 nt:nt≤j
 st:∀a,st a→s.has a=true→a∈ks
 dn:∀i a,i<j→ks[i]?=some a→(∀b∈s.strOf a,s.has b=true→b∈ks)∧Gd0 s a ks wf
theorem GjV(k:s.Ok)(hs:Ql s)(h00:s.has 0=false){st:Int→Prop}{o:Tags}{H:Gb}{ks:List Int}{wf:Int→List Int}(m:Yc o H hb s L wb mk mw ks wf nt)(ws:WSt s st 0 nt ks wf)
  {E0:Env}(h8:E0 8=.ptr wb 0)(h11:E0 11=.i 0){r:Option (CX×Env×Gb)}(hr:den P (.loop W_) E0 H=r):
  ∃E' H' o' ks' wf' Xn,r=some (.exit 2,E',H')∧Yc o' H' hb s L wb mk mw ks' wf' Xn∧Vo o H o' H'∧(∀x,x∈ks'↔Kp s st true x)∧∀t,t∉wr W_→E' t=E0 t:=by
 obtain⟨x',E',H',e,-,⟨rfl,o',ks',wf',Xn,q1,q2,q3⟩,fr⟩:=Gs (p:=P) (c:=W_) (E0:=E0) (H0:=H)
  (fun q E H'=>∃(j:Nat)(o':Tags)(ks':List Int)(wf':Int→List Int)(Xn:Nat),E 11=.i j∧j≤ks'.length∧q=5000-j∧Yc o' H' hb s L wb mk mw ks' wf' Xn∧Vo o H o' H'∧WSt s st j Xn ks' wf')
  (fun x' E' H'=>x'=.exit 2∧∃(o':Tags)(ks':List Int)(wf':Int→List Int)(Xn:Nat),Yc o' H' hb s L wb mk mw ks' wf' Xn∧Vo o H o' H'∧∀x,x∈ks'↔Kp s st true x) (by
   rintro q E H' hE ⟨j,o',ks',wf',Xn,e11,hj,rfl,m',g,ws⟩
   have e8:=(hE 8 dK).trans h8
   obtain⟨lv,f,wks,b1,b2,b3,b4⟩:=m'.ex
   have hll:=b2.len H'
   have WL:=m'.PE.few k
   by_cases c:j<ks'.length
   ·have c':decide ((j:Int)<(ks'.length:Int))=true:=G7 oM
    have hx:ks'[j]?=some ks'[j]:=JG c
    obtain⟨a,hae⟩:∃a,a=ks'[j]:=⟨_,rfl⟩
    rw[←hae]at hx
    have GyK:=ws.nt
    obtain⟨bb,ff,i1,i2,i3⟩:=LI.at (At.il b2) hx
    have AZ:=i3 H' (Keeps.refl _ _)
    obtain⟨H2,o2,ZE,wf2,nt2,r1,m2,g2,p1,p2,p3,p4,p5,p6⟩:=GeE m' k hs ws.wk oM ws.sd (JV hx)
    have w1:IntKind.i64.wrap ((j:Int)+1)=((j+1:Nat):Int):=Gh oM
    have hpl:=p4.pre.length_le
    apply Gp (k':=5000-(j+1))
    ·refine W9 e8 e11 b1 hll c' i1 AZ r1 w1 ?_
     rfl
    ·omega
    ·refine⟨j+1,o2,ZE,wf2,nt2,uA,oM,rfl,m2,g.trans g2,p2,p3,oM,fun x hx hh=>p4.pre.subset (ws.st x hx hh),fun i y hi hy=>?_⟩
     by_cases ci:i=j
     ·subst ci
      have:y=a:=by
       obtain⟨t,ht⟩:=p4.pre
       grind
      grind
     ·have hy':ks'[i]?=some y:=by
       obtain⟨t,ht⟩:=p4.pre
       grind
      obtain⟨d1,d2⟩:=ws.dn i y oM hy'
      exact⟨fun b hb hh=>p4.pre.subset (d1 b hb hh),p4.tb d2⟩
   ·have c':decide ((j:Int)<(ks'.length:Int))=false:=G5 oM
    apply Gj (x:=.exit 2)
    ·refine GH ?_
     rfl
    ·simp
    ·refine⟨rfl,o',ks',wf',Xn,m',g,Gfx k h00 ws.sd ws.st (fun a ha b hb hh=>?_) fun a ha=>?_⟩
     ·obtain⟨i,hi⟩:=List.mem_iff_getElem?.1 ha
      exact(ws.dn i a (by have:=Gf hi;omega) hi).1 b hb hh
     ·obtain⟨i,hi⟩:=List.mem_iff_getElem?.1 ha
      exact(ws.dn i a (by have:=Gf hi;omega) hi).2) _ ⟨0,o,ks,wf,nt,h11,oM,rfl,m,Vo.gr (Keeps.refl _ _),ws⟩
 grind
theorem Sq{H:Gb}{o1:Tags}{rb:Nat}{R:Rt}{v:Nat→CV}(p:PH H hb s L)(k:s.Ok)(m:K5 o1 H rb R v)(kr:R.Ok)(hs:E_ s R):
  ∃w H' l n,run P 14 [.ptr hb 0,.ptr rb 0] H=some (.Jk [w,.i (n:Nat),.i 0],H')∧Gr H H'∧LI H' w l∧ZC l∧∀x,x∈l↔Kpt s R x:=by
 obtain⟨X1,h1,g1⟩:=O8 p k m kr hs
 obtain⟨X2,hX2⟩:∃X2:Gb,X2=X1++[⟨[],.map,0⟩]++[⟨[],.map,0⟩]++[⟨[.ptr hb 0,.GI X1.length,.GI (X1.length+1),.Gc,.i 0],.rw,0⟩]:=⟨_,rfl⟩
 have g2:Gr X1 X2:=by rw[hX2];exact((Gr.app X1 _).app' _).app' _
 have l2:X2.length=X1.length+3:=by rw[hX2];simp
 have p2:=(p.gr g1).gr g2
 obtain⟨w3,X3,h3,g3,li3⟩:=Ay ((m.gr g1).gr g2) kr
 have hvl:=kr.VJ
 have hll:=Qz R.vis
 have hmem:∀a,a∈GY R.vis↔a∈R.vals∧a≠0:=fun a=>by rw[VY,Rt.Li]
 have hp1:=(p.gr g1).lt
 have m2:Yc (((Tags.put (fun _=>none) X1.length (0,2,0)).put (X1.length+1) (0,3,0)).put (X1.length+2) (0,0,0)) X2 hb s L (X1.length+2) X1.length (X1.length+1) [] (fun _=>[]) 0:=by
  refine⟨p2,fun c hc=>?_,fun c t h=>?_,Tags.put_eq,?_,?_,⟨⟨[],by rw[hX2];simp[Ka],rfl,List.nodup_nil,fun k v=>by simp⟩,fun x hx=>(by cases hx)⟩,.Gc,fun _=>none,[],by rw[hX2];simp,.inl ⟨rfl,rfl,.inl rfl⟩,⟨[],by rw[hX2];simp[Ka],rfl,List.nodup_nil,fun k v=>by simp⟩,fun key=>.inl ⟨rfl,rfl⟩⟩
  ·have:=hp1 c hc
   rw[Tags.GK oM,Tags.GK oM,Tags.GK oM]
  ·by_cases c1:c=X1.length+2
   ·omega
   ·rw[Tags.GK c1]at h
    by_cases c2:c=X1.length+1
    ·omega
    ·rw[Tags.GK c2]at h
     by_cases c3:c=X1.length
     ·omega
     ·rw[Tags.GK c3]at h;cases h
  ·rw[Tags.GK oM,Tags.GK oM,Tags.put_eq]
  ·rw[Tags.GK oM,Tags.put_eq]
 have m3:=m2.gr g3
 have wk3:WOk 0 [] (fun _=>([]:List Int)):=⟨fun _ h=>(by cases h),fun _=>Nat.le_refl _,fun _ _ h=>(by cases h)⟩
 have hwl:=li3.len X3
 have hwo:GY R.vis≠[]→(((Tags.put (fun _=>none) X1.length (0,2,0)).put (X1.length+1) (0,3,0)).put (X1.length+2) (0,0,0)) (Gn w3)=none:=fun h=>by
  obtain⟨tl,a1,a2,a3,a4⟩:=li3.pos (A7.2 h)
  have:=(Gm.1 a2).1
  rw[Tags.GK oM,Tags.GK oM,Tags.GK oM]
 rw[Gi c14 _ _ sM]
 have:=@Dr;have:=show∀b:Nat,cellsOf (CV.GI b)=[CV.GI b]from fun _=>rfl;refine WX ?_
 rw[show X1.length+1+1=X1.length+2 from rfl,←hX2]
 refine W2 h3 hwl ?_
 generalize hr:den P (.loop XY) _ _=r
 obtain⟨E4,X4,rfl,⟨o4,ks4,wf4,m4,c4,rc4⟩,f4⟩:=Gi6 k m3 wk3 oM (fun x hx=>by
  rcases hs.2.1 x ((hmem x).1 hx).1 with h|h
  ·omega
  ·have:=k.has_lt h;omega) li3.li hwo uA uA uA uA hr
 have d8:=f4 8 dK
 simp only[Gg,Nat.reduceEqDiff,↓reduceIte]at d8
 refine GH ?_
 generalize hr:den P (.loop W_) _ _=r
 obtain⟨E5,X5,o5,ks5,wf5,nt5,rfl,m5,c5,hk5,f5⟩:=GjV (st:=fun a=>a∈GY R.vis) k hs.1 hs.2.2.has m4 ⟨wk3.next rc4,rc4.sd (fun a ha hh=>.start ha hh) ⟨fun x hx=>(by cases hx),fun _ _ hx=>(by cases hx)⟩,Nat.le_refl _,fun a ha hh=>rc4.got a ha hh,fun i a hi=>by omega⟩ (by simp[Gg,d8]) uA hr
 have e8:=f5 8 dK
 simp only[Gg,Nat.reduceEqDiff,↓reduceIte,d8]at e8
 obtain⟨lv,fm,wks,t5,-,-,-⟩:=m5.ex
 obtain⟨w6,X6,b,h6,h7,g6,li6⟩:=Io k m5.PE
 have t6:=g6.get t5
 have hwb:=Gf t5
 have:=@Gk0;refine GH ?_
 have c35:=c4.trans c5
 refine⟨w6,X6,QN ks5,nt5,rfl,⟨?_,fun c hc _=>?_⟩,li6.li,D9 m5.PE.m.nodup,fun x=>?_⟩
 ·have:=g1.len;grind
 ·have q1:=g1.len
  have q3:=g3.len
  have q5:=c35.len
  rw[g6.keep c oM fun h=>h,c35.keep c oM (by rw[Tags.GK oM,Tags.GK oM,Tags.GK oM]),g3.keep c oM fun h=>h,g2.keep c oM fun h=>h,g1.keep c hc fun h=>h]
 ·rw[EJ,hk5]
  exact⟨fun h=>h.mono fun a h=>(hmem a).1 h,fun h=>h.mono fun a h=>(hmem a).2 h⟩
end
end Go.Cs.Tryz
namespace Go.Cs.Tryz
open Go Go.Cs A
abbrev XL:Gq:=S (T [m 13 7,m 14 8,b 15 .lss 13 14] (J 15 (X 0))) (B 1 (T [m 16 7,m 17 8,b 18 .add 16 17,e 19 (.conv .u64 (t 18)),e 20 (.shift .shr (t 19) (c (.int .u64 1))),e 21 (.conv .i64 (t 20)),m 9 21] (T [m 22 0,m 23 9,x 24 1 22 23,l 25 1 24,m 26 1,q2 27 140 25 26] (C 27 (R [m 28 9,bk 29 .add 28 1,m 7 29]) (R [m 30 9,m 8 30])))))
def C52:Gl:=⟨54,0,T [n 4 0,nb 5 false] (T [m 10 0,le 11 10,m 6 11] (T [m 12 6,n 7 0,m 8 12] (S (B 0 (W XL)) (Q [m 31 7,m 32 7,m 33 6,b 34 .lss 32 33,m 35 34,gt 35 (m 36 0),gt 35 (m 37 7),gt 35 (x 38 1 36 37),gt 35 (l 39 1 38),gt 35 (m 40 1),gt 35 (b 41 .eql 39 40),gt 35 (m 42 41),gf 42 (m 43 0),gf 42 (m 44 7),gf 42 (x 45 1 43 44),gf 42 (l 46 1 45),gf 42 (q1 47 141 46),gf 42 (m 48 47),gt 48 (m 49 1),gt 48 (q1 50 141 49),gf 42 (an 51 48 50),gt 35 (or 52 42 51),an 53 35 52,m 4 31,m 5 53])))),[r 4,r 5]⟩
theorem c52:P 52=some C52:=by kernel_rfl
def GtJ:Gl:=⟨17,0,T [nb 4 false] (Q [m 5 0,q1 6 230 5,m 7 6,gt 7 (m 8 1),gt 7 (q1 9 230 8),gt 7 (no 10 9),an 11 7 10,m 12 11,gf 12 (m 13 0),gf 12 (m 14 1),gf 12 (b 15 .lss 13 14),or 16 12 15,m 4 16]),[r 4]⟩
theorem GtP:P 140=some GtJ:=by kernel_rfl
def GtC:Gl:=⟨6,0,T [nb 2 false] (Q [m 3 0,m 4 0,b 5 .neq 3 4,m 2 5]),[r 2]⟩
theorem c141:P 141=some GtC:=by kernel_rfl
def Gr8:Gl:=⟨6,0,T [nb 2 false] (Q [m 3 0,m 4 0,b 5 .neq 3 4,m 2 5]),[r 2]⟩
theorem Gq7:P 230=some Gr8:=by kernel_rfl
end Go.Cs.Tryz
namespace Go.Cs.Tryz
open Go Go.Cs
section
variable {H : Gb} {v : CV} {l : List Int}
theorem GfH(a b:Int):run P 140 [.i a,.i b] H=some (.bool (decide (a<b)),H):=by
 have h:∀x:Int,run P 230 [.i x] H=some (.bool false,H):=fun x=>by
  rw[Gi Gq7 _ _ sM]
  have:=show(x != x)=false from bne_self_eq_false x;exact W0
 have ha:=h a
 have hb:=h b
 rw[Gi GtP _ _ sM]
 by_cases c:a<b
 ·rw[G7 c]
  have:=G7 c;exact W0
 ·rw[G5 c]
  have:=G5 c;exact W0
theorem SN(x:Int):run P 141 [.i x] H=some (.bool false,H):=by
 rw[Gi c141 _ _ sM]
 have:=show(x != x)=false from bne_self_eq_false x;exact W0
theorem GdF(h:LI H v l)(hs:ZC l)(hl:l.length≤100000){x:Int}{E0:Env}(h0:E0 0=v)(h1:E0 1=.i x)(h7:E0 7=.i 0)(h8:E0 8=.i l.length){r:Option (CX×Env×Gb)}(hr:den P (.loop XL) E0 H=r):
  ∃(E':Env)(i:Nat),r=some (.exit 0,E',H)∧E' 7=.i i∧i≤l.length∧(x∈l↔l[i]?=some x)∧∀t,t∉wr XL→E' t=E0 t:=by
 obtain⟨x',E',H',e,-,⟨rfl,rfl,i,q1,q2,q3⟩,fr⟩:=Gs (p:=P) (c:=XL) (E0:=E0) (H0:=H)
  (fun q E H'=>H'=H∧∃i j:Nat,E 7=.i i∧E 8=.i j∧i≤j∧j≤l.length∧q=j-i∧(∀p y,p<i→l[p]?=some y→y<x)∧∀p y,j≤p→l[p]?=some y→x≤y)
  (fun x' E' H'=>x'=.exit 0∧H'=H∧∃i:Nat,E' 7=.i i∧i≤l.length∧(x∈l↔l[i]?=some x)) (by
   rintro q E H' hE ⟨rfl,i,j,e7,e8,hij,hj,rfl,lo,hi⟩
   have e0:=(hE 0 dK).trans h0
   have e1:=(hE 1 dK).trans h1
   have mono:∀p q y z,p<q→l[p]?=some y→l[q]?=some z→y<z:=fun p q y z hpq hp hq=>by
    have:=Nf (r:=fun a b:Int=>a<b) hs hpq hp hq
    exact this
   by_cases c:i<j
   ·have c':decide ((i:Int)<(j:Int))=true:=G7 oM
    obtain⟨m,hm⟩:∃m,m=(i+j)/2:=⟨_,rfl⟩
    have hx:l[m]?=some l[m]:=JG oM
    obtain⟨b,o,i1,i2,i3⟩:=h.at hx
    have AZ:=i3 H' (Keeps.refl _ _)
    have w1:IntKind.i64.wrap ((i:Int)+(j:Int))=((i+j:Nat):Int):=Gh oM
    have w2:IntKind.u64.wrap ((i+j:Nat):Int)=((i+j:Nat):Int):=Oi oM
    have sh:BR .shr (.int .u64 ((i+j:Nat):Int)) (.int .u64 1) H'=some (.int .u64 (m:Int),H'):=by
     rw[Guu oM]
     congr 3
     show((i+j:Nat):Int).fdiv 2=_
     grind
    have w3:IntKind.i64.wrap (m:Int)=(m:Int):=Gh oM
    have w4:IntKind.i64.wrap ((m:Int)+1)=((m+1:Nat):Int):=Gh oM
    have hc:=GfH (H:=H') l[m] x
    by_cases hlt:l[m]<x
    ·rw[G7 hlt]at hc
     apply Gp (k':=j-(m+1))
     ·refine W16 e0 e1 e7 e8 c' w1 @NG @QI w2 @FY sh w3 i1 AZ hc w4 ?_
      rfl
     ·omega
     ·refine⟨rfl,m+1,j,uA,by simp[Gg,e8],oM,hj,rfl,fun p y hp hy=>?_,hi⟩
      grind
    ·rw[G5 hlt]at hc
     apply Gp (k':=m-i)
     ·refine W15 e0 e1 e7 e8 c' w1 @NG @QI w2 @FY sh w3 i1 AZ hc ?_
      rfl
     ·omega
     ·refine⟨rfl,i,m,by simp[Gg,e7],uA,oM,oM,rfl,lo,fun p y hp hy=>?_⟩
      grind
   ·have c':decide ((i:Int)<(j:Int))=false:=G5 oM
    have hji:j=i:=by omega
    subst hji
    apply Gj (x:=.exit 0)
    ·refine GH ?_
     rfl
    ·simp
    ·refine⟨rfl,rfl,j,by simp[Gg,e7],hj,fun hm=>?_,fun h=>JV h⟩
     obtain⟨p,hp⟩:=List.mem_iff_getElem?.1 hm
     grind) _ ⟨rfl,0,l.length,h7,h8,Nat.zero_le _,Nat.le_refl _,rfl,fun p y hp=>by omega,fun p y hp hy=>by have:=Gf hy;omega⟩
 grind
theorem Br(h:LI H v l)(hs:ZC l)(hl:l.length≤100000)(x:Int):∃i:Nat,run P 52 [v,.i x] H=some (.Jk [.i i,.bool (decide (x∈l))],H):=by
 have hvl:=h.len H
 rw[Gi c52 _ _ sM]
 refine GH ?_
 generalize hr:den P (.loop XL) _ _=r
 obtain⟨E',i,rfl,a7,hi,hiff,f1⟩:=GdF h hs hl (x:=x) uA uA uA uA hr
 have b0:=f1 0 dK
 have b1:=f1 1 dK
 have b6:=f1 6 dK
 simp only[Gg,Nat.reduceEqDiff,↓reduceIte]at b0 b1 b6
 refine⟨i,?_⟩
 by_cases c:i<l.length
 ·have c':decide ((i:Int)<(l.length:Int))=true:=G7 oM
  have hx:l[i]?=some l[i]:=JG c
  obtain⟨b,o,i1,i2,i3⟩:=h.at hx
  have AZ:=i3 H (Keeps.refl _ _)
  by_cases ce:l[i]=x
  ·have ce':(l[i]==x)=true:=by simpa using ce
   have hm:x∈l:=hiff.2 (by rw[hx,ce])
   rw[G7 hm]
   exact W0
  ·have ce':(l[i]==x)=false:=by simpa using ce
   have hm:x∉l:=fun h=>ce (by grind)
   have G0s:=SN (H:=H) l[i]
   rw[G5 hm]
   exact W0
 ·have c':decide ((i:Int)<(l.length:Int))=false:=G5 oM
  have hm:x∉l:=fun h=>by grind
  rw[G5 hm]
  exact W0
end
end Go.Cs.Tryz

namespace Go.Cs
open Go
def Ak(kd j:Nat)(l:List Int):List Int:=l.zipIdx.map fun x=>if x.2<j∧Jh kd x.2=false then 0 else x.1
theorem Va(kd j:Nat)(l:List Int):(Ak kd j l).length=l.length:=by simp[Ak]
theorem K6(kd j:Nat)(l:List Int)(i:Nat):(Ak kd j l)[i]?=(l[i]?).map fun r=>if i<j∧Jh kd i=false then 0 else r:=by
 unfold Ak
 grind
theorem Gb6(kd:Nat)(l:List Int):Ak kd 0 l=l:=by
 apply List.ext_getElem?
 intro i
 rw[K6]
 grind
theorem Ga_{kd j:Nat}{l:List Int}{r:Int}(h:l[j]?=some r) (hr:r=0∨Jh kd j=true):Ak kd (j+1) l=Ak kd j l:=by
 apply List.ext_getElem?
 intro i
 rw[K6,K6]
 grind
theorem Gd2{kd j:Nat}{l:List Int}(hj:j<l.length)(hs:Jh kd j=false):(Ak kd j l).set j 0=Ak kd (j+1) l:=by
 apply List.ext_getElem?
 intro i
 rw[K6,Tj]
 by_cases c:j=i
 ·subst c
  rw[if_pos rfl,if_pos (by rw[Va];exact hj),JG hj]
  simp[hs]
 ·rw[if_neg c,K6]
  grind
def zf(j:Nat)(x:Ob):Ob:={x with refs:=Ak x.kd j x.refs}
def zA(x:Ob):Ob:=zf x.refs.length x
theorem Gc1(j:Nat)(x:Ob):KO (zf j) x:=⟨rfl,rfl,rfl,Va _ _ _,rfl⟩
theorem Ei(x:Ob):KO zA x:=⟨rfl,rfl,rfl,Va _ _ _,rfl⟩
theorem Gke(x:Ob):zA (zA x)=zA x:=by
 unfold zA zf
 simp only[Va]
 congr 1
 apply List.ext_getElem?
 intro i
 rw[K6,K6]
 grind
theorem Gjc{s:Hp}{a:Nat}{f g:Ob→Ob}(hf:∀x,(f x).addr=x.addr):(s.upd a f).upd a g=s.upd a fun x=>g (f x):=by
 unfold Hp.upd
 simp only[List.map_map]
 congr 1
 apply List.map_congr_left
 grind
theorem Bd{s:Hp}{a:Nat}{f g:Ob→Ob}(h:∀x∈s.objs,x.addr=a→f x=g x):s.upd a f=s.upd a g:=by
 unfold Hp.upd
 simp_all
theorem GkP{s:Hp}{a:Nat}{f:Ob→Ob}(h:∀x∈s.objs,x.addr=a→f x=x):s.upd a f=s:=by
 have:s.upd a f=s.upd a id:=Bd h
 rw[this]
 unfold Hp.upd
 simp
def Cnd(l:List Int)(o:Ob):Prop:=(o.kd=1∨o.kd=2)∧¬(o.refs.getD 0 0≠0∧o.refs.getD 0 0∈l)
open Classical in
noncomputable def Yi(s:Hp)(l:List Int)(a:Int):Hp:=match s.obj a with
 |some o=>if Cnd l o then s.upd o.addr zA else s
 |none=>s
noncomputable def Zr(s:Hp)(l:List Int)(j:Nat):Hp:=(l.take j).foldl (fun s a=>Yi s l a) s
theorem Bf{s:Hp}{l:List Int}{j:Nat}{a:Int}(h:l[j]?=some a):Zr s l (j+1)=Yi (Zr s l j) l a:=by
 unfold Zr
 rw[QV,h,Yu,List.foldl_append]
 rfl
def SZ(l:List Int)(o:Ob):Prop:=Cnd l o→∀(j:Nat)(r:Int),o.refs[j]?=some r→Jh o.kd j=false→r=0
theorem Ggi(l:List Int)(o:Ob):SZ l (zA o):=fun _ j r hr hs=>by
 have h1:(zA o).refs[j]?=(o.refs[j]?).map fun r=>if j<o.refs.length∧Jh o.kd j=false then 0 else r:=K6 _ _ _ _
 rw[h1]at hr
 cases e:o.refs[j]? with
 |none=>rw[e]at hr;cases hr
 |some y=>
  rw[e,Option.map_some,if_pos ⟨Gf e,hs⟩]at hr
  exact(Option.some.inj hr).symm
theorem YG{kd:Nat}(h:kd=1∨kd=2):Jh kd 0=false:=by rcases h with rfl|rfl<;>rfl
theorem Gms{l:List Int}{o:Ob}(h:Cnd l o):Cnd l (zA o):=⟨h.1,fun h2=>by
 have h1:(zA o).refs[0]?=(o.refs[0]?).map fun r=>if 0<o.refs.length∧Jh o.kd (0:Nat)=false then 0 else r:=K6 _ _ _ _
 rw[WE,h1]at h2
 cases e:o.refs[0]? with
 |none=>rw[e]at h2;exact h2.1 rfl
 |some y=>
  rw[e,Option.map_some,if_pos ⟨Gf e,YG h.1⟩]at h2
  exact h2.1 rfl⟩
def Cz(l:List Int)(dn:Prop)(o o':Ob):Prop:=(o'=o∨(Cnd l o∧o'=zA o))∧(dn→Cnd l o→o'=zA o)
theorem GgN(s:Hp)(l:List Int)(b a:Int):(Yi s l b).obj a=s.obj a∨∃o,s.obj b=some o∧a=b∧Cnd l o∧(Yi s l b).obj a=some (zA o):=by
 classical
 unfold Yi
 cases e:s.obj b with
 |none=>exact .inl rfl
 |some o=>
  dsimp only
  split
  ·rename_i c
   rw[Hp.IU (fun x _ _=>Ei x)]
   obtain⟨q1,q2⟩:=Hp.GV e
   by_cases ca:a=b
   ·right
    subst ca
    refine⟨o,rfl,rfl,c,?_⟩
    rw[e]
    simp[Km]
   ·left
    cases e2:s.obj a with
    |none=>rfl
    |some o2=>
     obtain⟨r1,r2⟩:=Hp.GV e2
     simp only[Option.map_some,Km,GA]
     rw[if_neg oM]
  ·exact .inl rfl
theorem MB(s:Hp)(l:List Int):∀{j:Nat},j≤l.length→∀a o,s.obj a=some o→∃o',(Zr s l j).obj a=some o'∧Cz l (a∈l.take j) o o':=by
 intro j
 induction j with
 |zero=>intro _ a o h;exact⟨o,h,.inl rfl,fun h=>by simp at h⟩
 |succ j ih=>
  intro hj a o ho
  obtain⟨o',h1,h2,h3⟩:=ih oM a o ho
  have hb:l[j]?=some l[j]:=JG oM
  rw[Bf hb]
  have hm:a∈l.take (j+1)↔a∈l.take j∨a=l[j]:=by
   rw[QV,hb,Yu,NV,Bz]
  rcases GgN (Zr s l j) l l[j] a with q|⟨o2,q1,q2,q3,q4⟩
  ·rw[q]
   refine⟨o',h1,h2,fun hd hc=>?_⟩
   rcases hm.1 hd with hd|hd
   ·exact h3 hd hc
   ·
    have e:(Yi (Zr s l j) l l[j]).obj a=some o':=q.trans h1
    rcases h2 with h2|h2
    ·rw[←hd]at e
     unfold Yi at e
     rw[h1]at e
     dsimp only at e
     rw[h2]at e
     rw[if_pos hc,Hp.IU (fun x _ _=>Ei x),h1,h2]at e
     simp[Km]at e
     exact h2.trans e.symm
    ·exact h2.2
  ·rw[q4]
   rw[←q2,h1]at q1
   simp only[GA]at q1
   subst q1
   rcases h2 with h2|⟨h2,h4⟩
   ·subst h2
    exact⟨_,rfl,.inr ⟨q3,rfl⟩,fun _ _=>rfl⟩
   ·refine⟨_,rfl,.inr ⟨h2,?_⟩,fun _ _=>?_⟩<;>rw[h4,Gke]
theorem Gio{s:Hp}(k:s.Ok)(l:List Int)(a:Int):(Yi s l a).Ok∧(∀x,(Yi s l a).has x=s.has x):=by
 classical
 unfold Yi
 split
 ·split
  ·exact⟨k.upd fun x _ _=>Ei x,Hp.Gdo fun x _ _=>Ei x⟩
  ·exact⟨k,fun _=>rfl⟩
 ·exact⟨k,fun _=>rfl⟩
theorem GhZ{s:Hp}{R:Rt}(h:E_ s R)(l:List Int)(a:Int):E_ (Yi s l a) R:=by
 classical
 unfold Yi
 split
 ·split
  ·refine h.upd (fun x _ _=>Ei x) fun x hx y hy=>?_
   obtain⟨i,hi⟩:=List.mem_iff_getElem?.1 hy
   have h1:(zA x).refs[i]?=(x.refs[i]?).map fun r=>if i<x.refs.length∧Jh x.kd i=false then 0 else r:=K6 _ _ _ _
   grind
  ·exact h
 ·exact h
theorem IX{s:Hp}(k:s.Ok)(l:List Int):∀{j:Nat},j≤l.length→(Zr s l j).Ok∧∀x,(Zr s l j).has x=s.has x:=by
 intro j
 induction j with
 |zero=>intro _;exact⟨k,fun _=>rfl⟩
 |succ j ih=>
  intro hj
  obtain⟨h1,h2⟩:=ih oM
  rw[Bf (JG oM)]
  obtain⟨q1,q2⟩:=Gio h1 l l[j]
  exact⟨q1,fun x=>by rw[q2,h2]⟩
theorem GaK{s:Hp}{R:Rt}(h:E_ s R)(l:List Int):∀{j:Nat},j≤l.length→E_ (Zr s l j) R:=by
 intro j
 induction j with
 |zero=>intro _;exact h
 |succ j ih=>
  intro hj
  rw[Bf (JG oM)]
  exact GhZ (ih oM) l _
theorem GdR{o:Ob}{j:Nat}(h:Jh o.kd j=true):(zA o).refs[j]?=o.refs[j]?:=by
 have h1:(zA o).refs[j]?=(o.refs[j]?).map fun r=>if j<o.refs.length∧Jh o.kd j=false then 0 else r:=K6 _ _ _ _
 grind
theorem Cz.kd{l:List Int}{dn:Prop}{o o':Ob}(h:Cz l dn o o'):o'.kd=o.kd∧o'.refs.length=o.refs.length:=by
 rcases h.1 with h|⟨-,h⟩
 ·rw[h];exact⟨rfl,rfl⟩
 ·rw[h];exact⟨rfl,Va _ _ _⟩
theorem Cz.strong{l:List Int}{dn:Prop}{o o':Ob}(h:Cz l dn o o'){j:Nat}(hs:Jh o.kd j=true):o'.refs[j]?=o.refs[j]?:=by
 rcases h.1 with h|⟨-,h⟩
 ·rw[h]
 ·rw[h];exact GdR hs
theorem Cz.same{l:List Int}{dn:Prop}{o o':Ob}(h:Cz l dn o o')(hn:¬Cnd l o):o'=o:=by
 rcases h.1 with h|⟨h,-⟩
 ·exact h
 ·exact absurd h hn
theorem GfO{s:Hp}(k:s.Ok)(h0:s.has 0=false){st:Int→Prop}{l:List Int}(hl:∀x,x∈l↔Kp s st true x)(x:Int):Kp (Zr s l l.length) st true x↔Kp s st true x:=by
 obtain⟨-,hh⟩:=IX k l (Nat.le_refl l.length)
 have VN:=fun a o h=>MB s l (Nat.le_refl l.length) a o h
 have nz:∀{c:Int}{o:Ob},o.refs[0]?=some c→Kp s st true c→¬Cnd l o:=fun{c o} h1 h2 h3=>by
  have e:o.refs.getD 0 0=c:=by grind
  refine h3.2 ⟨fun e2=>?_,by rw[e];exact(hl c).2 h2⟩
  have h4:=h2.has
  rw[←e,e2,h0]at h4
  cases h4
 constructor
 ·intro h
  induction h with
  |start a1 a2=>exact .start a1 (by rw[←hh];exact a2)
  |@ref a b o' j _ a2 a3 a4 a5 ih=>
   obtain⟨o,ho⟩:=Hp.J2.1 ih.has
   obtain⟨o2,q1,q2⟩:=VN a o ho
   rw[a2]at q1
   simp only[GA]at q1
   subst q1
   rw[q2.kd.1]at a4
   rw[q2.strong a4]at a3
   exact .ref ih ho a3 a4 (by rw[←hh];exact a5)
  |@pair a b c o' _ a2 a3 a4 a5 a6 a7 a8 ih1 ih2=>
   obtain⟨o,ho⟩:=Hp.J2.1 ih1.has
   obtain⟨o2,q1,q2⟩:=VN a o ho
   rw[a3]at q1
   simp only[GA]at q1
   subst q1
   have e:o'=o:=by
    rcases q2.1 with h|⟨h,h2⟩
    ·exact h
    ·exfalso
     rw[h2]at a5
     have:=Ggi l o (Gms h) 0 c a5 (YG h.1)
     have hc:=ih2.has
     rw[this,h0]at hc
     cases hc
   subst e
   exact .pair rfl ih1 ho a4 a5 ih2 a7 (by rw[←hh];exact a8)
 ·intro h
  induction h with
  |start a1 a2=>exact .start a1 (by rw[hh];exact a2)
  |@ref a b o j _ a2 a3 a4 a5 ih=>
   obtain⟨o',q1,q2⟩:=VN a o a2
   exact .ref ih q1 (by rw[q2.strong a4];exact a3) (by rw[q2.kd.1];exact a4) (by rw[hh];exact a5)
  |@pair a b c o _ a2 a3 a4 a5 a6 a7 a8 ih1 ih2=>
   obtain⟨o',q1,q2⟩:=VN a o a3
   have e:=q2.same (nz a5 a6)
   subst e
   exact .pair rfl ih1 q1 a4 a5 ih2 a7 (by rw[hh];exact a8)
theorem GfD{s:Hp}(l:List Int){a:Int}(ha:a∈l){o:Ob}(ho:s.obj a=some o):∃o',(Zr s l l.length).obj a=some o'∧SZ l o'∧o'.kd=o.kd∧o'.refs.length=o.refs.length:=by
 obtain⟨o',q1,q2⟩:=MB s l (Nat.le_refl l.length) a o ho
 refine⟨o',q1,?_,q2.kd⟩
 by_cases c:Cnd l o
 ·rw[q2.2 (by grind) c]
  exact Ggi l o
 ·rw[q2.same c]
  exact fun h=>absurd h c
theorem Cz.sz{l:List Int}{dn:Prop}{o o':Ob}(h:Cz l dn o o')(hs:SZ l o):SZ l o':=by
 rcases h.1 with h|⟨-,h⟩
 ·rw[h];exact hs
 ·rw[h];exact Ggi l o
end Go.Cs
namespace Go.Cs.Tryz
open Go Go.Cs A
def C51:Gl:=⟨13,0,T [nb 3 false] (T [l 7 1 1,m 8 0,q2 9 52 7 8,m 6 9,ex 10 6 0,ex 11 6 1,m 4 10,m 5 11] (Q [m 12 5,m 3 12])),[r 3]⟩
theorem c51:P 51=some C51:=by kernel_rfl
abbrev ED:Gq:=T [b 45 .lss 44 43] (S (J 45 (X 0)) (S (B 1 (T [m 46 44,m 12 46] (T [m 48 0,m 49 1,m 50 12,q3 51 76 48 49 50,m 47 51,ex 52 47 0,ex 53 47 1,m 13 52,m 14 53] (T [m 54 13,bk 55 .neq 54 0,m 56 55,gt 56 (f 57 2 7),gt 56 (l 58 1 57),gt 56 (m 59 12),gt 56 (q2 60 142 58 59),an 61 56 60] (I 61 (T [m 62 0,m 63 1,m 64 12,ca 65 122 [t 62,t 63,t 64,k 0]] (R [m 66 11,bk 67 .add 66 1,m 11 67]))))))) (R [bk 68 .add 44 1,m 44 68])))
def C53:Gl:=⟨70,0,T [n 6 0] (T [m 16 0,m 17 1,q2 18 75 16 17,m 15 18,ex 19 15 0,ex 20 15 1,e 7 (.new [i 0,i 0,i 0]),st 3 7 19,m 8 20] (S (T [f 21 2 7,l 22 1 21,bk 23 .neq 22 1,m 24 23,gt 24 (f 25 2 7),gt 24 (l 26 1 25),gt 24 (bk 27 .neq 26 2),an 28 24 27] (I 28 (Q [n 6 0]))) (S (T [m 30 0,m 31 1,ca 32 76 [t 30,t 31,k 0],m 29 32,ex 33 29 0,ex 34 29 1,m 9 33,m 10 34] (T [m 35 9,bk 36 .neq 35 0,m 37 36,gt 37 (m 38 2),gt 37 (m 39 9),gt 37 (e 40 (.N8 (t 38) [t 39] [(304,"dustcart/alloc.place",335),(305,"dustcart/alloc.place",340),(306,"dustcart/alloc.place",348),(307,"dustcart/alloc.place",349),(308,"dustcart/alloc.place",353)])),an 41 37 40] (I 41 (Q [n 6 0])))) (T [n 11 0] (S (T [f 42 0 7,l 43 1 42,n 44 0] (B 0 (W ED))) (Q [m 69 11,m 6 69])))))),[r 6]⟩
theorem c53:P 53=some C53:=by kernel_rfl
end Go.Cs.Tryz
namespace Go.Cs
open Go
theorem Hp.Lo.word{s:Hp}(h:s.Lo){w:Nat}(hw:w<64):s.word w=0:=by
 unfold Hp.word
 have e:s.owner w=none:=by
  unfold Hp.owner
  rw[List.find?_eq_none]
  intro x hx e
  have:=h.2 x hx
  grind
 rw[e]
theorem PH.sep{H:Gb}{hb:Nat}{s:Hp}{L:G6}(p:PH H hb s L)(k:s.Ok)(lo:s.Lo){l:List Int}(hs:ZC l){b:Nat}(h:H[b]?=some ⟨ints l,.rw,1⟩):b∉L.all hb:=by
 intro hb'
 have side:∀{a c n:Nat}{f:Nat→Bool},Side H a c n f→H[c]?=some ⟨ints l,.rw,1⟩→False:=fun{a c n f} sd e=>by
  obtain⟨ws,w1,-,w2,-⟩:=sd.ws
  rw[w2]at e
  simp only[GA,JD.mk.injEq,and_true]at e
  have hp:=sd.pos
  have h0:0<ws.length:=by rw[w1];unfold Vy;omega
  have e0:=congrArg (fun r=>r[0]?) e
  simp only[K4,JG h0,ints,Option.map_some]at e0
  grind
 obtain⟨l1,h1,-⟩:=p.Qh
 obtain⟨l2,h2,-⟩:=p.fwd
 simp only[G6.all,List.mem_cons,List.not_mem_nil,or_false]at hb'
 rcases hb' with rfl|rfl|rfl|rfl|rfl|rfl|rfl|rfl|rfl
 ·rw[p.top]at h;simp at h
 ·rw[p.blk]at h;simp at h
 ·rw[p.wrd]at h
  simp only[GA,JD.mk.injEq,and_true]at h
  have hnb:=k.nb
  have hnw:s.nw=64*s.blk.length:=rfl
  have e:=fun(i:Nat)=>congrArg (fun r=>r[i]?) h
  have el:∀i:Nat,i<64→l[i]?=some 0:=fun i hi=>by
   have:=e i
   simp only[K4,ints]at this
   rw[Sw oM,Option.map_some,lo.word hi]at this
   grind
  have:=Nf (r:=fun a b:Int=>a<b) hs (i:=0) (j:=1) oM (el 0 oM) (el 1 oM)
  omega
 ·rw[p.sta.st]at h;simp at h
 ·exact side p.sta h
 ·rw[p.pin.st]at h;simp at h
 ·exact side p.pin h
 ·rw[h1]at h;simp at h
 ·rw[h2]at h;simp at h
theorem LI.apart{H H':Gb}{hb:Nat}{s:Hp}{L:G6}{w:CV}{l:List Int}(h:LI H w l)(p:PH H hb s L)(k:s.Ok)(lo:s.Lo)(hs:ZC l)(g:Keeps H H' (·∈L.all hb)):LI H' w l:=by
 rcases h with h|⟨b,tl,h1,h2,h3,h4⟩
 ·exact .inl h
 ·exact .inr ⟨b,tl,h1,h2,by rw[g.keep b (Gf h3) (p.sep k lo hs h3),h3],h4⟩
theorem E_.lo{s:Hp}{R:Rt}(h:E_ s R):s.Lo:=h.2.2
end Go.Cs
namespace Go.Cs.Tryz
open Go Go.Cs
section
variable {H : Gb} {hb : Nat} {s : Hp} {L : G6}
theorem Gba{cb:Nat}{w:CV}{l:List Int}(hcb:H[cb]?=some ⟨[w],.rw,0⟩) (h:LI H w l) (hs:ZC l) (hl:l.length≤100000) (x:Int):run P 51 [.i x,.ptr cb 0] H=some (.bool (decide (x∈l)),H):=by
 obtain⟨i,h1⟩:=Br h hs hl x
 rw[Gi c51 _ _ sM]
 exact W0
theorem Yq(k:s.Ok)(lo:s.Lo)(p:PH H hb s L){a:Int}{o:Ob}(ho:s.obj a=some o){c7:Nat}(t7:H[c7]?=some ⟨Jb o.refs.length o.data.length o.kd,.rw,0⟩) (h7n:c7∉L.all hb)
  {E0:Env} (h0:E0 0=.ptr hb 0) (h1:E0 1=.i a) (h7:E0 7=.ptr c7 0) (h11:E0 11=.i 0) (h43:E0 43=.i o.refs.length) (h44:E0 44=.i 0) {r:Option (CX×Env×Gb)} (hr:den P (.loop ED) E0 H=r):
  ∃E' H' n,r=some (.exit 0,E',H')∧Keeps H H' (·∈L.all hb)∧PH H' hb (s.upd o.addr zA) L∧E' 11=.i (n:Nat)∧n≤15∧((∀(j:Nat)(r:Int),o.refs[j]?=some r→Jh o.kd j=false→r=0)→n=0):=by
 obtain⟨hom,hoa⟩:=Hp.GV ho
 have hok:=k.ob o hom
 have hnr:=hok.nr
 have hkd:=hok.kd.1
 have hfi:=hok.fits
 have hnb:=k.nb
 have hnw:s.nw=64*s.blk.length:=rfl
 have uniq:∀x∈s.objs,x.addr=o.addr→x=o:=fun x hx hxa=>by
  have e1:=k.obj hx
  grind
 have zAo:s.upd o.addr (zf o.refs.length)=s.upd o.addr zA:=Bd fun x hx hxa=>by rw[uniq x hx hxa];rfl
 obtain⟨x',E',H',e,-,⟨rfl,g,pp,n,q1,q2,q3⟩,fr⟩:=Gs (p:=P) (c:=ED) (E0:=E0) (H0:=H)
  (fun q E H'=>∃(j n:Nat),E 44=.i j∧j≤o.refs.length∧q=o.refs.length-j∧Keeps H H' (·∈L.all hb)∧PH H' hb (s.upd o.addr (zf j)) L∧E 11=.i n∧n≤j∧((∀(j:Nat)(r:Int),o.refs[j]?=some r→Jh o.kd j=false→r=0)→n=0))
  (fun x' E' H'=>x'=.exit 0∧Keeps H H' (·∈L.all hb)∧PH H' hb (s.upd o.addr zA) L∧∃n:Nat,E' 11=.i n∧n≤15∧((∀(j:Nat)(r:Int),o.refs[j]?=some r→Jh o.kd j=false→r=0)→n=0)) (by
   rintro q E H' hE ⟨j,n,e44,hj,rfl,g,pj,e11,hn,hz⟩
   have e0:=(hE 0 dK).trans h0
   have e1:=(hE 1 dK).trans h1
   have e7:=(hE 7 dK).trans h7
   have e43:=(hE 43 dK).trans h43
   have t7':H'[c7]?=_:=(g.keep c7 (Gf t7) h7n).trans t7
   have kj:(s.upd o.addr (zf j)).Ok:=k.upd fun x _ _=>Gc1 j x
   by_cases c:j<o.refs.length
   ·have c':decide ((j:Int)<(o.refs.length:Int))=true:=G7 oM
    obtain⟨r,hr⟩:∃r,o.refs[j]?=some r:=⟨_,JG c⟩
    have Yv:(s.upd o.addr (zf j)).obj a=some (zf j o):=by
     rw[Hp.IU (fun x _ _=>Gc1 j x),ho]
     simp[Km]
    have hre:((s.upd o.addr (zf j)).refsOf a)[j]?=some r:=by
     unfold Hp.refsOf
     rw[Yv]
     show(Ak o.kd j o.refs)[j]?=some r
     rw[K6,hr];simp
    obtain⟨X,b1,g1⟩:=KE pj kj a j oM
    rw[Hp.U7 hre]at b1
    unfold Q9 at b1
    have pX:=pj.gr g1
    have gX:Keeps H' X (·∈L.all hb):=g1.weaken fun _ h=>h.elim
    have t7X:=g1.get t7'
    have w1:IntKind.i64.wrap ((j:Int)+1)=((j+1:Nat):Int):=Gh oM
    suffices fin:∃(E':Env)(H2:Gb)(n2:Nat),den P ED E H'=some (.normal,E',H2)∧E' 44=.i ((j+1:Nat):Int)∧Keeps H' H2 (·∈L.all hb)∧PH H2 hb (s.upd o.addr (zf (j+1))) L∧E' 11=.i n2∧n2≤j+1∧((∀(j:Nat)(r:Int),o.refs[j]?=some r→Jh o.kd j=false→r=0)→n2=0)by
     obtain⟨E',H2,n2,f1,f2,f3,f4,f5,f6,f7⟩:=fin
     exact Gp f1 (k':=o.refs.length-(j+1)) oM ⟨j+1,n2,f2,oM,rfl,g.trans f3,f4,f5,f6,f7⟩
    unfold Jb at t7X
    have same:(r=0∨Jh o.kd j=true)→s.upd o.addr (zf (j+1))=s.upd o.addr (zf j):=fun h=>Bd fun x hx hxa=>by
     rw[uniq x hx hxa]
     unfold zf
     rw[Ga_ hr h]
    by_cases hr0:r=0
    ·have Goa:(r != 0)=false:=by rw[hr0];rfl
     refine W8 e0 e1 e43 e44 c' b1 Goa w1 ?_
     exact⟨_,_,n,rfl,uA,gX,by rw[same (.inl hr0)];exact pX,by simp[Gg,e11],oM,hz⟩
    ·have Goa:(r != 0)=true:=by simpa using hr0
     have hso:=Mf (H:=X) (kd:=o.kd) (i:=j) hkd
     cases hst:Jh o.kd j with
     |true=>
      rw[hst]at hso
      refine GH ?_
      exact⟨_,_,n,rfl,uA,gX,by rw[same (.inr hst)];exact pX,by simp[Gg,e11],oM,hz⟩
     |false=>
      rw[hst]at hso
      obtain⟨X2,d1,d2,d3⟩:=KZ pX kj a j 0 oM oM
      have hset:(s.upd o.addr (zf j)).setRef a j 0=(s.upd o.addr (zf (j+1)),0):=by
       unfold Hp.setRef
       rw[Yv]
       dsimp only
       have hl2:(zf j o).refs.length=o.refs.length:=Va _ _ _
       rw[if_pos (by rw[hl2];omega),if_pos (.inl rfl),K_]
       congr 1
       show(s.upd o.addr (zf j)).upd o.addr _=_
       rw[Gjc (f:=zf j) fun x=>rfl]
       refine Bd fun x hx hxa=>?_
       rw[uniq x hx hxa]
       unfold zf
       dsimp only
       rw[Gd2 c hst]
      rw[hset]at d1 d3
      have w2:IntKind.i64.wrap ((n:Int)+1)=((n+1:Nat):Int):=Gh oM
      refine GH ?_
      exact⟨_,_,n+1,rfl,uA,gX.trans d2,d3,uA,oM,fun h=>absurd (h j r hr hst) hr0⟩
   ·have c':decide ((j:Int)<(o.refs.length:Int))=false:=G5 oM
    have hjj:j=o.refs.length:=by omega
    rw[hjj,zAo]at pj
    apply Gj (x:=.exit 0)
    ·refine GH ?_
     rfl
    ·simp
    ·exact⟨rfl,g,pj,n,by simp[Gg,e11],oM,hz⟩) _ ⟨0,0,h44,oM,rfl,Keeps.refl _ _,by
     rw[GkP fun x _ _=>by unfold zf;rw[Gb6]];exact p,h11,Nat.le_refl _,fun _=>rfl⟩
 grind
theorem P8(k:s.Ok)(lo:s.Lo)(p:PH H hb s L){a:Int}(hh:s.has a=true){cb:Nat}{w:CV}{l:List Int}(hcb:H[cb]?=some ⟨[w],.rw,0⟩) (h:LI H w l) (hs:ZC l) (hl:l.length≤100000):
  ∃H' n,run P 53 [.ptr hb 0,.i a,.func 51 [.ptr cb 0]] H=some (.i (n:Nat),H')∧Keeps H H' (·∈L.all hb)∧PH H' hb (Yi s l a) L∧n≤15∧((∀o,s.obj a=some o→SZ l o)→n=0):=by
 classical
 obtain⟨o,ho⟩:=Hp.J2.1 hh
 obtain⟨hom,hoa⟩:=Hp.GV ho
 have hok:=k.ob o hom
 have hlt:=k.has_lt hh
 have ec:Yi s l a=if Cnd l o then s.upd o.addr zA else s:=by unfold Yi;rw[ho]
 obtain⟨X,h1,g1⟩:=NJ p k a oM
 have hsv:s.JO a=(Jb o.refs.length o.data.length o.kd,0):=by unfold Hp.JO;rw[ho]
 rw[hsv]at h1
 obtain⟨X1,hX1⟩:∃X1:Gb,X1=X++[⟨Jb o.refs.length o.data.length o.kd,.rw,0⟩]:=⟨_,rfl⟩
 have g2:Gr X X1:=by rw[hX1];exact Gr.app _ _
 have t1:X1[X.length]?=some ⟨Jb o.refs.length o.data.length o.kd,.rw,0⟩:=by rw[hX1];simp
 have g12:Gr H X1:=g1.trans g2
 have p1:=p.gr g12
 have hno:X.length∉L.all hb:=fun h=>by have:=p.lt _ h;have:=g1.len;omega
 have kg:Keeps H X1 (·∈L.all hb):=g12.weaken fun _ h=>h.elim
 by_cases c1:o.kd=1∨o.kd=2
 ·have GsX:0<o.refs.length:=by rcases c1 with h|h;exact hok.kd.2.1 h;exact JI oM (hok.kd.2.2 h)
  have hr0:o.refs[0]?=some (o.refs.getD 0 0):=by grind
  obtain⟨X2,h2,g3⟩:=KE p1 k a 0 oM
  have e0:=Hp.U7 (s:=s) (a:=a) (j:=0) (r:=o.refs.getD 0 0) (by unfold Hp.refsOf;rw[ho];exact hr0)
  rw[show(((0:Nat):Int))=0 from rfl]at e0
  rw[e0]at h2
  unfold Q9 at h2
  have t2:=g3.get t1
  have g23:Gr H X2:=g12.trans g3
  have kg2:Keeps H X2 (·∈L.all hb):=g23.weaken fun _ h=>h.elim
  have hck:=Gba (g23.get hcb) (h.gr g23) hs hl (o.refs.getD 0 0)
  have k12:((o.kd:Int) != 1&&(o.kd:Int) != 2)=false:=by rcases c1 with h|h<;>rw[h]<;>rfl
  have hkk:((o.kd:Int) != 1)=false∨(((o.kd:Int) != 1)=true∧((o.kd:Int) != 2)=false):=by
   grind
  by_cases cn:o.refs.getD 0 0≠0∧o.refs.getD 0 0∈l
  ·have hn:¬Cnd l o:=fun h=>h.2 cn
   rw[ec,if_neg hn]
   rw[G7 cn.2]at hck
   have c0:(o.refs.getD 0 0 != 0)=true:=by simpa using cn.1
   refine⟨X2,0,?_,kg2,p1.gr g3,oM,fun _=>rfl⟩
   rw[Gi c53 _ _ sM]
   unfold Jb at h1 hX1 t1 t2
   refine GH ?_
   rw[←hX1]
   rcases hkk with hkk|⟨hkk,WU⟩
   ·exact V6 hkk h2 c0 @Ja @JH hck
    try rfl
   ·exact V8 t1 hkk WU h2 c0 @Ja @JH hck
    try rfl
  ·have hc:Cnd l o:=⟨c1,cn⟩
   rw[ec,if_pos hc]
   have hcase:(o.refs.getD 0 0 != 0)=false∨((o.refs.getD 0 0 != 0)=true∧decide (o.refs.getD 0 0∈l)=false):=by
    grind
   suffices fin:∃H' n,run P 53 [.ptr hb 0,.i a,.func 51 [.ptr cb 0]] H=some (.i (n:Nat),H')∧Keeps X2 H' (·∈L.all hb)∧PH H' hb (s.upd o.addr zA) L∧n≤15∧((∀(j:Nat)(r:Int),o.refs[j]?=some r→Jh o.kd j=false→r=0)→n=0)by
    obtain⟨H',n,f1,f2,f3,f4,f5⟩:=fin
    exact⟨H',n,f1,kg2.trans f2,f3,f4,fun h=>f5 (h o ho hc)⟩
   rw[Gi c53 _ _ sM]
   have t2s:=t2
   unfold Jb at h1 hX1 t1 t2
   have key:∀{E:Env},E 0=.ptr hb 0→E 1=.i a→E 7=.ptr X.length 0→E 11=.i 0→E 43=.i o.refs.length→E 44=.i 0→∃E' H' n,den P (.loop ED) E X2=some (.exit 0,E',H')∧Keeps X2 H' (·∈L.all hb)∧PH H' hb (s.upd o.addr zA) L∧E' 11=.i (n:Nat)∧n≤15∧((∀(j:Nat)(r:Int),o.refs[j]?=some r→Jh o.kd j=false→r=0)→n=0):=
    fun{E} z0 z1 z7 z11 z43 z44=>Yq k lo (p1.gr g3) ho t2s hno z0 z1 z7 z11 z43 z44 rfl
   rcases hkk with hkk|⟨hkk,WU⟩<;>rcases hcase with c0|⟨c0,c2⟩
   ·refine W1 h1 ?_
    rw[←hX1]
    refine W4 hkk h2 c0 t2 ?_
    generalize hr:den P (.loop ED) _ _=r
    obtain⟨E',H',n,f1,f2,f3,f4,f5,f6⟩:=Yq k lo (p1.gr g3) ho t2s hno uA uA uA uA uA uA hr
    rw[f1]
    refine GH ?_
    exact⟨_,n,rfl,f2,f3,f5,f6⟩
   ·rw[c2]at hck
    refine W1 h1 ?_
    rw[←hX1]
    refine W7 hkk h2 c0 t2 @Ja @JH hck ?_
    generalize hr:den P (.loop ED) _ _=r
    obtain⟨E',H',n,f1,f2,f3,f4,f5,f6⟩:=Yq k lo (p1.gr g3) ho t2s hno uA uA uA uA uA uA hr
    rw[f1]
    refine GH ?_
    exact⟨_,n,rfl,f2,f3,f5,f6⟩
   ·refine W1 h1 ?_
    rw[←hX1]
    refine W6 t1 hkk WU h2 c0 t2 ?_
    generalize hr:den P (.loop ED) _ _=r
    obtain⟨E',H',n,f1,f2,f3,f4,f5,f6⟩:=Yq k lo (p1.gr g3) ho t2s hno uA uA uA uA uA uA hr
    rw[f1]
    refine GH ?_
    exact⟨_,n,rfl,f2,f3,f5,f6⟩
   ·rw[c2]at hck
    refine W1 h1 ?_
    rw[←hX1]
    refine W9 t1 hkk WU h2 c0 t2 @Ja @JH hck ?_
    generalize hr:den P (.loop ED) _ _=r
    obtain⟨E',H',n,f1,f2,f3,f4,f5,f6⟩:=Yq k lo (p1.gr g3) ho t2s hno uA uA uA uA uA uA hr
    rw[f1]
    refine GH ?_
    exact⟨_,n,rfl,f2,f3,f5,f6⟩
 ·have hn:¬Cnd l o:=fun h=>c1 h.1
  rw[ec,if_neg hn]
  have n1:((o.kd:Int) != 1)=true:=bne_iff_ne.2 oM
  have n2:((o.kd:Int) != 2)=true:=bne_iff_ne.2 oM
  refine⟨X1,0,?_,kg,p1,oM,fun _=>rfl⟩
  rw[Gi c53 _ _ sM]
  unfold Jb at h1 hX1 t1
  refine W1 h1 ?_
  rw[←hX1]
  try rfl
end
end Go.Cs.Tryz
namespace Go.Cs.Tryz
open Go Go.Cs A
abbrev GcI:Gq:=T [b 44 .lss 43 42] (S (J 44 (X 2)) (S (B 3 (T [x 45 1 41 43,l 46 1 45,m 11 46] (R [m 47 9,m 48 0,m 49 11,m 50 8,q3 51 53 48 49 50,b 52 .add 47 51,m 9 52]))) (R [bk 53 .add 43 1,m 43 53])))
abbrev PY:Gq:=T [b 18 .lss 17 16] (S (J 18 (X 0)) (S (B 1 (T [m 19 17,x 20 1 15 17,l 21 1 20,m 6 19,m 7 21] (T [m 22 0,m 23 7,q2 24 50 22 23,no 25 24,m 26 25,gf 26 (m 27 6),gf 26 (bk 28 .gtr 27 0),gf 26 (m 29 28),gt 29 (l 30 1 3),gt 29 (m 31 6),gt 29 (bk 32 .sub 31 1),gt 29 (x 33 1 30 32),gt 29 (l 34 1 33),gt 29 (m 35 7),gt 29 (b 36 .geq 34 35),gf 26 (an 37 29 36),or 38 26 37] (I 38 (Q [n 4 0,n 5 2]))))) (R [bk 39 .add 17 1,m 17 39])))
def C15:Gl:=⟨55,0,T [bo 3 1,n 4 0,n 5 0] (S (T [m 12 0,q1 13 49 12,bk 14 .leq 13 0] (I 14 (Q [n 4 0,n 5 1]))) (S (T [l 15 1 3,le 16 15,n 17 0] (B 0 (W PY))) (T [e 40 (.NI 51 [t 3]),m 8 40] (T [n 9 0] (S (T [l 41 1 3,le 42 41,n 43 0] (B 2 (W GcI))) (Q [m 54 9,m 4 54,n 5 0])))))),[r 4,r 5]⟩
theorem c15:P 15=some C15:=by kernel_rfl
end Go.Cs.Tryz
namespace Go.Cs.Tryz
open Go Go.Cs
section
variable {H : Gb} {hb : Nat} {s : Hp} {L : G6}
theorem Gg7(k:s.Ok)(p:PH H hb s L){cb:Nat}{w:CV}{l:List Int}(hcb:H[cb]?=some ⟨[w],.rw,0⟩) (h:LI H w l) (hs:ZC l) (hl:l.length≤100000) (hh:∀x∈l,s.has x=true)
  {E0:Env} (h0:E0 0=.ptr hb 0) (h3:E0 3=.ptr cb 0) (h15:E0 15=w) (h16:E0 16=.i l.length) (h17:E0 17=.i 0) {r:Option (CX×Env×Gb)} (hr:den P (.loop PY) E0 H=r):
  ∃E',r=some (.exit 0,E',H)∧∀t,t∉wr PY→E' t=E0 t:=by
 obtain⟨x',E',H',e,-,⟨rfl,rfl⟩,fr⟩:=Gs (p:=P) (c:=PY) (E0:=E0) (H0:=H)
  (fun q E H'=>H'=H∧∃j:Nat,E 17=.i j∧j≤l.length∧q=l.length-j)
  (fun x' E' H'=>x'=.exit 0∧H'=H) (by
   rintro q E H' hE ⟨rfl,j,e17,hj,rfl⟩
   have e0:=(hE 0 dK).trans h0
   have e3:=(hE 3 dK).trans h3
   have e15:=(hE 15 dK).trans h15
   have e16:=(hE 16 dK).trans h16
   by_cases c:j<l.length
   ·have c':decide ((j:Int)<(l.length:Int))=true:=G7 oM
    have hx:l[j]?=some l[j]:=JG c
    obtain⟨a,hae⟩:∃a,a=l[j]:=⟨_,rfl⟩
    rw[←hae]at hx
    have hha:=hh a (JV hx)
    have hlt:=k.has_lt hha
    obtain⟨b,f,i1,i2,i3⟩:=h.at hx
    have AZ:=i3 H' (Keeps.refl _ _)
    have h1:=KP p k a oM
    rw[hha]at h1
    have w1:IntKind.i64.wrap ((j:Int)+1)=((j+1:Nat):Int):=Gh oM
    suffices fin:∃E',den P PY E H'=some (.normal,E',H')∧E' 17=.i ((j+1:Nat):Int)by
     obtain⟨E',f1,f2⟩:=fin
     exact Gp f1 (k':=l.length-(j+1)) oM ⟨rfl,j+1,f2,oM,rfl⟩
    by_cases c0:j=0
    ·have c0':decide (0<(j:Int))=false:=G5 oM
     refine W10 e0 e15 e16 e17 c' i1 AZ h1 c0' w1 ?_
     exact⟨_,rfl,uA⟩
    ·have c0':decide (0<(j:Int))=true:=G7 oM
     have hy:l[j-1]?=some l[j-1]:=JG oM
     obtain⟨b2,f2,u1,u2,u3⟩:=h.at hy
     have u3':=u3 H' (Keeps.refl _ _)
     have wm:IntKind.i64.wrap ((j:Int)-1)=((j-1:Nat):Int):=by rw[Gh oM];omega
     have hlt2:=Nf (r:=fun a b:Int=>a<b) hs (i:=j-1) (j:=j) oM hy hx
     have c2:decide (a≤l[j-1])=false:=G5 oM
     refine W16 e0 e3 e15 e16 e17 c' i1 AZ h1 c0' hcb wm u1 u3' c2 w1 ?_
     exact⟨_,rfl,uA⟩
   ·have c':decide ((j:Int)<(l.length:Int))=false:=G5 oM
    apply Gj (x:=.exit 0)
    ·refine GH ?_
     rfl
    ·simp
    ·exact⟨rfl,rfl⟩) _ ⟨rfl,0,h17,oM,rfl⟩
 exact⟨E',hr.symm.trans e,fr⟩
theorem Ghd{R:Rt}(k:s.Ok)(hs:E_ s R)(p:PH H hb s L){cb:Nat}{w:CV}{l:List Int}(hcb:H[cb]?=some ⟨[w],.rw,0⟩) (hcn:cb∉L.all hb) (h:LI H w l) (hsr:ZC l) (hl:l.length≤100000) (hh:∀x∈l,s.has x=true)
  {E0:Env} (h0:E0 0=.ptr hb 0) (h8:E0 8=.func 51 [.ptr cb 0]) (h9:E0 9=.i 0) (h41:E0 41=w) (h42:E0 42=.i l.length) (h43:E0 43=.i 0) {r:Option (CX×Env×Gb)} (hr:den P (.loop GcI) E0 H=r):
  ∃E' H' n,r=some (.exit 2,E',H')∧Keeps H H' (·∈L.all hb)∧PH H' hb (Zr s l l.length) L∧E' 9=.i (n:Nat)∧((∀a∈l,∀o,s.obj a=some o→SZ l o)→n=0):=by
 obtain⟨x',E',H',e,-,⟨rfl,g,pp,n,q1,q2⟩,fr⟩:=Gs (p:=P) (c:=GcI) (E0:=E0) (H0:=H)
  (fun q E H'=>∃j n:Nat,E 43=.i j∧j≤l.length∧q=l.length-j∧Keeps H H' (·∈L.all hb)∧PH H' hb (Zr s l j) L∧LI H' w l∧E 9=.i n∧n≤15*j∧((∀a∈l,∀o,s.obj a=some o→SZ l o)→n=0))
  (fun x' E' H'=>x'=.exit 2∧Keeps H H' (·∈L.all hb)∧PH H' hb (Zr s l l.length) L∧∃n:Nat,E' 9=.i n∧((∀a∈l,∀o,s.obj a=some o→SZ l o)→n=0)) (by
   rintro q E H' hE ⟨j,n,e43,hj,rfl,g,pj,hj',e9,hn,hz⟩
   have e0:=(hE 0 dK).trans h0
   have e8:=(hE 8 dK).trans h8
   have e41:=(hE 41 dK).trans h41
   have e42:=(hE 42 dK).trans h42
   by_cases c:j<l.length
   ·have c':decide ((j:Int)<(l.length:Int))=true:=G7 oM
    have hx:l[j]?=some l[j]:=JG c
    obtain⟨a,hae⟩:∃a,a=l[j]:=⟨_,rfl⟩
    rw[←hae]at hx
    have hal:=JV hx
    have hha:=hh a hal
    obtain⟨b,f,i1,i2,i3⟩:=hj'.at hx
    have AZ:=i3 H' (Keeps.refl _ _)
    obtain⟨kj,Gsp⟩:=IX k l (j:=j) hj
    have sj:=GaK hs l (j:=j) hj
    obtain⟨H2,m,r1,g2,p2,m1,m2⟩:=P8 kj sj.lo pj (a:=a) (by rw[Gsp];exact hha) ((g.keep cb (Gf hcb) hcn).trans hcb) hj' hsr hl
    have w1:IntKind.i64.wrap ((j:Int)+1)=((j+1:Nat):Int):=Gh oM
    have w2:IntKind.i64.wrap ((n:Int)+(m:Int))=((n+m:Nat):Int):=Gh oM
    apply Gp (k':=l.length-(j+1))
    ·refine W12 e0 e8 e9 e41 e42 e43 c' i1 AZ r1 w1 w2 ?_
     rfl
    ·omega
    ·refine⟨j+1,n+m,uA,oM,rfl,g.trans g2,by rw[Bf hx];exact p2,hj'.apart pj kj sj.lo hsr g2,uA,oM,fun hall=>?_⟩
     rw[hz hall,m2 fun o' ho'=>?_]
     obtain⟨o,ho⟩:=Hp.J2.1 hha
     obtain⟨o2,q1,q2⟩:=MB s l hj a o ho
     rw[ho']at q1
     simp only[GA]at q1
     subst q1
     exact q2.sz (hall a hal o ho)
   ·have c':decide ((j:Int)<(l.length:Int))=false:=G5 oM
    have hjj:j=l.length:=by omega
    rw[hjj]at pj
    apply Gj (x:=.exit 2)
    ·refine GH ?_
     rfl
    ·simp
    ·exact⟨rfl,g,pj,n,by simp[Gg,e9],hz⟩) _ ⟨0,0,h43,oM,rfl,Keeps.refl _ _,p,h,h9,Nat.le_refl _,fun _=>rfl⟩
 grind
theorem Dh{R:Rt}(k:s.Ok)(hs:E_ s R)(p:PH H hb s L){w:CV}{l:List Int}(h:LI H w l)(hsr:ZC l)(hl:l.length≤100000)(hh:∀x∈l,s.has x=true):
  ∃H' n,run P 15 [.ptr hb 0,w] H=some (.Jk [.i (n:Nat),.i 0],H')∧Keeps H H' (·∈L.all hb)∧PH H' hb (Zr s l l.length) L∧LI H' w l∧((∀a∈l,∀o,s.obj a=some o→SZ l o)→n=0):=by
 obtain⟨X,hX⟩:∃X:Gb,X=H++[⟨[w],.rw,0⟩]:=⟨_,rfl⟩
 have gX:Gr H X:=by rw[hX];exact Gr.app _ _
 have tX:X[H.length]?=some ⟨[w],.rw,0⟩:=by rw[hX];simp
 have pX:=p.gr gX
 have Pn:=h.gr gX
 have hvl:=Pn.len X
 have hbl:=KA pX k
 have hnb:=k.nb
 have c1:decide ((s.blk.length:Int)≤0)=false:=G5 oM
 have hcn:H.length∉L.all hb:=fun h=>by have:=p.lt _ h;omega
 have hcl:cellsOf w=[w]:=by
  have:=At.leaf h
  cases w<;>first|rfl|cases this
 rw[Gi c15 _ _ sM]
 refine GH ?_
 rw[←hX]
 refine W4 hbl c1 tX hvl ?_
 generalize hr:den P (.loop PY) _ _=r
 obtain⟨E2,rfl,f2⟩:=Gg7 k pX tX Pn hsr hl hh uA uA uA uA uA hr
 have b0:=f2 0 dK
 have b3:=f2 3 dK
 simp only[Gg,Nat.reduceEqDiff,↓reduceIte]at b0 b3
 refine W3 b3 tX hvl ?_
 generalize hr:den P (.loop GcI) _ _=r
 obtain⟨E3,H3,n,rfl,g3,p3,a9,hz⟩:=Ghd k hs pX tX hcn Pn hsr hl hh (by simp[Gg,b0]) uA uA uA uA uA hr
 refine GH ?_
 exact⟨H3,n,rfl,(gX.weaken fun _ h=>h.elim).trans g3,p3,Pn.apart pX k hs.lo hsr g3,hz⟩
end
end Go.Cs.Tryz
namespace Go.Cs.Tryz
open Go Go.Cs A
abbrev Geq:Gq:=S (T [m 95 14,m 96 4,le 97 96,b 98 .lss 95 97] (J 98 (X 0))) (S (B 1 (S (D [⟨m 105 13,4,0,0⟩,⟨m 106 4,5,0,0⟩,⟨m 107 14,6,0,0⟩,⟨x 108 1 106 107,7,0,0⟩,⟨l 109 1 108,8,1,0⟩,⟨q2 110 22 105 109,9,3,0⟩,⟨m 101 13,0,0,0⟩,⟨z 102 101,1,0,0⟩,⟨f 103 1 102,2,0,0⟩,⟨l 104 1 103,3,1,0⟩,⟨x 111 8 104 110,10,0,1⟩,⟨lg 112 8 111,11,1,1⟩,⟨e 15 (.new [i 0,i 0,i 0,i 0,i 0,.Gc,.Gc,.bool false]),12,0,0⟩,⟨st 8 15 112,13,3,1⟩]) (T [f 113 2 15,f 114 2 113,l 115 1 114,bk 116 .eql 115 1,m 117 116,gf 117 (f 118 2 15),gf 117 (f 119 2 118),gf 117 (l 120 1 119),gf 117 (bk 121 .eql 120 2),or 122 117 121,m 123 122,gt 123 (f 124 5 15),gt 123 (l 125 1 124),gt 123 (e 126 (.index 1 (t 125) (k 0))),gt 123 (l 127 1 126),gt 123 (bk 128 .neq 127 0),an 129 123 128,m 130 129,gt 130 (m 131 4),gt 130 (f 132 5 15),gt 130 (l 133 1 132),gt 130 (e 134 (.index 1 (t 133) (k 0))),gt 130 (l 135 1 134),gt 130 (q2 136 23 131 135),gt 130 (no 137 136),an 138 130 137] (I 138 (Q [nb 2 false]))))) (R [m 99 14,bk 100 .add 99 1,m 14 100]))
def C5:Gl:=⟨163,0,T [bo 1 0,nb 2 false] (T [lg 17 7 1,q1 18 18 17,m 3 18] (S (T [m 19 3,e 20 (.eqv false 1 (t 19) (c .nilPtr))] (I 20 (Q [nb 2 false]))) (T [m 21 3,q1 22 19 21,m 4 22] (S (D [⟨m 24 3,0,0,0⟩,⟨z 25 24,1,0,0⟩,⟨f 26 0 25,2,0,0⟩,⟨l 27 1 26,3,1,0⟩,⟨m 28 3,4,0,0⟩,⟨z 29 28,5,0,0⟩,⟨f 30 1 29,6,0,0⟩,⟨l 31 1 30,7,1,0⟩,⟨q2 32 13 27 31,8,3,0⟩,⟨m 23 32,9,0,1⟩,⟨ex 33 23 0,10,0,1⟩,⟨ex 34 23 1,11,0,1⟩,⟨ex 35 23 2,12,0,1⟩,⟨m 5 33,13,0,1⟩,⟨m 6 34,14,0,1⟩,⟨m 7 35,15,0,1⟩]) (S (D [⟨m 37 3,0,0,0⟩,⟨z 38 37,1,0,0⟩,⟨f 39 0 38,2,0,0⟩,⟨l 40 1 39,3,1,0⟩,⟨m 41 3,4,0,0⟩,⟨z 42 41,5,0,0⟩,⟨f 43 1 42,6,0,0⟩,⟨l 44 1 43,7,1,0⟩,⟨q2 45 14 40 44,8,3,0⟩,⟨m 36 45,9,0,1⟩,⟨ex 46 36 0,10,0,1⟩,⟨ex 47 36 1,11,0,1⟩,⟨ex 48 36 2,12,0,1⟩,⟨m 8 46,13,0,1⟩,⟨m 9 47,14,0,1⟩,⟨m 10 48,15,0,1⟩]) (S (T [m 49 7,bk 50 .neq 49 0,m 51 50,gf 51 (m 52 10),gf 51 (bk 53 .neq 52 0),or 54 51 53,m 55 54,gf 55 (m 56 5),gf 55 (m 57 4),gf 55 (q2 58 20 56 57),gf 55 (no 59 58),or 60 55 59,m 61 60,gf 61 (m 62 8),gf 61 (m 63 4),gf 61 (q2 64 20 62 63),gf 61 (no 65 64),or 66 61 65,m 67 66,gf 67 (m 68 9),gf 67 (bk 69 .lss 68 0),or 70 67 69,m 71 70,gf 71 (m 72 6),gf 71 (bk 73 .eql 72 0),gf 71 (m 74 4),gf 71 (le 75 74),gf 71 (bk 76 .eql 75 0),gf 71 (e 77 (.eqv true 0 (t 73) (t 76))),or 78 71 77] (I 78 (Q [nb 2 false]))) (S (T [m 80 3,z 81 80,f 82 0 81,l 83 1 82,m 84 4,q2 85 15 83 84,m 79 85,ex 86 79 0,ex 87 79 1,m 11 86,m 12 87] (T [m 88 12,bk 89 .neq 88 0] (I 89 (Q [nb 2 false])))) (T [m 90 3,z 91 90,f 92 0 91,l 93 1 92,q1 94 21 93,m 13 94] (S (T [n 14 0] (B 0 (W Geq))) (T [m 140 3,z 141 140,f 142 0 141,l 143 1 142,m 144 4,q2 145 15 143 144,m 139 145,ex 146 139 0,ex 147 139 1,m 16 146,m 7 147] (Q [m 148 16,bk 149 .eql 148 0,m 150 149,gt 150 (m 151 7),gt 150 (bk 152 .eql 151 0),an 153 150 152,m 154 153,gt 154 (m 155 3),gt 154 (q1 156 19 155),gt 154 (m 157 4),gt 154 (q2 158 20 156 157),an 159 154 158,m 160 159,gt 160 (ca 161 10 []),an 162 160 161,m 2 162]))))))))))),[r 2]⟩
theorem c5:P 5=some C5:=by kernel_rfl
end Go.Cs.Tryz
namespace Go.Cs.Tryz
open Go Go.Cs
section
variable {H : Gb} {o : Tags} {q : Nat} {s : Hp} {LR : Qc}
theorem Gnh(m:JL o H q s LR)(k:s.Ok){w:CV}{l:List Int}(h:LI H w l)(hl:l.length≤100000)(hh:∀x∈l,s.has x=true)(hz:∀a∈l,∀x,s.obj a=some x→(x.kd=1∨x.kd=2)→x.refs.getD 0 0≠0→x.refs.getD 0 0∈l)
  {E0:Env}(h4:E0 4=w)(h13:E0 13=.ptr q 0)(h14:E0 14=.i 0){r:Option (CX×Env×Gb)}(hr:den P (.loop Geq) E0 H=r):
  ∃E' H',r=some (.exit 0,E',H')∧Gr H H'∧∀t,t∉wr Geq→E' t=E0 t:=by
 obtain⟨x',E',H',e,-,⟨rfl,g⟩,fr⟩:=Gs (p:=P) (c:=Geq) (E0:=E0) (H0:=H)
  (fun q E H'=>∃j:Nat,E 14=.i j∧j≤l.length∧q=l.length-j∧Gr H H')
  (fun x' E' H'=>x'=.exit 0∧Gr H H') (by
   rintro q E H' hE ⟨j,e14,hj,rfl,g⟩
   have e4:=(hE 4 dK).trans h4
   have e13:=(hE 13 dK).trans h13
   have m':=m.gr g
   have hvl:=h.len H'
   by_cases c:j<l.length
   ·have c':decide ((j:Int)<(l.length:Int))=true:=G7 oM
    have hr:l[j]?=some l[j]:=JG c
    obtain⟨a,hae⟩:∃a,a=l[j]:=⟨_,rfl⟩
    rw[←hae]at hr
    have hal:=JV hr
    have hha:=hh a hal
    obtain⟨x,hx⟩:=Hp.J2.1 hha
    obtain⟨b,f,i1,i2,i3⟩:=h.at hr
    have AZ:=i3 H' g
    have w1:IntKind.i64.wrap ((j:Int)+1)=((j+1:Nat):Int):=Gh oM
    have hix:=Qb m' k a
    unfold Hp.KI at hix
    rw[if_pos hha]at hix
    have hxi:=Hp.YT hx
    obtain⟨b2,n,tl,q1,q2,q3,q4,q5,q6⟩:=JL.row m' hxi
    have hc:=m'.cells
    rw[q1]at hc
    have q7:Fw (some (⟨Gv LR.hv s.objs,.rw,8⟩:JD)) (s.idx a*8) 8=some (G9 LR.hv x):=by
     rw[Ur,if_pos oM,Zu hxi]
    obtain⟨X,hX⟩:∃X:Gb,X=H'++[⟨G9 LR.hv x,.rw,0⟩]:=⟨_,rfl⟩
    have gX:Gr H' X:=by rw[hX];exact Gr.app _ _
    have tX:X[H'.length]?=some ⟨G9 LR.hv x,.rw,0⟩:=by rw[hX];simp
    have hxm:=(Hp.GV hx).1
    have hrf:=(m'.refs x hxm)
    have hkd:=(k.ob x hxm).kd
    suffices fin:∃E' H2,den P Geq E H'=some (.normal,E',H2)∧E' 14=.i ((j+1:Nat):Int)∧Gr H' H2 by
     obtain⟨E',H2,f1,f2,f3⟩:=fin
     exact Gp f1 (k':=l.length-(j+1)) oM ⟨j+1,f2,oM,rfl,g.trans f3⟩
    have hs8:=Got (H:=H') (r:=G9 LR.hv x) rfl (by simp[G9,Jo,NZ,hrf.1.leaf,hrf.2.leaf])
    unfold G9 at q7 hX hs8 tX
    unfold zOb at hs8
    refine W11 e4 e13 e14 hvl c' hc i2 AZ hix q3 q7 ?_
    rw[hs8,←hX]
    by_cases ck:x.kd=1∨x.kd=2
    ·have GsX:0<x.refs.length:=by omega
     have hr0:x.refs[0]?=some (x.refs.getD 0 0):=by grind
     obtain⟨c0,f0,j1,-,j3⟩:=LI.at (At.il hrf.1) hr0
     have j1:∀X,JU 1 (LR.hv x.id).1 (.i 0) X=some (.ptr c0 f0,X):=j1
     have j3':=j3 X gX
     have hkk:((x.kd:Int)==1)=true∨(((x.kd:Int)==1)=false∧((x.kd:Int)==2)=true):=by
      grind
     by_cases z:x.refs.getD 0 0=0
     ·have z':(x.refs.getD 0 0 != 0)=false:=by rw[z];rfl
      rcases hkk with hkk|⟨hkk,WU⟩
      ·refine W7 tX hkk j1 j3' z' e14 w1 ?_
       exact⟨_,_,rfl,uA,gX⟩
      ·refine W8 tX hkk WU j1 j3' z' e14 w1 ?_
       exact⟨_,_,rfl,uA,gX⟩
     ·have z':(x.refs.getD 0 0 != 0)=true:=by simpa using z
      have hm:=hz a hal x hx ck z
      have hhas:=Gc7 (h.gr (g.trans gX)) hl (x.refs.getD 0 0)
      rw[G7 hm]at hhas
      rcases hkk with hkk|⟨hkk,WU⟩
      ·refine W9 tX hkk j1 j3' z' e4 hhas e14 w1 ?_
       exact⟨_,_,rfl,uA,gX⟩
      ·refine W10 tX hkk WU j1 j3' z' e4 hhas e14 w1 ?_
       exact⟨_,_,rfl,uA,gX⟩
    ·have n1:((x.kd:Int)==1)=false:=UF.2 oM
     have n2:((x.kd:Int)==2)=false:=UF.2 oM
     refine W5 tX n1 n2 e14 w1 ?_
     exact⟨_,_,rfl,uA,gX⟩
   ·have c':decide ((j:Int)<(l.length:Int))=false:=G5 oM
    apply Gj (x:=.exit 0)
    ·refine GH ?_
     rfl
    ·simp
    ·exact⟨rfl,g⟩) _ ⟨0,h14,oM,rfl,Keeps.refl _ _⟩
 grind
end
end Go.Cs.Tryz

namespace Go.Cs.Tryz
open Go Go.Cs
section
variable {H : Gb}
theorem Gib{bl mu:Int}{v:Nat→CV}(b:Beg (H++[⟨[.int .u8 bl,.int .u8 mu,v 2,v 3,v 4,v 5,v 6],.rw,0⟩]) bl mu v)(awake:∀G:Gb,∃G',run P 10 [] G=some (.bool true,G')):
  ∃H',run P 5 [.agg [.int .u8 bl,.int .u8 mu,v 2,v 3,v 4,v 5,v 6]] H=some (.bool true,H'):=by
 obtain⟨X,hX⟩:∃X:Gb,X=H++[⟨[.int .u8 bl,.int .u8 mu,v 2,v 3,v 4,v 5,v 6],.rw,0⟩]:=⟨_,rfl⟩
 rw[←hX]at b
 have tX:X[H.length]?=some ⟨[.int .u8 bl,.int .u8 mu,v 2,v 3,v 4,v 5,v 6],.rw,0⟩:=by rw[hX];simp
 obtain⟨sb,X1,s,R,D,h1,w,hown,-,hs,-,-⟩:=GbQ b
 have k:=w.k
 have kr:=w.kr
 have t1:=w.m.top
 obtain⟨w2,X2,l2,h2,g2,li2,s2,k2⟩:=LG t1 w.m.ph k w.m.pr kr
 have m2:=w.m.gr g2
 have t2:=m2.top
 have WL:=k.La s2 fun x hx=>((k2 x).1 hx).has
 obtain⟨w3,X3,l3,n3,h3,g3,li3,s3,k3,z3⟩:=GdH m2.ph k m2.pr kr hs
 have m3:=m2.gr g3
 have t3:=m3.top
 have e3:l3=l2:=D6 s3 s2 fun x=>by rw[k3,k2]
 subst e3
 obtain⟨w4,X4,l4,n4,h4,g4,li4,s4,k4⟩:=Sq m3.ph k m3.pr kr hs
 have m4:=m3.gr g4
 have t4:=m4.top
 have e4:l4=l3:=D6 s4 s2 fun x=>by rw[k4,k2]
 subst e4
 have Gjw:=((li2.gr g3).gr g4)
 have i1:=YS (li3.gr g4) Gjw oM
 have i2:=YS li4 Gjw oM
 simp only[decide_true]at i1 i2
 have hvl:=Gjw.len X4
 have hh:∀x∈l4,s.has x=true:=fun x hx=>((k2 x).1 hx).has
 obtain⟨X5,n5,h5,g5,p5,li5,-⟩:=Dh k hs m4.ph Gjw s2 oM hh
 obtain⟨s',hs'⟩:∃s',s'=Zr s l4 l4.length:=⟨_,rfl⟩
 rw[←hs']at p5
 obtain⟨ok5,Gs2⟩:=IX k l4 (Nat.le_refl l4.length)
 have Glg:=GaK hs l4 (Nat.le_refl l4.length)
 have kp5:∀x,Kpt s' R x↔Kpt s R x:=fun x=>by
  rw[hs']
  exact GfO k hs.lo.has k2 x
 rw[←hs']at ok5 Glg
 have hh5:∀x∈l4,s'.has x=true:=fun x hx=>by rw[hs',Gs2];exact hh x hx
 have t5:X5[sb]?=_:=(g5.keep sb (Gf t4) m4.d0.1).trans t4
 have pr5:K5 D.o1 X5 D.rb R D.v:=m4.pr.frame (fun c t h=>JI (m4.pr.dom c t h) g5.len) (fun _ _ h=>h) fun c t h=>g5.keep c (m4.pr.dom c t h) fun hc=>by rw[(m4.d1 c hc).1]at h;cases h
 obtain⟨qb,X6,o6,L6,h6,g6,m6,-⟩:=LJ p5 ok5
 have hz:∀a∈l4,∀x,s'.obj a=some x→(x.kd=1∨x.kd=2)→x.refs.getD 0 0≠0→x.refs.getD 0 0∈l4:=fun a ha x hx hkd hne=>by
  obtain⟨o,ho⟩:=Hp.J2.1 (hh a ha)
  obtain⟨x2,q1,q2,-⟩:=GfD l4 ha ho
  rw[←hs',hx]at q1
  simp only[GA]at q1
  subst q1
  classical
  refine Decidable.byContradiction fun hn=>hne ?_
  have hc:Cnd l4 x:=⟨hkd,fun h=>hn h.2⟩
  have h0l:0<x.refs.length:=by
   grind
  exact q2 hc 0 _ (by grind) (YG hkd)
 have n0:decide ((n4:Int)<0)=false:=G5 oM
 have hb3:((n3:Int)==0)=((l4.length:Int)==0):=by
  rw[Bool.eq_iff_iff,beq_iff_eq,beq_iff_eq]
  simp_all
 have hself:(((l4.length:Int)==0)==((l4.length:Int)==0))=true:=by simp
 rw[Gi c5 _ _ sM]
 refine GH ?_
 rw[←hX]
 refine W16 h1 h2 t2 h3 t3 h4 i1 i2 n0 hvl hb3 hself t4 h5 t5 h6 ?_
 generalize hr:den P (.loop Geq) _ _=r
 have li6:=li5.gr g6
 obtain⟨E7,X7,rfl,g7,f7⟩:=Gnh m6 ok5 li6 oM hh5 hz uA uA uA hr
 have b3:=f7 3 dK
 have b4:=f7 4 dK
 simp only[Gg,Nat.reduceEqDiff,↓reduceIte]at b3 b4
 have g57:Gr X5 X7:=g6.trans g7
 have p7:=p5.gr g57
 have t7:=g57.get t5
 obtain⟨X8,n8,h8,g8,p8,li8,z8⟩:=Dh ok5 Glg p7 (li5.gr g57) s2 oM hh5
 have z8':n8=0:=z8 fun a ha o ho=>by
  obtain⟨o0,ho0⟩:=Hp.J2.1 (hh a ha)
  obtain⟨x2,q1,q2,-⟩:=GfD l4 ha ho0
  grind
 subst z8'
 obtain⟨ok8,-⟩:=IX ok5 l4 (Nat.le_refl l4.length)
 have k2':∀x,x∈l4↔Kpt s' R x:=fun x=>(k2 x).trans (kp5 x).symm
 have kp8:∀x,Kpt (Zr s' l4 l4.length) R x↔Kpt s' R x:=fun x=>GfO ok5 Glg.lo.has k2' x
 have t8:X8[sb]?=_:=(g8.keep sb (Gf t7) m4.d0.1).trans t7
 have pr7:=pr5.gr g57
 have pr8:K5 D.o1 X8 D.rb R D.v:=pr7.frame (fun c t h=>JI (pr7.dom c t h) g8.len) (fun _ _ h=>h) fun c t h=>g8.keep c (pr7.dom c t h) fun hc=>by rw[(m4.d1 c hc).1]at h;cases h
 obtain⟨w9,X9,l9,h9,g9,li9,s9,k9⟩:=LG t8 p8 ok8 pr8 kr
 have e9:l9=l4:=D6 s9 s2 fun x=>by rw[k9,kp8,k2']
 subst e9
 have i9:=YS li9 (li8.gr g9) oM
 simp only[decide_true]at i9
 obtain⟨G',hG⟩:=awake X9
 refine GH ?_
 exact⟨_,rfl⟩
end
end Go.Cs.Tryz
namespace Go.Cs.Tryz
open Go Go.Cs A
def Gqx:Gl:=⟨28,0,T [e 4 (.JR (c .Gc))] (S (T [m 5 0,q1 6 95 5,no 7 6,m 8 7,gf 8 (m 9 1),gf 8 (bk 10 .lss 9 0),or 11 8 10,m 12 11,gf 12 (m 13 1),gf 12 (m 14 0),gf 12 (z 15 14),gf 12 (f 16 0 15),gf 12 (l 17 1 16),gf 12 (le 18 17),gf 12 (b 19 .geq 13 18),or 20 12 19] (I 20 (Q [e 4 (.JR (c .Gc))]))) (Q [m 21 0,m 22 1,bk 23 .mul 22 64,m 24 1,bk 25 .add 24 1,bk 26 .mul 25 64,q3 27 170 21 23 26,m 4 27])),[r 4]⟩
theorem Grf:P 200=some Gqx:=by kernel_rfl
abbrev Mc:Gq:=T [b 22 .lss 21 20] (S (J 22 (X 0)) (S (B 1 (T [x 23 1 19 21,l 24 1 23,m 9 24] (T [m 25 7,m 26 9,e 27 (.N8 (t 25) [t 26] [(304,"dustcart/alloc.place",335),(305,"dustcart/alloc.place",340),(306,"dustcart/alloc.place",348),(307,"dustcart/alloc.place",349),(308,"dustcart/alloc.place",353)])] (R [m 28 9,m 29 0,m 30 9,q2 31 155 29 30,b 32 .add 28 31,st 1 6 32])))) (R [bk 33 .add 21 1,m 21 33])))
def GqO:Gl:=⟨40,0,T [e 4 (.JR (c .Gc))] (S (T [m 10 0,m 11 1,q2 12 310 10 11,no 13 12] (I 13 (Q [e 4 (.JR (c .Gc))]))) (T [e 5 (.new [.Gc])] (T [m 14 1,bk 15 .mul 14 64,e 6 (.new [i 0]),st 1 6 15] (T [e 16 (.NI 311 [t 6,t 5]),m 7 16] (S (T [m 17 0,m 18 1,q2 19 200 17 18,le 20 19,n 21 0] (B 0 (W Mc))) (T [m 34 7,m 35 1,bk 36 .add 35 1,bk 37 .mul 36 64,e 38 (.N8 (t 34) [t 37] [(304,"dustcart/alloc.place",335),(305,"dustcart/alloc.place",340),(306,"dustcart/alloc.place",348),(307,"dustcart/alloc.place",349),(308,"dustcart/alloc.place",353)])] (Q [l 39 1 5,m 4 39]))))))),[r 4]⟩
theorem Grd:P 294=some GqO:=by kernel_rfl
def Grw:Gl:=⟨19,0,T [nb 4 false] (Q [m 5 0,m 6 1,q2 7 285 5 6,m 8 7,gt 8 (m 9 0),gt 8 (z 10 9),gt 8 (f 11 0 10),gt 8 (l 12 1 11),gt 8 (m 13 1),gt 8 (x 14 2 12 13),gt 8 (f 15 0 14),gt 8 (l 16 1 15),gt 8 (bk 17 .eql 16 1),an 18 8 17,m 4 18]),[r 4]⟩
theorem GqR:P 310=some Grw:=by kernel_rfl
def GqD:Gl:=⟨15,0,T [m 4 0,l 5 1 1,b 6 .gtr 4 5] (I 6 (R [l 7 1 2,l 8 1 1,m 9 0,l 10 1 1,b 11 .sub 9 10,e 12 (.build [i 0,i 0] [(0,1,t 8),(1,1,t 11)]),e 13 (.buildSlice 2 [i 0,i 0] 1 [(0,2,t 12)]),ap 14 2 7 13,st 1 2 14])),[]⟩
theorem Gsk:P 311=some GqD:=by kernel_rfl
end Go.Cs.Tryz
namespace Go.Cs
open Go
theorem Hp.Ok.Gae{s:Hp}(k:s.Ok)(b:Nat)(hb:b≤s.blk.length):QW s.starts (32*s.blk.length-32*b) (32*b)=(s.objs.filter fun o=>decide (64*b≤o.addr)).map fun o=>o.addr/2:=by
 refine UG _ _ _ _ ?_ ?_ ?_
 ·rw[List.pairwise_map]
  refine List.Pairwise.imp_of_mem (fun{x y} hx hy h=>?_) (k.apart.filter _)
  have h1:=(k.ob x (List.mem_filter.1 hx).1).even
  have h2:=(k.ob y (List.mem_filter.1 hy).1).even
  have h3:=x.size_pos
  omega
 ·intro i hi
  rw[VA]at hi
  obtain⟨o,ho,rfl⟩:=hi
  rw[List.mem_filter,decide_eq_true_iff]at ho
  have h1:=(k.ob o ho.1).fits
  have h2:=o.size_pos
  unfold Hp.nw at h1
  omega
 ·intro i h1 h2
  unfold Hp.starts
  rw[List.any_eq_true,VA]
  constructor
  ·grind
  ·rintro ⟨o,ho,h⟩
   have ho:=(List.mem_filter.1 ho).1
   have h1:=(k.ob o ho).even
   exact⟨o,ho,by simp;omega⟩
theorem takeWhile_filter{α:Type}{q:α→Bool}:∀{l:List α},l.Pairwise (fun a b=>q b=true→q a=true)→l.takeWhile q=l.filter q
 |[],_=>rfl
 |x::l,h=>by
  rw[List.pairwise_cons]at h
  by_cases c:q x=true
  ·rw[List.takeWhile_cons_of_pos c,List.filter_cons_of_pos c,takeWhile_filter h.2]
  simp_all
theorem Hp.Ok.Gj6{s:Hp}(k:s.Ok)(b:Nat)(hb:b≤s.blk.length):(((QW s.starts (32*s.blk.length-32*b) (32*b)).map fun i=>((2*i:Nat):Int)).takeWhile fun a=>decide (a<((64*(b+1):Nat):Int)))=JE (s.GX b):=by
 rw[k.Gae b hb,List.map_map]
 have e:(s.objs.filter fun o=>decide (64*b≤o.addr)).map ((fun i=>((2*i:Nat):Int))∘fun o=>o.addr/2)=JE (s.objs.filter fun o=>decide (64*b≤o.addr)):=by
  refine List.map_congr_left fun o ho=>?_
  have:=(k.ob o (List.mem_filter.1 ho).1).even
  grind
 rw[e]
 unfold JE
 rw[List.takeWhile_map]
 congr 1
 rw[takeWhile_filter]
 ·rw[List.filter_filter]
  unfold Hp.GX
  grind
 ·refine List.Pairwise.imp_of_mem (fun{x y} hx hy h hq=>?_) (k.apart.filter _)
  grind
end Go.Cs
namespace Go.Cs.Tryz
open Go Go.Cs
section
variable {H : Gb} {hb : Nat} {s : Hp} {L : G6}
theorem SL(p:PH H hb s L)(k:s.Ok){b:Nat}(hb':b<s.blk.length):∃v H',run P 200 [.ptr hb 0,.i b] H=some (v,H')∧Gr H H'∧IL H.length H' v (JE (s.GX b)):=by
 have hnb:=k.nb
 obtain⟨v,H',h1,g,h2⟩:=Eu p k (f:=64*b) (by unfold Hp.nw;omega) (to:=((64*(b+1):Nat):Int)) oM
 rw[show 64*b/2=32*b by omega,k.Gj6 b oM]at h2
 have h3:=KU p k
 have pt:=p.top
 have c0:¬((b:Int)<0):=by omega
 have c1:¬((s.blk.length:Int)≤(b:Int)):=by omega
 have w1:IntKind.i64.wrap ((b:Int)*64)=((64*b:Nat):Int):=by rw[Gh oM];omega
 have w2:IntKind.i64.wrap ((b:Int)+1)=((b+1:Nat):Int):=Gh oM
 have w3:IntKind.i64.wrap (((b+1:Nat):Int)*64)=((64*(b+1):Nat):Int):=by rw[Gh oM];omega
 refine⟨v,H',?_,g,h2⟩
 rw[Gi Grf _ _ sM]
 exact W0
theorem Gd1(p:PH H hb s L)(k:s.Ok){b:Nat}(hb':b<s.blk.length):run P 310 [.ptr hb 0,.i b] H=some (.bool (decide (1≤b)&&decide (s.Gw b=1)),H):=by
 have h1:=MQ p k b
 have pt:=p.top
 have hx:s.blk[b]?=some s.blk[b]:=JG hb'
 have hsn:s.Gw b=(s.blk[b]).1:=by unfold Hp.Gw;grind
 obtain⟨q1,q2,q3⟩:=DT p hx
 have c1:decide ((b:Int)<(s.blk.length:Int))=true:=G7 oM
 rw[c1,Bool.and_true]at h1
 rw[Gi GqR _ _ sM]
 have e1:(((s.blk[b]).1:Int)==1)=decide (s.Gw b=1):=by rw[hsn,Bool.eq_iff_iff];simp;omega
 by_cases c:1≤b
 ·have c':decide ((1:Int)≤(b:Int))=true:=G7 oM
  rw[c']at h1
  have:=G7 c;exact W0
 ·have c':decide ((1:Int)≤(b:Int))=false:=G5 oM
  rw[c']at h1
  have:=G5 c;exact W0
theorem GcA{k c5 c6 a to:Nat}{v:CV}{l:List (Nat×Nat)}(h6:H[c6]?=some ⟨[.i a],.rw,0⟩) (h5:H[c5]?=some ⟨[v],.rw,0⟩) (hc:c5<k∧c6<k∧c5≠c6) (hk:k≤H.length) (hp:PL k H v l) (hl:l.length≤5000) (ha:a≤100000) (hto:to≤100000):
  ∃v' H',run P 311 [.i to,.ptr c6 0,.ptr c5 0] H=some (.Jk [],H')∧Keeps H H' (fun c=>k≤c∨c=c5)∧H'[c5]?=some ⟨[v'],.rw,0⟩∧PL k H' v' (l++if a<to then [(a,to-a)]else []):=by
 rw[Gi Gsk _ _ sM]
 by_cases c:a<to
 ·have c':decide ((a:Int)<(to:Int))=true:=G7 oM
  have wS:IntKind.i64.wrap ((to:Int)-(a:Int))=((to-a:Nat):Int):=by rw[Gh oM];omega
  obtain⟨v',H1,a1,a2,a3⟩:=PL.push hp hk oM (a,to-a)
  have hel:elems (H++[⟨[.i (a:Int),.i ((to-a:Nat):Int)],.rw,2⟩]) 2 (.slice H.length 0 1 1 2 false)=some (1,[.i (a:Int),.i ((to-a:Nat):Int)]):=by
   rw[J7 oM]
   have:=@Kc;exact W0
  have h51:H1[c5]?=some ⟨[v],.rw,0⟩:=(a3.keep c5 (Gf h5) oM).trans h5
  have hlf:=PL.leaf a2
  dsimp only at a1
  have l5:=Gf h51
  refine⟨v',H1.set c5 ⟨[v'],.rw,0⟩,?_,Keeps.set (w:=fun c=>k≤c∨c=c5) (a3.weaken fun c h=>.inl h) (.inl (.inr rfl)) _,by rw[ZG l5],?_⟩
  ·exact W0
  ·rw[if_pos c]
   exact a2.frame (fun _ h=>h) fun c h=>by rw[NA];have:=(Gm.1 h).1;omega
 ·have c':decide ((a:Int)<(to:Int))=false:=G5 oM
  refine⟨v,H,?_,Keeps.refl _ _,h5,?_⟩
  ·exact W0
  grind
theorem GiM(p:PH H hb s L)(k:s.Ok){b:Nat}(hb':b<s.blk.length){v19:CV}(hv:IL 0 H v19 (JE (s.GX b))){c5 c6:Nat}(hc:c5<H.length∧c6<H.length∧c5≠c6)(hno:c5∉L.all hb∧c6∉L.all hb)
  (TT:JE (s.GX b)≠[]→Gn v19≠c5∧Gn v19≠c6)(t5:H[c5]?=some ⟨[.Gc],.rw,0⟩) (t6:H[c6]?=some ⟨[.i ((64*b:Nat):Int)],.rw,0⟩)
  {E0:Env} (h0:E0 0=.ptr hb 0) (h6:E0 6=.ptr c6 0) (h7:E0 7=.func 311 [.ptr c6 0,.ptr c5 0]) (h19:E0 19=v19) (h20:E0 20=.i (s.GX b).length) (h21:E0 21=.i 0) {r:Option (CX×Env×Gb)} (hr:den P (.loop Mc) E0 H=r):
  ∃E' H' v a l,r=some (.exit 0,E',H')∧Keeps H H' (fun c=>c=c5∨c=c6)∧H'[c5]?=some ⟨[v],.rw,0⟩∧H'[c6]?=some ⟨[.i (a:Nat)],.rw,0⟩∧PL H.length H' v l∧a≤10000∧l.length≤2048∧l++Jj (64*(b+1)) a []=Jj (64*(b+1)) (64*b) (s.GX b)∧∀t,t∉wr Mc→E' t=E0 t:=by
 have few:=k.few
 have hnb:=k.nb
 have hfl:(s.GX b).length≤2048:=Jm (List.length_filter_le _ _) few
 obtain⟨x',E',H',e,-,⟨rfl,g,v,a,l,hf⟩,fr⟩:=Gs (p:=P) (c:=Mc) (E0:=E0) (H0:=H)
  (fun q E H'=>Keeps H H' (fun c=>c=c5∨c=c6)∧∃(j a:Nat)(v:CV)(l:List (Nat×Nat)),E 21=.i j∧j≤(s.GX b).length∧q=(s.GX b).length-j∧H'[c5]?=some ⟨[v],.rw,0⟩∧H'[c6]?=some ⟨[.i (a:Nat)],.rw,0⟩∧a≤10000∧l.length≤j∧PL H.length H' v l∧
   l++Jj (64*(b+1)) a ((s.GX b).drop j)=Jj (64*(b+1)) (64*b) (s.GX b))
  (fun x' E' H'=>x'=.exit 0∧Keeps H H' (fun c=>c=c5∨c=c6)∧∃(v:CV)(a:Nat)(l:List (Nat×Nat)),H'[c5]?=some ⟨[v],.rw,0⟩∧H'[c6]?=some ⟨[.i (a:Nat)],.rw,0⟩∧PL H.length H' v l∧a≤10000∧l.length≤2048∧l++Jj (64*(b+1)) a []=Jj (64*(b+1)) (64*b) (s.GX b)) (by
   rintro q E H' hE ⟨g,j,a,v,l,e21,hj,rfl,u5,u6,ha,hl,hn,hd⟩
   have e0:=(hE 0 dK).trans h0
   have e6:=(hE 6 dK).trans h6
   have e7:=(hE 7 dK).trans h7
   have e19:=(hE 19 dK).trans h19
   have e20:=(hE 20 dK).trans h20
   by_cases c:j<(s.GX b).length
   ·have c':decide ((j:Int)<((s.GX b).length:Int))=true:=G7 oM
    obtain⟨x,hx⟩:∃x,(s.GX b)[j]?=some x:=⟨_,JG c⟩
    obtain⟨hxm,hxb⟩:=Hp.F3 (JV hx)
    have hok:=k.ob x hxm
    have hsz:=Ob.size_le hok
    have hnw:=hok.fits
    have hsn:s.nw=64*s.blk.length:=rfl
    have hla:0<(JE (s.GX b)).length:=by simp[JE];omega
    obtain⟨tl,a1,a2,a3,a4⟩:=At.pos hv hla
    have GwL:=TT (A7.1 hla)
    have Pp:H'[Gn v19]?=H[Gn v19]?:=g.keep _ (Gf a3) oM
    have hxa:(JE (s.GX b))[j]?=some (x.addr:Int):=by simp[JE,hx]
    have ix:∀X,JU 1 v19 (.i j) X=some (.ptr (Gn v19) j,X):=fun X=>by
     rw[a1];exact(if_pos (by simp[JE];omega)).trans (by simp[Gn])
    have l1:ld H'[Gn v19]? j=some (.i x.addr):=by rw[Pp,a3,Qm,ZQ,hxa];rfl
    rw[drop_cons hx]at hd
    have hd':Jj (64*(b+1)) a (x::(s.GX b).drop (j+1))=(if a<x.addr then [(a,x.addr-a)]else [])++Jj (64*(b+1)) (x.addr+x.size) ((s.GX b).drop (j+1)):=rfl
    rw[hd',←List.append_assoc]at hd
    obtain⟨v2,H2,r2,k2,w5,n2⟩:=GcA (to:=x.addr) u6 u5 hc g.len hn oM oM oM
    have g2:Keeps H H2 (fun c=>c=c5∨c=c6):=⟨Jm g.len k2.len,fun d hd hw=>by rw[k2.keep d (JI hd g.len) oM,g.keep d hd hw]⟩
    have w6:H2[c6]?=_:=(k2.keep c6 (Gf u6) oM).trans u6
    have p2:PH H2 hb s L:=p.frame fun d hd=>g2.keep d (p.lt d hd) fun h=>by
     grind
    obtain⟨H3,r3,g3⟩:=PV p2 k hxm
    have x6:=g3.get w6
    have x5:=g3.get w5
    have w1:IntKind.i64.wrap ((j:Int)+1)=((j+1:Nat):Int):=Gh oM
    have wB:IntKind.i64.wrap ((x.addr:Int)+(x.size:Int))=((x.addr+x.size:Nat):Int):=Gh oM
    have hll:(l++if a<x.addr then [(a,x.addr-a)]else []).length≤j+1:=by split<;>simp<;>omega
    apply Gp (k':=(s.GX b).length-(j+1))
    ·refine W16 e0 e6 e7 e19 e20 e21 c' ix l1 @Ja @JH r2 r3 wB x6 w1 ?_
     rfl
    ·omega
    ·refine⟨⟨by rw[List.length_set];exact Jm g2.len g3.len,fun d hd hw=>by rw[NA oM,g3.keep d (JI hd g2.len) fun h=>h,g2.keep d hd hw]⟩,j+1,x.addr+x.size,v2,_,uA,oM,rfl,by grind,by rw[ZG (Gf x6)],oM,hll,?_,hd⟩
     exact(n2.keeps g3).frame (fun _ h=>h) fun d h=>by rw[NA];have:=(Gm.1 h).1;omega
   ·have c':decide ((j:Int)<((s.GX b).length:Int))=false:=G5 oM
    rw[Ghh oM]at hd
    apply Gj (x:=.exit 0)
    ·refine GH ?_
     rfl
    ·simp
    grind) _ ⟨Keeps.refl H _,0,64*b,.Gc,[],h21,oM,rfl,t5,t6,oM,sM,.inl ⟨rfl,rfl,.inl rfl⟩,sM⟩
 grind
theorem Gd_(p:PH H hb s L)(k:s.Ok){b:Nat}(hb':b<s.blk.length)(h1b:1≤b):∃v H',run P 294 [.ptr hb 0,.i b] H=some (v,H')∧Gr H H'∧PL H.length H' v (s.gaps b):=by
 have hnb:=k.nb
 have hu:=Gd1 p k hb'
 rw[G7 h1b,Bool.true_and]at hu
 rw[Gi Grd _ _ sM]
 unfold Hp.gaps
 by_cases c:s.Gw b=1
 ·rw[if_pos c]
  rw[G7 c]at hu
  have w0:IntKind.i64.wrap ((b:Int)*64)=((64*b:Nat):Int):=by rw[Gh oM];omega
  obtain⟨X,hX⟩:∃X:Gb,X=H++[⟨[.Gc],.rw,0⟩]++[⟨[.i ((64*b:Nat):Int)],.rw,0⟩]:=⟨_,rfl⟩
  have gX:Gr H X:=by rw[hX];exact(Gr.app H _).app' _
  have lX:X.length=H.length+2:=by rw[hX];simp
  have t5:X[H.length]?=some ⟨[.Gc],.rw,0⟩:=by rw[hX];simp
  have t6:X[H.length+1]?=some ⟨[.i ((64*b:Nat):Int)],.rw,0⟩:=by rw[hX];simp
  obtain⟨v19,H1,h1,g1,h19⟩:=SL (p.gr gX) k hb'
  have l1:=g1.len
  have hvl:=h19.len H1
  have hal:(JE (s.GX b)).length=(s.GX b).length:=by simp[JE]
  rw[hal]at hvl
  refine GH ?_
  rw[←hX]
  refine W2 h1 hvl ?_
  generalize hr:den P (.loop Mc) _ _=r
  have TT:JE (s.GX b)≠[]→Gn v19≠H.length∧Gn v19≠H.length+1:=fun h0=>by
   obtain⟨tl,a1,a2,a3,a4⟩:=At.pos h19 (A7.2 h0)
   have:=(Gm.1 a2).1
   omega
  have hno:H.length∉L.all hb∧H.length+1∉L.all hb:=⟨fun h=>by have:=p.lt _ h;omega,fun h=>by have:=p.lt _ h;omega⟩
  have hv0:IL 0 H1 v19 (JE (s.GX b)):=h19.frame (fun c h=>Gm.2 ⟨Nat.zero_le _,(Gm.1 h).2⟩) fun c h=>rfl
  obtain⟨E',H2,v,a,l,rfl,g2,u5,u6,hn,ha,hl,hd,fr⟩:=GiM ((p.gr gX).gr g1) k hb' hv0 (c5:=H.length) (c6:=H.length+1) oM hno TT (g1.get t5) (g1.get t6) uA uA uA uA uA uA hr
  have f1:=fr 1 dK
  have f5:=fr 5 dK
  have f7:=fr 7 dK
  simp only[Gg,Nat.reduceEqDiff,↓reduceIte]at f1 f5 f7
  have w1:IntKind.i64.wrap ((b:Int)+1)=((b+1:Nat):Int):=Gh oM
  have w2:IntKind.i64.wrap (((b+1:Nat):Int)*64)=((64*(b+1):Nat):Int):=by rw[Gh oM];omega
  obtain⟨v2,H3,r3,k3,w5,n3⟩:=GcA (to:=64*(b+1)) u6 u5 (k:=H1.length) oM g2.len hn oM oM oM
  have hg0:Jj (64*(b+1)) a []=if a<64*(b+1)then [(a,64*(b+1)-a)]else []:=rfl
  rw[hg0]at hd
  rw[hd]at n3
  refine⟨v2,H3,?_,⟨by have:=g2.len;have:=k3.len;omega,fun c hc _=>?_⟩,n3.frame (fun c h=>Gm.2 ⟨by have:=(Gm.1 h).1;omega,(Gm.1 h).2⟩) fun c h=>rfl⟩
  ·have:=@Ja;have:=@JH;exact W0
  ·rw[k3.keep c (by have:=g2.len;omega) oM,g2.keep c oM oM,g1.keep c oM fun h=>h,gX.keep c hc fun h=>h]
 ·rw[if_neg c]
  rw[G5 c]at hu
  refine⟨.Gc,H,?_,Keeps.refl _ _,.inl ⟨rfl,rfl,.inl rfl⟩⟩
  exact W0
end
end Go.Cs.Tryz
namespace Go.Cs.Tryz
open Go Go.Cs A
def GpM:Gl:=⟨12,0,T [nb 2 false] (Q [m 3 0,e 4 (.eqv true 1 (t 3) (c .nilPtr)),m 5 4,gt 5 (m 6 0),gt 5 (z 7 6),gt 5 (f 8 0 7),gt 5 (l 9 1 8),gt 5 (e 10 (.eqv true 1 (t 9) (c .nilPtr))),an 11 5 10,m 2 11]),[r 2]⟩
theorem c232:P 232=some GpM:=by kernel_rfl
abbrev Oc:Gq:=S (T [m 5 4,m 6 0,z 7 6,f 8 0 7,l 9 1 8,q1 10 49 9,b 11 .lss 5 10] (J 11 (X 0))) (S (B 1 (S (D [⟨m 14 0,0,0,0⟩,⟨z 15 14,1,0,0⟩,⟨f 16 0 15,2,0,0⟩,⟨l 17 1 16,3,1,0⟩,⟨m 18 4,4,0,0⟩,⟨m 19 0,5,0,0⟩,⟨z 20 19,6,0,0⟩,⟨f 21 1 20,7,0,0⟩,⟨l 22 1 21,8,1,0⟩,⟨q3 23 149 17 18 22,9,3,0⟩,⟨bk 24 .eql 23 0,10,0,1⟩]) (I 24 (Q [m 25 4,bk 26 .mul 25 64,m 27 4,bk 28 .add 27 1,bk 29 .mul 28 64,e 30 (.build [i 0,i 0] [(0,1,t 26),(1,1,t 29)]),st 2 2 30,nb 3 true])))) (R [m 12 4,bk 13 .add 12 1,m 4 13]))
def Gru:Gl:=⟨32,0,T [e 2 (.new [i 0,i 0]),nb 3 false] (S (T [n 4 1] (B 0 (W Oc))) (Q [e 31 (.build [i 0,i 0] []),st 2 2 31,nb 3 false])),[.cell 2 true 2,r 3]⟩
theorem GtB:P 338=some Gru:=by kernel_rfl
abbrev Te:Gq:=T [b 11 .lss 10 9] (S (J 11 (X 0)) (S (B 1 (T [m 12 10,m 4 12] (S (D [⟨m 13 0,0,0,0⟩,⟨z 14 13,1,0,0⟩,⟨f 15 0 14,2,0,0⟩,⟨l 16 1 15,3,1,0⟩,⟨m 17 4,4,0,0⟩,⟨q2 18 71 16 17,5,3,0⟩,⟨bk 19 .eql 18 1,6,0,1⟩,⟨m 20 19,7,0,1⟩,⟨gt 20 (m 21 0),8,0,1⟩,⟨gt 20 (z 22 21),9,0,1⟩,⟨gt 20 (f 23 0 22),10,0,1⟩,⟨gt 20 (l 24 1 23),11,1,1⟩,⟨gt 20 (m 25 4),12,0,1⟩,⟨gt 20 (q2 26 72 24 25),13,3,1⟩,⟨gt 20 (m 27 0),14,0,1⟩,⟨gt 20 (z 28 27),15,0,1⟩,⟨gt 20 (f 29 1 28),16,0,1⟩,⟨gt 20 (l 30 1 29),17,1,1⟩,⟨gt 20 (b 31 .eql 26 30),18,0,2⟩,⟨an 32 20 31,19,0,2⟩]) (I 32 (R [m 33 3,m 34 4,e 35 (.buildSlice 1 [i 0] 1 [(0,1,t 34)]),ap 36 1 33 35,m 3 36]))))) (R [bk 37 .add 10 1,m 10 37])))
def Gs3:Gl:=⟨39,0,T [e 2 (.JR (c .Gc))] (T [e 3 (.JR (c .Gc))] (S (T [m 5 0,z 6 5,f 7 0 6,l 8 1 7,q1 9 49 8,n 10 0] (B 0 (W Te))) (Q [m 38 3,m 2 38]))),[r 2]⟩
theorem Gt7:P 339=some Gs3:=by kernel_rfl
end Go.Cs.Tryz
namespace Go.Cs
open Go
section
variable {F : Jl} {E : Env} {H : Gb}
theorem Gic{t:Nat}{x:J8}:Ky F (.SX t x) E H=some (.iface t (E.ev x),H):=rfl
theorem Gex{n:String}{x:J8}:G8 (.Oj n x) E H=okV (.GaX n (E.ev x)):=rfl
theorem Glw{t:Nat}{x:CV}:Gkd (.iface t x)=okV (.iface t x):=rfl
theorem D8{Fj:List (Nat×String×Nat)}{n:String}{t f:Nat}{x:CV}{args:List CV}(h:Au Fj t n=some f):FT F Fj (.GaX n (.iface t x)) args H=F f (x::args) H:=by
 simp only[FT,h,Option.bind_some]
end
def IG(hb:Nat)(sp pol:Int)(c:Nat→Int):List CV:=[.ptr hb 0,.i sp,.i pol,.i (c 0),.i (c 1),.i (c 2),.i (c 3)]
def Pv(s:Hp)(sp:Int)(b:Nat):Bool:=s.Gw b==1&&(s.KT b:Int)==sp
def Hp.Ku(s:Hp)(sp:Int)(n:Nat):List Nat:=(List.range n).filter (Pv s sp)
theorem Hp.Ga4{s:Hp}{sp:Int}{n:Nat}:s.Ku sp (n+1)=s.Ku sp n++if Pv s sp n then [n]else []:=by
 unfold Hp.Ku
 rw[List.range_succ,List.filter_append]
 grind
theorem Hp.Od{s:Hp}{sp:Int}{n:Nat}:(s.Ku sp n).length≤n:=Jm (List.length_filter_le _ _) sM
abbrev ofN(l:List Nat):List Int:=l.map fun(n:Nat)=>(n:Int)
def Hp.KH(s:Hp)(n:Nat)(l:List Nat):List (Nat×Nat):=l.flatMap fun b=>(s.gaps b).filter fun g=>decide (n≤g.2)
def Yd(s:Hp)(b:Nat):Bool:=s.blk.getD b (1,0)==(0,0)
def Hp.U0(s:Hp):Nat→Nat→Option Nat
 |0,_=>none
 |q+1,b=>if Yd s b then some b else s.U0 q (b+1)
def Hp.Zk(s:Hp):Option Nat:=s.U0 (s.blk.length-1) 1
theorem Hp.U8{s:Hp}:∀{q b c:Nat},s.U0 q b=some c→b≤c∧c<b+q∧Yd s c=true
 |0,b,c,h=>by cases h
 |q+1,b,c,h=>by
  unfold Hp.U0 at h
  split at h
  ·grind
  ·have:=Hp.U8 h
   grind
def Hp.took(s:Hp)(sp:Int):Hp:=match s.Zk with
 |some b=>{s with blk:=s.blk.set b (1,sp.toNat)}
 |none=>s
theorem Hp.GaV{s:Hp}{sp:Int}(hsp:0≤sp∧sp<8){b:Nat}(h1:1≤b)(h2:b<s.blk.length):s.claim b 1 1 sp 0 0=if Yd s b then({s with blk:=s.blk.set b (1,sp.toNat)},0)else(s,8):=by
 unfold Hp.claim
 have hx:s.blk[b]?=some s.blk[b]:=JG h2
 rw[if_pos oM,K_]
 have e:(s.blk.drop b).take (1:Int).toNat=[s.blk[b]]:=by rw[drop_cons hx];rfl
 rw[e]
 have ef:Yd s b=(s.blk[b]==(0,0)):=by unfold Yd;grind
 rw[ef]
 have e2:(KL s.blk b (0,(0:Int).toNat) (1:Int).toNat).set b (1,sp.toNat)=s.blk.set b (1,sp.toNat):=by
  show((s.blk.set (b+0) (0,0)).set b (1,sp.toNat))=_
  rw[Nat.add_zero,List.set_set]
 grind
theorem Hp.Ok.Glk{s:Hp}(k:s.Ok){b:Nat}{x:Nat×Nat}(hx:x.1≤3∧x.2<8):({s with blk:=s.blk.set b x}:Hp).Ok where
 nb:=by simpa using k.nb
 st:=fun y hy=>by
  rcases List.mem_or_eq_of_mem_set hy with h|rfl
  ·exact k.st y h
  ·exact hx
 ob:=fun o ho=>by have:=k.ob o ho;unfold Hp.nw at this⊢;rw[List.length_set];exact this
 apart:=k.apart
 ids:=k.ids
 born:=k.born
theorem Hp.Ok.took{s:Hp}(k:s.Ok){sp:Int}(hsp:0≤sp∧sp<8):(s.took sp).Ok:=by
 unfold Hp.took
 split
 ·exact k.Glk ⟨sM,by simp;omega⟩
 ·exact k
end Go.Cs
namespace Go.Cs.Tryz
open Go Go.Cs
section
variable {H : Gb} {hb : Nat} {s : Hp} {L : G6} {ab : Nat} {sp pol : Int} {cu : Nat → Int}
theorem Hl(p:PH H hb s L)(k:s.Ok){b:Nat}(hb':b<s.blk.length):run P 72 [.ptr hb 0,.i b] H=some (.i (s.KT b),H):=by
 have h2:=Oo p k b
 have hx:s.blk[b]?=some s.blk[b]:=JG hb'
 have e2:Hp.space s (b:Int)=(s.KT b:Int):=by
  unfold Hp.space Hp.KT
  grind
 rw[e2]at h2
 exact h2
theorem GbB(ha:H[ab]?=some ⟨IG hb sp pol cu,.rw,0⟩):run P 232 [.ptr ab 0] H=some (.bool true,H):=by
 unfold IG at ha
 rw[Gi c232 _ _ sM]
 exact W0
theorem GdC(p:PH H hb s L)(k:s.Ok)(ha:H[ab]?=some ⟨IG hb sp pol cu,.rw,0⟩)
  {E0:Env} (h0:E0 0=.ptr ab 0) (h3:E0 3=.Gc) (h9:E0 9=.i s.blk.length) (h10:E0 10=.i 0) {r:Option (CX×Env×Gb)} (hr:den P (.loop Te) E0 H=r):
  ∃E' H',r=some (.exit 0,E',H')∧Gr H H'∧IL H.length H' (E' 3) (ofN (s.Ku sp s.blk.length)):=by
 have hnb:=k.nb
 obtain⟨x',E',H',e,-,⟨rfl,g,hf⟩,fr⟩:=Gs (p:=P) (c:=Te) (E0:=E0) (H0:=H)
  (fun q E H'=>Gr H H'∧∃j:Nat,E 10=.i j∧j≤s.blk.length∧q=s.blk.length-j∧IL H.length H' (E 3) (ofN (s.Ku sp j)))
  (fun x' E' H'=>x'=.exit 0∧Gr H H'∧IL H.length H' (E' 3) (ofN (s.Ku sp s.blk.length))) (by
   rintro q E H' hE ⟨g,j,e10,hj,rfl,hn⟩
   have e0:=(hE 0 dK).trans h0
   have e9:=(hE 9 dK).trans h9
   have ha':=g.get ha
   unfold IG at ha'
   by_cases c:j<s.blk.length
   ·have c':decide ((j:Int)<(s.blk.length:Int))=true:=G7 oM
    have s1:=Uy (p.gr g) k c
    have s2:=Hl (p.gr g) k c
    have w1:IntKind.i64.wrap ((j:Int)+1)=((j+1:Nat):Int):=Gh oM
    have hu:=Hp.Ga4 (s:=s) (sp:=sp) (n:=j)
    by_cases c1:s.Gw j=1
    ·have e1:((s.Gw j:Int)==1)=true:=by rw[c1];rfl
     by_cases c2:(s.KT j:Int)=sp
     ·have e2:((s.KT j:Int)==sp)=true:=by simp[c2]
      have hin:Pv s sp j=true:=by simp[Pv,c1,c2]
      rw[if_pos hin]at hu
      have hul:=Hp.Od (s:=s) (sp:=sp) (n:=j)
      obtain⟨v',H1,a1,a2,a3⟩:=IL.push hn g.len (by simp;omega) (j:Int)
      have hel:elems (H'++[⟨[.i (j:Int)],.rw,1⟩]) 1 (.slice H'.length 0 1 1 1 false)=some (1,[.i (j:Int)]):=by
       rw[J7 oM]
       have:=@Kc;exact W0
      apply Gp (k':=s.blk.length-(j+1))
      ·refine W14 e0 e9 e10 c' ha' s1 s2 e1 e2 w1 @J5 @Gu hel a1 ?_
       rfl
      ·omega
      ·refine⟨g.news a3,j+1,uA,oM,rfl,?_⟩
       simp only[Gg,Nat.reduceEqDiff,↓reduceIte]
       grind
     ·have e2:((s.KT j:Int)==sp)=false:=by simp[c2]
      have hin:Pv s sp j=false:=by simp[Pv,c2]
      rw[hin,if_neg sM,List.append_nil]at hu
      apply Gp (k':=s.blk.length-(j+1))
      ·refine W10 e0 e9 e10 c' ha' s1 s2 e1 e2 w1 ?_
       rfl
      ·omega
      ·exact⟨g,j+1,uA,oM,rfl,by rw[hu];simpa[Gg]using hn⟩
    ·have e1:((s.Gw j:Int)==1)=false:=by simp;omega
     have hin:Pv s sp j=false:=by simp[Pv,c1]
     rw[hin,if_neg sM,List.append_nil]at hu
     apply Gp (k':=s.blk.length-(j+1))
     ·refine GH ?_
      rfl
     ·omega
     ·exact⟨g,j+1,uA,oM,rfl,by rw[hu];simpa[Gg]using hn⟩
   ·have c':decide ((j:Int)<(s.blk.length:Int))=false:=G5 oM
    have ej:j=s.blk.length:=by omega
    subst ej
    apply Gj (x:=.exit 0)
    ·refine GH ?_
     rfl
    ·simp
    ·exact⟨rfl,g,by simpa[Gg]using hn⟩) _ ⟨Keeps.refl H _,0,h10,oM,rfl,by rw[h3];exact IL.nil⟩
 grind
theorem R_(p:PH H hb s L)(k:s.Ok)(ha:H[ab]?=some ⟨IG hb sp pol cu,.rw,0⟩):∃v H',run P 339 [.ptr ab 0] H=some (v,H')∧Gr H H'∧IL H.length H' v (ofN (s.Ku sp s.blk.length)):=by
 have h1:=KA p k
 have ha':=ha
 unfold IG at ha'
 rw[Gi Gt7 _ _ sM]
 refine W2 ha' h1 ?_
 generalize hr:den P (.loop Te) _ _=r
 obtain⟨E',H',rfl,g,hn⟩:=GdC p k ha uA uA uA uA hr
 refine⟨E' 3,H',?_,g,hn⟩
 exact W0
theorem Gfo(p:PH H hb s L)(k:s.Ok)(hsp:0≤sp∧sp<8)(ha:H[ab]?=some ⟨IG hb sp pol cu,.rw,0⟩) (hab:ab∉L.all hb) {c2:Nat} (t2:H[c2]?=some ⟨[.i 0,.i 0],.rw,0⟩) (hc2:c2∉L.all hb)
  {E0:Env} (h0:E0 0=.ptr ab 0) (h2:E0 2=.ptr c2 0) (h4:E0 4=.i 1) {r:Option (CX×Env×Gb)} (hr:den P (.loop Oc) E0 H=r):
  ∃x E' H',r=some (x,E',H')∧Keeps H H' (fun c=>c∈L.all hb∨c=c2)∧PH H' hb (s.took sp) L∧(∀t,t∉wr Oc→E' t=E0 t)∧
   match s.Zk with
   |some b=>x=.ret∧E' 3=.bool true∧H'[c2]?=some ⟨[.i (64*b:Nat),.i (64*(b+1):Nat)],.rw,0⟩
   |none=>x=.exit 0∧H'[c2]?=some ⟨[.i 0,.i 0],.rw,0⟩:=by
 have hnb:=k.nb
 obtain⟨x',E',H',e,-,hf,fr⟩:=Gs (p:=P) (c:=Oc) (E0:=E0) (H0:=H)
  (fun q E H'=>Keeps H H' (fun c=>c∈L.all hb∨c=c2)∧∃j:Nat,E 4=.i j∧1≤j∧j≤s.blk.length∧q=s.blk.length-j∧PH H' hb s L∧H'[c2]?=some ⟨[.i 0,.i 0],.rw,0⟩∧s.U0 (s.blk.length-j) j=s.Zk)
  (fun x E' H'=>Keeps H H' (fun c=>c∈L.all hb∨c=c2)∧PH H' hb (s.took sp) L∧
   match s.Zk with
   |some b=>x=.ret∧E' 3=.bool true∧H'[c2]?=some ⟨[.i (64*b:Nat),.i (64*(b+1):Nat)],.rw,0⟩
   |none=>x=.exit 0∧H'[c2]?=some ⟨[.i 0,.i 0],.rw,0⟩) (by
   rintro q E H' hE ⟨g,j,e4,hj1,hj,rfl,p',u2,hd⟩
   have e0:=(hE 0 dK).trans h0
   have e2:=(hE 2 dK).trans h2
   have hne:ab≠c2:=by
    rintro rfl
    rw[ha]at t2
    simp[IG]at t2
   have ha':H'[ab]?=_:=(g.keep ab (Gf ha) fun h=>h.elim hab hne).trans ha
   unfold IG at ha'
   have hbl:=KA p' k
   by_cases c:j<s.blk.length
   ·have c':decide ((j:Int)<(s.blk.length:Int))=true:=G7 oM
    obtain⟨H1,h1,k1,p1⟩:=Mx p' k j sp
    rw[Hp.GaV hsp hj1 c]at h1 p1
    have ha1:H1[ab]?=_:=(k1.keep ab (Gf ha') hab).trans ha'
    have u21:H1[c2]?=_:=(k1.keep c2 (Gf u2) hc2).trans u2
    have g1:Keeps H H1 (fun c=>c∈L.all hb∨c=c2):=g.trans (k1.weaken fun c h=>.inl h)
    rw[show s.blk.length-j=(s.blk.length-(j+1))+1 by omega]at hd
    unfold Hp.U0 at hd
    by_cases cf:Yd s j=true
    ·rw[if_pos cf]at h1 p1 hd
     have w1:IntKind.i64.wrap ((j:Int)*64)=((64*j:Nat):Int):=by rw[Gh oM];omega
     have w2:IntKind.i64.wrap ((j:Int)+1)=((j+1:Nat):Int):=Gh oM
     have w3:IntKind.i64.wrap (((j+1:Nat):Int)*64)=((64*(j+1):Nat):Int):=by rw[Gh oM];omega
     apply Gj (x:=.ret)
     ·have:=show((0:Int)==0)=true from rfl;refine GH ?_
      rfl
     ·simp
     ·rw[←hd]
      have ht:s.took sp={s with blk:=s.blk.set j (1,sp.toNat)}:=by unfold Hp.took;rw[←hd]
      rw[ht]
      refine⟨g1.set (.inl (.inr rfl)) _,p1.frame fun d hd=>by grind,rfl,uA,?_⟩
      grind
    ·rw[if_neg cf]at h1 p1 hd
     have w2:IntKind.i64.wrap ((j:Int)+1)=((j+1:Nat):Int):=Gh oM
     apply Gp (k':=s.blk.length-(j+1))
     ·have:=show((8:Int)==0)=false from rfl;refine GH ?_
      rfl
     ·omega
     ·exact⟨g1,j+1,uA,oM,oM,rfl,p1,u21,hd⟩
   ·have c':decide ((j:Int)<(s.blk.length:Int))=false:=G5 oM
    rw[show s.blk.length-j=0 by omega]at hd
    apply Gj (x:=.exit 0)
    ·refine GH ?_
     rfl
    ·simp
    ·rw[←hd]
     have ht:s.took sp=s:=by unfold Hp.took;rw[←hd];rfl
     rw[ht]
     exact⟨g,p',rfl,u2⟩) _ ⟨Keeps.refl H _,1,h4,oM,oM,rfl,p,t2,rfl⟩
 grind
theorem Gaj(p:PH H hb s L)(k:s.Ok)(hsp:0≤sp∧sp<8)(ha:H[ab]?=some ⟨IG hb sp pol cu,.rw,0⟩) (hab:ab∉L.all hb):
  ∃H',run P 338 [.ptr ab 0] H=some (match s.Zk with
   |some b=>.Jk [.agg [.i (64*b:Nat),.i (64*(b+1):Nat)],.bool true]
   |none=>.Jk [.agg [.i 0,.i 0],.bool false],H')∧Keeps H H' (·∈L.all hb)∧PH H' hb (s.took sp) L:=by
 obtain⟨X,hX⟩:∃X:Gb,X=H++[⟨[.i 0,.i 0],.rw,0⟩]:=⟨_,rfl⟩
 have gX:Gr H X:=by rw[hX];exact Gr.app H _
 have tX:X[H.length]?=some ⟨[.i 0,.i 0],.rw,0⟩:=by rw[hX];simp
 have hcn:H.length∉L.all hb:=fun h=>by have:=p.lt _ h;omega
 have Pn:X=H++[⟨[.int .i64 0,.int .i64 0],.rw,0⟩]:=hX
 rw[Gi GtB _ _ sM]
 refine GH ?_
 rw[←Pn]
 generalize hr:den P (.loop Oc) _ _=r
 obtain⟨x,E',H',rfl,g,p',fr,hm⟩:=Gfo (p.gr gX) k hsp (gX.get ha) hab tX hcn uA uA uA hr
 have f2:=fr 2 dK
 simp only[Gg,Nat.reduceEqDiff,↓reduceIte]at f2
 have kk:Keeps H H' (·∈L.all hb):=⟨Jm gX.len g.len,fun c hc hn=>by rw[g.keep c (JI hc gX.len) (fun h=>h.elim hn fun e=>by omega),gX.keep c hc fun h=>h]⟩
 cases hb1:s.Zk with
 |some b=>
  rw[hb1]at hm
  obtain⟨rfl,m1,m2⟩:=hm
  refine⟨H',?_,kk,p'⟩
  exact W0
 |none=>
  rw[hb1]at hm
  obtain⟨rfl,m2⟩:=hm
  refine⟨H'.set H.length ⟨[.i 0,.i 0],.rw,0⟩,?_,kk.set (.inr (Nat.le_refl _)) _,p'.frame fun d hd=>by grind⟩
  simp(disch:=first|exact dz|fail) only[simprocAttr,Gx,↓reduceIte,f2,m2,splice,ZG (Gf m2)]
end
end Go.Cs.Tryz
namespace Go.Cs.Tryz
open Go Go.Cs A
abbrev LB:Gq:=T [b 28 .lss 27 26] (S (J 28 (X 2)) (S (B 3 (T [x 29 2 25 27,lg 30 2 29,e 11 (.new [i 0,i 0]),st 2 11 30] (S (T [m 31 1,f 32 0 11,l 33 1 32,b 34 .sub 31 33,m 12 34] (T [m 35 12,bk 36 .gtr 35 0] (I 36 (R [m 37 1,f 38 1 11,l 39 1 38,m 40 12,b 41 .sub 39 40,f 42 0 11,st 1 42 37,f 43 1 11,st 1 43 41])))) (T [f 44 1 11,l 45 1 44,m 46 2,b 47 .geq 45 46] (I 47 (R [m 48 7,lg 49 2 11,e 50 (.buildSlice 2 [i 0,i 0] 1 [(0,2,t 49)]),ap 51 2 48 50,m 7 51])))))) (R [bk 52 .add 27 1,m 27 52])))
abbrev O1:Gq:=T [b 17 .lss 16 15] (S (J 17 (X 0)) (S (B 1 (T [x 18 1 14 16,l 19 1 18,m 9 19] (T [m 20 0,z 21 20,f 22 0 21,l 23 1 22,m 24 9,q2 25 294 23 24,le 26 25,n 27 0] (B 2 (W LB))))) (R [bk 53 .add 16 1,m 16 53])))
def Gs9:Gl:=⟨55,0,T [e 6 (.JR (c .Gc))] (T [e 7 (.JR (c .Gc))] (S (T [m 13 0,q1 14 339 13,le 15 14,n 16 0] (B 0 (W O1))) (Q [m 54 7,m 6 54]))),[r 6]⟩
theorem Gqk:P 337=some Gs9:=by kernel_rfl
end Go.Cs.Tryz
namespace Go.Cs
open Go
structure Acc(H:Gb)(v:CV)(l:List (Nat×Nat))(lb:Nat):Prop where
 at':At (only lb) z3 H v 2 l.length (Gz l)
 nil:l=[]→v=.Gc
theorem Acc.ns{H:Gb}{lb:Nat}:Acc H .Gc [] lb:=⟨.inl ⟨rfl,rfl,.inl rfl⟩,fun _=>rfl⟩
theorem Acc.re{H:Gb}{v:CV}{lb:Nat}(h:Acc H v [] lb)(lc:Nat):Acc H v [] lc:=by rw[h.nil rfl];exact Acc.ns
theorem Acc.lt{H:Gb}{v:CV}{l:List (Nat×Nat)}{lb:Nat}(h:Acc H v l lb)(hl:l≠[]):lb<H.length:=by
 obtain⟨tl,a1,a2,a3,a4⟩:=At.pos h.at' (A7.2 hl)
 rw[Js]at a2
 rw[←a2.1];exact Gf a3
theorem Acc.keeps{H H':Gb}{v:CV}{l:List (Nat×Nat)}{lb:Nat}(h:Acc H v l lb)(g:Gr H H'):Acc H' v l lb:=⟨At.keeps h.at' g,h.nil⟩
theorem Acc.push{H:Gb}{v:CV}{l:List (Nat×Nat)}{lb:Nat}(h:Acc H v l lb)(hl:l.length+1≤16777216)(x:Nat×Nat):
  ∃v' H',Jq (H++[⟨[.i x.1,.i x.2],.rw,2⟩]) 2 v 1 [.i x.1,.i x.2]=some (v',H')∧Acc H' v' (l++[x]) (H.length+1)∧Keeps H H' (·=lb):=by
 obtain⟨H',a1,a2,a3,a4⟩:=At.append (At.keeps h.at' (Gr.app H [⟨[.i x.1,.i x.2],.rw,2⟩])) (k:=1) (new:=[.i x.1,.i x.2]) oM (by unfold JF;omega) (by simp[Jo]) rfl
 have l1:(H++[(⟨[.i x.1,.i x.2],.rw,2⟩:JD)]).length=H.length+1:=by simp
 refine⟨_,H',a1,⟨?_,fun h=>by simp at h⟩,⟨oM,fun c hc hn=>?_⟩⟩
 ·refine .inr ⟨H.length+1,true,by rw[l1];simp,Js.2 ⟨rfl,rfl⟩,?_,by rw[K9];omega⟩
  rw[←l1,a3,YH];rfl
 ·rw[a4 c oM fun h=>hn (Js.1 h).1,I7 hc]
theorem Acc.pl{H:Gb}{v:CV}{l:List (Nat×Nat)}{lb k:Nat}(h:Acc H v l lb)(hk:k≤lb):PL k H v l:=by
 rcases h.at' with h|⟨b,f,h0,h1,h2,h3⟩
 ·exact .inl h
 ·exact .inr ⟨b,f,h0,Gm.2 ⟨by rw[(Js.1 h1).1];exact hk,rfl⟩,h2,h3⟩
theorem Hp.Gal{s:Hp}{n:Nat}{l:List Nat}{j b:Nat}(h:l[j]?=some b):s.KH n (l.take (j+1))=s.KH n (l.take j)++(s.gaps b).filter fun g=>decide (n≤g.2):=by
 unfold Hp.KH
 rw[QV,h,Yu,List.flatMap_append,List.flatMap_cons,List.flatMap_nil,List.append_nil]
theorem Hp.Ok.Ghw{s:Hp}(k:s.Ok)(b:Nat):(s.gaps b).length≤2049:=by
 have few:=k.few
 unfold Hp.gaps
 split
 ·have h1:=Za (e:=64*(b+1)) (l:=s.GX b) (a:=64*b)
  have h2:(s.GX b).length≤s.objs.length:=List.length_filter_le _ _
  omega
 ·simp
end Go.Cs
namespace Go.Cs.Tryz
open Go Go.Cs
section
variable {H : Gb} {hb : Nat} {s : Hp} {L : G6} {ab : Nat} {sp pol : Int} {cu : Nat → Int}
theorem GfX{n:Nat}{gs acc0:List (Nat×Nat)}{v25 v7:CV}{lb0:Nat}(hv:PL 0 H v25 gs)(hg:∀x∈gs,x.1≤10000)(hgl:gs.length≤2049)(hal:acc0.length≤1000000)(h7:Acc H v7 acc0 lb0)(hne:gs≠[]→Gn v25≠lb0)
  {E0:Env}(e01:E0 1=.i 0)(e02:E0 2=.i n)(e07:E0 7=v7)(e25:E0 25=v25)(e26:E0 26=.i gs.length)(e27:E0 27=.i 0){r:Option (CX×Env×Gb)}(hr:den P (.loop LB) E0 H=r):
  ∃E' H' lb,r=some (.exit 2,E',H')∧Keeps H H' (·=lb0)∧Acc H' (E' 7) (acc0++gs.filter fun g=>decide (n≤g.2)) lb∧(lb=lb0∨H.length≤lb)∧∀t,t∉wr LB→E' t=E0 t:=by
 obtain⟨x',E',H',e,-,⟨rfl,g,lb,q1,q2⟩,fr⟩:=Gs (p:=P) (c:=LB) (E0:=E0) (H0:=H)
  (fun q E H'=>Keeps H H' (·=lb0)∧∃(j lb:Nat),E 27=.i j∧j≤gs.length∧q=gs.length-j∧Acc H' (E 7) (acc0++(gs.take j).filter fun g=>decide (n≤g.2)) lb∧(lb=lb0∨H.length≤lb))
  (fun x' E' H'=>x'=.exit 2∧Keeps H H' (·=lb0)∧∃lb,Acc H' (E' 7) (acc0++gs.filter fun g=>decide (n≤g.2)) lb∧(lb=lb0∨H.length≤lb)) (by
   rintro q E H' hE ⟨g,j,lb,e27,hj,rfl,hn,hlb⟩
   have e1:=(hE 1 dK).trans e01
   have e2:=(hE 2 dK).trans e02
   have e25:=(hE 25 dK).trans e25
   have e26:=(hE 26 dK).trans e26
   by_cases c:j<gs.length
   ·have c':decide ((j:Int)<(gs.length:Int))=true:=G7 oM
    obtain⟨x,hx⟩:∃x,gs[j]?=some x:=⟨_,JG c⟩
    have hxb:=hg x (JV hx)
    obtain⟨b,i1,-,i3,i4,i5,-⟩:=PL.at hv hx
    have hbb:Gn v25=b:=by
     have h1:=i1 H
     obtain⟨tl,a1,a2,a3,a4⟩:=At.pos hv oM
     rw[a1,Uq oM]at h1
     grind
    have hbl:=Gf i3
    have AZ:H'[b]?=_:=(g.keep b hbl (by grind)).trans i3
    have hcl:=K9 gs
    have hN:Fw (some ⟨Gz gs,.rw,2⟩) (j*2) 2=some [.i x.1,.i x.2]:=by
     rw[Ur,if_pos oM,drop_cons i4,drop_cons i5];rfl
    have w0:IntKind.i64.wrap (0-(x.1:Int))= -(x.1:Int):=by rw[Gh oM];omega
    have n0:decide ((0:Int)< -(x.1:Int))=false:=G5 oM
    have w1:IntKind.i64.wrap ((j:Int)+1)=((j+1:Nat):Int):=Gh oM
    have hsn:=Aa (p:=fun g:Nat×Nat=>decide (n≤g.2)) hx
    have hfl:((gs.take j).filter fun g=>decide (n≤g.2)).length≤gs.length:=Jm (List.length_filter_le _ _) (by simp;omega)
    obtain⟨Y,hY⟩:∃Y:Gb,Y=H'++[⟨[.i x.1,.i x.2],.rw,0⟩]:=⟨_,rfl⟩
    have gY:Gr H' Y:=by rw[hY];exact Gr.app _ _
    have lY:Y.length=H'.length+1:=by rw[hY];simp
    have tY:Y[H'.length]?=some ⟨[.i x.1,.i x.2],.rw,0⟩:=by rw[hY];simp
    have nY:Acc Y (E 7) _ lb:=hn.keeps gY
    have gl:=g.len
    by_cases c1:n≤x.2
    ·have c1':decide ((n:Int)≤(x.2:Int))=true:=G7 oM
     obtain⟨v',H1,a1,a2,a3⟩:=Acc.push nY (by rw[QU];omega) x
     have hel:elems (Y++[⟨[.i (x.1:Int),.i (x.2:Int)],.rw,2⟩]) 2 (.slice Y.length 0 1 1 2 false)=some (1,[.i (x.1:Int),.i (x.2:Int)]):=by
      rw[J7 oM]
      have:=@Kc;exact W0
     apply Gp (k':=gs.length-(j+1))
     ·refine GH ?_
      rw[←hY]
      refine W3 a1 e27 w1 ?_
      rfl
     ·omega
     ·refine⟨⟨by have:=a3.len;omega,fun d hd hw=>?_⟩,j+1,Y.length+1,uA,oM,rfl,?_,.inr oM⟩
      ·by_cases cc:d=lb
       ·omega
       ·rw[a3.keep d oM cc,gY.keep d oM fun h=>h,g.keep d hd hw]
      ·rw[hsn,if_pos (G7 c1),←List.append_assoc]
       simpa[Gg]using a2
    ·have c1':decide ((n:Int)≤(x.2:Int))=false:=G5 oM
     apply Gp (k':=gs.length-(j+1))
     ·refine GH ?_
      rw[←hY]
     ·omega
     ·refine⟨g.trans (gY.weaken fun _ h=>h.elim),j+1,lb,uA,oM,rfl,?_,hlb⟩
      rw[hsn,if_neg (by simpa using c1),List.append_nil]
      simpa[Gg]using nY
   ·have c':decide ((j:Int)<(gs.length:Int))=false:=G5 oM
    rw[QA oM]at hn
    apply Gj (x:=.exit 2)
    ·refine GH ?_
     rfl
    ·simp
    ·exact⟨rfl,g,lb,by simpa[Gg]using hn,hlb⟩) _ ⟨Keeps.refl _ _,0,lb0,e27,oM,rfl,by rw[e07];simpa using h7,.inl rfl⟩
 grind
theorem GfQ(p:PH H hb s L)(k:s.Ok)(hz:s.Gw 0=0)(ha:H[ab]?=some ⟨IG hb sp pol cu,.rw,0⟩) {n:Nat} {bl:List Nat} (hbs:∀b∈bl,b<s.blk.length∧1≤b) (hbl:bl.length≤64) {v14:CV} (hv:IL 0 H v14 (ofN bl))
  {E0:Env} (e00:E0 0=.ptr ab 0) (e01:E0 1=.i 0) (e02:E0 2=.i n) (e07:E0 7=.Gc) (e14:E0 14=v14) (e15:E0 15=.i bl.length) (e16:E0 16=.i 0) {r:Option (CX×Env×Gb)} (hr:den P (.loop O1) E0 H=r):
  ∃E' H',r=some (.exit 0,E',H')∧Gr H H'∧PL H.length H' (E' 7) (s.KH n bl):=by
 have hnb:=k.nb
 obtain⟨x',E',H',e,-,⟨rfl,g,hf⟩,fr⟩:=Gs (p:=P) (c:=O1) (E0:=E0) (H0:=H)
  (fun q E H'=>Gr H H'∧∃(j lb:Nat),E 16=.i j∧j≤bl.length∧q=bl.length-j∧Acc H' (E 7) (s.KH n (bl.take j)) lb∧H.length≤lb∧(s.KH n (bl.take j)).length≤3000*j)
  (fun x' E' H'=>x'=.exit 0∧Gr H H'∧PL H.length H' (E' 7) (s.KH n bl)) (by
   rintro q E H' hE ⟨g,j,lb,e16,hj,rfl,hn,hlb,hnl⟩
   have e0:=(hE 0 dK).trans e00
   have e1:=(hE 1 dK).trans e01
   have e2:=(hE 2 dK).trans e02
   have e14:=(hE 14 dK).trans e14
   have e15:=(hE 15 dK).trans e15
   by_cases c:j<bl.length
   ·have c':decide ((j:Int)<(bl.length:Int))=true:=G7 oM
    obtain⟨b,hx⟩:∃b,bl[j]?=some b:=⟨_,JG c⟩
    obtain⟨hb1,hb2⟩:=hbs b (JV hx)
    have hxa:(ofN bl)[j]?=some (b:Int):=by simp[hx]
    obtain⟨vb,vo,i1,-,i3,-⟩:=IL.at hv hxa
    have hvb:vb<H.length:=by
     cases e:H[vb]? with
     |none=>rw[e]at i3;cases i3
     |some q=>exact Gf e
    have AZ:ld H'[vb]? vo=some (.i (b:Int)):=by rw[g.keep vb hvb fun h=>h];exact i3
    have ha':=g.get ha
    unfold IG at ha'
    obtain⟨v25,H1,h1,g1,hv25⟩:=Gd_ (p.gr g) k hb1 hb2
    have h25:PL 0 H1 v25 (s.gaps b):=hv25.frame (fun c h=>Gm.2 ⟨Nat.zero_le _,(Gm.1 h).2⟩) fun c h=>rfl
    have hvl:=hv25.len H1
    have hgl:=k.Ghw b
    have gl1:=g1.len
    have gl:=g.len
    obtain⟨lc,Gqf,Gon,Gt6⟩:∃lc,Acc H1 (E 7) (s.KH n (bl.take j)) lc∧H.length≤lc∧(s.gaps b≠[]→Gn v25≠lc):=by
     have hn1:Acc H1 (E 7) (s.KH n (bl.take j)) lb:=hn.keeps g1
     by_cases ce:s.KH n (bl.take j)=[]
     ·refine⟨H1.length,?_,oM,fun h0=>?_⟩
      ·rw[ce]at hn1⊢;exact hn1.re _
      ·obtain⟨tl,a1,a2,a3,a4⟩:=At.pos hv25 (A7.2 h0)
       grind
     ·refine⟨lb,hn1,hlb,fun h0=>?_⟩
      obtain⟨tl,a1,a2,a3,a4⟩:=At.pos hv25 (A7.2 h0)
      have h2:=(Gm.1 a2).1
      have h3:=hn.lt ce
      omega
    have hsn:=Hp.Gal (s:=s) (n:=n) hx
    have hfl:((s.gaps b).filter fun g=>decide (n≤g.2)).length≤(s.gaps b).length:=List.length_filter_le _ _
    have w1:IntKind.i64.wrap ((j:Int)+1)=((j+1:Nat):Int):=Gh oM
    suffices∃E' H2 lb',den P O1 E H'=some (.normal,E',H2)∧E' 16=.i ((j+1:Nat):Int)∧Gr H H2∧Acc H2 (E' 7) (s.KH n (bl.take (j+1))) lb'∧H.length≤lb' by
     obtain⟨E',H2,lb',d1,d2,d3,d4,d5⟩:=this
     apply Gp (k':=bl.length-(j+1)) d1
     ·omega
     grind
    refine W10 e0 e14 e15 e16 c' i1 AZ ha' h1 hvl ?_
    generalize hr:den P (.loop LB) _ _=r
    obtain⟨E2,H2,lb',rfl,k2,q1,q2,fr⟩:=GfX (n:=n) h25 (fun x hx=>by have:=Hp.IV hx;omega) hgl oM Gqf Gt6 (by simp[Gg,e1]) (by simp[Gg,e2]) uA uA uA uA hr
    have f16:=fr 16 dK
    simp only[Gg,Nat.reduceEqDiff,↓reduceIte,e16]at f16
    refine W2 f16 w1 ?_
    refine⟨_,H2,lb',rfl,uA,⟨by have:=k2.len;omega,fun d hd _=>?_⟩,?_,by rcases q2 with h|h<;>omega⟩
    ·rw[k2.keep d oM oM,g1.keep d oM fun h=>h,g.keep d hd fun h=>h]
    ·rw[hsn];simpa[Gg]using q1
   ·have c':decide ((j:Int)<(bl.length:Int))=false:=G5 oM
    rw[QA oM]at hn
    apply Gj (x:=.exit 0)
    ·refine GH ?_
     rfl
    ·simp
    ·exact⟨rfl,g,by simpa[Gg]using hn.pl hlb⟩) _ ⟨Keeps.refl H _,0,H.length,e16,oM,rfl,by rw[e07];exact Acc.ns,oM,by simp[Hp.KH]⟩
 grind
theorem Gbe(p:PH H hb s L)(k:s.Ok)(hz:s.Gw 0=0)(ha:H[ab]?=some ⟨IG hb sp pol cu,.rw,0⟩) (n:Nat):∃v H',run P 337 [.ptr ab 0,.i 0,.i n] H=some (v,H')∧Gr H H'∧PL H.length H' v (s.KH n (s.Ku sp s.blk.length)):=by
 have hnb:=k.nb
 obtain⟨v14,H1,h1,g1,hv⟩:=R_ p k ha
 have hvl:=hv.len H1
 have hl:=Hp.Od (s:=s) (sp:=sp) (n:=s.blk.length)
 rw[DW]at hvl
 have hv0:IL 0 H1 v14 (ofN (s.Ku sp s.blk.length)):=hv.frame (fun c h=>Gm.2 ⟨Nat.zero_le _,(Gm.1 h).2⟩) fun c h=>rfl
 rw[Gi Gqk _ _ sM]
 refine GH ?_
 generalize hr:den P (.loop O1) _ _=r
 obtain⟨E',H2,rfl,g2,hn⟩:=GfQ (p.gr g1) k hz (g1.get ha) (n:=n) (bl:=s.Ku sp s.blk.length) (fun b hb=>by
  unfold Hp.Ku at hb
  rw[List.mem_filter,List.mem_range]at hb
  refine⟨hb.1,?_⟩
  rcases Nat.eq_zero_or_pos b with h|h
  ·subst h
   have:=hb.2
   simp[Pv,hz]at this
  ·exact h) oM hv0 uA uA uA uA uA uA uA hr
 refine⟨E' 7,H2,?_,g1.trans g2,hn.frame (fun c h=>Gm.2 ⟨Jm g1.len (Gm.1 h).1,(Gm.1 h).2⟩) fun c h=>rfl⟩
 exact W0
end
end Go.Cs.Tryz
namespace Go.Cs.Tryz
open Go Go.Cs A
def GsU:Gl:=⟨34,0,T [e 6 (.JR (c .nilPtr)),n 7 0] (S (T [m 8 0,q1 9 49 8,bk 10 .eql 9 0,m 11 10,gf 11 (m 12 1),gf 11 (bk 13 .lss 12 0),or 14 11 13,m 15 14,gf 15 (m 16 1),gf 15 (bk 17 .geq 16 8),or 18 15 17,m 19 18,gf 19 (m 20 2),gf 19 (bk 21 .lss 20 0),or 22 19 21,m 23 22,gf 23 (m 24 2),gf 23 (ca 25 231 []),gf 23 (le 26 25),gf 23 (b 27 .geq 24 26),or 28 23 27] (I 28 (Q [e 6 (.JR (c .nilPtr)),n 7 1]))) (Q [m 29 0,m 30 1,m 31 2,e 32 (.build [.nilPtr,i 0,i 0,i 0,i 0,i 0,i 0] [(0,1,t 29),(1,1,t 30),(2,1,t 31)]),bo 33 32,m 6 33,n 7 0])),[r 6,r 7]⟩
theorem c143:P 143=some GsU:=by kernel_rfl
def GsT:Gl:=⟨73,0,T [bo 3 1,n 4 0,n 5 0] (S (B 0 (T [m 13 0,q1 14 232 13,no 15 14,m 12 15] (C 12 (Q [n 4 0,n 5 5]) (T [lg 17 3 3,q1 18 125 17,no 19 18,m 16 19] (I 16 (Q [n 4 0,n 5 2])))))) (T [lg 20 3 3,q1 21 127 20,m 6 21] (S (D [⟨ca 22 231 [],0,3,0⟩,⟨m 23 0,1,0,0⟩,⟨z 24 23,2,0,0⟩,⟨f 25 2 24,3,0,0⟩,⟨l 26 1 25,4,1,0⟩,⟨x 27 1 22 26,5,0,1⟩,⟨l 28 1 27,6,1,1⟩,⟨z 29 28,7,0,1⟩,⟨e 30 (.Oj "dustcart/alloc.place" (t 29)),8,0,1⟩,⟨m 7 30,9,0,1⟩]) (S (T [m 31 6,bk 32 .gtr 31 32] (I 32 (R [e 7 (.JR (c (.func 233 [])))]))) (T [m 33 0,z 34 33,lg 35 7 34,e 8 (.new [.nilPtr,i 0,i 0,i 0,i 0,i 0,i 0]),st 7 8 35] (T [m 37 7,m 38 0,m 39 6,e 40 (.N8 (t 37) [t 38,t 39] [(304,"dustcart/alloc.place",335),(305,"dustcart/alloc.place",340),(306,"dustcart/alloc.place",348),(307,"dustcart/alloc.place",349),(308,"dustcart/alloc.place",353)]),m 36 40,ex 41 36 0,ex 42 36 1,m 9 41,m 10 42] (S (T [m 43 10,no 44 43] (I 44 (Q [n 4 0,n 5 6]))) (T [n 11 5] (S (S (D [⟨m 45 0,0,0,0⟩,⟨z 46 45,1,0,0⟩,⟨f 47 0 46,2,0,0⟩,⟨l 48 1 47,3,1,0⟩,⟨m 49 9,4,0,0⟩,⟨bk 50 .quo 49 64,5,0,0⟩,⟨q2 51 72 48 50,6,3,0⟩,⟨m 52 0,7,0,0⟩,⟨z 53 52,8,0,0⟩,⟨f 54 1 53,9,0,0⟩,⟨l 55 1 54,10,1,0⟩,⟨b 56 .eql 51 55,11,0,1⟩]) (I 56 (D [⟨m 58 0,0,0,0⟩,⟨z 59 58,1,0,0⟩,⟨f 60 0 59,2,0,0⟩,⟨l 61 1 60,3,1,0⟩,⟨m 62 9,4,0,0⟩,⟨lg 63 3 3,5,1,0⟩,⟨q3 64 40 61 62 63,6,3,0⟩,⟨m 57 64,7,0,1⟩,⟨ex 65 57 0,8,0,1⟩,⟨ex 66 57 1,9,0,1⟩,⟨m 11 66,10,0,1⟩]))) (S (T [m 67 11,bk 68 .neq 67 0] (I 68 (T [m 69 0,lg 70 7 8,z 71 69,st 7 71 70] (Q [n 4 0,n 5 6])))) (Q [m 72 9,m 4 72,n 5 0]))))))))))),[r 4,r 5]⟩
theorem Grh:P 144=some GsT:=by kernel_rfl
def GpW:Gl:=⟨12,0,T [e 0 (.JR (c .Gc))] (Q [e 1 (.build [] []),e 2 (.SX 304 (t 1)),e 3 (.build [] []),e 4 (.SX 305 (t 3)),e 5 (.build [] []),e 6 (.SX 306 (t 5)),e 7 (.build [] []),e 8 (.SX 307 (t 7)),e 9 (.build [] []),e 10 (.SX 308 (t 9)),e 11 (.buildSlice 1 [.nilIface,.nilIface,.nilIface,.nilIface,.nilIface] 5 [(0,1,t 2),(1,1,t 4),(2,1,t 6),(3,1,t 8),(4,1,t 10)]),m 0 11]),[r 0]⟩
theorem Gqv:P 231=some GpW:=by kernel_rfl
def GqX:Gl:=⟨15,0,T [bo 3 0,n 6 0,nb 7 false] (Q [m 8 1,m 9 1,m 10 2,ca 11 337 [t 9,k 0,t 10],q2 12 336 8 11,ex 13 12 0,ex 14 12 1,m 6 13,m 7 14]),[r 6,r 7]⟩
theorem Gto:P 335=some GqX:=by kernel_rfl
def Gu8:Gl:=⟨23,0,T [n 4 0,nb 5 false] (S (T [m 8 1,le 9 8,bk 10 .gtr 9 0] (I 10 (Q [m 11 1,e 12 (.index 2 (t 11) (k 0)),f 13 0 12,l 14 1 13,m 4 14,nb 5 true]))) (T [m 16 0,q1 17 338 16,m 15 17,ex 18 15 0,ex 19 15 1,e 6 (.new [i 0,i 0]),st 2 6 18,m 7 19] (Q [f 20 0 6,l 21 1 20,m 22 7,m 4 21,m 5 22]))),[r 4,r 5]⟩
theorem Gud:P 336=some Gu8:=by kernel_rfl
end Go.Cs.Tryz
namespace Go.Cs
open Go
def Hp.spot(s:Hp)(sp:Int)(n:Nat):Hp×Option Nat:=match s.KH n (s.Ku sp s.blk.length)with
 |g::_=>(s,some g.1)
 |[]=>(s.took sp,s.Zk.map (64*·))
def Hp.alloc(s:Hp)(sp r d k:Int):Hp×Int×Int:=
 match(s.spot sp (Gt r.toNat d.toNat)).2 with
 |none=>((s.spot sp (Gt r.toNat d.toNat)).1,0,6)
 |some a=>
  if(((s.spot sp (Gt r.toNat d.toNat)).1.KT (a/64):Nat):Int)=sp∧((s.spot sp (Gt r.toNat d.toNat)).1.place a r d k).2.2=0 then(((s.spot sp (Gt r.toNat d.toNat)).1.place a r d k).1,a,0)
  else((s.spot sp (Gt r.toNat d.toNat)).1,0,6)
theorem Hp.Db{s:Hp}{n:Nat}{l:List Nat}{g:Nat×Nat}(h:g∈s.KH n l):∃b∈l,g∈s.gaps b:=by
 unfold Hp.KH at h
 grind
theorem Hp.Gc6{s:Hp}(k:s.Ok){sp:Int}{n a:Nat}(h:(s.spot sp n).2=some a):a/64<s.blk.length:=by
 have hnb:=k.nb
 unfold Hp.spot at h
 split at h
 ·rename_i g l hg
  simp only[GA]at h
  obtain⟨b,h1,h2⟩:=Hp.Db (s:=s) (n:=n) (l:=s.Ku sp s.blk.length) (g:=g) (by rw[hg];exact Nr)
  unfold Hp.Ku at h1
  rw[List.mem_filter,List.mem_range]at h1
  have:=Hp.IV h2
  omega
 ·rw[GJ]at h
  obtain⟨b,h1,rfl⟩:=h
  have:=Hp.U8 h1
  omega
theorem Hp.Ok.spot{s:Hp}(k:s.Ok){sp:Int}(hsp:0≤sp∧sp<8)(n:Nat):(s.spot sp n).1.Ok:=by
 unfold Hp.spot
 split
 ·exact k
 ·exact k.took hsp
theorem Hp.Rf{s:Hp}{sp:Int}{n:Nat}:(s.spot sp n).1.blk.length=s.blk.length∧(s.spot sp n).1.born=s.born∧(s.spot sp n).1.objs=s.objs∧(s.spot sp n).1.fwd=s.fwd:=by
 unfold Hp.spot
 split
 ·exact⟨rfl,rfl,rfl,rfl⟩
 ·unfold Hp.took
  grind
theorem Hp.Ge7{s:Hp}{a r d k:Int}(h:(s.place a r d k).2.2≠0):(s.place a r d k).1=s:=by
 unfold Hp.place at h⊢
 grind
end Go.Cs
namespace Go.Cs.Tryz
open Go Go.Cs
section
variable {H : Gb} {hb : Nat} {s : Hp} {L : G6} {ab : Nat} {sp pol : Int} {cu : Nat → Int}
theorem Ga9(p:PH H hb s L)(k:s.Ok)(hsp:0≤sp∧sp<8)(ha:H[ab]?=some ⟨IG hb sp pol cu,.rw,0⟩) (hab:ab∉L.all hb) {n:Nat} {v:CV} (hv:PL 0 H v (s.KH n (s.Ku sp s.blk.length))):
  ∃H',run P 336 [.ptr ab 0,v] H=some (match(s.spot sp n).2 with
   |some a=>.Jk [.i (a:Nat),.bool true]
   |none=>.Jk [.i 0,.bool false],H')∧Keeps H H' (·∈L.all hb)∧PH H' hb (s.spot sp n).1 L:=by
 have hvl:=hv.len H
 rw[Gi Gud _ _ sM]
 unfold Hp.spot
 cases hg:s.KH n (s.Ku sp s.blk.length)with
 |cons g l=>
  rw[hg]at hvl hv
  have c':decide ((0:Int)<(((g::l).length:Nat):Int))=true:=G7 sM
  obtain⟨b,i1,-,i3,i4,i5,-⟩:=PL.at hv (i:=0) (x:=g) rfl
  have i1':∀H':Gb,JU 2 v (.int .i64 0) H'=some (.ptr b (0*2),H'):=i1
  refine⟨H,?_,Keeps.refl _ _,p⟩
  have:=@Nat.zero_mul;exact W0
 |nil=>
  rw[hg]at hvl
  obtain⟨H',h1,h2,h3⟩:=Gaj p k hsp ha hab
  have c':decide ((0:Int)<((([]:List (Nat×Nat)).length:Nat):Int))=false:=rfl
  cases hb1:s.Zk with
  |some b=>
   rw[hb1]at h1
   refine⟨H'++[⟨[.i (64*b:Nat),.i (64*(b+1):Nat)],.rw,0⟩],?_,h2.app' _,h3.app _⟩
   exact W0
  |none=>
   rw[hb1]at h1
   refine⟨H'++[⟨[.i 0,.i 0],.rw,0⟩],?_,h2.app' _,h3.app _⟩
   exact W0
theorem WI(p:PH H hb s L)(k:s.Ok)(hz:s.Gw 0=0)(hsp:0≤sp∧sp<8)(ha:H[ab]?=some ⟨IG hb sp pol cu,.rw,0⟩) (hab:ab∉L.all hb) (n:Nat):
  ∃H',run P 335 [.agg [],.ptr ab 0,.i n] H=some (match(s.spot sp n).2 with
   |some a=>.Jk [.i (a:Nat),.bool true]
   |none=>.Jk [.i 0,.bool false],H')∧Keeps H H' (·∈L.all hb)∧PH H' hb (s.spot sp n).1 L:=by
 obtain⟨X,hX⟩:∃X:Gb,X=H++[⟨[],.rw,0⟩]:=⟨_,rfl⟩
 have gX:Gr H X:=by rw[hX];exact Gr.app H _
 obtain⟨v,H1,h1,g1,hv⟩:=Gbe (p.gr gX) k hz (gX.get ha) n
 have hv0:PL 0 H1 v (s.KH n (s.Ku sp s.blk.length)):=hv.frame (fun c h=>Gm.2 ⟨Nat.zero_le _,(Gm.1 h).2⟩) fun c h=>rfl
 have g:=gX.trans g1
 obtain⟨H2,h2,k2,p2⟩:=Ga9 (p.gr g) k hsp (Gr.get g ha) hab hv0
 have h1':run P 337 [.ptr ab 0,.int .i64 0,.i n] X=some (v,H1):=h1
 refine⟨H2,?_,(g.weaken fun _ h=>h.elim).trans k2,p2⟩
 rw[Gi Gto _ _ sM]
 refine GH ?_
 rw[←hX]
 refine W2 h1' h2 ?_
 cases (s.spot sp n).2 with
 |some a=>exact W0
 |none=>exact W0
def XA:List CV:=[.iface 304 (.agg []),.iface 305 (.agg []),.iface 306 (.agg []),.iface 307 (.agg []),.iface 308 (.agg [])]
theorem AA:run P 231 [] H=some (.slice H.length 0 5 5 1 false,H++[⟨XA,.rw,1⟩]):=by
 rw[Gi Gqv _ _ sM]
 have ci:∀t (x:CV),cellsOf (.iface t x)=[.iface t x]:=fun _ _=>rfl
 have:=@GcZ;have:=@Gic;refine WX ?_
 rfl
theorem GeU(p:PH H hb s L)(k:s.Ok)(hsp:0≤sp∧sp<8):∃ab H',run P 143 [.ptr hb 0,.i sp,.i 0] H=some (.Jk [.ptr ab 0,.i 0],H')∧Gr H H'∧H.length≤ab∧H'[ab]?=some ⟨IG hb sp 0 (fun _=>0),.rw,0⟩:=by
 have hnb:=k.nb
 have h1:=KA p k
 have h2:=AA (H:=H)
 have e1:((s.blk.length:Int)==0)=false:=by rw[UF];omega
 have c1:¬(sp<0):=by omega
 have c2:¬((8:Int)≤sp):=by omega
 refine⟨H.length+1,H++[⟨XA,.rw,1⟩]++[⟨IG hb sp 0 (fun _=>0),.rw,0⟩],?_,(Gr.app H _).app' _,oM,sM⟩
 rw[Gi c143 _ _ sM]
 refine GH ?_
 rfl
theorem Ga0(p:PH H hb s L)(k:s.Ok)(hz:s.Gw 0=0)(hsp:0≤sp∧sp<8)(hborn:s.born<1000000000000)(ha:H[ab]?=some ⟨IG hb sp 0 cu,.rw,0⟩) (hab:ab∉L.all hb) {r d kd:Int} (hv:JK r d kd=true) (hw:Gt r.toNat d.toNat≤32):
  ∃H',run P 144 [.ptr ab 0,.agg (Jb r d kd)] H=some (.Jk [.i (s.alloc sp r d kd).2.1,.i (s.alloc sp r d kd).2.2],H')∧Keeps H H' (fun c=>c∈L.all hb∨c=ab)∧PH H' hb (s.alloc sp r d kd).1 L:=by
 obtain⟨n,hn⟩:∃n,n=Gt r.toNat d.toNat:=⟨_,rfl⟩
 have hwI:Gy r d kd=(n:Int):=by unfold Gy;rw[if_pos hv,hn]
 rw[←hn]at hw
 obtain⟨X0,hX0⟩:∃X:Gb,X=H++[⟨Jb r d kd,.rw,0⟩]:=⟨_,rfl⟩
 have g0:Gr H X0:=by rw[hX0];exact Gr.app H _
 have t3:X0[H.length]?=some ⟨Jb r d kd,.rw,0⟩:=by rw[hX0];simp
 have h1:=GbB (g0.get ha)
 have h2:=Dk (H:=X0) r d kd
 rw[hv]at h2
 obtain⟨X1,hX1⟩:∃X:Gb,X=X0++[⟨Jb r d kd,.rw,0⟩]:=⟨_,rfl⟩
 have g1:Gr X0 X1:=by rw[hX1];exact Gr.app _ _
 rw[←hX1]at h2
 have h3:=YD (H:=X1) r d kd
 rw[hwI]at h3
 obtain⟨X2,hX2⟩:∃X:Gb,X=X1++[⟨Jb r d kd,.rw,0⟩]++[⟨Jb r d kd,.rw,0⟩]:=⟨_,rfl⟩
 have g2:Gr X1 X2:=by rw[hX2];exact(Gr.app _ _).app' _
 rw[←hX2]at h3
 have h4:=AA (H:=X2)
 obtain⟨X3,EA⟩:∃X:Gb,X=X2++[⟨XA,.rw,1⟩]:=⟨_,rfl⟩
 have g3:Gr X2 X3:=by rw[EA];exact Gr.app _ _
 have tp:X3[X2.length]?=some ⟨XA,.rw,1⟩:=by rw[EA];simp
 rw[←EA]at h4
 obtain⟨X4,Ib⟩:∃X:Gb,X=X3++[⟨IG hb sp 0 cu,.rw,0⟩]:=⟨_,rfl⟩
 have g4:Gr X3 X4:=by rw[Ib];exact Gr.app _ _
 have t8:X4[X3.length]?=some ⟨IG hb sp 0 cu,.rw,0⟩:=by rw[Ib];simp
 have g02:=g0.trans (g1.trans g2)
 have g03:=g02.trans g3
 have g04:=g03.trans g4
 have t31:=g1.get t3
 have t33:=Gr.get (g1.trans g2) t3
 have a2:=Gr.get g02 ha
 have a3:=Gr.get g03 ha
 have l04:=g04.len
 obtain⟨H5,h5,k5,p5⟩:=WI (p.gr g04) k hz hsp (Gr.get g04 ha) hab n
 have pl:=p.lt
 have GnF:X3.length∉L.all hb:=fun h=>by have:=pl _ h;have:=g03.len;omega
 have hHn:H.length∉L.all hb:=fun h=>by have:=pl _ h;omega
 have hc4:H.length<X4.length:=Gf (Gr.get ((g1.trans g2).trans (g3.trans g4)) t3)
 have a5:H5[ab]?=some ⟨IG hb sp 0 cu,.rw,0⟩:=(k5.keep ab (Gf (Gr.get g04 ha)) hab).trans (Gr.get g04 ha)
 have t85:H5[X3.length]?=some ⟨IG hb sp 0 cu,.rw,0⟩:=(k5.keep _ (Gf t8) GnF).trans t8
 have t35:H5[H.length]?=some ⟨Jb r d kd,.rw,0⟩:=(k5.keep _ hc4 hHn).trans (Gr.get ((g1.trans g2).trans (g3.trans g4)) t3)
 have kk:Keeps H H5 (·∈L.all hb):=(g04.weaken fun _ h=>h.elim).trans k5
 have hm:Au [(304, "dustcart/alloc.place",335),(305, "dustcart/alloc.place",340),(306, "dustcart/alloc.place",348),(307, "dustcart/alloc.place",349),(308, "dustcart/alloc.place",353)] 304 "dustcart/alloc.place" =some 335:=by decide +kernel
 have gt:decide ((32:Int)<(n:Int))=false:=G5 oM
 have h0f:((H++[(⟨Jb r d kd,.rw,0⟩:JD)])=X0):=hX0.symm
 unfold IG at a2 a3 t85 a5 Ib
 unfold Jb at h2 h3 t3 t31 t33 t35 h0f
 unfold XA at tp
 have hcs:∀c,cellsOf (.agg c)=c:=fun _=>rfl
 rw[Gi Grh _ _ sM]
 unfold Hp.alloc
 rw[←hn]
 unfold Jb
 refine W1 h0f ?_
 refine W13 h1 t3 h2 t31 h3 h4 a2 a3 tp @Gex @Glw gt hcs ?_
 rw[←Ib]
 have sb:=Hp.Rf (s:=s) (sp:=sp) (n:=n)
 have sk:=k.spot hsp n
 cases hs:(s.spot sp n).2 with
 |none=>
  rw[hs]at h5
  dsimp only at h5⊢
  refine⟨H5,?_,kk.weaken fun _ h=>.inl h,p5⟩
  simp(disch:=first|exact dz|fail) only[simprocAttr,Gx,↓reduceIte,Ja,D8 hm,h5]
 |some a=>
  rw[hs]at h5
  dsimp only at h5⊢
  have hal:=Hp.Gc6 k hs
  have hnb:=k.nb
  have hsp1:=Hl p5 sk (b:=a/64) oM
  have td:(a:Int).tdiv 64=((a/64:Nat):Int):=Nu a 64
  have wd:IntKind.i64.wrap ((a/64:Nat):Int)=((a/64:Nat):Int):=Gh oM
  have hkeep:∀Y,Keeps H5 Y (·∈L.all hb)→Y[ab]?=H5[ab]?∧Y[X3.length]?=H5[X3.length]?:=fun Y g=>⟨g.keep ab (Gf a5) hab,g.keep _ (Gf t85) GnF⟩
  by_cases cs:(((s.spot sp n).1.KT (a/64):Nat):Int)=sp
  ·have cs':((((s.spot sp n).1.KT (a/64):Nat):Int)==sp)=true:=by rw[beq_iff_eq];exact cs
   obtain⟨H6,h6,k6,p6⟩:=Dt p5 sk oM a r d kd
   unfold Jb Q9 at h6
   by_cases ce:((s.spot sp n).1.place a r d kd).2.2=0
   ·rw[if_pos ⟨cs,ce⟩]
    have ce':(((s.spot sp n).1.place a r d kd).2.2 != 0)=false:=by rw[ce];rfl
    refine⟨H6,?_,(kk.trans k6).weaken fun _ h=>.inl h,p6⟩
    simp(disch:=first|exact dz|fail) only[simprocAttr,Gx,↓reduceIte,Ja,D8 hm,h5,a5,DZ,td,wd,hsp1,cs',t35,h6,ce']
   ·rw[if_neg (fun h=>ce h.2)]
    have ce':(((s.spot sp n).1.place a r d kd).2.2 != 0)=true:=by simpa using ce
    have e6:=Hp.Ge7 ce
    rw[e6]at p6
    have a6:=(hkeep H6 k6).1.trans a5
    have t86:=(hkeep H6 k6).2.trans t85
    refine⟨_,?_,((kk.trans k6).weaken fun _ h=>.inl h).set (w:=fun c=>c∈L.all hb∨c=ab) (.inl (.inr rfl)) ⟨IG hb sp 0 cu,.rw,0⟩,p6.frame fun c hc=>by rw[NA];rintro rfl;exact hab hc⟩
    simp(disch:=first|exact dz|fail) only[simprocAttr,Gx,↓reduceIte,Ja,D8 hm,h5,a5,DZ,td,wd,hsp1,cs',t35,h6,ce',t86,a6,splice]
    rfl
  ·have cs':((((s.spot sp n).1.KT (a/64):Nat):Int)==sp)=false:=by rw[UF];exact cs
   rw[if_neg (fun h=>cs h.1)]
   refine⟨_,?_,(kk.weaken fun _ h=>.inl h).set (w:=fun c=>c∈L.all hb∨c=ab) (.inl (.inr rfl)) ⟨IG hb sp 0 cu,.rw,0⟩,p5.frame fun c hc=>by rw[NA];rintro rfl;exact hab hc⟩
   simp(disch:=first|exact dz|fail) only[simprocAttr,Gx,↓reduceIte,Ja,D8 hm,h5,a5,DZ,td,wd,hsp1,cs',t85,splice,show((5:Int) != 0)=true from rfl]
   rfl
end
end Go.Cs.Tryz
namespace Go.Cs.Tryz
open Go Go.Cs A
abbrev FL:Gq:=B 3 (T [f 24 0 2,l 25 1 24,m 26 7,m 27 8,q3 28 76 25 26 27,m 23 28,ex 29 23 0,ex 30 23 1,m 9 29,m 10 30] (S (T [m 31 9,bk 32 .eql 31 0] (I 32 (X 2))) (T [f 34 0 2,l 35 1 34,m 36 9,q2 37 75 35 36,m 33 37,ex 38 33 0,ex 39 33 1,e 11 (.new [i 0,i 0,i 0]),st 3 11 38,m 12 39] (T [f 41 0 2,l 42 1 41,m 43 9,ca 44 77 [t 42,t 43,k 0],m 40 44,ex 45 40 0,ex 46 40 1,m 13 45,m 14 46] (S (T [m 47 12,bk 48 .neq 47 0,m 49 48,gf 49 (lg 50 3 11),gf 49 (e 51 (.JR (c (.agg [i 3,i 1,i 2])))),gf 49 (e 52 (.eqs true 3 (t 50) (t 51))),or 53 49 52,m 54 53,gf 54 (m 55 5),gf 54 (m 56 9),gf 54 (e 57 (.Qg false .i64 (.bool false) (t 55) (t 56))),or 58 54 57,m 59 58,gf 59 (m 60 13),gf 59 (bk 61 .lss 60 1),or 62 59 61,m 63 62,gf 63 (m 64 13),gf 63 (bk 65 .rem 64 8),gf 63 (m 66 6),gf 63 (b 67 .neq 65 66),or 68 63 67] (I 68 (Q [nb 4 false]))) (T [m 69 5,m 70 9,u (.Uj .i64 (t 69) (t 70) (c (.bool true)))] (T [m 71 9,m 72 7,m 73 8,e 74 (.build [i 0,i 0,i 0,i 0,i 0] [(0,1,t 71),(1,1,t 72),(2,1,t 73)]),e 15 (.new [i 0,i 0,i 0,i 0,i 0]),st 5 15 74] (T [f 76 0 2,l 77 1 76,m 78 9,ca 79 76 [t 77,t 78,k 0],m 75 79,ex 80 75 0,ex 81 75 1,f 82 3 15,st 1 82 80] (T [f 84 0 2,l 85 1 84,m 86 9,ca 87 76 [t 85,t 86,k 1],m 83 87,ex 88 83 0,ex 89 83 1,f 90 4 15,st 1 90 88] (S (T [m 91 1,lg 92 5 15,e 93 (.N8 (t 91) [t 92] [(304,"dustcart/alloc.place",335),(305,"dustcart/alloc.place",340),(306,"dustcart/alloc.place",348),(307,"dustcart/alloc.place",349),(308,"dustcart/alloc.place",353)]),no 94 93] (I 94 (Q [nb 4 true]))) (R [m 95 9,m 7 95,n 8 2])))))))))))
abbrev MS:Gq:=T [bk 18 .lss 17 8] (S (J 18 (X 0)) (S (B 1 (T [m 19 17,m 6 19] (T [f 20 1 2,l 21 1 20,m 22 6,m 7 21,m 8 22] (B 2 (W FL))))) (R [bk 96 .add 17 1,m 17 96])))
def GqG:Gl:=⟨97,0,T [bo 2 0,nb 4 false] (T [e 16 .Vp,m 5 16] (S (T [n 17 0] (B 0 (W MS))) (Q [nb 4 true]))),[r 4]⟩
theorem c117:P 117=some GqG:=by kernel_rfl
end Go.Cs.Tryz
namespace Go.Cs
open Go
structure Bv where
 addr:Int
 fr:Int
 ref:Int
 key:Int
 val:Int
def Nh(x:Bv):List CV:=[.i x.addr,.i x.fr,.i x.ref,.i x.key,.i x.val]
def Hp.FM(s:Hp)(a:Int):Bool:=match s.obj a with
 |some o=>o.refs.length==3&&(o.data.length==1&&o.kd==2)
 |none=>false
def Hp.D5(s:Hp)(b:Nat)(a:Int):Bool:=s.FM a&&(decide (1≤(s.JM a 0).1)&&(s.JM a 0).1.tmod 8==(b:Int))
def Hp.Gc4(s:Hp)(fr rf:Int):Bv:=⟨(s.GN fr rf).1,fr,rf,(s.GN (s.GN fr rf).1 0).1,(s.GN (s.GN fr rf).1 1).1⟩
def Hp.chain(s:Hp)(b:Nat):Nat→Int→Int→List Int→List Bv×List Int×Bool
 |0,_,_,seen=>([],seen,false)
 |q+1,fr,rf,seen=>
  if(s.GN fr rf).1=0 then([],seen,true)
  else if s.D5 b (s.GN fr rf).1=true∧(s.GN fr rf).1∉seen then
   (s.Gc4 fr rf::(s.chain b q (s.GN fr rf).1 2 (seen++[(s.GN fr rf).1])).1,(s.chain b q (s.GN fr rf).1 2 (seen++[(s.GN fr rf).1])).2)
  else([],seen,false)
def Hp.tabs(s:Hp)(head:Int):Nat→Nat→List Int→List Bv×Bool
 |0,_,_=>([],true)
 |q+1,b,seen=>
  if(s.chain b (4097-seen.length) head b seen).2.2=true then
   ((s.chain b (4097-seen.length) head b seen).1++(s.tabs head q (b+1) (s.chain b (4097-seen.length) head b seen).2.1).1,(s.tabs head q (b+1) (s.chain b (4097-seen.length) head b seen).2.1).2)
  else((s.chain b (4097-seen.length) head b seen).1,false)
def Hp.walk(s:Hp)(head:Int):List Bv×Bool:=s.tabs head 8 0 []
theorem Hp.Ub{s:Hp}{b q:Nat}{fr rf:Int}{seen:List Int}:s.chain b (q+1) fr rf seen=if(s.GN fr rf).1=0 then([],seen,true)
 else if s.D5 b (s.GN fr rf).1=true∧(s.GN fr rf).1∉seen then
  (s.Gc4 fr rf::(s.chain b q (s.GN fr rf).1 2 (seen++[(s.GN fr rf).1])).1,(s.chain b q (s.GN fr rf).1 2 (seen++[(s.GN fr rf).1])).2)
 else([],seen,false):=rfl
theorem Glz{H:Gb}{r d k:Nat}:P6 true 3 (.agg [.i r,.i d,.i k]) (.agg [.int .i64 3,.int .i64 1,.int .i64 2]) H=some (.bool (!(r==3&&(d==1&&k==2))),H):=by
 have e1:∀a b:Nat,((a:Int)==(b:Int))=(a==b):=fun a b=>by rw[Bool.eq_iff_iff];simp;omega
 have h3:=e1 r 3
 have h1:=e1 d 1
 have h2:=e1 k 2
 simp only[P6,Nv,List.length_cons,List.length_nil,if_true,Option.map_some,Bool.and_true]
 rw[←h3,←h1,←h2];rfl
end Go.Cs
namespace Go.Cs.Tryz
open Go Go.Cs
section
variable {H : Gb} {hb : Nat} {s : Hp} {L : G6}
theorem Hp.Fx{s:Hp}(hs:Ql s)(a i:Int):(s.GN a i).1=0∨s.has (s.GN a i).1=true:=by
 unfold Hp.GN
 cases h:s.obj a with
 |none=>exact .inl rfl
 |some o=>
  dsimp only
  split
  ·rename_i c
   rw[WE]
   cases e:o.refs[i.toNat]? with
   |none=>exact .inl rfl
   |some x=>exact hs o (Hp.GV h).1 x (JV e)
  ·exact .inl rfl
structure EY(N f:Nat)(caps:List CV)(hb:Nat)(s:Hp)(L:G6)(all:List Bv)(cont:Nat→Bool)(Inv Fin:Nat→(Nat→Prop)→Gb→Prop):Prop where
 lt:f<1000000
 ph:∀i W H,Inv i W H→PH H hb s L
 gr:∀i W H H' m,Inv i W H→N≤m→¬W m→Keeps H H' (·=m)→Inv i W H'
 go:∀i W H x,all[i]?=some x→N≤H.length→Inv i W H→∃W' H',run P f (.agg (Nh x)::caps) H=some (.bool (cont i),H')∧Keeps H H' W∧(∀c,W' c→W c∨H.length≤c)∧(cont i=true→Inv (i+1) W' H')∧(cont i=false→Fin i W' H')
structure AW(H:Gb)(N M hb:Nat)(s:Hp)(head:Int)(c2 mb:Nat)(W0:Nat→Prop)(cont:Nat→Bool)(Inv:Nat→(Nat→Prop)→Gb→Prop)(i:Nat)(seen:List Int)(H':Gb):Prop where
 inv:∃W,Inv i W H'∧¬W mb∧¬W c2∧∀c,W c→W0 c∨H.length≤c
 kp:Keeps H H' (fun c=>W0 c∨c=mb)
 t2:H'[c2]?=some ⟨[.ptr hb 0,.i head],.rw,0⟩
 ks:N9 H' mb s seen
 on:∀j,j<i→cont j=true
 le:i≤M
theorem GjH{N f:Nat}{caps:List CV}{all:List Bv}{cont:Nat→Bool}{Inv Fin:Nat→(Nat→Prop)→Gb→Prop}(k:s.Ok)(hs:Ql s)(y:EY N f caps hb s L all cont Inv Fin)
  {head:Int}(hhd:head≤9223372036854775807){c2 mb b:Nat}{W0:Nat→Prop}(hN:N≤c2∧N≤mb∧c2≠mb∧c2<H.length∧mb<H.length)(hb8:b<8)(h0:s.has 0=false)
  {i0:Nat}{Qw:List Int}{rest:List Bv}{H1:Gb}(a0:AW H N all.length hb s head c2 mb W0 cont Inv i0 Qw H1)(hd0:all.drop i0=(s.chain b (4097-Qw.length) head b Qw).1++rest)
  {E0:Env}(e01:E0 1=.func f caps)(e02:E0 2=.ptr c2 0)(e05:E0 5=.GI mb)(e06:E0 6=.i b)(e07:E0 7=.i head)(e08:E0 8=.i b){r:Option (CX×Env×Gb)}(hr:den P (.loop FL) E0 H1=r):
  ∃x E' H',r=some (x,E',H')∧(∀t,t∉wr FL→E' t=E0 t)∧
   (
    (x=.exit 2∧(s.chain b (4097-Qw.length) head b Qw).2.2=true∧∃i,AW H N all.length hb s head c2 mb W0 cont Inv i (s.chain b (4097-Qw.length) head b Qw).2.1 H'∧all.drop i=rest)∨
    (x=.ret∧E' 4=.bool false∧(s.chain b (4097-Qw.length) head b Qw).2.2=false∧∃i seen,AW H N all.length hb s head c2 mb W0 cont Inv i seen H'∧all.drop i=rest)∨
    (x=.ret∧E' 4=.bool true∧∃i W,i<all.length∧(∀j,j<i→cont j=true)∧cont i=false∧Fin i W H'∧Keeps H H' (fun c=>W0 c∨c=mb))):=by
 obtain⟨x',E',H',e,-,hf,fr⟩:=Gs (p:=P) (c:=FL) (E0:=E0) (H0:=H1)
  (fun q E H'=>∃(i:Nat)(seen:List Int)(fr rf:Int),AW H N all.length hb s head c2 mb W0 cont Inv i seen H'∧q=4097-seen.length∧fr≤9223372036854775807∧E 7=.i fr∧E 8=.i rf∧
   all.drop i=(s.chain b (4097-seen.length) fr rf seen).1++rest∧(s.chain b (4097-seen.length) fr rf seen).2=(s.chain b (4097-Qw.length) head b Qw).2)
  (fun x E' H'=>((x=.exit 2∧(s.chain b (4097-Qw.length) head b Qw).2.2=true∧∃i,AW H N all.length hb s head c2 mb W0 cont Inv i (s.chain b (4097-Qw.length) head b Qw).2.1 H'∧all.drop i=rest)∨
    (x=.ret∧E' 4=.bool false∧(s.chain b (4097-Qw.length) head b Qw).2.2=false∧∃i seen,AW H N all.length hb s head c2 mb W0 cont Inv i seen H'∧all.drop i=rest)∨
    (x=.ret∧E' 4=.bool true∧∃i W,i<all.length∧(∀j,j<i→cont j=true)∧cont i=false∧Fin i W H'∧Keeps H H' (fun c=>W0 c∨c=mb)))) (by
   rintro q E H' hE ⟨i,seen,fr,rf,a,rfl,hfr,e7,e8,hd,hc⟩
   have e1:=(hE 1 dK).trans e01
   have e2:=(hE 2 dK).trans e02
   have e5:=(hE 5 dK).trans e05
   have e6:=(hE 6 dK).trans e06
   obtain⟨W,hI,nW1,nW2,hWn⟩:=a.inv
   have t2:=a.t2
   have few:=a.ks.few k
   have p:=y.ph _ _ _ hI
   obtain⟨X1,r1,g1⟩:=KE p k fr rf hfr
   unfold Q9 at r1
   obtain⟨ad,had⟩:∃ad,ad=(s.GN fr rf).1:=⟨_,rfl⟩
   have hq:4097-seen.length=(4097-(seen.length+1))+1:=by omega
   rw[hq]at hd hc
   rw[Hp.Ub]at hd hc
   have hent:s.Gc4 fr rf=⟨ad,fr,rf,(s.GN ad 0).1,(s.GN ad 1).1⟩:=by rw[had];rfl
   rw[hent]at hd
   rw[←had]at hd hc r1
   have step:∀Y,Gr H' Y→AW H N all.length hb s head c2 mb W0 cont Inv i seen Y:=fun Y g=>⟨⟨W,y.gr i W H' Y mb hI hN.2.1 nW1 (Gr.mb g mb),nW1,nW2,hWn⟩,a.kp.trans (g.weaken fun _ h=>h.elim),g.get t2,a.ks.frame (g.keep mb a.ks.m.lt fun h=>h),a.on,a.le⟩
   by_cases c0:ad=0
   · rw[if_pos c0]at hd hc
     have c0':(ad==0)=true:=by rw[c0];rfl
     have aS:=step X1 g1
     apply Gj (x:=.exit 2)
     ·refine W6 e2 e7 e8 t2 r1 c0' ?_
      rfl
     ·simp
     grind
   rw[if_neg c0]at hd hc
   have c0':(ad==0)=false:=by rw[UF];exact c0
   have hhas:s.has ad=true:=by rcases Hp.Fx hs fr rf with h|h<;>rw[←had]at h;exact absurd h c0;exact h
   obtain⟨o,ho⟩:=Hp.J2.1 hhas
   have halt:=k.has_lt hhas
   have hle:ad≤9223372036854775807:=by omega
   have hok:=k.ob o (Hp.GV ho).1
   have hnr:=hok.nr
   have hnd:=hok.nd
   obtain⟨X2,r2,g2⟩:=NJ (p.gr g1) k ad hle
   have hsA:s.JO ad=(Jb o.refs.length o.data.length o.kd,0):=by unfold Hp.JO;rw[ho]
   rw[hsA]at r2
   obtain⟨Y2,hY2⟩:∃X:Gb,X=X2++[⟨Jb o.refs.length o.data.length o.kd,.rw,0⟩]:=⟨_,rfl⟩
   have gY2:Gr X2 Y2:=by rw[hY2];exact Gr.app _ _
   have t11:Y2[X2.length]?=some ⟨Jb o.refs.length o.data.length o.kd,.rw,0⟩:=by rw[hY2];simp
   have g12:=(g1.trans g2).trans gY2
   obtain⟨X3,r3,g3⟩:=FD (p.gr g12) k ad 0 hle
   unfold Q9 at r3
   have r3':run P 77 [.ptr hb 0,.i ad,.int .i64 0] Y2=some (.Jk [.i (s.JM ad 0).1,.i (s.JM ad 0).2],X3):=r3
   obtain⟨d0,hd0⟩:∃d0,d0=(s.JM ad 0).1:=⟨_,rfl⟩
   rw[←hd0]at r3'
   have g13:Gr H' X3:=g12.trans g3
   have aS:=step X3 g13
   have tA:=g1.get t2
   have tB:=Gr.get g12 t2
   have tC:=Gr.get g13 t2
   have Gcp:=g3.get t11
   have hget:=aS.ks.get ad
   have hE3:=fun X=>Glz (H:=X) (r:=o.refs.length) (d:=o.data.length) (k:=o.kd)
   unfold Jb at r2 t11 Gcp hY2
   have hsE:s.FM ad=(o.refs.length==3&&(o.data.length==1&&o.kd==2)):=by unfold Hp.FM;rw[ho]
   have bad:¬(s.D5 b ad=true∧ad∉seen)→∃E3,den P FL E H'=some (.ret,E3,X3)∧E3 4=.bool false:=by
     intro hn
     by_cases q1:(o.refs.length==3&&(o.data.length==1&&o.kd==2))=true
     rotate_left
     ·have q1':(!(o.refs.length==3&&(o.data.length==1&&o.kd==2)))=true:=by rw[Bool.eq_false_iff.2 q1];rfl
      refine W9 e2 e7 e8 t2 r1 c0' tA r2 @Gu ?_
      rw[←hY2]
      refine W5 tB r3' Gcp hE3 q1' ?_
      exact⟨_,rfl,uA⟩
     have q1':(!(o.refs.length==3&&(o.data.length==1&&o.kd==2)))=false:=by rw[q1];rfl
     by_cases q2:ad∈seen
     ·rw[G7 q2]at hget
      refine W9 e2 e7 e8 t2 r1 c0' tA r2 @Gu ?_
      rw[←hY2]
      refine W8 e5 tB r3' Gcp hE3 q1' @Jz hget ?_
      exact⟨_,rfl,uA⟩
     rw[G5 q2]at hget
     by_cases q3:d0<1
     ·have q3':decide (d0<1)=true:=G7 q3
      refine W9 e2 e7 e8 t2 r1 c0' tA r2 @Gu ?_
      rw[←hY2]
      refine W9 e5 tB r3' Gcp hE3 q1' @Jz hget q3' ?_
      exact⟨_,rfl,uA⟩
     have q3':decide (d0<1)=false:=G5 q3
     have q4:(d0.tmod 8 != (b:Int))=true:=by
      rw[bne_iff_ne]
      intro h4
      refine hn ⟨?_,q2⟩
      unfold Hp.D5
      grind
     refine W9 e2 e7 e8 t2 r1 c0' tA r2 @Gu ?_
     rw[←hY2]
     refine W12 e5 e6 tB r3' Gcp hE3 q1' @Jz hget q3' @GD q4 ?_
     exact⟨_,rfl,uA⟩
   by_cases cg:s.D5 b ad=true∧ad∉seen
   · rw[if_pos cg]at hd hc
     dsimp only at hd hc
     have cg1:=cg.1
     unfold Hp.D5 at cg1
     rw[hsE,←hd0]at cg1
     obtain⟨q1,q34⟩:=Bool.and_eq_true_iff.1 cg1
     obtain⟨q3,q4⟩:=Bool.and_eq_true_iff.1 q34
     rw[decide_eq_true_iff]at q3
     rw[beq_iff_eq]at q4
     have q1':(!(o.refs.length==3&&(o.data.length==1&&o.kd==2)))=false:=by rw[q1];rfl
     have q3':decide (d0<1)=false:=G5 oM
     have q4':(d0.tmod 8 != (b:Int))=false:=by rw[q4];simp
     rw[G5 cg.2]at hget
     obtain⟨X4,m1,k4,ks4,l4⟩:=aS.ks.add hhas cg.2
     have k04:Keeps H' X4 (·=mb):=(Gr.mb g13 mb).trans k4
     have lH:=a.kp.len
     have l13:=g13.len
     have t24:X4[c2]?=_:=(k4.keep c2 (Gf tC) hN.2.2.1).trans tC
     have stepM:∀Y,Keeps H' Y (·=mb)→Inv i W Y:=fun Y g=>y.gr i W H' Y mb hI hN.2.1 nW1 g
     obtain⟨Y4,hY4⟩:∃X:Gb,X=X4++[⟨[.i ad,.i fr,.i rf,.i 0,.i 0],.rw,0⟩]:=⟨_,rfl⟩
     have gY4:Gr X4 Y4:=by rw[hY4];exact Gr.app _ _
     have t15:Y4[X4.length]?=some ⟨[.i ad,.i fr,.i rf,.i 0,.i 0],.rw,0⟩:=by rw[hY4];simp
     obtain⟨X5,r5,g5⟩:=KE (y.ph _ _ _ (stepM Y4 (k04.trans (Gr.mb gY4 mb)))) k ad 0 hle
     unfold Q9 at r5
     have r5':run P 76 [.ptr hb 0,.i ad,.int .i64 0] Y4=some (.Jk [.i (s.GN ad 0).1,.i (s.GN ad 0).2],X5):=r5
     have Gnq:=g5.get t15
     have g45:=gY4.trans g5
     obtain⟨Y5,hY5⟩:∃X:Gb,X=X5.set X4.length ⟨[.i ad,.i fr,.i rf,.i (s.GN ad 0).1,.i 0],.rw,0⟩:=⟨_,rfl⟩
     have gY5:Gr X4 Y5:=by rw[hY5];exact Keeps.set (w:=fun _=>False) g45 (.inr (Nat.le_refl _)) _
     have Gul:Y5[X4.length]?=some ⟨[.i ad,.i fr,.i rf,.i (s.GN ad 0).1,.i 0],.rw,0⟩:=by grind
     obtain⟨X6,r6,g6⟩:=KE (y.ph _ _ _ (stepM Y5 (k04.trans (Gr.mb gY5 mb)))) k ad 1 hle
     unfold Q9 at r6
     have r6':run P 76 [.ptr hb 0,.i ad,.int .i64 1] Y5=some (.Jk [.i (s.GN ad 1).1,.i (s.GN ad 1).2],X6):=r6
     have t156:=g6.get Gul
     have g46:=gY5.trans g6
     obtain⟨Y6,hY6⟩:∃X:Gb,X=X6.set X4.length ⟨[.i ad,.i fr,.i rf,.i (s.GN ad 0).1,.i (s.GN ad 1).1],.rw,0⟩:=⟨_,rfl⟩
     have gY6:Gr X4 Y6:=by rw[hY6];exact Keeps.set (w:=fun _=>False) g46 (.inr (Nat.le_refl _)) _
     have Gk8:Y6[X4.length]?=some ⟨[.i ad,.i fr,.i rf,.i (s.GN ad 0).1,.i (s.GN ad 1).1],.rw,0⟩:=by grind
     have k06:Keeps H' Y6 (·=mb):=k04.trans (Gr.mb gY6 mb)
     have hx:all[i]?=some ⟨ad,fr,rf,(s.GN ad 0).1,(s.GN ad 1).1⟩:=by
      have h0:(all.drop i)[0]?=all[i]?:=by rw[BQ];rfl
      rw[←h0,hd];rfl
     have l06:=k06.len
     obtain⟨W',X7,r7,k7,w7,i7,f7⟩:=y.go i W Y6 _ hx oM (stepM Y6 k06)
     unfold Nh at r7
     dsimp only at r7
     have h2t:Y6[c2]?=_:=(k06.keep c2 (Gf t2) hN.2.2.1).trans t2
     have tq4:Y4[c2]?=_:=gY4.get t24
     have tq5:Y5[c2]?=_:=gY5.get t24
     have tx5:X5[c2]?=_:=Gr.get g45 t24
     have nmb:¬W' mb:=fun h=>by grind
     have nc2:¬W' c2:=fun h=>by grind
     have kH7:Keeps H X7 (fun c=>W0 c∨c=mb):=⟨by have:=k7.len;omega,fun c hc hn=>by
      rw[k7.keep c oM (fun h=>by grind),k06.keep c oM (fun h=>hn (.inr h)),a.kp.keep c hc hn]⟩
     have hyl:=y.lt
     cases hcn:cont i with
     |true=>
      rw[hcn]at r7
      apply Gp (k':=4097-(seen.length+1))
      ·refine W9 e2 e7 e8 t2 r1 c0' tA r2 @Gu ?_
       rw[←hY2]
       refine W20 e2 e5 e6 e7 e8 tB r3' Gcp hE3 q1' @Jz hget q3' @GD q4' @Ue m1 t24 @J5 @Gu ?_
       rw[←hY4]
       refine W4 e2 r5' Gnq tx5 ?_
       rw[←hY5]
       refine W3 e1 r6' t156 ?_
       rw[←hY6]
       refine W4 Gk8 @Ja @JH r7 ?_
       rfl
      ·omega
      ·refine⟨i+1,seen++[ad],ad,2,⟨⟨W',i7 hcn,nmb,nc2,fun c h=>?_⟩,kH7,?_,?_,fun j hj=>?_,Gf hx⟩,by rw[QU];rfl,hle,uA,uA,?_,?_⟩
       ·grind
       ·rw[k7.keep c2 (Gf h2t) nW2,h2t]
       ·refine ks4.frame ?_
        rw[k7.keep mb oM nW1,gY6.keep mb ks4.m.lt fun h=>h]
       ·rcases Yg j i with h|h
        ·exact a.on j h
        ·rw[show j=i by omega];exact hcn
       ·rw[QU,List.length_singleton]
        have:all.drop (i+1)=(all.drop i).tail:=by rw[List.tail_drop]
        rw[this,hd];rfl
       grind
     |false=>
      rw[hcn]at r7
      apply Gj (x:=.ret)
      ·refine W9 e2 e7 e8 t2 r1 c0' tA r2 @Gu ?_
       rw[←hY2]
       refine W20 e2 e5 e6 e7 e8 tB r3' Gcp hE3 q1' @Jz hget q3' @GD q4' @Ue m1 t24 @J5 @Gu ?_
       rw[←hY4]
       refine W4 e2 r5' Gnq tx5 ?_
       rw[←hY5]
       refine W3 e1 r6' t156 ?_
       rw[←hY6]
       refine W4 Gk8 @Ja @JH r7 ?_
       rfl
      ·simp
      ·right;right
       exact⟨rfl,uA,i,W',Gf hx,a.on,hcn,f7 hcn,kH7⟩
   grind) _ ⟨i0,Qw,head,b,a0,rfl,hhd,e07,e08,hd0,rfl⟩
 grind
end
end Go.Cs.Tryz

namespace Go.Cs
open Go
theorem Hp.Yr{s:Hp}{head:Int}{q b:Nat}{seen:List Int}:s.tabs head (q+1) b seen=
 if(s.chain b (4097-seen.length) head b seen).2.2=true then
  ((s.chain b (4097-seen.length) head b seen).1++(s.tabs head q (b+1) (s.chain b (4097-seen.length) head b seen).2.1).1,(s.tabs head q (b+1) (s.chain b (4097-seen.length) head b seen).2.1).2)
 else((s.chain b (4097-seen.length) head b seen).1,false):=rfl
end Go.Cs
namespace Go.Cs.Tryz
open Go Go.Cs
section
variable {H : Gb} {hb : Nat} {s : Hp} {L : G6}
theorem Gl5{N f:Nat}{caps:List CV}{all:List Bv}{cont:Nat→Bool}{Inv Fin:Nat→(Nat→Prop)→Gb→Prop}(k:s.Ok)(hs:Ql s)(y:EY N f caps hb s L all cont Inv Fin)
  {head:Int}(hhd:head≤9223372036854775807){c2 mb:Nat}{W0:Nat→Prop}(hN:N≤c2∧N≤mb∧c2≠mb∧c2<H.length∧mb<H.length)(h0:s.has 0=false)(a0:AW H N all.length hb s head c2 mb W0 cont Inv 0 [] H)(hall:all=(s.walk head).1)
  {E0:Env}(e01:E0 1=.func f caps)(e02:E0 2=.ptr c2 0)(e05:E0 5=.GI mb)(GsP:E0 17=.i 0){r:Option (CX×Env×Gb)}(hr:den P (.loop MS) E0 H=r):
  ∃x E' H',r=some (x,E',H')∧
   (
    (x=.exit 0∧(s.walk head).2=true∧∃seen,AW H N all.length hb s head c2 mb W0 cont Inv all.length seen H')∨
    (x=.ret∧E' 4=.bool false∧(s.walk head).2=false∧∃seen,AW H N all.length hb s head c2 mb W0 cont Inv all.length seen H')∨
    (x=.ret∧E' 4=.bool true∧∃i W,i<all.length∧(∀j,j<i→cont j=true)∧cont i=false∧Fin i W H'∧Keeps H H' (fun c=>W0 c∨c=mb))):=by
 obtain⟨x',E',H',e,-,hf,fr⟩:=Gs (p:=P) (c:=MS) (E0:=E0) (H0:=H)
  (fun q E H'=>∃(j i:Nat)(seen:List Int),E 17=.i j∧j≤8∧q=8-j∧i≤all.length∧AW H N all.length hb s head c2 mb W0 cont Inv i seen H'∧all.drop i=(s.tabs head (8-j) j seen).1∧(s.tabs head (8-j) j seen).2=(s.walk head).2)
  (fun x E' H'=>((x=.exit 0∧(s.walk head).2=true∧∃seen,AW H N all.length hb s head c2 mb W0 cont Inv all.length seen H')∨
    (x=.ret∧E' 4=.bool false∧(s.walk head).2=false∧∃seen,AW H N all.length hb s head c2 mb W0 cont Inv all.length seen H')∨
    (x=.ret∧E' 4=.bool true∧∃i W,i<all.length∧(∀j,j<i→cont j=true)∧cont i=false∧Fin i W H'∧Keeps H H' (fun c=>W0 c∨c=mb)))) (by
   rintro q E H' hE ⟨j,i,seen,e17,hj,rfl,hi,a,hd,hok⟩
   have e1:=(hE 1 dK).trans e01
   have e2:=(hE 2 dK).trans e02
   have e5:=(hE 5 dK).trans e05
   have t2:=a.t2
   have full:∀i',i'≤all.length→all.drop i'=[]→i'=all.length:=fun i' h1 h2=>by
     have:=congrArg List.length h2
     grind
   by_cases c:j<8
   · have c':decide ((j:Int)<8)=true:=G7 oM
     rw[show 8-j=(8-(j+1))+1 by omega,Hp.Yr]at hd hok
     have w1:IntKind.i64.wrap ((j:Int)+1)=((j+1:Nat):Int):=Gh oM
     obtain⟨q8,hq8⟩:∃q8,q8=8-(j+1):=⟨_,rfl⟩
     rw[←hq8]at hd hok
     suffices∃E1 H1 x1,den P MS E H'=some (x1,E1,H1)∧
       (
        (x1=.normal∧E1 17=.i ((j+1:Nat):Int)∧∃i' seen',i'≤all.length∧AW H N all.length hb s head c2 mb W0 cont Inv i' seen' H1∧all.drop i'=(s.tabs head q8 (j+1) seen').1∧(s.tabs head q8 (j+1) seen').2=(s.walk head).2)∨
        (x1=.ret∧E1 4=.bool false∧(s.walk head).2=false∧∃seen,AW H N all.length hb s head c2 mb W0 cont Inv all.length seen H1)∨
        (x1=.ret∧E1 4=.bool true∧∃i W,i<all.length∧(∀j,j<i→cont j=true)∧cont i=false∧Fin i W H1∧Keeps H H1 (fun c=>W0 c∨c=mb)))by
      obtain⟨E1,H1,x1,d1,h|h|h⟩:=this
      ·obtain⟨rfl,d2,i',seen',d3,d4,d5,d6⟩:=h
       apply Gp (k':=8-(j+1)) d1
       · omega
       · exact⟨j+1,i',seen',d2,oM,rfl,d3,d4,by rw[←hq8];exact d5,by rw[←hq8];exact d6⟩
      ·grind
      grind
     obtain⟨rest,hrest,hok2,Gq5⟩:∃rest,all.drop i=(s.chain j (4097-seen.length) head j seen).1++rest∧((s.chain j (4097-seen.length) head j seen).2.2=true→rest=(s.tabs head q8 (j+1) (s.chain j (4097-seen.length) head j seen).2.1).1∧(s.tabs head q8 (j+1) (s.chain j (4097-seen.length) head j seen).2.1).2=(s.walk head).2)∧((s.chain j (4097-seen.length) head j seen).2.2=false→rest=[]∧(s.walk head).2=false):=by
      by_cases cc:(s.chain j (4097-seen.length) head j seen).2.2=true
      ·grind
      simp_all
     refine W4 e2 e17 c' t2 ?_
     generalize hr:den P (.loop FL) _ _=r
     obtain⟨x1,E1,H1,rfl,fr1,h|h|h⟩:=GjH k hs y hhd hN c h0 a hrest (by simp[Gg,e1]) (by simp[Gg,e2]) (by simp[Gg,e5]) uA uA uA hr
     ·obtain⟨rfl,g1,i',g2,g3⟩:=h
      have f17:=fr1 17 dK
      simp only[Gg,Nat.reduceEqDiff,↓reduceIte,e17]at f17
      obtain⟨q1,q2⟩:=hok2 g1
      refine W2 f17 w1 ?_
      exact⟨_,H1,_,rfl,.inl ⟨rfl,uA,i',_,g2.le,g2,by rw[g3,q1],q2⟩⟩
     ·obtain⟨rfl,g1,g2,i',seen',g3,g4⟩:=h
      obtain⟨q1,q2⟩:=Gq5 g2
      simp(disch:=first|exact dz|fail) only[simprocAttr,Gx,↓reduceIte]
      exact⟨_,H1,_,rfl,.inr (.inl ⟨rfl,g1,q2,seen',by have e:=full i' g3.le (by rw[g4,q1]);rw[e]at g3;exact g3⟩)⟩
     ·obtain⟨rfl,g1,g2⟩:=h
      simp(disch:=first|exact dz|fail) only[simprocAttr,Gx,↓reduceIte]
      grind
   · have c':decide ((j:Int)<8)=false:=G5 oM
     rw[show 8-j=0 by omega]at hd hok
     apply Gj (x:=.exit 0)
     ·refine GH ?_
      rfl
     ·simp
     ·exact .inl ⟨rfl,hok.symm,seen,by have e:=full i hi hd;rw[e]at a;exact a⟩) _ ⟨0,0,[],GsP,oM,rfl,oM,a0,by rw[hall];rfl,rfl⟩
 grind
theorem EH{N f:Nat}{caps:List CV}{cont:Nat→Bool}{Inv Fin:Nat→(Nat→Prop)→Gb→Prop}{head:Int}(k:s.Ok)(hs:Ql s)(h0:s.has 0=false)(y:EY N f caps hb s L (s.walk head).1 cont Inv Fin)
  (hhd:head≤9223372036854775807){W0:Nat→Prop}(hI:Inv 0 W0 H)(hW:∀c,W0 c→c<H.length)(hN:N≤H.length):
  ∃ok H',run P 117 [.agg [.ptr hb 0,.i head],.func f caps] H=some (.bool ok,H')∧Keeps H H' W0∧
   (
    (ok=(s.walk head).2∧(∀j,j<(s.walk head).1.length→cont j=true)∧∃W,Inv (s.walk head).1.length W H'∧∀c,W c→W0 c∨H.length≤c)∨
    (ok=true∧∃i W,i<(s.walk head).1.length∧(∀j,j<i→cont j=true)∧cont i=false∧Fin i W H')):=by
 obtain⟨X,hX⟩:∃X:Gb,X=H++[⟨[.ptr hb 0,.i head],.rw,0⟩]++[⟨[],.map,0⟩]:=⟨_,rfl⟩
 have gX:Gr H X:=by rw[hX];exact(Gr.app H _).app' _
 have lX:X.length=H.length+2:=by rw[hX];simp
 have t2:X[H.length]?=some ⟨[.ptr hb 0,.i head],.rw,0⟩:=by rw[hX];simp
 have hm:NQ X (H.length+1) (fun _=>none) []:=by
  have:=NQ.new (H++[⟨[.ptr hb 0,.i head],.rw,0⟩])
  grind
 have ks:N9 X (H.length+1) s []:=⟨by simpa using hm,fun x hx=>by cases hx⟩
 have a0:AW X N (s.walk head).1.length hb s head H.length (H.length+1) W0 cont Inv 0 [] X:=⟨⟨W0,y.gr 0 W0 H X (H.length+1) hI oM (fun h=>by have:=hW _ h;omega) (Gr.mb gX _),fun h=>by have:=hW _ h;omega,fun h=>by have:=hW _ h;omega,fun c h=>.inl h⟩,Keeps.refl _ _,t2,ks,fun j h=>by omega,Nat.zero_le _⟩
 rw[Gi c117 _ _ sM]
 have:=@Dr;refine GH ?_
 rw[←hX]
 generalize hr:den P (.loop MS) _ _=r
 obtain⟨x,E',H',rfl,h⟩:=Gl5 k hs y hhd (c2:=H.length) (mb:=H.length+1) oM h0 a0 rfl uA uA uA uA hr
 have kp:∀{D:Nat→Prop},Keeps X H' (fun c=>W0 c∨c=H.length+1)→Keeps H H' W0:=fun g=>⟨Jm gX.len g.len,fun c hc hn=>by rw[g.keep c oM (fun h=>h.elim hn fun e=>by omega),gX.keep c hc fun h=>h]⟩
 have nw:∀c (W:Nat→Prop),(∀c,W c→W0 c∨X.length≤c)→W c→W0 c∨H.length≤c:=fun c W h hc=>(h c hc).imp id fun h=>by omega
 rcases h with h|h|h
 ·obtain⟨rfl,g1,seen,a⟩:=h
  obtain⟨W,i1,-,-,i2⟩:=a.inv
  refine⟨true,H',?_,kp (D:=W0) a.kp,.inl ⟨g1.symm,a.on,W,i1,fun c=>nw c W i2⟩⟩
  exact EI
 ·obtain⟨rfl,g0,g1,seen,a⟩:=h
  obtain⟨W,i1,-,-,i2⟩:=a.inv
  refine⟨false,H',?_,kp (D:=W0) a.kp,.inl ⟨g1.symm,a.on,W,i1,fun c=>nw c W i2⟩⟩
  exact EI
 ·obtain⟨rfl,g0,i,W,g1,g2,g3,g4,g5⟩:=h
  refine⟨true,H',?_,kp (D:=W0) g5,.inr ⟨rfl,i,W,g1,g2,g3,g4⟩⟩
  exact EI
end
end Go.Cs.Tryz
namespace Go.Cs.Tryz
open Go Go.Cs A
def C16:Gl:=⟨12,0,T [n 4 0,n 5 0] (Q [m 6 0,e 7 (.JR (c (.agg [i 8,i 1,i 3]))),m 8 1,q3 9 54 6 7 8,ex 10 9 0,ex 11 9 1,m 4 10,m 5 11]),[r 4,r 5]⟩
theorem c16:P 16=some C16:=by kernel_rfl
def C38:Gl:=⟨31,0,T [n 6 0,n 7 0] (T [m 13 0,m 14 1,q2 15 116 13 14,m 12 15,ex 16 12 0,ex 17 12 1,e 8 (.new [.nilPtr,i 0]),st 2 8 16,m 9 17] (S (T [m 18 9,bk 19 .neq 18 0] (I 19 (Q [m 20 9,n 6 0,m 7 20]))) (T [lg 22 2 8,m 23 2,q2 24 121 22 23,m 21 24,ex 25 21 0,ex 26 21 1,e 10 (.new [i 0,i 0,i 0,i 0,i 0]),st 5 10 25,m 11 26] (S (T [m 27 11,no 28 27] (I 28 (Q [n 6 0,n 7 4]))) (Q [f 29 4 10,l 30 1 29,m 6 30,n 7 0]))))),[r 6,r 7]⟩
theorem c38:P 38=some C38:=by kernel_rfl
def C54:Gl:=⟨24,0,T [bo 4 1,n 6 0,n 7 0] (T [m 11 0,m 12 2,ca 13 143 [t 11,t 12,k 0],m 10 13,ex 14 10 0,ex 15 10 1,m 8 14,m 9 15] (S (T [m 16 9,bk 17 .neq 16 0] (I 17 (Q [m 18 9,n 6 0,m 7 18]))) (Q [m 19 8,lg 20 3 4,q2 21 144 19 20,ex 22 21 0,ex 23 21 1,m 6 22,m 7 23]))),[r 6,r 7]⟩
theorem c54:P 54=some C54:=by kernel_rfl
def Gp5:Gl:=⟨43,0,T [e 4 (.new [.nilPtr,i 0]),n 5 0] (T [m 10 0,m 11 1,e 12 (.build [.nilPtr,i 0] [(0,1,t 10),(1,1,t 11)]),e 6 (.new [.nilPtr,i 0]),st 2 6 12] (S (T [m 13 0,q1 14 49 13,bk 15 .leq 14 0] (I 15 (Q [lg 16 2 6,st 2 4 16,n 5 1]))) (T [m 18 0,m 19 1,q2 20 75 18 19,m 17 20,ex 21 17 0,ex 22 17 1,e 7 (.new [i 0,i 0,i 0]),st 3 7 21,m 8 22] (S (T [m 23 8,bk 24 .neq 23 0] (I 24 (Q [lg 25 2 6,st 2 4 25,n 5 4]))) (T [e 9 (.new [i 0]),u (.store 1 (t 9) (k 0))] (S (S (D [⟨lg 26 3 7,0,1,0⟩,⟨e 27 (.JR (c (.agg [i 8,i 1,i 3]))),1,0,0⟩,⟨e 28 (.eqs true 3 (t 26) (t 27)),2,0,0⟩,⟨m 29 28,3,0,0⟩,⟨gf 29 (lg 30 2 6),4,1,0⟩,⟨gf 29 (e 31 (.NI 218 [t 9])),5,0,0⟩,⟨gf 29 (q2 32 117 30 31),6,3,0⟩,⟨gf 29 (no 33 32),7,0,1⟩,⟨or 34 29 33,8,0,1⟩,⟨m 35 34,9,0,1⟩,⟨gf 35 (lg 37 2 6),11,1,1⟩,⟨gf 35 (q1 38 123 37),12,3,1⟩,⟨gf 35 (l 36 1 9),10,1,1⟩,⟨gf 35 (b 39 .neq 36 38),13,0,2⟩,⟨or 40 35 39,14,0,2⟩]) (I 40 (Q [lg 41 2 6,st 2 4 41,n 5 2]))) (Q [lg 42 2 6,st 2 4 42,n 5 0]))))))),[.cell 4 true 2,r 5]⟩
theorem c116:P 116=some Gp5:=by kernel_rfl
def Gum:Gl:=⟨18,0,T [bo 2 0,bo 3 1,e 4 (.new [i 0,i 0,i 0,i 0,i 0]),nb 5 false] (T [e 6 (.new [i 0,i 0,i 0,i 0,i 0])] (T [lg 7 2 2,e 8 (.NI 219 [t 3,t 6]),q2 9 117 7 8] (S (D [⟨lg 10 5 6,0,1,0⟩,⟨l 11 1 3,1,1,0⟩,⟨bk 12 .neq 11 0,2,0,0⟩,⟨m 13 12,3,0,0⟩,⟨st 5 4 10,8,3,0⟩,⟨gt 13 (f 14 0 6),4,0,0⟩,⟨gt 13 (l 15 1 14),5,1,0⟩,⟨gt 13 (bk 16 .neq 15 0),6,0,0⟩,⟨an 17 13 16,7,0,0⟩,⟨m 5 17,9,0,1⟩]) .ret))),[.cell 4 true 5,r 5]⟩
theorem Gqi:P 121=some Gum:=by kernel_rfl
def Gtl:Gl:=⟨14,0,T [bo 1 0,n 2 0] (T [f 6 0 1,l 7 1 6,f 8 1 1,l 9 1 8,ca 10 77 [t 7,t 9,k 0],m 5 10,ex 11 5 0,ex 12 5 1,m 3 11,m 4 12] (Q [m 13 3,m 2 13])),[r 2]⟩
theorem Gp3:P 123=some Gtl:=by kernel_rfl
def Gqc:Gl:=⟨6,0,T [bo 2 0,nb 3 false] (T [l 4 1 1,bk 5 .add 4 1,st 1 1 5] (Q [nb 3 true])),[r 3]⟩
theorem c218:P 218=some Gqc:=by kernel_rfl
def GpV:Gl:=⟨13,0,T [bo 3 0,nb 4 false] (S (T [f 5 3 3,l 6 1 5,l 7 1 1,b 8 .eql 6 7] (I 8 (R [lg 9 5 3,st 5 2 9]))) (Q [f 10 0 2,l 11 1 10,bk 12 .eql 11 0,m 4 12])),[r 4]⟩
theorem Gqh:P 219=some GpV:=by kernel_rfl
end Go.Cs.Tryz
namespace Go.Cs
open Go
theorem GkT{H:Gb}{r d k a b c:Int}:P6 true 3 (.agg [.i r,.i d,.i k]) (.agg [.int .i64 a,.int .i64 b,.int .i64 c]) H=some (.bool (!(r==a&&(d==b&&k==c))),H):=by
 simp only[P6,Nv,List.length_cons,List.length_nil,if_true,Option.map_some,Bool.and_true]
theorem Ld{E:Env}{H:Gb}{g:Bool}{n:Nat}{x y:J8}:G8 (.eqs g n x y) E H=(P6 g n (E.ev x) (E.ev y) H).bind fun p=>okV p.1:=by
 simp only[G8,P6]
 cases E.ev x<;>cases E.ev y<;>first|rfl|skip
 rename_i xs ys
 dsimp only
 by_cases h:xs.length=n
 ·rw[if_pos h,if_pos h];cases Nv xs ys<;>rfl
 ·rw[if_neg h,if_neg h];rfl
def Hp.Px(s:Hp)(head:Int):Int:=match s.obj head with
 |none=>4
 |some o=>if(o.refs.length==8&&(o.data.length==1&&o.kd==3))=true∧(s.walk head).2=true∧((s.walk head).1.length:Int)=(s.JM head 0).1 then 0 else 2
theorem Dl{s:Hp}{b:Nat}{x:Bv}:∀{q:Nat}{fr rf:Int}{seen:List Int},x∈(s.chain b q fr rf seen).1→x.addr≠0∧s.has x.addr=true
 |0,_,_,_,h=>by cases h
 |q+1,fr,rf,seen,h=>by
  rw[Hp.Ub]at h
  split at h
  ·cases h
  ·rename_i h0
   split at h
   ·rename_i hg
    rcases List.mem_cons.1 h with rfl|h
    ·refine⟨h0,?_⟩
     have h1:=(Bool.and_eq_true_iff.1 hg.1).1
     unfold Hp.FM at h1
     rw[Hp.J2]
     split at h1
     ·rename_i o ho;exact⟨o,ho⟩
     ·cases h1
    ·exact Dl h
   ·cases h
theorem UY{s:Hp}{head:Int}{x:Bv}:∀{q b:Nat}{seen:List Int},x∈(s.tabs head q b seen).1→x.addr≠0∧s.has x.addr=true
 |0,_,_,h=>by cases h
 |q+1,b,seen,h=>by
  rw[Hp.Yr]at h
  split at h
  ·rcases NV.1 h with h|h
   ·exact Dl h
   ·exact UY h
  ·exact Dl h
def QX(l:List Bv)(key:Int):Option Bv:=l.find? fun x=>x.key==key
end Go.Cs
namespace Go.Cs.Tryz
open Go Go.Cs
section
variable {H : Gb} {hb : Nat} {s : Hp} {L : G6}
theorem FQ(p:PH H hb s L)(k:s.Ok){head:Int}(hhd:head≤9223372036854775807):∃H',run P 123 [.agg [.ptr hb 0,.i head]] H=some (.i (s.JM head 0).1,H')∧Gr H H':=by
 obtain⟨X,hX⟩:∃X:Gb,X=H++[⟨[.ptr hb 0,.i head],.rw,0⟩]:=⟨_,rfl⟩
 have gX:Gr H X:=by rw[hX];exact Gr.app H _
 have tX:X[H.length]?=some ⟨[.ptr hb 0,.i head],.rw,0⟩:=by rw[hX];simp
 obtain⟨H1,h1,g1⟩:=FD (p.gr gX) k head 0 hhd
 unfold Q9 at h1
 have h1':run P 77 [.ptr hb 0,.i head,.int .i64 0] X=some (.Jk [.i (s.JM head 0).1,.i (s.JM head 0).2],H1):=h1
 refine⟨H1,?_,gX.trans g1⟩
 rw[Gi Gp3 _ _ sM]
 refine GH ?_
 rw[←hX]
 exact V1 h1'
theorem GoL(p:PH H hb s L){nb N:Nat}(hnb:nb<N∧nb∉L.all hb)(hlt:∀c∈L.all hb,c<N)(all:List Bv)(hal:all.length≤100000):
  EY N 218 [.ptr nb 0] hb s L all (fun _=>true) (fun i W H=>PH H hb s L∧H[nb]?=some ⟨[.i (i:Nat)],.rw,0⟩∧W=(·=nb)) (fun _ _ _=>False) where
 lt:=by decide
 ph:=fun i W H h=>h.1
 gr:=fun i W H H' m h hm _ g=>⟨h.1.frame fun c hc=>g.keep c (h.1.lt c hc) fun e=>by have:=hlt c hc;omega,(g.keep nb (Gf h.2.1) oM).trans h.2.1,h.2.2⟩
 go:=fun i W H x hx hN h=>by
  obtain⟨h1,h2,rfl⟩:=h
  have hl:=Gf hx
  have w1:IntKind.i64.wrap ((i:Int)+1)=((i+1:Nat):Int):=Gh oM
  refine⟨(·=nb),H.set nb ⟨[.i ((i+1:Nat):Int)],.rw,0⟩++[⟨Nh x,.rw,0⟩],?_,(Keeps.set (w:=fun c=>c=nb) (Keeps.refl _ _) (.inl rfl) _).app' _,fun c h=>.inl h,fun _=>⟨(h1.frame fun c hc=>by grind).app _,by rw[I7 (by rw[List.length_set];exact Gf h2),ZG (Gf h2)],rfl⟩,fun h=>by cases h⟩
  rw[Gi c218 _ _ sM]
  unfold Nh
  exact W0
theorem Hp.Ok.TU{s:Hp}(k:s.Ok){head:Int}:(s.walk head).1.length≤50000:=by
 have h1:∀{q b:Nat}{fr rf:Int}{seen:List Int},(s.chain b q fr rf seen).1.length≤q:=by
  intro q
  induction q with
  |zero=>intros;exact Nat.le_refl _
  |succ q ih=>
   intro b fr rf seen
   rw[Hp.Ub]
   grind
 have h2:∀{q b:Nat}{seen:List Int},(s.tabs head q b seen).1.length≤q*4097:=by
  intro q
  induction q with
  |zero=>intros;exact Nat.zero_le _
  |succ q ih=>
   intro b seen
   rw[Hp.Yr]
   grind
 have:=h2 (q:=8) (b:=0) (seen:=[])
 unfold Hp.walk;omega
theorem Zw(p:PH H hb s L)(k:s.Ok)(hs:Ql s)(h0:s.has 0=false){head:Int}(hhd:head≤9223372036854775807):∃H',run P 116 [.ptr hb 0,.i head] H=some (.Jk [.agg [.ptr hb 0,.i head],.i (s.Px head)],H')∧Gr H H':=by
 have hnb:=k.nb
 obtain⟨X,hX⟩:∃X:Gb,X=H++[⟨[.nilPtr,.i 0],.rw,0⟩]++[⟨[.ptr hb 0,.i head],.rw,0⟩]:=⟨_,rfl⟩
 have gX:Gr H X:=by rw[hX];exact(Gr.app H _).app' _
 have t4:X[H.length]?=some ⟨[.nilPtr,.i 0],.rw,0⟩:=by rw[hX];simp
 have t6:X[H.length+1]?=some ⟨[.ptr hb 0,.i head],.rw,0⟩:=by rw[hX];simp
 have lX:X.length=H.length+2:=by rw[hX];simp
 have h1:=KA (p.gr gX) k
 have c1:decide ((s.blk.length:Int)≤0)=false:=G5 oM
 obtain⟨H1,h2,g1⟩:=NJ (p.gr gX) k head hhd
 have u4:=g1.get t4
 have u6:=g1.get t6
 have Pn:X=H++[⟨[.nilPtr,.int .i64 0],.rw,0⟩]++[⟨[.ptr hb 0,.i head],.rw,0⟩]:=hX
 rw[Gi c116 _ _ sM]
 have lu4:=Gf u4
 have lu6:=Gf u6
 have ln4:cellsOf .nilPtr=[.nilPtr]:=rfl
 cases ho:s.obj head with
 |none=>
  have e:s.JO head=(Jb 0 0 0,4):=by unfold Hp.JO;rw[ho]
  have hof:s.Px head=4:=by unfold Hp.Px;rw[ho]
  rw[hof]
  rw[e]at h2
  unfold Jb at h2
  refine⟨(H1.set H.length ⟨[.ptr hb 0,.i head],.rw,0⟩)++[⟨Jb 0 0 0,.rw,0⟩],?_,(Keeps.set (w:=fun _=>False) (gX.trans g1) (.inr (Nat.le_refl _)) _).app' _⟩
  ·refine GH ?_
   rw[←Pn]
   simp(disch:=first|exact dz|fail) only[simprocAttr,Gx,↓reduceIte,h1,c1,h2,u6,u4,show((4:Int) != 0)=true from rfl,splice,ZG (Gf u4)]
   rfl
 |some o=>
  have e:s.JO head=(Jb o.refs.length o.data.length o.kd,0):=by unfold Hp.JO;rw[ho]
  have hof:s.Px head=if(o.refs.length==8&&(o.data.length==1&&o.kd==3))=true∧(s.walk head).2=true∧((s.walk head).1.length:Int)=(s.JM head 0).1 then 0 else 2:=by unfold Hp.Px;rw[ho]
  rw[e]at h2
  unfold Jb at h2
  have hE:=fun X=>GkT (H:=X) (r:=o.refs.length) (d:=o.data.length) (k:=o.kd) (a:=8) (b:=1) (c:=3)
  have eE:((o.refs.length:Int)==8&&((o.data.length:Int)==1&&(o.kd:Int)==3))=(o.refs.length==8&&(o.data.length==1&&o.kd==3)):=by
   grind
  rw[eE]at hE
  obtain⟨X2,hX2⟩:∃X:Gb,X=H1++[⟨[.i o.refs.length,.i o.data.length,.i o.kd],.rw,0⟩]++[⟨[.i 0],.rw,0⟩]:=⟨_,rfl⟩
  have g2:Gr H1 X2:=by rw[hX2];exact(Gr.app _ _).app' _
  have t7:X2[H1.length]?=some ⟨[.i o.refs.length,.i o.data.length,.i o.kd],.rw,0⟩:=by rw[hX2];simp
  have t9:X2[H1.length+1]?=some ⟨[.i 0],.rw,0⟩:=by rw[hX2];simp
  have Jt:X2.length=H1.length+2:=by rw[hX2];simp
  have p2:=((p.gr gX).gr g1).gr g2
  have v6:=g2.get u6
  have v4:=g2.get u4
  have hlt:∀c∈L.all hb,c<X2.length:=p2.lt
  have hl1:=gX.len
  have hl2:=g1.len
  have Gqm:∀Y,Gr X2 Y→Gr H Y:=fun Y g=>((gX.trans g1).trans g2).trans g
  by_cases q1:(o.refs.length==8&&(o.data.length==1&&o.kd==3))=true
  rotate_left
  ·rw[Bool.eq_false_iff.2 q1]at hE
   rw[if_neg (fun h=>q1 h.1)]at hof
   rw[hof]
   refine⟨X2.set H.length ⟨[.ptr hb 0,.i head],.rw,0⟩,?_,Keeps.set (w:=fun _=>False) (Gqm X2 (Keeps.refl _ _)) (.inr (Nat.le_refl _)) _⟩
   refine W2 @J5 @Gu ?_
   rw[←Pn]
   refine W4 h1 c1 h2 @Gu ?_
   rw[←hX2]
   simp(disch:=first|exact dz|fail) only[simprocAttr,Gx,↓reduceIte,v6,v4,Ld,hE,splice,ZG (Gf v4)]
  rw[q1]at hE
  have y:=GoL p2 (nb:=H1.length+1) (N:=X2.length) ⟨oM,fun h=>by have:=((p.gr gX).gr g1).lt _ h;omega⟩ hlt (s.walk head).1 (by have:=Hp.Ok.TU k (head:=head);omega)
  obtain⟨ok,H3,h3,k3,hr⟩:=EH k hs h0 y hhd (W0:=(·=H1.length+1)) ⟨p2,t9,rfl⟩ (fun c h=>by omega) (Nat.le_refl _)
  rcases hr with⟨e1,-,W,⟨p3,w9,-⟩,-⟩|⟨-,i,W,-,-,h,-⟩
  rotate_left
  ·cases h
  obtain⟨H4,h4,g4⟩:=FQ p3 k hhd
  have w4:H3[H.length]?=_:=(k3.keep _ (Gf v4) oM).trans v4
  have w6:H3[H.length+1]?=_:=(k3.keep _ (Gf v6) oM).trans v6
  have x9:=g4.get w9
  have x6:=g4.get w6
  have x4:=g4.get w4
  have gr4:Gr H H4:=⟨by have:=k3.len;have:=g4.len;omega,fun c hc _=>by
   have:=k3.len
   rw[g4.keep c oM fun h=>h,k3.keep c oM oM,g2.keep c oM fun h=>h,g1.keep c oM fun h=>h,gX.keep c hc fun h=>h]⟩
  have gr3:Gr H H3:=⟨by have:=k3.len;omega,fun c hc _=>by
   rw[k3.keep c oM oM,g2.keep c oM fun h=>h,g1.keep c oM fun h=>h,gX.keep c hc fun h=>h]⟩
  cases hok:(s.walk head).2 with
  |false=>
   rw[hok]at e1
   subst e1
   rw[if_neg (fun h=>by rw[hok]at h;cases h.2.1)]at hof
   rw[hof]
   refine⟨H3.set H.length ⟨[.ptr hb 0,.i head],.rw,0⟩,?_,Keeps.set (w:=fun _=>False) gr3 (.inr (Nat.le_refl _)) _⟩
   refine WX ?_
   rw[←Pn]
   refine W4 h1 c1 h2 @Gu ?_
   rw[←hX2]
   simp(disch:=first|exact dz|fail) only[simprocAttr,Gx,↓reduceIte,v6,w6,w4,Ld,hE,h3,splice,ZG (Gf w4)]
  |true=>
   rw[hok]at e1
   subst e1
   by_cases q2:((s.walk head).1.length:Int)=(s.JM head 0).1
   ·rw[if_pos ⟨q1,hok,q2⟩]at hof
    rw[hof]
    have q2':(((s.walk head).1.length:Int) != (s.JM head 0).1)=false:=by rw[q2];simp
    refine⟨H4.set H.length ⟨[.ptr hb 0,.i head],.rw,0⟩,?_,Keeps.set (w:=fun _=>False) gr4 (.inr (Nat.le_refl _)) _⟩
    refine WX ?_
    rw[←Pn]
    refine W4 h1 c1 h2 @Gu ?_
    rw[←hX2]
    simp(disch:=first|exact dz|fail) only[simprocAttr,Gx,↓reduceIte,v6,w6,w9,x9,x6,x4,Ld,hE,h3,h4,q2',splice,ZG (Gf x4)]
   ·rw[if_neg (fun h=>q2 h.2.2)]at hof
    rw[hof]
    have q2':(((s.walk head).1.length:Int) != (s.JM head 0).1)=true:=by rw[bne_iff_ne];exact q2
    refine⟨H4.set H.length ⟨[.ptr hb 0,.i head],.rw,0⟩,?_,Keeps.set (w:=fun _=>False) gr4 (.inr (Nat.le_refl _)) _⟩
    refine WX ?_
    rw[←Pn]
    refine W4 h1 c1 h2 @Gu ?_
    rw[←hX2]
    simp(disch:=first|exact dz|fail) only[simprocAttr,Gx,↓reduceIte,v6,w6,w9,x9,x6,x4,Ld,hE,h3,h4,q2',splice,ZG (Gf x4)]
theorem GiF(p:PH H hb s L){kb ib N:Nat}{key:Int}(hib:ib<N∧kb<N∧ib≠kb∧ib∉L.all hb)(hlt:∀c∈L.all hb,c<N)(all:List Bv)(ha:∀x∈all,x.addr≠0):
  EY N 219 [.ptr kb 0,.ptr ib 0] hb s L all (fun i=>match all[i]? with|some x=>!(x.key==key)|none=>true)
   (fun i W H=>PH H hb s L∧H[kb]?=some ⟨[.i key],.rw,0⟩∧H[ib]?=some ⟨[.i 0,.i 0,.i 0,.i 0,.i 0],.rw,0⟩∧W=(·=ib))
   (fun i W H=>PH H hb s L∧H[kb]?=some ⟨[.i key],.rw,0⟩∧∃x,all[i]?=some x∧H[ib]?=some ⟨Nh x,.rw,0⟩) where
 lt:=by decide
 ph:=fun i W H h=>h.1
 gr:=fun i W H H' m h hm hw g=>⟨h.1.frame fun c hc=>g.keep c (h.1.lt c hc) fun e=>by have:=hlt c hc;omega,(g.keep kb (Gf h.2.1) oM).trans h.2.1,(g.keep ib (Gf h.2.2.1) oM).trans h.2.2.1,h.2.2.2⟩
 go:=fun i W H x hx hN h=>by
  obtain⟨h1,h2,h3,rfl⟩:=h
  have hx0:=ha x (JV hx)
  have e0:(x.addr==0)=false:=by rw[UF];exact hx0
  have l2:=Gf h2
  have l3:=Gf h3
  rw[hx]
  dsimp only
  rw[Gi Gqh _ _ sM]
  by_cases c:x.key=key
  ·have c':(x.key==key)=true:=by rw[beq_iff_eq];exact c
   rw[c']
   refine⟨(·=ib),H.set ib ⟨Nh x,.rw,0⟩++[⟨Nh x,.rw,0⟩],?_,(Keeps.set (w:=fun c=>c=ib) (Keeps.refl _ _) (.inl rfl) _).app' _,fun c h=>.inl h,(fun h=>by cases h),fun _=>⟨(h1.frame fun c hc=>by grind).app _,?_,x,rfl,?_⟩⟩
   ·unfold Nh
    exact W0
   ·grind
   grind
  ·have c':(x.key==key)=false:=by rw[UF];exact c
   rw[c']
   refine⟨(·=ib),H++[⟨Nh x,.rw,0⟩],?_,Keeps.app _ _ _,fun c h=>.inl h,(fun _=>⟨h1.app _,by rw[I7 l2,h2],by rw[I7 l3,h3],rfl⟩),fun h=>by cases h⟩
   unfold Nh
   have:=show((0:Int)==0)=true from rfl;exact W0
def Da(o:Option Bv)(key:Int):CV:=match o with
 |some x=>.Jk [.agg (Nh x),.bool (key != 0)]
 |none=>.Jk [.agg [.i 0,.i 0,.i 0,.i 0,.i 0],.bool false]
theorem Yx(p:PH H hb s L)(k:s.Ok)(hs:Ql s)(h0:s.has 0=false){head:Int}(hhd:head≤9223372036854775807)(key:Int):∃H',run P 121 [.agg [.ptr hb 0,.i head],.i key] H=some (Da (QX (s.walk head).1 key) key,H')∧Gr H H':=by
 obtain⟨X,hX⟩:∃X:Gb,X=H++[⟨[.ptr hb 0,.i head],.rw,0⟩]++[⟨[.i key],.rw,0⟩]++[⟨[.i 0,.i 0,.i 0,.i 0,.i 0],.rw,0⟩]++[⟨[.i 0,.i 0,.i 0,.i 0,.i 0],.rw,0⟩]:=⟨_,rfl⟩
 have gX:Gr H X:=by rw[hX];exact(((Gr.app H _).app' _).app' _).app' _
 have lX:X.length=H.length+4:=by rw[hX];simp
 have t2:X[H.length]?=some ⟨[.ptr hb 0,.i head],.rw,0⟩:=by rw[hX];simp
 have t3:X[H.length+1]?=some ⟨[.i key],.rw,0⟩:=by rw[hX];simp
 have t4:X[H.length+2]?=some ⟨[.i 0,.i 0,.i 0,.i 0,.i 0],.rw,0⟩:=by rw[hX];simp
 have t6:X[H.length+3]?=some ⟨[.i 0,.i 0,.i 0,.i 0,.i 0],.rw,0⟩:=by rw[hX];simp
 have pX:=p.gr gX
 have y:=GiF (key:=key) pX (kb:=H.length+1) (ib:=H.length+3) (N:=X.length) ⟨oM,oM,oM,fun h=>by have:=p.lt _ h;omega⟩ pX.lt (s.walk head).1 fun x hx=>(UY hx).1
 obtain⟨ok,H3,h3,k3,hr⟩:=EH k hs h0 y hhd (W0:=(·=H.length+3)) ⟨pX,t3,t6,rfl⟩ (fun c h=>by omega) (Nat.le_refl _)
 have l3:=k3.len
 have w4:H3[H.length+2]?=_:=(k3.keep _ oM oM).trans t4
 have g3:Gr H H3:=⟨oM,fun c hc _=>by rw[k3.keep c oM oM,gX.keep c hc fun h=>h]⟩
 have l4:=Gf w4
 rw[Gi Gqi _ _ sM]
 have Pn:X=H++[⟨[.ptr hb 0,.i head],.rw,0⟩]++[⟨[.i key],.rw,0⟩]++[⟨[.int .i64 0,.int .i64 0,.int .i64 0,.int .i64 0,.int .i64 0],.rw,0⟩]++[⟨[.int .i64 0,.int .i64 0,.int .i64 0,.int .i64 0,.int .i64 0],.rw,0⟩]:=hX
 have gs:∀cs,Gr H (H3.set (H.length+2) ⟨cs,.rw,0⟩):=fun cs=>Keeps.set (w:=fun _=>False) g3 (.inr oM) _
 rcases hr with⟨-,hall,W,⟨p3,w3,w6,-⟩,-⟩|⟨-,i,W,hi,hbf,hci,p3,w3,x,hx,w6⟩
 ·have hno:QX (s.walk head).1 key=none:=by
   unfold QX
   rw[List.find?_eq_none]
   intro x hx
   obtain⟨i,hi⟩:=List.mem_iff_getElem?.1 hx
   grind
  rw[hno]
  have e0:(key != 0)=true∨(key != 0)=false:=by cases (key != 0)<;>simp
  rcases e0 with e0|e0
  ·refine⟨_,?_,gs [.i 0,.i 0,.i 0,.i 0,.i 0]⟩
   refine WX ?_
   rw[←Pn]
   simp(disch:=first|exact dz|fail) only[simprocAttr,Gx,↓reduceIte,h3,w3,w6,w4,e0,show((0:Int) != 0)=false from rfl,splice,ZG l4]
   rfl
  ·refine⟨_,?_,gs [.i 0,.i 0,.i 0,.i 0,.i 0]⟩
   refine WX ?_
   rw[←Pn]
   simp(disch:=first|exact dz|fail) only[simprocAttr,Gx,↓reduceIte,h3,w3,w6,w4,e0,splice,ZG l4]
   rfl
 ·rw[hx]at hci
  dsimp only at hci
  have hk:x.key=key:=by simpa using hci
  have hxa:=(UY (JV hx)).1
  have ea:(x.addr != 0)=true:=by rw[bne_iff_ne];exact hxa
  have hyes:QX (s.walk head).1 key=some x:=by
   unfold QX
   rw[List.find?_eq_some_iff_append]
   refine⟨by rw[beq_iff_eq];exact hk,(s.walk head).1.take i,(s.walk head).1.drop (i+1),?_,fun z hz=>?_⟩
   ·have e1:(s.walk head).1.drop i=x::(s.walk head).1.drop (i+1):=drop_cons hx
    rw[←e1,List.take_append_drop]
   ·obtain⟨j,hj⟩:=List.mem_iff_getElem?.1 hz
    grind
  rw[hyes]
  unfold Nh at w6
  unfold Da Nh
  have e0:(key != 0)=true∨(key != 0)=false:=by cases (key != 0)<;>simp
  rcases e0 with e0|e0
  ·refine⟨_,?_,gs (Nh x)⟩
   unfold Nh
   simp(disch:=first|exact dz|fail) only[simprocAttr,Gx,↓reduceIte,Ny]
   rw[←Pn]
   simp(disch:=first|exact dz|fail) only[simprocAttr,Gx,↓reduceIte,h3,w3,w6,w4,e0,ea,splice,ZG l4]
  ·refine⟨_,?_,gs (Nh x)⟩
   unfold Nh
   simp(disch:=first|exact dz|fail) only[simprocAttr,Gx,↓reduceIte,Ny]
   rw[←Pn]
   simp(disch:=first|exact dz|fail) only[simprocAttr,Gx,↓reduceIte,h3,w3,w6,w4,e0,splice,ZG l4]
def Hp.I5(s:Hp)(head key:Int):Int×Int:=if s.Px head≠0 then(0,s.Px head)else match QX (s.walk head).1 key with
 |some x=>if key≠0 then(x.val,0)else(0,4)
 |none=>(0,4)
theorem MR(p:PH H hb s L)(k:s.Ok)(hs:Ql s)(h0:s.has 0=false){head:Int}(hhd:head≤9223372036854775807)(key:Int):∃H',run P 38 [.ptr hb 0,.i head,.i key] H=some (Q9 (Hp.I5 s head key),H')∧Gr H H':=by
 obtain⟨H1,h1,g1⟩:=Zw p k hs h0 hhd
 obtain⟨X,hX⟩:∃X:Gb,X=H1++[⟨[.ptr hb 0,.i head],.rw,0⟩]:=⟨_,rfl⟩
 have gX:Gr H1 X:=by rw[hX];exact Gr.app _ _
 have tX:X[H1.length]?=some ⟨[.ptr hb 0,.i head],.rw,0⟩:=by rw[hX];simp
 have g:=g1.trans gX
 have lp:leaf (.ptr hb 0)=true:=rfl
 obtain⟨H2,h2,g2⟩:=Yx (p.gr g) k hs h0 hhd key
 unfold Q9
 rw[Gi c38 _ _ sM]
 by_cases c:s.Px head=0
 ·have c':((0:Int) != 0)=false:=rfl
  unfold Da at h2
  cases hf:QX (s.walk head).1 key with
  |none=>
   rw[hf]at h2
   have hg:Hp.I5 s head key=(0,4):=by unfold Hp.I5;rw[if_neg (fun h=>h c),hf]
   rw[hg]
   rw[c]at h1
   refine⟨H2++[⟨[.i 0,.i 0,.i 0,.i 0,.i 0],.rw,0⟩],?_,(g.trans g2).app' _⟩
   refine GH ?_
   rw[←hX]
   exact V2 h2 @Gu
  |some x=>
   rw[hf]at h2
   unfold Nh at h2
   refine⟨H2++[⟨Nh x,.rw,0⟩],?_,(g.trans g2).app' _⟩
   unfold Nh
   by_cases ck:key=0
   ·have e0:(key != 0)=false:=by rw[ck];rfl
    rw[e0]at h2
    have hg:Hp.I5 s head key=(0,4):=by unfold Hp.I5;grind
    rw[hg]
    rw[c]at h1
    refine W2 h1 @Gu ?_
    rw[←hX]
    exact V2 h2 @Gu
   ·have e0:(key != 0)=true:=by rw[bne_iff_ne];exact ck
    rw[e0]at h2
    have hg:Hp.I5 s head key=(x.val,0):=by unfold Hp.I5;grind
    rw[hg]
    rw[c]at h1
    refine GH ?_
    rw[←hX]
    exact V2 h2 @Gu
 ·have hg:Hp.I5 s head key=(0,s.Px head):=by unfold Hp.I5;exact if_pos c
  rw[hg]
  have c':(s.Px head != 0)=true:=by rw[bne_iff_ne];exact c
  refine⟨X,?_,g⟩
  refine W3 h1 c' @Gu ?_
  rw[←hX]
theorem Fu(p:PH H hb s L)(k:s.Ok)(hz:s.Gw 0=0){sp:Int}(hsp:0≤sp∧sp<8)(hborn:s.born<1000000000000){r d kd:Int}(hv:JK r d kd=true)(hw:Gt r.toNat d.toNat≤32):
  ∃H',run P 54 [.ptr hb 0,.agg (Jb r d kd),.i sp] H=some (.Jk [.i (s.alloc sp r d kd).2.1,.i (s.alloc sp r d kd).2.2],H')∧Keeps H H' (·∈L.all hb)∧PH H' hb (s.alloc sp r d kd).1 L:=by
 obtain⟨X,hX⟩:∃X:Gb,X=H++[⟨Jb r d kd,.rw,0⟩]:=⟨_,rfl⟩
 have gX:Gr H X:=by rw[hX];exact Gr.app _ _
 have tX:X[H.length]?=some ⟨Jb r d kd,.rw,0⟩:=by rw[hX];simp
 obtain⟨ab,H1,h1,g1,hab,ha⟩:=GeU (p.gr gX) k hsp
 have h1':run P 143 [.ptr hb 0,.i sp,.int .i64 0] X=some (.Jk [.ptr ab 0,.i 0],H1):=h1
 have g:=gX.trans g1
 have lX:=gX.len
 obtain⟨H2,h2,k2,p2⟩:=Ga0 (p.gr g) k hz hsp hborn ha (fun h=>by have:=p.lt _ h;omega) hv hw
 have uX:=g1.get tX
 refine⟨H2,?_,⟨by have:=g.len;have:=k2.len;omega,fun c hc hn=>by
  rw[k2.keep c (by have:=g.len;omega) (fun h=>h.elim hn fun e=>by omega),g.keep c hc fun h=>h]⟩,p2⟩
 unfold Jb at h2 uX tX hX⊢
 rw[Gi c54 _ _ sM]
 refine GH ?_
 rw[←hX]
 exact V3 h1' uX h2
theorem Xg(p:PH H hb s L)(k:s.Ok)(hz:s.Gw 0=0){sp:Int}(hsp:0≤sp∧sp<8)(hborn:s.born<1000000000000):
  ∃H',run P 16 [.ptr hb 0,.i sp] H=some (.Jk [.i (s.alloc sp 8 1 3).2.1,.i (s.alloc sp 8 1 3).2.2],H')∧Keeps H H' (·∈L.all hb)∧PH H' hb (s.alloc sp 8 1 3).1 L:=by
 obtain⟨H1,h1,k1,p1⟩:=Fu p k hz hsp hborn (r:=8) (d:=1) (kd:=3) dE dE
 refine⟨H1,?_,k1,p1⟩
 have h1':run P 54 [.ptr hb 0,.agg [.int .i64 8,.int .i64 1,.int .i64 3],.i sp] H=some (.Jk [.i (s.alloc sp 8 1 3).2.1,.i (s.alloc sp 8 1 3).2.2],H1):=h1
 rw[Gi c16 _ _ sM]
 exact W0
end
end Go.Cs.Tryz
namespace Go.Cs.Tryz
open Go Go.Cs A
abbrev WY:Gq:=S (T [l 19 1 9] (J 19 (X 0))) (S (B 1 (T [u (.store 1 (t 9) (c (.bool false)))] (R [lg 20 2 6,e 21 (.NI 118 [t 9,t 6,t 8]),q2 22 117 20 21]))) (T [l 23 1 9] (R [e 9 (.new [.bool false]),st 1 9 23])))
def C31:Gl:=⟨25,0,T [n 4 0,n 5 0] (T [m 11 0,m 12 1,q2 13 116 11 12,m 10 13,ex 14 10 0,ex 15 10 1,e 6 (.new [.nilPtr,i 0]),st 2 6 14,m 7 15] (S (T [m 16 7,bk 17 .neq 16 0] (I 17 (Q [m 18 7,n 4 0,m 5 18]))) (T [e 8 (.new [i 0]),u (.store 1 (t 8) (k 0))] (S (T [e 9 (.new [.bool false]),u (.store 1 (t 9) (c (.bool true)))] (B 0 (W WY))) (Q [l 24 1 8,m 4 24,n 5 0]))))),[r 4,r 5]⟩
theorem c31:P 31=some C31:=by kernel_rfl
def GpY:Gl:=⟨17,0,T [bo 4 0,nb 5 false] (S (T [f 6 3 4,l 7 1 6,bk 8 .eql 7 0,st 1 1 8] (T [l 9 1 1] (I 9 (T [lg 10 2 2,lg 11 5 4,q2 12 119 10 11] (R [l 13 1 3,bk 14 .add 13 1,st 1 3 14]))))) (Q [l 15 1 1,no 16 15,m 5 16])),[r 5]⟩
theorem Gqs:P 118=some GpY:=by kernel_rfl
def Gtm:Gl:=⟨30,0,T [bo 2 0,bo 3 1] (T [f 7 0 2,l 8 1 7,f 9 0 3,l 10 1 9,ca 11 76 [t 8,t 10,k 2],m 6 11,ex 12 6 0,ex 13 6 1,m 4 12,m 5 13] (T [f 14 0 2,l 15 1 14,f 16 1 3,l 17 1 16,f 18 2 3,l 19 1 18,m 20 4,q4 21 122 15 17 19 20] (D [⟨lg 26 2 2,4,1,0⟩,⟨q1 27 123 26,5,3,0⟩,⟨f 22 0 2,0,0,0⟩,⟨l 23 1 22,1,1,0⟩,⟨f 24 1 2,2,0,0⟩,⟨l 25 1 24,3,1,0⟩,⟨bk 28 .sub 27 1,6,0,1⟩,⟨ca 29 91 [t 23,t 25,k 0,t 28],7,3,1⟩]))),[]⟩
theorem c119:P 119=some Gtm:=by kernel_rfl
end Go.Cs.Tryz
namespace Go.Cs
open Go
def Hp.unlink(s:Hp)(head:Int)(x:Bv):Hp:=
 ((s.setRef x.fr x.ref (s.GN x.addr 2).1).1.G_ head 0 (IntKind.i64.wrap (((s.setRef x.fr x.ref (s.GN x.addr 2).1).1.JM head 0).1-1))).1
theorem Gfj{s:Hp}{b:Nat}{a:Int}(h:s.D5 b a=true):s.has a=true:=by
 have h1:=(Bool.and_eq_true_iff.1 h).1
 unfold Hp.FM at h1
 rw[Hp.J2]
 grind
theorem MC{s:Hp}{b:Nat}{x:Bv}:∀{q:Nat}{fr rf:Int}{seen:List Int},x∈(s.chain b q fr rf seen).1→x.fr=fr∨s.has x.fr=true
 |0,_,_,_,h=>by cases h
 |q+1,fr,rf,seen,h=>by
  rw[Hp.Ub]at h
  split at h
  ·cases h
  ·split at h
   ·rename_i hg
    rcases List.mem_cons.1 h with rfl|h
    ·exact .inl rfl
    ·rcases MC h with h|h
     ·rw[h];exact .inr (Gfj hg.1)
     ·exact .inr h
   ·cases h
theorem S_{s:Hp}{head:Int}{x:Bv}:∀{q b:Nat}{seen:List Int},x∈(s.tabs head q b seen).1→x.fr=head∨s.has x.fr=true
 |0,_,_,h=>by cases h
 |q+1,b,seen,h=>by
  rw[Hp.Yr]at h
  split at h
  ·rcases NV.1 h with h|h
   ·exact MC h
   ·exact S_ h
  ·exact MC h
theorem Hp.Ok.unlink{s:Hp}(k:s.Ok)(head:Int)(x:Bv):(s.unlink head x).Ok:=(k.setRef _ _ _).G_ _ _ _
end Go.Cs
namespace Go.Cs.Tryz
open Go Go.Cs
section
variable {H : Gb} {hb : Nat} {s : Hp} {L : G6}
theorem Ig(p:PH H hb s L)(k:s.Ok)(hs:Ql s){head:Int}(hhd:head≤9223372036854775807){x:Bv}(hxa:x.addr≤9223372036854775807)(hxf:x.fr≤9223372036854775807):
  ∃H',run P 119 [.agg [.ptr hb 0,.i head],.agg (Nh x)] H=some (.Jk [],H')∧Keeps H H' (·∈L.all hb)∧PH H' hb (s.unlink head x) L:=by
 obtain⟨X,hX⟩:∃X:Gb,X=H++[⟨[.ptr hb 0,.i head],.rw,0⟩]++[⟨Nh x,.rw,0⟩]:=⟨_,rfl⟩
 have gX:Gr H X:=by rw[hX];exact(Gr.app H _).app' _
 have lX:X.length=H.length+2:=by rw[hX];simp
 have t2:X[H.length]?=some ⟨[.ptr hb 0,.i head],.rw,0⟩:=by rw[hX];simp
 have t3:X[H.length+1]?=some ⟨Nh x,.rw,0⟩:=by rw[hX];simp
 have n2:H.length∉L.all hb:=fun h=>by have:=p.lt _ h;omega
 have n3:H.length+1∉L.all hb:=fun h=>by have:=p.lt _ h;omega
 obtain⟨H1,h1,g1⟩:=KE (p.gr gX) k x.addr 2 hxa
 unfold Q9 at h1
 have h1':run P 76 [.ptr hb 0,.i x.addr,.int .i64 2] X=some (.Jk [.i (s.GN x.addr 2).1,.i (s.GN x.addr 2).2],H1):=h1
 obtain⟨to,hto⟩:∃to,to=(s.GN x.addr 2).1:=⟨_,rfl⟩
 have hle:to≤9223372036854775807:=by
  rcases Hp.Fx hs x.addr 2 with h|h
  ·rw[hto,h];decide
  ·have:=k.has_lt h;omega
 rw[←hto]at h1'
 obtain⟨H2,h2,k2,p2⟩:=KZ ((p.gr gX).gr g1) k x.fr x.ref to hxf hle
 have ok2:=k.setRef x.fr x.ref to
 obtain⟨H3,h3,g3⟩:=FQ p2 ok2 hhd
 obtain⟨d,hd⟩:∃d,d=IntKind.i64.wrap (((s.setRef x.fr x.ref to).1.JM head 0).1-1):=⟨_,rfl⟩
 obtain⟨H4,h4,k4,p4⟩:=YR (p2.gr g3) ok2 head 0 d hhd
 have h4':run P 91 [.ptr hb 0,.i head,.int .i64 0,.i d] H3=some (.i ((s.setRef x.fr x.ref to).1.G_ head 0 d).2,H4):=h4
 have u2:=g1.get t2
 have u3:=g1.get t3
 have v2:H2[H.length]?=_:=(k2.keep _ (Gf u2) n2).trans u2
 have w2:=g3.get v2
 have e:s.unlink head x=((s.setRef x.fr x.ref to).1.G_ head 0 d).1:=by unfold Hp.unlink;rw[←hto,←hd]
 refine⟨H4,?_,(((gX.trans g1).weaken fun _ h=>h.elim).trans k2).trans ((Keeps.weaken g3 fun _ h=>h.elim).trans k4),by rw[e];exact p4⟩
 unfold Nh at t3 u3 hX⊢
 rw[Gi c119 _ _ sM]
 refine GH ?_
 rw[←hX]
 exact V9 h1' u2 u3 h2 v2 h3 w2 hd.symm h4'
theorem GfK(p:PH H hb s L)(k:s.Ok)(hs:Ql s){head:Int}(hhd:head≤9223372036854775807){gb tb nb N n:Nat}(hn:n≤100000)(hlN:gb<N∧tb<N∧nb<N∧gb≠tb∧gb≠nb∧tb≠nb)(hno:gb∉L.all hb∧tb∉L.all hb∧nb∉L.all hb)(hlt:∀c∈L.all hb,c<N)
  (all:List Bv)(ha:∀x∈all,x.addr≤9223372036854775807∧x.fr≤9223372036854775807):
  EY N 118 [.ptr gb 0,.ptr tb 0,.ptr nb 0] hb s L all (fun i=>match all[i]? with|some x=>!(x.key==0)|none=>true)
   (fun i W H=>PH H hb s L∧H[gb]?=some ⟨[.bool false],.rw,0⟩∧H[tb]?=some ⟨[.ptr hb 0,.i head],.rw,0⟩∧H[nb]?=some ⟨[.i n],.rw,0⟩∧W=(fun c=>c∈L.all hb∨c=gb∨c=nb))
   (fun i W H=>H[gb]?=some ⟨[.bool true],.rw,0⟩∧H[tb]?=some ⟨[.ptr hb 0,.i head],.rw,0⟩∧H[nb]?=some ⟨[.i ((n+1:Nat):Int)],.rw,0⟩∧∃x,all[i]?=some x∧PH H hb (s.unlink head x) L) where
 lt:=by decide
 ph:=fun i W H h=>h.1
 gr:=fun i W H H' m h hm hw g=>⟨h.1.frame fun c hc=>g.keep c (h.1.lt c hc) fun e=>by have:=hlt c hc;omega,(g.keep gb (Gf h.2.1) oM).trans h.2.1,(g.keep tb (Gf h.2.2.1) oM).trans h.2.2.1,(g.keep nb (Gf h.2.2.2.1) oM).trans h.2.2.2.1,h.2.2.2.2⟩
 go:=fun i W H x hx hN h=>by
  obtain⟨h1,t1,t2,t3,rfl⟩:=h
  rw[hx]
  dsimp only
  have l1:=Gf t1
  have l2:=Gf t2
  have l3:=Gf t3
  rw[Gi Gqs _ _ sM]
  by_cases c:x.key=0
  ·have c':(x.key==0)=true:=by rw[beq_iff_eq];exact c
   rw[c']
   obtain⟨Y,hY⟩:∃X:Gb,X=H.set gb ⟨[.bool true],.rw,0⟩++[⟨Nh x,.rw,0⟩]:=⟨_,rfl⟩
   have kY:Keeps H Y (·=gb):=by rw[hY];exact(Keeps.set (w:=fun c=>c=gb) (Keeps.refl _ _) (.inl rfl) _).app' _
   have y4:Y[H.length]?=some ⟨Nh x,.rw,0⟩:=by grind
   have y1:Y[gb]?=some ⟨[.bool true],.rw,0⟩:=by grind
   have y2:Y[tb]?=_:=(kY.keep tb l2 oM).trans t2
   have y3:Y[nb]?=_:=(kY.keep nb l3 oM).trans t3
   obtain⟨a1,a2⟩:=ha x (JV hx)
   obtain⟨H2,h2,k2,p2⟩:=Ig (p:=h1.frame fun c hc=>kY.keep c (h1.lt c hc) fun e=>hno.1 (by rw[←e];exact hc)) k hs hhd a1 a2
   have z1:H2[gb]?=_:=(k2.keep gb (Gf y1) hno.1).trans y1
   have z2:H2[tb]?=_:=(k2.keep tb (Gf y2) hno.2.1).trans y2
   have z3:H2[nb]?=_:=(k2.keep nb (Gf y3) hno.2.2).trans y3
   have w1:IntKind.i64.wrap ((n:Int)+1)=((n+1:Nat):Int):=Gh oM
   have lz:=Gf z3
   refine⟨(fun c=>c∈L.all hb∨c=gb∨c=nb),H2.set nb ⟨[.i ((n+1:Nat):Int)],.rw,0⟩,?_,((kY.weaken fun c h=>.inr (.inl h)).trans (k2.weaken fun c h=>.inl h)).set (.inl (.inr (.inr rfl))) _,fun c h=>.inl h,(fun h=>by cases h),fun _=>⟨?_,?_,?_,x,rfl,p2.frame fun c hc=>by grind⟩⟩
   ·unfold Nh at hY y4 h2⊢
    refine W3 t1 t2 c' ?_
    rw[←hY]
    simp(disch:=first|exact dz|fail) only[simprocAttr,Gx,↓reduceIte,h2,z3,w1,z1,NA (Ne.symm hlN.2.2.2.2.1)]
   ·grind
   ·grind
   ·rw[ZG lz]
  ·have c':(x.key==0)=false:=by rw[UF];exact c
   rw[c']
   obtain⟨Y,hY⟩:∃X:Gb,X=H.set gb ⟨[.bool false],.rw,0⟩++[⟨Nh x,.rw,0⟩]:=⟨_,rfl⟩
   have kY:Keeps H Y (·=gb):=by rw[hY];exact(Keeps.set (w:=fun c=>c=gb) (Keeps.refl _ _) (.inl rfl) _).app' _
   have y1:Y[gb]?=some ⟨[.bool false],.rw,0⟩:=by grind
   refine⟨_,Y,?_,kY.weaken fun c h=>.inr (.inl h),fun c h=>.inl h,(fun _=>⟨h1.frame fun c hc=>kY.keep c (h1.lt c hc) fun e=>hno.1 (by rw[←e];exact hc),y1,(kY.keep tb l2 oM).trans t2,(kY.keep nb l3 oM).trans t3,rfl⟩),fun h=>by cases h⟩
   unfold Nh at hY⊢
   refine W2 t1 c' ?_
   rw[←hY]
inductive FH(head:Int):Hp→Nat→Hp→Prop
 |stop {s:Hp} (h:∀x∈(s.walk head).1,x.key≠0):FH head s 0 s
 |more {s s':Hp} {n:Nat} {x:Bv} (hs:Ql (s.unlink head x)) (hz:(s.unlink head x).has 0=false) (h:(s.walk head).1.find? (fun x=>x.key==0)=some x) (h':FH head (s.unlink head x) n s'):FH head s (n+1) s'
theorem Hy{head:Int}(hhd:head≤9223372036854775807){tb nb gb n:Nat}(k:s.Ok)(hs:Ql s)(h0:s.has 0=false)(p:PH H hb s L)(hn:n≤100000)(hno:tb∉L.all hb∧nb∉L.all hb∧gb∉L.all hb)(hne:tb≠nb∧gb≠tb∧gb≠nb)
  (t1:H[tb]?=some ⟨[.ptr hb 0,.i head],.rw,0⟩) (t2:H[nb]?=some ⟨[.i n],.rw,0⟩) (t3:H[gb]?=some ⟨[.bool true],.rw,0⟩) {E0:Env} (e6:E0 6=.ptr tb 0) (e8:E0 8=.ptr nb 0) (e9:E0 9=.ptr gb 0):
  ∃E' H' g,den P WY E0 H=some (.normal,E',H'++[⟨[.bool g],.rw,0⟩])∧E' 6=.ptr tb 0∧E' 8=.ptr nb 0∧E' 9=.ptr H'.length 0∧Keeps H H' (fun c=>c∈L.all hb∨c=gb∨c=nb)∧H'[tb]?=some ⟨[.ptr hb 0,.i head],.rw,0⟩∧
   (
    (g=false∧(∀x∈(s.walk head).1,x.key≠0)∧PH H' hb s L∧H'[nb]?=some ⟨[.i n],.rw,0⟩)∨
    (g=true∧H'[nb]?=some ⟨[.i ((n+1:Nat):Int)],.rw,0⟩∧∃x,(s.walk head).1.find? (fun x=>x.key==0)=some x∧PH H' hb (s.unlink head x) L)):=by
 obtain⟨X,hX⟩:∃X:Gb,X=H.set gb ⟨[.bool false],.rw,0⟩:=⟨_,rfl⟩
 have l1:=Gf t1
 have l2:=Gf t2
 have l3:=Gf t3
 have lX:X.length=H.length:=by rw[hX,List.length_set]
 have kX:Keeps H X (·=gb):=by rw[hX];exact Keeps.set (w:=fun c=>c=gb) (Keeps.refl _ _) (.inl rfl) _
 have x1:X[tb]?=_:=(kX.keep tb l1 oM).trans t1
 have x2:X[nb]?=_:=(kX.keep nb l2 oM).trans t2
 have x3:X[gb]?=some ⟨[.bool false],.rw,0⟩:=by rw[hX,ZG l3]
 have pX:PH X hb s L:=p.frame fun c hc=>kX.keep c (p.lt c hc) fun e=>hno.2.2 (by rw[←e];exact hc)
 have y:=GfK pX k hs hhd (gb:=gb) (tb:=tb) (nb:=nb) (N:=X.length) hn oM (by exact⟨hno.2.2,hno.1,hno.2.1⟩) pX.lt (s.walk head).1 fun x hx=>⟨by have:=k.has_lt (UY hx).2;omega,by
  rcases S_ hx with h|h
  ·omega
  ·have:=k.has_lt h;omega⟩
 obtain⟨ok,H3,h3,k3,hr⟩:=EH k hs h0 y hhd (W0:=fun c=>c∈L.all hb∨c=gb∨c=nb) ⟨pX,x3,x1,x2,rfl⟩ (fun c h=>by rcases h with h|h|h;exact pX.lt _ h;omega;omega) (Nat.le_refl _)
 have kk:Keeps H H3 (fun c=>c∈L.all hb∨c=gb∨c=nb):=(kX.weaken fun c h=>.inr (.inl h)).trans k3
 have tt:H3[tb]?=_:=(kk.keep tb l1 (fun h=>by grind)).trans t1
 rcases hr with⟨-,hall,W,⟨p3,w3,w1,w2,-⟩,-⟩|⟨-,i,W,hi,hbf,hci,w3,w1,w2,x,hx,p3⟩
 ·refine WX ?_
  rw[←hX]
  refine W3 e9 h3 w3 ?_
  refine⟨_,H3,false,rfl,by simp[Gg,e6],by simp[Gg,e8],uA,kk,w1,.inl ⟨rfl,fun x hx=>?_,p3,w2⟩⟩
  obtain⟨i,hi⟩:=List.mem_iff_getElem?.1 hx
  grind
 ·refine WX ?_
  rw[←hX]
  refine W3 e9 h3 w3 ?_
  refine⟨_,H3,true,rfl,by simp[Gg,e6],by simp[Gg,e8],uA,kk,w1,.inr ⟨rfl,w2,x,?_,p3⟩⟩
  rw[hx]at hci
  dsimp only at hci
  have hk:x.key=0:=by simpa using hci
  rw[List.find?_eq_some_iff_append]
  refine⟨by rw[beq_iff_eq];exact hk,(s.walk head).1.take i,(s.walk head).1.drop (i+1),?_,fun z hz=>?_⟩
  ·have e1:(s.walk head).1.drop i=x::(s.walk head).1.drop (i+1):=drop_cons hx
   rw[←e1,List.take_append_drop]
  ·obtain⟨j,hj⟩:=List.mem_iff_getElem?.1 hz
   grind
theorem Gi8{head:Int}(hhd:head≤9223372036854775807){tb nb:Nat}{H0:Gb}{s s':Hp}{m:Nat}(h:FH head s m s'):∀{n gb:Nat}{H:Gb}{E0:Env}{r:Option (CX×Env×Gb)},s.Ok→Ql s→s.has 0=false→PH H hb s L→
  n+m≤100000→tb∉L.all hb∧nb∉L.all hb∧gb∉L.all hb→tb≠nb∧gb≠tb∧gb≠nb→H[tb]?=some ⟨[.ptr hb 0,.i head],.rw,0⟩→H[nb]?=some ⟨[.i n],.rw,0⟩→H[gb]?=some ⟨[.bool true],.rw,0⟩→H0.length≤nb→H0.length≤gb→Keeps H0 H (·∈L.all hb)→
  E0 6=.ptr tb 0→E0 8=.ptr nb 0→E0 9=.ptr gb 0→den P (.loop WY) E0 H=r→
  ∃E' H',r=some (.exit 0,E',H')∧PH H' hb s' L∧H'[nb]?=some ⟨[.i ((n+m:Nat):Int)],.rw,0⟩∧E' 8=.ptr nb 0∧Keeps H0 H' (·∈L.all hb):=by
 induction h with
 |@stop s h=>
  intro n gb H E0 r k hs h0 p hnm hno hne t1 t2 t3 hn0 hg0 k0 e6 e8 e9 hr
  obtain⟨E1,H1,g,d,f6,f8,f9,k1,w1,c⟩:=Hy hhd k hs h0 p oM hno hne t1 t2 t3 e6 e8 e9
  have kk:Keeps H0 H1 (·∈L.all hb):=⟨Jm k0.len k1.len,fun c hc hn=>by rw[k1.keep c (JI hc k0.len) (fun h=>by grind),k0.keep c hc hn]⟩
  rcases c with⟨rfl,-,p1,w2⟩|⟨rfl,-,x,hx,-⟩
  ·refine⟨E1.upd 19 (.bool false),H1++[⟨[.bool false],.rw,0⟩],?_,p1.app _,by grind,by simp[Gg,f8],kk.app' _⟩
   rw[←hr,Az,d]
   refine GH ?_
   rw[Az]
   exact W0
  grind
 |@more s s' m x hs' hz' hx h' ih=>
  intro n gb H E0 r k hs h0 p hnm hno hne t1 t2 t3 hn0 hg0 k0 e6 e8 e9 hr
  obtain⟨E1,H1,g,d,f6,f8,f9,k1,w1,c⟩:=Hy hhd k hs h0 p oM hno hne t1 t2 t3 e6 e8 e9
  have kk:Keeps H0 H1 (·∈L.all hb):=⟨Jm k0.len k1.len,fun c hc hn=>by rw[k1.keep c (JI hc k0.len) (fun h=>by grind),k0.keep c hc hn]⟩
  have l1:=k1.len
  have l0:=k0.len
  rcases c with⟨rfl,h,-,-⟩|⟨rfl,w2,x',hx',p1⟩
  ·grind
  ·rw[hx]at hx'
   simp only[GA]at hx'
   subst hx'
   have lw:=Gf w2
   have lt:=Gf w1
   have hr':den P (.loop WY) E1 (H1++[⟨[.bool true],.rw,0⟩])=r:=by
    rw[←hr,Az (E:=E0),d]
    exact W0
   obtain⟨E',H',q1,q2,q3,q4,q5⟩:=ih (n:=n+1) (gb:=H1.length) (k.unlink head x) hs' hz' (p1.app _) oM ⟨hno.1,hno.2.1,fun h=>by have:=p1.lt _ h;omega⟩ oM (by rw[I7 lt,w1]) (by rw[I7 lw,w2]) sM hn0 oM (kk.app' _) f6 f8 f9 hr'
   grind
theorem Gcn(p:PH H hb s L)(k:s.Ok)(hs:Ql s)(h0:s.has 0=false){head:Int}(hhd:head≤9223372036854775807)(hof:s.Px head=0){m:Nat}{s':Hp}(hr:FH head s m s')(hm:m≤100000):
  ∃H',run P 31 [.ptr hb 0,.i head] H=some (.Jk [.i m,.i 0],H')∧Keeps H H' (·∈L.all hb)∧PH H' hb s' L:=by
 obtain⟨H1,h1,g1⟩:=Zw p k hs h0 hhd
 rw[hof]at h1
 obtain⟨X,hX⟩:∃X:Gb,X=H1++[⟨[.ptr hb 0,.i head],.rw,0⟩]++[⟨[.i 0],.rw,0⟩]++[⟨[.bool true],.rw,0⟩]:=⟨_,rfl⟩
 have gX:Gr H1 X:=by rw[hX];exact((Gr.app _ _).app' _).app' _
 have t1:X[H1.length]?=some ⟨[.ptr hb 0,.i head],.rw,0⟩:=by rw[hX];simp
 have t2:X[H1.length+1]?=some ⟨[.i (0:Nat)],.rw,0⟩:=by rw[hX];simp
 have t3:X[H1.length+2]?=some ⟨[.bool true],.rw,0⟩:=by rw[hX];simp
 have l1:=g1.len
 have pl:=p.lt
 have c':((0:Int) != 0)=false:=rfl
 have Pn:X=H1++[⟨[.ptr hb 0,.i head],.rw,0⟩]++[⟨[.int .i64 0],.rw,0⟩]++[⟨[.bool true],.rw,0⟩]:=hX
 rw[Gi c31 _ _ sM]
 have:=@Zc;refine GH ?_
 rw[←Pn]
 generalize hr':den P (.loop WY) _ _=r
 obtain⟨E',H2,rfl,p2,w2,e8,k2⟩:=Gi8 hhd (H0:=H) (tb:=H1.length) (nb:=H1.length+1) hr (n:=0) (gb:=H1.length+2) k hs h0 ((p.gr g1).gr gX) oM ⟨fun h=>by have:=pl _ h;omega,fun h=>by have:=pl _ h;omega,fun h=>by have:=pl _ h;omega⟩ oM t1 t2 t3 oM oM ((g1.trans gX).weaken fun _ h=>h.elim) uA uA uA hr'
 rw[Nat.zero_add]at w2
 refine⟨H2,?_,k2,p2⟩
 exact W0
end
end Go.Cs.Tryz
namespace Go.Cs.Tryz
open Go Go.Cs A
abbrev OO:Gq:=T [b 98 .lss 97 96] (S (J 98 (X 1)) (S (B 2 (T [m 99 97,x 100 1 95 97,l 101 1 100,m 21 99,m 22 101] (R [m 102 0,m 103 16,m 104 21,m 105 22,q4 106 122 102 103 104 105]))) (R [bk 107 .add 97 1,m 97 107])))
def C36:Gl:=⟨125,0,T [n 10 0,n 11 0] (T [m 24 0,m 25 1,q2 26 116 24 25,m 23 26,ex 27 23 0,ex 28 23 1,e 12 (.new [.nilPtr,i 0]),st 2 12 27,m 13 28] (S (B 0 (T [m 30 13,bk 31 .neq 30 0,m 29 31] (C 29 (Q [m 32 13,n 10 0,m 11 32]) (T [m 34 0,m 35 2,q2 36 50 34 35,no 37 36,m 38 37,gf 38 (m 39 3),gf 38 (bk 40 .neq 39 0),gf 38 (m 41 40),gt 41 (m 42 0),gt 41 (m 43 3),gt 41 (q2 44 50 42 43),gt 41 (no 45 44),gf 38 (an 46 41 45),or 47 38 46,m 48 47,gf 48 (m 49 4),gf 48 (bk 50 .lss 49 0),or 51 48 50,m 52 51,gf 52 (m 53 4),gf 52 (bk 54 .geq 53 8),or 55 52 54,m 33 55] (I 33 (Q [n 10 0,n 11 1])))))) (S (T [lg 57 2 12,m 58 2,q2 59 121 57 58,m 56 59,ex 60 56 0,ex 61 56 1,e 14 (.new [i 0,i 0,i 0,i 0,i 0]),st 5 14 60,m 15 61] (T [m 62 15] (I 62 (T [m 63 0,f 64 0 14,l 65 1 64,m 66 3,ca 67 122 [t 63,t 65,k 1,t 66]] (Q [n 10 0,n 11 0]))))) (T [m 69 0,e 70 (.JR (c (.agg [i 3,i 1,i 2]))),m 71 4,q3 72 54 69 70 71,m 68 72,ex 73 68 0,ex 74 68 1,m 16 73,m 13 74] (S (T [m 75 13,bk 76 .neq 75 0] (I 76 (Q [m 77 13,n 10 0,m 11 77]))) (T [m 79 0,m 80 2,q2 81 35 79 80,m 78 81,ex 82 78 0,ex 83 78 1,m 17 82,m 18 83] (T [m 85 0,m 86 1,m 87 17,bk 88 .rem 87 8,q3 89 76 85 86 88,m 84 89,ex 90 84 0,ex 91 84 1,m 19 90,m 20 91] (S (T [m 92 2,m 93 3,m 94 19,e 95 (.buildSlice 1 [i 0,i 0,i 0] 3 [(0,1,t 92),(1,1,t 93),(2,1,t 94)]),le 96 95,n 97 0] (B 1 (W OO))) (T [m 108 0,m 109 16,m 110 17,ca 111 91 [t 108,t 109,k 0,t 110]] (T [m 112 0,m 113 1,m 114 17,bk 115 .rem 114 8,m 116 16,q4 117 122 112 113 115 116] (T [m 118 0,m 119 1,lg 120 2 12,q1 121 123 120,bk 122 .add 121 1,ca 123 91 [t 118,t 119,k 0,t 122]] (Q [m 124 16,m 10 124,n 11 0])))))))))))),[r 10,r 11]⟩
theorem c36:P 36=some C36:=by kernel_rfl
end Go.Cs.Tryz
namespace Go.Cs
open Go
def Hp.AB(s:Hp)(key val first ad:Int):Hp:=(((s.setRef ad 0 key).1.setRef ad 1 val).1.setRef ad 2 first).1
def Hp.Z7(s:Hp)(head id ad:Int):Hp:=((s.G_ ad 0 id).1.setRef head (id.tmod 8) ad).1
def Hp.FN(s:Hp)(head key val ad:Int):Hp:=
 (((s.AB key val (s.GN head ((s.Nw key).1.tmod 8)).1 ad).Z7 head (s.Nw key).1 ad).G_ head 0
  (IntKind.i64.wrap ((((s.AB key val (s.GN head ((s.Nw key).1.tmod 8)).1 ad).Z7 head (s.Nw key).1 ad).JM head 0).1+1))).1
theorem Hp.Ok.AB{s:Hp}(k:s.Ok)(key val first ad:Int):(s.AB key val first ad).Ok:=((k.setRef _ _ _).setRef _ _ _).setRef _ _ _
theorem Hp.Ok.Z7{s:Hp}(k:s.Ok)(head id ad:Int):(s.Z7 head id ad).Ok:=(k.G_ _ _ _).setRef _ _ _
theorem Hp.Ok.FN{s:Hp}(k:s.Ok)(head key val ad:Int):(s.FN head key val ad).Ok:=((k.AB _ _ _ _).Z7 _ _ _).G_ _ _ _
end Go.Cs
namespace Go.Cs.Tryz
open Go Go.Cs
section
variable {H : Gb} {hb : Nat} {s : Hp} {L : G6}
theorem XB{s1:Hp}(p:PH H hb s1 L)(k:s1.Ok){key val first ad:Int}(hk:key≤9223372036854775807)(hv:val≤9223372036854775807)(hf:first≤9223372036854775807)(had:ad≤9223372036854775807){sb:Nat}(hsb:sb∉L.all hb)(ts:H[sb]?=some ⟨[.i key,.i val,.i first],.rw,1⟩)
  {E0:Env} (e0:E0 0=.ptr hb 0) (e16:E0 16=.i ad) (e95:E0 95=.slice sb 0 3 3 1 false) (e96:E0 96=.i 3) (e97:E0 97=.i 0) {r:Option (CX×Env×Gb)} (hr:den P (.loop OO) E0 H=r):
  ∃E' H',r=some (.exit 1,E',H')∧Keeps H H' (·∈L.all hb)∧PH H' hb (s1.AB key val first ad) L∧∀t,t∉wr OO→E' t=E0 t:=by
 obtain⟨H1,h1,k1,p1⟩:=KZ p k ad 0 key had hk
 have o1:=k.setRef ad 0 key
 obtain⟨H2,h2,k2,p2⟩:=KZ p1 o1 ad 1 val had hv
 have o2:=o1.setRef ad 1 val
 obtain⟨H3,h3,k3,p3⟩:=KZ p2 o2 ad 2 first had hf
 have ls:=Gf ts
 have t1:H1[sb]?=_:=(k1.keep sb ls hsb).trans ts
 have t2:H2[sb]?=_:=(k2.keep sb (Gf t1) hsb).trans t1
 have h1':run P 122 [.ptr hb 0,.i ad,.int .i64 0,.i key] H=_:=h1
 have h2':run P 122 [.ptr hb 0,.i ad,.int .i64 1,.i val] H1=_:=h2
 have h3':run P 122 [.ptr hb 0,.i ad,.int .i64 2,.i first] H2=_:=h3
 have w1:IntKind.i64.wrap ((0:Int)+1)=1:=by decide
 have w2:IntKind.i64.wrap ((1:Int)+1)=2:=by decide
 have w3:IntKind.i64.wrap ((2:Int)+1)=3:=by decide
 have step:∀{E:Env}{G G':Gb}{i j v w:Int},E 0=.ptr hb 0→E 16=.i ad→E 95=.slice sb 0 3 3 1 false→E 96=.i 3→E 97=.i i→(0≤i∧i<3)→G[sb]?=some ⟨[.i key,.i val,.i first],.rw,1⟩→[CV.i key,CV.i val,CV.i first][i.toNat]?=some (.i v)→
   run P 122 [.ptr hb 0,.i ad,.i i,.i v] G=some (.i w,G')→IntKind.i64.wrap (i+1)=j→∃E',den P OO E G=some (.normal,E',G')∧E' 97=.i j:=by
  intro E G G' i j v w f0 f16 f95 f96 f97 hi tg hv hc hj
  have c':decide (i<3)=true:=G7 hi.2
  have hi':(0:Int)≤i∧i<((3:Nat):Int):=by omega
  have:=@Nat.mul_one;refine GH ?_
  exact⟨_,rfl,uA⟩
 obtain⟨x',E',H',e,-,⟨rfl,rfl⟩,fr⟩:=Gs (p:=P) (c:=OO) (E0:=E0) (H0:=H)
  (fun q E H'=>(q=3∧E 97=.i 0∧H'=H)∨(q=2∧E 97=.i 1∧H'=H1)∨(q=1∧E 97=.i 2∧H'=H2)∨(q=0∧E 97=.i 3∧H'=H3))
  (fun x E' H'=>x=.exit 1∧H'=H3) (by
   intro q E H' hE h
   have f0:=(hE 0 dK).trans e0
   have f16:=(hE 16 dK).trans e16
   have f95:=(hE 95 dK).trans e95
   have f96:=(hE 96 dK).trans e96
   rcases h with⟨rfl,h97,rfl⟩|⟨rfl,h97,rfl⟩|⟨rfl,h97,rfl⟩|⟨rfl,h97,rfl⟩
   ·obtain⟨E2,d,f⟩:=step f0 f16 f95 f96 h97 oM ts rfl h1' w1
    exact Gp (k':=2) d oM (.inr (.inl ⟨rfl,f,rfl⟩))
   ·obtain⟨E2,d,f⟩:=step f0 f16 f95 f96 h97 oM t1 rfl h2' w2
    exact Gp (k':=1) d oM (.inr (.inr (.inl ⟨rfl,f,rfl⟩)))
   ·obtain⟨E2,d,f⟩:=step f0 f16 f95 f96 h97 oM t2 rfl h3' w3
    grind
   ·apply Gj (x:=.exit 1)
    ·refine GH ?_
     rfl
    ·simp
    ·exact⟨rfl,rfl⟩) 3 (.inl ⟨rfl,e97,rfl⟩)
 exact⟨E',_,hr.symm.trans e,(k1.trans k2).trans k3,p3,fr⟩
theorem D_(p:PH H hb s L)(k:s.Ok)(hs:Ql s)(h0:s.has 0=false)(hz:s.Gw 0=0){sp:Int}(hsp:0≤sp∧sp<8)(hborn:s.born<1000000000000){head key val:Int}(hhd:head≤9223372036854775807)(hof:s.Px head=0)(hkey:s.has key=true)(hval:val=0∨s.has val=true)
  (hf:QX (s.walk head).1 key=none){s1:Hp}{ad:Int}(ha:s.alloc sp 3 1 2=(s1,ad,0))(k1:s1.Ok)(hs1:Ql s1)(had:ad≤9223372036854775807):
  ∃H',run P 36 [.ptr hb 0,.i head,.i key,.i val,.i sp] H=some (.Jk [.i ad,.i 0],H')∧Keeps H H' (·∈L.all hb)∧PH H' hb (s1.FN head key val ad) L:=by
 have pl:=p.lt
 obtain⟨H1,h1,g1⟩:=Zw p k hs h0 hhd
 rw[hof]at h1
 obtain⟨X1,hX1⟩:∃X:Gb,X=H1++[⟨[.ptr hb 0,.i head],.rw,0⟩]:=⟨_,rfl⟩
 have gX1:Gr H1 X1:=by rw[hX1];exact Gr.app _ _
 have t12:X1[H1.length]?=some ⟨[.ptr hb 0,.i head],.rw,0⟩:=by rw[hX1];simp
 have gH1:=g1.trans gX1
 have hkl:=k.has_lt hkey
 have hhk:=KP (p.gr gH1) k key oM
 rw[hkey]at hhk
 obtain⟨H2,h2,g2⟩:=Yx (p.gr gH1) k hs h0 hhd key
 rw[hf]at h2
 unfold Da at h2
 obtain⟨X2,hX2⟩:∃X:Gb,X=H2++[⟨[.i 0,.i 0,.i 0,.i 0,.i 0],.rw,0⟩]:=⟨_,rfl⟩
 have gX2:Gr H2 X2:=by rw[hX2];exact Gr.app _ _
 have gH2:=(gH1.trans g2).trans gX2
 obtain⟨H3,h3,k3,p3⟩:=Fu (p.gr gH2) k hz hsp hborn (r:=3) (d:=1) (kd:=2) dE dE
 rw[ha]at h3 p3
 dsimp only at h3 p3
 have h3':run P 54 [.ptr hb 0,.agg [.int .i64 3,.int .i64 1,.int .i64 2],.i sp] X2=some (.Jk [.i ad,.i 0],H3):=h3
 have l1:=g1.len
 have n12:H1.length∉L.all hb:=fun h=>by have:=pl _ h;omega
 have u12:=Gr.get (g2.trans gX2) t12
 have v12:H3[H1.length]?=_:=(k3.keep _ (Gf u12) n12).trans u12
 have h4:=NS p3 k1 key oM
 unfold Q9 at h4
 obtain⟨id,hid⟩:∃id,id=(s1.Nw key).1:=⟨_,rfl⟩
 rw[←hid]at h4
 obtain⟨H4,h5,g4⟩:=KE p3 k1 head (id.tmod 8) hhd
 unfold Q9 at h5
 obtain⟨ft,hft⟩:∃ft,ft=(s1.GN head (id.tmod 8)).1:=⟨_,rfl⟩
 rw[←hft]at h5
 have hle:ft≤9223372036854775807:=by
  rcases Hp.Fx hs1 head (id.tmod 8)with h|h
  ·rw[hft,h];decide
  ·have:=k1.has_lt h;omega
 have hvl:val≤9223372036854775807:=by
  rcases hval with h|h
  ·rw[h];decide
  ·have:=k.has_lt h;omega
 have w12:=g4.get v12
 obtain⟨X4,Ib⟩:∃X:Gb,X=H4++[⟨[.i key,.i val,.i ft],.rw,1⟩]:=⟨_,rfl⟩
 have gX4:Gr H4 X4:=by rw[Ib];exact Gr.app _ _
 have ts:X4[H4.length]?=some ⟨[.i key,.i val,.i ft],.rw,1⟩:=by rw[Ib];simp
 have p4:=(p3.gr g4).gr gX4
 have l3:=k3.len
 have l4:=g4.len
 have lH2:=gH2.len
 have ns:H4.length∉L.all hb:=fun h=>by have:=pl _ h;omega
 have IY:=gX4.get w12
 have kA:Keeps H X4 (·∈L.all hb):=((Keeps.weaken gH2 fun _ h=>h.elim).trans k3).trans (Keeps.weaken (g4.trans gX4) fun _ h=>h.elim)
 have okA:=k1.AB key val ft ad
 have okB:=okA.Z7 head id ad
 obtain⟨sA,hsA⟩:∃sA,sA=s1.AB key val ft ad:=⟨_,rfl⟩
 have hN:s1.FN head key val ad=((sA.Z7 head id ad).G_ head 0 (IntKind.i64.wrap (((sA.Z7 head id ad).JM head 0).1+1))).1:=by unfold Hp.FN;rw[←hid,←hft,←hsA]
 have body:∀(E:Env)(HA:Gb),Keeps X4 HA (·∈L.all hb)→PH HA hb sA L→E 0=.ptr hb 0→E 1=.i head→E 12=.ptr H1.length 0→E 16=.i ad→E 17=.i id→
   ∃H',Keeps H H' (·∈L.all hb)∧PH H' hb (s1.FN head key val ad) L∧∃HB HC HD w1 w2,run P 91 [.ptr hb 0,.i ad,.int .i64 0,.i id] HA=some (.i w1,HB)∧run P 122 [.ptr hb 0,.i head,.i (id.tmod 8),.i ad] HB=some (.i w2,HC)∧HC[H1.length]?=some ⟨[.ptr hb 0,.i head],.rw,0⟩∧
    run P 123 [.agg [.ptr hb 0,.i head]] HC=some (.i ((sA.Z7 head id ad).JM head 0).1,HD)∧∃w3,run P 91 [.ptr hb 0,.i head,.int .i64 0,.i (IntKind.i64.wrap (((sA.Z7 head id ad).JM head 0).1+1))] HD=some (.i w3,H'):=by
  intro E HA kX pA f0 f1 f12 f16 f17
  rw[←hsA]at okA okB
  obtain⟨HB,b1,b2,b3⟩:=YR pA okA ad 0 id had
  have ok1:=okA.G_ ad 0 id
  obtain⟨HC,c1,c2,c3⟩:=KZ b3 ok1 head (id.tmod 8) ad hhd had
  obtain⟨HD,d1,d2⟩:=FQ c3 okB hhd
  obtain⟨HE,e1,e2,e3⟩:=YR (c3.gr d2) okB head 0 (IntKind.i64.wrap (((sA.Z7 head id ad).JM head 0).1+1)) hhd
  have kC:=(kX.trans b2).trans c2
  refine⟨HE,(kA.trans kC).trans ((Keeps.weaken d2 fun _ h=>h.elim).trans e2),by rw[hN];exact e3,HB,HC,HD,_,_,b1,c1,(kC.keep _ (Gf IY) n12).trans IY,d1,_,e1⟩
 have lp:leaf (.ptr hb 0)=true:=rfl
 have z0:((0:Int) != 0)=false:=rfl
 have c1:¬(sp<0):=by omega
 have c2:¬((8:Int)≤sp):=by omega
 rw[Gi c36 _ _ sM]
 by_cases hv0:val=0
 ·have hv1:(val != 0)=false:=by rw[hv0];rfl
  refine W3 h1 z0 @Gu ?_
  rw[←hX1]
  refine W7 hhk hv1 c1 c2 t12 h2 @Gu ?_
  rw[←hX2]
  refine W7 h3' z0 h4 h5 @GD @J5 @Gu ?_
  rw[←Ib]
  generalize hr:den P (.loop OO) _ _=r
  obtain⟨E',HA,rfl,kA',pA,fr⟩:=XB p4 k1 oM hvl hle had ns ts uA uA uA uA uA hr
  have f0:=fr 0 dK
  have f1:=fr 1 dK
  have f12:=fr 12 dK
  have f16:=fr 16 dK
  have f17:=fr 17 dK
  simp only[Gg,Nat.reduceEqDiff,↓reduceIte]at f0 f1 f12 f16 f17
  rw[←hsA]at pA
  obtain⟨H',q1,q2,HB,HC,HD,w1,w2,b1,b2,b3,b4,w3,b5⟩:=body E' HA kA' pA f0 f1 f12 f16 f17
  refine⟨H',?_,q1,q2⟩
  exact V11 f0 f1 f12 f16 f17 b1 b2 b3 b4 b5 @GD
 ·have hv1:(val != 0)=true:=by rw[bne_iff_ne];exact hv0
  have hhv:=KP (p.gr gH1) k val hvl
  rw[hval.resolve_left hv0]at hhv
  refine W3 h1 z0 @Gu ?_
  rw[←hX1]
  refine W8 hhk hv1 hhv c1 c2 t12 h2 @Gu ?_
  rw[←hX2]
  refine W7 h3' z0 h4 h5 @GD @J5 @Gu ?_
  rw[←Ib]
  generalize hr:den P (.loop OO) _ _=r
  obtain⟨E',HA,rfl,kA',pA,fr⟩:=XB p4 k1 oM hvl hle had ns ts uA uA uA uA uA hr
  have f0:=fr 0 dK
  have f1:=fr 1 dK
  have f12:=fr 12 dK
  have f16:=fr 16 dK
  have f17:=fr 17 dK
  simp only[Gg,Nat.reduceEqDiff,↓reduceIte]at f0 f1 f12 f16 f17
  rw[←hsA]at pA
  obtain⟨H',q1,q2,HB,HC,HD,w1,w2,b1,b2,b3,b4,w3,b5⟩:=body E' HA kA' pA f0 f1 f12 f16 f17
  refine⟨H',?_,q1,q2⟩
  exact V11 f0 f1 f12 f16 f17 b1 b2 b3 b4 b5 @GD
end
end Go.Cs.Tryz
namespace Go.Cs.Tryz
open Go Go.Cs A
def C10:Gl:=⟨131,0,T [nb 0 false] (T [ca 17 11 [k 6],m 16 17,ex 18 16 0,ex 19 16 1,m 1 18,m 2 19] (T [ca 21 12 [k 1],m 20 21,ex 22 20 0,ex 23 20 1,m 3 22,m 4 23] (S (T [m 24 1,e 25 (.eqv false 1 (t 24) (c .nilPtr)),m 26 25,gf 26 (m 27 3),gf 26 (e 28 (.eqv false 1 (t 27) (c .nilPtr))),or 29 26 28,m 30 29,gf 30 (m 31 2),gf 30 (bk 32 .neq 31 0),or 33 30 32,m 34 33,gf 34 (m 35 4),gf 34 (bk 36 .neq 35 0),or 37 34 36] (I 37 (Q [nb 0 false]))) (T [m 39 1,ca 40 16 [t 39,k 0],m 38 40,ex 41 38 0,ex 42 38 1,m 5 41,m 2 42] (S (T [m 43 2,bk 44 .neq 43 0,m 45 44,gf 45 (m 46 3),gf 45 (e 47 (.build [i 0,i 0,i 0] [])),gf 45 (m 48 5),gf 45 (q3 49 34 46 47 48),gf 45 (bk 50 .neq 49 0),or 51 45 50] (I 51 (Q [nb 0 false]))) (S (T [m 53 1,e 54 (.build [i 0,i 0,i 0] []),ca 55 40 [t 53,k 76,t 54],m 52 55,ex 56 52 0,ex 57 52 1,m 6 56,m 7 57] (T [m 58 5,bk 59 .neq 58 64,m 60 59,gf 60 (m 61 7),gf 60 (bk 62 .neq 61 0),or 63 60 62] (I 63 (Q [nb 0 false])))) (T [m 65 1,m 66 5,ca 67 36 [t 65,t 66,k 76,k 0,k 0],m 64 67,ex 68 64 0,ex 69 64 1,m 8 68,m 2 69] (T [m 71 1,m 72 5,ca 73 38 [t 71,t 72,k 76],m 70 73,ex 74 70 0,ex 75 70 1,m 9 74,m 4 75] (T [m 77 1,m 78 3,q2 79 13 77 78,m 76 79,ex 80 76 0,ex 81 76 1,ex 82 76 2,m 10 80,m 11 81,m 12 82] (S (T [m 83 2,bk 84 .neq 83 0,m 85 84,gf 85 (m 86 4),gf 85 (bk 87 .neq 86 0),or 88 85 87,m 89 88,gf 89 (m 90 12),gf 89 (bk 91 .neq 90 0),or 92 89 91,m 93 92,gf 93 (m 94 8),gf 93 (bk 95 .neq 94 78),or 96 93 95,m 97 96,gf 97 (m 98 9),gf 97 (bk 99 .neq 98 0),or 100 97 99,m 101 100,gf 101 (m 102 11),gf 101 (bk 103 .neq 102 1),or 104 101 103,m 105 104,gf 105 (m 106 10),gf 105 (e 107 (.buildSlice 1 [i 0,i 0] 2 [(0,1,k 64),(1,1,k 78)])),gf 105 (q2 108 20 106 107),gf 105 (no 109 108),or 110 105 109] (I 110 (Q [nb 0 false]))) (S (T [m 112 1,m 113 10,q2 114 15 112 113,m 111 114,ex 115 111 0,ex 116 111 1,m 13 115,m 14 116] (T [m 117 14,bk 118 .neq 117 0] (I 118 (Q [nb 0 false])))) (T [m 120 1,m 121 5,q2 122 31 120 121,m 119 122,ex 123 119 0,ex 124 119 1,m 15 123,m 2 124] (Q [m 125 15,bk 126 .eql 125 1,m 127 126,gt 127 (m 128 2),gt 127 (bk 129 .eql 128 0),an 130 127 129,m 0 130]))))))))))))),[r 0]⟩
theorem c10:P 10=some C10:=by kernel_rfl
end Go.Cs.Tryz
namespace Go.Cs
open Go
def okB(s:Hp):Bool:=decide (2≤s.blk.length∧s.blk.length≤64)&&(s.blk.all (fun x=>decide (x.1≤3∧x.2<8))&&(s.objs.all (fun o=>decide (o.addr % 2=0∧o.refs.length≤15∧o.data.length≤200∧(o.kd≤3∧(o.kd=1→1≤o.refs.length)∧(o.kd=2→2≤o.refs.length))∧(1≤o.id∧o.id≤s.born)∧o.addr+o.size≤s.nw∧64≤o.addr))&&
 (decide (s.objs.Pairwise fun a b=>a.addr+a.size≤b.addr)&&(decide (s.objs.Pairwise fun a b=>a.id≠b.id)&&decide (s.born≤1000)))))
theorem TW{s:Hp}(h:okB s=true):s.Ok:=by
 simp only[okB,Qj,decide_eq_true_eq,List.all_eq_true]at h
 obtain⟨h1,h2,h3,h4,h5,h6⟩:=h
 refine⟨h1,h2,fun o ho=>?_,h4,h5,oM⟩
 obtain⟨a,b,c,d,e,f,-⟩:=h3 o ho
 exact⟨a,b,c,d,e,f⟩
theorem Gns{s:Hp}(h:okB s=true)(hz:s.Gw 0=0):s.Lo:=by
 simp only[okB,Qj,decide_eq_true_eq,List.all_eq_true]at h
 exact⟨hz,fun x hx=>(h.2.2.1 x hx).2.2.2.2.2.2⟩
def Gol(s:Hp):Bool:=s.objs.all fun o=>o.refs.all fun x=>x==0||s.has x
theorem Ma{s:Hp}(h:Gol s=true):∀o∈s.objs,∀x∈o.refs,x=0∨s.has x=true:=by
 simpa[Gol,List.all_eq_true]using h
def aB:List (Nat×Nat):=[(0,0),(1,0),(0,0),(0,0),(0,0),(0,0)]
def aT(r:Int)(n:Int):Ob:=⟨64,1,[0,0,r,0,0,0,0,0],[n],3,false⟩
def aO:Ob:=⟨76,2,[],[],0,false⟩
def aE(k d:Int):Ob:=⟨78,3,[k,0,0],[d],2,false⟩
def aS1:Hp:=⟨aB,[aT 0 0],1,[]⟩
def aS2:Hp:=⟨aB,[aT 0 0,aO],2,[]⟩
def aS3:Hp:=⟨aB,[aT 0 0,aO,aE 0 0],3,[]⟩
def Fb:Hp:=⟨aB,[aT 78 1,aO,aE 76 2],3,[]⟩
def aS5:Hp:=⟨aB,[aT 78 1,aO,aE 0 2],3,[]⟩
def aS6:Hp:=⟨aB,[aT 0 0,aO,aE 0 2],3,[]⟩
theorem a1:(Hp.new 6).alloc 0 8 1 3=(aS1,64,0):=by kernel_rfl
theorem a2:aS1.place 76 0 0 0=(aS2,2,0):=by kernel_rfl
theorem a3:aS2.alloc 0 3 1 2=(aS3,78,0):=by kernel_rfl
theorem a4:aS3.FN 64 76 0 78=Fb:=by kernel_rfl
theorem a6:aS5.unlink 64 ⟨78,64,2,0,0⟩=aS6:=by kernel_rfl
def aR:Rt:=((Rt.new 1).set 0 0 0 64).1
theorem Gdk:∀a∈aR.vals,a=0∨a=64:=by decide +kernel
theorem GoP:(64:Int)∈aR.vals:=by decide +kernel
theorem GoM:aR.Ok:=(Rt.BX oM).set 0 0 0 64 dE
theorem GbW{a:Int}{o:Ob}(ha:a=64∨a=78)(h:Fb.obj a=some o):(a=64∧o=aT 78 1)∨(a=78∧o=aE 76 2):=by
 rcases ha with rfl|rfl
 ·left
  have:Fb.obj 64=some (aT 78 1):=by kernel_rfl
  rw[this]at h
  exact⟨rfl,by simpa using h.symm⟩
 ·right
  have:Fb.obj 78=some (aE 76 2):=by kernel_rfl
  rw[this]at h
  exact⟨rfl,by simpa using h.symm⟩
theorem Gks{a:Int}(h:Kpt Fb aR a):a=64∨a=78:=by
 unfold Kpt at h
 induction h with
 |start h1 h2=>
  rcases Gdk _ h1.1 with h|h
  ·exact absurd h h1.2
  ·exact .inl h
 |@ref a b o j _ h2 h3 h4 h5 ih=>
  have hb:b=0∨b=78∨(a=78∧j=0):=by
   rcases GbW ih h2 with⟨rfl,rfl⟩|⟨rfl,rfl⟩
   ·have:=JV h3
    simp[aT]at this
    omega
   ·match j,h3 with
    |0,_=>exact .inr (.inr ⟨rfl,rfl⟩)
    |1,h3=>simp[aE]at h3;omega
    |2,h3=>simp[aE]at h3;omega
    |j+3,h3=>simp[aE]at h3
  rcases hb with rfl|rfl|⟨rfl,rfl⟩
  ·have:Fb.has 0=false:=by decide +kernel
   rw[this]at h5;cases h5
  ·exact .inr rfl
  ·rcases GbW ih h2 with⟨h,-⟩|⟨-,rfl⟩
   ·cases h
   ·cases h4
 |@pair a b c o h1 _ h3 h4 h5 _ h7 h8 ih1 ih2=>
  rcases GbW ih1 h3 with⟨rfl,rfl⟩|⟨rfl,rfl⟩
  ·cases h4
  ·simp[aE]at h5;omega
theorem GmD{a:Int}(h:a=64∨a=78):Kpt Fb aR a:=by
 have h64:Kpt Fb aR 64:=.start ⟨GoP,dE⟩ dK
 rcases h with rfl|rfl
 ·exact h64
 ·exact .ref (o:=aT 78 1) (j:=2) h64 (by kernel_rfl) rfl dE dK
theorem Gj1(ks:List Int)(hk:∀x∈ks,Kpt Fb aR x):∀x∈NP ks Fb.objs,Fb.has x=true→x∈ks:=fun x hx _=>by
 obtain⟨o,ho,⟨-,h2,h3⟩,-⟩:=YM.1 hx
 have:=Gks (hk _ h3)
 simp only[Fb,List.mem_cons,List.not_mem_nil,or_false]at ho
 rcases ho with rfl|rfl|rfl
 ·cases h2
 ·cases h2
 ·simp[aE]at this
theorem a5:Zr Fb [64,78] 2=aS5:=by
 classical
 have e1:Fb.obj 64=some (aT 78 1):=by kernel_rfl
 have e2:Fb.obj 78=some (aE 76 2):=by kernel_rfl
 have h1:Yi Fb [64,78] 64=Fb:=by
  unfold Yi
  rw[e1]
  exact if_neg fun h=>by rcases h.1 with h|h<;>cases h
 have h2:Yi Fb [64,78] 78=aS5:=by
  unfold Yi
  rw[e2]
  have hc:Cnd [64,78] (aE 76 2):=⟨.inr rfl,fun h=>by have:=h.2;simp[aE]at this⟩
  have e3:Fb.upd (aE 76 2).addr zA=aS5:=by kernel_rfl
  exact(if_pos hc).trans e3
 show Yi (Yi Fb [64,78] 64) [64,78] 78=aS5
 rw[h1,h2]
end Go.Cs
namespace Go.Cs.Tryz
open Go Go.Cs
section
variable {H : Gb}
theorem GjY:FH 64 aS5 1 aS6:=by
 have h1:(aS5.walk 64).1.find? (fun x=>x.key==0)=some ⟨78,64,2,0,0⟩:=by kernel_rfl
 refine .more (x:=⟨78,64,2,0,0⟩) ?_ ?_ h1 ?_
 ·rw[a6];exact Ma dK
 ·rw[a6];decide +kernel
 ·rw[a6]
  have h2:(aS6.walk 64).1=[]:=by kernel_rfl
  exact .stop fun x hx=>by rw[h2]at hx;cases hx
theorem RF:∃H',run P 10 [] H=some (.bool true,H'):=by
 obtain⟨hb,H1,L,h1,g1,p1,hL⟩:=Xd (H:=H) 6 oM
 obtain⟨rb,H2,o,v,h2,g2,m2,ho⟩:=PX (H:=H1) 1 oM
 have p2:=p1.gr g2
 have k0:(Hp.new (6:Int).toNat).Ok:=Hp.BX dE
 obtain⟨H3,h3,k3,p3⟩:=Xg p2 k0 dE (sp:=0) oM dE
 rw[show Hp.new (6:Int).toNat=Hp.new 6 from rfl,a1]at h3 p3
 dsimp only at h3 p3
 have pl1:=p1.lt
 have dis:∀c t,o c=some t→c∉L.all hb:=fun c t h hc=>by have:=ho c t h;have:=pl1 c hc;omega
 have m3:K5 o H3 rb (Rt.new 1) v:=m2.frame (fun c t h=>JI (m2.dom c t h) k3.len) (fun _ _ h=>h) fun c t h=>k3.keep c (m2.dom c t h) (dis c t h)
 obtain⟨H4,o4,v4,h4,m4,c4⟩:=FE m3 (Rt.BX (n:=1) oM) 0 0 0 64
 have e4:((Rt.new 1).set 0 0 0 64).2=0:=by kernel_rfl
 rw[e4]at h4
 have m4:K5 o4 H4 rb aR v4:=m4
 have l3:H1.length≤H3.length:=Jm g2.len k3.len
 have GqW:∀c t,o4 c=some t→c∉L.all hb:=fun c t h hc=>by
  have:=pl1 c hc
  rw[c4.tag c oM]at h
  exact dis c t h hc
 have p4:PH H4 hb aS1 L:=p3.frame fun c hc=>c4.keep c (p3.lt c hc) (by
  cases e:o c with
  |none=>rfl
  |some t=>exact absurd hc (dis c t e))
 obtain⟨H5,h5,k5,p5⟩:=Dt p4 (TW dK) dE 76 0 0 0
 rw[a2]at h5 p5
 have ok2:aS2.Ok:=TW dK
 obtain⟨H6,h6,k6,p6⟩:=D_ p5 ok2 (Ma dK) dK dE (sp:=0) oM dE (head:=64) (key:=76) (val:=0) dE dK dK (.inl rfl) (by kernel_rfl) a3 (TW dK) (Ma dK) dE
 rw[a4]at p6
 have okb:okB Fb=true:=by decide +kernel
 have ok4:Fb.Ok:=TW okb
 have Gn9:Ql Fb:=Ma dK
 have z4:Fb.has 0=false:=by decide +kernel
 obtain⟨H7,h7,g7⟩:=MR p6 ok4 Gn9 z4 (head:=64) dE 76
 have eg:Hp.I5 Fb 64 76=(0,0):=by kernel_rfl
 rw[eg]at h7
 have p7:=p6.gr g7
 have k47:Keeps H4 H7 (·∈L.all hb):=(k5.trans k6).trans (Keeps.weaken g7 fun _ h=>h.elim)
 have m7:K5 o4 H7 rb aR v4:=m4.frame (fun c t h=>JI (m4.dom c t h) k47.len) (fun _ _ h=>h) fun c t h=>k47.keep c (m4.dom c t h) (GqW c t h)
 have snd:E_ Fb aR:=⟨Gn9,fun x hx=>by
  rcases Gdk x hx with h|h
  ·exact .inl h
  ·right;rw[h];decide +kernel,Gns okb dE⟩
 obtain⟨w,H8,l,t,h8,g8,li,sr,hm,ht,ht1⟩:=LM p7 ok4 m7 GoM snd (C:=True) (fun _ ks hk=>Gj1 ks hk)
 have el:l=[64,78]:=D6 sr (by unfold ZC;decide) fun x=>(hm x).trans ⟨fun h=>by simpa using Gks h,fun h=>GmD (by simpa using h)⟩
 subst el
 have et:t=1:=by
  have:=ht1 trivial
  have:t≠0:=fun h=>by have:=ht.1 h;cases this
  omega
 subst et
 obtain⟨X8,hX8⟩:∃X:Gb,X=H8++[⟨[.i 64,.i 78],.rw,1⟩]:=⟨_,rfl⟩
 have gX8:Gr H8 X8:=by rw[hX8];exact Gr.app _ _
 have li2:LI X8 (.slice H8.length 0 2 2 1 false) [64,78]:=.inr ⟨H8.length,false,rfl,Gm.2 ⟨Nat.zero_le _,rfl⟩,by rw[hX8];simp[ints],rfl⟩
 have hi:=YS (li.gr gX8) li2 sM
 simp only[decide_true]at hi
 obtain⟨H9,n9,h9,k9,p9,-,-⟩:=Dh ok4 snd ((p7.gr g8).gr gX8) (li.gr gX8) sr sM (fun x hx=>by
  simp only[List.mem_cons,List.not_mem_nil,or_false]at hx
  rcases hx with rfl|rfl<;>decide +kernel)
 have e9:Zr Fb [64,78] [(64:Int),78].length=aS5:=a5
 rw[e9]at p9
 obtain⟨H10,h10,k10,p10⟩:=Gcn p9 (TW dK) (Ma dK) dK (head:=64) dE dK GjY dE
 unfold Q9 at h5 h7
 have h1':run P 11 [.int .i64 6] H=_:=h1
 have h2':run P 12 [.int .i64 1] H1=_:=h2
 have h3':run P 16 [.ptr hb 0,.int .i64 0] H2=_:=h3
 have h4':run P 34 [.ptr rb 0,.agg [.int .i64 0,.int .i64 0,.int .i64 0],.i 64] H3=_:=h4
 have h5':run P 40 [.ptr hb 0,.int .i64 76,.agg [.int .i64 0,.int .i64 0,.int .i64 0]] H4=_:=h5
 have h6':run P 36 [.ptr hb 0,.i 64,.int .i64 76,.int .i64 0,.int .i64 0] H5=_:=h6
 have h7':run P 38 [.ptr hb 0,.i 64,.int .i64 76] H6=_:=h7
 have Gsd:X8=H8++[⟨[.int .i64 64,.int .i64 78],.rw,1⟩]:=hX8
 rw[Gi c10 _ _ sM]
 simp(disch:=first|exact dz|fail) only[simprocAttr,Gx,↓reduceIte,GcZ,h1',h2',Gdp,Gda,show((0:Int) != 0)=false from rfl,h3',fill,splice,and_self,h4',h5',show((64:Int) != 64)=false from rfl,h6',h7',h8,show((78:Int) != 78)=false from rfl]
 rw[←Gsd]
 simp(disch:=first|exact dz|fail) only[simprocAttr,Gx,↓reduceIte,hi,h9,show((0:Int) != 0)=false from rfl,h10,show((1:Int)==1)=true from rfl,show((0:Int)==0)=true from rfl]
 exact⟨_,rfl⟩
end
end Go.Cs.Tryz
noncomputable section
namespace Go.Cs.Tryz
open Go Go.Cs Go.RowKit Go.ChangeShapes Go.WideShapes
theorem FZ{H:Gb}{cv:Nat→CV}{blk:JD}{n j:Nat}{l:List (List CV)}(hn:0<n)(h:GnQ cv blk (List.replicate n (.int .u8)) l)(hs:(∀j,cv j=.Gc)∨∃m c,∀j,cv j=.slice j 0 m c (List.replicate n (FK.int .u8)).length false)(hj:H[j]?=some blk):
  Sl H (cv j) n l∧Gn (cv j)≤j∧TS n l:=by
 obtain⟨h1,h2,h3⟩:=h
 rw[List.length_replicate]at h2 hs
 refine⟨?_,?_,fun x hx=>?_⟩
 ·rcases hs with hs|⟨m,c,hs⟩
  ·left
   refine⟨?_,.inl (hs j)⟩
   have:=h1 j H
   rw[hs j]at this
   simp only[Vs,GA,Prod.mk.injEq,CV.int.injEq,true_and,and_true]at this
   exact I4 oM
  ·have hm:m=l.length:=by
    have:=h1 j H
    rw[hs j]at this
    simp only[Vs,GA,Prod.mk.injEq,CV.int.injEq,true_and,and_true]at this
    omega
   by_cases c0:l=[]
   ·left
    refine⟨c0,.inr ⟨j,0,c,false,?_⟩⟩
    rw[hs j,hm,c0];rfl
   ·obtain⟨-,q2,q3,q4⟩:=h2 c0
    refine .inr ⟨j,0,c,false,blk,by rw[hs j,hm],hj,.inr q2,fun i r hi=>?_⟩
    have:=q4 i r hi
    rw[Nat.zero_add]
    refine⟨this.2,?_⟩
    have:=(h3 r (JV hi)).1
    rw[List.length_replicate]at this
    exact this
 ·rcases hs with hs|⟨m,c,hs⟩
  ·rw[hs j];exact Nat.zero_le _
  ·rw[hs j];exact Nat.le_refl _
 ·obtain⟨q1,q2⟩:=h3 x hx
  rw[List.length_replicate]at q1
  obtain⟨zs,hl,hp⟩:=OV (n:=n) (p:=fun i z=>x[i]?=some (.int .u8 z)∧0≤z∧z≤255) fun i hi=>by
   obtain⟨c,e1,z,e2,e3,e4⟩:=q2 i (.int .u8) (by rw[List.getElem?_replicate,if_pos hi])
   exact⟨z,by rw[e1,e2],e3,e4⟩
  refine⟨zs,hl,List.ext_getElem? fun i=>?_,fun z hz=>?_⟩
  ·unfold Y0
   by_cases hi:i<n
   ·have hg:=JG (l:=zs) (i:=i) oM
    rw[K4,(hp i _ hg).1,hg];rfl
   ·rw[lX9 oM,lX9 (by simp;omega)]
  ·obtain⟨i,hi⟩:=List.mem_iff_getElem?.1 hz
   exact(hp i z hi).2
noncomputable def GlI:Array Field:=match Go.Proofs.Tryz.prog.underlying 27 with
 |some (.struct fs)=>fs
 |_=>#[]
theorem u27:Go.Proofs.Tryz.prog.underlying 27=some (.struct GlI):=by kernel_rfl
theorem Gfq:Go.Proofs.Tryz.prog.cellTypes Go.Proofs.Tryz.prog.depth 27=some [5,5,22,23,24,25,23]:=by kernel_rfl
theorem Gdu:[5,5,22,23,24,25,23].length=Go.Proofs.Tryz.prog.cellsOf 27:=by kernel_rfl
theorem M9{i t o:Nat}(h:(GlI[i]?).map (fun f=>(f.type,f.offset))=some (t,o)):∃f,GlI[i]?=some f∧f.type=t∧f.offset=o:=by
 rw[GJ]at h
 obtain⟨f,h1,h2⟩:=h
 simp only[Prod.mk.injEq]at h2
 exact⟨f,h1,h2.1,h2.2⟩
theorem two{bl mu:Int}{x:Nat→CV}{blks:List JD}(b:Beg (blks++[⟨[.int .u8 bl,.int .u8 mu,x 2,x 3,x 4,x 5,x 6],.rw,0⟩]) bl mu x):∃H1,run (Kb Go.Proofs.Tryz.prog) 5 [.agg [.int .u8 bl,.int .u8 mu,x 2,x 3,x 4,x 5,x 6]] blks=some (.bool true,H1):=
 Gib b fun G=>RF (H:=G)
end Go.Cs.Tryz
namespace Go.Cs.Tryz
open Go Go.Cs A
def C37:Gl:=⟨32,0,T [nb 6 false,n 7 0] (T [m 13 0,m 14 1,q2 15 116 13 14,m 12 15,ex 16 12 0,ex 17 12 1,e 8 (.new [.nilPtr,i 0]),st 2 8 16,m 9 17] (S (T [m 18 9,bk 19 .neq 18 0] (I 19 (Q [m 20 9,nb 6 false,m 7 20]))) (T [lg 22 2 8,m 23 2,q2 24 121 22 23,m 21 24,ex 25 21 0,ex 26 21 1,e 10 (.new [i 0,i 0,i 0,i 0,i 0]),st 5 10 25,m 11 26] (S (T [m 27 11] (I 27 (R [lg 28 2 8,lg 29 5 10,q2 30 119 28 29]))) (Q [m 31 11,m 6 31,n 7 0]))))),[r 6,r 7]⟩
theorem c37:P 37=some C37:=by kernel_rfl
def C39:Gl:=⟨22,0,T [e 4 (.JR (c .Gc)),n 5 0] (T [m 10 0,m 11 1,q2 12 116 10 11,m 9 12,ex 13 9 0,ex 14 9 1,e 6 (.new [.nilPtr,i 0]),st 2 6 13,m 7 14] (S (T [m 15 7,bk 16 .neq 15 0] (I 16 (Q [m 17 7,e 4 (.JR (c .Gc)),m 5 17]))) (T [e 8 (.new [.Gc])] (T [lg 18 2 6,e 19 (.NI 124 [t 8]),q2 20 117 18 19] (Q [l 21 1 8,m 4 21,n 5 0]))))),[r 4,r 5]⟩
theorem c39:P 39=some C39:=by kernel_rfl
def GqP:Gl:=⟨15,0,T [bo 2 0,nb 3 false] (S (T [f 4 3 2,l 5 1 4,bk 6 .neq 5 0] (I 6 (R [l 7 1 1,f 8 3 2,l 9 1 8,f 10 4 2,l 11 1 10,e 12 (.build [i 0,i 0] [(0,1,t 9),(1,1,t 11)]),e 13 (.buildSlice 2 [i 0,i 0] 1 [(0,2,t 12)]),ap 14 2 7 13,st 1 1 14]))) (Q [nb 3 true])),[r 3]⟩
theorem c124:P 124=some GqP:=by kernel_rfl
end Go.Cs.Tryz
namespace Go.Cs
open Go
def Z5(l:List Bv):Nat:=(l.filter fun x=>x.key != 0).length
end Go.Cs
namespace Go.Cs.Tryz
open Go Go.Cs
section
variable {H : Gb} {hb : Nat} {s : Hp} {L : G6}
theorem Hu(p:PH H hb s L)(k:s.Ok)(hs:Ql s)(h0:s.has 0=false){head:Int}(hhd:head≤9223372036854775807)(hof:s.Px head=0){key:Int}(hk:key≠0):
  ∃H',run P 37 [.ptr hb 0,.i head,.i key] H=some (.Jk [.bool (QX (s.walk head).1 key).isSome,.i 0],H')∧Keeps H H' (·∈L.all hb)∧
   PH H' hb (match QX (s.walk head).1 key with|some x=>s.unlink head x|none=>s) L:=by
 obtain⟨H1,h1,g1⟩:=Zw p k hs h0 hhd
 rw[hof]at h1
 obtain⟨X,hX⟩:∃X:Gb,X=H1++[⟨[.ptr hb 0,.i head],.rw,0⟩]:=⟨_,rfl⟩
 have gX:Gr H1 X:=by rw[hX];exact Gr.app _ _
 have tX:X[H1.length]?=some ⟨[.ptr hb 0,.i head],.rw,0⟩:=by rw[hX];simp
 have g:=g1.trans gX
 have lp:leaf (.ptr hb 0)=true:=rfl
 obtain⟨H2,h2,g2⟩:=Yx (p.gr g) k hs h0 hhd key
 have c':((0:Int) != 0)=false:=rfl
 have e0:(key != 0)=true:=by rw[bne_iff_ne];exact hk
 have t2:=g2.get tX
 have gr2:Keeps H H2 (·∈L.all hb):=Keeps.weaken (g.trans g2) fun _ h=>h.elim
 unfold Da at h2
 rw[Gi c37 _ _ sM]
 cases hf:QX (s.walk head).1 key with
 |none=>
  rw[hf]at h2
  refine⟨H2++[⟨[.i 0,.i 0,.i 0,.i 0,.i 0],.rw,0⟩],?_,gr2.app' _,((p.gr g).gr g2).app _⟩
  refine GH ?_
  rw[←hX]
  simp(disch:=first|exact dz|fail) only[simprocAttr,Gx,↓reduceIte,h2,splice]
 |some x=>
  rw[hf]at h2
  dsimp only at h2
  rw[e0]at h2
  have hm:x∈(s.walk head).1:=List.mem_of_find?_eq_some hf
  obtain⟨Y,hY⟩:∃X:Gb,X=H2++[⟨Nh x,.rw,0⟩]:=⟨_,rfl⟩
  have gY:Gr H2 Y:=by rw[hY];exact Gr.app _ _
  have y6:Y[H2.length]?=some ⟨Nh x,.rw,0⟩:=by rw[hY];simp
  have y2:=gY.get t2
  obtain⟨H3,h3,k3,p3⟩:=Ig (((p.gr g).gr g2).gr gY) k hs hhd (x:=x) (by have:=k.has_lt (UY hm).2;omega) (by
   rcases S_ hm with h|h
   ·omega
   ·have:=k.has_lt h;omega)
  refine⟨H3,?_,(gr2.trans (Keeps.weaken gY fun _ h=>h.elim)).trans k3,p3⟩
  unfold Nh at h2 hY y6 h3
  refine GH ?_
  rw[←hX]
  simp(disch:=first|exact dz|fail) only[simprocAttr,Gx,↓reduceIte,h2,splice]
  rw[←hY]
  simp(disch:=first|exact dz|fail) only[simprocAttr,Gx,↓reduceIte,y2,y6,h3]
theorem Gjn(p:PH H hb s L){vb N:Nat}(hvb:vb<N∧vb∉L.all hb)(hlt:∀c∈L.all hb,c<N)(all:List Bv)(hal:all.length≤100000):
  EY N 124 [.ptr vb 0] hb s L all (fun _=>true)
   (fun i W H=>PH H hb s L∧∃v lb cs,H[vb]?=some ⟨[v],.rw,0⟩∧At (only lb) z3 H v 2 (Z5 (all.take i)) cs∧lb≠vb∧lb∉L.all hb∧W=(fun c=>c=vb∨c=lb)) (fun _ _ _=>False) where
 lt:=by decide
 ph:=fun i W H h=>h.1
 gr:=fun i W H H' m h hm hw g=>by
  obtain⟨h1,v,lb,cs,h2,h3,h4,h5,rfl⟩:=h
  exact⟨h1.frame fun c hc=>g.keep c (h1.lt c hc) fun e=>by have:=hlt c hc;omega,v,lb,cs,(g.keep vb (Gf h2) oM).trans h2,by
   rcases h3 with h|⟨b,f,q0,q1,q2,q3⟩
   ·exact .inl h
   ·refine .inr ⟨b,f,q0,q1,?_,q3⟩
    rw[Js]at q1
    rw[g.keep b (Gf q2) (fun e=>hw (.inr (e.symm.trans q1.1))),q2],h4,h5,rfl⟩
 go:=fun i W H x hx hN h=>by
  obtain⟨h1,v,lb,cs,h2,h3,h4,h5,rfl⟩:=h
  have hl:=Gf hx
  have l2:=Gf h2
  have hcnt:Z5 (all.take (i+1))=Z5 (all.take i)+if x.key != 0 then 1 else 0:=by
   unfold Z5
   rw[Aa hx,QU]
   split<;>rfl
  have hle:Z5 (all.take i)≤all.length:=Jm (List.length_filter_le _ _) (by simp;omega)
  obtain⟨Y,hY⟩:∃X:Gb,X=H++[⟨Nh x,.rw,0⟩]:=⟨_,rfl⟩
  have gY:Gr H Y:=by rw[hY];exact Gr.app H _
  have lY:Y.length=H.length+1:=by rw[hY];simp
  have tY:=gY.get h2
  have y2:Y[H.length]?=some ⟨Nh x,.rw,0⟩:=by rw[hY];simp
  rw[Gi c124 _ _ sM]
  unfold Nh at hY y2⊢
  by_cases c:x.key=0
  ·have c':(x.key != 0)=false:=by rw[c];rfl
   refine⟨_,Y,?_,gY.weaken fun _ h=>h.elim,fun c h=>.inl h,fun _=>⟨h1.gr gY,v,lb,cs,tY,?_,h4,h5,rfl⟩,fun h=>by cases h⟩
   ·simp(disch:=first|exact dz|fail) only[simprocAttr,Gx,↓reduceIte,Ny,c']
    rw[←hY]
   ·rw[hcnt,c',if_neg sM,Nat.add_zero]
    exact At.keeps h3 gY
  ·have c':(x.key != 0)=true:=by rw[bne_iff_ne];exact c
   obtain⟨X,hX⟩:∃X:Gb,X=Y++[⟨[.i x.key,.i x.val],.rw,2⟩]:=⟨_,rfl⟩
   have gX:Gr Y X:=by rw[hX];exact Gr.app _ _
   obtain⟨H',a1,a2,a3,a4⟩:=At.append (At.keeps h3 (gY.trans gX)) (k:=1) (new:=[.i x.key,.i x.val]) oM (by unfold JF;omega) (by simp[Jo]) rfl
   have lX:X.length=H.length+2:=by rw[hX];simp;omega
   have hel:elems X 2 (.slice (H.length+1) 0 1 1 2 false)=some (1,[.i x.key,.i x.val]):=by
    have t:X[H.length+1]?=some ⟨[.i x.key,.i x.val],.rw,2⟩:=by rw[hX,←lY];simp
    rw[J7 oM,t];rfl
   have tX:=gX.get tY
   have Gn0:H'[vb]?=some ⟨[v],.rw,0⟩:=(a4 vb oM fun h=>h4 (Js.1 h).1.symm).trans tX
   have kp:Keeps H H' (·=lb):=⟨oM,fun d hd hn=>by rw[a4 d oM (fun h=>hn (Js.1 h).1),(gY.trans gX).keep d hd fun h=>h]⟩
   have lvb:=Gf Gn0
   have hcl:cs.length=Z5 (all.take i)*2:=by
    rcases h3 with⟨q1,q2,-⟩|⟨b,f,-,-,-,q⟩
    ·rw[q1,q2];rfl
    ·exact q
   refine⟨fun c=>c=vb∨c=X.length,H'.set vb ⟨[.slice X.length 0 (Z5 (all.take i)+1) (Z5 (all.take i)+1) 2 true],.rw,0⟩,?_,Keeps.set (w:=fun c=>c=vb∨c=lb) (kp.weaken fun _ h=>.inr h) (.inl (.inl rfl)) _,fun c h=>by rcases h with h|h;exact .inl (.inl h);right;omega,fun _=>⟨?_,_,X.length,cs++[.i x.key,.i x.val],by rw[ZG lvb],?_,oM,fun h=>by have:=hlt _ h;omega,rfl⟩,fun h=>by cases h⟩
   ·simp(disch:=first|exact dz|fail) only[simprocAttr,Gx,↓reduceIte,Ny,c',h2,fill,splice,and_self]
    rw[←hY,←hX]
    simp(disch:=first|exact dz|fail) only[simprocAttr,Gx,↓reduceIte,a1,Gn0]
   ·exact h1.frame fun c hc=>by
     rw[NA (by rintro rfl;exact hvb.2 hc),kp.keep c (h1.lt c hc) fun e=>h5 (by rw[←e];exact hc)]
   ·rw[hcnt,c',if_pos rfl]
    refine .inr ⟨X.length,true,rfl,Js.2 ⟨rfl,rfl⟩,?_,by rw[QU,hcl];simp;omega⟩
    rw[NA oM,a3]
theorem SI(p:PH H hb s L)(k:s.Ok)(hs:Ql s)(h0:s.has 0=false){head:Int}(hhd:head≤9223372036854775807)(hof:s.Px head=0):
  ∃v H',run P 39 [.ptr hb 0,.i head] H=some (.Jk [v,.i 0],H')∧Gr H H'∧∀X,Vs v X=some (.i (Z5 (s.walk head).1:Nat),X):=by
 obtain⟨H1,h1,g1⟩:=Zw p k hs h0 hhd
 rw[hof]at h1
 obtain⟨X,hX⟩:∃X:Gb,X=H1++[⟨[.ptr hb 0,.i head],.rw,0⟩]++[⟨[.Gc],.rw,0⟩]:=⟨_,rfl⟩
 have gX:Gr H1 X:=by rw[hX];exact(Gr.app _ _).app' _
 have t6:X[H1.length]?=some ⟨[.ptr hb 0,.i head],.rw,0⟩:=by rw[hX];simp
 have t8:X[H1.length+1]?=some ⟨[.Gc],.rw,0⟩:=by rw[hX];simp
 have lX:X.length=H1.length+2:=by rw[hX];simp
 have l1:=g1.len
 have pX:=(p.gr g1).gr gX
 have hno:∀c,H1.length≤c→c∉L.all hb:=fun c hc h=>by have:=(p.gr g1).lt _ h;omega
 have y:=Gjn pX (vb:=H1.length+1) (N:=X.length) ⟨oM,hno _ oM⟩ pX.lt (s.walk head).1 (by have:=Hp.Ok.TU k (head:=head);omega)
 obtain⟨ok,H3,h3,k3,hr⟩:=EH k hs h0 y hhd (W0:=fun c=>c=H1.length+1∨c=H1.length) ⟨pX,.Gc,H1.length,[],t8,.inl ⟨by simp[Z5],rfl,.inl rfl⟩,oM,hno _ (Nat.le_refl _),rfl⟩ (fun c h=>by omega) (Nat.le_refl _)
 have c':((0:Int) != 0)=false:=rfl
 rcases hr with⟨-,-,W,⟨p3,v,lb,cs,w8,ha,-⟩,-⟩|⟨-,i,W,-,-,h,-⟩
 rotate_left
 ·cases h
 rw[List.take_length]at ha
 refine⟨v,H3,?_,⟨by have:=k3.len;omega,fun c hc _=>by rw[k3.keep c oM oM,gX.keep c oM fun h=>h,g1.keep c hc fun h=>h]⟩,fun X=>ha.len X⟩
 rw[Gi c39 _ _ sM]
 refine WX ?_
 rw[←hX]
 simp(disch:=first|exact dz|fail) only[simprocAttr,Gx,↓reduceIte,h3,w8]
theorem TG(p:PH H hb s L)(k:s.Ok)(hs:Ql s)(h0:s.has 0=false){sp:Int}(hsp:0≤sp∧sp<8){head key val:Int}(hhd:head≤9223372036854775807)(hof:s.Px head=0)(hkey:s.has key=true)(hval:val=0∨s.has val=true)
  {x:Bv}(hf:QX (s.walk head).1 key=some x):
  ∃H',run P 36 [.ptr hb 0,.i head,.i key,.i val,.i sp] H=some (.Jk [.i 0,.i 0],H')∧Keeps H H' (·∈L.all hb)∧PH H' hb (s.setRef x.addr 1 val).1 L:=by
 obtain⟨H1,h1,g1⟩:=Zw p k hs h0 hhd
 rw[hof]at h1
 obtain⟨X1,hX1⟩:∃X:Gb,X=H1++[⟨[.ptr hb 0,.i head],.rw,0⟩]:=⟨_,rfl⟩
 have gX1:Gr H1 X1:=by rw[hX1];exact Gr.app _ _
 have t12:X1[H1.length]?=some ⟨[.ptr hb 0,.i head],.rw,0⟩:=by rw[hX1];simp
 have gH1:=g1.trans gX1
 have hkl:=k.has_lt hkey
 have hhk:=KP (p.gr gH1) k key oM
 rw[hkey]at hhk
 have hk0:key≠0:=by rintro rfl;rw[h0]at hkey;cases hkey
 have e0:(key != 0)=true:=by rw[bne_iff_ne];exact hk0
 obtain⟨H2,h2,g2⟩:=Yx (p.gr gH1) k hs h0 hhd key
 rw[hf]at h2
 unfold Da at h2
 dsimp only at h2
 rw[e0]at h2
 obtain⟨X2,hX2⟩:∃X:Gb,X=H2++[⟨Nh x,.rw,0⟩]:=⟨_,rfl⟩
 have gX2:Gr H2 X2:=by rw[hX2];exact Gr.app _ _
 have gH2:=(gH1.trans g2).trans gX2
 have t14:X2[H2.length]?=some ⟨Nh x,.rw,0⟩:=by rw[hX2];simp
 have hvl:val≤9223372036854775807:=by
  rcases hval with h|h
  ·rw[h];decide
  ·have:=k.has_lt h;omega
 have hxa:=k.has_lt (UY (List.mem_of_find?_eq_some hf)).2
 obtain⟨H3,h3,k3,p3⟩:=KZ (p.gr gH2) k x.addr 1 val oM hvl
 have h3':run P 122 [.ptr hb 0,.i x.addr,.int .i64 1,.i val] X2=_:=h3
 have z0:((0:Int) != 0)=false:=rfl
 have c1:¬(sp<0):=by omega
 have c2:¬((8:Int)≤sp):=by omega
 refine⟨H3,?_,(Keeps.weaken gH2 fun _ h=>h.elim).trans k3,p3⟩
 unfold Nh at h2 hX2 t14
 rw[Gi c36 _ _ sM]
 by_cases hv0:val=0
 ·have hv1:(val != 0)=false:=by rw[hv0];rfl
  simp(disch:=first|exact dz|fail) only[simprocAttr,Gx,↓reduceIte,Gc5,h1,z0,splice]
  rw[←hX1]
  simp(disch:=first|exact dz|fail) only[simprocAttr,Gx,↓reduceIte,hhk,hv1,c1,c2,t12,h2,splice]
  rw[←hX2]
  simp(disch:=first|exact dz|fail) only[simprocAttr,Gx,↓reduceIte,h3']
 ·have hv1:(val != 0)=true:=by rw[bne_iff_ne];exact hv0
  have hhv:=KP (p.gr gH1) k val hvl
  rw[hval.resolve_left hv0]at hhv
  refine GH ?_
  rw[←hX1]
  simp(disch:=first|exact dz|fail) only[simprocAttr,Gx,↓reduceIte,hhk,hv1,hhv,c1,c2,t12,h2,splice]
  rw[←hX2]
  simp(disch:=first|exact dz|fail) only[simprocAttr,Gx,↓reduceIte,h3']
end
end Go.Cs.Tryz
namespace Go.Cs
open Go
abbrev Vw:=Option (List Int×List Int×Nat×Int)
def Hp.vw(s:Hp)(a:Int):Vw:=(s.obj a).map fun o=>(o.refs,o.data,o.kd,(o.id:Int))
def GQ(V:Int→Vw)(a:Int):Option Int:=(V a).map (·.2.2.2)
def Q8(V:Int→Vw)(a:Int)(x:List Int×List Int×Nat×Int):Int→Vw:=fun c=>if c=a then some x else V c
theorem Jp{V:Int→Vw}{a:Int}{x}:Q8 V a x a=some x:=if_pos rfl
theorem Jr{V:Int→Vw}{a c:Int}{x}(h:c≠a):Q8 V a x c=V c:=if_neg h
theorem Hp.YP{s:Hp}{a:Int}{r d kd e}(h:s.vw a=some (r,d,kd,e)):∃o,s.obj a=some o∧o.refs=r∧o.data=d∧o.kd=kd∧(o.id:Int)=e:=by
 unfold Hp.vw at h
 simp_all
theorem Hp.TL{s:Hp}{a:Int}:s.has a=(s.vw a).isSome:=by
 cases h:s.obj a with
 |none=>rw[Hp.KS.2 h];unfold Hp.vw;rw[h];rfl
 |some o=>rw[Hp.J2.2 ⟨o,h⟩];unfold Hp.vw;rw[h];rfl
theorem Hp.Ghp{s:Hp}(k:s.Ok){a:Int}{o:Ob}(ho:s.obj a=some o){f:Ob→Ob}(t:∀x,KO f x):(s.upd o.addr f).vw=Q8 s.vw a ((f o).refs,(f o).data,o.kd,(o.id:Int)):=by
 obtain⟨h1,h2⟩:=Hp.GV ho
 funext c
 unfold Hp.vw
 rw[Hp.IU fun x _ _=>t x]
 by_cases e:c=a
 ·subst e
  rw[ho,Jp]
  show some ((Km o.addr f o).refs,(Km o.addr f o).data,(Km o.addr f o).kd,((Km o.addr f o).id:Int))=_
  unfold Km
  rw[if_pos rfl,(t o).kd,(t o).id]
 ·rw[Jr e]
  cases hc:s.obj c with
  |none=>rfl
  |some x=>
   obtain⟨q1,q2⟩:=Hp.GV hc
   show some _=some _
   unfold Km
   rw[if_neg oM]
theorem Hp.Uf{s:Hp}(k:s.Ok){a i to:Int}{r d kd e}(h:s.vw a=some (r,d,kd,e))(hi:0≤i∧i<(r.length:Int))(ht:to=0∨s.has to=true):(s.setRef a i to).1.vw=Q8 s.vw a (r.set i.toNat to,d,kd,e):=by
 obtain⟨o,ho,rfl,rfl,rfl,rfl⟩:=Hp.YP h
 unfold Hp.setRef
 rw[ho]
 dsimp only
 rw[if_pos hi,if_pos ht]
 exact Hp.Ghp k ho fun x=>Ui _ _ x
theorem Hp.YF{s:Hp}(k:s.Ok){a i v:Int}{r d kd e}(h:s.vw a=some (r,d,kd,e))(hi:0≤i∧i<(d.length:Int)):(s.G_ a i v).1.vw=Q8 s.vw a (r,d.set i.toNat v,kd,e):=by
 obtain⟨o,ho,rfl,rfl,rfl,rfl⟩:=Hp.YP h
 unfold Hp.G_
 rw[ho]
 dsimp only
 rw[if_pos hi]
 exact Hp.Ghp k ho fun x=>Yp _ _ x
theorem Hp.Vx{s:Hp}{a i:Int}{r d kd e}(h:s.vw a=some (r,d,kd,e)):(s.GN a i).1=if 0≤i∧i<(r.length:Int)then r.getD i.toNat 0 else 0:=by
 obtain⟨o,ho,rfl,rfl,rfl,rfl⟩:=Hp.YP h
 unfold Hp.GN
 rw[ho]
 dsimp only
 split<;>rfl
theorem Hp.Bp{s:Hp}{a i:Int}{r d kd e}(h:s.vw a=some (r,d,kd,e)):(s.JM a i).1=if 0≤i∧i<(d.length:Int)then d.getD i.toNat 0 else 0:=by
 obtain⟨o,ho,rfl,rfl,rfl,rfl⟩:=Hp.YP h
 unfold Hp.JM
 rw[ho]
 dsimp only
 split<;>rfl
theorem Hp.Ew{s:Hp}{a:Int}:s.Nw a=match GQ s.vw a with|some e=>(e,0)|none=>(0,4):=by
 unfold Hp.Nw GQ Hp.vw
 cases s.obj a<;>rfl
theorem Hp.GfE{s:Hp}{b:Nat}{a:Int}{r:List Int}{d:Int}{e:Int}(h:s.vw a=some (r,[d],2,e))(hr:r.length=3)(h1:1≤d)(h2:d.tmod 8=(b:Int)):s.D5 b a=true:=by
 have hd:=Hp.Bp (i:=0) h
 rw[if_pos sM]at hd
 obtain⟨o,ho,rfl,ho2,ho3,-⟩:=Hp.YP h
 unfold Hp.D5 Hp.FM
 grind
theorem Hp.Gcc{s:Hp}(k:s.Ok){a c:Int}{e:Int}(h1:GQ s.vw a=some e)(h2:GQ s.vw c=some e):a=c:=by
 unfold GQ Hp.vw at h1 h2
 simp only[Option.map_map,GJ,Function.comp_apply]at h1 h2
 obtain⟨x,hx,h1⟩:=h1
 obtain⟨y,hy,h2⟩:=h2
 obtain⟨q1,q2⟩:=Hp.GV hx
 obtain⟨q3,q4⟩:=Hp.GV hy
 rcases Na k.ids q1 q3 with h|h|h
 ·subst h;omega
 ·omega
 ·omega
theorem Hp.GgD{s:Hp}{m r d kd:Nat}(k:s.Ok)(k':(s.Qx m r d kd).Ok):(s.Qx m r d kd).vw=Q8 s.vw m (List.replicate r 0,List.replicate d 0,kd,((s.born+1:Nat):Int)):=by
 have hm:K8 m (s.born+1) r d kd∈(s.Qx m r d kd).objs:=J6.2 (.inl rfl)
 funext c
 unfold Hp.vw
 by_cases e:c=(m:Int)
 ·subst e
  rw[Jp]
  have:=k'.obj hm
  rw[show(K8 m (s.born+1) r d kd).addr=m from rfl]at this
  rw[this];rfl
 ·rw[Jr e]
  congr 1
  cases hc:s.obj c with
  |some o=>
   obtain⟨q1,q2⟩:=Hp.GV hc
   have:=k'.obj (o:=o) (J6.2 (.inr q1))
   rw[q2]at this
   exact this
  |none=>
   cases hc':(s.Qx m r d kd).obj c with
   |none=>rfl
   |some o=>
    obtain⟨q1,q2⟩:=Hp.GV hc'
    rcases J6.1 q1 with h|h
    ·rw[h]at q2;exact absurd q2.symm e
    ·have:=k.obj h
     grind
theorem Hp.Gkk{s t:Hp}(h:s.objs=t.objs):s.vw=t.vw:=by
 funext c
 unfold Hp.vw Hp.obj
 rw[h]
theorem Hp.GjI{s:Hp}(hz:s.Gw 0=0){sp:Int}{n a:Nat}(h:(s.spot sp n).2=some a):64≤a:=by
 unfold Hp.spot at h
 split at h
 ·rename_i g l hg
  simp only[GA]at h
  obtain⟨b,h1,h2⟩:=Hp.Db (s:=s) (n:=n) (l:=s.Ku sp s.blk.length) (g:=g) (by rw[hg];exact Nr)
  unfold Hp.Ku at h1
  rw[List.mem_filter,List.mem_range]at h1
  have:=Hp.IV h2
  grind
 ·rw[GJ]at h
  obtain⟨b,h1,rfl⟩:=h
  have:=Hp.U8 h1
  omega
theorem Hp.GaB{s:Hp}(k:s.Ok)(lo:s.Lo)(hb:s.born<1000000000000){sp r d kd:Int}(hsp:0≤sp∧sp<8):
  (s.alloc sp r d kd).1.Ok∧(s.alloc sp r d kd).1.Lo∧(s.alloc sp r d kd).1.born≤s.born+1∧
   (
    ((s.alloc sp r d kd).2=(0,6)∧(s.alloc sp r d kd).1.vw=s.vw)∨
    ∃m:Nat,(s.alloc sp r d kd).2=((m:Int),0)∧64≤m∧m<4096∧s.vw m=none∧(s.alloc sp r d kd).1.vw=Q8 s.vw m (List.replicate r.toNat 0,List.replicate d.toNat 0,kd.toNat,((s.born+1:Nat):Int))):=by
 have sk:=k.spot hsp (Gt r.toNat d.toNat)
 obtain⟨b1,b2,b3,b4⟩:=Hp.Rf (s:=s) (sp:=sp) (n:=Gt r.toNat d.toNat)
 have hz:(s.spot sp (Gt r.toNat d.toNat)).1.Gw 0=0:=by
  have h0:=lo.1
  unfold Hp.spot
  split
  ·exact h0
  ·unfold Hp.took
   split
   · rename_i b hb1
     have:=Hp.U8 hb1
     unfold Hp.Gw at h0⊢
     grind
   · exact h0
 have slo:(s.spot sp (Gt r.toNat d.toNat)).1.Lo:=⟨hz,fun x hx=>lo.2 x (by rw[←b3];exact hx)⟩
 have sv:(s.spot sp (Gt r.toNat d.toNat)).1.vw=s.vw:=Hp.Gkk b3
 unfold Hp.alloc
 split
 ·grind
 ·rename_i a ha
  have hal:=Hp.Gc6 k ha
  have hag:=Hp.GjI lo.1 ha
  have hnb:=k.nb
  split
  ·rename_i hc
   refine⟨sk.place oM _ _ _ _,slo.place _ _ _ _,?_,.inr ⟨a,rfl,hag,oM,?_⟩⟩
   · dsimp only
     unfold Hp.place
     split
     ·split
      ·show(s.spot sp (Gt r.toNat d.toNat)).1.born+1≤_;omega
      ·dsimp only;omega
     ·dsimp only;omega
   · have hp:=hc.2
     unfold Hp.place at hp⊢
     split at hp
     ·rename_i hv
      rw[if_pos hv]
      split at hp
      ·rename_i hf
       rw[if_pos hf]
       obtain⟨q,hq,e1,e2,e3⟩:=sk.Lg (by unfold Gt;omega) hf
       have hqa:q=a:=by omega
       subst hqa
       have vb:=NY hv
       have hv':JK (r.toNat:Int) (d.toNat:Int) (kd.toNat:Int)=true:=by rw[Nc];omega
       have k':=sk.Qx hv' e1 e2 e3 oM
       refine⟨?_,?_⟩
       ·have:s.has (q:Int)=false:=by
         unfold Hp.has
         rw[List.any_eq_false]
         intro o ho h
         rw[beq_iff_eq]at h
         have h1:=e3 o (by rw[b3];exact ho)
         have h2:=o.size_pos
         have h3:0<Gt r.toNat d.toNat:=by unfold Gt;omega
         omega
        rw[Hp.TL]at this
        simp_all
       ·dsimp only
        rw[show((q:Int)).toNat=q from K_ q,Hp.GgD sk k',sv,b2]
      grind
     ·cases hp
  grind
end Go.Cs
namespace Go.Cs
open Go
abbrev JY:=Int×Int×Int
def YB(z:Int):List JY→Int
 |[]=>z
 |x::_=>x.1
def ents:Int→Int→List JY→List Bv
 |_,_,[]=>[]
 |fr,rf,x::l=>⟨x.1,fr,rf,x.2.1,x.2.2⟩::ents x.1 2 l
def Lnk(V:Int→Vw)(b:Nat)(x:JY)(n:Int):Prop:=∃d e,V x.1=some ([x.2.1,x.2.2,n],[d],2,e)∧1≤d∧d.tmod 8=(b:Int)∧GQ V x.2.1=some d
def Pm(V:Int→Vw)(b:Nat)(z:Int):List JY→Prop
 |[]=>True
 |x::l=>Lnk V b x (YB z l)∧Pm V b z l
structure Tab(V:Int→Vw)(head:Int)(C:List (List JY)):Prop where
 len:C.length=8
 hd:∃e,V head=some (C.map (YB 0),[(C.flatten.length:Int)],3,e)
 ch:∀(b:Nat) l,C[b]?=some l→Pm V b 0 l
 nd:(C.flatten.map (·.1)).Nodup
 kn:(C.flatten.map (·.2.1)).Nodup
theorem Dz{z:Int}{l m:List JY}:YB z (l++m)=YB (YB z m) l:=by cases l<;>rfl
theorem Lh{V:Int→Vw}{b:Nat}{z:Int}{m:List JY}:∀{l:List JY},Pm V b z (l++m)↔Pm V b (YB z m) l∧Pm V b z m
 |[]=>by simp[Pm]
 |x::l=>by
  show(Lnk V b x (YB z (l++m))∧Pm V b z (l++m))↔(Lnk V b x (YB (YB z m) l)∧Pm V b (YB z m) l)∧Pm V b z m
  rw[Dz,Lh (l:=l),and_assoc]
theorem Lnk.frame{V V':Int→Vw}{b:Nat}{x:JY}{n:Int}(h:Lnk V b x n)(h1:V' x.1=V x.1)(h2:GQ V' x.2.1=GQ V x.2.1):Lnk V' b x n:=by
 obtain⟨d,e,q1,q2,q3,q4⟩:=h
 exact⟨d,e,by rw[h1,q1],q2,q3,by rw[h2,q4]⟩
theorem Pm.frame{V V':Int→Vw}{b:Nat}{z:Int}:∀{l:List JY},Pm V b z l→(∀x∈l,V' x.1=V x.1)→(∀x∈l,GQ V' x.2.1=GQ V x.2.1)→Pm V' b z l
 |[],_,_,_=>trivial
 |x::l,h,h1,h2=>⟨h.1.frame (h1 x Nr) (h2 x Nr),Pm.frame h.2 (fun y hy=>h1 y (U5 _ hy)) fun y hy=>h2 y (U5 _ hy)⟩
theorem Pm.mem{V:Int→Vw}{b:Nat}{z:Int}:∀{l:List JY},Pm V b z l→∀x∈l,∃n,Lnk V b x n
 |[],_,x,hx=>by cases hx
 |y::l,h,x,hx=>by
  rcases List.mem_cons.1 hx with rfl|hx
  ·exact⟨_,h.1⟩
  ·exact h.2.mem x hx
theorem Bj{C:List (List JY)}{x:JY}(h:x∈C.flatten):∃(b:Nat)(l:List JY),C[b]?=some l∧x∈l:=by
 rw[List.mem_flatten]at h
 obtain⟨l,h1,h2⟩:=h
 obtain⟨b,hb⟩:=List.mem_iff_getElem?.1 h1
 exact⟨b,l,hb,h2⟩
theorem JZ{C:List (List JY)}{x:JY}{b:Nat}{l:List JY}(h:C[b]?=some l) (hx:x∈l):x∈C.flatten:=List.mem_flatten.2 ⟨l,JV h,hx⟩
theorem JQ{C:List (List JY)}{b:Nat}{l:List JY}(h:C[b]?=some l):C.flatten=(C.take b).flatten++(l++(C.drop (b+1)).flatten):=by
 have e:C=C.take b++l::C.drop (b+1):=by rw[←drop_cons h,List.take_append_drop]
 grind
theorem Qv{C:List (List JY)}{b:Nat}{l l':List JY}(h:C[b]?=some l):(C.set b l').flatten=(C.take b).flatten++(l'++(C.drop (b+1)).flatten):=by
 rw[List.set_eq_take_append_cons_drop,if_pos (Gf h),List.flatten_append,List.flatten_cons]
theorem Tab.kinds{V:Int→Vw}{head:Int}{C:List (List JY)}(t:Tab V head C){x:JY}(hx:x∈C.flatten):x.1≠head:=by
 rintro rfl
 obtain⟨b,l,h1,h2⟩:=Bj hx
 obtain⟨n,d,e,q1,-⟩:=(t.ch b l h1).mem x h2
 obtain⟨e',q2⟩:=t.hd
 rw[q1]at q2
 simp at q2
theorem Mr{s:Hp}(k:s.Ok)(h0:s.has 0=false){b:Nat}:∀{l:List JY}{q:Nat}{fr rf:Int}{seen:List Int},Pm s.vw b 0 l→(l.map (·.1)).Nodup→(∀x∈l,x.1∉seen)→l.length<q→(s.GN fr rf).1=YB 0 l→s.chain b q fr rf seen=(ents fr rf l,seen++l.map (·.1),true)
 |[],q+1,fr,rf,seen,_,_,_,_,h=>by
  rw[Hp.Ub,if_pos (by rw[h];rfl)]
  simp[ents]
 |x::l,q+1,fr,rf,seen,hc,hn,hs,hq,h=>by
  obtain⟨⟨d,e,q1,q2,q3,q4⟩,hl⟩:=hc
  rw[List.map_cons,List.nodup_cons]at hn
  have hx:(s.GN fr rf).1=x.1:=h
  have hx0:x.1≠0:=fun e0=>by
   have:=Hp.TL (s:=s) (a:=0)
   grind
  have ih:=Mr k h0 (l:=l) (q:=q) (fr:=x.1) (rf:=2) (seen:=seen++[x.1]) hl hn.2 (fun y hy hm=>by
   grind) (by simp only[List.length_cons]at hq;omega) (by rw[Hp.Vx q1];rfl)
  have r0:(s.GN x.1 0).1=x.2.1:=by rw[Hp.Vx q1];rfl
  have r1:(s.GN x.1 1).1=x.2.2:=by rw[Hp.Vx q1];rfl
  rw[Hp.Ub,hx,if_neg hx0,if_pos ⟨Hp.GfE q1 rfl q2 q3,hs x Nr⟩,ih]
  unfold Hp.Gc4
  rw[hx,r0,r1]
  simp[ents]
def Gab(head:Int):Nat→List (List JY)→List Bv
 |_,[]=>[]
 |b,l::r=>ents head b l++Gab head (b+1) r
theorem GaC:∀(fr rf:Int)(l:List JY),(ents fr rf l).length=l.length
 |_,_,[]=>rfl
 |fr,rf,x::l=>by simp[ents,GaC x.1 2 l]
theorem Ow(head:Int):∀(b:Nat)(C:List (List JY)),(Gab head b C).length=C.flatten.length
 |_,[]=>rfl
 |b,l::r=>by simp[Gab,GaC,Ow head (b+1) r]
theorem Tab.few{s:Hp}(k:s.Ok){head:Int}{C:List (List JY)}(t:Tab s.vw head C):C.flatten.length≤4096:=by
 have h1:(C.flatten.map (·.1)).length=C.flatten.length:=DW _
 rw[←h1,←UW]
 refine k.La (D9 t.nd) fun x hx=>?_
 rw[EJ,VA]at hx
 obtain⟨y,hy,rfl⟩:=hx
 obtain⟨b,l,h1,h2⟩:=Bj hy
 obtain⟨n,d,e,q1,-⟩:=(t.ch b l h1).mem y h2
 rw[Hp.TL,q1];rfl
theorem Tab.tabs{s:Hp}(k:s.Ok)(h0:s.has 0=false){head:Int}{C:List (List JY)}(t:Tab s.vw head C):∀(q b:Nat),q+b=8→s.tabs head q b ((C.take b).flatten.map (·.1))=(Gab head b (C.drop b),true)
 |0,b,h=>by
  rw[Ghh (by have:=t.len;omega)];rfl
 |q+1,b,h=>by
  have hlen:=t.len
  obtain⟨l,hl⟩:∃l,C[b]?=some l:=⟨_,JG oM⟩
  have hsp:=JQ hl
  have few:=t.few k
  have nd:=t.nd
  have hll:((C.take b).flatten.map (·.1)).length+l.length≤C.flatten.length:=by grind
  rw[hsp,Es,Es,List.nodup_append]at nd
  obtain⟨e,hh⟩:=t.hd
  have hr:(s.GN head (b:Int)).1=YB 0 l:=by
   rw[Hp.Vx hh,if_pos (by simp;omega),K_,WE,K4,hl];rfl
  have hch:=Mr k h0 (q:=4097-((C.take b).flatten.map (·.1)).length) (fr:=head) (rf:=b) (seen:=(C.take b).flatten.map (·.1)) (t.ch b l hl) (List.nodup_append.1 nd.2.1).1 (fun x hx hm=>nd.2.2 _ hm _ (List.mem_append_left _ (List.mem_map_of_mem hx)) rfl) oM hr
  have hs:(C.take b).flatten.map (·.1)++l.map (·.1)=(C.take (b+1)).flatten.map (·.1):=by
   rw[QV,hl,Yu,List.flatten_append,Es];simp
  rw[Hp.Yr,hch]
  dsimp only
  rw[if_pos rfl,hs,Tab.tabs k h0 t q (b+1) oM,drop_cons hl]
  rfl
theorem Tab.walk{s:Hp}(k:s.Ok)(h0:s.has 0=false){head:Int}{C:List (List JY)}(t:Tab s.vw head C):s.walk head=(Gab head 0 C,true):=t.tabs k h0 8 0 rfl
theorem Tab.Px{s:Hp}(k:s.Ok)(h0:s.has 0=false){head:Int}{C:List (List JY)}(t:Tab s.vw head C):s.Px head=0:=by
 obtain⟨e,hh⟩:=t.hd
 have hd:=Hp.Bp (i:=0) hh
 obtain⟨o,ho,h1,h2,h3,-⟩:=Hp.YP hh
 unfold Hp.Px
 rw[ho,t.walk k h0]
 dsimp only
 rw[if_pos ⟨by rw[h1,h2,h3,DW,t.len];rfl,rfl,by rw[hd,Ow];rfl⟩]
def KD(fr:Int)(pre:List JY):Int:=match pre.getLast? with|some p=>p.1|none=>fr
theorem GbM{fr:Int}{y:JY}{pre:List JY}:KD fr (y::pre)=KD y.1 pre:=by
 unfold KD
 grind
theorem OT{x:Bv}:∀{l:List JY}{fr rf:Int},x∈ents fr rf l→∃pre t post,l=pre++t::post∧x=⟨t.1,KD fr pre,if pre=[]then rf else 2,t.2.1,t.2.2⟩
 |[],_,_,h=>by cases h
 |y::l,fr,rf,h=>by
  rcases List.mem_cons.1 h with rfl|h
  ·exact⟨[],y,l,rfl,rfl⟩
  ·obtain⟨pre,t,post,rfl,rfl⟩:=OT h
   refine⟨y::pre,t,post,rfl,?_⟩
   rw[GbM,if_neg (show¬(y::pre=[])from List.cons_ne_nil _ _)]
   congr 1
   split<;>rfl
theorem MV{x:Bv}{head:Int}:∀{C:List (List JY)}{b:Nat},x∈Gab head b C→∃(j:Nat)(l:List JY),C[j]?=some l∧x∈ents head ((b+j:Nat):Int) l
 |[],_,h=>by cases h
 |l::C,b,h=>by
  rcases NV.1 h with h|h
  ·exact⟨0,l,rfl,h⟩
  ·obtain⟨j,l',h1,h2⟩:=MV h
   exact⟨j+1,l',h1,by grind⟩
theorem WG{t:JY}:∀{l:List JY}{fr rf:Int},t∈l→∃x∈ents fr rf l,x.key=t.2.1∧x.val=t.2.2
 |[],_,_,h=>by cases h
 |y::l,fr,rf,h=>by
  rcases List.mem_cons.1 h with rfl|h
  ·exact⟨_,Nr,rfl,rfl⟩
  ·obtain⟨x,h1,h2⟩:=WG (fr:=y.1) (rf:=2) h
   exact⟨x,U5 _ h1,h2⟩
theorem Wn{t:JY}{head:Int}:∀{C:List (List JY)}{b:Nat},t∈C.flatten→∃x∈Gab head b C,x.key=t.2.1∧x.val=t.2.2
 |[],_,h=>by cases h
 |l::C,b,h=>by
  rw[List.flatten_cons]at h
  rcases NV.1 h with h|h
  ·obtain⟨x,h1,h2⟩:=WG (fr:=head) (rf:=b) h
   exact⟨x,List.mem_append_left _ h1,h2⟩
  ·obtain⟨x,h1,h2⟩:=Wn (b:=b+1) h
   exact⟨x,List.mem_append_right _ h1,h2⟩
theorem Ggv{x:Bv}{head:Int}{C:List (List JY)}{b:Nat}(h:x∈Gab head b C):∃t∈C.flatten,x.addr=t.1∧x.key=t.2.1∧x.val=t.2.2:=by
 obtain⟨j,l,h1,h2⟩:=MV h
 obtain⟨pre,t,post,rfl,rfl⟩:=OT h2
 exact⟨t,JZ h1 sM,rfl,rfl,rfl⟩
end Go.Cs
namespace Go.Cs
open Go
theorem Pm.frame'{V V':Int→Vw}{b:Nat}{z:Int}{l:List JY}(h:Pm V b z l)(h1:∀x∈l,V' x.1=V x.1)(h2:∀c,GQ V' c=GQ V c):Pm V' b z l:=h.frame h1 fun x _=>h2 _
theorem Vd{V:Int→Vw}{a:Int}{r d kd e}{r' d'}(h:V a=some (r,d,kd,e))(c:Int):GQ (Q8 V a (r',d',kd,e)) c=GQ V c:=by
 unfold GQ
 by_cases e0:c=a
 ·subst e0;rw[Jp,h];rfl
 ·rw[Jr e0]
theorem Tab.uniq{V:Int→Vw}{head:Int}{C:List (List JY)}(t:Tab V head C){b b':Nat}{l l':List JY}(h:C[b]?=some l) (h':C[b']?=some l') {x y:JY} (hx:x∈l) (hy:y∈l') (hne:b≠b'):x.1≠y.1:=by
 intro e
 have key:∀{b b':Nat}{l l':List JY},C[b]?=some l→C[b']?=some l'→b<b'→∀{x y:JY},x∈l→y∈l'→x.1≠y.1:=by
  intro b b' l l' h h' hlt x y hx hy e
  have nd:=t.nd
  rw[JQ h,Es,Es,List.nodup_append,List.nodup_append]at nd
  refine nd.2.1.2.2 _ (List.mem_map_of_mem hx) _ (List.mem_map_of_mem (f:=(·.1)) (JZ (C:=C.drop (b+1)) (b:=b'-(b+1)) (l:=l') ?_ hy)) e
  rw[BQ,show b+1+(b'-(b+1))=b' by omega];exact h'
 grind
theorem ZP{C:List (List JY)}{b:Nat}{pre post:List JY}{x:JY}(h:C[b]?=some (pre++x::post)) (f:JY→Int) (nd:(C.flatten.map f).Nodup):∀y∈pre++post,f y≠f x:=by
 rw[JQ h,Es,Es,List.nodup_append,List.nodup_append]at nd
 grind
theorem Gh7{C:List (List JY)}{b:Nat}{pre post:List JY}{x:JY}(h:C[b]?=some (pre++x::post)) (f:JY→Int) (nd:(C.flatten.map f).Nodup):((C.set b (pre++post)).flatten.map f).Nodup:=by
 rw[Qv h]
 rw[JQ h]at nd
 refine List.Nodup.sublist (List.Sublist.map f ?_) nd
 grind
theorem Tab.GmA{V:Int→Vw}{head:Int}{C:List (List JY)}(t:Tab V head C){b:Nat}{pre post:List JY}{x:JY}(hC:C[b]?=some (pre++x::post)) {r d kd e} (hv:V x.1=some (r,d,kd,e)) (val:Int):
  Tab (Q8 V x.1 (r.set 1 val,d,kd,e)) head (C.set b (pre++(x.1,x.2.1,val)::post)):=by
 have hid:=Vd (r':=r.set 1 val) (d':=d) hv
 have hxm:x∈C.flatten:=JZ hC sM
 have hne:=ZP hC (·.1) t.nd
 have Gux:YB 0 (pre++(x.1,x.2.1,val)::post)=YB 0 (pre++x::post):=by rw[Dz,Dz];rfl
 have hmap:∀f:JY→Int,f (x.1,x.2.1,val)=f x→((C.set b (pre++(x.1,x.2.1,val)::post)).flatten.map f)=C.flatten.map f:=fun f hf=>by
  rw[Qv hC,JQ hC];simp[hf]
 refine⟨by rw[List.length_set];exact t.len,?_,fun b' l' h'=>?_,by rw[hmap _ rfl];exact t.nd,by rw[hmap _ rfl];exact t.kn⟩
 ·obtain⟨e',he⟩:=t.hd
  refine⟨e',?_⟩
  rw[Jr (Ne.symm (t.kinds hxm)),he]
  have hl:(C.set b (pre++(x.1,x.2.1,val)::post)).flatten.length=C.flatten.length:=by rw[Qv hC,JQ hC];simp
  have hm:(C.set b (pre++(x.1,x.2.1,val)::post)).map (YB 0)=C.map (YB 0):=by
   rw[List.map_set,Gux]
   refine List.ext_getElem? fun i=>?_
   grind
  rw[hl,hm]
 ·by_cases eb:b=b'
  ·subst eb
   rw[ZG (Gf hC)]at h'
   simp only[GA]at h'
   subst h'
   have hc:=t.ch b _ hC
   rw[Lh]at hc⊢
   obtain⟨h1,⟨d0,e0,q1,q2,q3,q4⟩,h3⟩:=hc
   rw[hv]at q1
   simp only[GA,Prod.mk.injEq]at q1
   obtain⟨rfl,rfl,rfl,rfl⟩:=q1
   exact⟨h1.frame' (fun y hy=>Jr (hne y (by simp[hy]))) hid,⟨_,_,Jp,q2,q3,by rw[hid];exact q4⟩,h3.frame' (fun y hy=>Jr (hne y (by simp[hy]))) hid⟩
  ·rw[NA eb]at h'
   exact(t.ch b' l' h').frame' (fun y hy=>Jr fun e1=>t.uniq h' hC hy (x:=y) (y:=x) sM (Ne.symm eb) e1) hid
theorem GeO{V V':Int→Vw}{b:Nat}{x:JY}{post:List JY}(hid:∀c,GQ V' c=GQ V c):∀{pre:List JY}{p:JY},Pm V b 0 (pre++p::x::post)→
  (∀r d kd e,V p.1=some (r,d,kd,e)→V' p.1=some (r.set 2 (YB 0 post),d,kd,e))→(∀y∈pre++post,V' y.1=V y.1)→Pm V' b 0 (pre++p::post):=by
 intro pre p h hp hy
 rw[Lh]at h⊢
 obtain⟨h1,⟨d0,e0,q1,q2,q3,q4⟩,h3⟩:=h
 have hv:=hp _ _ _ _ q1
 exact⟨h1.frame' (fun y h=>hy y (by simp[h])) hid,⟨d0,e0,hv,q2,q3,by rw[hid];exact q4⟩,h3.2.frame' (fun y h=>hy y (by simp[h])) hid⟩
theorem Tab.remove{V:Int→Vw}{head:Int}{C:List (List JY)}(t:Tab V head C){b:Nat}{pre post:List JY}{x:JY}(hC:C[b]?=some (pre++x::post)) {r d kd e} (hv:V (KD head pre)=some (r,d,kd,e))
  {r2 d2 kd2 e2} (hv2:Q8 V (KD head pre) (r.set (if pre=[]then b else 2) (YB 0 post),d,kd,e) head=some (r2,d2,kd2,e2)):
  Tab (Q8 (Q8 V (KD head pre) (r.set (if pre=[]then b else 2) (YB 0 post),d,kd,e)) head (r2,d2.set 0 ((C.flatten.length:Int)-1),kd2,e2)) head (C.set b (pre++post)):=by
 have GuE:=Vd (r':=r.set (if pre=[]then b else 2) (YB 0 post)) (d':=d) hv
 have Gsb:=Vd (r':=r2) (d':=d2.set 0 ((C.flatten.length:Int)-1)) hv2
 have hid:∀c,GQ (Q8 (Q8 V (KD head pre) (r.set (if pre=[]then b else 2) (YB 0 post),d,kd,e)) head (r2,d2.set 0 ((C.flatten.length:Int)-1),kd2,e2)) c=GQ V c:=fun c=>(Gsb c).trans (GuE c)
 have hlen:=t.len
 have hb:=Gf hC
 have hne:=ZP hC (·.1) t.nd
 have hfl:(C.set b (pre++post)).flatten.length+1=C.flatten.length:=by rw[Qv hC,JQ hC];simp;omega
 obtain⟨e',he⟩:=t.hd
 have hent:∀y∈C.flatten,y.1≠head:=fun y hy=>t.kinds hy
 refine⟨by rw[List.length_set];exact t.len,?_,fun b' l' h'=>?_,Gh7 hC _ t.nd,Gh7 hC _ t.kn⟩
 ·refine⟨e',?_⟩
  rw[Jp]
  rcases List.eq_nil_or_concat pre with rfl|⟨pre',p,hpp⟩
  ·have hl:KD head []=head:=rfl
   rw[hl]at hv hv2
   rw[he]at hv
   simp only[GA,Prod.mk.injEq]at hv
   obtain⟨rfl,rfl,rfl,rfl⟩:=hv
   rw[Jp]at hv2
   simp only[GA,Prod.mk.injEq]at hv2
   obtain⟨rfl,rfl,rfl,rfl⟩:=hv2
   simp only[↓reduceIte,List.nil_append,List.map_set,List.set_cons_zero]
   grind
  ·rw[List.concat_eq_append]at hpp
   subst hpp
   have hp:p∈C.flatten:=JZ hC sM
   have hl:KD head (pre'++[p])=p.1:=by unfold KD;rw[List.getLast?_concat]
   rw[hl]at hv hv2
   rw[Jr (Ne.symm (hent p hp)),he]at hv2
   simp only[GA,Prod.mk.injEq]at hv2
   obtain⟨rfl,rfl,rfl,rfl⟩:=hv2
   have hm:(C.set b (pre'++[p]++post)).map (YB 0)=C.map (YB 0):=by
    rw[List.map_set]
    refine List.ext_getElem? fun i=>?_
    rw[Tj]
    by_cases ei:b=i
    ·subst ei
     rw[if_pos rfl,if_pos (by rw[DW];exact hb),K4,hC]
     show some _=some _
     rw[Dz,Dz]
     cases pre'<;>rfl
    ·rw[if_neg ei]
   grind
 ·by_cases eb:b=b'
  ·subst eb
   rw[ZG hb]at h'
   simp only[GA]at h'
   subst h'
   have hc:=t.ch b _ hC
   rcases List.eq_nil_or_concat pre with rfl|⟨pre',p,hpp⟩
   ·have hl:KD head []=head:=rfl
    rw[hl]
    exact hc.2.frame' (fun y hy=>by
     have:=hent y (JZ hC (by simp[hy]))
     rw[Jr this,Jr this]) (by rw[hl]at hid;exact hid)
   ·rw[List.concat_eq_append]at hpp
    subst hpp
    have hl:KD head (pre'++[p])=p.1:=by unfold KD;rw[List.getLast?_concat]
    rw[List.append_assoc]at hc⊢
    rw[hl]at hv hid⊢
    have hph:p.1≠head:=hent p (JZ hC sM)
    have hpd:∀y∈pre'++(x::post),y.1≠p.1:=ZP (b:=b) (x:=p) (pre:=pre') (post:=x::post) (by rw[hC,List.append_assoc];rfl) (·.1) t.nd
    refine GeO hid hc (fun r0 d0 kd0 e0 h0=>?_) fun y hy=>?_
    ·rw[Jr hph,Jp,if_neg sM]
     simp_all
    ·have hy1:y∈pre'++[p]++x::post:=by
      rcases NV.1 hy with h|h
      ·grind
      simp_all
     have hy2:y∈pre'++(x::post):=by
      rcases NV.1 hy with h|h
      ·exact List.mem_append_left _ h
      simp_all
     rw[Jr (hent y (JZ hC hy1)),Jr (hpd y hy2)]
  ·rw[NA eb]at h'
   refine(t.ch b' l' h').frame' (fun y hy=>?_) hid
   have h1:=hent y (JZ h' hy)
   rw[Jr h1]
   rcases List.eq_nil_or_concat pre with rfl|⟨pre',p,hpp⟩
   ·exact Jr h1
   ·rw[List.concat_eq_append]at hpp
    subst hpp
    have hl:KD head (pre'++[p])=p.1:=by unfold KD;rw[List.getLast?_concat]
    rw[hl]
    exact Jr (t.uniq h' hC hy sM (Ne.symm eb))
theorem Tab.put{V V':Int→Vw}{head:Int}{C:List (List JY)}(t:Tab V head C){ad key val id e:Int}{b:Nat}(hb:b<8)(had:V ad=none)(hid:GQ V key=some id)(h1:1≤id)(h8:id.tmod 8=(b:Int))(hnk:key∉C.flatten.map (·.2.1))
  (v1:V' ad=some ([key,val,YB 0 (C.getD b [])],[id],2,e))(v2:∀r d kd e,V head=some (r,d,kd,e)→V' head=some (r.set b ad,d.set 0 ((C.flatten.length:Int)+1),kd,e))(v3:∀c,c≠ad→c≠head→V' c=V c):
  Tab V' head (C.set b ((ad,key,val)::C.getD b [])):=by
 have hlen:=t.len
 obtain⟨l,hl⟩:∃l,C[b]?=some l:=⟨_,JG oM⟩
 have hgd:C.getD b []=l:=by grind
 rw[hgd]at v1⊢
 obtain⟨e',he⟩:=t.hd
 have v2':=v2 _ _ _ _ he
 have GwP:ad≠head:=fun h=>by rw[←h,had]at he;cases he
 have hna:∀x∈C.flatten,x.1≠ad:=fun x hx h=>by
  obtain⟨b',l',q1,q2⟩:=Bj hx
  obtain⟨n,d,e,q3,-⟩:=(t.ch b' l' q1).mem x q2
  rw[h,had]at q3;cases q3
 have Gtw:∀c,(GQ V c).isSome=true→GQ V' c=GQ V c:=fun c hc=>by
  by_cases c1:c=ad
  ·subst c1;unfold GQ at hc;rw[had]at hc;cases hc
  ·by_cases c2:c=head
   ·subst c2;unfold GQ;rw[v2',he];rfl
   ·unfold GQ;rw[v3 c c1 c2]
 have fr:∀(b':Nat) l',C[b']?=some l'→Pm V' b' 0 l':=fun b' l' h=>(t.ch b' l' h).frame (fun x hx=>v3 _ (hna x (JZ h hx)) (t.kinds (JZ h hx))) fun x hx=>by
  obtain⟨n,d,e,-,-,-,q⟩:=(t.ch b' l' h).mem x hx
  exact Gtw _ (by rw[q];rfl)
 have hperm:(C.set b ((ad,key,val)::l)).flatten=(C.take b).flatten++((ad,key,val)::l++(C.drop (b+1)).flatten):=Qv hl
 have hnd:∀f:JY→Int,(C.flatten.map f).Nodup→f (ad,key,val)∉C.flatten.map f→((C.set b ((ad,key,val)::l)).flatten.map f).Nodup:=fun f h hn=>by
  rw[hperm]
  rw[JQ hl]at h hn
  grind
 refine⟨by rw[List.length_set];exact hlen,⟨e',?_⟩,fun b' l' h'=>?_,hnd _ t.nd fun h=>?_,hnd _ t.kn hnk⟩
 ·rw[v2']
  have hm:(C.set b ((ad,key,val)::l)).map (YB 0)=(C.map (YB 0)).set b ad:=by rw[List.map_set];rfl
  have hc:(C.set b ((ad,key,val)::l)).flatten.length=C.flatten.length+1:=by rw[hperm,JQ hl];simp;omega
  rw[hm,hc];rfl
 ·by_cases eb:b=b'
  ·subst eb
   rw[ZG (Gf hl)]at h'
   simp only[GA]at h'
   subst h'
   exact⟨⟨id,e,v1,h1,h8,by grind⟩,fr b l hl⟩
  grind
 grind
end Go.Cs
namespace Go.Cs
open Go
def Ge0(V:Int→Vw):Prop:=∀a r d kd e,V a=some (r,d,kd,e)→∀x∈r,x=0∨(V x).isSome=true
theorem Ge0.set{V:Int→Vw}(h:Ge0 V){a:Int}{r d kd e}(hr:∀x∈r,x=0∨(V x).isSome=true∨x=a):Ge0 (Q8 V a (r,d,kd,e)):=by
 have hs:∀x,(V x).isSome=true→(Q8 V a (r,d,kd,e) x).isSome=true:=fun x hx=>by
  by_cases c:x=a
  ·subst c;rw[Jp];rfl
  ·rw[Jr c];exact hx
 intro c r' d' kd' e' hc x hx
 by_cases e0:c=a
 ·subst e0
  rw[Jp]at hc
  simp only[GA,Prod.mk.injEq]at hc
  obtain⟨rfl,rfl,rfl,rfl⟩:=hc
  rcases hr x hx with h1|h1|rfl
  ·exact .inl h1
  ·exact .inr (hs x h1)
  ·exact .inr (by rw[Jp];rfl)
 ·rw[Jr e0]at hc
  rcases h c r' d' kd' e' hc x hx with h1|h1
  ·exact .inl h1
  ·exact .inr (hs x h1)
theorem Ge0.list{V:Int→Vw}(h:Ge0 V){a:Int}{r d kd e}(hv:V a=some (r,d,kd,e)){i:Nat}{y:Int}(hy:y=0∨(V y).isSome=true):∀x∈r.set i y,x=0∨(V x).isSome=true∨x=a:=fun x hx=>by
 rcases List.mem_or_eq_of_mem_set hx with h1|rfl
 ·rcases h a r d kd e hv x h1 with h2|h2
  ·exact .inl h2
  ·exact .inr (.inl h2)
 grind
theorem Hp.Lo.setRef{s:Hp}(h:s.Lo)(a i to:Int):(s.setRef a i to).1.Lo:=by
 unfold Hp.setRef
 split
 ·split
  ·split
   ·exact h.upd fun x _ _=>Ui _ _ x
   ·exact h
  ·exact h
 ·exact h
theorem Hp.Lo.G_{s:Hp}(h:s.Lo)(a i v:Int):(s.G_ a i v).1.Lo:=by
 unfold Hp.G_
 split
 ·split
  ·exact h.upd fun x _ _=>Yp _ _ x
  ·exact h
 ·exact h
theorem Hp.Q6{s:Hp}(a i to:Int):(s.setRef a i to).1.born=s.born:=(Hp.OD a i to).2
theorem Hp.Zv{s:Hp}(a i v:Int):(s.G_ a i v).1.born=s.born:=by
 unfold Hp.G_
 split
 ·split<;>rfl
 ·rfl
structure Gd(s:Hp):Prop where
 ok:s.Ok
 lo:s.Lo
 sv:Ge0 s.vw
theorem Gd.h0{s:Hp}(g:Gd s):s.has 0=false:=g.lo.has
theorem Gd.has{s:Hp}{a:Int}:(s.vw a).isSome=s.has a:=Hp.TL.symm
theorem Gd.setRef{s:Hp}(g:Gd s){a i to:Int}{r d kd e}(h:s.vw a=some (r,d,kd,e))(hi:0≤i∧i<(r.length:Int))(ht:to=0∨s.has to=true):Gd (s.setRef a i to).1 where
 ok:=g.ok.setRef _ _ _
 lo:=g.lo.setRef _ _ _
 sv:=by
  rw[Hp.Uf g.ok h hi ht]
  exact g.sv.set (g.sv.list h (by rw[Gd.has];exact ht))
theorem Gd.G_{s:Hp}(g:Gd s){a i v:Int}{r d kd e}(h:s.vw a=some (r,d,kd,e))(hi:0≤i∧i<(d.length:Int)):Gd (s.G_ a i v).1 where
 ok:=g.ok.G_ _ _ _
 lo:=g.lo.G_ _ _ _
 sv:=by
  rw[Hp.YF g.ok h hi]
  exact g.sv.set fun x hx=>by
   rcases g.sv a r d kd e h x hx with h2|h2
   ·exact .inl h2
   ·exact .inr (.inl h2)
theorem Gd.GN{s:Hp}(g:Gd s)(a i:Int):(s.GN a i).1=0∨s.has (s.GN a i).1=true:=by
 cases h:s.vw a with
 |none=>
  left
  unfold Hp.vw at h
  rw[Option.map_eq_none_iff]at h
  unfold Hp.GN
  rw[h]
 |some q=>
  obtain⟨r,d,kd,e⟩:=q
  rw[Hp.Vx h]
  split
  ·rename_i c
   have:=g.sv a r d kd e h (r.getD i.toNat 0) (by
    grind)
   rw[Gd.has]at this
   exact this
  ·exact .inl rfl
section
variable {s : Hp} {head : Int} {C : List (List JY)}
theorem Tab.find{key:Int}{x:Bv}(k:s.Ok)(h0:s.has 0=false)(t:Tab s.vw head C)(h:x∈(s.walk head).1):
  ∃(b:Nat)(pre:List JY)(tr:JY)(post:List JY),C[b]?=some (pre++tr::post)∧x=⟨tr.1,KD head pre,if pre=[]then(b:Int)else 2,tr.2.1,tr.2.2⟩:=by
 rw[t.walk k h0]at h
 obtain⟨j,l,h1,h2⟩:=MV h
 rw[Nat.zero_add]at h2
 obtain⟨pre,tr,post,rfl,rfl⟩:=OT h2
 exact⟨j,pre,tr,post,h1,rfl⟩
theorem Tab.link(t:Tab s.vw head C){b:Nat}{pre post:List JY}{tr:JY}(hC:C[b]?=some (pre++tr::post)):
  (∃d e,s.vw tr.1=some ([tr.2.1,tr.2.2,YB 0 post],[d],2,e)∧GQ s.vw tr.2.1=some d)∧∃r d kd e,s.vw (KD head pre)=some (r,d,kd,e)∧(if pre=[]then b else 2)<r.length∧d.length=1:=by
 have hc:=t.ch b _ hC
 rw[Lh]at hc
 obtain⟨h1,⟨d,e,q1,-,-,q4⟩,h3⟩:=hc
 refine⟨⟨d,e,q1,q4⟩,?_⟩
 rcases List.eq_nil_or_concat pre with rfl|⟨pre',p,rfl⟩
 ·obtain⟨e',he⟩:=t.hd
  exact⟨_,_,_,_,he,by grind,rfl⟩
 ·rw[List.concat_eq_append]at h1⊢
  obtain⟨n,d',e',w1,-⟩:=h1.mem p sM
  have hl:KD head (pre'++[p])=p.1:=by unfold KD;rw[List.getLast?_concat]
  rw[hl]
  exact⟨_,_,_,_,w1,by rw[if_neg sM];simp,rfl⟩
theorem Gby(g:Gd s)(t:Tab s.vw head C){b:Nat}{pre post:List JY}{tr:JY}(hC:C[b]?=some (pre++tr::post)) {x:Bv} (hx:x=⟨tr.1,KD head pre,if pre=[]then(b:Int)else 2,tr.2.1,tr.2.2⟩):
  Gd (s.unlink head x)∧Tab (s.unlink head x).vw head (C.set b (pre++post))∧(∀c,GQ (s.unlink head x).vw c=GQ s.vw c)∧(s.unlink head x).born=s.born:=by
 obtain⟨⟨d0,e0,q1,-⟩,r,d,kd,e,q2,q3,q4⟩:=t.link hC
 have few:=t.few g.ok
 have hcnt:0<C.flatten.length:=A7.2 fun h=>by
  have:=JZ hC (x:=tr) sM
  rw[h]at this;cases this
 have hto:(s.GN x.addr 2).1=YB 0 post:=by rw[hx,Hp.Vx q1];rfl
 have GlD:=g.GN x.addr 2
 rw[hto]at GlD
 have hfr:x.fr=KD head pre:=by rw[hx]
 have hrf:x.ref=((if pre=[]then b else 2:Nat):Int):=by rw[hx];dsimp only;split<;>rfl
 have hi:0≤x.ref∧x.ref<(r.length:Int):=by rw[hrf];omega
 have q2':s.vw x.fr=some (r,d,kd,e):=by rw[hfr];exact q2
 have v1:=Hp.Uf g.ok q2' hi GlD
 have g1:=g.setRef q2' hi GlD
 rw[hfr,hrf,K_]at v1
 obtain⟨eh,he⟩:=t.hd
 obtain⟨r2,d2,kd2,e2,hv2,hd2⟩:∃r2 d2 kd2 e2,Q8 s.vw (KD head pre) (r.set (if pre=[]then b else 2) (YB 0 post),d,kd,e) head=some (r2,d2,kd2,e2)∧d2=[(C.flatten.length:Int)]:=by
  by_cases c:head=KD head pre
  ·rw[←c,Jp]
   grind
  ·rw[Jr c,he]
   exact⟨_,_,_,_,rfl,rfl⟩
 have e1:s.setRef x.fr x.ref (s.GN x.addr 2).1=s.setRef (KD head pre) ((if pre=[]then b else 2:Nat):Int) (YB 0 post):=by rw[hto,hfr,hrf]
 have GmF:(s.setRef (KD head pre) ((if pre=[]then b else 2:Nat):Int) (YB 0 post)).1.vw head=some (r2,d2,kd2,e2):=by
  rw[v1];exact hv2
 rw[hfr,hrf]at g1
 have hda:(((s.setRef (KD head pre) ((if pre=[]then b else 2:Nat):Int) (YB 0 post)).1.JM head 0).1)=(C.flatten.length:Int):=by rw[Hp.Bp GmF,hd2];rfl
 have hw:IntKind.i64.wrap ((C.flatten.length:Int)-1)=(C.flatten.length:Int)-1:=Gh oM
 have hi2:(0:Int)≤0∧(0:Int)<(d2.length:Int):=by rw[hd2];simp
 have v2:=Hp.YF g1.ok (i:=0) (v:=(C.flatten.length:Int)-1) GmF hi2
 have g2:=g1.G_ (v:=(C.flatten.length:Int)-1) GmF hi2
 have hU:s.unlink head x=((s.setRef (KD head pre) ((if pre=[]then b else 2:Nat):Int) (YB 0 post)).1.G_ head 0 ((C.flatten.length:Int)-1)).1:=by
  unfold Hp.unlink
  rw[e1,hda,hw]
 rw[hU,v2,v1]
 refine⟨g2,t.remove hC q2 hv2,fun c=>?_,by rw[Hp.Zv,Hp.Q6]⟩
 rw[Vd hv2,Vd q2]
theorem Gbp(g:Gd s)(t:Tab s.vw head C){b:Nat}{pre post:List JY}{tr:JY}(hC:C[b]?=some (pre++tr::post)) {val:Int} (hv:val=0∨s.has val=true):
  Gd (s.setRef tr.1 1 val).1∧Tab (s.setRef tr.1 1 val).1.vw head (C.set b (pre++(tr.1,tr.2.1,val)::post))∧(∀c,GQ (s.setRef tr.1 1 val).1.vw c=GQ s.vw c):=by
 obtain⟨⟨d0,e0,q1,-⟩,-⟩:=t.link hC
 have v1:=Hp.Uf (i:=1) g.ok q1 sM hv
 refine⟨g.setRef q1 sM hv,?_,fun c=>?_⟩
 ·rw[v1];exact t.GmA hC q1 val
 ·rw[v1];exact Vd q1 c
end
end Go.Cs
namespace Go.Cs
open Go
theorem Bh{V:Int→Vw}{a c:Int}{x y}(h:V a=some y):(Q8 V a x c).isSome=(V c).isSome:=by
 by_cases e:c=a
 ·subst e;rw[Jp,h];rfl
 ·rw[Jr e]
theorem Bl{V:Int→Vw}{a:Int}{x y}:Q8 (Q8 V a x) a y=Q8 V a y:=by
 funext c
 unfold Q8
 split<;>rfl
theorem Gd.Ti{s t:Hp}(h:∀c,(t.vw c).isSome=(s.vw c).isSome)(c:Int):t.has c=s.has c:=by rw[←Gd.has,←Gd.has,h]
theorem Gd.alloc{s:Hp}(g:Gd s)(hb:s.born<1000000000000){r d kd:Int}{s1:Hp}{ad:Int}(h:s.alloc 0 r d kd=(s1,ad,0)):
  Gd s1∧s1.born≤s.born+1∧s.vw ad=none∧64≤ad∧ad<4096∧∃e,s1.vw=Q8 s.vw ad (List.replicate r.toNat 0,List.replicate d.toNat 0,kd.toNat,e):=by
 obtain⟨k1,l1,b1,c⟩:=Hp.GaB (r:=r) (d:=d) (kd:=kd) g.ok g.lo hb (sp:=0) oM
 rw[h]at k1 l1 b1 c
 rcases c with⟨c,-⟩|⟨m,c1,c2,c3,c4,c5⟩
 ·simp at c
 ·simp only[Prod.mk.injEq,and_true]at c1
  subst c1
  dsimp only at k1 l1 b1 c5
  refine⟨⟨k1,l1,?_⟩,b1,c4,oM,oM,_,c5⟩
  rw[c5]
  exact g.sv.set fun x hx=>.inl (List.mem_replicate.1 hx).2
theorem Gd.full{s:Hp}(g:Gd s)(hb:s.born<1000000000000){r d kd:Int}{s1:Hp}{ad e:Int}(h:s.alloc 0 r d kd=(s1,ad,e))(he:e≠0):Gd s1∧ad=0∧e=6∧s1.vw=s.vw∧s1.born≤s.born+1:=by
 obtain⟨k1,l1,b1,c⟩:=Hp.GaB (r:=r) (d:=d) (kd:=kd) g.ok g.lo hb (sp:=0) oM
 rw[h]at k1 l1 b1 c
 rcases c with⟨c1,c2⟩|⟨m,c1,-⟩
 ·simp only[Prod.mk.injEq]at c1
  dsimp only at k1 l1 b1 c2
  exact⟨⟨k1,l1,by rw[c2];exact g.sv⟩,c1.1,c1.2,c2,b1⟩
 grind
section
variable {s : Hp} {head : Int} {C : List (List JY)}
theorem GjT(g:Gd s)(hb:s.born<1000000000000){s1:Hp}{ad:Int}(h:s.alloc 0 8 1 3=(s1,ad,0)):Tab s1.vw ad (List.replicate 8 []):=by
 obtain⟨-,-,-,-,-,e,hv⟩:=g.alloc hb h
 refine⟨rfl,⟨e,?_⟩,fun b l hl=>?_,dE,dE⟩
 ·rw[hv,Jp];rfl
 ·rw[List.getElem?_replicate]at hl
  split at hl
  ·simp only[GA]at hl
   subst hl;trivial
  ·cases hl
theorem GjO(g:Gd s)(t:Tab s.vw head C)(hb:s.born<1000000000000){key val id:Int}(hid:GQ s.vw key=some id)(h1:1≤id)(hval:val=0∨s.has val=true)(hnk:key∉C.flatten.map (·.2.1))
  {s1:Hp}{ad:Int}(ha:s.alloc 0 3 1 2=(s1,ad,0)):
  Gd (s1.FN head key val ad)∧Tab (s1.FN head key val ad).vw head (C.set (id.tmod 8).toNat ((ad,key,val)::C.getD (id.tmod 8).toNat []))∧(id.tmod 8).toNat<8∧
   (∀c,(GQ s.vw c).isSome=true→GQ (s1.FN head key val ad).vw c=GQ s.vw c)∧(s1.FN head key val ad).born=s1.born:=by
 obtain⟨g1,b1,had,ha1,ha2,e,hv⟩:=g.alloc hb ha
 have hv:s1.vw=Q8 s.vw ad ([0,0,0],[0],2,e):=hv
 have few:=t.few g.ok
 obtain⟨eh,he⟩:=t.hd
 have hlen:=t.len
 obtain⟨b,hbe⟩:∃b:Nat,id.tmod 8=(b:Int):=⟨(id.tmod 8).toNat,by
  grind⟩
 have hb8:b<8:=by grind
 rw[hbe,K_]
 have hkad:key≠ad:=by rintro rfl;unfold GQ at hid;rw[had]at hid;cases hid
 have Gmw:head≠ad:=by rintro rfl;rw[had]at he;cases he
 have w0:s1.vw ad=some ([0,0,0],[0],2,e):=by rw[hv,Jp]
 have hd1:s1.vw head=some (C.map (YB 0),[(C.flatten.length:Int)],3,eh):=by rw[hv,Jr Gmw,he]
 have hmono:∀c,s.has c=true→s1.has c=true:=fun c hc=>by
  rw[←Gd.has]at hc⊢
  rw[hv]
  by_cases c0:c=ad
  ·subst c0;rw[Jp];rfl
  ·rw[Jr c0];exact hc
 have hkey:s1.has key=true:=hmono key (by rw[←Gd.has];unfold GQ at hid;rw[GJ]at hid;grind)
 have Gku:val=0∨s1.has val=true:=hval.imp (fun h=>h) (hmono val)
 have GsQ:s1.Nw key=(id,0):=by
  rw[Hp.Ew]
  have:GQ s1.vw key=some id:=by unfold GQ;rw[hv,Jr hkad];exact hid
  rw[this]
 obtain⟨ft,hft⟩:∃ft,ft=YB 0 (C.getD b []):=⟨_,rfl⟩
 have GkK:(s1.GN head (b:Int)).1=ft:=by
  rw[Hp.Vx hd1,if_pos (by rw[DW];omega),K_,WE,K4,hft,WE]
  cases C[b]?<;>rfl
 have Gk_:=g1.GN head (b:Int)
 rw[GkK]at Gk_
 have v1:=Hp.Uf (i:=0) (to:=key) g1.ok w0 sM (.inr hkey)
 have q1:=g1.setRef (i:=0) (to:=key) w0 sM (.inr hkey)
 have w1:(s1.setRef ad 0 key).1.vw ad=some ([key,0,0],[0],2,e):=by rw[v1,Jp];rfl
 have m1:∀c,(s1.setRef ad 0 key).1.has c=s1.has c:=Gd.Ti fun c=>by rw[v1];exact Bh w0
 have v2:=Hp.Uf (i:=1) (to:=val) q1.ok w1 sM (by rw[m1];exact Gku)
 have q2:=q1.setRef (i:=1) (to:=val) w1 sM (by rw[m1];exact Gku)
 have w2:((s1.setRef ad 0 key).1.setRef ad 1 val).1.vw ad=some ([key,val,0],[0],2,e):=by rw[v2,Jp];rfl
 have m2:∀c,((s1.setRef ad 0 key).1.setRef ad 1 val).1.has c=s1.has c:=fun c=>(Gd.Ti (fun c=>by rw[v2];exact Bh w1) c).trans (m1 c)
 have v3:=Hp.Uf (i:=2) (to:=ft) q2.ok w2 sM (by rw[m2];exact Gk_)
 have q3:Gd (s1.AB key val ft ad):=q2.setRef (i:=2) (to:=ft) w2 sM (by rw[m2];exact Gk_)
 have w3:(s1.AB key val ft ad).vw ad=some ([key,val,ft],[0],2,e):=by unfold Hp.AB;rw[v3,Jp];rfl
 have m3:∀c,(s1.AB key val ft ad).has c=s1.has c:=fun c=>(Gd.Ti (fun c=>by unfold Hp.AB;rw[v3];exact Bh w2) c).trans (m2 c)
 have x3:(s1.AB key val ft ad).vw=Q8 s1.vw ad ([key,val,ft],[0],2,e):=by unfold Hp.AB;rw[v3,v2,v1,Bl,Bl];rfl
 obtain⟨sA,hsA⟩:∃sA,sA=s1.AB key val ft ad:=⟨_,rfl⟩
 rw[←hsA]at q3 w3 m3 x3
 have v4:=Hp.YF (i:=0) (v:=id) q3.ok w3 sM
 have q4:=q3.G_ (i:=0) (v:=id) w3 sM
 have m4:∀c,(sA.G_ ad 0 id).1.has c=s1.has c:=fun c=>(Gd.Ti (fun c=>by rw[v4];exact Bh w3) c).trans (m3 c)
 have x4:(sA.G_ ad 0 id).1.vw=Q8 s1.vw ad ([key,val,ft],[id],2,e):=by rw[v4,x3,Bl];rfl
 have w4:(sA.G_ ad 0 id).1.vw head=some (C.map (YB 0),[(C.flatten.length:Int)],3,eh):=by rw[x4,Jr Gmw,hd1]
 have hib:(0:Int)≤(b:Int)∧(b:Int)<((C.map (YB 0)).length:Int):=by rw[DW];omega
 have GoH:ad=0∨(sA.G_ ad 0 id).1.has ad=true:=.inr (by rw[m4,←Gd.has,w0];rfl)
 have v5:=Hp.Uf q4.ok w4 hib GoH
 have q5:Gd (sA.Z7 head id ad):=by unfold Hp.Z7;rw[hbe];exact q4.setRef w4 hib GoH
 rw[K_]at v5
 have x5:(sA.Z7 head id ad).vw=Q8 (Q8 s1.vw ad ([key,val,ft],[id],2,e)) head ((C.map (YB 0)).set b ad,[(C.flatten.length:Int)],3,eh):=by unfold Hp.Z7;rw[hbe,v5,x4]
 have w5:(sA.Z7 head id ad).vw head=some ((C.map (YB 0)).set b ad,[(C.flatten.length:Int)],3,eh):=by rw[x5,Jp]
 obtain⟨sB,hsB⟩:∃sB,sB=sA.Z7 head id ad:=⟨_,rfl⟩
 rw[←hsB]at q5 x5 w5
 have hda:(sB.JM head 0).1=(C.flatten.length:Int):=by rw[Hp.Bp w5];rfl
 have hw:IntKind.i64.wrap ((C.flatten.length:Int)+1)=(C.flatten.length:Int)+1:=Gh oM
 have v6:=Hp.YF (i:=0) (v:=(C.flatten.length:Int)+1) q5.ok w5 sM
 have q6:=q5.G_ (i:=0) (v:=(C.flatten.length:Int)+1) w5 sM
 have hN:s1.FN head key val ad=(sB.G_ head 0 ((C.flatten.length:Int)+1)).1:=by
  unfold Hp.FN
  grind
 have x6:(sB.G_ head 0 ((C.flatten.length:Int)+1)).1.vw=Q8 (Q8 s1.vw ad ([key,val,ft],[id],2,e)) head ((C.map (YB 0)).set b ad,[(C.flatten.length:Int)+1],3,eh):=by rw[v6,x5,Bl];rfl
 rw[hN,x6]
 refine⟨q6,t.put (e:=e) hb8 had hid h1 hbe hnk ?_ (fun r d kd e' h=>?_) fun c c1 c2=>?_,hb8,fun c hc=>?_,?_⟩
 ·rw[Jr (Ne.symm Gmw),Jp,hft]
 ·rw[he]at h
  simp only[GA,Prod.mk.injEq]at h
  obtain⟨rfl,rfl,rfl,rfl⟩:=h
  rw[Jp];rfl
 ·rw[Jr c2,Jr c1,hv,Jr c1]
 ·have c1:c≠ad:=by rintro rfl;unfold GQ at hc;rw[had]at hc;cases hc
  unfold GQ
  by_cases c2:c=head
  ·subst c2;rw[Jp,he];rfl
  ·rw[Jr c2,Jr c1,hv,Jr c1]
 ·rw[Hp.Zv,hsB]
  unfold Hp.Z7
  rw[Hp.Q6,Hp.Zv,hsA]
  unfold Hp.AB
  rw[Hp.Q6,Hp.Q6,Hp.Q6]
end
end Go.Cs

namespace Go.Cs
open Go
structure Wnt(V:Int→Vw)(C:List (List JY))(W:List (Int×Int)):Prop where
 len:W.length=C.flatten.length
 nd:(W.map (·.1)).Nodup
 ok:∀w∈W,∃t∈C.flatten,GQ V t.2.1=some w.1∧(GQ V t.2.2).getD 0=w.2
 co:∀t∈C.flatten,∃w∈W,GQ V t.2.1=some w.1
theorem Wnt.new(V:Int→Vw):Wnt V (List.replicate 8 []) []:=⟨rfl,.nil,fun w h=>(by cases h),fun t h=>(by
 simp_all)⟩
theorem Wnt.ids{V V':Int→Vw}{C:List (List JY)}{W:List (Int×Int)}(w:Wnt V C W)(h:∀c,GQ V' c=GQ V c):Wnt V' C W:=
 ⟨w.len,w.nd,fun x hx=>by obtain⟨t,h1,h2,h3⟩:=w.ok x hx;grind,fun t ht=>by obtain⟨x,h1,h2⟩:=w.co t ht;exact⟨x,h1,by rw[h,h2]⟩⟩
theorem Wnt.put{V V':Int→Vw}{C:List (List JY)}{W:List (Int×Int)}(w:Wnt V C W){b:Nat}(hb:b<C.length){ad key val id:Int}(hid:GQ V key=some id)(hn:∀x∈W,x.1≠id)
  (h:∀c,(GQ V c).isSome=true→GQ V' c=GQ V c)(h0:∀c,GQ V c=none→c=val∨(∃t∈C.flatten,c=t.2.2)→GQ V' c=none):Wnt V' (C.set b ((ad,key,val)::C.getD b [])) ((id,(GQ V val).getD 0)::W):=by
 obtain⟨l,hl⟩:∃l,C[b]?=some l:=⟨_,JG hb⟩
 have hgd:C.getD b []=l:=by grind
 rw[hgd]
 have hf:=Qv (l':=(ad,key,val)::l) hl
 have hs:=JQ hl
 have mem:∀t,t∈(C.set b ((ad,key,val)::l)).flatten↔t=(ad,key,val)∨t∈C.flatten:=fun t=>by
  grind
 have hval:∀c,c=val∨(∃t∈C.flatten,c=t.2.2)→GQ V' c=GQ V c:=fun c hc=>by
  cases e:GQ V c with
  |none=>exact h0 c e hc
  |some x=>rw[h c (by rw[e];rfl),e]
 refine⟨by rw[hf,List.length_cons,w.len,hs];grind,?_,fun x hx=>?_,fun t ht=>?_⟩
 ·rw[List.map_cons,List.nodup_cons]
  exact⟨fun hm=>by grind,w.nd⟩
 ·rcases List.mem_cons.1 hx with rfl|hx
  ·exact⟨(ad,key,val),(mem _).2 (.inl rfl),by grind,by rw[hval val (.inl rfl)]⟩
  ·obtain⟨t,h1,h2,h3⟩:=w.ok x hx
   grind
 ·rcases(mem t).1 ht with rfl|ht
  ·simp_all
  ·obtain⟨x,h1,h2⟩:=w.co t ht
   grind
theorem Gmf{W:List (Int×Int)}(nd:(W.map (·.1)).Nodup){i j:Nat}{x y:Int×Int}(hi:W[i]?=some x) (hj:W[j]?=some y) (e:x.1=y.1):i=j:=by
 have h1:(W.map (·.1))[i]?=some x.1:=by rw[K4,hi];rfl
 have h2:(W.map (·.1))[j]?=some x.1:=by rw[K4,hj,e];rfl
 exact(List.getElem?_inj (Gf h1) nd).1 (h1.trans h2.symm)
theorem Wnt.old{V V':Int→Vw}{C:List (List JY)}{W:List (Int×Int)}(w:Wnt V C W){head:Int}(tb:Tab V head C)(inj:∀a c e,GQ V a=some e→GQ V c=some e→a=c){b:Nat}{pre post:List JY}{tr:JY}(hC:C[b]?=some (pre++tr::post)) {id val:Int} (hid:GQ V tr.2.1=some id)
  {at':Nat} {x:Int×Int} (hat:W[at']?=some x) (hx:x.1=id) (h:∀c,GQ V' c=GQ V c):Wnt V' (C.set b (pre++(tr.1,tr.2.1,val)::post)) (W.set at' (id,(GQ V val).getD 0)):=by
 have hf:=Qv (l':=pre++(tr.1,tr.2.1,val)::post) hC
 have hs:=JQ hC
 have hne:=ZP hC (·.2.1) tb.kn
 have mem1:∀t∈C.flatten,t=tr∨(t∈(C.set b (pre++(tr.1,tr.2.1,val)::post)).flatten∧t.2.1≠tr.2.1):=fun t ht=>by
  by_cases c:t.2.1=tr.2.1
  ·left
   have nd:=tb.kn
   obtain⟨i,hi⟩:=List.mem_iff_getElem?.1 ht
   obtain⟨j,hj⟩:=List.mem_iff_getElem?.1 (JZ hC (x:=tr) sM)
   have h1:(C.flatten.map (·.2.1))[i]?=some t.2.1:=by rw[K4,hi];rfl
   have h2:(C.flatten.map (·.2.1))[j]?=some t.2.1:=by rw[K4,hj,c];rfl
   have e:=(List.getElem?_inj (Gf h1) nd).1 (h1.trans h2.symm)
   grind
  grind
 have mem2:∀t∈(C.set b (pre++(tr.1,tr.2.1,val)::post)).flatten,t=(tr.1,tr.2.1,val)∨t∈C.flatten:=fun t ht=>by
  grind
 have hmap:(W.set at' (id,(GQ V val).getD 0)).map (·.1)=W.map (·.1):=by
  rw[List.map_set]
  refine List.ext_getElem? fun i=>?_
  grind
 have hnew:(tr.1,tr.2.1,val)∈(C.set b (pre++(tr.1,tr.2.1,val)::post)).flatten:=by rw[hf];simp
 refine⟨by rw[List.length_set,w.len,hf,hs];simp,by rw[hmap];exact w.nd,fun y hy=>?_,fun t ht=>?_⟩
 ·obtain⟨i,hi⟩:=List.mem_iff_getElem?.1 hy
  rw[Tj]at hi
  split at hi
  ·grind
  ·rename_i e
   obtain⟨t,q1,q2,q3⟩:=w.ok y (JV hi)
   rcases mem1 t q1 with rfl|⟨q,-⟩
   ·rw[hid]at q2
    simp only[GA]at q2
    exact absurd (Gmf w.nd hat hi (hx.trans q2)) e
   grind
 ·have key:∀t',t'∈C.flatten→GQ V t'.2.1=GQ V t.2.1→∃w'∈W.set at' (id,(GQ V val).getD 0),GQ V' t.2.1=some w'.1:=fun t' h1 h2=>by
   obtain⟨y,q1,q2⟩:=w.co t' h1
   have:y.1∈(W.set at' (id,(GQ V val).getD 0)).map (·.1):=by rw[hmap];exact List.mem_map_of_mem q1
   grind
  grind
theorem Wnt.remove{V V':Int→Vw}{C:List (List JY)}{W:List (Int×Int)}(w:Wnt V C W){head:Int}(tb:Tab V head C)(inj:∀a c e,GQ V a=some e→GQ V c=some e→a=c){b:Nat}{pre post:List JY}{tr:JY}(hC:C[b]?=some (pre++tr::post)) {id:Int} (hid:GQ V tr.2.1=some id)
  {at':Nat} {x:Int×Int} (hat:W[at']?=some x) (hx:x.1=id) (h:∀c,GQ V' c=GQ V c):Wnt V' (C.set b (pre++post)) (W.take at'++W.drop (at'+1)):=by
 have hf:=Qv (l':=pre++post) hC
 have hs:=JQ hC
 have hne:=ZP hC (·.2.1) tb.kn
 have hW:W=W.take at'++x::W.drop (at'+1):=by rw[←drop_cons hat,List.take_append_drop]
 have hsub:(W.take at'++W.drop (at'+1)).Sublist W:=by
  grind
 have mem:∀t,t∈C.flatten→t=tr∨t∈(C.set b (pre++post)).flatten:=fun t ht=>by
  grind
 have mem2:∀t,t∈(C.set b (pre++post)).flatten→t∈C.flatten∧t.2.1≠tr.2.1:=fun t ht=>by
  have h1:t∈C.flatten:=by
   grind
  refine⟨h1,?_⟩
  have nd:=tb.kn
  rw[hs,Es,Es,List.nodup_append,List.nodup_append]at nd
  rw[hf]at ht
  rcases NV.1 ht with q|q
  ·exact nd.2.2 _ (List.mem_map_of_mem (f:=(·.2.1)) q) _ (List.mem_append_left _ (List.mem_map_of_mem (f:=(·.2.1)) (a:=tr) sM))
  ·rcases NV.1 q with q|q
   ·exact hne t q
   ·exact fun e=>nd.2.1.2.2 _ (List.mem_map_of_mem (f:=(·.2.1)) (a:=tr) sM) _ (List.mem_map_of_mem (f:=(·.2.1)) q) e.symm
 have hxn:∀y∈W.take at'++W.drop (at'+1),y.1≠id:=fun y hy e=>by
  have nd:=w.nd
  grind
 refine⟨?_,List.Nodup.sublist (List.Sublist.map _ hsub) w.nd,fun y hy=>?_,fun t ht=>?_⟩
 ·have h1:=congrArg List.length hW
  have h2:=w.len
  grind
 ·obtain⟨t,q1,q2,q3⟩:=w.ok y (hsub.subset hy)
  grind
 ·obtain⟨q1,q2⟩:=mem2 t ht
  obtain⟨y,y1,y2⟩:=w.co t q1
  grind
end Go.Cs
namespace Go.Cs.Tryz
open Go Go.Cs
section
variable {H : Gb} {hb : Nat} {s : Hp} {L : G6}
theorem PI(p:PH H hb s L)(k:s.Ok)(hs:Ql s)(h0:s.has 0=false)(hz:s.Gw 0=0){sp:Int}(hsp:0≤sp∧sp<8)(hborn:s.born<1000000000000){head key val:Int}(hhd:head≤9223372036854775807)(hof:s.Px head=0)(hkey:s.has key=true)(hval:val=0∨s.has val=true)
  (hf:QX (s.walk head).1 key=none){s1:Hp}(ha:s.alloc sp 3 1 2=(s1,0,6)):
  ∃H',run P 36 [.ptr hb 0,.i head,.i key,.i val,.i sp] H=some (.Jk [.i 0,.i 6],H')∧Keeps H H' (·∈L.all hb)∧PH H' hb s1 L:=by
 obtain⟨H1,h1,g1⟩:=Zw p k hs h0 hhd
 rw[hof]at h1
 obtain⟨X1,hX1⟩:∃X:Gb,X=H1++[⟨[.ptr hb 0,.i head],.rw,0⟩]:=⟨_,rfl⟩
 have gX1:Gr H1 X1:=by rw[hX1];exact Gr.app _ _
 have t12:X1[H1.length]?=some ⟨[.ptr hb 0,.i head],.rw,0⟩:=by rw[hX1];simp
 have gH1:=g1.trans gX1
 have hkl:=k.has_lt hkey
 have hhk:=KP (p.gr gH1) k key oM
 rw[hkey]at hhk
 obtain⟨H2,h2,g2⟩:=Yx (p.gr gH1) k hs h0 hhd key
 rw[hf]at h2
 unfold Da at h2
 obtain⟨X2,hX2⟩:∃X:Gb,X=H2++[⟨[.i 0,.i 0,.i 0,.i 0,.i 0],.rw,0⟩]:=⟨_,rfl⟩
 have gX2:Gr H2 X2:=by rw[hX2];exact Gr.app _ _
 have gH2:=(gH1.trans g2).trans gX2
 obtain⟨H3,h3,k3,p3⟩:=Fu (p.gr gH2) k hz hsp hborn (r:=3) (d:=1) (kd:=2) dE dE
 rw[ha]at h3 p3
 dsimp only at h3 p3
 have h3':run P 54 [.ptr hb 0,.agg [.int .i64 3,.int .i64 1,.int .i64 2],.i sp] X2=some (.Jk [.i 0,.i 6],H3):=h3
 have hvl:val≤9223372036854775807:=by
  rcases hval with h|h
  ·rw[h];decide
  ·have:=k.has_lt h;omega
 have lp:leaf (.ptr hb 0)=true:=rfl
 have z0:((0:Int) != 0)=false:=rfl
 have z6:((6:Int) != 0)=true:=rfl
 have c1:¬(sp<0):=by omega
 have c2:¬((8:Int)≤sp):=by omega
 refine⟨H3,?_,(Keeps.weaken gH2 fun _ h=>h.elim).trans k3,p3⟩
 rw[Gi c36 _ _ sM]
 by_cases hv0:val=0
 ·have hv1:(val != 0)=false:=by rw[hv0];rfl
  refine W3 h1 z0 @Gu ?_
  rw[←hX1]
  refine W7 hhk hv1 c1 c2 t12 h2 @Gu ?_
  rw[←hX2]
  exact V2 h3' z6
 ·have hv1:(val != 0)=true:=by rw[bne_iff_ne];exact hv0
  have hhv:=KP (p.gr gH1) k val hvl
  rw[hval.resolve_left hv0]at hhv
  refine GH ?_
  rw[←hX1]
  refine W8 hhk hv1 hhv c1 c2 t12 h2 @Gu ?_
  rw[←hX2]
  exact V2 h3' z6
end
end Go.Cs.Tryz

namespace Go.Cs
open Go
theorem Nk{s:Hp}{a:Int}:(GQ s.vw a).isSome=s.has a:=by unfold GQ;rw[Option.isSome_map,Gd.has]
theorem Ggj{s:Hp}(k:s.Ok){a id:Int}(h:GQ s.vw a=some id):1≤id:=by
 unfold GQ Hp.vw at h
 simp only[Option.map_map,GJ,Function.comp_apply]at h
 obtain⟨o,ho,h1⟩:=h
 have:=(k.ob o (Hp.GV ho).1).id
 omega
structure TB(s:Hp)(head:Int)(C:List (List JY))(W:List (Int×Int))(A:List Int)(n:Nat):Prop where
 gd:Gd s
 tb:Tab s.vw head C
 wn:Wnt s.vw C W
 bo:s.born≤n
 al:∀a∈A,s.has a=true
section
variable {s : Hp} {head : Int} {C : List (List JY)} {W : List (Int × Int)} {A : List Int} {n : Nat}
theorem TB.hl(t:TB s head C W A n):head≤9223372036854775807:=by
 obtain⟨e,h⟩:=t.tb.hd
 have:=t.gd.ok.has_lt (a:=head) (by rw[←Gd.has,h];rfl)
 omega
theorem TB.of(t:TB s head C W A n):s.Px head=0:=t.tb.Px t.gd.ok t.gd.h0
theorem TB.miss(t:TB s head C W A n){key id:Int}(hid:GQ s.vw key=some id)(hn:∀x∈W,x.1≠id):QX (s.walk head).1 key=none∧key∉C.flatten.map (·.2.1):=by
 have main:key∉C.flatten.map (·.2.1):=fun h=>by
  obtain⟨tr,h1,rfl⟩:=VA.1 h
  obtain⟨w,h2,h3⟩:=t.wn.co tr h1
  grind
 refine⟨?_,main⟩
 unfold QX
 rw[List.find?_eq_none]
 intro x hx h
 rw[beq_iff_eq]at h
 obtain⟨b,pre,tr,post,h1,h2⟩:=t.tb.find (key:=key) t.gd.ok t.gd.h0 hx
 rw[h2]at h
 exact main (VA.2 ⟨tr,JZ h1 sM,h⟩)
theorem TB.hit(t:TB s head C W A n){key id:Int}(hid:GQ s.vw key=some id){x:Int×Int}(hx:x∈W)(e:x.1=id):
  ∃(b:Nat)(pre:List JY)(tr:JY)(post:List JY),C[b]?=some (pre++tr::post)∧tr.2.1=key∧QX (s.walk head).1 key=some ⟨tr.1,KD head pre,if pre=[]then(b:Int)else 2,tr.2.1,tr.2.2⟩∧(GQ s.vw tr.2.2).getD 0=x.2:=by
 obtain⟨t0,h1,h2,h3⟩:=t.wn.ok x hx
 have hk:t0.2.1=key:=Hp.Gcc t.gd.ok h2 (by rw[hid,e])
 obtain⟨y,y1,y2,-⟩:=Wn (head:=head) (b:=0) h1
 have hw:=t.tb.walk t.gd.ok t.gd.h0
 cases hf:QX (s.walk head).1 key with
 |none=>
  unfold QX at hf
  grind
 |some z=>
  have z1:=List.mem_of_find?_eq_some hf
  have z2:=P9 hf
  rw[beq_iff_eq]at z2
  obtain⟨b,pre,tr,post,q1,q2⟩:=t.tb.find (key:=key) t.gd.ok t.gd.h0 z1
  have q3:tr.2.1=key:=by rw[q2]at z2;exact z2
  refine⟨b,pre,tr,post,q1,q3,by rw[q2],?_⟩
  have nd:=t.tb.kn
  obtain⟨i,hi⟩:=List.mem_iff_getElem?.1 h1
  obtain⟨j,hj⟩:=List.mem_iff_getElem?.1 (JZ q1 (x:=tr) sM)
  have g1:(C.flatten.map (·.2.1))[i]?=some key:=by rw[K4,hi,←hk];rfl
  have g2:(C.flatten.map (·.2.1))[j]?=some key:=by rw[K4,hj,←q3];rfl
  have e:=(List.getElem?_inj (Gf g1) nd).1 (g1.trans g2.symm)
  grind
theorem TB.mono{s:Hp}{head:Int}{C:List (List JY)}{W:List (Int×Int)}{A:List Int}{n:Nat}(t:TB s head C W A n):TB s head C W A (n+1):=⟨t.gd,t.tb,t.wn,Nat.le_succ_of_le t.bo,t.al⟩
theorem Gck{s s':Hp}(g:Gd s)(g':Gd s')(t:Tab s.vw head C){val:Int}(hval:val=0∨s.has val=true):∀c,GQ s.vw c=none→c=val∨(∃t∈C.flatten,c=t.2.2)→GQ s'.vw c=none:=fun c hc h=>by
 have key:c=0∨s.has c=true:=by
  rcases h with rfl|⟨tr,h1,rfl⟩
  ·exact hval
  ·obtain⟨b,l,q1,q2⟩:=Bj h1
   obtain⟨m,d,e,q3,-⟩:=(t.ch b l q1).mem tr q2
   have:=g.sv _ _ _ _ _ q3 tr.2.2 sM
   rwa[Gd.has]at this
 rcases key with rfl|k
 ·have:=g'.h0
  rw[←Nk]at this
  simp_all
 ·rw[←Nk,hc]at k
  cases k
end
end Go.Cs
namespace Go.Cs.Tryz
open Go Go.Cs
section
variable {H : Gb} {hb : Nat} {s : Hp} {L : G6} {head : Int} {C : List (List JY)} {W : List (Int × Int)} {A : List Int} {n : Nat}
theorem Ze{s:Hp}(g:Gd s):Ql s:=fun o ho x hx=>by
 have h:=g.ok.obj ho
 have:=g.sv o.addr o.refs o.data o.kd o.id (by unfold Hp.vw;rw[h];rfl) x hx
 rwa[Gd.has]at this
theorem Gix(t:TB s head C W A n)(p:PH H hb s L){key id val:Int}(hid:GQ s.vw key=some id)(hval:val=0∨s.has val=true)(hn:∀x∈W,x.1≠id)(hb9:n<1000000000):
  ∃H' a e s' C' W',run P 36 [.ptr hb 0,.i head,.i key,.i val,.i 0] H=some (.Jk [.i a,.i e],H')∧Keeps H H' (·∈L.all hb)∧PH H' hb s' L∧TB s' head C' W' A (n+1)∧
   ((e=6∧W'=W)∨(e=0∧a≠0∧W'=(id,(GQ s.vw val).getD 0)::W)):=by
 have k:=t.gd.ok
 have h0:=t.gd.h0
 have hz:=t.gd.lo.1
 have hbo:=t.bo
 have hkey:s.has key=true:=by rw[←Nk,hid];rfl
 obtain⟨m1,m2⟩:=t.miss hid hn
 obtain⟨s1,ad,e,ha⟩:∃s1 ad e,s.alloc 0 3 1 2=(s1,ad,e):=⟨_,_,_,rfl⟩
 by_cases he:e=0
 ·subst he
  obtain⟨g1,b1,v1,l1,l2,-⟩:=t.gd.alloc oM ha
  obtain⟨H',h1,k1,p1⟩:=D_ p k (Ze t.gd) h0 hz (sp:=0) oM oM t.hl t.of hkey hval m1 ha g1.ok (Ze g1) oM
  obtain⟨q1,q2,q3,q4,q5⟩:=GjO t.gd t.tb oM hid (Ggj k hid) hval m2 ha
  refine⟨H',ad,0,_,_,_,h1,k1,p1,⟨q1,q2,t.wn.put (by rw[t.tb.len];exact q3) hid hn q4 (Gck t.gd q1 t.tb hval),oM,fun a ha=>?_⟩,.inr ⟨rfl,oM,rfl⟩⟩
  have:=t.al a ha
  rw[←Nk]at this⊢
  rw[q4 a this];exact this
 ·obtain⟨g1,rfl,rfl,v1,b1⟩:=t.gd.full oM ha he
  obtain⟨H',h1,k1,p1⟩:=PI p k (Ze t.gd) h0 hz (sp:=0) oM oM t.hl t.of hkey hval m1 ha
  refine⟨H',0,6,_,C,W,h1,k1,p1,⟨g1,by rw[v1];exact t.tb,by rw[v1];exact t.wn,oM,fun a ha=>?_⟩,.inl ⟨rfl,rfl⟩⟩
  rw[←Gd.has,v1,Gd.has];exact t.al a ha
theorem Xh(t:TB s head C W A n)(p:PH H hb s L){key id val:Int}(hid:GQ s.vw key=some id)(hval:val=0∨s.has val=true){at':Nat}{x:Int×Int}(hx:W[at']?=some x) (e:x.1=id):
  ∃H' s' C',run P 36 [.ptr hb 0,.i head,.i key,.i val,.i 0] H=some (.Jk [.i 0,.i 0],H')∧Keeps H H' (·∈L.all hb)∧PH H' hb s' L∧TB s' head C' (W.set at' (id,(GQ s.vw val).getD 0)) A (n+1):=by
 have k:=t.gd.ok
 have hbo:=t.bo
 have hkey:s.has key=true:=by rw[←Nk,hid];rfl
 obtain⟨b,pre,tr,post,q1,q2,q3,-⟩:=t.hit hid (JV hx) e
 obtain⟨H',h1,k1,p1⟩:=TG p k (Ze t.gd) t.gd.h0 (sp:=0) oM t.hl t.of hkey hval q3
 obtain⟨r1,r2,r3⟩:=Gbp t.gd t.tb q1 hval
 refine⟨H',_,_,h1,k1,p1,r1,r2,t.wn.old t.tb (fun a c e h h'=>Hp.Gcc k h h') q1 (by rw[q2];exact hid) hx e r3,by dsimp only;rw[Hp.Q6];omega,fun a ha=>?_⟩
 have:=t.al a ha
 rw[←Nk]at this⊢
 rw[r3];exact this
theorem SA(t:TB s head C W A n)(p:PH H hb s L){key id:Int}(hid:GQ s.vw key=some id)(hn:∀x∈W,x.1≠id):
  ∃H',run P 37 [.ptr hb 0,.i head,.i key] H=some (.Jk [.bool false,.i 0],H')∧Keeps H H' (·∈L.all hb)∧PH H' hb s L:=by
 obtain⟨H',h1,k1,p1⟩:=Hu p t.gd.ok (Ze t.gd) t.gd.h0 t.hl t.of (key:=key) (fun h=>by
  have:=t.gd.h0
  rw[←Nk,←h,hid]at this
  cases this)
 rw[(t.miss hid hn).1]at h1 p1
 exact⟨H',h1,k1,p1⟩
theorem Gi1(t:TB s head C W A n)(p:PH H hb s L){key id:Int}(hid:GQ s.vw key=some id){at':Nat}{x:Int×Int}(hx:W[at']?=some x) (e:x.1=id):
  ∃H' s' C',run P 37 [.ptr hb 0,.i head,.i key] H=some (.Jk [.bool true,.i 0],H')∧Keeps H H' (·∈L.all hb)∧PH H' hb s' L∧TB s' head C' (W.take at'++W.drop (at'+1)) A (n+1):=by
 have k:=t.gd.ok
 have hbo:=t.bo
 obtain⟨b,pre,tr,post,q1,q2,q3,-⟩:=t.hit hid (JV hx) e
 obtain⟨H',h1,k1,p1⟩:=Hu p k (Ze t.gd) t.gd.h0 t.hl t.of (key:=key) (fun h=>by
  have:=t.gd.h0
  rw[←Nk,←h,hid]at this
  cases this)
 rw[q3]at h1 p1
 obtain⟨r1,r2,r3,r4⟩:=Gby t.gd t.tb q1 rfl
 refine⟨H',_,_,h1,k1,p1,r1,r2,t.wn.remove t.tb (fun a c e h h'=>Hp.Gcc k h h') q1 (by rw[q2];exact hid) hx e r3,by rw[r4];omega,fun a ha=>?_⟩
 have:=t.al a ha
 rw[←Nk]at this⊢
 rw[r3];exact this
theorem Tk(t:TB s head C W A n)(p:PH H hb s L){key id:Int}(hid:GQ s.vw key=some id)(hn:∀x∈W,x.1≠id):
  ∃H',run P 38 [.ptr hb 0,.i head,.i key] H=some (.Jk [.i 0,.i 4],H')∧Gr H H':=by
 obtain⟨H',h1,k1⟩:=MR p t.gd.ok (Ze t.gd) t.gd.h0 t.hl key
 unfold Hp.I5 at h1
 rw[t.of,(t.miss hid hn).1]at h1
 exact⟨H',h1,k1⟩
theorem GcS(t:TB s head C W A n)(p:PH H hb s L){key id:Int}(hid:GQ s.vw key=some id){x:Int×Int}(hx:x∈W)(e:x.1=id):
  ∃H' v,run P 38 [.ptr hb 0,.i head,.i key] H=some (.Jk [.i v,.i 0],H')∧Gr H H'∧(GQ s.vw v).getD 0=x.2∧v≤9223372036854775807:=by
 obtain⟨b,pre,tr,post,q1,q2,q3,q4⟩:=t.hit hid hx e
 obtain⟨H',h1,k1⟩:=MR p t.gd.ok (Ze t.gd) t.gd.h0 t.hl key
 unfold Hp.I5 at h1
 rw[t.of,q3]at h1
 have hk0:key≠0:=fun h=>by
  have:=t.gd.h0
  rw[←Nk,←h,hid]at this
  cases this
 have h1':run P 38 [.ptr hb 0,.i head,.i key] H=some (Q9 (if key≠0 then(tr.2.2,0)else(0,4)),H'):=h1
 rw[if_pos hk0]at h1'
 refine⟨H',_,h1',k1,q4,?_⟩
 obtain⟨⟨d,e',v1,-⟩,-⟩:=t.tb.link q1
 rcases t.gd.sv _ _ _ _ _ v1 tr.2.2 sM with h|h
 ·rw[h];decide
 ·rw[Gd.has]at h
  have:=t.gd.ok.has_lt h
  omega
end
end Go.Cs.Tryz
namespace Go.Cs.Tryz
open Go Go.Cs A
abbrev Gfm:Gq:=S (T [m 136 21,m 137 12,le 138 137,b 139 .lss 136 138] (J 139 (X 2))) (S (B 3 (T [m 142 12,m 143 21,x 144 2 142 143,f 145 0 144,l 146 1 145,m 147 16,b 148 .eql 146 147] (I 148 (R [m 149 21,m 20 149])))) (R [m 140 21,bk 141 .add 140 1,m 21 141]))
abbrev GdV:Gq:=S (T [m 78 13,m 79 1,le 80 79,b 81 .lss 78 80,m 82 81,gt 82 (m 83 13),gt 82 (bk 84 .lss 83 40),an 85 82 84] (J 85 (X 0))) (S (B 1 (T [m 88 9,m 89 1,m 90 13,x 91 3 89 90,f 92 1 91,l 93 1 92,e 94 (.conv .i64 (t 93)),m 95 9,le 96 95,b 97 .rem 94 96,x 98 1 88 97,l 99 1 98,m 14 99,n 15 0] (S (T [m 100 1,m 101 13,x 102 3 100 101,f 103 2 102,l 104 1 103,e 105 (.bin .lss (t 104) (c (.int .u8 200)))] (I 105 (R [m 106 9,m 107 1,m 108 13,x 109 3 107 108,f 110 2 109,l 111 1 110,e 112 (.conv .i64 (t 111)),m 113 9,le 114 113,b 115 .rem 112 114,x 116 1 106 115,l 117 1 116,m 15 117]))) (T [m 119 8,z 120 119,f 121 0 120,l 122 1 121,m 123 14,q2 124 35 122 123,m 118 124,ex 125 118 0,ex 126 118 1,m 16 125,m 17 126] (T [m 128 8,z 129 128,f 130 0 129,l 131 1 130,m 132 15,q2 133 35 131 132,m 127 133,ex 134 127 0,ex 135 127 1,m 18 134,m 19 135] (T [n 20 (-1)] (S (T [n 21 0] (B 2 (W Gfm))) (T [m 150 1,m 151 13,x 152 3 150 151,f 153 0 152,l 154 1 153,e 155 (.bin .rem (t 154) (c (.int .u8 6))),m 22 155] (B 4 (T [m 197 22,e 198 (.bin .lss (t 197) (c (.int .u8 4))),m 196 198] (C 196 (T [m 200 8,z 201 200,f 202 0 201,l 203 1 202,m 204 10,m 205 14,m 206 15,ca 207 36 [t 203,t 204,t 205,t 206,k 0],m 199 207,ex 208 199 0,ex 209 199 1,m 23 208,m 24 209] (S (T [m 210 24,bk 211 .eql 210 6] (I 211 (Q [m 212 8,m 213 10,m 214 12,m 4 212,m 5 213,m 6 214,nb 7 true]))) (S (T [m 215 24,bk 216 .neq 215 0,m 217 216,gf 217 (m 218 23),gf 217 (bk 219 .eql 218 0),gf 217 (m 220 20),gf 217 (bk 221 .geq 220 0),gf 217 (e 222 (.eqv true 0 (t 219) (t 221))),or 223 217 222] (I 223 (Q [e 4 (.JR (c .nilPtr)),n 5 0,e 6 (.JR (c .Gc)),nb 7 false]))) (T [m 224 20,bk 225 .geq 224 0] (C 225 (R [m 226 12,m 227 20,m 228 18,x 229 2 226 227,f 230 1 229,st 1 230 228]) (R [m 231 16,m 232 18,e 233 (.build [i 0,i 0] [(0,1,t 231),(1,1,t 232)]),e 234 (.buildSlice 2 [i 0,i 0] 1 [(0,2,t 233)]),m 235 12,ap 236 2 234 235,m 12 236])))))) (T [m 238 22,e 239 (.bin .eql (t 238) (c (.int .u8 4))),m 237 239] (C 237 (T [m 241 8,z 242 241,f 243 0 242,l 244 1 243,m 245 10,m 246 14,q3 247 37 244 245 246,m 240 247,ex 248 240 0,ex 249 240 1,m 25 248,m 26 249] (S (T [m 250 26,bk 251 .neq 250 0,m 252 251,gf 252 (m 253 25),gf 252 (m 254 20),gf 252 (bk 255 .geq 254 0),gf 252 (e 256 (.eqv true 0 (t 253) (t 255))),or 257 252 256] (I 257 (Q [e 4 (.JR (c .nilPtr)),n 5 0,e 6 (.JR (c .Gc)),nb 7 false]))) (T [m 258 20,bk 259 .geq 258 0] (I 259 (T [m 260 12,m 27 260] (D [⟨e 261 (.buildSlice 2 [] 0 []),0,0,0⟩,⟨m 262 27,1,0,0⟩,⟨m 263 20,2,0,0⟩,⟨e 264 (.slice 2 (t 262) none (some (t 263)) none),3,0,0⟩,⟨ap 265 2 261 264,4,3,0⟩,⟨m 266 27,5,0,0⟩,⟨m 267 20,6,0,0⟩,⟨bk 268 .add 267 1,7,0,0⟩,⟨e 269 (.slice 2 (t 266) (some (t 268)) none none),8,0,0⟩,⟨ap 270 2 265 269,9,3,1⟩,⟨m 12 270,10,0,2⟩])))))) (T [m 157 8,z 158 157,f 159 0 158,l 160 1 159,m 161 10,m 162 14,q3 163 38 160 161 162,m 156 163,ex 164 156 0,ex 165 156 1,m 28 164,m 29 165] (S (T [m 166 20,bk 167 .lss 166 0,m 168 167,gt 168 (m 169 29),gt 168 (bk 170 .neq 169 4),an 171 168 170] (I 171 (Q [e 4 (.JR (c .nilPtr)),n 5 0,e 6 (.JR (c .Gc)),nb 7 false]))) (T [m 173 8,z 174 173,f 175 0 174,l 176 1 175,m 177 28,q2 178 35 176 177,m 172 178,ex 179 172 0,ex 180 172 1,m 30 179,m 31 180] (T [m 181 20,bk 182 .geq 181 0,m 183 182,gt 183 (m 184 29),gt 183 (bk 185 .neq 184 0),gt 183 (m 186 185),gf 186 (m 187 30),gf 186 (m 188 12),gf 186 (m 189 20),gf 186 (x 190 2 188 189),gf 186 (f 191 1 190),gf 186 (l 192 1 191),gf 186 (b 193 .neq 187 192),gt 183 (or 194 186 193),an 195 183 194] (I 195 (Q [e 4 (.JR (c .nilPtr)),n 5 0,e 6 (.JR (c .Gc)),nb 7 false]))))))))))))))))))) (R [m 86 13,bk 87 .add 86 1,m 13 87]))
def C8:Gl:=⟨274,0,T [bo 2 0,e 4 (.JR (c .nilPtr)),n 5 0,e 6 (.JR (c .Gc)),nb 7 false] (T [lg 32 7 2,ca 33 32 [t 32,k 16],st 7 2 33] (T [lg 34 7 2,q1 35 18 34,m 8 35] (S (T [m 36 8,e 37 (.eqv false 1 (t 36) (c .nilPtr)),m 38 37,gf 38 (m 39 8),gf 38 (z 40 39),gf 38 (f 41 2 40),gf 38 (l 42 1 41),gf 38 (z 43 42),gf 38 (f 44 1 43),gf 38 (l 45 1 44),gf 38 (le 46 45),gf 38 (bk 47 .eql 46 0),or 48 38 47] (I 48 (Q [m 49 8,m 50 8,e 51 (.eqv true 1 (t 50) (c .nilPtr)),m 4 49,n 5 0,e 6 (.JR (c .Gc)),m 7 51]))) (T [m 52 8,z 53 52,f 54 2 53,l 55 1 54,q1 56 33 55,m 9 56] (T [m 58 8,z 59 58,f 60 0 59,l 61 1 60,ca 62 16 [t 61,k 0],m 57 62,ex 63 57 0,ex 64 57 1,m 10 63,m 11 64] (S (S (D [⟨m 65 11,0,0,0⟩,⟨bk 66 .neq 65 0,1,0,0⟩,⟨m 67 66,2,0,0⟩,⟨gf 67 (m 72 8),7,0,0⟩,⟨gf 67 (ca 73 30 [t 72,k 35]),8,3,0⟩,⟨gf 67 (m 68 8),3,0,0⟩,⟨gf 67 (z 69 68),4,0,0⟩,⟨gf 67 (f 70 1 69),5,0,0⟩,⟨gf 67 (l 71 1 70),6,1,0⟩,⟨gf 67 (m 74 10),9,0,0⟩,⟨gf 67 (q3 75 34 71 73 74),10,3,1⟩,⟨gf 67 (bk 76 .neq 75 0),11,0,2⟩,⟨or 77 67 76,12,0,2⟩]) (I 77 (Q [e 4 (.JR (c .nilPtr)),n 5 0,e 6 (.JR (c .Gc)),nb 7 false]))) (T [e 12 (.JR (c .Gc))] (S (T [n 13 0] (B 0 (W GdV))) (Q [m 271 8,m 272 10,m 273 12,m 4 271,m 5 272,m 6 273,nb 7 true]))))))))),[r 4,r 5,r 6,r 7]⟩
theorem c8:P 8=some C8:=by kernel_rfl
end Go.Cs.Tryz
namespace Go.Cs
open Go
def Zf(W:List (Int×Int)):List CV:=W.flatMap fun x=>[.i x.1,.i x.2]
abbrev QL(k:Nat)(H:Gb)(v:CV)(W:List (Int×Int)):Prop:=At (Loc k) z3 H v 2 W.length (Zf W)
theorem Yt(x:Int×Int)(W:List (Int×Int)):Zf (x::W)=.i x.1::.i x.2::Zf W:=rfl
theorem GiQ(l k:List (Int×Int)):Zf (l++k)=Zf l++Zf k:=by simp[Zf]
theorem Bc:∀W:List (Int×Int),(Zf W).length=W.length*2
 |[]=>rfl
 |x::W=>by rw[Yt,List.length_cons,List.length_cons,List.length_cons,Bc W];omega
theorem DN:∀W:List (Int×Int),(Zf W).all leaf=true
 |[]=>rfl
 |x::W=>by rw[Yt];simp[Jo,DN W]
theorem Ghl:∀(W:List (Int×Int))(b:Nat)(x:Int×Int),W[b]?=some x→(Zf W)[b*2]?=some (.i x.1)∧(Zf W)[b*2+1]?=some (.i x.2)
 |[],b,x,h=>by simp at h
 |y::W,0,x,h=>by
  simp only[List.getElem?_cons_zero,GA]at h
  subst h;exact⟨rfl,rfl⟩
 |y::W,b+1,x,h=>by
  have:=Ghl W b x (by simpa using h)
  rw[Yt,Nat.add_mul]
  exact this
theorem XK:∀(W:List (Int×Int))(j:Nat),(Zf W).take (j*2)=Zf (W.take j)
 |[],j=>by simp[Zf]
 |x::W,0=>by simp[Zf]
 |x::W,j+1=>by
  rw[Yt,show(j+1)*2=j*2+1+1 by omega,List.take_succ_cons,List.take_succ_cons,XK W j];rfl
theorem Wd:∀(W:List (Int×Int))(j:Nat),(Zf W).drop (j*2)=Zf (W.drop j)
 |[],j=>by simp[Zf]
 |x::W,0=>by simp[Zf]
 |x::W,j+1=>by
  rw[Yt,Nat.add_mul,List.drop_succ_cons]
  exact Wd W j
theorem Gc0:∀(W:List (Int×Int))(b:Nat)(x:Int×Int)(y:Int),W[b]?=some x→(Zf W).set (b*2+1) (.i y)=Zf (W.set b (x.1,y))
 |[],b,x,y,h=>by simp at h
 |z::W,0,x,y,h=>by
  simp only[List.getElem?_cons_zero,GA]at h
  subst h;rfl
 |z::W,b+1,x,y,h=>by
  have:=Gc0 W b x y (by simpa using h)
  rw[Yt,show(b+1)*2+1=b*2+1+1+1 by omega,List.set_cons_succ,List.set_cons_succ,this];rfl
theorem QL.len{k:Nat}{H:Gb}{v:CV}{W:List (Int×Int)}(h:QL k H v W)(H':Gb):Vs v H'=some (.i W.length,H'):=At.len h H'
theorem QL.leaf{k:Nat}{H:Gb}{v:CV}{W:List (Int×Int)}(h:QL k H v W):Go.Cs.leaf v=true:=At.leaf h
theorem QL.at{k:Nat}{H:Gb}{v:CV}{W:List (Int×Int)}(h:QL k H v W){i:Nat}{x:Int×Int}(hi:W[i]?=some x):
  ∃b,(∀H',JU 2 v (.i i) H'=some (.ptr b (i*2),H'))∧YV 2 v (.i i)=okV (.ptr b (i*2))∧H[b]?=some ⟨Zf W,.rw,2⟩∧(Zf W)[i*2]?=some (.i x.1)∧(Zf W)[i*2+1]?=some (.i x.2)∧k≤b∧
   QL k (H.set b ⟨Zf (W.set i x),.rw,2⟩) v (W.set i x)∧∀y,QL k (H.set b ⟨Zf (W.set i (x.1,y)),.rw,2⟩) v (W.set i (x.1,y)):=by
 have hl:=Gf hi
 obtain⟨q1,q2⟩:=Ghl W i x hi
 rcases h with⟨h1,-⟩|⟨b,tl,rfl,h1,h2,h3⟩
 ·omega
 ·have key:∀z,QL k (H.set b ⟨Zf (W.set i z),.rw,2⟩) (.slice b 0 W.length W.length 2 tl) (W.set i z):=fun z=>by
   refine .inr ⟨b,tl,by rw[List.length_set],h1,?_,Bc _⟩
   grind
  refine⟨b,fun H'=>?_,?_,h2,q1,q2,(Gm.1 h1).1,key _,fun y=>key _⟩
  ·rw[Uq oM];simp
  ·rw[Yk oM];simp
theorem QL.keeps{k:Nat}{H H':Gb}{v:CV}{W:List (Int×Int)}(h:QL k H v W){w:Nat→Prop}(g:Keeps H H' w)(hw:∀c,w c→c<k):QL k H' v W:=by
 rcases h with h|⟨b,tl,e,h1,h2,h3⟩
 ·exact .inl h
 ·refine .inr ⟨b,tl,e,h1,?_,h3⟩
  rw[g.keep b (Gf h2) (fun h=>by have:=hw _ h;have:=(Gm.1 h1).1;omega),h2]
end Go.Cs
namespace Go.Cs.Tryz
open Go Go.Cs
section
variable {H : Gb}
theorem Gl7{k:Nat}{v:CV}{W:List (Int×Int)}(h:QL k H v W)(hl:W.length≤1000){id:Int}{E0:Env}(h12:E0 12=v)(h16:E0 16=.i id)(h20:E0 20=.i (-1))(h21:E0 21=.i 0){r:Option (CX×Env×Gb)}(hr:den P (.loop Gfm) E0 H=r):
  ∃E',r=some (.exit 2,E',H)∧((E' 20=.i (-1)∧∀x∈W,x.1≠id)∨∃(i:Nat)(x:Int×Int),E' 20=.i i∧W[i]?=some x∧x.1=id)∧∀t,t∉wr Gfm→E' t=E0 t:=by
 obtain⟨x',E',H',e,-,⟨rfl,rfl,g⟩,fr⟩:=Gs (p:=P) (c:=Gfm) (E0:=E0) (H0:=H)
  (fun q E H'=>H'=H∧∃j:Nat,E 21=.i j∧j≤W.length∧q=W.length-j∧((E 20=.i (-1)∧∀i x,i<j→W[i]?=some x→x.1≠id)∨∃(i:Nat)(x:Int×Int),E 20=.i i∧W[i]?=some x∧x.1=id))
  (fun x' E' H'=>x'=.exit 2∧H'=H∧((E' 20=.i (-1)∧∀x∈W,x.1≠id)∨∃(i:Nat)(x:Int×Int),E' 20=.i i∧W[i]?=some x∧x.1=id)) (by
   rintro q E H' hE ⟨rfl,j,e21,hj,rfl,hd⟩
   have e12:=(hE 12 dK).trans h12
   have e16:=(hE 16 dK).trans h16
   have hvl:=h.len H'
   by_cases c:j<W.length
   ·have c':decide ((j:Int)<(W.length:Int))=true:=G7 oM
    have hx:W[j]?=some W[j]:=JG c
    obtain⟨x,hxe⟩:∃x,x=W[j]:=⟨_,rfl⟩
    rw[←hxe]at hx
    obtain⟨b,i1,-,i3,i4,-,-,-,-⟩:=h.at hx
    have w1:IntKind.i64.wrap ((j:Int)+1)=((j+1:Nat):Int):=Gh oM
    have ldb:ld H'[b]? (j*2)=some (.i x.1):=by rw[i3,Qm,i4]
    by_cases e:x.1=id
    ·have e':(x.1==id)=true:=beq_iff_eq.2 e
     apply Gp (k':=W.length-(j+1))
     ·refine W10 e12 e16 e21 hvl c' i1 i3 i4 e' w1 ?_
      rfl
     ·omega
     ·exact⟨rfl,j+1,uA,oM,rfl,.inr ⟨j,x,uA,hx,e⟩⟩
    ·have e':(x.1==id)=false:=UF.2 e
     apply Gp (k':=W.length-(j+1))
     ·refine W10 e12 e16 e21 hvl c' i1 i3 i4 e' w1 ?_
      rfl
     ·omega
     ·refine⟨rfl,j+1,uA,oM,rfl,?_⟩
      rcases hd with⟨q1,q2⟩|⟨i,y,q1,q2⟩
      ·refine .inl ⟨by simp[Gg,q1],fun i y hi hy=>?_⟩
       grind
      ·exact .inr ⟨i,y,by simp[Gg,q1],q2⟩
   ·have c':decide ((j:Int)<(W.length:Int))=false:=G5 oM
    apply Gj (x:=.exit 2)
    ·refine WX ?_
     rfl
    ·simp
    ·refine⟨rfl,rfl,?_⟩
     rcases hd with⟨q1,q2⟩|⟨i,y,q1,q2⟩
     ·refine .inl ⟨by simp[Gg,q1],fun y hy=>?_⟩
      obtain⟨i,hi⟩:=List.mem_iff_getElem?.1 hy
      grind
     ·exact .inr ⟨i,y,by simp[Gg,q1],q2⟩) _ ⟨rfl,0,h21,oM,rfl,.inl ⟨h20,fun i x hi=>by omega⟩⟩
 exact⟨E',hr.symm.trans e,g,fr⟩
end
end Go.Cs.Tryz

namespace Go.Cs.Tryz
open Go Go.Cs
section
variable {H0 H : Gb} {hb : Nat} {s : Hp} {L : G6} {head : Int} {C : List (List JY)} {W : List (Int × Int)} {A : List Int} {n sb : Nat} {v1 v9 : CV} {rs : List (List CV)} {cs : List CV}
structure Row(H0:Gb)(hb:Nat)(L:G6)(A:List Int)(sb:Nat)(v1 v9:CV)(rs:List (List CV))(cs:List CV):Prop where
 lt:∀c∈L.all hb,c<H0.length
 rows:∀X,Keeps H0 X (·∈L.all hb)→Sl X v1 3 rs
 u8:TS 3 rs
 sc:∀X,Keeps H0 X (·∈L.all hb)→X[sb]?=some ⟨.ptr hb 0::cs,.rw,0⟩
 li:∀X,Keeps H0 X (·∈L.all hb)→LI X v9 A
 pos:0<A.length∧A.length≤100000
theorem GeS(R:Row H0 hb L A sb v1 v9 rs cs)(p:PH H hb s L)(t:TB s head C W A n)(hn:n≤1000){v:CV}(q:QL H0.length H v W)(kp:Keeps H0 H (·∈L.all hb)){j:Nat}(hj:j<rs.length)(hj4:j<40)(hW:W.length≤j)
  {E:Env}(e1:E 1=v1)(e8:E 8=.ptr sb 0)(e9:E 9=v9)(e10:E 10=.i head)(e12:E 12=v)(e13:E 13=.i j):
  ∃x E' H' s' C' W' v',den P GdV E H=some (x,E',H')∧Keeps H0 H' (·∈L.all hb)∧PH H' hb s' L∧TB s' head C' W' A (n+1)∧QL H0.length H' v' W'∧
   ((x=.normal∧E' 12=v'∧E' 13=.i ((j+1:Nat):Int)∧W'.length≤j+1)∨(x=.ret∧W'.length≤j∧E' 4=.ptr sb 0∧E' 5=.i head∧E' 6=v'∧E' 7=.bool true)):=by
 have c':decide ((j:Int)<(rs.length:Int))=true:=G7 oM
 have c2':decide ((j:Int)<40)=true:=G7 oM
 have hR:=R.rows H kp
 have hl:=hR.len H
 obtain⟨row,hrow⟩:∃row,rs[j]?=some row:=⟨_,JG hj⟩
 obtain⟨zs,hz,rfl,hzb⟩:=R.u8.at hrow
 match zs,hz with
 |[y0,y1,y2],_=>
  have z0:=hzb y0 sM
  have z1:=hzb y1 sM
  have z2:=hzb y2 sM
  obtain⟨vo,hml,hmi,XH⟩:=hR.row oM hrow
  have l0:ld H[Gn v1]? vo=some (.int .u8 y0):=(XH H rfl).2 0 y0 rfl
  have l1:=(XH H rfl).2 1 y1 rfl
  have l2:=(XH H rfl).2 2 y2 rfl
  have w1:IntKind.i64.wrap y1=y1:=Gh oM
  have w2:IntKind.i64.wrap y2=y2:=Gh oM
  have wj:IntKind.i64.wrap ((j:Int)+1)=((j+1:Nat):Int):=Gh oM
  have hA:=R.li H kp
  have hAl:=hA.len H
  have hpos:=R.pos
  have hnz:¬((A.length:Int)=0):=by omega
  have md:∀y:Int,0≤y→y.tmod (A.length:Int)=((y.toNat % A.length:Nat):Int):=fun y hy=>by
   grind
  have ix:∀y:Int,∃a b o,A[y.toNat % A.length]?=some a∧(∀X,JU 1 v9 (.i ((y.toNat % A.length:Nat):Int)) X=some (.ptr b o,X))∧ld H[b]? o=some (.i a):=fun y=>by
   have hlt:y.toNat % A.length<A.length:=Nat.mod_lt _ hpos.1
   obtain⟨b,o,i1,-,i3⟩:=hA.at (JG hlt)
   exact⟨_,b,o,JG hlt,i1,i3 H (Keeps.refl _ _)⟩
  have m1:=md y1 z1.1
  have m2:=md y2 z2.1
  obtain⟨key,b1,o1,k1,k2,k3⟩:=ix y1
  obtain⟨vv,b2,o2,v1',v2',v3'⟩:=ix y2
  obtain⟨bz,hbz⟩:∃b,decide (y2<200)=b:=⟨_,rfl⟩
  have hkey:=t.al key (JV k1)
  have hvv:=t.al vv (JV v1')
  obtain⟨id,hid⟩:∃id,GQ s.vw key=some id:=by
   rw[←Nk,Option.isSome_iff_exists]at hkey;exact hkey
  have kl:=t.gd.ok.has_lt hkey
  have vl:=t.gd.ok.has_lt hvv
  have hi1:=NS p t.gd.ok key oM
  have hi2:=NS p t.gd.ok vv oM
  have hi3:=NS p t.gd.ok 0 oM
  rw[Hp.Ew]at hi1 hi2 hi3
  rw[hid]at hi1
  unfold Q9 at hi1 hi2 hi3
  have sc:=R.sc H kp
  have m6:y0.tmod 6=y0 % 6:=Int.tmod_eq_emod_of_nonneg z0.1
  obtain⟨kk,hkk⟩:∃kk,kk=y0 % 6:=⟨_,rfl⟩
  rw[←hkk]at m6
  have ltk:∀c,c∈L.all hb→c<H0.length:=R.lt
  have hnil:s.has 0=false:=t.gd.h0
  cases bz
  all_goals
   refine WX ?_
   generalize hr:den P (.loop Gfm) _ _=r
   obtain⟨F,rfl,hw,fr⟩:=Gl7 q oM (id:=id) (by simp[Gg,e12]) uA uA uA hr
   have f1:=fr 1 dK
   have f8:=fr 8 dK
   have f10:=fr 10 dK
   have f12:=fr 12 dK
   have f13:=fr 13 dK
   have f14:=fr 14 dK
   have f15:=fr 15 dK
   have f16:=fr 16 dK
   have f18:=fr 18 dK
   simp only[Gg,Nat.reduceEqDiff,↓reduceIte,e1,e8,e10,e12,e13]at f1 f8 f10 f12 f13 f14 f15 f16 f18
   obtain⟨val,g15,g18,hval,hvl⟩:∃val,F 15=.i val∧F 18=.i ((GQ s.vw val).getD 0)∧(val=0∨s.has val=true)∧val≤9223372036854775807:=by
    first
    |exact⟨vv,f15,by rw[f18];cases GQ s.vw vv<;>rfl,.inr hvv,oM⟩
    |exact⟨0,f15,by rw[f18];cases GQ s.vw 0<;>rfl,.inl rfl,oM⟩
   clear fr f15 f18
   by_cases hk4:kk<4
   ·have d4:decide (kk<4)=true:=G7 hk4
    rcases hw with⟨f20,hno⟩|⟨i,x,f20,hx,hxe⟩
    ·obtain⟨H1,a,e,s1,C1,W1,r1,g1,p1,t1,hc⟩:=Gix t p hid hval hno oM
     have r1':run P 36 [.ptr hb 0,.i head,.i key,.i val,.int .i64 0] H=some (.Jk [.i a,.i e],H1):=r1
     have q1:=q.keeps g1 ltk
     rcases hc with⟨rfl,rfl⟩|⟨rfl,ha,rfl⟩
     ·simp(disch:=first|exact dz|fail) only[simprocAttr,Gx,↓reduceIte,f1,f8,f10,f12,f13,f14,g15,hml,l0,GD,m6,d4,sc,beq_self_eq_true,r1']
      exact⟨_,_,_,_,_,_,_,rfl,kp.trans g1,p1,t1,q1,.inr ⟨rfl,hW,uA,uA,uA,uA⟩⟩
     ·have a0:(a==0)=false:=UF.2 ha
      simp(disch:=first|exact dz|fail) only[simprocAttr,Gx,↓reduceIte,f1,f8,f10,f12,f13,f14,g15,f16,g18,f20,hml,l0,GD,m6,d4,sc,beq_self_eq_true,r1',a0]
      obtain⟨Y,hY⟩:∃Y:Gb,Y=H1++[⟨[.i id,.i ((GQ s.vw val).getD 0)],.rw,2⟩]:=⟨_,rfl⟩
      have gY:Gr H1 Y:=by rw[hY];exact Gr.app _ _
      have qY:=q1.keeps gY fun _ h=>h.elim
      have el:=At.elems qY (H':=Y) fun c h=>rfl
      have lk:=kp.len
      have lk1:=g1.len
      obtain⟨v',H2,a1,b1,k1⟩:=LL.cat (k:=H0.length) (e:=2) (n:=1) (q:=W.length) (H:=Y) (v:=.slice H1.length 0 1 1 2 false) (cs:=[.i id,.i ((GQ s.vw val).getD 0)]) (new:=Zf W)
       (.inr ⟨H1.length,false,rfl,Gm.2 ⟨oM,rfl⟩,by rw[hY];simp,rfl⟩) (by have:=gY.len;omega) oM (DN W) (Bc W)
      have kk2:Keeps H1 H2 (fun c=>H0.length≤c):=(gY.weaken fun _ h=>h.elim).trans k1
      have kp2:Keeps H0 H2 (·∈L.all hb):=⟨by have:=kk2.len;omega,fun c hc hn=>by rw[kk2.keep c oM oM,(kp.trans g1).keep c hc hn]⟩
      rw[←hY]
      simp(disch:=first|exact dz|fail) only[simprocAttr,Gx,↓reduceIte,f13,el,a1,wj]
      exact⟨_,_,_,_,_,_,_,rfl,kp2,p1.frame fun c hc=>kk2.keep c (by have:=ltk c hc;omega) (by have:=ltk c hc;omega),t1,by
       show At (Loc H0.length) z3 H2 v' 2 (W.length+1) (.i id::.i ((GQ s.vw val).getD 0)::Zf W)
       rw[Nat.add_comm];exact b1,.inl ⟨rfl,uA,uA,by simp only[List.length_cons];omega⟩⟩
    ·obtain⟨H1,s1,C1,r1,g1,p1,t1⟩:=Xh t p hid hval hx hxe
     have r1':run P 36 [.ptr hb 0,.i head,.i key,.i val,.int .i64 0] H=some (.Jk [.i 0,.i 0],H1):=r1
     have q1:=q.keeps g1 ltk
     obtain⟨b,i1,-,i3,-,-,i6,-,i8⟩:=q1.at hx
     have ci:decide ((0:Int)≤(i:Int))=true:=G7 oM
     simp(disch:=first|exact dz|fail) only[simprocAttr,Gx,↓reduceIte,f1,f8,f10,f12,f13,f14,g15,g18,f20,hml,l0,GD,m6,d4,sc,beq_self_eq_true,r1',ci,i1]
     have lk1:=Gf i3
     have lt1:=Gf hx
     have st:I_ H1 b (some ⟨Zf W,.rw,2⟩) (i*2+1) [.i ((GQ s.vw val).getD 0)]=some (H1.set b ⟨Zf (W.set i (x.1,(GQ s.vw val).getD 0)),.rw,2⟩):=by
      rw[Ro rfl (by rw[Bc];omega),Gc0 W i x _ hx]
     have kb:Keeps H1 (H1.set b ⟨Zf (W.set i (x.1,(GQ s.vw val).getD 0)),.rw,2⟩) (fun c=>H0.length≤c):=Keeps.set (w:=fun c=>H0.length≤c) (Keeps.refl _ _) (.inl i6) _
     simp(disch:=first|exact dz|fail) only[simprocAttr,Gx,↓reduceIte,f13,i3,st,wj]
     exact⟨_,_,_,_,_,_,_,rfl,⟨by grind,fun c hc hn=>by rw[kb.keep c (by have:=(kp.trans g1).len;omega) oM,(kp.trans g1).keep c hc hn]⟩,
      p1.frame fun c hc=>kb.keep c (p1.lt c hc) (by have:=ltk c hc;omega),t1,by rw[←hxe];exact i8 _,.inl ⟨rfl,by simp[Gg,f12],uA,by rw[List.length_set];omega⟩⟩
   ·have d4:decide (kk<4)=false:=G5 hk4
    by_cases hk5:kk=4
    ·have d5:(kk==4)=true:=beq_iff_eq.2 hk5
     rcases hw with⟨f20,hno⟩|⟨i,x,f20,hx,hxe⟩
     ·obtain⟨H1,r1,g1,p1⟩:=SA t p hid hno
      simp(disch:=first|exact dz|fail) only[simprocAttr,Gx,↓reduceIte,f1,f8,f10,f13,f14,f20,hml,l0,GD,m6,d4,d5,sc,wj,beq_self_eq_true,r1]
      exact⟨_,_,_,_,_,_,_,rfl,kp.trans g1,p1,t.mono,q.keeps g1 ltk,.inl ⟨rfl,by simp[Gg,f12],uA,oM⟩⟩
     ·obtain⟨H1,s1,C1,r1,g1,p1,t1⟩:=Gi1 t p hid hx hxe
      have ci:decide ((0:Int)≤(i:Int))=true:=G7 oM
      simp(disch:=first|exact dz|fail) only[simprocAttr,Gx,↓reduceIte,f1,f8,f10,f12,f13,f14,f20,hml,l0,GD,m6,d4,d5,sc,beq_self_eq_true,r1,ci]
      have q1:=q.keeps g1 ltk
      have lx:=Gf hx
      obtain⟨tl,hv,ho,hcell,Gn1⟩:=At.pos q1 oM
      have qo:At (only (Gn v)) z3 H1 v 2 W.length (Zf W):=.inr ⟨Gn v,tl,hv,Js.2 ⟨rfl,rfl⟩,hcell,Gn1⟩
      have frm:∀X,Keeps H1 X (fun c=>H1.length≤c)→∀c,only (Gn v) c=some z3→X[c]?=H1[c]?:=fun X kX c h=>by
       obtain⟨rfl,-⟩:=Js.1 h
       exact kX.keep _ (Gf hcell) (by have:=Gf hcell;omega)
      have wi:IntKind.i64.wrap ((i:Int)+1)=((i+1:Nat):Int):=Gh oM
      obtain⟨u1,sl1,el1⟩:=At.lo qo (j:=i) oM
      obtain⟨u2,sl2,el2⟩:=At.hi qo (j:=i+1) oM
      obtain⟨Y,hY⟩:∃Y:Gb,Y=H1++[⟨[],.rw,2⟩]:=⟨_,rfl⟩
      have gY:Gr H1 Y:=by rw[hY];exact Gr.app _ _
      have kY:Keeps H1 Y (fun c=>H1.length≤c):=gY.weaken fun _ h=>h.elim
      have x1:=el1 Y (frm Y kY)
      rw[XK]at x1
      obtain⟨u3,X1,a1,b1,k1⟩:=LL.cat (k:=H1.length) (e:=2) (n:=0) (q:=i) (H:=Y) (v:=.slice H1.length 0 0 0 2 false) (cs:=[]) (new:=Zf (W.take i))
       (.inl ⟨rfl,rfl,.inr ⟨_,_,rfl⟩⟩) gY.len oM (DN _) (by rw[Bc,List.length_take];omega)
      have x2:=el2 X1 (frm X1 (kY.trans k1))
      rw[Wd]at x2
      obtain⟨u4,X2,a2,b2,k2⟩:=LL.cat (q:=W.length-(i+1)) (new:=Zf (W.drop (i+1))) b1 (kY.trans k1).len oM (DN _) (by rw[Bc,List.length_drop])
      have kk2:Keeps H1 X2 (fun c=>H1.length≤c):=(kY.trans k1).trans k2
      have lk:=(kp.trans g1).len
      have kp2:Keeps H0 X2 (·∈L.all hb):=⟨by have:=kk2.len;omega,fun c hc hn=>by rw[kk2.keep c oM oM,(kp.trans g1).keep c hc hn]⟩
      simp(disch:=first|exact dz|fail) only[simprocAttr,Gx,↓reduceIte,sl1]
      rw[←hY]
      simp(disch:=first|exact dz|fail) only[simprocAttr,Gx,↓reduceIte,f13,f20,wi,wj,sl2,x1,a1,x2,a2]
      exact⟨_,_,_,_,_,_,_,rfl,kp2,p1.frame fun c hc=>kk2.keep c (p1.lt c hc) (by have:=p1.lt c hc;omega),t1,by
       show At (Loc H0.length) z3 X2 u4 2 (W.take i++W.drop (i+1)).length (Zf (W.take i++W.drop (i+1)))
       rw[GiQ,QU,List.length_take,List.length_drop,show min i W.length=0+i by omega]
       exact b2.frame (fun c h=>Gm.2 ⟨by have:=(Gm.1 h).1;omega,(Gm.1 h).2⟩) fun c h=>rfl,.inl ⟨rfl,uA,uA,by grind⟩⟩
    ·have d5:(kk==4)=false:=UF.2 hk5
     rcases hw with⟨f20,hno⟩|⟨i,x,f20,hx,hxe⟩
     ·obtain⟨H1,r1,g1⟩:=Tk t p hid hno
      have sc1:=R.sc H1 (kp.trans (Keeps.weaken g1 fun _ h=>h.elim))
      have hi0:=NS (p.gr g1) t.gd.ok 0 oM
      unfold Q9 at hi0
      simp(disch:=first|exact dz|fail) only[simprocAttr,Gx,↓reduceIte,f1,f8,f10,f13,f14,f20,hml,l0,GD,m6,d4,d5,sc,wj,r1,sc1,hi0]
      exact⟨_,_,_,_,_,_,_,rfl,kp.trans (Keeps.weaken g1 fun _ h=>h.elim),p.gr g1,t.mono,q.keeps g1 fun _ h=>h.elim,.inl ⟨rfl,by simp[Gg,f12],uA,oM⟩⟩
     ·obtain⟨H1,v',r1,g1,hv1,hv2⟩:=GcS t p hid (JV hx) hxe
      have ci:decide ((0:Int)≤(i:Int))=true:=G7 oM
      have sc1:=R.sc H1 (kp.trans (Keeps.weaken g1 fun _ h=>h.elim))
      have hi0:=NS (p.gr g1) t.gd.ok v' hv2
      obtain⟨e2,he2⟩:∃e2,s.Nw v'=(x.2,e2):=by
       rw[Hp.Ew,←hv1]
       cases GQ s.vw v'<;>exact⟨_,rfl⟩
      rw[he2]at hi0
      unfold Q9 at hi0
      have q1:=q.keeps g1 fun _ h=>h.elim
      obtain⟨b,i1,i2,i3,-,i5,-,-⟩:=q1.at hx
      have ldb:ld H1[b]? (i*2+1)=some (.i x.2):=by rw[i3,Qm,i5]
      have Grz:ld (some (⟨Zf W,.rw,2⟩:JD)) (i*2+1)=some (.i x.2):=by rw[Qm,i5]
      simp(disch:=first|exact dz|fail) only[simprocAttr,Gx,↓reduceIte,f1,f8,f10,f12,f13,f14,f20,hml,l0,GD,m6,d4,d5,sc,wj,r1,ci,sc1,hi0,i1,i3,Grz,bne_self_eq_false]
      exact⟨_,_,_,_,_,_,_,rfl,kp.trans (Keeps.weaken g1 fun _ h=>h.elim),p.gr g1,t.mono,q1,.inl ⟨rfl,by simp[Gg,f12],uA,oM⟩⟩
end
end Go.Cs.Tryz

namespace Go.Cs
open Go
theorem TB.le{s:Hp}{head:Int}{C:List (List JY)}{W:List (Int×Int)}{A:List Int}{n m:Nat}(t:TB s head C W A n)(h:n≤m):TB s head C W A m:=⟨t.gd,t.tb,t.wn,Jm t.bo h,t.al⟩
end Go.Cs
namespace Go.Cs.Tryz
open Go Go.Cs
section
variable {H0 : Gb} {hb : Nat} {s : Hp} {L : G6} {head : Int} {C : List (List JY)} {A : List Int} {n sb : Nat} {v1 v9 : CV} {rs : List (List CV)} {cs : List CV}
theorem Gm9(R:Row H0 hb L A sb v1 v9 rs cs)(p:PH H0 hb s L)(t:TB s head C [] A n)(hn:n≤900)
  {E0:Env}(h1:E0 1=v1)(h8:E0 8=.ptr sb 0)(h9:E0 9=v9)(h10:E0 10=.i head)(h12:E0 12=.Gc)(h13:E0 13=.i 0){r:Option (CX×Env×Gb)}(hr:den P (.loop GdV) E0 H0=r):
  ∃x E' H' s' C' W' v',r=some (x,E',H')∧Keeps H0 H' (·∈L.all hb)∧PH H' hb s' L∧TB s' head C' W' A 1000∧QL H0.length H' v' W'∧W'.length≤40∧
   ((x=.exit 0∧E' 12=v')∨(x=.ret∧E' 4=.ptr sb 0∧E' 5=.i head∧E' 6=v'∧E' 7=.bool true))∧∀t,t∉wr GdV→E' t=E0 t:=by
 obtain⟨x',E',H',e,-,⟨s',C',W',v',f1,f2,f3,f4,f5,f6⟩,fr⟩:=Gs (p:=P) (c:=GdV) (E0:=E0) (H0:=H0)
  (fun q E H=>∃(j:Nat)(s:Hp)(C:List (List JY))(W:List (Int×Int))(v:CV),E 13=.i j∧j≤40∧q=40-j∧Keeps H0 H (·∈L.all hb)∧PH H hb s L∧TB s head C W A (n+j)∧QL H0.length H v W∧W.length≤j∧E 12=v)
  (fun x E' H'=>∃(s':Hp)(C':List (List JY))(W':List (Int×Int))(v':CV),Keeps H0 H' (·∈L.all hb)∧PH H' hb s' L∧TB s' head C' W' A 1000∧QL H0.length H' v' W'∧W'.length≤40∧
   ((x=.exit 0∧E' 12=v')∨(x=.ret∧E' 4=.ptr sb 0∧E' 5=.i head∧E' 6=v'∧E' 7=.bool true))) (by
   rintro q E H hE ⟨j,s,C,W,v,e13,hj,rfl,kp,p,t,ql,hW,e12⟩
   have e1:=(hE 1 dK).trans h1
   have e8:=(hE 8 dK).trans h8
   have e9:=(hE 9 dK).trans h9
   have e10:=(hE 10 dK).trans h10
   have hl:=(R.rows H kp).len H
   by_cases c:j<rs.length
   ·by_cases c2:j<40
    ·obtain⟨x,E',H',s',C',W',v',d,g1,g2,g3,g4,g5⟩:=GeS R p t oM ql kp c c2 hW e1 e8 e9 e10 e12 e13
     rcases g5 with⟨rfl,g5,g6,g7⟩|⟨rfl,g5,g6⟩
     ·exact Gp d (k':=40-(j+1)) oM ⟨j+1,s',C',W',v',g6,oM,rfl,g1,g2,g3,g4,g7,g5⟩
     ·exact Gj (x:=.ret) d sM ⟨s',C',W',v',g1,g2,g3.le oM,g4,oM,.inr ⟨rfl,g6⟩⟩
    ·have c':decide ((j:Int)<(rs.length:Int))=true:=G7 oM
     have c2':decide ((j:Int)<40)=false:=G5 oM
     apply Gj (x:=.exit 0)
     ·refine WX ?_
      rfl
     ·simp
     ·exact⟨s,C,W,v,kp,p,t.le oM,ql,oM,.inl ⟨rfl,by simp[Gg,e12]⟩⟩
   ·have c':decide ((j:Int)<(rs.length:Int))=false:=G5 oM
    apply Gj (x:=.exit 0)
    ·refine WX ?_
     rfl
    ·simp
    ·exact⟨s,C,W,v,kp,p,t.le oM,ql,oM,.inl ⟨rfl,by simp[Gg,e12]⟩⟩) _ ⟨0,s,C,[],.Gc,h13,oM,rfl,Keeps.refl _ _,p,t,LL.nil,Nat.le_refl _,h12⟩
 grind
end
end Go.Cs.Tryz
namespace Go.Cs.Tryz
open Go Go.Cs A
abbrev Gdt:Gq:=S (T [m 34 9,m 35 2,le 36 35,b 37 .lss 34 36] (J 37 (X 0))) (S (B 1 (S (D [⟨m 41 0,0,0,0⟩,⟨z 42 41,1,0,0⟩,⟨f 43 0 42,2,0,0⟩,⟨l 44 1 43,3,1,0⟩,⟨m 45 2,4,0,0⟩,⟨m 46 9,5,0,0⟩,⟨x 47 2 45 46,6,0,0⟩,⟨f 48 0 47,7,0,0⟩,⟨l 49 1 48,8,1,0⟩,⟨q2 50 26 44 49,9,3,0⟩,⟨m 40 50,10,0,1⟩,⟨ex 51 40 0,11,0,1⟩,⟨ex 52 40 1,12,0,1⟩,⟨m 10 51,13,0,1⟩,⟨m 11 52,14,0,1⟩]) (T [m 54 0,z 55 54,f 56 0 55,l 57 1 56,m 58 1,m 59 10,q3 60 38 57 58 59,m 53 60,ex 61 53 0,ex 62 53 1,m 12 61,m 13 62] (T [m 64 0,z 65 64,f 66 0 65,l 67 1 66,m 68 12,q2 69 35 67 68,m 63 69,ex 70 63 0,ex 71 63 1,m 14 70,m 15 71] (T [m 72 11,bk 73 .neq 72 0,m 74 73,gf 74 (m 75 13),gf 74 (bk 76 .neq 75 0),or 77 74 76,m 78 77,gf 78 (m 79 14),gf 78 (m 80 2),gf 78 (m 81 9),gf 78 (x 82 2 80 81),gf 78 (f 83 1 82),gf 78 (l 84 1 83),gf 78 (b 85 .neq 79 84),or 86 78 85] (I 86 (Q [nb 6 false]))))))) (R [m 38 9,bk 39 .add 38 1,m 9 39]))
def C9:Gl:=⟨87,0,T [nb 6 false] (T [m 17 0,z 18 17,f 19 0 18,l 20 1 19,m 21 1,q2 22 39 20 21,m 16 22,ex 23 16 0,ex 24 16 1,m 7 23,m 8 24] (S (T [m 25 8,bk 26 .neq 25 0,m 27 26,gf 27 (m 28 7),gf 27 (le 29 28),gf 27 (m 30 2),gf 27 (le 31 30),gf 27 (b 32 .neq 29 31),or 33 27 32] (I 33 (Q [nb 6 false]))) (S (T [n 9 0] (B 0 (W Gdt))) (Q [nb 6 true])))),[r 6]⟩
theorem c9:P 9=some C9:=by kernel_rfl
end Go.Cs.Tryz
