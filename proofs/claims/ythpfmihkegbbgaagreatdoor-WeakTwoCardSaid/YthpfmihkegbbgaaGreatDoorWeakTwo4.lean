/- A part of the proof: WeakTwo returns true for every input: Kept and Waiting return the kept objects of the document; after Clear with these no weak reference of a kept object leads to one that is not kept, and a second Clear has no effect (P19.1, P19.2) Conditions: none. -/
import Derived.Test.YthpfmihkegbbgaaGreatDoorWeakTwo3
import Derived.Test.YthpfmihkegbbgaaGreatDoorProg
import Derived.KernelRfl
set_option linter.unusedVariables false
set_option linter.unusedSimpArgs false
set_option linter.defProp false
set_option maxRecDepth 100000
namespace Go.Cs
open Go
def XN(s:Hp)(R:Rt)(a:Int):Prop:=Kp s (fun a=>a∈R.vals∧a≠0) true a
end Go.Cs
namespace Go.Cs.Tryz
open Go Go.Cs
section
variable {H : Gb}
theorem Mw{o:Tags}{sb hb rb:Nat}{c2 c3:CV}{s:Hp}{L:GD}{R:Rt}{v:Nat→CV}(hsb:H[sb]?=some ⟨[.ptr hb 0,.ptr rb 0,c2,c3],.rw,0⟩) (p:PH H hb s L) (k:s.Ok) (m:K9 o H rb R v) (kr:R.Ok):
  ∃w' H' l,run P 19 [.ptr sb 0] H=some (w',H')∧Gr H H'∧LI H' w' l∧Zj l∧∀x,x∈l↔XN s R x:=by
 obtain⟨qb,X1,o1,L1,h1,g1,m1,-⟩:=Me p k
 obtain⟨ub,X2,o2,Q,L2,h2,g2,m2,cp,-⟩:=HZ (m.gr g1) kr
 obtain⟨w3,X3,h3,g3,li3⟩:=GcV m2 cp.k
 have hq:=cp.k.Vs
 have hl:=Qv Q.vis
 obtain⟨w4,X4,l,h4,g4,li4,s4,k4⟩:=Gcy ((m1.gr g2).gr g3) k true oM li3.li
 have t1:=g1.get hsb
 have t2:=g2.get t1
 have t3:=g3.get t2
 refine⟨w4,X4,l,?_,((g1.trans g2).trans g3).trans g4,li4,s4,fun x=>?_⟩
 ·rw[Gi c19 _ _ sM]
  simp(disch:=first|exact dz|fail) only[simprocAttr,Gc,↓reduceIte,Gv,hsb,h1,t1,h2,t2,h3,t3,h4]
 ·rw[k4]
  have e:∀a,a∈Jc Q.vis↔a∈R.vals∧a≠0:=fun a=>by rw[Vz,Rt.Im,cp.vals]
  exact⟨fun h=>h.mono fun a h=>(e a).1 h,fun h=>h.mono fun a h=>(e a).2 h⟩
theorem Gi1{w1 w2:CV}{l1 l2:List Int}(h1:LI H w1 l1)(h2:LI H w2 l2)(he:l1.length=l2.length)(hn:l1.length≤100000)
  {E0:Env}(e0:E0 0=w1)(e1:E0 1=w2)(e5:E0 5=.i 0){r:Option (CX×Env×Gb)}(hr:den P (.loop MI) E0 H=r):
  (l1=l2∧∃E',r=some (.exit 0,E',H))∨(l1≠l2∧∃E',r=some (.ret,E',H)∧E' 4=.bool false):=by
 obtain⟨x',E',H',e,-,⟨rfl,q⟩,fr⟩:=Gy (p:=P) (c:=MI) (E0:=E0) (H0:=H)
  (fun q E H'=>H'=H∧∃j:Nat,E 5=.i j∧j≤l1.length∧q=l1.length-j∧l1.take j=l2.take j)
  (fun x' E' H'=>H'=H∧((l1=l2∧x'=.exit 0)∨(l1≠l2∧x'=.ret∧E' 4=.bool false))) (by
   rintro q E H' hE ⟨rfl,j,e5,hj,rfl,hp⟩
   have e0:=(hE 0 dK).trans e0
   have e1:=(hE 1 dK).trans e1
   have hv1:=h1.len H'
   have hv2:=h2.len H'
   by_cases c:j<l1.length
   ·have c':decide ((j:Int)<(l1.length:Int))=true:=GK oM
    have hx1:l1[j]?=some l1[j]:=J9 c
    have hx2:l2[j]?=some l2[j]:=J9 oM
    obtain⟨b1,f1,i1,i2,i3⟩:=h1.at hx1
    obtain⟨b2,f2,u1,u2,u3⟩:=h2.at hx2
    have V3:=i3 H' (Keeps.refl _ _)
    have u3':=u3 H' (Keeps.refl _ _)
    have w1:IntKind.i64.wrap ((j:Int)+1)=((j+1:Nat):Int):=Gh oM
    by_cases hne:l1[j]=l2[j]
    ·have hne':(l1[j] != l2[j])=false:=by rw[hne];simp
     apply Gt (k':=l1.length-(j+1))
     ·simp(disch:=first|exact dz|fail) only[simprocAttr,Gc,↓reduceIte,MI,e0,e1,e5,hv1,c',i1,i2,V3,u1,u2,u3',hne',w1]
      rfl
     ·omega
     ·exact⟨rfl,j+1,uA,oM,rfl,by rw[QL,QL,hp,hx1,hx2,hne]⟩
    ·have hne':(l1[j] != l2[j])=true:=by simpa using hne
     apply Gl (x:=.ret)
     ·simp(disch:=first|exact dz|fail) only[simprocAttr,Gc,↓reduceIte,MI,e0,e1,e5,hv1,c',i1,i2,V3,u1,u2,u3',hne']
      rfl
     ·simp
     ·exact⟨rfl,.inr ⟨fun h=>hne (by subst h;rfl),rfl,uA⟩⟩
   ·have c':decide ((j:Int)<(l1.length:Int))=false:=GC oM
    rw[NW oM,NW oM]at hp
    apply Gl (x:=.exit 0)
    ·simp(disch:=first|exact dz|fail) only[simprocAttr,Gc,↓reduceIte,MI,e0,e5,hv1,c']
     rfl
    ·simp
    ·exact⟨rfl,.inl ⟨hp,rfl⟩⟩) _ ⟨rfl,0,e5,oM,rfl,sM⟩
 rcases q with⟨q1,rfl⟩|⟨q1,rfl,q2⟩
 ·exact .inl ⟨q1,E',hr.symm.trans e⟩
 ·exact .inr ⟨q1,E',hr.symm.trans e,q2⟩
theorem Y9{w1 w2:CV}{l1 l2:List Int}(h1:LI H w1 l1)(h2:LI H w2 l2)(hn:l1.length≤100000):run P 20 [w1,w2] H=some (.bool (decide (l1=l2)),H):=by
 have hv1:=h1.len H
 have hv2:=h2.len H
 rw[Gi c20 _ _ sM]
 by_cases c:l1.length=l2.length
 ·have c':((l1.length:Int) != (l2.length:Int))=false:=by rw[c];simp
  simp(disch:=first|exact dz|fail) only[simprocAttr,Gc,↓reduceIte,Gj,hv1,hv2,c']
  generalize hr:den P (.loop MI) _ _=r
  rcases Gi1 h1 h2 c hn uA uA uA hr with⟨q1,E',rfl⟩|⟨q1,E',rfl,q2⟩
  ·rw[GK q1]
   simp(disch:=first|exact dz|fail) only[simprocAttr,Gc,↓reduceIte]
  ·rw[GC q1]
   simp(disch:=first|exact dz|fail) only[simprocAttr,Gc,↓reduceIte,q2]
 ·have c':((l1.length:Int) != (l2.length:Int))=true:=bne_iff_ne.2 oM
  have hne:l1≠l2:=fun h=>c (by rw[h])
  rw[GC hne]
  simp(disch:=first|exact dz|fail) only[simprocAttr,Gc,↓reduceIte,Gj,hv1,hv2,c']
end
end Go.Cs.Tryz
namespace Go.Cs.Tryz
open Go Go.Cs A
def GoO:Gm:=⟨15,0,T [n 4 0] (T [m 8 0,m 9 1,q2 10 75 8 9,m 7 10,ex 11 7 0,ex 12 7 1,e 5 (.new [i 0,i 0,i 0]),st 3 5 11,m 6 12] (Q [f 13 2 5,l 14 1 13,m 4 14])),[r 4]⟩
theorem Gnw:P 133=some GoO:=by kernel_rfl
def Gpc:Gm:=⟨23,0,T [nb 4 false] (Q [m 5 1,bk 6 .eql 5 0,m 7 6,gt 7 (m 8 0),gt 7 (bk 9 .eql 8 1),gt 7 (m 10 9),gf 10 (m 11 0),gf 10 (bk 12 .eql 11 2),gt 7 (or 13 10 12),an 14 7 13,m 15 14,gf 15 (m 16 1),gf 15 (bk 17 .eql 16 1),gf 15 (m 18 17),gt 18 (m 19 0),gt 18 (bk 20 .eql 19 2),gf 15 (an 21 18 20),or 22 15 21,m 4 22]),[r 4]⟩
theorem Go2:P 142=some Gpc:=by kernel_rfl
def Dg:Gu:=T [b 23 .lss 22 21] (S (J 23 (X 0)) (S (B 1 (T [m 24 22,m 8 24] (T [m 26 0,m 27 1,m 28 8,q3 29 76 26 27 28,m 25 29,ex 30 25 0,ex 31 25 1,m 9 30,m 10 31] (R [m 32 7,m 33 9,e 34 (.buildSlice 1 [i 0] 1 [(0,1,t 33)]),ap 35 1 32 34,m 7 35])))) (R [bk 36 .add 22 1,m 22 36])))
def Gm0:Gm:=⟨38,0,T [e 4 (.K7 (c .Gf))] (T [m 12 0,m 13 1,q2 14 75 12 13,m 11 14,ex 15 11 0,ex 16 11 1,e 5 (.new [i 0,i 0,i 0]),st 3 5 15,m 6 16] (T [f 17 0 5,l 18 1 17,e 19 (.makeSlice 1 [i 0] (k 0) (t 18)),m 7 19] (S (T [f 20 0 5,l 21 1 20,n 22 0] (B 0 (W Dg))) (Q [m 37 7,m 4 37])))),[r 4]⟩
theorem GoW:P 223=some Gm0:=by kernel_rfl
end Go.Cs.Tryz
namespace Go.Cs
open Go
def Hp.refsOf(s:Hp)(a:Int):List Int:=match s.obj a with|some o=>o.refs|none=>[]
def Hp.Vl(s:Hp)(a:Int):Nat:=match s.obj a with|some o=>o.kd|none=>0
def EP(kd j:Nat)(l:List Int):List Int:=((l.take j).zipIdx).filterMap fun x=>if x.1≠0∧Jj kd x.2=true then some x.1 else none
theorem GbV{kd j:Nat}{l:List Int}{r:Int}(h:l[j]?=some r):EP kd (j+1) l=EP kd j l++(if r≠0∧Jj kd j=true then [r]else []):=by
 have hj:=Gd h
 unfold EP
 rw[QL,h,VT,List.zipIdx_append,List.filterMap_append]
 congr 1
 simp only[List.zipIdx_cons,List.zipIdx_nil,List.length_take,Nat.zero_add]
 rw[Nat.min_eq_left oM]
 by_cases c:r≠0∧Jj kd j=true
 ·simp[c]
 ·rw[if_neg c];simp only[List.filterMap_cons,if_neg c,List.filterMap_nil]
theorem Gfg{kd:Nat}{l:List Int}{r:Int}:r∈EP kd l.length l↔r≠0∧∃j:Nat,l[j]?=some r∧Jj kd j=true:=by
 unfold EP
 rw[List.mem_filterMap,NW (Nat.le_refl _)]
 constructor
 ·rintro ⟨⟨x,i⟩,h1,h2⟩
  rw[List.mem_zipIdx_iff_getElem?]at h1
  dsimp only at h1 h2
  split at h2
  ·rename_i c
   simp only[Gx]at h2
   subst h2
   exact⟨c.1,i,h1,c.2⟩
  ·cases h2
 ·rintro ⟨h1,j,h2,h3⟩
  exact⟨(r,j),List.mem_zipIdx_iff_getElem?.2 h2,by simp[h1,h3]⟩
theorem Md(kd j:Nat)(l:List Int):(EP kd j l).length≤l.length:=by
 unfold EP
 exact Jr (List.length_filterMap_le _ _) (by rw[List.length_zipIdx,List.length_take];omega)
theorem Hp.Ok.Ve{s:Hp}(k:s.Ok)(a:Int):(s.refsOf a).length≤15:=by
 unfold Hp.refsOf
 split
 ·rename_i o h
  exact(k.ob o (Hp.Jy h).1).nr
 ·simp
theorem Hp.B_(s:Hp)(a:Int):∃d:Nat,(s.JR a).1=Je (s.refsOf a).length d (s.Vl a):=by
 unfold Hp.JR Hp.refsOf Hp.Vl
 cases s.obj a with
 |some o=>exact⟨o.data.length,rfl⟩
 |none=>exact⟨0,rfl⟩
theorem Hp.Uw{s:Hp}{a:Int}{j:Nat}{r:Int}(h:(s.refsOf a)[j]?=some r):s.Jq a j=(r,0):=by
 have hj:=Gd h
 unfold Hp.refsOf at h hj
 unfold Hp.Jq
 split
 ·rename_i o ho
  rw[ho]at h hj
  dsimp only at h hj
  rw[if_pos oM,K6,Qc,h];rfl
 ·rename_i ho
  rw[ho]at h
  simp at h
theorem GjI{H:Gb}{b j cap:Nat}{cs:List CV}{t:Bool}{v:CV}(h:H[b]?=some ⟨cs,.rw,1⟩) (hj:j<cap) (hc:cs.length=cap) (hl:leaf v=true):
  Jv H 1 (.slice b 0 j cap 1 t) 1 [v]=some (.slice b 0 (j+1) cap 1 t,H.set b ⟨cs.set j v,.rw,1⟩):=by
 unfold Jv
 dsimp only
 rw[if_neg oM,if_pos oM,Gw,h,Nat.zero_add,Nat.mul_one,ZM hl oM]
 rfl
end Go.Cs
namespace Go.Cs.Tryz
open Go Go.Cs
section
variable {H : Gb} {hb : Nat} {s : Hp} {L : GD}
theorem LC{kd i:Nat}(hk:kd≤3):run P 142 [.i kd,.i i] H=some (.bool (!Jj kd i),H):=by
 rw[Gi Go2 _ _ sM]
 have key:∀(a b c d:Bool),a=((i:Int)==0)→b=((kd:Int)==1)→c=((kd:Int)==2)→d=((i:Int)==1)→
   (!Jj kd i)=((a&&(b||c))||(d&&c)):=by
  rintro a b c d rfl rfl rfl rfl
  unfold Jj
  by_cases k1:kd=1
  ·subst k1
   by_cases c0:i=0
   ·subst c0;rfl
   ·have:((i:Int)==0)=false:=VZ.2 oM
    have h2:decide ((0:Int)<(i:Int))=true:=GK oM
    simp[this,h2]
    omega
  ·by_cases k2:kd=2
   ·subst k2
    by_cases c0:i=0
    ·subst c0;rfl
    ·by_cases c1:i=1
     ·subst c1;rfl
     ·have e0:((i:Int)==0)=false:=VZ.2 oM
      have e1:((i:Int)==1)=false:=VZ.2 oM
      have h2:decide ((0:Int)<(i:Int))=true:=GK oM
      have h3:decide ((1:Int)<(i:Int))=true:=GK oM
      simp[e0,e1,h2,h3]
      omega
   ·have e1:((kd:Int)==1)=false:=VZ.2 oM
    have e2:((kd:Int)==2)=false:=VZ.2 oM
    have n1:((kd:Int) != 1)=true:=bne_iff_ne.2 oM
    have n2:((kd:Int) != 2)=true:=bne_iff_ne.2 oM
    simp[e1,e2,n1,n2]
 obtain⟨a,ha⟩:∃a,a=((i:Int)==0):=⟨_,rfl⟩
 obtain⟨b,hb⟩:∃b,b=((kd:Int)==1):=⟨_,rfl⟩
 obtain⟨c,hc⟩:∃c,c=((kd:Int)==2):=⟨_,rfl⟩
 obtain⟨d,hd⟩:∃d,d=((i:Int)==1):=⟨_,rfl⟩
 rw[key a b c d ha hb hc hd]
 cases a<;>cases b<;>cases c<;>cases d<;>simp(disch:=first|exact dz|fail) only[simprocAttr,Gc,↓reduceIte,Gj,←ha,←hb,←hc,←hd]<;>rfl
theorem ME(p:PH H hb s L)(k:s.Ok)(a:Int)(ha:a≤9223372036854775807):∃H',run P 133 [.ptr hb 0,.i a] H=some (.i (s.Vl a),H')∧Gr H H':=by
 obtain⟨X,h1,g1⟩:=NA p k a ha
 obtain⟨d,hd⟩:=s.B_ a
 rw[hd]at h1
 unfold Je at h1
 refine⟨X++[⟨Je (s.refsOf a).length d (s.Vl a),.rw,0⟩],?_,g1.app' _⟩
 rw[Gi Gnw _ _ sM]
 unfold Je
 simp(disch:=first|exact dz|fail) only[simprocAttr,Gc,↓reduceIte,Gj,h1]
theorem GiP(p:PH H hb s L)(k:s.Ok){a:Int}(ha:a≤9223372036854775807){n b:Nat}(hn:n=(s.refsOf a).length)(hb':b<H.length)(hno:b∉L.all hb)(tb:H[b]?=some ⟨List.replicate n (.i 0),.rw,1⟩)
  {E0:Env} (h0:E0 0=.ptr hb 0) (h1:E0 1=.i a) (h7:E0 7=.slice b 0 0 n 1 false) (h21:E0 21=.i n) (h22:E0 22=.i 0) {r:Option (CX×Env×Gb)} (hr:den P (.loop Dg) E0 H=r):
  ∃E' H',r=some (.exit 0,E',H')∧But H H' b∧E' 7=.slice b 0 n n 1 false∧H'[b]?=some ⟨ints (s.refsOf a),.rw,1⟩∧∀t,t∉wr Dg→E' t=E0 t:=by
 have hlen:=k.Ve a
 obtain⟨x',E',H',e,-,⟨rfl,g,q1,q2⟩,fr⟩:=Gy (p:=P) (c:=Dg) (E0:=E0) (H0:=H)
  (fun q E H'=>∃(j:Nat),E 22=.i j∧j≤n∧q=n-j∧But H H' b∧E 7=.slice b 0 j n 1 false∧H'[b]?=some ⟨ints ((s.refsOf a).take j)++List.replicate (n-j) (CV.i 0),.rw,1⟩)
  (fun x' E' H'=>x'=.exit 0∧But H H' b∧E' 7=.slice b 0 n n 1 false∧H'[b]?=some ⟨ints (s.refsOf a),.rw,1⟩) (by
   rintro q E H' hE ⟨j,e22,hj,rfl,g,e7,t⟩
   have e0:=(hE 0 dK).trans h0
   have e1:=(hE 1 dK).trans h1
   have e21:=(hE 21 dK).trans h21
   have p':=p.but g hno
   by_cases c:j<n
   ·have c':decide ((j:Int)<(n:Int))=true:=GK oM
    obtain⟨x,hx⟩:∃x,(s.refsOf a)[j]?=some x:=⟨_,J9 oM⟩
    obtain⟨X,a1,g1⟩:=KF p' k a j ha
    rw[Hp.Uw hx]at a1
    unfold Uj at a1
    obtain⟨X2,hX2⟩:∃X2:Gb,X2=X++[⟨[.i x],.rw,1⟩]:=⟨_,rfl⟩
    have g2:Gr X X2:=by rw[hX2];exact Gr.app _ _
    have g12:Gr H' X2:=g1.trans g2
    have t2:=g12.get t
    have hcl:(ints ((s.refsOf a).take j)++List.replicate (n-j) (CV.i 0)).length=n:=by simp[ints];omega
    have hap:=GjI (t:=false) (v:=.i x) t2 c hcl rfl
    obtain⟨X3,Bd⟩:∃X3:Gb,X3=X2.set b ⟨(ints ((s.refsOf a).take j)++List.replicate (n-j) (CV.i 0)).set j (.i x),.rw,1⟩:=⟨_,rfl⟩
    rw[←Bd]at hap
    have hel:elems X2 1 (.slice X.length 0 1 1 1 false)=some (1,[.i x]):=by
     rw[JC oM,hX2]
     simp(disch:=first|exact dz|fail) only[simprocAttr,Gc,↓reduceIte,JW]
    have hset:(ints ((s.refsOf a).take j)++List.replicate (n-j) (CV.i 0)).set j (.i x)=ints ((s.refsOf a).take (j+1))++List.replicate (n-(j+1)) (CV.i 0):=by
     rw[QL,hx,VT,UZ,List.set_append_right _ _ (by simp[ints];omega),show n-j=(n-(j+1))+1 by omega,List.replicate_succ]
     have:j-(ints ((s.refsOf a).take j)).length=0:=by simp[ints];omega
     rw[this,List.set_cons_zero]
     simp[ints]
    have w1:IntKind.i64.wrap ((j:Int)+1)=((j+1:Nat):Int):=Gh oM
    have hbl:=Gd t2
    apply Gt (k':=n-(j+1))
    ·simp(disch:=first|exact dz|fail) only[simprocAttr,Gc,↓reduceIte,Dg,e0,e1,e7,e21,e22,c',a1,fill,splice,and_self]
     rw[←hX2]
     simp(disch:=first|exact dz|fail) only[simprocAttr,Gc,↓reduceIte,hel,Ja,hap,e22,w1]
     rfl
    ·omega
    ·refine⟨j+1,uA,oM,rfl,⟨?_,fun d hd hn=>?_⟩,uA,?_⟩
     ·rw[Bd,List.length_set];exact Jr g.len g12.len
     ·have:=g.len
      rw[Bd,JU (Ne.symm hn),g12.keep d oM fun h=>h,g.keep d hd hn]
     ·rw[Bd,KI hbl,hset]
   ·have c':decide ((j:Int)<(n:Int))=false:=GC oM
    have hjn:j=n:=by omega
    apply Gl (x:=.exit 0)
    ·simp(disch:=first|exact dz|fail) only[simprocAttr,Gc,↓reduceIte,Dg,e21,e22,c']
     rfl
    ·simp
    ·refine⟨rfl,g,by simp[Gg,e7,hjn],?_⟩
     rw[t,hjn,NW oM]
     simp) _ ⟨0,h22,oM,rfl,Keeps.refl _ _,h7,by simpa[ints]using tb⟩
 exact⟨E',H',hr.symm.trans e,g,q1,q2,fr⟩
theorem Gar(p:PH H hb s L)(k:s.Ok)(a:Int)(ha:a≤9223372036854775807):∃w H',run P 223 [.ptr hb 0,.i a] H=some (w,H')∧Gr H H'∧IL H.length H' w (s.refsOf a):=by
 obtain⟨X,h1,g1⟩:=NA p k a ha
 obtain⟨d,hd⟩:=s.B_ a
 rw[hd]at h1
 unfold Je at h1
 have hlen:=k.Ve a
 obtain⟨X1,hX1⟩:∃X1:Gb,X1=X++[⟨Je (s.refsOf a).length d (s.Vl a),.rw,0⟩]++[⟨(List.replicate (s.refsOf a).length [.int .i64 0]).flatten,.rw,1⟩]:=⟨_,rfl⟩
 have g2:Gr X X1:=by rw[hX1];exact(Gr.app X _).app' _
 have l1:X1.length=X.length+2:=by rw[hX1];simp
 have hfl:∀n:Nat,(List.replicate n [CV.int .i64 0]).flatten=List.replicate n (.i 0):=fun n=>by
  induction n with
  |zero=>rfl
  |succ n ih=>rw[List.replicate_succ,List.flatten_cons,ih,List.replicate_succ];rfl
 have t1:X1[X.length+1]?=some ⟨List.replicate (s.refsOf a).length (.i 0),.rw,1⟩:=by rw[hX1,←hfl];simp
 have p1:=(p.gr g1).gr g2
 have hg:=g1.len
 have hno:X.length+1∉L.all hb:=fun h=>by have:=p.lt _ h;omega
 unfold Je at hX1
 have m1:=ZH (H:=X++[⟨[.i (s.refsOf a).length,.i d,.i (s.Vl a)],.rw,0⟩]) (Jf:=1) (z:=[CV.int .i64 0]) (l:=0) (c:=((s.refsOf a).length:Int)) oM
 rw[K6,←hX1]at m1
 have t0:X1[X.length]?=some ⟨[.i (s.refsOf a).length,.i d,.i (s.Vl a)],.rw,0⟩:=by rw[hX1];simp
 rw[Gi GoW _ _ sM]
 simp(disch:=first|exact dz|fail) only[simprocAttr,Gc,↓reduceIte,Gj,h1,m1,t0]
 generalize hr:den P (.loop Dg) _ _=r
 obtain⟨E2,X2,rfl,g3,a7,t2,f2⟩:=GiP p1 k ha rfl oM hno t1 uA uA uA uA uA hr
 simp(disch:=first|exact dz|fail) only[simprocAttr,Gc,↓reduceIte,a7]
 have g12:Gr H X1:=g1.trans g2
 refine⟨_,X2,rfl,⟨Jr g12.len g3.len,fun c hc _=>?_⟩,.inr ⟨_,_,rfl,Gn.2 ⟨oM,rfl⟩,t2,by simp[ints]⟩⟩
 rw[g3.keep c oM oM,g12.keep c hc fun h=>h]
end
end Go.Cs.Tryz
namespace Go.Cs.Tryz
open Go Go.Cs A
def VJ:Gu:=T [b 21 .lss 20 19] (S (J 21 (X 0)) (S (B 1 (T [m 22 20,x 23 1 18 20,l 24 1 23,m 8 22,m 9 24] (T [m 25 9,bk 26 .neq 25 0,m 27 26,gt 27 (f 28 2 5),gt 27 (l 29 1 28),gt 27 (m 30 8),gt 27 (q2 31 142 29 30),gt 27 (no 32 31),an 33 27 32] (I 33 (R [m 34 7,m 35 9,e 36 (.buildSlice 1 [i 0] 1 [(0,1,t 35)]),ap 37 1 34 36,m 7 37]))))) (R [bk 38 .add 20 1,m 20 38])))
def Gow:Gm:=⟨40,0,T [e 4 (.K7 (c .Gf))] (T [m 11 0,m 12 1,q2 13 75 11 12,m 10 13,ex 14 10 0,ex 15 10 1,e 5 (.new [i 0,i 0,i 0]),st 3 5 14,m 6 15] (T [e 7 (.K7 (c .Gf))] (S (T [m 16 0,m 17 1,q2 18 223 16 17,le 19 18,n 20 0] (B 0 (W VJ))) (Q [m 39 7,m 4 39])))),[r 4]⟩
theorem Go1:P 132=some Gow:=by kernel_rfl
end Go.Cs.Tryz
namespace Go.Cs
open Go
def Hp.strOf(s:Hp)(a:Int):List Int:=EP (s.Vl a) (s.refsOf a).length (s.refsOf a)
theorem Hp.Ok.Glu{s:Hp}(k:s.Ok)(a:Int):s.Vl a≤3:=by
 unfold Hp.Vl
 split
 ·rename_i o h
  exact(k.ob o (Hp.Jy h).1).kd.1
 ·omega
end Go.Cs
namespace Go.Cs.Tryz
open Go Go.Cs
section
variable {H : Gb} {hb : Nat} {s : Hp} {L : GD}
theorem GfY{k0:Nat}(hk0:k0≤H.length){kd:Nat}(hkd:kd≤3){n d:Int}{l:List Int}(hl:l.length≤15){w:CV}(hw:LI H w l)(hwb:l≠[]→Gp w<k0){sb:Nat}(hsb:sb<k0)(ts:H[sb]?=some ⟨Je n d kd,.rw,0⟩)
  {E0:Env} (h5:E0 5=.ptr sb 0) (h7:E0 7=.Gf) (h18:E0 18=w) (h19:E0 19=.i l.length) (h20:E0 20=.i 0) {r:Option (CX×Env×Gb)} (hr:den P (.loop VJ) E0 H=r):
  ∃E' H' w',r=some (.exit 0,E',H')∧Keeps H H' (fun c=>k0≤c)∧E' 7=w'∧IL k0 H' w' (EP kd l.length l)∧∀t,t∉wr VJ→E' t=E0 t:=by
 obtain⟨x',E',H',e,-,⟨rfl,g,w',q1,q2⟩,fr⟩:=Gy (p:=P) (c:=VJ) (E0:=E0) (H0:=H)
  (fun q E H'=>∃(j:Nat)(w':CV),E 20=.i j∧j≤l.length∧q=l.length-j∧Keeps H H' (fun c=>k0≤c)∧E 7=w'∧IL k0 H' w' (EP kd j l))
  (fun x' E' H'=>x'=.exit 0∧Keeps H H' (fun c=>k0≤c)∧∃w',E' 7=w'∧IL k0 H' w' (EP kd l.length l)) (by
   rintro q E H' hE ⟨j,w',e20,hj,rfl,g,e7,p3⟩
   have e5:=(hE 5 dK).trans h5
   have e18:=(hE 18 dK).trans h18
   have e19:=(hE 19 dK).trans h19
   have hlen:=g.len
   by_cases c:j<l.length
   ·have c':decide ((j:Int)<(l.length:Int))=true:=GK oM
    obtain⟨x,hx⟩:∃x,l[j]?=some x:=⟨_,J9 c⟩
    have HY:=hwb (fun h=>by rw[h]at c;exact absurd c sM)
    obtain⟨tl,a1,a2,a3,a4⟩:=hw.pos oM
    have O4:H'[Gp w]?=H[Gp w]?:=g.keep _ (Gd a3) oM
    have ix:∀X,Kb 1 w (.i j) X=some (.ptr (Gp w) j,X):=fun X=>by
     rw[a1];exact(if_pos oM).trans (by simp[Gp])
    have l1:ld H'[Gp w]? j=some (.i x):=by rw[O4,a3,Vt];simp[ints,hx]
    have ts':H'[sb]?=some ⟨Je n d kd,.rw,0⟩:=(g.keep _ (Gd ts) oM).trans ts
    unfold Je at ts'
    have hso:=LC (H:=H') (kd:=kd) (i:=j) hkd
    have hsl:=Md kd j l
    have w1:IntKind.i64.wrap ((j:Int)+1)=((j+1:Nat):Int):=Gh oM
    suffices fin:∃E' H2 w2,den P VJ E H'=some (.normal,E',H2)∧E' 20=.i ((j+1:Nat):Int)∧Keeps H' H2 (fun c=>k0≤c)∧E' 7=w2∧IL k0 H2 w2 (EP kd (j+1) l)by
     obtain⟨E',H2,w2,f1,f2,f3,f4,f5⟩:=fin
     exact Gt f1 (k':=l.length-(j+1)) oM ⟨j+1,w2,f2,oM,rfl,g.trans f3,f4,f5⟩
    rw[GbV hx]
    by_cases hz:x=0
    ·have hz':(x != 0)=false:=by rw[hz];rfl
     simp(disch:=first|exact dz|fail) only[simprocAttr,Gc,↓reduceIte,VJ,e5,e18,e19,e20,c',ix,l1,hz',w1]
     exact⟨_,_,w',rfl,uA,Keeps.refl _ _,by simp[Gg,e7],by rw[if_neg (fun h=>h.1 hz),List.append_nil];exact p3⟩
    ·have hz':(x != 0)=true:=by simpa using hz
     cases hs:Jj kd j with
     |false=>
      rw[hs]at hso
      simp(disch:=first|exact dz|fail) only[simprocAttr,Gc,↓reduceIte,VJ,e5,e18,e19,e20,c',ix,l1,hz',ts',hso,w1]
      exact⟨_,_,w',rfl,uA,Keeps.refl _ _,by simp[Gg,e7],by rw[if_neg (fun h=>h.2),List.append_nil];exact p3⟩
     |true=>
      rw[hs]at hso
      obtain⟨v',X2,a1,a2,a3⟩:=IL.push p3 (Jr hk0 g.len) oM x
      have hel:elems (H'++[⟨[.i x],.rw,1⟩]) 1 (.slice H'.length 0 1 1 1 false)=some (1,[.i x]):=by
       rw[JC oM]
       simp(disch:=first|exact dz|fail) only[simprocAttr,Gc,↓reduceIte,JW]
      simp(disch:=first|exact dz|fail) only[simprocAttr,Gc,↓reduceIte,VJ,e5,e7,e18,e19,e20,c',ix,l1,hz',ts',hso,fill,splice,and_self,hel,Ja,a1,w1]
      exact⟨_,_,v',rfl,uA,a3,uA,by rw[if_pos ⟨hz,trivial⟩];exact a2⟩
   ·have c':decide ((j:Int)<(l.length:Int))=false:=GC oM
    have hjj:j=l.length:=by omega
    rw[hjj]at p3
    apply Gl (x:=.exit 0)
    ·simp(disch:=first|exact dz|fail) only[simprocAttr,Gc,↓reduceIte,VJ,e19,e20,c']
     rfl
    ·simp
    ·exact⟨rfl,g,w',by simp[Gg,e7],p3⟩) _ ⟨0,.Gf,h20,oM,rfl,Keeps.refl _ _,h7,by simp[EP];exact IL.nil⟩
 exact⟨E',H',w',hr.symm.trans e,g,q1,q2,fr⟩
theorem DY(p:PH H hb s L)(k:s.Ok)(a:Int)(ha:a≤9223372036854775807):∃w H',run P 132 [.ptr hb 0,.i a] H=some (w,H')∧Gr H H'∧IL H.length H' w (s.strOf a):=by
 obtain⟨X,h1,g1⟩:=NA p k a ha
 obtain⟨d,hd⟩:=s.B_ a
 rw[hd]at h1
 obtain⟨X1,hX1⟩:∃X1:Gb,X1=X++[⟨Je (s.refsOf a).length d (s.Vl a),.rw,0⟩]:=⟨_,rfl⟩
 have g2:Gr X X1:=by rw[hX1];exact Gr.app X _
 have t1:X1[X.length]?=some ⟨Je (s.refsOf a).length d (s.Vl a),.rw,0⟩:=by rw[hX1];simp
 have g12:Gr H X1:=g1.trans g2
 obtain⟨w,X2,h2,g3,li⟩:=Gar (p.gr g12) k a ha
 have t2:=g3.get t1
 have hwb:s.refsOf a≠[]→Gp w<X2.length:=fun h=>by
  obtain⟨tl,a1,a2,a3,a4⟩:=li.pos (BQ.2 h)
  exact Gd a3
 have hvl:=li.len X2
 unfold Je at h1 hX1
 rw[Gi Go1 _ _ sM]
 simp(disch:=first|exact dz|fail) only[simprocAttr,Gc,↓reduceIte,Gj,h1]
 rw[←hX1]
 simp(disch:=first|exact dz|fail) only[simprocAttr,Gc,↓reduceIte,h2,hvl]
 generalize hr:den P (.loop VJ) _ _=r
 obtain⟨E2,X3,w3,rfl,g4,a7,li3,f2⟩:=GfY (k0:=X2.length) (Nat.le_refl _) (k.Glu a) (k.Ve a) li.li hwb (Gd t2) t2 uA uA uA uA uA hr
 simp(disch:=first|exact dz|fail) only[simprocAttr,Gc,↓reduceIte,a7]
 have l1:=g12.len
 have l2:=g3.len
 have l3:=g4.len
 refine⟨_,X3,rfl,⟨oM,fun c hc _=>?_⟩,li3.frame (fun c h=>Gn.2 ⟨by have:=(Gn.1 h).1;omega,(Gn.1 h).2⟩) fun _ _=>rfl⟩
 rw[g4.keep c oM oM,g3.keep c oM fun h=>h,g12.keep c hc fun h=>h]
end
end Go.Cs.Tryz

namespace Go.Cs
open Go
section
variable {F : Jp} {E : Env} {H : Gb}
def Io(m:CV)(H:Gb):Option (CV×Gb):=(entriesOf H m).map fun es=>(.i es.length,H)
theorem BF{m:J7}:K3 F (.ZU m) E H=Io (E.ev m) H:=by
 simp only[K3,Vu,GL,Io]
 cases entriesOf H (E.ev m)<;>rfl
def Ap(ok:Bool)(k:IntKind)(z m x:CV)(H:Gb):Option P5:=(Q5 H ok k z m x).map fun v=>(none,fun _=>v)
theorem Gcv{ok:Bool}{k:IntKind}{z:CV}{m x:J7}:GL (.Qo ok k z m x) E H=Ap ok k z (E.ev m) (E.ev x) H:=rfl
def Xh(g:Nat)(x:CV)(H:Gb):Option (CV×Gb):=match x with
 |.func f [.ptr b 0]=>if f=g then match H[b]? with
   |some ⟨[m],.rw,0⟩=>(mapOf H m).bind fun y=>(keysOf y.2).bind fun l=>
    if l.length=0 then some (.Gf,H)else if l.length≤JG∧l.all Hg=true then some (.slice H.length 0 l.length l.length 1 true,H++[⟨(Qd l).map .i,.rw,1⟩])else none
   |_=>none
  else none
 |_=>none
theorem Oo{g:Nat}{x:J7}:K3 F (.KL g x) E H=Xh g (E.ev x) H:=rfl
end
def Kc(l:List (Int×CV)):List CV:=l.map fun x=>.Ju [.i x.1,x.2]
theorem QO(l:List (Int×CV)):Qy (Kc l)=Kc l∧VY (Kc l)=false:=by
 match l with
 |[]=>exact⟨rfl,rfl⟩
 |[x]=>exact⟨rfl,rfl⟩
 |x::y::r=>exact⟨rfl,rfl⟩
theorem YQ{n:Int}:∀{l:List (Int×CV)}{i:Nat},(∀v,(n,v)∉l)→Uu .i64 n (Kc l) i=some none
 |[],i,_=>rfl
 |(k,w)::l,i,h=>by
  have hk:(n==k)=false:=by
   rw[←Bool.not_eq_true,beq_iff_eq]
   rintro rfl
   exact h w NC
  show(if IntKind.i64=IntKind.i64 then(if(n==k)=true then some (some (i,w))else Uu .i64 n (Kc l) (i+1))else none)=_
  rw[if_pos rfl,hk]
  exact YQ fun v hv=>h v (Um _ hv)
theorem YF{n:Int}:∀{l:List (Int×CV)}{i:Nat}{v:CV},(l.map (·.1)).Nodup→(n,v)∈l→∃j,l[j]?=some (n,v)∧Uu .i64 n (Kc l) i=some (some (i+j,v))
 |(k,w)::l,i,v,hn,h=>by
  rw[List.map_cons,List.nodup_cons]at hn
  show∃j,_∧(if IntKind.i64=IntKind.i64 then(if(n==k)=true then some (some (i,w))else Uu .i64 n (Kc l) (i+1))else none)=_
  rw[if_pos rfl]
  by_cases hk:n=k
  ·subst hk
   have hv:v=w:=by
    rcases List.mem_cons.1 h with e|e
    ·simp only[Prod.mk.injEq,true_and]at e;exact e
    ·exact absurd (List.mem_map_of_mem (f:=(·.1)) e) hn.1
   subst hv
   exact⟨0,rfl,sM⟩
  ·have hk':(n==k)=false:=by simpa using hk
   rw[hk']
   have h':(n,v)∈l:=by
    rcases List.mem_cons.1 h with e|e
    ·simp only[Prod.mk.injEq]at e;exact absurd e.1 hk
    ·exact e
   obtain⟨j,q1,q2⟩:=YF (i:=i+1) hn.2 h'
   refine⟨j+1,q1,?_⟩
   rw[show i+(j+1)=i+1+j from by omega]
   exact q2
def NQ(H:Gb)(b:Nat)(f:Int→Option CV)(ks:List Int):Prop:=
 ∃l:List (Int×CV),H[b]?=some ⟨Kc l,.map,0⟩∧l.map (·.1)=ks∧ks.Nodup∧∀k v,(k,v)∈l↔f k=some v
section
variable {H : Gb} {b : Nat} {f : Int → Option CV} {ks : List Int}
theorem NQ.frame{H':Gb}(m:NQ H b f ks)(h:H'[b]?=H[b]?):NQ H' b f ks:=by
 obtain⟨l,h1,h2⟩:=m
 exact⟨l,h.trans h1,h2⟩
theorem NQ.lt(m:NQ H b f ks):b<H.length:=by
 obtain⟨l,h1,h2⟩:=m
 exact Gd h1
theorem NQ.entries(m:NQ H b f ks):∃l,H[b]?=some ⟨Kc l,.map,0⟩∧entriesOf H (.GU b)=some (Kc l)∧l.map (·.1)=ks∧ks.Nodup∧∀k v,(k,v)∈l↔f k=some v:=by
 obtain⟨l,h1,h2,h3,h4⟩:=m
 refine⟨l,h1,?_,h2,h3,h4⟩
 unfold entriesOf
 dsimp only
 rw[h1]
 dsimp only
 rw[if_pos ⟨rfl,rfl⟩,(QO l).1]
theorem NQ.mem(m:NQ H b f ks){n:Int}:n∈ks↔∃v,f n=some v:=by
 obtain⟨l,h1,h2,h3,h4⟩:=m
 rw[←h2,YX]
 constructor
 ·rintro ⟨⟨k,v⟩,hx,rfl⟩
  exact⟨v,(h4 k v).1 hx⟩
 ·rintro ⟨v,hv⟩
  exact⟨(n,v),(h4 n v).2 hv,rfl⟩
theorem NQ.nodup(m:NQ H b f ks):ks.Nodup:=by
 obtain⟨l,h1,h2,h3,h4⟩:=m
 exact h3
def GhQ(ok:Bool)(z:CV):Option CV→CV
 |some v=>if ok then .Ju [v,.bool true]else v
 |none=>if ok then .Ju [z,.bool false]else z
theorem NQ.GhY(m:NQ H b f ks)(ok:Bool)(z:CV)(n:Int):Q5 H ok .i64 z (.GU b) (.i n)=some (GhQ ok z (f n)):=by
 obtain⟨l,h1,h0,h2,h3,h4⟩:=m.entries
 unfold Q5
 dsimp only
 rw[if_pos rfl,h0,Option.bind_some]
 cases e:f n with
 |some v=>
  obtain⟨j,q1,q2⟩:=YF (i:=0) (by rw[h2];exact h3) ((h4 n v).2 e)
  rw[q2];rfl
 |none=>
  rw[YQ (i:=0) fun v hv=>by rw[(h4 n v).1 hv]at e;cases e];rfl
theorem NQ.get(m:NQ H b f ks)(ok:Bool)(z:CV)(n:Int):AA ok .i64 z (.GU b) (.i n) H=some (GhQ ok z (f n),H):=by
 unfold AA
 rw[m.GhY];rfl
theorem NQ.Gl2(m:NQ H b f ks)(ok:Bool)(z:CV)(n:Int):Ap ok .i64 z (.GU b) (.i n) H=okV (GhQ ok z (f n)):=by
 unfold Ap
 rw[m.GhY];rfl
theorem NQ.len(m:NQ H b f ks):Io (.GU b) H=some (.i ks.length,H):=by
 obtain⟨l,h1,h0,h2,h3,h4⟩:=m.entries
 unfold Io
 rw[h0,←h2]
 simp[Kc]
theorem NQ.new(H:Gb):NQ (H++[⟨[],.map,0⟩]) H.length (fun _=>none) []:=⟨[],by simp[Kc],rfl,List.nodup_nil,fun k v=>by simp⟩
def TT(f:Int→Option CV)(n:Int)(v:CV):Int→Option CV:=fun k=>if k=n then some v else f k
theorem NQ.set(m:NQ H b f ks)(n:Int){v:CV}(hv:leaf v=true):∃H',(∀H0,H0=H→U4 .i64 (.GU b) (.i n) v H0=some (.undef,H'))∧Keeps H H' (·=b)∧NQ H' b (TT f n v) (if n∈ks then ks else ks++[n])∧H'.length=H.length:=by
 have hmem:=m.mem (n:=n)
 obtain⟨l,h1,h0,h2,h3,h4⟩:=m.entries
 cases e:f n with
 |none=>
  have hn:n∉ks:=fun h=>by obtain⟨w,hw⟩:=hmem.1 h;rw[e]at hw;cases hw
  have hf:=YQ (n:=n) (l:=l) (i:=0) fun w hw=>by rw[(h4 n w).1 hw]at e;cases e
  refine⟨H.set b ⟨Kc (l++[(n,v)]),.map,0⟩,?_,Keeps.set (w:=fun c=>c=b) (Keeps.refl H _) (.inl rfl) _,⟨l++[(n,v)],by rw[KI (Gd h1)],?_,?_,fun k w=>?_⟩,sM⟩
  ·rintro _ rfl
   unfold U4 Q6
   dsimp only
   rw[if_pos ⟨rfl,hv⟩,h0,Option.bind_some,hf,Option.bind_some]
   dsimp only
   unfold J2
   rw[h1]
   dsimp only
   rw[if_pos ⟨rfl,rfl,(QO l).2⟩]
   simp[Kc]
  ·rw[if_neg hn,XE,h2];rfl
  ·rw[if_neg hn,List.nodup_append]
   refine⟨h3,sM,?_⟩
   rintro x hx y hy rfl
   simp only[Uy]at hy
   subst hy
   exact hn hx
  ·rw[NG,h4,Uy,Prod.mk.injEq]
   unfold TT
   constructor
   ·rintro (h|⟨rfl,rfl⟩)
    ·rw[if_neg (by rintro rfl;rw[e]at h;cases h)];exact h
    ·rw[if_pos rfl]
   ·intro h
    split at h
    ·rename_i c
     simp only[Gx]at h
     exact .inr ⟨c,h.symm⟩
    ·exact .inl h
 |some w0=>
  have hn:n∈ks:=hmem.2 ⟨w0,e⟩
  obtain⟨j,q1,q2⟩:=YF (i:=0) (by rw[h2];exact h3) ((h4 n w0).2 e)
  rw[Nat.zero_add]at q2
  have hj:=Gd q1
  have hks:ks[j]?=some n:=by rw[←h2,Ke,q1];rfl
  refine⟨H.set b ⟨Kc (l.set j (n,v)),.map,0⟩,?_,Keeps.set (w:=fun c=>c=b) (Keeps.refl H _) (.inl rfl) _,⟨l.set j (n,v),by rw[KI (Gd h1)],?_,?_,fun k w=>?_⟩,sM⟩
  ·rintro _ rfl
   unfold U4 Q6
   dsimp only
   rw[if_pos ⟨rfl,hv⟩,h0,Option.bind_some,q2,Option.bind_some]
   dsimp only
   unfold J2
   rw[h1]
   dsimp only
   rw[if_pos ⟨rfl,rfl,(QO l).2⟩]
   simp[Kc,List.map_set]
  ·rw[if_pos hn,List.map_set,h2]
   apply List.ext_getElem?
   intro i
   rw[Lu]
   split
   ·rename_i c
    subst c
    rw[if_pos (Gd hks),hks]
   ·rfl
  ·rw[if_pos hn];exact h3
  ·unfold TT
   rw[List.mem_iff_getElem?]
   constructor
   ·rintro ⟨i,hi⟩
    by_cases c:i=j
    ·subst c
     rw[KI hj]at hi
     simp only[Gx,Prod.mk.injEq]at hi
     rw[if_pos hi.1.symm,hi.2]
    ·rw[JU (Ne.symm c)]at hi
     have hk:k≠n:=by
      rintro rfl
      have e1:ks[i]?=some k:=by rw[←h2,Ke,hi];rfl
      exact c ((List.getElem?_inj (Gd e1) h3).1 (e1.trans hks.symm))
     rw[if_neg hk]
     exact(h4 k w).1 (JX hi)
   ·intro h
    split at h
    ·rename_i c
     simp only[Gx]at h
     exact⟨j,by rw[KI hj,c,h]⟩
    ·rename_i c
     obtain⟨i,hi⟩:=List.mem_iff_getElem?.1 ((h4 k w).2 h)
     refine⟨i,?_⟩
     rw[JU,hi]
     rintro rfl
     rw[q1]at hi
     simp only[Gx,Prod.mk.injEq]at hi
     exact c hi.1.symm
theorem Ta:∀l:List (Int×CV),keysOf (Kc l)=some (l.map (·.1))
 |[]=>rfl
 |(k,v)::l=>by
  show(keysOf (Kc l)).map (k::·)=_
  rw[Ta l];rfl
theorem NQ.keys(m:NQ H b f ks){b0 g:Nat}(h0:H[b0]?=some ⟨[.GU b],.rw,0⟩) (hn:ks.length≤JG) (hi:∀k∈ks,Hg k=true):
  ∃w H',Xh g (.func g [.ptr b0 0]) H=some (w,H')∧Gr H H'∧IL H.length H' w (Qd ks):=by
 obtain⟨l,h1,h2,h3,h4⟩:=m
 have hm:mapOf H (.GU b)=some (b,Kc l):=by
  unfold mapOf
  dsimp only
  rw[h1]
  simp only[(QO l).2,Bool.false_eq_true,↓reduceIte]
 unfold Xh
 simp only[↓reduceIte,h0]
 rw[hm,Option.bind_some,Ta,Option.bind_some,h2]
 by_cases c:ks.length=0
 ·rw[if_pos c,Bo c]
  exact⟨_,_,rfl,Keeps.refl _ _,IL.nil⟩
 ·rw[if_neg c,if_pos ⟨hn,List.all_eq_true.2 hi⟩]
  refine⟨_,_,rfl,Gr.app _ _,.inr ⟨H.length,true,by rw[V_],Gn.2 ⟨Nat.le_refl _,rfl⟩,by simp[ints],by simp[ints]⟩⟩
theorem M8{l:List Int}(h:l.Nodup):Zj (Qd l):=by
 have h1:=U2 l
 have h2:(Qd l).Nodup:=(QW l).nodup_iff.2 h
 have h3:=h1.and h2
 exact h3.imp fun⟨a,b⟩=>by omega
theorem LX{l:List Int}{x:Int}:x∈Qd l↔x∈l:=(QW l).mem_iff
end
end Go.Cs
namespace Go.Cs.Tryz
open Go Go.Cs A
def E9:Gu:=T [b 23 .lss 22 21] (S (J 23 (X 0)) (S (B 1 (T [x 24 1 20 22,l 25 1 24,m 6 25] (R [l 26 1 3,m 27 6,e 28 (.Nz (t 26) [t 27] [(304,"dustcart/alloc.place",335),(305,"dustcart/alloc.place",340),(306,"dustcart/alloc.place",348),(307,"dustcart/alloc.place",349),(308,"dustcart/alloc.place",353)])]))) (R [bk 29 .add 22 1,m 22 29])))
def GmG:Gm:=⟨30,0,S (T [l 7 1 1,m 8 0,q2 9 50 7 8,no 10 9,m 11 10,gf 11 (l 12 1 2),gf 11 (m 13 0),gf 11 (e 14 (.Qo false .i64 (.bool false) (t 12) (t 13))),or 15 11 14] (I 15 .ret)) (T [l 16 1 2,m 17 0,u (.QY .i64 (t 16) (t 17) (c (.bool true)))] (T [l 18 1 1,m 19 0,q2 20 132 18 19,le 21 20,n 22 0] (B 0 (W E9)))),[]⟩
theorem c131:P 131=some GmG:=by kernel_rfl
end Go.Cs.Tryz
namespace Go.Cs
open Go
def Cl(s:Hp)(Q:Int→Prop):Prop:=∀x b,Q x→b∈s.strOf x→s.has b=true→Q b
structure Hw(s:Hp)(ar:Int→Prop)(ks ks':List Int):Prop where
 sub:∀x∈ks,x∈ks'
 got:∀a,ar a→s.has a=true→a∈ks'
 new:∀Q,Cl s Q→(∀a,ar a→s.has a=true→Q a)→∀x∈ks',x∉ks→Q x
 cl:∀x∈ks',x∉ks→∀b∈s.strOf x,s.has b=true→b∈ks'
 pre:ks<+:ks'
theorem Hw.refl(s:Hp)(ks:List Int):Hw s (fun _=>False) ks ks:=⟨fun x h=>h,fun a h=>h.elim,fun Q _ _ x h hn=>absurd h hn,fun x h hn=>absurd h hn,List.prefix_refl _⟩
theorem Hw.trans{s:Hp}{ar br:Int→Prop}{k l m:List Int}(h1:Hw s ar k l)(h2:Hw s br l m):Hw s (fun a=>ar a∨br a) k m where
 sub:=fun x h=>h2.sub x (h1.sub x h)
 got:=fun a h hh=>by
  rcases h with h|h
  ·exact h2.sub a (h1.got a h hh)
  ·exact h2.got a h hh
 new:=fun Q hQ ha x hx hn=>by
  by_cases c:x∈l
  ·exact h1.new Q hQ (fun a h=>ha a (.inl h)) x c hn
  ·exact h2.new Q hQ (fun a h=>ha a (.inr h)) x hx c
 cl:=fun x hx hn b hb hh=>by
  by_cases c:x∈l
  ·exact h2.sub b (h1.cl x c hn b hb hh)
  ·exact h2.cl x hx c b hb hh
 pre:=h1.pre.trans h2.pre
theorem Hw.weaken{s:Hp}{ar br:Int→Prop}{k l:List Int}(h:Hw s ar k l)(e:∀a,br a↔ar a):Hw s br k l:=
 ⟨h.sub,fun a ha=>h.got a ((e a).1 ha),fun Q hQ ha=>h.new Q hQ fun a h1=>ha a ((e a).2 h1),h.cl,h.pre⟩
theorem Hw.mark{s:Hp}{a:Int}{ks ks':List Int}(ha:s.has a=true)(h:Hw s (fun b=>b∈s.strOf a) (ks++[a]) ks'):Hw s (fun b=>b=a) ks ks' where
 sub:=fun x hx=>h.sub x (by simp[hx])
 got:=fun b hb _=>by subst hb;exact h.sub b sM
 new:=fun Q hQ hq x hx hn=>by
  have qa:=hq a rfl ha
  by_cases c:x∈ks++[a]
  ·rw[NG,Uy]at c
   rcases c with c|c
   ·exact absurd c hn
   ·rw[c];exact qa
  ·exact h.new Q hQ (fun b hb hh=>hQ a b qa hb hh) x hx c
 cl:=fun x hx hn b hb hh=>by
  by_cases c:x∈ks++[a]
  ·rw[NG,Uy]at c
   rcases c with c|c
   ·exact absurd c hn
   ·rw[c]at hb;exact h.got b hb hh
  ·exact h.cl x hx c b hb hh
 pre:=(List.prefix_append _ _).trans h.pre
structure N8(H:Gb)(mb:Nat)(s:Hp)(ks:List Int):Prop where
 m:NQ H mb (fun x=>if x∈ks then some (.bool true)else none) ks
 has:∀x∈ks,s.has x=true
theorem N8.few{H:Gb}{mb:Nat}{s:Hp}{ks:List Int}(h:N8 H mb s ks)(k:s.Ok):ks.length≤4096:=by
 rw[←V_]
 exact k.Ry (M8 h.m.nodup) fun x hx=>h.has x (LX.1 hx)
theorem N8.frame{H H':Gb}{mb:Nat}{s:Hp}{ks:List Int}(h:N8 H mb s ks)(e:H'[mb]?=H[mb]?):N8 H' mb s ks:=⟨h.m.frame e,h.has⟩
theorem N8.get{H:Gb}{mb:Nat}{s:Hp}{ks:List Int}(h:N8 H mb s ks)(a:Int):AA false .i64 (.bool false) (.GU mb) (.i a) H=some (.bool (decide (a∈ks)),H):=by
 rw[h.m.get]
 by_cases c:a∈ks
 ·rw[if_pos c,GK c];rfl
 ·rw[if_neg c,GC c];rfl
theorem N8.add{H:Gb}{mb:Nat}{s:Hp}{ks:List Int}(h:N8 H mb s ks){a:Int}(ha:s.has a=true)(hn:a∉ks):∃H',U4 .i64 (.GU mb) (.i a) (.bool true) H=some (.undef,H')∧Keeps H H' (·=mb)∧N8 H' mb s (ks++[a])∧H'.length=H.length:=by
 obtain⟨H',h1,h2,h3,h4⟩:=h.m.set a (v:=.bool true) rfl
 rw[if_neg hn]at h3
 refine⟨H',h1 H rfl,h2,⟨?_,fun x hx=>?_⟩,h4⟩
 ·have e:TT (fun x=>if x∈ks then some (.bool true)else none) a (.bool true)=fun x=>if x∈ks++[a]then some (.bool true)else none:=by
   funext x
   unfold TT
   by_cases c:x=a
   ·subst c;simp
   ·rw[if_neg c]
    show(if x∈ks then some (CV.bool true)else none)=_
    by_cases c2:x∈ks
    ·rw[if_pos c2,if_pos (by simp[c2])]
    ·rw[if_neg c2,if_neg (by simp[c2,c])]
  rw[←e];exact h3
 ·rw[NG,Uy]at hx
  rcases hx with hx|rfl
  ·exact h.has x hx
  ·exact ha
theorem Hp.Ai{s:Hp}{a b:Int}:b∈s.strOf a↔b≠0∧∃o,s.obj a=some o∧∃j:Nat,o.refs[j]?=some b∧Jj o.kd j=true:=by
 unfold Hp.strOf
 rw[Gfg]
 unfold Hp.refsOf Hp.Vl
 cases s.obj a with
 |some o=>simp
 |none=>simp
end Go.Cs
namespace Go.Cs.Tryz
open Go Go.Cs
section
variable {hb : Nat} {s : Hp} {L : GD}
structure Ov(H:Gb)(hb:Nat)(s:Hp)(L:GD)(mb c2 c6 c7:Nat):Prop where
 p:PH H hb s L
 no:mb∉L.all hb
 t2:H[c2]?=some ⟨[.ptr hb 0],.rw,0⟩
 t6:H[c6]?=some ⟨[.GU mb],.rw,0⟩
 t7:H[c7]?=some ⟨[.func 131 [.ptr c2 0,.ptr c6 0,.ptr c7 0]],.rw,0⟩
 n:c2≠mb∧c6≠mb∧c7≠mb
theorem Ov.frame{H H':Gb}{mb c2 c6 c7:Nat}(v:Ov H hb s L mb c2 c6 c7)(g:Keeps H H' (·=mb)):Ov H' hb s L mb c2 c6 c7 where
 p:=v.p.but g v.no
 no:=v.no
 t2:=(g.keep _ (Gd v.t2) v.n.1).trans v.t2
 t6:=(g.keep _ (Gd v.t6) v.n.2.1).trans v.t6
 t7:=(g.keep _ (Gd v.t7) v.n.2.2).trans v.t7
 n:=v.n
theorem Gr.mb{H H':Gb}(g:Gr H H')(mb:Nat):Keeps H H' (·=mb):=⟨g.len,fun c hc _=>g.keep c hc fun h=>h⟩
def QS(s:Hp):Prop:=∀o∈s.objs,∀x∈o.refs,x=0∨s.has x=true
theorem QS.str{s:Hp}(h:QS s){a b:Int}(hb:b∈s.strOf a):s.has b=true:=by
 obtain⟨h0,o,ho,j,hj,-⟩:=Hp.Ai.1 hb
 rcases h o (Hp.Jy ho).1 b (JX hj)with h|h
 ·exact absurd h h0
 ·exact h
theorem Gg1(k:s.Ok){mb c2 c6 c7:Nat}{n:Nat}
  (ih:∀(H:Gb)(ks:List Int)(a:Int),4097≤n+ks.length→N8 H mb s ks→Ov H hb s L mb c2 c6 c7→a≤9223372036854775807→
   ∃ks' H',run P 131 [.i a,.ptr c2 0,.ptr c6 0,.ptr c7 0] H=some (.Ju [],H')∧Keeps H H' (·=mb)∧N8 H' mb s ks'∧Hw s (fun b=>b=a) ks ks')
  {H:Gb} {ks:List Int} (hn:4097≤n+ks.length) (m:N8 H mb s ks) (v:Ov H hb s L mb c2 c6 c7) {l:List Int} (hl:l.length≤1000) (hle:∀x∈l,x≤9223372036854775807) {w:CV} (hw:LI H w l) (hwm:l≠[]→Gp w≠mb)
  {E0:Env} (h3:E0 3=.ptr c7 0) (h20:E0 20=w) (h21:E0 21=.i l.length) (h22:E0 22=.i 0) {r:Option (CX×Env×Gb)} (hr:den P (.loop E9) E0 H=r):
  ∃E' H' ks',r=some (.exit 0,E',H')∧Keeps H H' (·=mb)∧N8 H' mb s ks'∧Hw s (fun b=>b∈l) ks ks':=by
 obtain⟨x',E',H',e,-,⟨rfl,g,ks',q1,q2⟩,fr⟩:=Gy (p:=P) (c:=E9) (E0:=E0) (H0:=H)
  (fun q E H'=>∃(j:Nat)(ks':List Int),E 22=.i j∧j≤l.length∧q=l.length-j∧Keeps H H' (·=mb)∧N8 H' mb s ks'∧Hw s (fun b=>b∈l.take j) ks ks')
  (fun x' E' H'=>x'=.exit 0∧Keeps H H' (·=mb)∧∃ks',N8 H' mb s ks'∧Hw s (fun b=>b∈l) ks ks') (by
   rintro q E H' hE ⟨j,ks',e22,hj,rfl,g,m',vi⟩
   have e3:=(hE 3 dK).trans h3
   have e20:=(hE 20 dK).trans h20
   have e21:=(hE 21 dK).trans h21
   have v':=v.frame g
   have t7:=v'.t7
   by_cases c:j<l.length
   ·have c':decide ((j:Int)<(l.length:Int))=true:=GK oM
    obtain⟨x,hx⟩:∃x,l[j]?=some x:=⟨_,J9 c⟩
    have HY:=hwm (fun h=>by rw[h]at c;exact absurd c sM)
    obtain⟨tl,a1,a2,a3,a4⟩:=hw.pos oM
    have O4:H'[Gp w]?=H[Gp w]?:=g.keep _ (Gd a3) HY
    have ix:∀X,Kb 1 w (.i j) X=some (.ptr (Gp w) j,X):=fun X=>by
     rw[a1];exact(if_pos oM).trans (by simp[Gp])
    have l1:ld H'[Gp w]? j=some (.i x):=by rw[O4,a3,Vt];simp[ints,hx]
    have hpl:=vi.pre.length_le
    obtain⟨Zh,H2,r1,g2,m2,vi2⟩:=ih H' ks' x oM m' v' (hle x (JX hx))
    have w1:IntKind.i64.wrap ((j:Int)+1)=((j+1:Nat):Int):=Gh oM
    apply Gt (k':=l.length-(j+1))
    ·simp(disch:=first|exact dz|fail) only[simprocAttr,Gc,↓reduceIte,E9,e3,e20,e21,e22,c',ix,l1,t7,Jd,JF,r1,w1]
     rfl
    ·omega
    ·refine⟨j+1,Zh,uA,oM,rfl,g.trans g2,m2,(vi.trans vi2).weaken fun b=>?_⟩
     rw[QL,hx,VT,NG,Uy]
   ·have c':decide ((j:Int)<(l.length:Int))=false:=GC oM
    rw[NW oM]at vi
    apply Gl (x:=.exit 0)
    ·simp(disch:=first|exact dz|fail) only[simprocAttr,Gc,↓reduceIte,E9,e21,e22,c']
     rfl
    ·simp
    ·exact⟨rfl,g,ks',m',vi⟩) _ ⟨0,ks,h22,oM,rfl,Keeps.refl _ _,m,(Hw.refl s ks).weaken fun b=>by simp⟩
 exact⟨E',H',ks',hr.symm.trans e,g,q1,q2⟩
theorem Dt(k:s.Ok)(hs:QS s){mb c2 c6 c7:Nat}:∀(n:Nat)(H:Gb)(ks:List Int)(a:Int),4097≤n+ks.length→N8 H mb s ks→Ov H hb s L mb c2 c6 c7→a≤9223372036854775807→
   ∃ks' H',run P 131 [.i a,.ptr c2 0,.ptr c6 0,.ptr c7 0] H=some (.Ju [],H')∧Keeps H H' (·=mb)∧N8 H' mb s ks'∧Hw s (fun b=>b=a) ks ks'
 |0,H,ks,a,hn,m,v,ha=>by have:=m.few k;omega
 |n+1,H,ks,a,hn,m,v,ha=>by
  have t2:=v.t2
  have t6:=v.t6
  have hh:=QA v.p k a ha
  rw[Gi c131 _ _ sM]
  cases ch:s.has a with
  |false=>
   rw[ch]at hh
   refine⟨ks,H,?_,Keeps.refl _ _,m,⟨fun x h=>h,fun b hb hh2=>?_,fun Q _ _ x h hn=>absurd h hn,fun x h hn=>absurd h hn,List.prefix_refl _⟩⟩
   ·simp(disch:=first|exact dz|fail) only[simprocAttr,Gc,↓reduceIte,GJ,t2,hh]
   ·subst hb;rw[ch]at hh2;cases hh2
  |true=>
   rw[ch]at hh
   have hg:=m.get a
   by_cases c:a∈ks
   ·rw[GK c]at hg
    refine⟨ks,H,?_,Keeps.refl _ _,m,⟨fun x h=>h,fun b hb hh2=>by subst hb;exact c,fun Q _ _ x h hn=>absurd h hn,fun x h hn=>absurd h hn,List.prefix_refl _⟩⟩
    simp(disch:=first|exact dz|fail) only[simprocAttr,Gc,↓reduceIte,GJ,t2,hh,t6,JA,hg]
   ·rw[GC c]at hg
    obtain⟨X,h1,g1,m1,l1⟩:=m.add ch c
    have v1:=v.frame g1
    obtain⟨w,X2,h2,g2,li⟩:=DY v1.p k a ha
    have g2':=Gr.mb g2 mb
    have v2:=v1.frame g2'
    have m2:=m1.frame (g2.keep mb m1.m.lt fun h=>h)
    have t2':=v1.t2
    have hwl:=li.len X2
    have hwm:s.strOf a≠[]→Gp w≠mb:=fun h e=>by
     obtain⟨tl,a1,a2,a3,a4⟩:=li.pos (BQ.2 h)
     have:=(Gn.1 a2).1
     have:=m1.m.lt
     omega
    have hsl:(s.strOf a).length≤15:=Jr (Md _ _ _) (k.Ve a)
    simp(disch:=first|exact dz|fail) only[simprocAttr,Gc,↓reduceIte,GJ,t2,hh,t6,JA,hg,Ue,h1,t2',h2,hwl]
    generalize hr:den P (.loop E9) _ _=r
    obtain⟨E',X3,ks3,rfl,g3,m3,vi⟩:=Gg1 k (Dt k hs n) (by rw[Nq];simp;omega) m2 v2 oM (fun x hx=>by have:=k.has_lt (hs.str hx);omega) li.li hwm uA uA uA uA hr
    simp(disch:=first|exact dz|fail) only[simprocAttr,Gc,↓reduceIte]
    exact⟨ks3,X3,rfl,(g1.trans g2').trans g3,m3,Hw.mark ch vi⟩
end
end Go.Cs.Tryz

namespace Go.Cs
open Go
def NM(ks:List Int)(l:List Ob):List Int:=l.filterMap fun o=>if(o.addr:Int)∈ks∧o.kd=2∧o.refs.getD 0 0∈ks then some (o.refs.getD 1 0)else none
theorem SI{ks:List Int}{l:List Ob}{j:Nat}{o:Ob}(h:l[j]?=some o):NM ks (l.take (j+1))=NM ks (l.take j)++(if(o.addr:Int)∈ks∧o.kd=2∧o.refs.getD 0 0∈ks then [o.refs.getD 1 0]else []):=by
 unfold NM
 rw[QL,h,VT,List.filterMap_append]
 congr 1
 simp only[List.filterMap_cons,List.filterMap_nil]
 split<;>rename_i c<;>split at c<;>simp_all
theorem MZ(ks:List Int)(l:List Ob):(NM ks l).length≤l.length:=List.length_filterMap_le _ _
theorem YB{ks:List Int}{l:List Ob}{v:Int}:v∈NM ks l↔∃o∈l,((o.addr:Int)∈ks∧o.kd=2∧o.refs.getD 0 0∈ks)∧o.refs.getD 1 0=v:=by
 unfold NM
 rw[List.mem_filterMap]
 constructor
 ·rintro ⟨o,h1,h2⟩
  split at h2
  ·rename_i c
   simp only[Gx]at h2
   exact⟨o,h1,c,h2⟩
  ·cases h2
 ·rintro ⟨o,h1,c,h2⟩
  exact⟨o,h1,by rw[if_pos c,h2]⟩
theorem NT{o:Ob}(h:2≤o.refs.length){i:Nat}(hi:i<2):o.refs[i]?=some (o.refs.getD i 0):=by
 rw[Qc,J9 oM];rfl
structure MH(s:Hp)(st:Int→Prop)(t:Nat)(ks todo:List Int):Prop where
 kp:∀x∈ks,Kp s st true x
 tk:∀x∈todo,s.has x=true→Kp s st true x
 cl:∀x∈ks,∀b∈s.strOf x,s.has b=true→b∈ks
 st:∀a,st a→s.has a=true→a∈ks∨a∈todo
 pr:∀o∈s.objs,(o.addr:Int)∈ks→o.kd=2→o.refs.getD 0 0∈ks→s.has (o.refs.getD 1 0)=true→o.refs.getD 1 0∈ks∨o.refs.getD 1 0∈todo
 ze:(t=0∧ks=[])∨(0<t∧ks≠[])
 tl:t≤ks.length
theorem Gii{s:Hp}{st:Int→Prop}:Cl s (Kp s st true):=fun x b hx hb hh=>by
 obtain⟨h0,o,ho,j,hj,hs⟩:=Hp.Ai.1 hb
 exact .ref hx ho hj hs hh
theorem MH.visit{s:Hp}{st:Int→Prop}{t:Nat}{ks todo ks':List Int}(h:MH s st t ks todo)(v:Hw s (fun b=>b∈todo) ks ks'):
  (∀x∈ks',Kp s st true x)∧(∀x∈ks',∀b∈s.strOf x,s.has b=true→b∈ks')∧(∀a,st a→s.has a=true→a∈ks'):=by
 refine⟨fun x hx=>?_,fun x hx b hb hh=>?_,fun a ha hh=>?_⟩
 ·by_cases c:x∈ks
  ·exact h.kp x c
  ·exact v.new _ Gii (fun a h1 h2=>h.tk a h1 h2) x hx c
 ·by_cases c:x∈ks
  ·exact v.sub b (h.cl x c b hb hh)
  ·exact v.cl x hx c b hb hh
 ·rcases h.st a ha hh with h1|h1
  ·exact v.sub a h1
  ·exact v.got a h1 hh
theorem MH.fin{s:Hp}(k:s.Ok)(h0:s.has 0=false){st:Int→Prop}{t:Nat}{ks todo ks':List Int}(h:MH s st t ks todo)(v:Hw s (fun b=>b∈todo) ks ks')(e:ks'.length=ks.length):ks'=ks∧∀x,x∈ks↔Kp s st true x:=by
 have e':ks'=ks:=(v.pre.eq_of_length e.symm).symm
 subst e'
 obtain⟨h1,h2,h3⟩:=h.visit v
 refine⟨rfl,fun x=>⟨h1 x,fun hx=>?_⟩⟩
 induction hx with
 |start a1 a2=>exact h3 _ a1 a2
 |@ref a b o j _ a2 a3 a4 a5 ih=>
  by_cases c:b=0
  ·rw[c,h0]at a5;cases a5
  ·exact h2 a ih b (Hp.Ai.2 ⟨c,o,a2,j,a3,a4⟩) a5
 |@pair a b c o _ a2 a3 a4 a5 a6 a7 a8 ih1 ih2=>
  obtain⟨q1,q2⟩:=Hp.Jy a3
  have q3:=(k.F6 a3).2 a4
  have e0:c=o.refs.getD 0 0:=by have:=NT q3 (i:=0) oM;rw[a5]at this;exact Option.some.inj this
  have e1:b=o.refs.getD 1 0:=by have:=NT q3 (i:=1) oM;rw[a7]at this;exact Option.some.inj this
  subst e0 e1
  rcases h.pr o q1 (by rw[q2];exact ih1) a4 ih2 a8 with h|h
  ·exact h
  ·exact v.got _ h a8
theorem MH.next{s:Hp}(k:s.Ok){st:Int→Prop}{t:Nat}{ks todo ks':List Int}(h:MH s st t ks todo)(v:Hw s (fun b=>b∈todo) ks ks')(e:ks'.length≠ks.length):MH s st (t+1) ks' (NM ks' s.objs):=by
 obtain⟨h1,h2,h3⟩:=h.visit v
 have hle:=v.pre.length_le
 refine⟨h1,fun x hx hh=>?_,h2,fun a ha hh=>.inl (h3 a ha hh),fun o ho a1 a2 a3 a4=>.inr (YB.2 ⟨o,ho,⟨a1,a2,a3⟩,rfl⟩),.inr ⟨oM,fun h0=>by subst h0;simp only[List.length_nil]at e hle;omega⟩,by have:=h.tl;omega⟩
 obtain⟨o,ho,⟨a1,a2,a3⟩,rfl⟩:=YB.1 hx
 have Vj:=k.obj ho
 have q3:=(k.F6 Vj).2 a2
 exact .pair rfl (h1 _ a1) Vj a2 (NT q3 oM) (h1 _ a3) (NT q3 oM) hh
end Go.Cs
namespace Go.Cs.Tryz
open Go Go.Cs A
def Z8:Gu:=T [b 46 .lss 45 44] (S (J 46 (X 4)) (S (B 5 (T [x 47 1 43 45,l 48 1 47,m 14 48] (S (T [l 49 1 6,m 50 14,e 51 (.Qo false .i64 (.bool false) (t 49) (t 50)),no 52 51,m 53 52,gf 53 (l 54 1 2),gf 53 (m 55 14),gf 53 (q2 56 133 54 55),gf 53 (bk 57 .neq 56 2),or 58 53 57] (I 58 (X 5))) (T [l 60 1 2,m 61 14,ca 62 76 [t 60,t 61,k 0],m 59 62,ex 63 59 0,ex 64 59 1,m 15 63,m 16 64] (T [l 65 1 6,m 66 15,e 67 (.Qo false .i64 (.bool false) (t 65) (t 66))] (I 67 (T [l 69 1 2,m 70 14,ca 71 76 [t 69,t 70,k 1],m 68 71,ex 72 68 0,ex 73 68 1,m 17 72,m 18 73] (R [m 74 9,m 75 17,e 76 (.buildSlice 1 [i 0] 1 [(0,1,t 75)]),ap 77 1 74 76,m 9 77])))))))) (R [bk 78 .add 45 1,m 45 78])))
def Ma:Gu:=T [b 29 .lss 28 27] (S (J 29 (X 2)) (S (B 3 (T [x 30 1 26 28,l 31 1 30,m 12 31] (R [l 32 1 7,m 33 12,e 34 (.Nz (t 32) [t 33] [(304,"dustcart/alloc.place",335),(305,"dustcart/alloc.place",340),(306,"dustcart/alloc.place",348),(307,"dustcart/alloc.place",349),(308,"dustcart/alloc.place",353)])]))) (R [bk 35 .add 28 1,m 28 35])))
def PD:Gu:=S (B 1 (T [l 24 1 6,e 25 (.ZU (t 24)),m 10 25] (S (T [m 26 9,le 27 26,n 28 0] (B 2 (W Ma))) (S (T [l 36 1 6,e 37 (.ZU (t 36)),m 38 10,b 39 .eql 37 38] (I 39 (Q [l 40 1 6,m 41 8,m 4 40,m 5 41]))) (T [e 9 (.K7 (c .Gf))] (T [l 42 1 2,q1 43 73 42,le 44 43,n 45 0] (B 4 (W Z8)))))))) (R [m 22 8,bk 23 .add 22 1,m 8 23])
def C43:Gm:=⟨79,0,T [bo 2 0,e 4 (.K7 (c .Uz)),n 5 0] (T [e 19 .Vg,e 6 (.new [.Uz]),st 1 6 19] (T [e 7 (.new [.nilFunc])] (T [e 20 (.NY 131 [t 2,t 6,t 7]),st 1 7 20] (T [n 8 0] (T [m 21 1,m 9 21] (B 0 (W PD))))))),[r 4,r 5]⟩
theorem c43:P 43=some C43:=by kernel_rfl
end Go.Cs.Tryz
namespace Go.Cs.Tryz
open Go Go.Cs
section
variable {hb : Nat} {s : Hp} {L : GD}
theorem Gcf(k:s.Ok)(hs:QS s){mb c2 c6 c7:Nat}{H:Gb}{ks:List Int}(m:N8 H mb s ks)(v:Ov H hb s L mb c2 c6 c7){l:List Int}(hl:l.length≤100000)(hle:∀x∈l,x≤9223372036854775807){w:CV}(hw:LI H w l)(hwm:l≠[]→Gp w≠mb)
  {E0:Env}(h7:E0 7=.ptr c7 0)(h26:E0 26=w)(h27:E0 27=.i l.length)(h28:E0 28=.i 0){r:Option (CX×Env×Gb)}(hr:den P (.loop Ma) E0 H=r):
  ∃E' H' ks',r=some (.exit 2,E',H')∧Keeps H H' (·=mb)∧N8 H' mb s ks'∧Hw s (fun b=>b∈l) ks ks'∧∀t,t∉wr Ma→E' t=E0 t:=by
 obtain⟨x',E',H',e,-,⟨rfl,g,ks',q1,q2⟩,fr⟩:=Gy (p:=P) (c:=Ma) (E0:=E0) (H0:=H)
  (fun q E H'=>∃(j:Nat)(ks':List Int),E 28=.i j∧j≤l.length∧q=l.length-j∧Keeps H H' (·=mb)∧N8 H' mb s ks'∧Hw s (fun b=>b∈l.take j) ks ks')
  (fun x' E' H'=>x'=.exit 2∧Keeps H H' (·=mb)∧∃ks',N8 H' mb s ks'∧Hw s (fun b=>b∈l) ks ks') (by
   rintro q E H' hE ⟨j,ks',e28,hj,rfl,g,m',vi⟩
   have e7:=(hE 7 dK).trans h7
   have e26:=(hE 26 dK).trans h26
   have e27:=(hE 27 dK).trans h27
   have v':=v.frame g
   have t7:=v'.t7
   by_cases c:j<l.length
   ·have c':decide ((j:Int)<(l.length:Int))=true:=GK oM
    obtain⟨x,hx⟩:∃x,l[j]?=some x:=⟨_,J9 c⟩
    have HY:=hwm (fun h=>by rw[h]at c;exact absurd c sM)
    obtain⟨tl,a1,a2,a3,a4⟩:=hw.pos oM
    have O4:H'[Gp w]?=H[Gp w]?:=g.keep _ (Gd a3) HY
    have ix:∀X,Kb 1 w (.i j) X=some (.ptr (Gp w) j,X):=fun X=>by
     rw[a1];exact(if_pos oM).trans (by simp[Gp])
    have l1:ld H'[Gp w]? j=some (.i x):=by rw[O4,a3,Vt];simp[ints,hx]
    obtain⟨Zh,H2,r1,g2,m2,vi2⟩:=Dt k hs 4097 H' ks' x oM m' v' (hle x (JX hx))
    have w1:IntKind.i64.wrap ((j:Int)+1)=((j+1:Nat):Int):=Gh oM
    apply Gt (k':=l.length-(j+1))
    ·simp(disch:=first|exact dz|fail) only[simprocAttr,Gc,↓reduceIte,Ma,e7,e26,e27,e28,c',ix,l1,t7,Jd,JF,r1,w1]
     rfl
    ·omega
    ·refine⟨j+1,Zh,uA,oM,rfl,g.trans g2,m2,(vi.trans vi2).weaken fun b=>?_⟩
     rw[QL,hx,VT,NG,Uy]
   ·have c':decide ((j:Int)<(l.length:Int))=false:=GC oM
    rw[NW oM]at vi
    apply Gl (x:=.exit 2)
    ·simp(disch:=first|exact dz|fail) only[simprocAttr,Gc,↓reduceIte,Ma,e27,e28,c']
     rfl
    ·simp
    ·exact⟨rfl,g,ks',m',vi⟩) _ ⟨0,ks,h28,oM,rfl,Keeps.refl _ _,m,(Hw.refl s ks).weaken fun b=>by simp⟩
 exact⟨E',H',ks',hr.symm.trans e,g,q1,q2,fr⟩
theorem GbH(k:s.Ok){mb c2 c6 c7:Nat}{H:Gb}{ks:List Int}(m:N8 H mb s ks)(v:Ov H hb s L mb c2 c6 c7){w:CV}(hw:LI H w s.all)
  {E0:Env}(h2:E0 2=.ptr c2 0)(h6:E0 6=.ptr c6 0)(h9:E0 9=.Gf)(h43:E0 43=w)(h44:E0 44=.i s.objs.length)(h45:E0 45=.i 0){r:Option (CX×Env×Gb)}(hr:den P (.loop Z8) E0 H=r):
  ∃E' H' w',r=some (.exit 4,E',H')∧Gr H H'∧E' 9=w'∧IL H.length H' w' (NM ks s.objs)∧∀t,t∉wr Z8→E' t=E0 t:=by
 have few:=k.few
 have hall:s.all.length=s.objs.length:=by simp[Hp.all]
 obtain⟨x',E',H',e,-,⟨rfl,g,w',q1,q2⟩,fr⟩:=Gy (p:=P) (c:=Z8) (E0:=E0) (H0:=H)
  (fun q E H'=>∃(j:Nat)(w':CV),E 45=.i j∧j≤s.objs.length∧q=s.objs.length-j∧Gr H H'∧E 9=w'∧IL H.length H' w' (NM ks (s.objs.take j)))
  (fun x' E' H'=>x'=.exit 4∧Gr H H'∧∃w',E' 9=w'∧IL H.length H' w' (NM ks s.objs)) (by
   rintro q E H' hE ⟨j,w',e45,hj,rfl,g,e9,p3⟩
   have e2:=(hE 2 dK).trans h2
   have e6:=(hE 6 dK).trans h6
   have e43:=(hE 43 dK).trans h43
   have e44:=(hE 44 dK).trans h44
   have v':=v.frame (Gr.mb g mb)
   have m':=m.frame (g.keep mb m.m.lt fun h=>h)
   have t2:=v'.t2
   have t6:=v'.t6
   by_cases c:j<s.objs.length
   ·have c':decide ((j:Int)<(s.objs.length:Int))=true:=GK oM
    have hx:s.objs[j]?=some s.objs[j]:=J9 c
    obtain⟨x,hxe⟩:∃x,x=s.objs[j]:=⟨_,rfl⟩
    rw[←hxe]at hx
    have hxm:=JX hx
    have Vm:=k.obj hxm
    have hxa:s.all[j]?=some (x.addr:Int):=by simp[Hp.all,hx]
    have hfi:=(k.ob x hxm).fits
    have hnb:=k.nb
    have hnw:s.nw=64*s.blk.length:=rfl
    obtain⟨b,f,i1,i2,i3⟩:=hw.at hxa
    have V3:=i3 H' g
    have hg:=m'.get (x.addr:Int)
    have w1:IntKind.i64.wrap ((j:Int)+1)=((j+1:Nat):Int):=Gh oM
    have hkd:s.Vl (x.addr:Int)=x.kd:=by unfold Hp.Vl;rw[Vm]
    have hll:=MZ ks (s.objs.take j)
    rw[List.length_take]at hll
    suffices fin:∃E' H2 w2,den P Z8 E H'=some (.normal,E',H2)∧E' 45=.i ((j+1:Nat):Int)∧Keeps H' H2 (fun c=>H.length≤c)∧E' 9=w2∧IL H.length H2 w2 (NM ks (s.objs.take (j+1)))by
     obtain⟨E',H2,w2,f1,f2,f3,f4,f5⟩:=fin
     exact Gt f1 (k':=s.objs.length-(j+1)) oM ⟨j+1,w2,f2,oM,rfl,g.news f3,f4,f5⟩
    rw[SI hx]
    by_cases ck:(x.addr:Int)∈ks
    ·rw[GK ck]at hg
     obtain⟨X1,h1,g1⟩:=ME v'.p k (x.addr:Int) oM
     rw[hkd]at h1
     by_cases c2:x.kd=2
     ·have c2':((x.kd:Int) != 2)=false:=by rw[c2];rfl
      have q3:=(k.F6 Vm).2 c2
      have v1:=v'.frame (Gr.mb g1 mb)
      have t2':=v1.t2
      have t6':=v1.t6
      obtain⟨X2,h3,g2⟩:=KF v1.p k (x.addr:Int) 0 oM
      have hr0:s.Jq (x.addr:Int) 0=(x.refs.getD 0 0,0):=by
       have hre:s.refsOf (x.addr:Int)=x.refs:=by unfold Hp.refsOf;rw[Vm]
       exact Hp.Uw (j:=0) (by rw[hre];exact NT q3 oM)
      rw[hr0]at h3
      unfold Uj at h3
      have v2:=v1.frame (Gr.mb g2 mb)
      have m2:=(m'.frame (g1.keep mb m'.m.lt fun h=>h))
      have m3:=m2.frame (g2.keep mb m2.m.lt fun h=>h)
      have GnC:=v2.t2
      have GlD:=v2.t6
      have hg2:=m3.get (x.refs.getD 0 0)
      by_cases c3:x.refs.getD 0 0∈ks
      ·rw[GK c3]at hg2
       obtain⟨X3,h4,g3⟩:=KF v2.p k (x.addr:Int) 1 oM
       have hr1:s.Jq (x.addr:Int) 1=(x.refs.getD 1 0,0):=by
        have hre:s.refsOf (x.addr:Int)=x.refs:=by unfold Hp.refsOf;rw[Vm]
        exact Hp.Uw (j:=1) (by rw[hre];exact NT q3 oM)
       rw[hr1]at h4
       unfold Uj at h4
       have gg:Gr H' X3:=(g1.trans g2).trans g3
       obtain⟨v4,X4,a1,a2,a3⟩:=IL.push (At.keeps p3 gg) (Jr g.len gg.len) oM (x.refs.getD 1 0)
       have hel:elems (X3++[⟨[.i (x.refs.getD 1 0)],.rw,1⟩]) 1 (.slice X3.length 0 1 1 1 false)=some (1,[.i (x.refs.getD 1 0)]):=by
        rw[JC oM]
        simp(disch:=first|exact dz|fail) only[simprocAttr,Gc,↓reduceIte,JW]
       simp(disch:=first|exact dz|fail) only[simprocAttr,Gc,↓reduceIte,Z8,e2,e6,e9,e43,e44,e45,c',i1,V3,t6,JA,hg,t2,h1,c2',t2',h3,GlD,hg2,GnC,h4,fill,splice,and_self,hel,Ja,a1,w1]
       exact⟨_,_,v4,rfl,uA,(gg.weaken fun _ h=>h.elim).trans a3,uA,by rw[if_pos ⟨ck,c2,c3⟩];exact a2⟩
      ·rw[GC c3]at hg2
       simp(disch:=first|exact dz|fail) only[simprocAttr,Gc,↓reduceIte,Z8,e2,e6,e9,e43,e44,e45,c',i1,V3,t6,JA,hg,t2,h1,c2',t2',h3,GlD,hg2,w1]
       exact⟨_,_,w',rfl,uA,((g1.trans g2).weaken fun _ h=>h.elim),by simp[Gg,e9],by rw[if_neg (fun h=>c3 h.2.2),List.append_nil];exact At.keeps p3 (g1.trans g2)⟩
     ·have c2':((x.kd:Int) != 2)=true:=bne_iff_ne.2 oM
      simp(disch:=first|exact dz|fail) only[simprocAttr,Gc,↓reduceIte,Z8,e2,e6,e43,e44,e45,c',i1,V3,t6,JA,hg,t2,h1,c2',w1]
      exact⟨_,_,w',rfl,uA,(g1.weaken fun _ h=>h.elim),by simp[Gg,e9],by rw[if_neg (fun h=>c2 h.2.1),List.append_nil];exact At.keeps p3 g1⟩
    ·rw[GC ck]at hg
     simp(disch:=first|exact dz|fail) only[simprocAttr,Gc,↓reduceIte,Z8,e2,e6,e43,e44,e45,c',i1,V3,t6,JA,hg,w1]
     exact⟨_,_,w',rfl,uA,Keeps.refl _ _,by simp[Gg,e9],by rw[if_neg (fun h=>ck h.1),List.append_nil];exact p3⟩
   ·have c':decide ((j:Int)<(s.objs.length:Int))=false:=GC oM
    rw[NW oM]at p3
    apply Gl (x:=.exit 4)
    ·simp(disch:=first|exact dz|fail) only[simprocAttr,Gc,↓reduceIte,Z8,e44,e45,c']
     rfl
    ·simp
    ·exact⟨rfl,g,w',by simp[Gg,e9],p3⟩) _ ⟨0,.Gf,h45,oM,rfl,Keeps.refl _ _,h9,IL.nil⟩
 exact⟨E',H',w',hr.symm.trans e,g,q1,q2,fr⟩
end
end Go.Cs.Tryz

namespace Go.Cs.Tryz
open Go Go.Cs
section
variable {hb : Nat} {s : Hp} {L : GD}
theorem GgD(k:s.Ok)(hs:QS s){ks:List Int}:∀x∈NM ks s.objs,x≤9223372036854775807:=fun x hx=>by
 obtain⟨o,ho,⟨-,a2,-⟩,rfl⟩:=YB.1 hx
 have q3:=(k.F6 (k.obj ho)).2 a2
 rcases hs o ho _ (JX (NT q3 (i:=1) oM))with h|h
 ·omega
 ·have:=k.has_lt h;omega
theorem Gcj(k:s.Ok)(hs:QS s)(h00:s.has 0=false){st:Int→Prop}{mb c2 c6 c7:Nat}{H:Gb}{ks:List Int}(m:N8 H mb s ks)(v:Ov H hb s L mb c2 c6 c7){todo:List Int}(hl:todo.length≤100000)(hle:∀x∈todo,x≤9223372036854775807){w:CV}(hw:LI H w todo)(hwm:todo≠[]→Gp w≠mb)
  (rd:MH s st 0 ks todo){C:Prop}(hC:C→∀ks':List Int,(∀x∈ks',Kp s st true x)→∀x∈NM ks' s.objs,s.has x=true→x∈ks')
  {E0:Env}(h2:E0 2=.ptr c2 0)(h6:E0 6=.ptr c6 0)(h7:E0 7=.ptr c7 0)(h8:E0 8=.i 0)(h9:E0 9=w){r:Option (CX×Env×Gb)}(hr:den P (.loop PD) E0 H=r):
  ∃E' H' ks' t,r=some (.ret,E',H')∧Keeps H H' (·=mb)∧N8 H' mb s ks'∧E' 4=.GU mb∧E' 5=.i (t:Nat)∧(t=0↔ks'=[])∧(∀x,x∈ks'↔Kp s st true x)∧(C→t≤1):=by
 have few:=k.few
 obtain⟨x',E',H',e,-,⟨rfl,g,ks',t,q⟩,fr⟩:=Gy (p:=P) (c:=PD) (E0:=E0) (H0:=H)
  (fun q E H'=>∃(t:Nat)(ks' todo:List Int)(w:CV),E 8=.i t∧E 9=w∧q=4100-ks'.length∧Keeps H H' (·=mb)∧N8 H' mb s ks'∧LI H' w todo∧(todo≠[]→Gp w≠mb)∧todo.length≤100000∧(∀x∈todo,x≤9223372036854775807)∧MH s st t ks' todo∧(C→t≤1∧(t=1→∀x∈todo,s.has x=true→x∈ks')))
  (fun x' E' H'=>x'=.ret∧Keeps H H' (·=mb)∧∃(ks':List Int)(t:Nat),N8 H' mb s ks'∧E' 4=.GU mb∧E' 5=.i t∧(t=0↔ks'=[])∧(∀x,x∈ks'↔Kp s st true x)∧(C→t≤1)) (by
   rintro q E H' hE ⟨t,ks',todo,w,e8,e9,rfl,g,m',hw,hwm,hl,hle,rd,hct⟩
   have e2:=(hE 2 dK).trans h2
   have e6:=(hE 6 dK).trans h6
   have e7:=(hE 7 dK).trans h7
   have v':=v.frame g
   have t6:=v'.t6
   have hml:=m'.m.len
   have hwl:=hw.len H'
   have Wn:=m'.few k
   suffices fin:∃x E' H2,den P PD E H'=some (x,E',H2)∧((x=.normal∧∃(Zh Hq:List Int)(w2:CV),E' 8=.i ((t+1:Nat):Int)∧E' 9=w2∧ks'.length<Zh.length∧Keeps H' H2 (·=mb)∧N8 H2 mb s Zh∧LI H2 w2 Hq∧(Hq≠[]→Gp w2≠mb)∧Hq.length≤100000∧(∀x∈Hq,x≤9223372036854775807)∧MH s st (t+1) Zh Hq∧(C→t+1≤1∧(t+1=1→∀x∈Hq,s.has x=true→x∈Zh)))∨
     (x=.ret∧Keeps H' H2 (·=mb)∧N8 H2 mb s ks'∧E' 4=.GU mb∧E' 5=.i t∧∀x,x∈ks'↔Kp s st true x))by
    obtain⟨x,E',H2,f1,⟨rfl,Zh,Hq,w2,f2,f3,f4,f5,f6,f7,f8,f9,f10,f11,f12⟩|⟨rfl,f2,f3,f4,f5,f6⟩⟩:=fin
    ·have hf2:=f6.few k
     exact Gt f1 (k':=4100-Zh.length) oM ⟨t+1,Zh,Hq,w2,f2,f3,rfl,g.trans f5,f6,f7,f8,f9,f10,f11,f12⟩
    ·refine Gl f1 sM ⟨rfl,g.trans f2,ks',t,f3,f4,f5,?_,f6,fun hc=>(hct hc).1⟩
     rcases rd.ze with⟨h,h'⟩|⟨h,h'⟩
     ·exact⟨fun _=>h',fun _=>h⟩
     ·exact⟨fun e=>by omega,fun e=>absurd e h'⟩
   simp(disch:=first|exact dz|fail) only[simprocAttr,Gc,↓reduceIte,PD,e6,t6,BF,hml,e9,hwl]
   generalize hr:den P (.loop Ma) _ _=r
   obtain⟨E2,X2,Zh,rfl,g2,m2,vi,f2⟩:=Gcf k hs m' v' hl hle hw hwm (by simp[Gg,e7]) uA uA uA hr
   have b2:=f2 2 dK
   have b6:=f2 6 dK
   have b8:=f2 8 dK
   have b10:=f2 10 dK
   simp only[Gg,Nat.reduceEqDiff,↓reduceIte,e2,e6,e8]at b2 b6 b8 b10
   have v2:=v'.frame g2
   have t6':=v2.t6
   have t2':=v2.t2
   have Gls:=m2.m.len
   have hle2:=vi.pre.length_le
   have Gs2:=m2.few k
   by_cases c:Zh.length=ks'.length
   ·obtain⟨rfl,hk⟩:=rd.fin k h00 vi c
    have c':((Zh.length:Int)==(Zh.length:Int))=true:=by simp
    simp(disch:=first|exact dz|fail) only[simprocAttr,Gc,↓reduceIte,b6,b8,b10,t6',BF,Gls,c']
    exact⟨_,_,_,rfl,.inr ⟨rfl,g2,m2,uA,uA,hk⟩⟩
   ·have c':((Zh.length:Int)==(ks'.length:Int))=false:=VZ.2 oM
    obtain⟨w3,X3,h3,g3,li3⟩:=LM v2.p k
    have hw3:=li3.len X3
    have hall:s.all.length=s.objs.length:=by simp[Hp.all]
    rw[hall]at hw3
    have v3:=v2.frame (Gr.mb g3 mb)
    have m3:=m2.frame (g3.keep mb m2.m.lt fun h=>h)
    simp(disch:=first|exact dz|fail) only[simprocAttr,Gc,↓reduceIte,b2,b6,b8,b10,t6',BF,Gls,c',t2',h3,hw3]
    generalize hr:den P (.loop Z8) _ _=r
    obtain⟨E4,X4,w4,rfl,g4,a9,li4,f4⟩:=GbH k m3 v3 li3.li (by simp[Gg,b2]) (by simp[Gg,b6]) uA uA uA uA hr
    have d8:=f4 8 dK
    simp only[Gg,Nat.reduceEqDiff,↓reduceIte,b8]at d8
    have htl:=rd.tl
    have w1:IntKind.i64.wrap ((t:Int)+1)=((t+1:Nat):Int):=Gh oM
    simp(disch:=first|exact dz|fail) only[simprocAttr,Gc,↓reduceIte,d8,w1]
    have O5:=m3.m.lt
    have hnx:=rd.next k vi c
    refine⟨_,_,_,rfl,.inl ⟨rfl,Zh,NM Zh s.objs,w4,uA,by simp[Gg,a9],oM,(g2.trans (Gr.mb g3 mb)).trans (Gr.mb g4 mb),m3.frame (g4.keep mb O5 fun h=>h),li4.li,fun h e=>?_,?_,GgD k hs,hnx,fun hc=>?_⟩⟩
    ·obtain⟨tl,a1,a2,a3,a4⟩:=li4.pos (BQ.2 h)
     have:=(Gn.1 a2).1
     omega
    ·have:=MZ Zh s.objs
     omega
    ·obtain⟨ht,hq⟩:=hct hc
     rcases QU t 1 with h|h
     ·exact⟨oM,fun _=>hC hc Zh hnx.kp⟩
     ·exfalso
      have ht1:t=1:=by omega
      obtain⟨rest,hrest⟩:=vi.pre
      have hnd:=m2.m.nodup
      rw[←hrest]at c hnd
      cases rest with
      |nil=>exact c sM
      |cons z rest=>
       have hz:z∉ks':=fun h=>by
        rw[List.nodup_append]at hnd
        exact hnd.2.2 z h z NC rfl
       exact hz (vi.new (fun a=>a∈ks') (fun x b hx hb hh=>rd.cl x hx b hb hh) (hq ht1) z (by rw[←hrest];simp) hz)) _ ⟨0,ks,todo,w,h8,h9,rfl,Keeps.refl _ _,m,hw,hwm,hl,hle,rd,fun _=>⟨oM,fun h=>by omega⟩⟩
 obtain⟨q1,q2,q3,q4,q5,q6⟩:=q
 exact⟨E',H',ks',t,hr.symm.trans e,g,q1,q2,q3,q4,q5,q6⟩
theorem Gch{H:Gb}{b o m:Nat}:MV 1 H (.ptr b o) (.GU m)=(OT H b H[b]? o [.GU m]).map fun H'=>(.undef,H'):=Q8 rfl
theorem Gj7{H:Gb}{b o m e:Nat}{cs:List CV}(h:o<cs.length):OT H b (some ⟨cs,.rw,e⟩) o [.GU m]=some (H.set b ⟨cs.set o (.GU m),.rw,e⟩):=ZM rfl h
theorem RQ{H:Gb}(p:PH H hb s L)(k:s.Ok)(hs:QS s)(h00:s.has 0=false){starts:List Int}(hn:starts.length≤100000)(hle:∀x∈starts,x≤9223372036854775807){w:CV}(hw:LI H w starts){C:Prop}(hC:C→∀ks':List Int,(∀x∈ks',Kp s (fun a=>a∈starts) true x)→∀x∈NM ks' s.objs,s.has x=true→x∈ks'):
  ∃mb H' ks t,run P 43 [.ptr hb 0,w] H=some (.Ju [.GU mb,.i (t:Nat)],H')∧Gr H H'∧H.length≤mb∧N8 H' mb s ks∧(t=0↔ks=[])∧(∀x,x∈ks↔Kp s (fun a=>a∈starts) true x)∧(C→t≤1):=by
 obtain⟨X,hX⟩:∃X:Gb,X=H++[⟨[.ptr hb 0],.rw,0⟩]++[⟨[],.map,0⟩]++[⟨[.GU (H.length+1)],.rw,0⟩]++[⟨[.func 131 [.ptr H.length 0,.ptr (H.length+2) 0,.ptr (H.length+3) 0]],.rw,0⟩]:=⟨_,rfl⟩
 have gX:Gr H X:=by rw[hX];exact(((Gr.app H _).app' _).app' _).app' _
 have lX:X.length=H.length+4:=by rw[hX];simp
 have v:Ov X hb s L (H.length+1) H.length (H.length+2) (H.length+3):=⟨p.gr gX,fun h=>by have:=p.lt _ h;omega,by rw[hX];simp,by rw[hX];simp,by rw[hX];simp,oM,oM,oM⟩
 have m:N8 X (H.length+1) s []:=⟨⟨[],by rw[hX];simp[Kc],rfl,List.nodup_nil,fun k v=>by simp⟩,fun x hx=>(by cases hx)⟩
 have rd:MH s (fun a=>a∈starts) 0 [] starts:=⟨fun x hx=>(by cases hx),fun x hx hh=>.start hx hh,fun x hx=>(by cases hx),fun a ha hh=>.inr ha,fun o ho h=>(by cases h),.inl ⟨rfl,rfl⟩,Nat.le_refl _⟩
 rw[Gi c43 _ _ sM]
 simp(disch:=first|exact dz|fail) only[simprocAttr,Gc,↓reduceIte,Gj,BX,Gch,Gj7]
 rw[show H.length+1+1=H.length+2 from rfl,show H.length+2+1=H.length+3 from rfl,←hX]
 generalize hr:den P (.loop PD) _ _=r
 obtain⟨E',X2,ks,t,rfl,g,m2,a4,a5,q1,q2,q3⟩:=Gcj k hs h00 m v hn hle (hw.gr gX) (fun h e=>by
  obtain⟨tl,a1,a2,a3,a4⟩:=hw.pos (BQ.2 h)
  have:=Gd a3
  omega) rd hC uA uA uA uA uA hr
 simp(disch:=first|exact dz|fail) only[simprocAttr,Gc,↓reduceIte,a4,a5]
 exact⟨H.length+1,X2,ks,t,rfl,⟨by have:=g.len;omega,fun c hc _=>by rw[g.keep c oM oM,gX.keep c hc fun h=>h]⟩,oM,m2,q1,q2,q3⟩
end
end Go.Cs.Tryz
namespace Go.Cs.Tryz
open Go Go.Cs A
def C42:Gm:=⟨19,0,T [n 4 0] (S (B 0 (T [m 6 0,q1 7 49 6,bk 8 .leq 7 0,m 9 8,gf 9 (m 10 1),gf 9 (q1 11 130 10),gf 9 (bk 12 .eql 11 0),or 13 9 12,m 5 13] (C 5 (Q [n 4 1]) (T [m 15 0,m 16 1,q2 17 97 15 16,no 18 17,m 14 18] (I 14 (Q [n 4 5])))))) (Q [n 4 0])),[r 4]⟩
theorem c42:P 42=some C42:=by kernel_rfl
def M6:Gu:=T [b 34 .lss 33 32] (S (J 34 (X 2)) (S (B 3 (T [m 35 33,m 10 35] (T [l 37 1 2,m 38 7,m 39 10,q3 40 76 37 38 39,m 36 40,ex 41 36 0,ex 42 36 1,m 11 41,m 12 42] (T [m 43 5,m 44 11,e 45 (.Nz (t 43) [t 44] [(304,"dustcart/alloc.place",335),(305,"dustcart/alloc.place",340),(306,"dustcart/alloc.place",348),(307,"dustcart/alloc.place",349),(308,"dustcart/alloc.place",353)])] (I 45 (Q [nb 4 false])))))) (R [bk 46 .add 33 1,m 33 46])))
def Fj:Gu:=T [b 22 .lss 21 20] (S (J 22 (X 0)) (S (B 1 (T [x 23 1 19 21,l 24 1 23,m 7 24] (T [l 26 1 2,m 27 7,q2 28 75 26 27,m 25 28,ex 29 25 0,ex 30 25 1,e 8 (.new [i 0,i 0,i 0]),st 3 8 29,m 9 30] (T [f 31 0 8,l 32 1 31,n 33 0] (B 2 (W M6)))))) (R [bk 47 .add 21 1,m 21 47])))
def C97:Gm:=⟨48,0,T [bo 2 0,nb 4 false] (T [e 13 (.NY 193 [t 2]),m 5 13] (S (T [m 14 1,q1 15 44 14,m 16 5,q2 17 194 15 16] (I 17 (Q [nb 4 false]))) (S (T [l 18 1 2,q1 19 73 18,le 20 19,n 21 0] (B 0 (W Fj))) (Q [nb 4 true])))),[r 4]⟩
theorem c97:P 97=some C97:=by kernel_rfl
def GnR:Gm:=⟨12,0,T [nb 3 false] (Q [m 4 0,bk 5 .neq 4 0,m 6 5,gt 6 (l 7 1 1),gt 6 (m 8 0),gt 6 (q2 9 50 7 8),gt 6 (no 10 9),an 11 6 10,m 3 11]),[r 3]⟩
theorem c193:P 193=some GnR:=by kernel_rfl
end Go.Cs.Tryz
namespace Go.Cs.Tryz
open Go Go.Cs
section
variable {H : Gb} {hb : Nat} {s : Hp} {L : GD}
theorem Lb(p:PH H hb s L)(k:s.Ok){c2:Nat}(t2:H[c2]?=some ⟨[.ptr hb 0],.rw,0⟩) {x:Int} (hx:x=0∨s.has x=true):run P 193 [.i x,.ptr c2 0] H=some (.bool false,H):=by
 rw[Gi c193 _ _ sM]
 by_cases c:x=0
 ·have c':(x != 0)=false:=by rw[c];rfl
  simp(disch:=first|exact dz|fail) only[simprocAttr,Gc,↓reduceIte,Gj,c']
 ·have c':(x != 0)=true:=by simpa using c
  have hh:s.has x=true:=by
   rcases hx with h|h
   ·exact absurd h c
   ·exact h
  have h1:=QA p k x (by have:=k.has_lt hh;omega)
  rw[hh]at h1
  simp(disch:=first|exact dz|fail) only[simprocAttr,Gc,↓reduceIte,Gj,c',t2,h1]
theorem Gf9(k:s.Ok)(hs:QS s)(p:PH H hb s L){c2:Nat}(t2:H[c2]?=some ⟨[.ptr hb 0],.rw,0⟩) {x:Ob} (hx:x∈s.objs)
  {E0:Env} (h2:E0 2=.ptr c2 0) (h5:E0 5=.func 193 [.ptr c2 0]) (h7:E0 7=.i x.addr) (h32:E0 32=.i x.refs.length) (h33:E0 33=.i 0) {r:Option (CX×Env×Gb)} (hr:den P (.loop M6) E0 H=r):
  ∃E' H',r=some (.exit 2,E',H')∧Gr H H'∧∀t,t∉wr M6→E' t=E0 t:=by
 have Vm:=k.obj hx
 have hok:=k.ob x hx
 have hnr:=hok.nr
 have hfi:=hok.fits
 have hnb:=k.nb
 have hnw:s.nw=64*s.blk.length:=rfl
 have hre:s.refsOf (x.addr:Int)=x.refs:=by unfold Hp.refsOf;rw[Vm]
 obtain⟨x',E',H',e,-,⟨rfl,g⟩,fr⟩:=Gy (p:=P) (c:=M6) (E0:=E0) (H0:=H)
  (fun q E H'=>∃j:Nat,E 33=.i j∧j≤x.refs.length∧q=x.refs.length-j∧Gr H H')
  (fun x' E' H'=>x'=.exit 2∧Gr H H') (by
   rintro q E H' hE ⟨j,e33,hj,rfl,g⟩
   have e2:=(hE 2 dK).trans h2
   have e5:=(hE 5 dK).trans h5
   have e7:=(hE 7 dK).trans h7
   have e32:=(hE 32 dK).trans h32
   have t2':=g.get t2
   by_cases c:j<x.refs.length
   ·have c':decide ((j:Int)<(x.refs.length:Int))=true:=GK oM
    have hr:x.refs[j]?=some x.refs[j]:=J9 c
    obtain⟨X,h1,g1⟩:=KF (p.gr g) k (x.addr:Int) j oM
    rw[Hp.Uw (by rw[hre];exact hr)]at h1
    unfold Uj at h1
    have h3:=Lb ((p.gr g).gr g1) k (g1.get t2') (hs x hx _ (JX hr))
    have w1:IntKind.i64.wrap ((j:Int)+1)=((j+1:Nat):Int):=Gh oM
    apply Gt (k':=x.refs.length-(j+1))
    ·simp(disch:=first|exact dz|fail) only[simprocAttr,Gc,↓reduceIte,M6,e2,e5,e7,e32,e33,c',t2',h1,Jd,JF,h3,w1]
     rfl
    ·omega
    ·exact⟨j+1,uA,oM,rfl,g.trans g1⟩
   ·have c':decide ((j:Int)<(x.refs.length:Int))=false:=GC oM
    apply Gl (x:=.exit 2)
    ·simp(disch:=first|exact dz|fail) only[simprocAttr,Gc,↓reduceIte,M6,e32,e33,c']
     rfl
    ·simp
    ·exact⟨rfl,g⟩) _ ⟨0,h33,oM,rfl,Keeps.refl _ _⟩
 exact⟨E',H',hr.symm.trans e,g,fr⟩
theorem GeG(k:s.Ok)(hs:QS s)(p:PH H hb s L){c2:Nat}(t2:H[c2]?=some ⟨[.ptr hb 0],.rw,0⟩) {w:CV} (hw:LI H w s.all)
  {E0:Env} (h2:E0 2=.ptr c2 0) (h5:E0 5=.func 193 [.ptr c2 0]) (h19:E0 19=w) (h20:E0 20=.i s.objs.length) (h21:E0 21=.i 0) {r:Option (CX×Env×Gb)} (hr:den P (.loop Fj) E0 H=r):
  ∃E' H',r=some (.exit 0,E',H')∧Gr H H'∧∀t,t∉wr Fj→E' t=E0 t:=by
 have few:=k.few
 obtain⟨x',E',H',e,-,⟨rfl,g⟩,fr⟩:=Gy (p:=P) (c:=Fj) (E0:=E0) (H0:=H)
  (fun q E H'=>∃j:Nat,E 21=.i j∧j≤s.objs.length∧q=s.objs.length-j∧Gr H H')
  (fun x' E' H'=>x'=.exit 0∧Gr H H') (by
   rintro q E H' hE ⟨j,e21,hj,rfl,g⟩
   have e2:=(hE 2 dK).trans h2
   have e5:=(hE 5 dK).trans h5
   have e19:=(hE 19 dK).trans h19
   have e20:=(hE 20 dK).trans h20
   have t2':=g.get t2
   by_cases c:j<s.objs.length
   ·have c':decide ((j:Int)<(s.objs.length:Int))=true:=GK oM
    have hx:s.objs[j]?=some s.objs[j]:=J9 c
    obtain⟨x,hxe⟩:∃x,x=s.objs[j]:=⟨_,rfl⟩
    rw[←hxe]at hx
    have hxm:=JX hx
    have Vm:=k.obj hxm
    have hxa:s.all[j]?=some (x.addr:Int):=by simp[Hp.all,hx]
    have hfi:=(k.ob x hxm).fits
    have hnb:=k.nb
    have hnw:s.nw=64*s.blk.length:=rfl
    obtain⟨b,f,i1,i2,i3⟩:=hw.at hxa
    have V3:=i3 H' g
    have w1:IntKind.i64.wrap ((j:Int)+1)=((j+1:Nat):Int):=Gh oM
    obtain⟨X,h1,g1⟩:=NA (p.gr g) k (x.addr:Int) oM
    have hsv:s.JR (x.addr:Int)=(Je x.refs.length x.data.length x.kd,0):=by unfold Hp.JR;rw[Vm]
    rw[hsv]at h1
    unfold Je at h1
    obtain⟨X1,hX1⟩:∃X1:Gb,X1=X++[⟨[.i x.refs.length,.i x.data.length,.i x.kd],.rw,0⟩]:=⟨_,rfl⟩
    have g2:Gr X X1:=by rw[hX1];exact Gr.app _ _
    have t1:X1[X.length]?=some ⟨[.i x.refs.length,.i x.data.length,.i x.kd],.rw,0⟩:=by rw[hX1];simp
    have gg:Gr H' X1:=g1.trans g2
    suffices fin:∃E' H2,den P Fj E H'=some (.normal,E',H2)∧E' 21=.i ((j+1:Nat):Int)∧Gr H' H2 by
     obtain⟨E',H2,f1,f2,f3⟩:=fin
     exact Gt f1 (k':=s.objs.length-(j+1)) oM ⟨j+1,f2,oM,rfl,g.trans f3⟩
    simp(disch:=first|exact dz|fail) only[simprocAttr,Gc,↓reduceIte,Fj,e2,e5,e19,e20,e21,c',i1,V3,t2',h1]
    rw[←hX1]
    generalize hr:den P (.loop M6) _ _=r
    obtain⟨E2,X2,rfl,g3,f2⟩:=Gf9 k hs ((p.gr g).gr gg) (gg.get t2') hxm (by simp[Gg,e2]) (by simp[Gg,e5]) uA uA uA hr
    have b21:=f2 21 dK
    simp only[Gg,Nat.reduceEqDiff,↓reduceIte,e21]at b21
    simp(disch:=first|exact dz|fail) only[simprocAttr,Gc,↓reduceIte,b21,w1]
    exact⟨_,_,rfl,uA,gg.trans g3⟩
   ·have c':decide ((j:Int)<(s.objs.length:Int))=false:=GC oM
    apply Gl (x:=.exit 0)
    ·simp(disch:=first|exact dz|fail) only[simprocAttr,Gc,↓reduceIte,Fj,e20,e21,c']
     rfl
    ·simp
    ·exact⟨rfl,g⟩) _ ⟨0,h21,oM,rfl,Keeps.refl _ _⟩
 exact⟨E',H',hr.symm.trans e,g,fr⟩
theorem Gd0{o:Tags}{rb:Nat}{R:Rt}{v:Nat→CV}(p:PH H hb s L)(k:s.Ok)(m:K9 o H rb R v)(kr:R.Ok)(hs:VN s R):∃H',run P 97 [.ptr hb 0,.ptr rb 0] H=some (.bool true,H')∧Gr H H':=by
 obtain⟨X,hX⟩:∃X:Gb,X=H++[⟨[.ptr hb 0],.rw,0⟩]:=⟨_,rfl⟩
 have gX:Gr H X:=by rw[hX];exact Gr.app _ _
 have tX:X[H.length]?=some ⟨[.ptr hb 0],.rw,0⟩:=by rw[hX];simp
 obtain⟨w,X1,h1,g1,li⟩:=ZT (m.gr gX) kr
 have p1:=(p.gr gX).gr g1
 have t1:=g1.get tX
 have hvl:=kr.Vs
 have hll:=Qv R.vis
 have hc:=AQ (IL.sl li) (fn:=193) oM (caps:=[.ptr H.length 0]) (p:=fun _=>false) (fun x hx=>Lb p1 k t1 (by
  obtain⟨h2,-⟩:=Rt.Im.1 (Vz.1 hx)
  exact hs.2.1 x h2)) oM
 have hany:((Jc R.vis).any fun _=>false)=false:=by simp
 rw[hany]at hc
 obtain⟨w2,X2,h2,g2,li2⟩:=LM p1 k
 have hw2:=li2.len X2
 have hall:s.all.length=s.objs.length:=by simp[Hp.all]
 rw[hall]at hw2
 rw[Gi c97 _ _ sM]
 simp(disch:=first|exact dz|fail) only[simprocAttr,Gc,↓reduceIte,Gj]
 rw[←hX]
 simp(disch:=first|exact dz|fail) only[simprocAttr,Gc,↓reduceIte,h1,hc,t1,h2,hw2]
 generalize hr:den P (.loop Fj) _ _=r
 obtain⟨E3,X3,rfl,g3,f3⟩:=GeG k hs.1 (p1.gr g2) (g2.get t1) li2.li uA uA uA uA uA hr
 simp(disch:=first|exact dz|fail) only[simprocAttr,Gc,↓reduceIte]
 exact⟨_,rfl,((gX.trans g1).trans g2).trans g3⟩
theorem Lp{o:Tags}{rb:Nat}{R:Rt}{v:Nat→CV}(p:PH H hb s L)(k:s.Ok)(m:K9 o H rb R v)(kr:R.Ok)(hs:VN s R):∃H',run P 42 [.ptr hb 0,.ptr rb 0] H=some (.i 0,H')∧Gr H H':=by
 have h1:=KD p k
 have h2:=Zy m kr
 obtain⟨X,h3,g⟩:=Gd0 p k m kr hs
 have hnb:=k.nb
 have hns:=kr.ns
 have c1:decide ((s.blk.length:Int)≤0)=false:=GC oM
 have c2:((R.slots.length:Int)==0)=false:=VZ.2 oM
 refine⟨X,?_,g⟩
 rw[Gi c42 _ _ sM]
 simp(disch:=first|exact dz|fail) only[simprocAttr,Gc,↓reduceIte,Gj,h1,h2,c1,c2,h3]
end
end Go.Cs.Tryz
namespace Go.Cs.Tryz
open Go Go.Cs A
def C13:Gm:=⟨27,0,T [e 4 (.K7 (c .Gf)),n 5 0,n 6 0] (S (T [m 10 0,m 11 1,q2 12 42 10 11,m 7 12] (T [m 13 7,bk 14 .neq 13 0] (I 14 (Q [m 15 7,e 4 (.K7 (c .Gf)),n 5 0,m 6 15])))) (T [m 17 0,m 18 1,q1 19 44 18,q2 20 43 17 19,m 16 20,ex 21 16 0,ex 22 16 1,m 8 21,m 9 22] (Q [m 23 8,q1 24 46 23,q1 25 45 24,m 26 9,m 4 25,m 5 26,n 6 0]))),[r 4,r 5,r 6]⟩
theorem c13:P 13=some C13:=by kernel_rfl
def C45:Gm:=⟨1,0,R [e 1 (.KL 138 (t 0))],[r 1]⟩
theorem c45:P 45=some C45:=by kernel_rfl
def C46:Gm:=⟨4,0,T [bo 1 0,e 2 (.K7 (c .nilFunc))] (Q [e 3 (.NY 138 [t 1]),m 2 3]),[r 2]⟩
theorem c46:P 46=some C46:=by kernel_rfl
end Go.Cs.Tryz
namespace Go.Cs.Tryz
open Go Go.Cs
section
variable {H : Gb} {hb : Nat} {s : Hp} {L : GD}
theorem Gh_{E:Env}{t u v:Nat}:fin [.tmp t,.tmp u,.tmp v] E H=some (.Ju [E t,E u,E v],H):=rfl
theorem F7(k:s.Ok){mb:Nat}{ks:List Int}(m:N8 H mb s ks):
  ∃w H' b,run P 46 [.GU mb] H=some (.func 138 [.ptr b 0],H++[⟨[.GU mb],.rw,0⟩])∧run P 45 [.func 138 [.ptr b 0]] (H++[⟨[.GU mb],.rw,0⟩])=some (w,H')∧Gr H H'∧IL H.length H' w (Qd ks):=by
 obtain⟨X,hX⟩:∃X:Gb,X=H++[⟨[.GU mb],.rw,0⟩]:=⟨_,rfl⟩
 have gX:Gr H X:=by rw[hX];exact Gr.app _ _
 have tX:X[H.length]?=some ⟨[.GU mb],.rw,0⟩:=by rw[hX];simp
 have m':=m.frame (gX.keep mb m.m.lt fun h=>h)
 have Wn:=m.few k
 obtain⟨w,H',h1,g1,li⟩:=m'.m.keys (b0:=H.length) (g:=138) tX (by unfold JG;omega) (fun x hx=>by
  have:=k.has_lt (m.has x hx)
  unfold Hg
  rw[GK oM,GK oM];rfl)
 have hgl:=gX.len
 refine⟨w,H',H.length,?_,?_,gX.trans g1,li.frame (fun c h=>Gn.2 ⟨by have:=(Gn.1 h).1;omega,(Gn.1 h).2⟩) fun _ _=>rfl⟩
 ·rw[Gi c46 _ _ sM]
  simp(disch:=first|exact dz|fail) only[simprocAttr,Gc,↓reduceIte,Gv,show∀b:Nat,cellsOf (CV.GU b)=[CV.GU b]from fun _=>rfl]
 ·rw[←hX,Gi c45 _ _ sM]
  simp(disch:=first|exact dz|fail) only[simprocAttr,Gc,↓reduceIte,Gv,Oo,h1]
theorem MO{o:Tags}{rb:Nat}{R:Rt}{v:Nat→CV}(p:PH H hb s L)(k:s.Ok)(m:K9 o H rb R v)(kr:R.Ok)(hs:VN s R){C:Prop}(hC:C→∀ks':List Int,(∀x∈ks',XN s R x)→∀x∈NM ks' s.objs,s.has x=true→x∈ks'):
  ∃w H' l t,run P 13 [.ptr hb 0,.ptr rb 0] H=some (.Ju [w,.i (t:Nat),.i 0],H')∧Gr H H'∧LI H' w l∧Zj l∧(∀x,x∈l↔XN s R x)∧(t=0↔l=[])∧(C→t≤1):=by
 obtain⟨X1,h1,g1⟩:=Lp p k m kr hs
 obtain⟨w2,X2,h2,g2,li2⟩:=ZT (m.gr g1) kr
 have hvl:=kr.Vs
 have hll:=Qv R.vis
 have hmem:∀a,a∈Jc R.vis↔a∈R.vals∧a≠0:=fun a=>by rw[Vz,Rt.Im]
 obtain⟨mb,X3,ks,t,h3,g3,-,m3,q1,q2,q3⟩:=RQ ((p.gr g1).gr g2) k hs.1 hs.2.2.has (starts:=Jc R.vis) oM (fun x hx=>by
  rcases hs.2.1 x ((hmem x).1 hx).1 with h|h
  ·omega
  ·have:=k.has_lt h;omega) li2.li (C:=C) (fun hc ks' hk=>hC hc ks' fun x hx=>(hk x hx).mono fun a h=>(hmem a).1 h)
 obtain⟨w4,X4,b,h4,h5,g4,li4⟩:=F7 k m3
 refine⟨w4,X4,Qd ks,t,?_,((g1.trans g2).trans g3).trans g4,li4.li,M8 m3.m.nodup,fun x=>?_,?_,q3⟩
 ·rw[Gi c13 _ _ sM]
  simp(disch:=first|exact dz|fail) only[simprocAttr,Gc,↓reduceIte,Gj,h1,h2,h3,h4,h5,Gh_]
 ·rw[LX,q2]
  exact⟨fun h=>h.mono fun a h=>(hmem a).1 h,fun h=>h.mono fun a h=>(hmem a).2 h⟩
 ·rw[q1]
  exact⟨fun h=>by rw[h];rfl,fun h=>Bo (by rw[←V_,h];rfl)⟩
theorem Gb8{o:Tags}{rb:Nat}{R:Rt}{v:Nat→CV}(p:PH H hb s L)(k:s.Ok)(m:K9 o H rb R v)(kr:R.Ok)(hs:VN s R):
  ∃w H' l t,run P 13 [.ptr hb 0,.ptr rb 0] H=some (.Ju [w,.i (t:Nat),.i 0],H')∧Gr H H'∧LI H' w l∧Zj l∧(∀x,x∈l↔XN s R x)∧(t=0↔l=[]):=by
 obtain⟨w,H',l,t,h1,h2,h3,h4,h5,h6,-⟩:=MO p k m kr hs (C:=False) (fun h=>h.elim)
 exact⟨w,H',l,t,h1,h2,h3,h4,h5,h6⟩
end
end Go.Cs.Tryz

namespace Go.Cs
open Go
def GcX(f:Int→Option CV)(n:Int):Int→Option CV:=fun k=>if k=n then none else f k
theorem NQ.del{H:Gb}{b:Nat}{f:Int→Option CV}{ks:List Int}(m:NQ H b f ks)(n:Int):∃H' ks',Vn .i64 (.GU b) (.i n) H=some (.Ju [],H')∧Keeps H H' (·=b)∧NQ H' b (GcX f n) ks'∧H'.length=H.length:=by
 have hmem:=m.mem (n:=n)
 obtain⟨l,h1,h0,h2,h3,h4⟩:=m.entries
 cases e:f n with
 |none=>
  have hf:=YQ (n:=n) (l:=l) (i:=0) fun w hw=>by rw[(h4 n w).1 hw]at e;cases e
  refine⟨H.set b ⟨Kc l,.map,0⟩,ks,?_,Keeps.set (w:=fun c=>c=b) (Keeps.refl H _) (.inl rfl) _,⟨l,by rw[KI (Gd h1)],h2,h3,fun k w=>?_⟩,sM⟩
  ·unfold Vn Qf
   dsimp only
   rw[if_pos rfl,h0,Option.bind_some,hf,Option.bind_some]
   dsimp only
   unfold J2
   rw[h1]
   dsimp only
   rw[if_pos ⟨rfl,rfl,(QO l).2⟩]
   rfl
  ·rw[h4]
   unfold GcX
   by_cases c:k=n
   ·rw[if_pos c,c,e]
   ·rw[if_neg c]
 |some w0=>
  obtain⟨j,q1,q2⟩:=YF (i:=0) (by rw[h2];exact h3) ((h4 n w0).2 e)
  rw[Nat.zero_add]at q2
  have hj:=Gd q1
  have hks:ks[j]?=some n:=by rw[←h2,Ke,q1];rfl
  refine⟨H.set b ⟨Kc (l.eraseIdx j),.map,0⟩,ks.eraseIdx j,?_,Keeps.set (w:=fun c=>c=b) (Keeps.refl H _) (.inl rfl) _,⟨l.eraseIdx j,by rw[KI (Gd h1)],?_,h3.sublist (List.eraseIdx_sublist _ _),fun k w=>?_⟩,sM⟩
  ·unfold Vn Qf
   dsimp only
   rw[if_pos rfl,h0,Option.bind_some,q2,Option.bind_some]
   dsimp only
   unfold J2
   rw[h1]
   dsimp only
   rw[if_pos ⟨rfl,rfl,(QO l).2⟩]
   simp[Kc,Yc]
  ·rw[←Yc,h2]
  ·rw[List.mem_eraseIdx_iff_getElem?]
   unfold GcX
   constructor
   ·rintro ⟨i,hi,e2⟩
    have hk:k≠n:=by
     rintro rfl
     have e1:ks[i]?=some k:=by rw[←h2,Ke,e2];rfl
     exact hi ((List.getElem?_inj (Gd e1) h3).1 (e1.trans hks.symm))
    rw[if_neg hk]
    exact(h4 k w).1 (JX e2)
   ·intro h
    split at h
    ·cases h
    ·rename_i c
     obtain⟨i,hi⟩:=List.mem_iff_getElem?.1 ((h4 k w).2 h)
     refine⟨i,?_,hi⟩
     rintro rfl
     rw[q1]at hi
     simp only[Gx,Prod.mk.injEq]at hi
     exact c hi.1.symm
structure UN(o:Tags)(H:Gb)(o':Tags)(H':Gb):Prop where
 len:H.length≤H'.length
 keep:∀c,c<H.length→o c=none→H'[c]?=H[c]?
 own:∀c,c<H.length→o' c≠none→o c≠none
theorem UN.trans{o o' o'':Tags}{H H' Eo:Gb}(a:UN o H o' H')(b:UN o' H' o'' Eo):UN o H o'' Eo where
 len:=Jr a.len b.len
 keep:=fun c h hn=>by rw[b.keep c (JH h a.len) (Jo fun h2=>a.own c h h2 hn),a.keep c h hn]
 own:=fun c h h2=>a.own c h (b.own c (JH h a.len) h2)
theorem UN.gr{o:Tags}{H H':Gb}(g:Gr H H'):UN o H o H':=⟨g.len,fun c h _=>g.keep c h fun h=>h,fun _ _ h=>h⟩
def R7(o:Tags)(H:Gb)(f:Int→Option CV)(wf:Int→List Int)(key:Int):Prop:=
 (f key=none∧wf key=[])∨∃v,f key=some v∧0≤key∧(wf key).length≤100000∧At o (1,key.toNat,0) H v 1 (wf key).length (ints (wf key))
structure VA(o:Tags)(H:Gb)(hb:Nat)(s:Hp)(L:GD)(wb mk mw:Nat)(ks:List Int)(wf:Int→List Int)(nt:Nat):Prop where
 p:PH H hb s L
 free:∀c∈L.all hb,o c=none
 dom:∀c t,o c=some t→c<H.length
 ow:o wb=some (0,0,0)
 ok:o mk=some (0,2,0)
 om:o mw=some (0,3,0)
 O8:N8 H mk s ks
 ex:∃lv f wks,H[wb]?=some ⟨[.ptr hb 0,.GU mk,.GU mw,lv,.i nt],.rw,0⟩∧At o (0,1,0) H lv 1 ks.length (ints ks)∧NQ H mw f wks∧∀key,R7 o H f wf key
theorem R7.frame{o o':Tags}{H H':Gb}{f:Int→Option CV}{wf:Int→List Int}{key:Int}(h:R7 o H f wf key)(ho:∀c,o c=some (1,key.toNat,0)→o' c=some (1,key.toNat,0))(hf:∀c,o c=some (1,key.toNat,0)→H'[c]?=H[c]?):R7 o' H' f wf key:=by
 rcases h with h|⟨v,h1,h2,h3,h4⟩
 ·exact .inl h
 ·exact .inr ⟨v,h1,h2,h3,h4.frame ho hf⟩
theorem VA.gr{o:Tags}{H H':Gb}{hb:Nat}{s:Hp}{L:GD}{wb mk mw:Nat}{ks:List Int}{wf:Int→List Int}{nt:Nat}(m:VA o H hb s L wb mk mw ks wf nt)(g:Gr H H'):VA o H' hb s L wb mk mw ks wf nt:=by
 obtain⟨lv,f,wks,h1,h2,h3,h4⟩:=m.ex
 exact⟨m.p.gr g,m.free,fun c t h=>JH (m.dom c t h) g.len,m.ow,m.ok,m.om,m.O8.frame (g.keep _ (m.dom _ _ m.ok) fun h=>h),lv,f,wks,g.get h1,At.keeps h2 g,h3.frame (g.keep _ (m.dom _ _ m.om) fun h=>h),fun key=>(h4 key).frame (fun _ h=>h) fun c h=>g.keep c (m.dom c _ h) fun h=>h⟩
end Go.Cs

namespace Go.Cs
open Go
def V7(wf:Int→List Int)(a:Int):Int→List Int:=fun k=>if k=a then []else wf k
structure Mq(s:Hp)(ar:Int→Prop)(ks:List Int)(wf:Int→List Int)(ks':List Int)(wf':Int→List Int):Prop where
 pre:ks<+:ks'
 got:∀a,ar a→s.has a=true→a∈ks'
 wt:∀key x,x∈wf key→(key∉ks'∧x∈wf' key)∨(key∈ks'∧(s.has x=true→x∈ks'))
 no:∀key,key∈ks'→wf' key=[]
 sub:∀key x,x∈wf' key→x∈wf key
 ln:∀key,(wf' key).length≤(wf key).length
 kp:∀K:Int→Prop,(∀a,ar a→s.has a=true→K a)→(∀x∈ks,K x)→(∀key x,x∈wf key→K key→s.has x=true→K x)→∀x∈ks',K x
theorem Mq.refl{s:Hp}{ks:List Int}{wf:Int→List Int}(h:∀key,key∈ks→wf key=[]):Mq s (fun _=>False) ks wf ks wf where
 pre:=List.prefix_refl _
 got:=fun a h=>h.elim
 wt:=fun key x hx=>.inl ⟨fun hk=>(by rw[h key hk]at hx;cases hx),hx⟩
 no:=h
 sub:=fun _ _ h=>h
 ln:=fun _=>Nat.le_refl _
 kp:=fun K _ h _=>h
theorem Mq.trans{s:Hp}{ar br:Int→Prop}{k l m:List Int}{f g h:Int→List Int}(a:Mq s ar k f l g)(b:Mq s br l g m h):Mq s (fun x=>ar x∨br x) k f m h where
 pre:=a.pre.trans b.pre
 got:=fun x hx hh=>by
  rcases hx with hx|hx
  ·exact b.pre.subset (a.got x hx hh)
  ·exact b.got x hx hh
 wt:=fun key x hx=>by
  rcases a.wt key x hx with⟨h1,h2⟩|⟨h1,h2⟩
  ·exact b.wt key x h2
  ·exact .inr ⟨b.pre.subset h1,fun hh=>b.pre.subset (h2 hh)⟩
 no:=b.no
 sub:=fun key x hx=>a.sub key x (b.sub key x hx)
 ln:=fun key=>Jr (b.ln key) (a.ln key)
 kp:=fun K h1 h2 h3=>b.kp K (fun x hx=>h1 x (.inr hx)) (a.kp K (fun x hx=>h1 x (.inl hx)) h2 h3) fun key x hx=>h3 key x (a.sub key x hx)
theorem Mq.weaken{s:Hp}{ar br:Int→Prop}{k l:List Int}{f g:Int→List Int}(a:Mq s ar k f l g)(e:∀x,br x↔ar x):Mq s br k f l g:=
 ⟨a.pre,fun x hx=>a.got x ((e x).1 hx),a.wt,a.no,a.sub,a.ln,fun K h1=>a.kp K fun x hx=>h1 x ((e x).2 hx)⟩
theorem Mq.mark{s:Hp}{a:Int}{ks ks':List Int}{wf wf':Int→List Int}(ha:s.has a=true)(h:Mq s (fun x=>x∈wf a) (ks++[a]) (V7 wf a) ks' wf'):Mq s (fun x=>x=a) ks wf ks' wf' where
 pre:=(List.prefix_append _ _).trans h.pre
 got:=fun x hx _=>by subst hx;exact h.pre.subset sM
 wt:=fun key x hx=>by
  by_cases c:key=a
  ·subst c
   exact .inr ⟨h.pre.subset sM,fun hh=>h.got x hx hh⟩
  ·exact h.wt key x (by unfold V7;rw[if_neg c];exact hx)
 no:=h.no
 sub:=fun key x hx=>by
  have:=h.sub key x hx
  unfold V7 at this
  split at this
  ·cases this
  ·exact this
 ln:=fun key=>by
  have:=h.ln key
  unfold V7 at this
  split at this
  ·simp only[List.length_nil]at this;omega
  ·exact this
 kp:=fun K h1 h2 h3=>by
  have ka:=h1 a rfl ha
  refine h.kp K (fun x hx hh=>h3 a x hx ka hh) (fun x hx=>?_) fun key x hx=>h3 key x ?_
  ·rw[NG,Uy]at hx
   rcases hx with hx|rfl
   ·exact h2 x hx
   ·exact ka
  ·unfold V7 at hx
   split at hx
   ·cases hx
   ·exact hx
end Go.Cs
namespace Go.Cs.Tryz
open Go Go.Cs
section
variable {H : Gb} {hb : Nat} {s : Hp} {L : GD} {wb mk mw : Nat} {ks : List Int} {wf : Int → List Int} {nt : Nat} {o : Tags}
theorem Gjr(m:VA o H hb s L wb mk mw ks wf nt)(k:s.Ok){a:Int}(ha:s.has a=true)(hn:a∉ks):
  ∃(H1 H2 H3 H5:Gb)(lv lv2 ws:CV)(o':Tags),
   U4 .i64 (.GU mk) (.i a) (.bool true) H=some (.undef,H1)∧H1[wb]?=some ⟨[.ptr hb 0,.GU mk,.GU mw,lv,.i nt],.rw,0⟩∧
   Jv (H1++[⟨[.i a],.rw,1⟩]) 1 lv 1 [.i a]=some (lv2,H2)∧leaf lv2=true∧H2[wb]?=some ⟨[.ptr hb 0,.GU mk,.GU mw,lv,.i nt],.rw,0⟩∧
   H3=H2.set wb ⟨[.ptr hb 0,.GU mk,.GU mw,lv2,.i nt],.rw,0⟩∧H3[wb]?=some ⟨[.ptr hb 0,.GU mk,.GU mw,lv2,.i nt],.rw,0⟩∧
   AA false .i64 .Gf (.GU mw) (.i a) H3=some (ws,H3)∧Vn .i64 (.GU mw) (.i a) H3=some (.Ju [],H5)∧
   VA o' H5 hb s L wb mk mw (ks++[a]) (V7 wf a) nt∧UN o H o' H5∧LI H5 ws (wf a)∧(wf a≠[]→o' (Gp ws)=none)∧(wf a).length≤100000:=by
 obtain⟨lv,f,wks,b1,b2,b3,b4⟩:=m.ex
 have Wn:=m.O8.few k
 obtain⟨H1,h1,g1,ks1,e1⟩:=m.O8.add ha hn
 have n1:wb≠mk:=fun h=>by have h1:=m.ow;rw[h,m.ok]at h1;simp at h1
 have n2:mw≠mk:=fun h=>by have h1:=m.om;rw[h,m.ok]at h1;simp at h1
 have n3:wb≠mw:=fun h=>by have h1:=m.ow;rw[h,m.om]at h1;simp at h1
 have hwb:=m.dom _ _ m.ow
 have hmk:=m.dom _ _ m.ok
 have hmw:=m.dom _ _ m.om
 have t1:H1[wb]?=_:=(g1.keep wb hwb n1).trans b1
 obtain⟨Y,hY⟩:∃Y:Gb,Y=H1++[⟨[.i a],.rw,1⟩]:=⟨_,rfl⟩
 have gY:Gr H1 Y:=by rw[hY];exact Gr.app _ _
 have lY:Y.length=H.length+1:=by rw[hY];simp[e1]
 have b2':At o (0,1,0) Y lv 1 ks.length (ints ks):=b2.frame (fun _ h=>h) fun c h=>by
  have hc:=m.dom c _ h
  rw[gY.keep c oM fun h=>h,g1.keep c hc fun e=>by rw[e,m.ok]at h;simp at h]
 obtain⟨H2,a1,a2,a3,a4⟩:=At.append b2' (k:=1) (new:=[.i a]) oM (by unfold JG;omega) (by simp[Gq]) rfl
 have k2:∀c,c<H.length→o c≠some (0,1,0)→c≠mk→H2[c]?=H[c]?:=fun c hc hn hm=>by
  rw[a4 c oM hn,gY.keep c oM fun h=>h,g1.keep c hc hm]
 have t2:H2[wb]?=_:=(k2 wb hwb (by rw[m.ow];simp) n1).trans b1
 obtain⟨H3,hH3⟩:∃H3:Gb,H3=H2.set wb ⟨[.ptr hb 0,.GU mk,.GU mw,.slice Y.length 0 (ks.length+1) (ks.length+1) 1 true,.i nt],.rw,0⟩:=⟨_,rfl⟩
 have l3:H3.length=Y.length+1:=by rw[hH3,List.length_set,a2]
 have t3:H3[wb]?=some ⟨[.ptr hb 0,.GU mk,.GU mw,.slice Y.length 0 (ks.length+1) (ks.length+1) 1 true,.i nt],.rw,0⟩:=by rw[hH3,KI (Gd t2)]
 have k3:∀c,c<H.length→o c≠some (0,1,0)→c≠mk→c≠wb→H3[c]?=H[c]?:=fun c hc hn hm hw=>by
  rw[hH3,JU (Ne.symm hw),k2 c hc hn hm]
 have m3:NQ H3 mw f wks:=b3.frame (k3 mw hmw (by rw[m.om];simp) n2 (Ne.symm n3))
 have hget:=m3.get false .Gf a
 obtain⟨H5,GqS,d1,d2,d3,d4⟩:=m3.del a
 have k5:∀c,c<H.length→o c≠some (0,1,0)→c≠mk→c≠wb→c≠mw→H5[c]?=H[c]?:=fun c hc hn hm hw hx=>by
  rw[d2.keep c oM hx,k3 c hc hn hm hw]
 have kl:H5[Y.length]?=some ⟨ints ks++[.i a],.rw,1⟩:=by
  rw[d2.keep _ oM oM,hH3,JU oM,a3]
 have t5:H5[wb]?=some ⟨[.ptr hb 0,.GU mk,.GU mw,.slice Y.length 0 (ks.length+1) (ks.length+1) 1 true,.i nt],.rw,0⟩:=by
  rw[d2.keep wb oM n3,t3]
 have ks5:N8 H5 mk s (ks++[a]):=ks1.frame (by
  rw[d2.keep mk oM (Ne.symm n2),hH3,JU n1,a4 mk oM (by rw[m.ok];simp),gY.keep mk oM fun h=>h])
 obtain⟨o',ho'⟩:∃o':Tags,o'=fun c=>if c=Y.length then some (0,1,0)else if o c=some (1,a.toNat,0)then none else o c:=⟨_,rfl⟩
 have old:∀c t,o c=some t→t≠(1,a.toNat,0)→o' c=some t:=fun c t h hne=>by
  have:=m.dom c t h
  rw[ho']
  dsimp only
  rw[if_neg oM,if_neg (by rw[h];simpa using hne),h]
 have new:∀c t,o' c=some t→c=Y.length∨(o c=some t∧t≠(1,a.toNat,0)):=fun c t h=>by
  rw[ho']at h
  dsimp only at h
  split at h
  ·left;assumption
  ·split at h
   ·cases h
   ·rename_i h2
    exact .inr ⟨h,fun e=>by rw[e]at h;exact h2 h⟩
 have GlH:∀c t,o c=some t→t≠(0,1,0)→t≠(0,0,0)→t≠(0,2,0)→t≠(0,3,0)→H5[c]?=H[c]?:=fun c t h x1 x2 x3 x4=>
  k5 c (m.dom c t h) (by rw[h];simpa using x1) (fun e=>by rw[e,m.ok]at h;simp only[Gx]at h;exact x3 h.symm) (fun e=>by rw[e,m.ow]at h;simp only[Gx]at h;exact x2 h.symm) (fun e=>by rw[e,m.om]at h;simp only[Gx]at h;exact x4 h.symm)
 have Gs0:H5.length=H.length+2:=by omega
 have nonneg:=k.has_lt ha
 refine⟨H1,H2,H3,H5,lv,_,_,o',h1,t1,by rw[←hY];exact a1,rfl,t2,hH3,t3,hget,d1,?_,?_,?_,?_,?_⟩
 ·refine⟨m.p.frame fun c hc=>?_,fun c hc=>?_,fun c t h=>?_,old _ _ m.ow sM,old _ _ m.ok sM,old _ _ m.om sM,ks5,_,_,GqS,t5,?_,d3,fun key=>?_⟩
  ·have hf:=m.free c hc
   exact k5 c (m.p.lt c hc) (by rw[hf];simp) (fun e=>by rw[e,m.ok]at hf;cases hf) (fun e=>by rw[e,m.ow]at hf;cases hf) (fun e=>by rw[e,m.om]at hf;cases hf)
  ·have hf:=m.free c hc
   have:=m.p.lt c hc
   rw[ho']
   dsimp only
   rw[if_neg oM,hf];simp
  ·rcases new c t h with h|h
   ·omega
   ·have:=m.dom c t h.1;omega
  ·refine .inr ⟨Y.length,true,sM,by rw[ho'];simp,?_,by simp[ints]⟩
   rw[kl,UZ];rfl
  ·by_cases c:key=a
   ·left
    exact⟨by unfold GcX;rw[if_pos c],by unfold V7;rw[if_pos c]⟩
   ·rcases b4 key with⟨q1,q2⟩|⟨v,q1,q2,q3,q4⟩
    ·left
     exact⟨by unfold GcX;rw[if_neg c,q1],by unfold V7;rw[if_neg c,q2]⟩
    ·right
     have hne:((1,key.toNat,0):Nat×Nat×Nat)≠(1,a.toNat,0):=fun h=>by
      simp only[Prod.mk.injEq,and_true,true_and]at h
      omega
     have e:V7 wf a key=wf key:=by unfold V7;rw[if_neg c]
     rw[e]
     exact⟨v,by unfold GcX;rw[if_neg c,q1],q2,q3,q4.frame (fun c h=>old c _ h hne) fun c h=>GlH c _ h sM sM sM sM⟩
 ·refine⟨oM,fun c hc h=>k5 c hc (by rw[h];simp) (fun e=>by rw[e,m.ok]at h;cases h) (fun e=>by rw[e,m.ow]at h;cases h) (fun e=>by rw[e,m.om]at h;cases h),fun c hc h=>?_⟩
  cases e:o' c with
  |none=>exact absurd e h
  |some t=>
   rcases new c t e with h2|h2
   ·omega
   ·rw[h2.1];simp
 ·rcases b4 a with⟨q1,q2⟩|⟨v,q1,q2,q3,q4⟩
  ·rw[q1,q2]
   exact .inl ⟨rfl,rfl,.inl rfl⟩
  ·rw[q1]
   exact At.il (q4.frame (fun _ h=>h) fun c h=>GlH c _ h sM sM sM sM)
 ·intro hne
  rcases b4 a with⟨q1,q2⟩|⟨v,q1,q2,q3,q4⟩
  ·exact absurd q2 hne
  ·rw[q1]
   show o' (Gp v)=none
   obtain⟨tl,x1,x2,x3,x4⟩:=q4.pos (BQ.2 hne)
   have:=m.dom _ _ x2
   rw[ho']
   dsimp only
   rw[if_neg oM,if_pos x2]
 ·rcases b4 a with⟨q1,q2⟩|⟨v,q1,q2,q3,q4⟩
  ·rw[q2];simp
  ·exact q3
end
end Go.Cs.Tryz
namespace Go.Cs.Tryz
open Go Go.Cs A
def Pn:Gu:=T [b 51 .lss 50 49] (S (J 51 (X 0)) (S (B 1 (T [x 52 1 48 50,l 53 1 52,m 6 53] (R [m 54 0,m 55 6,q2 56 47 54 55]))) (R [bk 57 .add 50 1,m 50 57])))
def C47:Gm:=⟨58,0,S (T [m 7 0,z 8 7,f 9 0 8,l 10 1 9,m 11 1,q2 12 50 10 11,no 13 12,m 14 13,gf 14 (m 15 0),gf 14 (z 16 15),gf 14 (f 17 1 16),gf 14 (l 18 1 17),gf 14 (m 19 1),gf 14 (e 20 (.Qo false .i64 (.bool false) (t 18) (t 19))),or 21 14 20] (I 21 .ret)) (T [m 22 0,z 23 22,f 24 1 23,l 25 1 24,m 26 1,u (.QY .i64 (t 25) (t 26) (c (.bool true)))] (T [m 27 0,m 28 0,z 29 28,f 30 3 29,l 31 1 30,m 32 1,e 33 (.buildSlice 1 [i 0] 1 [(0,1,t 32)]),ap 34 1 31 33,z 35 27,f 36 3 35,st 1 36 34] (T [m 37 0,z 38 37,f 39 2 38,l 40 1 39,m 41 1,e 42 (.Qo false .i64 .Gf (t 40) (t 41)),m 4 42] (T [m 43 0,z 44 43,f 45 2 44,l 46 1 45,m 47 1,u (.VE .i64 (t 46) (t 47))] (T [m 48 4,le 49 48,n 50 0] (B 0 (W Pn))))))),[]⟩
theorem c47:P 47=some C47:=by kernel_rfl
end Go.Cs.Tryz
namespace Go.Cs.Tryz
open Go Go.Cs
section
variable {hb : Nat} {s : Hp} {L : GD} {wb mk mw : Nat} {nt : Nat}
def Za(s:Hp)(hb:Nat)(L:GD)(wb mk mw nt:Nat)(ar:Int→Prop)(o:Tags)(H:Gb)(ks:List Int)(wf:Int→List Int)(H':Gb):Prop:=
 ∃o' ks' wf',VA o' H' hb s L wb mk mw ks' wf' nt∧UN o H o' H'∧Mq s ar ks wf ks' wf'
structure WOk(nt:Nat)(ks:List Int)(wf:Int→List Int):Prop where
 no:∀key,key∈ks→wf key=[]
 ln:∀key,(wf key).length≤nt
 le:∀key x,x∈wf key→x≤9223372036854775807
theorem WOk.next{ks ks':List Int}{wf wf':Int→List Int}{ar:Int→Prop}(h:WOk nt ks wf)(r:Mq s ar ks wf ks' wf'):WOk nt ks' wf':=⟨r.no,fun key=>Jr (r.ln key) (h.ln key),fun key x hx=>h.le key x (r.sub key x hx)⟩
theorem Gfe(k:s.Ok){n:Nat}
  (ih:∀(o:Tags)(H:Gb)(ks:List Int)(wf:Int→List Int)(a:Int),4097≤n+ks.length→VA o H hb s L wb mk mw ks wf nt→WOk nt ks wf→a≤9223372036854775807→
   ∃H',run P 47 [.ptr wb 0,.i a] H=some (.Ju [],H')∧Za s hb L wb mk mw nt (fun x=>x=a) o H ks wf H')
  {o:Tags} {H:Gb} {ks:List Int} {wf:Int→List Int} (hn:4097≤n+ks.length) (m:VA o H hb s L wb mk mw ks wf nt) (wk:WOk nt ks wf) {l:List Int} (hl:l.length≤100000) (hle:∀x∈l,x≤9223372036854775807) {w:CV} (hw:LI H w l) (hwo:l≠[]→o (Gp w)=none)
  {E0:Env} (h0:E0 0=.ptr wb 0) (h48:E0 48=w) (h49:E0 49=.i l.length) (h50:E0 50=.i 0) {r:Option (CX×Env×Gb)} (hr:den P (.loop Pn) E0 H=r):
  ∃E' H',r=some (.exit 0,E',H')∧Za s hb L wb mk mw nt (fun x=>x∈l) o H ks wf H':=by
 obtain⟨x',E',H',e,-,⟨rfl,q⟩,fr⟩:=Gy (p:=P) (c:=Pn) (E0:=E0) (H0:=H)
  (fun q E H'=>∃j:Nat,E 50=.i j∧j≤l.length∧q=l.length-j∧Za s hb L wb mk mw nt (fun x=>x∈l.take j) o H ks wf H')
  (fun x' E' H'=>x'=.exit 0∧Za s hb L wb mk mw nt (fun x=>x∈l) o H ks wf H') (by
   rintro q E H' hE ⟨j,e50,hj,rfl,o',ks',wf',m',g,rc⟩
   have e0:=(hE 0 dK).trans h0
   have e48:=(hE 48 dK).trans h48
   have e49:=(hE 49 dK).trans h49
   by_cases c:j<l.length
   ·have c':decide ((j:Int)<(l.length:Int))=true:=GK oM
    obtain⟨x,hx⟩:∃x,l[j]?=some x:=⟨_,J9 c⟩
    have HY:=hwo (fun h=>by rw[h]at c;exact absurd c sM)
    obtain⟨tl,a1,a2,a3,a4⟩:=hw.pos oM
    have O4:H'[Gp w]?=H[Gp w]?:=g.keep _ (Gd a3) HY
    have ix:∀X,Kb 1 w (.i j) X=some (.ptr (Gp w) j,X):=fun X=>by
     rw[a1];exact(if_pos oM).trans (by simp[Gp])
    have l1:ld H'[Gp w]? j=some (.i x):=by rw[O4,a3,Vt];simp[ints,hx]
    have hpl:=rc.pre.length_le
    obtain⟨H2,r1,o2,Zh,wf2,m2,g2,rc2⟩:=ih o' H' ks' wf' x oM m' (wk.next rc) (hle x (JX hx))
    have w1:IntKind.i64.wrap ((j:Int)+1)=((j+1:Nat):Int):=Gh oM
    apply Gt (k':=l.length-(j+1))
    ·simp(disch:=first|exact dz|fail) only[simprocAttr,Gc,↓reduceIte,Pn,e0,e48,e49,e50,c',ix,l1,r1,w1]
     rfl
    ·omega
    ·refine⟨j+1,uA,oM,rfl,o2,Zh,wf2,m2,g.trans g2,(rc.trans rc2).weaken fun b=>?_⟩
     rw[QL,hx,VT,NG,Uy]
   ·have c':decide ((j:Int)<(l.length:Int))=false:=GC oM
    rw[NW oM]at rc
    apply Gl (x:=.exit 0)
    ·simp(disch:=first|exact dz|fail) only[simprocAttr,Gc,↓reduceIte,Pn,e49,e50,c']
     rfl
    ·simp
    ·exact⟨rfl,o',ks',wf',m',g,rc⟩) _ ⟨0,h50,oM,rfl,o,ks,wf,m,UN.gr (Keeps.refl _ _),(Mq.refl wk.no).weaken fun b=>by simp⟩
 exact⟨E',H',hr.symm.trans e,q⟩
theorem Yr(k:s.Ok):∀(n:Nat)(o:Tags)(H:Gb)(ks:List Int)(wf:Int→List Int)(a:Int),4097≤n+ks.length→VA o H hb s L wb mk mw ks wf nt→WOk nt ks wf→a≤9223372036854775807→
   ∃H',run P 47 [.ptr wb 0,.i a] H=some (.Ju [],H')∧Za s hb L wb mk mw nt (fun x=>x=a) o H ks wf H'
 |0,o,H,ks,wf,a,hn,m,wk,ha=>by have:=m.O8.few k;omega
 |n+1,o,H,ks,wf,a,hn,m,wk,ha=>by
  obtain⟨lv,f,wks,b1,b2,b3,b4⟩:=m.ex
  have hh:=QA m.p k a ha
  have hg:=m.O8.get a
  have triv:(s.has a=true→a∈ks)→Za s hb L wb mk mw nt (fun x=>x=a) o H ks wf H:=fun h=>⟨o,ks,wf,m,UN.gr (Keeps.refl _ _),List.prefix_refl _,fun x hx h2=>by rw[hx]at h2⊢;exact h h2,(Mq.refl (s:=s) wk.no).wt,wk.no,fun _ _ h=>h,fun _=>Nat.le_refl _,fun K _ h _=>h⟩
  rw[Gi c47 _ _ sM]
  cases ch:s.has a with
  |false=>
   rw[ch]at hh
   refine⟨H,?_,triv fun h=>by rw[ch]at h;cases h⟩
   simp(disch:=first|exact dz|fail) only[simprocAttr,Gc,↓reduceIte,Gj,b1,hh]
  |true=>
   rw[ch]at hh
   by_cases c:a∈ks
   ·rw[GK c]at hg
    refine⟨H,?_,triv fun _=>c⟩
    simp(disch:=first|exact dz|fail) only[simprocAttr,Gc,↓reduceIte,Gj,b1,hh,JA,hg]
   ·rw[GC c]at hg
    obtain⟨H1,H2,H3,H5,lv1,lv2,ws,o',q1,q2,q3,q4,q5,q6,q7,q8,q9,q10,q11,q12,q13,q14⟩:=Gjr m k ch c
    have hwl:=q12.len H5
    have hel:elems (H1++[⟨[.i a],.rw,1⟩]) 1 (.slice H1.length 0 1 1 1 false)=some (1,[.i a]):=by
     rw[JC oM]
     simp(disch:=first|exact dz|fail) only[simprocAttr,Gc,↓reduceIte,JW]
    simp(disch:=first|exact dz|fail) only[simprocAttr,Gc,↓reduceIte,Gj,b1,hh,JA,hg,Ue,q1,q2,fill,splice,and_self,hel,Ja,q3,q5]
    rw[←q6]
    simp(disch:=first|exact dz|fail) only[simprocAttr,Gc,↓reduceIte,q7,JA,q8,IW,q9,hwl]
    generalize hr:den P (.loop Pn) _ _=r
    have wk':WOk nt (ks++[a]) (V7 wf a):=⟨fun key hk=>by
     unfold V7
     split
     ·rfl
     ·rename_i hc
      rw[NG,Uy]at hk
      rcases hk with hk|hk
      ·exact wk.no key hk
      ·exact absurd hk hc,fun key=>by
     unfold V7
     split
     ·simp
     ·exact wk.ln key,fun key x hx=>by
     unfold V7 at hx
     split at hx
     ·cases hx
     ·exact wk.le key x hx⟩
    obtain⟨E',H6,rfl,o6,ks6,wf6,m6,g6,rc6⟩:=Gfe k (Yr k n) (by rw[Nq];simp;omega) q10 wk' q14 (wk.le a) q12 q13 uA uA uA uA hr
    simp(disch:=first|exact dz|fail) only[simprocAttr,Gc,↓reduceIte]
    exact⟨H6,rfl,o6,ks6,wf6,m6,q11.trans g6,Mq.mark ch rc6⟩
end
end Go.Cs.Tryz
namespace Go.Cs.Tryz
open Go Go.Cs A
def Oq:Gu:=T [b 18 .lss 17 16] (S (J 18 (X 0)) (S (B 1 (T [x 19 1 15 17,l 20 1 19,m 5 20] (R [m 21 0,m 22 5,q2 23 47 21 22]))) (R [bk 24 .add 17 1,m 17 24])))
def C48:Gm:=⟨84,0,S (T [m 10 0,z 11 10,f 12 0 11,l 13 1 12,m 14 1,q2 15 132 13 14,le 16 15,n 17 0] (B 0 (W Oq))) (S (T [m 25 0,z 26 25,f 27 0 26,l 28 1 27,m 29 1,q2 30 133 28 29,bk 31 .neq 30 2] (I 31 .ret)) (T [m 33 0,z 34 33,f 35 0 34,l 36 1 35,m 37 1,ca 38 76 [t 36,t 37,k 0],m 32 38,ex 39 32 0,ex 40 32 1,m 6 39,m 7 40] (T [m 42 0,z 43 42,f 44 0 43,l 45 1 44,m 46 1,ca 47 76 [t 45,t 46,k 1],m 41 47,ex 48 41 0,ex 49 41 1,m 8 48,m 9 49] (B 2 (T [m 72 6,bk 73 .eql 72 0,m 71 73] (J 71 (T [m 75 0,z 76 75,f 77 1 76,l 78 1 77,m 79 6,e 80 (.Qo false .i64 (.bool false) (t 78) (t 79)),m 74 80] (C 74 (R [m 81 0,m 82 8,q2 83 47 81 82]) (S (D [⟨m 55 0,5,0,0⟩,⟨z 56 55,6,0,0⟩,⟨f 57 2 56,7,0,0⟩,⟨l 58 1 57,8,1,0⟩,⟨m 59 6,9,0,0⟩,⟨e 60 (.Qo false .i64 .Gf (t 58) (t 59)),10,1,0⟩,⟨m 61 8,11,0,0⟩,⟨e 62 (.buildSlice 1 [i 0] 1 [(0,1,t 61)]),12,0,0⟩,⟨ap 63 1 60 62,13,3,0⟩,⟨m 50 0,0,0,0⟩,⟨z 51 50,1,0,0⟩,⟨f 52 2 51,2,0,0⟩,⟨l 53 1 52,3,1,0⟩,⟨m 54 6,4,0,0⟩,⟨u (.QY .i64 (t 53) (t 54) (t 63)),14,3,1⟩]) (R [m 64 0,z 65 64,f 66 4 65,l 67 1 66,bk 68 .add 67 1,z 69 64,f 70 4 69,st 1 70 68])))))))))),[]⟩
theorem c48:P 48=some C48:=by kernel_rfl
end Go.Cs.Tryz
namespace Go.Cs
open Go
def EG(wf:Int→List Int)(key val:Int):Int→List Int:=fun k=>if k=key then wf k++[val]else wf k
end Go.Cs
namespace Go.Cs.Tryz
open Go Go.Cs
section
variable {hb : Nat} {s : Hp} {L : GD} {wb mk mw : Nat} {nt : Nat} {ks : List Int} {wf : Int → List Int} {o : Tags} {H : Gb}
theorem Gi3(m:VA o H hb s L wb mk mw ks wf nt)(k:s.Ok){key val:Int}(hk:s.has key=true)(hl:(wf key).length<100000):
  ∃(X2 X3:Gb)(v lv lv2:CV)(o':Tags),
   Ap false .i64 .Gf (.GU mw) (.i key) H=okV v∧(∀Y:Gb,Y[mw]?=H[mw]?→Ap false .i64 .Gf (.GU mw) (.i key) Y=okV v)∧Jv (H++[⟨[.i val],.rw,1⟩]) 1 v 1 [.i val]=some (lv2,X2)∧X2[wb]?=some ⟨[.ptr hb 0,.GU mk,.GU mw,lv,.i nt],.rw,0⟩∧H[wb]?=some ⟨[.ptr hb 0,.GU mk,.GU mw,lv,.i nt],.rw,0⟩∧
   U4 .i64 (.GU mw) (.i key) lv2 X2=some (.undef,X3)∧X3[wb]?=some ⟨[.ptr hb 0,.GU mk,.GU mw,lv,.i nt],.rw,0⟩∧
   VA o' (X3.set wb ⟨[.ptr hb 0,.GU mk,.GU mw,lv,.i (nt+1:Nat)],.rw,0⟩) hb s L wb mk mw ks (EG wf key val) (nt+1)∧UN o H o' (X3.set wb ⟨[.ptr hb 0,.GU mk,.GU mw,lv,.i (nt+1:Nat)],.rw,0⟩):=by
 obtain⟨lv,f,wks,b1,b2,b3,b4⟩:=m.ex
 have hnn:=k.has_lt hk
 have n1:wb≠mk:=fun h=>by have h1:=m.ow;rw[h,m.ok]at h1;simp at h1
 have n2:mw≠mk:=fun h=>by have h1:=m.om;rw[h,m.ok]at h1;simp at h1
 have n3:wb≠mw:=fun h=>by have h1:=m.ow;rw[h,m.om]at h1;simp at h1
 have hwb:=m.dom _ _ m.ow
 have hmk:=m.dom _ _ m.ok
 have hmw:=m.dom _ _ m.om
 obtain⟨v,hv,hat⟩:∃v,GhQ false .Gf (f key)=v∧At o (1,key.toNat,0) H v 1 (wf key).length (ints (wf key)):=by
  rcases b4 key with⟨q1,q2⟩|⟨v,q1,q2,q3,q4⟩
  ·exact⟨.Gf,by rw[q1];rfl,by rw[q2];exact .inl ⟨rfl,rfl,.inl rfl⟩⟩
  ·exact⟨v,by rw[q1];rfl,q4⟩
 have hget:Ap false .i64 .Gf (.GU mw) (.i key) H=okV v:=by rw[b3.Gl2,hv]
 obtain⟨Y,hY⟩:∃Y:Gb,Y=H++[⟨[.i val],.rw,1⟩]:=⟨_,rfl⟩
 have gY:Gr H Y:=by rw[hY];exact Gr.app _ _
 have lY:Y.length=H.length+1:=by rw[hY];simp
 obtain⟨X2,a1,a2,a3,a4⟩:=At.append (At.keeps hat gY) (k:=1) (new:=[.i val]) oM (by unfold JG;omega) (by simp[Gq]) rfl
 have k2:∀c,c<H.length→o c≠some (1,key.toNat,0)→X2[c]?=H[c]?:=fun c hc hn=>by
  rw[a4 c oM hn,gY.keep c hc fun h=>h]
 have t2:X2[wb]?=_:=(k2 wb hwb (by rw[m.ow];simp)).trans b1
 have m2:NQ X2 mw f wks:=b3.frame (k2 mw hmw (by rw[m.om];simp))
 obtain⟨X3,d1,d2,d3,d4⟩:=m2.set key (v:=.slice Y.length 0 ((wf key).length+1) ((wf key).length+1) 1 true) rfl
 have t3:X3[wb]?=_:=(d2.keep wb oM n3).trans t2
 obtain⟨X4,DL⟩:∃X4:Gb,X4=X3.set wb ⟨[.ptr hb 0,.GU mk,.GU mw,lv,.i (nt+1:Nat)],.rw,0⟩:=⟨_,rfl⟩
 have l4:X4.length=H.length+2:=by rw[DL,List.length_set];omega
 have t4:X4[wb]?=some ⟨[.ptr hb 0,.GU mk,.GU mw,lv,.i (nt+1:Nat)],.rw,0⟩:=by rw[DL,KI oM]
 have k4:∀c,c<H.length→o c≠some (1,key.toNat,0)→c≠mw→c≠wb→X4[c]?=H[c]?:=fun c hc hn hx hw=>by
  rw[DL,JU (Ne.symm hw),d2.keep c oM hx,k2 c hc hn]
 have kl:X4[Y.length]?=some ⟨ints (wf key)++[.i val],.rw,1⟩:=by
  rw[DL,JU oM,d2.keep _ oM oM,a3]
 obtain⟨o',ho'⟩:∃o':Tags,o'=fun c=>if c=Y.length then some (1,key.toNat,0)else o c:=⟨_,rfl⟩
 have old:∀c t,o c=some t→o' c=some t:=fun c t h=>by
  have:=m.dom c t h
  rw[ho']
  dsimp only
  rw[if_neg oM,h]
 have new:∀c t,o' c=some t→c=Y.length∨o c=some t:=fun c t h=>by
  rw[ho']at h
  dsimp only at h
  split at h
  ·left;assumption
  ·exact .inr h
 have GjW:∀c t,o c=some t→t≠(1,key.toNat,0)→t≠(0,0,0)→t≠(0,3,0)→X4[c]?=H[c]?:=fun c t h x1 x2 x4=>
  k4 c (m.dom c t h) (by rw[h];simpa using x1) (fun e=>by rw[e,m.om]at h;simp only[Gx]at h;exact x4 h.symm) (fun e=>by rw[e,m.ow]at h;simp only[Gx]at h;exact x2 h.symm)
 refine⟨X2,X3,v,lv,_,o',hget,fun Y' hY'=>?_,by rw[←hY];exact a1,t2,b1,d1 X2 rfl,t3,?_,?_⟩
 ·rw[(b3.frame hY').Gl2,hv]
 ·rw[←DL]
  refine⟨m.p.frame fun c hc=>?_,fun c hc=>?_,fun c t h=>?_,old _ _ m.ow,old _ _ m.ok,old _ _ m.om,m.O8.frame (GjW mk _ m.ok sM sM sM),lv,_,_,t4,b2.frame (fun c h=>old c _ h) fun c h=>GjW c _ h sM sM sM,d3.frame (by rw[DL,JU n3]),fun k'=>?_⟩
  ·have hf:=m.free c hc
   exact k4 c (m.p.lt c hc) (by rw[hf];simp) (fun e=>by rw[e,m.om]at hf;cases hf) (fun e=>by rw[e,m.ow]at hf;cases hf)
  ·have hf:=m.free c hc
   have:=m.p.lt c hc
   rw[ho']
   dsimp only
   rw[if_neg oM,hf]
  ·rcases new c t h with h|h
   ·omega
   ·have:=m.dom c t h;omega
  ·by_cases c:k'=key
   ·subst c
    refine .inr ⟨_,by unfold TT;rw[if_pos rfl],hnn.1,?_,?_⟩
    ·unfold EG
     rw[if_pos rfl,Nq];simp;omega
    ·have e:EG wf k' val k'=wf k'++[val]:=by unfold EG;rw[if_pos rfl]
     rw[e]
     refine .inr ⟨Y.length,true,sM,by rw[ho'];simp,?_,by simp[ints]⟩
     rw[kl,UZ];rfl
   ·have e:EG wf key val k'=wf k':=by unfold EG;rw[if_neg c]
    rcases b4 k' with⟨q1,q2⟩|⟨v',q1,q2,q3,q4⟩
    ·exact .inl ⟨by unfold TT;rw[if_neg c,q1],by rw[e,q2]⟩
    ·have hne:((1,k'.toNat,0):Nat×Nat×Nat)≠(1,key.toNat,0):=fun h=>by
      simp only[Prod.mk.injEq,and_true,true_and]at h
      omega
     right
     rw[e]
     exact⟨v',by unfold TT;rw[if_neg c,q1],q2,q3,q4.frame (fun c h=>old c _ h) fun c h=>GjW c _ h hne sM sM⟩
 ·rw[←DL]
  refine⟨oM,fun c hc h=>k4 c hc (by rw[h];simp) (fun e=>by rw[e,m.om]at h;cases h) (fun e=>by rw[e,m.ow]at h;cases h),fun c hc h=>?_⟩
  cases e:o' c with
  |none=>exact absurd e h
  |some t=>
   rcases new c t e with h2|h2
   ·omega
   ·rw[h2];simp
theorem Ggx(k:s.Ok){o:Tags}{H:Gb}{ks:List Int}{wf:Int→List Int}(m:VA o H hb s L wb mk mw ks wf nt)(wk:WOk nt ks wf){l:List Int}(hl:l.length≤100000)(hle:∀x∈l,x≤9223372036854775807){w:CV}(hw:LI H w l)(hwo:l≠[]→o (Gp w)=none)
  {E0:Env}(h0:E0 0=.ptr wb 0)(h48:E0 15=w)(h49:E0 16=.i l.length)(h50:E0 17=.i 0){r:Option (CX×Env×Gb)}(hr:den P (.loop Oq) E0 H=r):
  ∃E' H',r=some (.exit 0,E',H')∧Za s hb L wb mk mw nt (fun x=>x∈l) o H ks wf H'∧∀t,t∉wr Oq→E' t=E0 t:=by
 obtain⟨x',E',H',e,-,⟨rfl,q⟩,fr⟩:=Gy (p:=P) (c:=Oq) (E0:=E0) (H0:=H)
  (fun q E H'=>∃j:Nat,E 17=.i j∧j≤l.length∧q=l.length-j∧Za s hb L wb mk mw nt (fun x=>x∈l.take j) o H ks wf H')
  (fun x' E' H'=>x'=.exit 0∧Za s hb L wb mk mw nt (fun x=>x∈l) o H ks wf H') (by
   rintro q E H' hE ⟨j,e50,hj,rfl,o',ks',wf',m',g,rc⟩
   have e0:=(hE 0 dK).trans h0
   have e48:=(hE 15 dK).trans h48
   have e49:=(hE 16 dK).trans h49
   by_cases c:j<l.length
   ·have c':decide ((j:Int)<(l.length:Int))=true:=GK oM
    obtain⟨x,hx⟩:∃x,l[j]?=some x:=⟨_,J9 c⟩
    have HY:=hwo (fun h=>by rw[h]at c;exact absurd c sM)
    obtain⟨tl,a1,a2,a3,a4⟩:=hw.pos oM
    have O4:H'[Gp w]?=H[Gp w]?:=g.keep _ (Gd a3) HY
    have ix:∀X,Kb 1 w (.i j) X=some (.ptr (Gp w) j,X):=fun X=>by
     rw[a1];exact(if_pos oM).trans (by simp[Gp])
    have l1:ld H'[Gp w]? j=some (.i x):=by rw[O4,a3,Vt];simp[ints,hx]
    obtain⟨H2,r1,o2,Zh,wf2,m2,g2,rc2⟩:=Yr k 4097 o' H' ks' wf' x oM m' (wk.next rc) (hle x (JX hx))
    have w1:IntKind.i64.wrap ((j:Int)+1)=((j+1:Nat):Int):=Gh oM
    apply Gt (k':=l.length-(j+1))
    ·simp(disch:=first|exact dz|fail) only[simprocAttr,Gc,↓reduceIte,Oq,e0,e48,e49,e50,c',ix,l1,r1,w1]
     rfl
    ·omega
    ·refine⟨j+1,uA,oM,rfl,o2,Zh,wf2,m2,g.trans g2,(rc.trans rc2).weaken fun b=>?_⟩
     rw[QL,hx,VT,NG,Uy]
   ·have c':decide ((j:Int)<(l.length:Int))=false:=GC oM
    rw[NW oM]at rc
    apply Gl (x:=.exit 0)
    ·simp(disch:=first|exact dz|fail) only[simprocAttr,Gc,↓reduceIte,Oq,e49,e50,c']
     rfl
    ·simp
    ·exact⟨rfl,o',ks',wf',m',g,rc⟩) _ ⟨0,h50,oM,rfl,o,ks,wf,m,UN.gr (Keeps.refl _ _),(Mq.refl wk.no).weaken fun b=>by simp⟩
 exact⟨E',H',hr.symm.trans e,q,fr⟩
end
end Go.Cs.Tryz

namespace Go.Cs
open Go
def Hp.keyOf(s:Hp)(a:Int):Int:=(s.refsOf a).getD 0 0
def Hp.valOf(s:Hp)(a:Int):Int:=(s.refsOf a).getD 1 0
structure Sd(s:Hp)(st:Int→Prop)(ks:List Int)(wf:Int→List Int):Prop where
 kp:∀x∈ks,Kp s st true x
 wk:∀key x,x∈wf key→Kp s st true key→s.has x=true→Kp s st true x
def Gb_(s:Hp)(a:Int)(ks:List Int)(wf:Int→List Int):Prop:=
 s.Vl a=2→s.keyOf a≠0→(s.keyOf a∈ks∧(s.has (s.valOf a)=true→s.valOf a∈ks))∨(s.keyOf a∉ks∧s.valOf a∈wf (s.keyOf a))
structure Lk(s:Hp)(ks:List Int)(wf:Int→List Int)(ks':List Int)(wf':Int→List Int):Prop where
 pre:ks<+:ks'
 wt:∀key x,x∈wf key→(key∉ks'∧x∈wf' key)∨(key∈ks'∧(s.has x=true→x∈ks'))
theorem Lk.tb{s:Hp}{a:Int}{ks ks':List Int}{wf wf':Int→List Int}(l:Lk s ks wf ks' wf')(h:Gb_ s a ks wf):Gb_ s a ks' wf':=fun h1 h2=>by
 rcases h h1 h2 with⟨q1,q2⟩|⟨q1,q2⟩
 ·exact .inl ⟨l.pre.subset q1,fun hh=>l.pre.subset (q2 hh)⟩
 ·rcases l.wt _ _ q2 with⟨r1,r2⟩|⟨r1,r2⟩
  ·exact .inr ⟨r1,r2⟩
  ·exact .inl ⟨r1,r2⟩
theorem Mq.lk{s:Hp}{ar:Int→Prop}{ks ks':List Int}{wf wf':Int→List Int}(r:Mq s ar ks wf ks' wf'):Lk s ks wf ks' wf':=⟨r.pre,r.wt⟩
theorem Mq.sd{s:Hp}{st:Int→Prop}{ar:Int→Prop}{ks ks':List Int}{wf wf':Int→List Int}(r:Mq s ar ks wf ks' wf')(ha:∀a,ar a→s.has a=true→Kp s st true a)(h:Sd s st ks wf):Sd s st ks' wf':=
 ⟨r.kp _ ha h.kp h.wk,fun key x hx=>h.wk key x (r.sub key x hx)⟩
theorem Lk.trans{s:Hp}{k l m:List Int}{f g h:Int→List Int}(a:Lk s k f l g)(b:Lk s l g m h):Lk s k f m h where
 pre:=a.pre.trans b.pre
 wt:=fun key x hx=>by
  rcases a.wt key x hx with⟨h1,h2⟩|⟨h1,h2⟩
  ·exact b.wt key x h2
  ·exact .inr ⟨b.pre.subset h1,fun hh=>b.pre.subset (h2 hh)⟩
end Go.Cs
namespace Go.Cs.Tryz
open Go Go.Cs
section
variable {hb : Nat} {s : Hp} {L : GD} {wb mk mw : Nat} {nt : Nat} {ks : List Int} {wf : Int → List Int} {o : Tags} {H : Gb}
theorem GcU(m:VA o H hb s L wb mk mw ks wf nt)(k:s.Ok)(hs:QS s)(wk:WOk nt ks wf)(hnt:nt≤50000){st:Int→Prop}(sd:Sd s st ks wf){a:Int}(ha:a∈ks):
  ∃H' o' ks' wf' Sm,run P 48 [.ptr wb 0,.i a] H=some (.Ju [],H')∧VA o' H' hb s L wb mk mw ks' wf' Sm∧UN o H o' H'∧Sm≤nt+1∧WOk Sm ks' wf'∧Sd s st ks' wf'∧Lk s ks wf ks' wf'∧(∀b∈s.strOf a,s.has b=true→b∈ks')∧Gb_ s a ks' wf':=by
 obtain⟨lv,f,wks,b1,b2,b3,b4⟩:=m.ex
 have hka:=sd.kp a ha
 have hnn:=k.has_lt hka.has
 obtain⟨w,X1,h1,g1,li⟩:=DY m.p k a oM
 have m1:=m.gr g1
 have hwl:=li.len X1
 have hwo:s.strOf a≠[]→o (Gp w)=none:=fun h=>Jo fun hn=>by
  obtain⟨tl,a1,a2,a3,a4⟩:=li.pos (BQ.2 h)
  have h2:=(Gn.1 a2).1
  cases e:o (Gp w)with
  |none=>exact hn e
  |some u=>have:=m.dom _ u e;omega
 have hsl:(s.strOf a).length≤15:=Jr (Md _ _ _) (k.Ve a)
 rw[Gi c48 _ _ sM]
 simp(disch:=first|exact dz|fail) only[simprocAttr,Gc,↓reduceIte,Gj,b1,h1,hwl]
 generalize hr:den P (.loop Oq) _ _=r
 obtain⟨E2,X2,rfl,⟨o2,Zh,wf2,m2,c2,rc2⟩,f2⟩:=Ggx k m1 wk oM (fun x hx=>by have:=k.has_lt (hs.str hx);omega) li.li hwo uA uA uA uA hr
 have d0:=f2 0 dK
 have d1:=f2 1 dK
 simp only[Gg,Nat.reduceEqDiff,↓reduceIte]at d0 d1
 have cc2:UN o H o2 X2:=(UN.gr g1).trans c2
 have wk2:=wk.next rc2
 have sd2:Sd s st Zh wf2:=rc2.sd (fun b hb hh=>Gii a b hka hb hh) sd
 have str2:∀b∈s.strOf a,s.has b=true→b∈Zh:=rc2.got
 obtain⟨lv2,fm2,Gw2,t2,-,-,-⟩:=m2.ex
 obtain⟨X3,h3,g3⟩:=ME m2.p k a oM
 have m3:=m2.gr g3
 have t3:=g3.get t2
 have cc3:UN o H o2 X3:=cc2.trans (.gr g3)
 by_cases hkd:s.Vl a=2
 ·have Gfm:((s.Vl a:Int) != 2)=false:=by rw[hkd];rfl
  obtain⟨ob,Vj⟩:=Hp.J8.1 hka.has
  have hre:s.refsOf a=ob.refs:=by unfold Hp.refsOf;rw[Vj]
  have Glv:ob.kd=2:=by unfold Hp.Vl at hkd;rw[Vj]at hkd;exact hkd
  have q3:=(k.F6 Vj).2 Glv
  have r0:(s.refsOf a)[0]?=some (s.keyOf a):=by unfold Hp.keyOf;rw[hre];exact NT q3 oM
  have r1:(s.refsOf a)[1]?=some (s.valOf a):=by unfold Hp.valOf;rw[hre];exact NT q3 oM
  have bd:∀x,x∈s.refsOf a→x=0∨s.has x=true:=fun x hx=>by rw[hre]at hx;exact hs ob (Hp.Jy Vj).1 x hx
  have vle:s.valOf a≤9223372036854775807:=by
   rcases bd _ (JX r1)with h|h
   ·omega
   ·have:=k.has_lt h;omega
  have Giq:Kp s st true (s.keyOf a)→s.has (s.valOf a)=true→Kp s st true (s.valOf a):=fun h1 h2=>
   .pair rfl hka Vj Glv (by rw[←hre];exact r0) h1 (by rw[←hre];exact r1) h2
  obtain⟨X4,h4,g4⟩:=KF m3.p k a 0 oM
  have e0:=Hp.Uw (s:=s) (a:=a) (j:=0) r0
  rw[show(((0:Nat):Int))=0 from rfl]at e0
  rw[e0]at h4
  unfold Uj at h4
  have m4:=m3.gr g4
  have t4:=g4.get t3
  obtain⟨X5,h5,g5⟩:=KF m4.p k a 1 oM
  have e1:=Hp.Uw (s:=s) (a:=a) (j:=1) r1
  rw[show(((1:Nat):Int))=1 from rfl]at e1
  rw[e1]at h5
  unfold Uj at h5
  have m5:=m4.gr g5
  have t5:=g5.get t4
  have cc5:UN o H o2 X5:=(cc3.trans (.gr g4)).trans (.gr g5)
  by_cases hk0:s.keyOf a=0
  ·have hk0':(s.keyOf a==0)=true:=by rw[hk0];rfl
   simp(disch:=first|exact dz|fail) only[simprocAttr,Gc,↓reduceIte,d0,d1,t2,h3,Gfm,t3,h4,t4,h5,hk0']
   exact⟨X5,o2,Zh,wf2,nt,rfl,m5,cc5,Nat.le_succ _,wk2,sd2,rc2.lk,str2,fun _ h=>absurd hk0 h⟩
  ·have hk0':(s.keyOf a==0)=false:=by simpa using hk0
   have hkh:s.has (s.keyOf a)=true:=by
    rcases bd _ (JX r0)with h|h
    ·exact absurd h hk0
    ·exact h
   have hg:=m5.O8.get (s.keyOf a)
   by_cases hki:s.keyOf a∈Zh
   ·rw[GK hki]at hg
    obtain⟨X6,h6,o6,ks6,wf6,m6,c6,rc6⟩:=Yr k 4097 o2 X5 Zh wf2 (s.valOf a) oM m5 wk2 vle
    simp(disch:=first|exact dz|fail) only[simprocAttr,Gc,↓reduceIte,d0,d1,t2,h3,Gfm,t3,h4,t4,h5,hk0',t5,JA,hg,h6]
    exact⟨X6,o6,ks6,wf6,nt,rfl,m6,cc5.trans c6,Nat.le_succ _,wk2.next rc6,rc6.sd (fun b hb hh=>by subst hb;exact Giq (sd2.kp _ hki) hh) sd2,rc2.lk.trans rc6.lk,fun b hb hh=>rc6.pre.subset (str2 b hb hh),fun _ _=>.inl ⟨rc6.pre.subset hki,fun hh=>rc6.got _ rfl hh⟩⟩
   ·rw[GC hki]at hg
    obtain⟨X6,X7,v,lv6,lv7,o7,q1,q2,q3',q4,q5,q6,q7,q8,q9⟩:=Gi3 (val:=s.valOf a) m5 k hkh (by have:=wk2.ln (s.keyOf a);omega)
    have hel:elems (X5++[⟨[.i (s.valOf a)],.rw,1⟩]) 1 (.slice X5.length 0 1 1 1 false)=some (1,[.i (s.valOf a)]):=by
     rw[JC oM]
     simp(disch:=first|exact dz|fail) only[simprocAttr,Gc,↓reduceIte,JW]
    have w1:IntKind.i64.wrap ((nt:Int)+1)=((nt+1:Nat):Int):=Gh oM
    obtain⟨X8,hX8⟩:∃X8:Gb,X8=X7.set wb ⟨[.ptr hb 0,.GU mk,.GU mw,lv6,.i (nt+1:Nat)],.rw,0⟩:=⟨_,rfl⟩
    rw[←hX8]at q8 q9
    have GjN:∃H' o' ks' wf' Sm,(some (CV.Ju [],X8):Option (CV×Gb))=some (.Ju [],H')∧VA o' H' hb s L wb mk mw ks' wf' Sm∧UN o H o' H'∧Sm≤nt+1∧WOk Sm ks' wf'∧Sd s st ks' wf'∧Lk s ks wf ks' wf'∧(∀b∈s.strOf a,s.has b=true→b∈ks')∧Gb_ s a ks' wf':=by
     refine⟨X8,o7,Zh,EG wf2 (s.keyOf a) (s.valOf a),nt+1,rfl,q8,cc5.trans q9,Nat.le_refl _,⟨fun key hk=>?_,fun key=>?_,fun key x hx=>?_⟩,⟨sd2.kp,fun key x hx h1 h2=>?_⟩,⟨rc2.pre,fun key x hx=>?_⟩,str2,fun _ _=>.inr ⟨hki,?_⟩⟩
     ·unfold EG
      rw[if_neg (fun h=>hki (by rw[←h];exact hk))]
      exact wk2.no key hk
     ·unfold EG
      have:=wk2.ln key
      split
      ·rw[Nq];simp;omega
      ·omega
     ·unfold EG at hx
      split at hx
      ·rw[NG,Uy]at hx
       rcases hx with hx|hx
       ·exact wk2.le key x hx
       ·rw[hx];exact vle
      ·exact wk2.le key x hx
     ·unfold EG at hx
      split at hx
      ·rename_i ce
       rw[NG,Uy]at hx
       rcases hx with hx|hx
       ·exact sd2.wk key x hx h1 h2
       ·rw[hx]at h2⊢
        exact Giq (by rw[←ce];exact h1) h2
      ·exact sd2.wk key x hx h1 h2
     ·rcases rc2.wt key x hx with⟨r1,r2⟩|r1
      ·refine .inl ⟨r1,?_⟩
       unfold EG
       split
       ·rw[NG];exact .inl r2
       ·exact r2
      ·exact .inr r1
     ·unfold EG
      rw[if_pos rfl,NG];exact .inr sM
    rw[q5]at t5
    simp only[Gx,JI.mk.injEq,List.cons.injEq,and_true,true_and]at t5
    subst t5
    simp(disch:=first|exact dz|fail) only[simprocAttr,Gc,↓reduceIte,d0,d1,t2,h3,Gfm,t3,h4,t4,h5,hk0',q5,JA,hg,Gcv,q1,fill,splice,and_self]
    have GvD:=Gd q5
    simp(disch:=first|exact dz|fail) only[simprocAttr,Gc,↓reduceIte,q3',q4,q5,d0,Ue,q6,q7,w1]
    rw[←hX8]
    exact GjN
 ·have Gfm:((s.Vl a:Int) != 2)=true:=bne_iff_ne.2 oM
  simp(disch:=first|exact dz|fail) only[simprocAttr,Gc,↓reduceIte,d0,d1,t2,h3,Gfm]
  exact⟨X3,o2,Zh,wf2,nt,rfl,m3,cc3,Nat.le_succ _,wk2,sd2,rc2.lk,str2,fun h=>absurd h hkd⟩
end
end Go.Cs.Tryz
namespace Go.Cs.Tryz
open Go Go.Cs A
def Om:Gu:=S (T [m 34 11,m 35 8,z 36 35,f 37 3 36,l 38 1 37,le 39 38,b 40 .lss 34 39] (J 40 (X 2))) (S (B 3 (R [m 43 8,m 44 8,z 45 44,f 46 3 45,l 47 1 46,m 48 11,x 49 1 47 48,l 50 1 49,q2 51 48 43 50])) (R [m 41 11,bk 42 .add 41 1,m 11 42]))
def Mj:Gu:=T [b 27 .lss 26 25] (S (J 27 (X 0)) (S (B 1 (T [x 28 1 24 26,l 29 1 28,m 10 29] (R [m 30 8,m 31 10,q2 32 47 30 31]))) (R [bk 33 .add 26 1,m 26 33])))
def C14:Gm:=⟨62,0,T [e 4 (.K7 (c .Gf)),n 5 0,n 6 0] (S (T [m 12 0,m 13 1,q2 14 42 12 13,m 7 14] (T [m 15 7,bk 16 .neq 15 0] (I 16 (Q [m 17 7,e 4 (.K7 (c .Gf)),n 5 0,m 6 17])))) (T [m 18 0,e 19 .Vg,e 20 .Vg,e 21 (.build [.nilPtr,.Uz,.Uz,.Gf,i 0] [(0,1,t 18),(1,1,t 19),(2,1,t 20)]),bo 22 21,m 8 22] (S (T [m 23 1,q1 24 44 23,le 25 24,n 26 0] (B 0 (W Mj))) (S (T [n 11 0] (B 2 (W Om))) (S (D [⟨m 52 8,0,0,0⟩,⟨z 53 52,1,0,0⟩,⟨f 54 1 53,2,0,0⟩,⟨l 55 1 54,3,1,0⟩,⟨q1 56 46 55,4,3,0⟩,⟨q1 57 45 56,5,3,1⟩,⟨m 58 8,6,0,0⟩,⟨z 59 58,7,0,0⟩,⟨f 60 4 59,8,0,0⟩,⟨l 61 1 60,9,1,0⟩,⟨m 4 57,10,0,2⟩,⟨m 5 61,11,0,2⟩,⟨n 6 0,12,0,2⟩]) .ret))))),[r 4,r 5,r 6]⟩
theorem c14:P 14=some C14:=by kernel_rfl
end Go.Cs.Tryz
namespace Go.Cs
open Go
theorem Gf1{s:Hp}(k:s.Ok)(h0:s.has 0=false){st:Int→Prop}{ks:List Int}{wf:Int→List Int}(sd:Sd s st ks wf)(hst:∀a,st a→s.has a=true→a∈ks)(hstr:∀a∈ks,∀b∈s.strOf a,s.has b=true→b∈ks)(htb:∀a∈ks,Gb_ s a ks wf):
  ∀x,x∈ks↔Kp s st true x:=fun x=>⟨sd.kp x,fun hx=>by
 induction hx with
 |start a1 a2=>exact hst _ a1 a2
 |@ref a b o j _ a2 a3 a4 a5 ih=>
  by_cases c:b=0
  ·rw[c,h0]at a5;cases a5
  ·exact hstr a ih b (Hp.Ai.2 ⟨c,o,a2,j,a3,a4⟩) a5
 |@pair a b c o _ a2 a3 a4 a5 a6 a7 a8 ih1 ih2=>
  have e0:s.keyOf a=c:=by unfold Hp.keyOf Hp.refsOf;rw[a3];dsimp only;rw[Qc,a5];rfl
  have e1:s.valOf a=b:=by unfold Hp.valOf Hp.refsOf;rw[a3];dsimp only;rw[Qc,a7];rfl
  have hk:s.Vl a=2:=by unfold Hp.Vl;rw[a3];exact a4
  have hc0:s.keyOf a≠0:=fun h=>by rw[←e0,h]at a6;have:=a6.has;rw[h0]at this;cases this
  rcases htb a ih1 hk hc0 with⟨q1,q2⟩|⟨q1,q2⟩
  ·rw[e1]at q2;exact q2 a8
  ·rw[e0]at q1;exact absurd ih2 q1⟩
end Go.Cs
namespace Go.Cs.Tryz
open Go Go.Cs
section
variable {hb : Nat} {s : Hp} {L : GD} {wb mk mw : Nat} {nt : Nat}
theorem Gh1(k:s.Ok){o:Tags}{H:Gb}{ks:List Int}{wf:Int→List Int}(m:VA o H hb s L wb mk mw ks wf nt)(wk:WOk nt ks wf){l:List Int}(hl:l.length≤100000)(hle:∀x∈l,x≤9223372036854775807){w:CV}(hw:LI H w l)(hwo:l≠[]→o (Gp w)=none)
  {E0:Env}(h0:E0 8=.ptr wb 0)(h48:E0 24=w)(h49:E0 25=.i l.length)(h50:E0 26=.i 0){r:Option (CX×Env×Gb)}(hr:den P (.loop Mj) E0 H=r):
  ∃E' H',r=some (.exit 0,E',H')∧Za s hb L wb mk mw nt (fun x=>x∈l) o H ks wf H'∧∀t,t∉wr Mj→E' t=E0 t:=by
 obtain⟨x',E',H',e,-,⟨rfl,q⟩,fr⟩:=Gy (p:=P) (c:=Mj) (E0:=E0) (H0:=H)
  (fun q E H'=>∃j:Nat,E 26=.i j∧j≤l.length∧q=l.length-j∧Za s hb L wb mk mw nt (fun x=>x∈l.take j) o H ks wf H')
  (fun x' E' H'=>x'=.exit 0∧Za s hb L wb mk mw nt (fun x=>x∈l) o H ks wf H') (by
   rintro q E H' hE ⟨j,e50,hj,rfl,o',ks',wf',m',g,rc⟩
   have e0:=(hE 8 dK).trans h0
   have e48:=(hE 24 dK).trans h48
   have e49:=(hE 25 dK).trans h49
   by_cases c:j<l.length
   ·have c':decide ((j:Int)<(l.length:Int))=true:=GK oM
    obtain⟨x,hx⟩:∃x,l[j]?=some x:=⟨_,J9 c⟩
    have HY:=hwo (fun h=>by rw[h]at c;exact absurd c sM)
    obtain⟨tl,a1,a2,a3,a4⟩:=hw.pos oM
    have O4:H'[Gp w]?=H[Gp w]?:=g.keep _ (Gd a3) HY
    have ix:∀X,Kb 1 w (.i j) X=some (.ptr (Gp w) j,X):=fun X=>by
     rw[a1];exact(if_pos oM).trans (by simp[Gp])
    have l1:ld H'[Gp w]? j=some (.i x):=by rw[O4,a3,Vt];simp[ints,hx]
    obtain⟨H2,r1,o2,Zh,wf2,m2,g2,rc2⟩:=Yr k 4097 o' H' ks' wf' x oM m' (wk.next rc) (hle x (JX hx))
    have w1:IntKind.i64.wrap ((j:Int)+1)=((j+1:Nat):Int):=Gh oM
    apply Gt (k':=l.length-(j+1))
    ·simp(disch:=first|exact dz|fail) only[simprocAttr,Gc,↓reduceIte,Mj,e0,e48,e49,e50,c',ix,l1,r1,w1]
     rfl
    ·omega
    ·refine⟨j+1,uA,oM,rfl,o2,Zh,wf2,m2,g.trans g2,(rc.trans rc2).weaken fun b=>?_⟩
     rw[QL,hx,VT,NG,Uy]
   ·have c':decide ((j:Int)<(l.length:Int))=false:=GC oM
    rw[NW oM]at rc
    apply Gl (x:=.exit 0)
    ·simp(disch:=first|exact dz|fail) only[simprocAttr,Gc,↓reduceIte,Mj,e49,e50,c']
     rfl
    ·simp
    ·exact⟨rfl,o',ks',wf',m',g,rc⟩) _ ⟨0,h50,oM,rfl,o,ks,wf,m,UN.gr (Keeps.refl _ _),(Mq.refl wk.no).weaken fun b=>by simp⟩
 exact⟨E',H',hr.symm.trans e,q,fr⟩
structure WSt(s:Hp)(st:Int→Prop)(j nt:Nat)(ks:List Int)(wf:Int→List Int):Prop where
 wk:WOk nt ks wf
 sd:Sd s st ks wf
 nt:nt≤j
 st:∀a,st a→s.has a=true→a∈ks
 dn:∀i a,i<j→ks[i]?=some a→(∀b∈s.strOf a,s.has b=true→b∈ks)∧Gb_ s a ks wf
theorem Gg5(k:s.Ok)(hs:QS s)(h00:s.has 0=false){st:Int→Prop}{o:Tags}{H:Gb}{ks:List Int}{wf:Int→List Int}(m:VA o H hb s L wb mk mw ks wf nt)(ws:WSt s st 0 nt ks wf)
  {E0:Env}(h8:E0 8=.ptr wb 0)(h11:E0 11=.i 0){r:Option (CX×Env×Gb)}(hr:den P (.loop Om) E0 H=r):
  ∃E' H' o' ks' wf' Sm,r=some (.exit 2,E',H')∧VA o' H' hb s L wb mk mw ks' wf' Sm∧UN o H o' H'∧(∀x,x∈ks'↔Kp s st true x)∧∀t,t∉wr Om→E' t=E0 t:=by
 obtain⟨x',E',H',e,-,⟨rfl,o',ks',wf',Sm,q1,q2,q3⟩,fr⟩:=Gy (p:=P) (c:=Om) (E0:=E0) (H0:=H)
  (fun q E H'=>∃(j:Nat)(o':Tags)(ks':List Int)(wf':Int→List Int)(Sm:Nat),E 11=.i j∧j≤ks'.length∧q=5000-j∧VA o' H' hb s L wb mk mw ks' wf' Sm∧UN o H o' H'∧WSt s st j Sm ks' wf')
  (fun x' E' H'=>x'=.exit 2∧∃(o':Tags)(ks':List Int)(wf':Int→List Int)(Sm:Nat),VA o' H' hb s L wb mk mw ks' wf' Sm∧UN o H o' H'∧∀x,x∈ks'↔Kp s st true x) (by
   rintro q E H' hE ⟨j,o',ks',wf',Sm,e11,hj,rfl,m',g,ws⟩
   have e8:=(hE 8 dK).trans h8
   obtain⟨lv,f,wks,b1,b2,b3,b4⟩:=m'.ex
   have hll:=b2.len H'
   have Wn:=m'.O8.few k
   by_cases c:j<ks'.length
   ·have c':decide ((j:Int)<(ks'.length:Int))=true:=GK oM
    have hx:ks'[j]?=some ks'[j]:=J9 c
    obtain⟨a,hae⟩:∃a,a=ks'[j]:=⟨_,rfl⟩
    rw[←hae]at hx
    have Guz:=ws.nt
    obtain⟨bb,ff,i1,i2,i3⟩:=LI.at (At.il b2) hx
    have V3:=i3 H' (Keeps.refl _ _)
    obtain⟨H2,o2,Zh,wf2,nt2,r1,m2,g2,p1,p2,p3,p4,p5,p6⟩:=GcU m' k hs ws.wk oM ws.sd (JX hx)
    have w1:IntKind.i64.wrap ((j:Int)+1)=((j+1:Nat):Int):=Gh oM
    have hpl:=p4.pre.length_le
    apply Gt (k':=5000-(j+1))
    ·simp(disch:=first|exact dz|fail) only[simprocAttr,Gc,↓reduceIte,Om,e8,e11,b1,hll,c',i1,V3,r1,w1]
     rfl
    ·omega
    ·refine⟨j+1,o2,Zh,wf2,nt2,uA,oM,rfl,m2,g.trans g2,p2,p3,oM,fun x hx hh=>p4.pre.subset (ws.st x hx hh),fun i y hi hy=>?_⟩
     by_cases ci:i=j
     ·subst ci
      have:y=a:=by
       obtain⟨t,ht⟩:=p4.pre
       rw[←ht,QN c,hx]at hy
       simpa using hy.symm
      subst this
      exact⟨p5,p6⟩
     ·have hy':ks'[i]?=some y:=by
       obtain⟨t,ht⟩:=p4.pre
       rw[←ht,QN oM]at hy
       exact hy
      obtain⟨d1,d2⟩:=ws.dn i y oM hy'
      exact⟨fun b hb hh=>p4.pre.subset (d1 b hb hh),p4.tb d2⟩
   ·have c':decide ((j:Int)<(ks'.length:Int))=false:=GC oM
    apply Gl (x:=.exit 2)
    ·simp(disch:=first|exact dz|fail) only[simprocAttr,Gc,↓reduceIte,Om,e8,e11,b1,hll,c']
     rfl
    ·simp
    ·refine⟨rfl,o',ks',wf',Sm,m',g,Gf1 k h00 ws.sd ws.st (fun a ha b hb hh=>?_) fun a ha=>?_⟩
     ·obtain⟨i,hi⟩:=List.mem_iff_getElem?.1 ha
      exact(ws.dn i a (by have:=Gd hi;omega) hi).1 b hb hh
     ·obtain⟨i,hi⟩:=List.mem_iff_getElem?.1 ha
      exact(ws.dn i a (by have:=Gd hi;omega) hi).2) _ ⟨0,o,ks,wf,nt,h11,oM,rfl,m,UN.gr (Keeps.refl _ _),ws⟩
 exact⟨E',H',o',ks',wf',Sm,hr.symm.trans e,q1,q2,q3,fr⟩
theorem RS{H:Gb}{o1:Tags}{rb:Nat}{R:Rt}{v:Nat→CV}(p:PH H hb s L)(k:s.Ok)(m:K9 o1 H rb R v)(kr:R.Ok)(hs:VN s R):
  ∃w H' l n,run P 14 [.ptr hb 0,.ptr rb 0] H=some (.Ju [w,.i (n:Nat),.i 0],H')∧Gr H H'∧LI H' w l∧Zj l∧∀x,x∈l↔XN s R x:=by
 obtain⟨X1,h1,g1⟩:=Lp p k m kr hs
 obtain⟨X2,hX2⟩:∃X2:Gb,X2=X1++[⟨[],.map,0⟩]++[⟨[],.map,0⟩]++[⟨[.ptr hb 0,.GU X1.length,.GU (X1.length+1),.Gf,.i 0],.rw,0⟩]:=⟨_,rfl⟩
 have g2:Gr X1 X2:=by rw[hX2];exact((Gr.app X1 _).app' _).app' _
 have l2:X2.length=X1.length+3:=by rw[hX2];simp
 have p2:=(p.gr g1).gr g2
 obtain⟨w3,X3,h3,g3,li3⟩:=ZT ((m.gr g1).gr g2) kr
 have hvl:=kr.Vs
 have hll:=Qv R.vis
 have hmem:∀a,a∈Jc R.vis↔a∈R.vals∧a≠0:=fun a=>by rw[Vz,Rt.Im]
 have hp1:=(p.gr g1).lt
 have m2:VA (((Tags.put (fun _=>none) X1.length (0,2,0)).put (X1.length+1) (0,3,0)).put (X1.length+2) (0,0,0)) X2 hb s L (X1.length+2) X1.length (X1.length+1) [] (fun _=>[]) 0:=by
  refine⟨p2,fun c hc=>?_,fun c t h=>?_,Tags.put_eq,?_,?_,⟨⟨[],by rw[hX2];simp[Kc],rfl,List.nodup_nil,fun k v=>by simp⟩,fun x hx=>(by cases hx)⟩,.Gf,fun _=>none,[],by rw[hX2];simp,.inl ⟨rfl,rfl,.inl rfl⟩,⟨[],by rw[hX2];simp[Kc],rfl,List.nodup_nil,fun k v=>by simp⟩,fun key=>.inl ⟨rfl,rfl⟩⟩
  ·have:=hp1 c hc
   rw[Tags.GY oM,Tags.GY oM,Tags.GY oM]
  ·by_cases c1:c=X1.length+2
   ·omega
   ·rw[Tags.GY c1]at h
    by_cases c2:c=X1.length+1
    ·omega
    ·rw[Tags.GY c2]at h
     by_cases c3:c=X1.length
     ·omega
     ·rw[Tags.GY c3]at h;cases h
  ·rw[Tags.GY oM,Tags.GY oM,Tags.put_eq]
  ·rw[Tags.GY oM,Tags.put_eq]
 have m3:=m2.gr g3
 have wk3:WOk 0 [] (fun _=>([]:List Int)):=⟨fun _ h=>(by cases h),fun _=>Nat.le_refl _,fun _ _ h=>(by cases h)⟩
 have hwl:=li3.len X3
 have hwo:Jc R.vis≠[]→(((Tags.put (fun _=>none) X1.length (0,2,0)).put (X1.length+1) (0,3,0)).put (X1.length+2) (0,0,0)) (Gp w3)=none:=fun h=>by
  obtain⟨tl,a1,a2,a3,a4⟩:=li3.pos (BQ.2 h)
  have:=(Gn.1 a2).1
  rw[Tags.GY oM,Tags.GY oM,Tags.GY oM]
 rw[Gi c14 _ _ sM]
 simp(disch:=first|exact dz|fail) only[simprocAttr,Gc,↓reduceIte,Gj,h1,BX,fill,splice,and_self,show∀b:Nat,cellsOf (CV.GU b)=[CV.GU b]from fun _=>rfl]
 rw[show X1.length+1+1=X1.length+2 from rfl,←hX2]
 simp(disch:=first|exact dz|fail) only[simprocAttr,Gc,↓reduceIte,h3,hwl]
 generalize hr:den P (.loop Mj) _ _=r
 obtain⟨E4,X4,rfl,⟨o4,ks4,wf4,m4,c4,rc4⟩,f4⟩:=Gh1 k m3 wk3 oM (fun x hx=>by
  rcases hs.2.1 x ((hmem x).1 hx).1 with h|h
  ·omega
  ·have:=k.has_lt h;omega) li3.li hwo uA uA uA uA hr
 have d8:=f4 8 dK
 simp only[Gg,Nat.reduceEqDiff,↓reduceIte]at d8
 simp(disch:=first|exact dz|fail) only[simprocAttr,Gc,↓reduceIte]
 generalize hr:den P (.loop Om) _ _=r
 obtain⟨E5,X5,o5,ks5,wf5,nt5,rfl,m5,c5,hk5,f5⟩:=Gg5 (st:=fun a=>a∈Jc R.vis) k hs.1 hs.2.2.has m4 ⟨wk3.next rc4,rc4.sd (fun a ha hh=>.start ha hh) ⟨fun x hx=>(by cases hx),fun _ _ hx=>(by cases hx)⟩,Nat.le_refl _,fun a ha hh=>rc4.got a ha hh,fun i a hi=>by omega⟩ (by simp[Gg,d8]) uA hr
 have e8:=f5 8 dK
 simp only[Gg,Nat.reduceEqDiff,↓reduceIte,d8]at e8
 obtain⟨lv,fm,wks,t5,-,-,-⟩:=m5.ex
 obtain⟨w6,X6,b,h6,h7,g6,li6⟩:=F7 k m5.O8
 have t6:=g6.get t5
 have hwb:=Gd t5
 simp(disch:=first|exact dz|fail) only[simprocAttr,Gc,↓reduceIte,e8,t5,h6,h7,t6,Gh_]
 have c35:=c4.trans c5
 refine⟨w6,X6,Qd ks5,nt5,rfl,⟨?_,fun c hc _=>?_⟩,li6.li,M8 m5.O8.m.nodup,fun x=>?_⟩
 ·have:=g1.len;have:=g3.len;have:=c35.len;have:=g6.len;omega
 ·have q1:=g1.len
  have q3:=g3.len
  have q5:=c35.len
  rw[g6.keep c oM fun h=>h,c35.keep c oM (by rw[Tags.GY oM,Tags.GY oM,Tags.GY oM]),g3.keep c oM fun h=>h,g2.keep c oM fun h=>h,g1.keep c hc fun h=>h]
 ·rw[LX,hk5]
  exact⟨fun h=>h.mono fun a h=>(hmem a).1 h,fun h=>h.mono fun a h=>(hmem a).2 h⟩
end
end Go.Cs.Tryz
namespace Go.Cs.Tryz
open Go Go.Cs A
def F4:Gu:=S (T [m 13 7,m 14 8,b 15 .lss 13 14] (J 15 (X 0))) (B 1 (T [m 16 7,m 17 8,b 18 .add 16 17,e 19 (.conv .u64 (t 18)),e 20 (.shift .shr (t 19) (c (.int .u64 1))),e 21 (.conv .i64 (t 20)),m 9 21] (T [m 22 0,m 23 9,x 24 1 22 23,l 25 1 24,m 26 1,q2 27 140 25 26] (C 27 (R [m 28 9,bk 29 .add 28 1,m 7 29]) (R [m 30 9,m 8 30])))))
def C52:Gm:=⟨54,0,T [n 4 0,nb 5 false] (T [m 10 0,le 11 10,m 6 11] (T [m 12 6,n 7 0,m 8 12] (S (B 0 (W F4)) (Q [m 31 7,m 32 7,m 33 6,b 34 .lss 32 33,m 35 34,gt 35 (m 36 0),gt 35 (m 37 7),gt 35 (x 38 1 36 37),gt 35 (l 39 1 38),gt 35 (m 40 1),gt 35 (b 41 .eql 39 40),gt 35 (m 42 41),gf 42 (m 43 0),gf 42 (m 44 7),gf 42 (x 45 1 43 44),gf 42 (l 46 1 45),gf 42 (q1 47 141 46),gf 42 (m 48 47),gt 48 (m 49 1),gt 48 (q1 50 141 49),gf 42 (an 51 48 50),gt 35 (or 52 42 51),an 53 35 52,m 4 31,m 5 53])))),[r 4,r 5]⟩
theorem c52:P 52=some C52:=by kernel_rfl
def Gop:Gm:=⟨17,0,T [nb 4 false] (Q [m 5 0,q1 6 230 5,m 7 6,gt 7 (m 8 1),gt 7 (q1 9 230 8),gt 7 (no 10 9),an 11 7 10,m 12 11,gf 12 (m 13 0),gf 12 (m 14 1),gf 12 (b 15 .lss 13 14),or 16 12 15,m 4 16]),[r 4]⟩
theorem GmY:P 140=some Gop:=by kernel_rfl
def GnL:Gm:=⟨6,0,T [nb 2 false] (Q [m 3 0,m 4 0,b 5 .neq 3 4,m 2 5]),[r 2]⟩
theorem c141:P 141=some GnL:=by kernel_rfl
def GnF:Gm:=⟨6,0,T [nb 2 false] (Q [m 3 0,m 4 0,b 5 .neq 3 4,m 2 5]),[r 2]⟩
theorem GnP:P 230=some GnF:=by kernel_rfl
end Go.Cs.Tryz
namespace Go.Cs.Tryz
open Go Go.Cs
section
variable {H : Gb} {v : CV} {l : List Int}
theorem GdV(a b:Int):run P 140 [.i a,.i b] H=some (.bool (decide (a<b)),H):=by
 have h:∀x:Int,run P 230 [.i x] H=some (.bool false,H):=fun x=>by
  rw[Gi GnP _ _ sM]
  simp(disch:=first|exact dz|fail) only[simprocAttr,Gc,↓reduceIte,Gv,show(x != x)=false from bne_self_eq_false x]
 have ha:=h a
 have hb:=h b
 rw[Gi GmY _ _ sM]
 by_cases c:a<b
 ·rw[GK c]
  simp(disch:=first|exact dz|fail) only[simprocAttr,Gc,↓reduceIte,Gj,ha,hb,GK c]
 ·rw[GC c]
  simp(disch:=first|exact dz|fail) only[simprocAttr,Gc,↓reduceIte,Gj,ha,hb,GC c]
theorem RO(x:Int):run P 141 [.i x] H=some (.bool false,H):=by
 rw[Gi c141 _ _ sM]
 simp(disch:=first|exact dz|fail) only[simprocAttr,Gc,↓reduceIte,Gv,show(x != x)=false from bne_self_eq_false x]
theorem Gc4(h:LI H v l)(hs:Zj l)(hl:l.length≤100000){x:Int}{E0:Env}(h0:E0 0=v)(h1:E0 1=.i x)(h7:E0 7=.i 0)(h8:E0 8=.i l.length){r:Option (CX×Env×Gb)}(hr:den P (.loop F4) E0 H=r):
  ∃(E':Env)(i:Nat),r=some (.exit 0,E',H)∧E' 7=.i i∧i≤l.length∧(x∈l↔l[i]?=some x)∧∀t,t∉wr F4→E' t=E0 t:=by
 obtain⟨x',E',H',e,-,⟨rfl,rfl,i,q1,q2,q3⟩,fr⟩:=Gy (p:=P) (c:=F4) (E0:=E0) (H0:=H)
  (fun q E H'=>H'=H∧∃i j:Nat,E 7=.i i∧E 8=.i j∧i≤j∧j≤l.length∧q=j-i∧(∀p y,p<i→l[p]?=some y→y<x)∧∀p y,j≤p→l[p]?=some y→x≤y)
  (fun x' E' H'=>x'=.exit 0∧H'=H∧∃i:Nat,E' 7=.i i∧i≤l.length∧(x∈l↔l[i]?=some x)) (by
   rintro q E H' hE ⟨rfl,i,j,e7,e8,hij,hj,rfl,lo,hi⟩
   have e0:=(hE 0 dK).trans h0
   have e1:=(hE 1 dK).trans h1
   have mono:∀p q y z,p<q→l[p]?=some y→l[q]?=some z→y<z:=fun p q y z hpq hp hq=>by
    have:=KV (r:=fun a b:Int=>a<b) hs hpq hp hq
    exact this
   by_cases c:i<j
   ·have c':decide ((i:Int)<(j:Int))=true:=GK oM
    obtain⟨m,hm⟩:∃m,m=(i+j)/2:=⟨_,rfl⟩
    have hx:l[m]?=some l[m]:=J9 oM
    obtain⟨b,o,i1,i2,i3⟩:=h.at hx
    have V3:=i3 H' (Keeps.refl _ _)
    have w1:IntKind.i64.wrap ((i:Int)+(j:Int))=((i+j:Nat):Int):=Gh oM
    have w2:IntKind.u64.wrap ((i+j:Nat):Int)=((i+j:Nat):Int):=Mt oM
    have sh:BN .shr (.int .u64 ((i+j:Nat):Int)) (.int .u64 1) H'=some (.int .u64 (m:Int),H'):=by
     rw[Gqd oM]
     congr 3
     show((i+j:Nat):Int).fdiv 2=_
     rw[Int.fdiv_eq_ediv_of_nonneg _ oM]
     omega
    have w3:IntKind.i64.wrap (m:Int)=(m:Int):=Gh oM
    have w4:IntKind.i64.wrap ((m:Int)+1)=((m+1:Nat):Int):=Gh oM
    have hc:=GdV (H:=H') l[m] x
    by_cases hlt:l[m]<x
    ·rw[GK hlt]at hc
     apply Gt (k':=j-(m+1))
     ·simp(disch:=first|exact dz|fail) only[simprocAttr,Gc,↓reduceIte,F4,e0,e1,e7,e8,c',w1,Nf,Qi,w2,Fg,sh,w3,i1,V3,hc,w4]
      rfl
     ·omega
     ·refine⟨rfl,m+1,j,uA,by simp[Gg,e8],oM,hj,rfl,fun p y hp hy=>?_,hi⟩
      by_cases cp:p=m
      ·subst cp
       rw[hx]at hy
       simp only[Gx]at hy
       rw[←hy];exact hlt
      ·have:=mono p m y _ oM hy hx
       omega
    ·rw[GC hlt]at hc
     apply Gt (k':=m-i)
     ·simp(disch:=first|exact dz|fail) only[simprocAttr,Gc,↓reduceIte,F4,e0,e1,e7,e8,c',w1,Nf,Qi,w2,Fg,sh,w3,i1,V3,hc]
      rfl
     ·omega
     ·refine⟨rfl,i,m,by simp[Gg,e7],uA,oM,oM,rfl,lo,fun p y hp hy=>?_⟩
      by_cases cp:p=m
      ·subst cp
       rw[hx]at hy
       simp only[Gx]at hy
       rw[←hy];omega
      ·have:=mono m p _ y oM hx hy
       omega
   ·have c':decide ((i:Int)<(j:Int))=false:=GC oM
    have hji:j=i:=by omega
    subst hji
    apply Gl (x:=.exit 0)
    ·simp(disch:=first|exact dz|fail) only[simprocAttr,Gc,↓reduceIte,F4,e7,e8,c']
     rfl
    ·simp
    ·refine⟨rfl,rfl,j,by simp[Gg,e7],hj,fun hm=>?_,fun h=>JX h⟩
     obtain⟨p,hp⟩:=List.mem_iff_getElem?.1 hm
     by_cases c1:p<j
     ·exact absurd (lo p x c1 hp) oM
     ·by_cases c2:p=j
      ·rw[←c2];exact hp
      ·exfalso
       have hlp:=Gd hp
       have hjx:l[j]?=some l[j]:=J9 oM
       have:=mono j p _ x oM hjx hp
       have:=hi j _ (Nat.le_refl _) hjx
       omega) _ ⟨rfl,0,l.length,h7,h8,Nat.zero_le _,Nat.le_refl _,rfl,fun p y hp=>by omega,fun p y hp hy=>by have:=Gd hy;omega⟩
 exact⟨E',i,hr.symm.trans e,q1,q2,q3,fr⟩
theorem AO(h:LI H v l)(hs:Zj l)(hl:l.length≤100000)(x:Int):∃i:Nat,run P 52 [v,.i x] H=some (.Ju [.i i,.bool (decide (x∈l))],H):=by
 have hvl:=h.len H
 rw[Gi c52 _ _ sM]
 simp(disch:=first|exact dz|fail) only[simprocAttr,Gc,↓reduceIte,Gj,hvl]
 generalize hr:den P (.loop F4) _ _=r
 obtain⟨E',i,rfl,a7,hi,hiff,f1⟩:=Gc4 h hs hl (x:=x) uA uA uA uA hr
 have b0:=f1 0 dK
 have b1:=f1 1 dK
 have b6:=f1 6 dK
 simp only[Gg,Nat.reduceEqDiff,↓reduceIte]at b0 b1 b6
 refine⟨i,?_⟩
 by_cases c:i<l.length
 ·have c':decide ((i:Int)<(l.length:Int))=true:=GK oM
  have hx:l[i]?=some l[i]:=J9 c
  obtain⟨b,o,i1,i2,i3⟩:=h.at hx
  have V3:=i3 H (Keeps.refl _ _)
  by_cases ce:l[i]=x
  ·have ce':(l[i]==x)=true:=by simpa using ce
   have hm:x∈l:=hiff.2 (by rw[hx,ce])
   rw[GK hm]
   simp(disch:=first|exact dz|fail) only[simprocAttr,Gc,↓reduceIte,a7,b0,b1,b6,c',i1,V3,ce']
  ·have ce':(l[i]==x)=false:=by simpa using ce
   have hm:x∉l:=fun h=>ce (by have:=hiff.1 h;rw[hx]at this;simpa using this)
   have GqK:=RO (H:=H) l[i]
   rw[GC hm]
   simp(disch:=first|exact dz|fail) only[simprocAttr,Gc,↓reduceIte,a7,b0,b1,b6,c',i1,V3,ce',GqK]
 ·have c':decide ((i:Int)<(l.length:Int))=false:=GC oM
  have hm:x∉l:=fun h=>by have:=hiff.1 h;have:=Gd this;omega
  rw[GC hm]
  simp(disch:=first|exact dz|fail) only[simprocAttr,Gc,↓reduceIte,a7,b6,c']
end
end Go.Cs.Tryz

namespace Go.Cs
open Go
def Z5(kd j:Nat)(l:List Int):List Int:=l.zipIdx.map fun x=>if x.2<j∧Jj kd x.2=false then 0 else x.1
theorem UH(kd j:Nat)(l:List Int):(Z5 kd j l).length=l.length:=by simp[Z5]
theorem KC(kd j:Nat)(l:List Int)(i:Nat):(Z5 kd j l)[i]?=(l[i]?).map fun r=>if i<j∧Jj kd i=false then 0 else r:=by
 unfold Z5
 rw[Ke,List.getElem?_zipIdx]
 cases l[i]? with
 |none=>rfl
 |some r=>simp
theorem GaI(kd:Nat)(l:List Int):Z5 kd 0 l=l:=by
 apply List.ext_getElem?
 intro i
 rw[KC]
 cases l[i]? with
 |none=>rfl
 |some r=>simp
theorem Ga1{kd j:Nat}{l:List Int}{r:Int}(h:l[j]?=some r) (hr:r=0∨Jj kd j=true):Z5 kd (j+1) l=Z5 kd j l:=by
 apply List.ext_getElem?
 intro i
 rw[KC,KC]
 by_cases c:i=j
 ·subst c
  rw[h]
  simp only[Option.map_some,Gx]
  rcases hr with hr|hr
  ·rw[hr];simp
  ·rw[hr];simp
 ·congr 1
  funext r
  have:i<j+1↔i<j:=by omega
  simp only[this]
theorem Gc2{kd j:Nat}{l:List Int}(hj:j<l.length)(hs:Jj kd j=false):(Z5 kd j l).set j 0=Z5 kd (j+1) l:=by
 apply List.ext_getElem?
 intro i
 rw[KC,Lu]
 by_cases c:j=i
 ·subst c
  rw[if_pos rfl,if_pos (by rw[UH];exact hj),J9 hj]
  simp[hs]
 ·rw[if_neg c,KC]
  congr 1
  funext r
  have:i<j+1↔i<j:=by omega
  simp only[this]
def zf(j:Nat)(x:Ob):Ob:={x with refs:=Z5 x.kd j x.refs}
def zA(x:Ob):Ob:=zf x.refs.length x
theorem Gbs(j:Nat)(x:Ob):Np (zf j) x:=⟨rfl,rfl,rfl,UH _ _ _,rfl⟩
theorem Ec(x:Ob):Np zA x:=⟨rfl,rfl,rfl,UH _ _ _,rfl⟩
theorem GgT(x:Ob):zA (zA x)=zA x:=by
 unfold zA zf
 simp only[UH]
 congr 1
 apply List.ext_getElem?
 intro i
 rw[KC,KC]
 cases x.refs[i]? with
 |none=>rfl
 |some r=>
  simp only[Option.map_some]
  split<;>rfl
theorem Gha{s:Hp}{a:Nat}{f g:Ob→Ob}(hf:∀x,(f x).addr=x.addr):(s.upd a f).upd a g=s.upd a fun x=>g (f x):=by
 unfold Hp.upd
 simp only[List.map_map]
 congr 1
 apply List.map_congr_left
 intro x _
 show(if((if x.addr=a then f x else x):Ob).addr=a then g (if x.addr=a then f x else x)else(if x.addr=a then f x else x))=if x.addr=a then g (f x)else x
 by_cases c:x.addr=a
 ·simp only[c,↓reduceIte]
  rw[if_pos (by rw[hf];exact c)]
 ·simp only[c,↓reduceIte]
theorem Ar{s:Hp}{a:Nat}{f g:Ob→Ob}(h:∀x∈s.objs,x.addr=a→f x=g x):s.upd a f=s.upd a g:=by
 unfold Hp.upd
 congr 1
 apply List.map_congr_left
 intro x hx
 by_cases c:x.addr=a
 ·rw[if_pos c,if_pos c,h x hx c]
 ·rw[if_neg c,if_neg c]
theorem GjM{s:Hp}{a:Nat}{f:Ob→Ob}(h:∀x∈s.objs,x.addr=a→f x=x):s.upd a f=s:=by
 have:s.upd a f=s.upd a id:=Ar h
 rw[this]
 unfold Hp.upd
 simp
def Xb(l:List Int)(o:Ob):Prop:=(o.kd=1∨o.kd=2)∧¬(o.refs.getD 0 0≠0∧o.refs.getD 0 0∈l)
open Classical in
noncomputable def VB(s:Hp)(l:List Int)(a:Int):Hp:=match s.obj a with
 |some o=>if Xb l o then s.upd o.addr zA else s
 |none=>s
noncomputable def Yt(s:Hp)(l:List Int)(j:Nat):Hp:=(l.take j).foldl (fun s a=>VB s l a) s
theorem Ak{s:Hp}{l:List Int}{j:Nat}{a:Int}(h:l[j]?=some a):Yt s l (j+1)=VB (Yt s l j) l a:=by
 unfold Yt
 rw[QL,h,VT,List.foldl_append]
 rfl
def SZ(l:List Int)(o:Ob):Prop:=Xb l o→∀(j:Nat)(r:Int),o.refs[j]?=some r→Jj o.kd j=false→r=0
theorem Geb(l:List Int)(o:Ob):SZ l (zA o):=fun _ j r hr hs=>by
 have h1:(zA o).refs[j]?=(o.refs[j]?).map fun r=>if j<o.refs.length∧Jj o.kd j=false then 0 else r:=KC _ _ _ _
 rw[h1]at hr
 cases e:o.refs[j]? with
 |none=>rw[e]at hr;cases hr
 |some y=>
  rw[e,Option.map_some,if_pos ⟨Gd e,hs⟩]at hr
  exact(Option.some.inj hr).symm
theorem Yv{kd:Nat}(h:kd=1∨kd=2):Jj kd 0=false:=by rcases h with rfl|rfl<;>rfl
theorem Gjm{l:List Int}{o:Ob}(h:Xb l o):Xb l (zA o):=⟨h.1,fun h2=>by
 have h1:(zA o).refs[0]?=(o.refs[0]?).map fun r=>if 0<o.refs.length∧Jj o.kd (0:Nat)=false then 0 else r:=KC _ _ _ _
 rw[Qc,h1]at h2
 cases e:o.refs[0]? with
 |none=>rw[e]at h2;exact h2.1 rfl
 |some y=>
  rw[e,Option.map_some,if_pos ⟨Gd e,Yv h.1⟩]at h2
  exact h2.1 rfl⟩
def Cz(l:List Int)(dn:Prop)(o o':Ob):Prop:=(o'=o∨(Xb l o∧o'=zA o))∧(dn→Xb l o→o'=zA o)
theorem Gfs(s:Hp)(l:List Int)(b a:Int):(VB s l b).obj a=s.obj a∨∃o,s.obj b=some o∧a=b∧Xb l o∧(VB s l b).obj a=some (zA o):=by
 classical
 unfold VB
 cases e:s.obj b with
 |none=>exact .inl rfl
 |some o=>
  dsimp only
  split
  ·rename_i c
   rw[Hp.Sc (fun x _ _=>Ec x)]
   obtain⟨q1,q2⟩:=Hp.Jy e
   by_cases ca:a=b
   ·right
    subst ca
    refine⟨o,rfl,rfl,c,?_⟩
    rw[e]
    simp[KR]
   ·left
    cases e2:s.obj a with
    |none=>rfl
    |some o2=>
     obtain⟨r1,r2⟩:=Hp.Jy e2
     simp only[Option.map_some,KR,Gx]
     rw[if_neg oM]
  ·exact .inl rfl
theorem LB(s:Hp)(l:List Int):∀{j:Nat},j≤l.length→∀a o,s.obj a=some o→∃o',(Yt s l j).obj a=some o'∧Cz l (a∈l.take j) o o':=by
 intro j
 induction j with
 |zero=>intro _ a o h;exact⟨o,h,.inl rfl,fun h=>by simp at h⟩
 |succ j ih=>
  intro hj a o ho
  obtain⟨o',h1,h2,h3⟩:=ih oM a o ho
  have hb:l[j]?=some l[j]:=J9 oM
  rw[Ak hb]
  have hm:a∈l.take (j+1)↔a∈l.take j∨a=l[j]:=by
   rw[QL,hb,VT,NG,Uy]
  rcases Gfs (Yt s l j) l l[j] a with q|⟨o2,q1,q2,q3,q4⟩
  ·rw[q]
   refine⟨o',h1,h2,fun hd hc=>?_⟩
   rcases hm.1 hd with hd|hd
   ·exact h3 hd hc
   ·
    have e:(VB (Yt s l j) l l[j]).obj a=some o':=q.trans h1
    rcases h2 with h2|h2
    ·rw[←hd]at e
     unfold VB at e
     rw[h1]at e
     dsimp only at e
     rw[h2]at e
     rw[if_pos hc,Hp.Sc (fun x _ _=>Ec x),h1,h2]at e
     simp[KR]at e
     exact h2.trans e.symm
    ·exact h2.2
  ·rw[q4]
   rw[←q2,h1]at q1
   simp only[Gx]at q1
   subst q1
   rcases h2 with h2|⟨h2,h4⟩
   ·subst h2
    exact⟨_,rfl,.inr ⟨q3,rfl⟩,fun _ _=>rfl⟩
   ·refine⟨_,rfl,.inr ⟨h2,?_⟩,fun _ _=>?_⟩<;>rw[h4,GgT]
theorem Gge{s:Hp}(k:s.Ok)(l:List Int)(a:Int):(VB s l a).Ok∧(∀x,(VB s l a).has x=s.has x):=by
 classical
 unfold VB
 split
 ·split
  ·exact⟨k.upd fun x _ _=>Ec x,Hp.Gbu fun x _ _=>Ec x⟩
  ·exact⟨k,fun _=>rfl⟩
 ·exact⟨k,fun _=>rfl⟩
theorem Ge9{s:Hp}{R:Rt}(h:VN s R)(l:List Int)(a:Int):VN (VB s l a) R:=by
 classical
 unfold VB
 split
 ·split
  ·refine h.upd (fun x _ _=>Ec x) fun x hx y hy=>?_
   obtain⟨i,hi⟩:=List.mem_iff_getElem?.1 hy
   have h1:(zA x).refs[i]?=(x.refs[i]?).map fun r=>if i<x.refs.length∧Jj x.kd i=false then 0 else r:=KC _ _ _ _
   rw[h1]at hi
   cases e:x.refs[i]? with
   |none=>rw[e]at hi;cases hi
   |some r=>
    rw[e,Option.map_some]at hi
    split at hi
    ·simp only[Gx]at hi
     exact .inr (.inl hi.symm)
    ·simp only[Gx]at hi
     rw[←hi]
     exact .inl (JX e)
  ·exact h
 ·exact h
theorem Ij{s:Hp}(k:s.Ok)(l:List Int):∀{j:Nat},j≤l.length→(Yt s l j).Ok∧∀x,(Yt s l j).has x=s.has x:=by
 intro j
 induction j with
 |zero=>intro _;exact⟨k,fun _=>rfl⟩
 |succ j ih=>
  intro hj
  obtain⟨h1,h2⟩:=ih oM
  rw[Ak (J9 oM)]
  obtain⟨q1,q2⟩:=Gge h1 l l[j]
  exact⟨q1,fun x=>by rw[q2,h2]⟩
theorem TH{s:Hp}{R:Rt}(h:VN s R)(l:List Int):∀{j:Nat},j≤l.length→VN (Yt s l j) R:=by
 intro j
 induction j with
 |zero=>intro _;exact h
 |succ j ih=>
  intro hj
  rw[Ak (J9 oM)]
  exact Ge9 (ih oM) l _
theorem GcI{o:Ob}{j:Nat}(h:Jj o.kd j=true):(zA o).refs[j]?=o.refs[j]?:=by
 have h1:(zA o).refs[j]?=(o.refs[j]?).map fun r=>if j<o.refs.length∧Jj o.kd j=false then 0 else r:=KC _ _ _ _
 rw[h1]
 cases o.refs[j]? with
 |none=>rfl
 |some r=>simp[h]
theorem Cz.kd{l:List Int}{dn:Prop}{o o':Ob}(h:Cz l dn o o'):o'.kd=o.kd∧o'.refs.length=o.refs.length:=by
 rcases h.1 with h|⟨-,h⟩
 ·rw[h];exact⟨rfl,rfl⟩
 ·rw[h];exact⟨rfl,UH _ _ _⟩
theorem Cz.strong{l:List Int}{dn:Prop}{o o':Ob}(h:Cz l dn o o'){j:Nat}(hs:Jj o.kd j=true):o'.refs[j]?=o.refs[j]?:=by
 rcases h.1 with h|⟨-,h⟩
 ·rw[h]
 ·rw[h];exact GcI hs
theorem Cz.same{l:List Int}{dn:Prop}{o o':Ob}(h:Cz l dn o o')(hn:¬Xb l o):o'=o:=by
 rcases h.1 with h|⟨h,-⟩
 ·exact h
 ·exact absurd h hn
theorem GfA{s:Hp}(k:s.Ok)(h0:s.has 0=false){st:Int→Prop}{l:List Int}(hl:∀x,x∈l↔Kp s st true x)(x:Int):Kp (Yt s l l.length) st true x↔Kp s st true x:=by
 obtain⟨-,hh⟩:=Ij k l (Nat.le_refl l.length)
 have Vj:=fun a o h=>LB s l (Nat.le_refl l.length) a o h
 have nz:∀{c:Int}{o:Ob},o.refs[0]?=some c→Kp s st true c→¬Xb l o:=fun{c o} h1 h2 h3=>by
  have e:o.refs.getD 0 0=c:=by rw[Qc,h1];rfl
  refine h3.2 ⟨fun e2=>?_,by rw[e];exact(hl c).2 h2⟩
  have h4:=h2.has
  rw[←e,e2,h0]at h4
  cases h4
 constructor
 ·intro h
  induction h with
  |start a1 a2=>exact .start a1 (by rw[←hh];exact a2)
  |@ref a b o' j _ a2 a3 a4 a5 ih=>
   obtain⟨o,ho⟩:=Hp.J8.1 ih.has
   obtain⟨o2,q1,q2⟩:=Vj a o ho
   rw[a2]at q1
   simp only[Gx]at q1
   subst q1
   rw[q2.kd.1]at a4
   rw[q2.strong a4]at a3
   exact .ref ih ho a3 a4 (by rw[←hh];exact a5)
  |@pair a b c o' _ a2 a3 a4 a5 a6 a7 a8 ih1 ih2=>
   obtain⟨o,ho⟩:=Hp.J8.1 ih1.has
   obtain⟨o2,q1,q2⟩:=Vj a o ho
   rw[a3]at q1
   simp only[Gx]at q1
   subst q1
   have e:o'=o:=by
    rcases q2.1 with h|⟨h,h2⟩
    ·exact h
    ·exfalso
     rw[h2]at a5
     have:=Geb l o (Gjm h) 0 c a5 (Yv h.1)
     have hc:=ih2.has
     rw[this,h0]at hc
     cases hc
   subst e
   exact .pair rfl ih1 ho a4 a5 ih2 a7 (by rw[←hh];exact a8)
 ·intro h
  induction h with
  |start a1 a2=>exact .start a1 (by rw[hh];exact a2)
  |@ref a b o j _ a2 a3 a4 a5 ih=>
   obtain⟨o',q1,q2⟩:=Vj a o a2
   exact .ref ih q1 (by rw[q2.strong a4];exact a3) (by rw[q2.kd.1];exact a4) (by rw[hh];exact a5)
  |@pair a b c o _ a2 a3 a4 a5 a6 a7 a8 ih1 ih2=>
   obtain⟨o',q1,q2⟩:=Vj a o a3
   have e:=q2.same (nz a5 a6)
   subst e
   exact .pair rfl ih1 q1 a4 a5 ih2 a7 (by rw[hh];exact a8)
theorem GdW{s:Hp}(l:List Int){a:Int}(ha:a∈l){o:Ob}(ho:s.obj a=some o):∃o',(Yt s l l.length).obj a=some o'∧SZ l o'∧o'.kd=o.kd∧o'.refs.length=o.refs.length:=by
 obtain⟨o',q1,q2⟩:=LB s l (Nat.le_refl l.length) a o ho
 refine⟨o',q1,?_,q2.kd⟩
 by_cases c:Xb l o
 ·rw[q2.2 (by rw[NW (Nat.le_refl _)];exact ha) c]
  exact Geb l o
 ·rw[q2.same c]
  exact fun h=>absurd h c
theorem Cz.sz{l:List Int}{dn:Prop}{o o':Ob}(h:Cz l dn o o')(hs:SZ l o):SZ l o':=by
 rcases h.1 with h|⟨-,h⟩
 ·rw[h];exact hs
 ·rw[h];exact Geb l o
end Go.Cs
namespace Go.Cs.Tryz
open Go Go.Cs A
def C51:Gm:=⟨13,0,T [nb 3 false] (T [l 7 1 1,m 8 0,q2 9 52 7 8,m 6 9,ex 10 6 0,ex 11 6 1,m 4 10,m 5 11] (Q [m 12 5,m 3 12])),[r 3]⟩
theorem c51:P 51=some C51:=by kernel_rfl
def VO:Gu:=T [b 45 .lss 44 43] (S (J 45 (X 0)) (S (B 1 (T [m 46 44,m 12 46] (T [m 48 0,m 49 1,m 50 12,q3 51 76 48 49 50,m 47 51,ex 52 47 0,ex 53 47 1,m 13 52,m 14 53] (T [m 54 13,bk 55 .neq 54 0,m 56 55,gt 56 (f 57 2 7),gt 56 (l 58 1 57),gt 56 (m 59 12),gt 56 (q2 60 142 58 59),an 61 56 60] (I 61 (T [m 62 0,m 63 1,m 64 12,ca 65 122 [t 62,t 63,t 64,k 0]] (R [m 66 11,bk 67 .add 66 1,m 11 67]))))))) (R [bk 68 .add 44 1,m 44 68])))
def C53:Gm:=⟨70,0,T [n 6 0] (T [m 16 0,m 17 1,q2 18 75 16 17,m 15 18,ex 19 15 0,ex 20 15 1,e 7 (.new [i 0,i 0,i 0]),st 3 7 19,m 8 20] (S (T [f 21 2 7,l 22 1 21,bk 23 .neq 22 1,m 24 23,gt 24 (f 25 2 7),gt 24 (l 26 1 25),gt 24 (bk 27 .neq 26 2),an 28 24 27] (I 28 (Q [n 6 0]))) (S (T [m 30 0,m 31 1,ca 32 76 [t 30,t 31,k 0],m 29 32,ex 33 29 0,ex 34 29 1,m 9 33,m 10 34] (T [m 35 9,bk 36 .neq 35 0,m 37 36,gt 37 (m 38 2),gt 37 (m 39 9),gt 37 (e 40 (.Nz (t 38) [t 39] [(304,"dustcart/alloc.place",335),(305,"dustcart/alloc.place",340),(306,"dustcart/alloc.place",348),(307,"dustcart/alloc.place",349),(308,"dustcart/alloc.place",353)])),an 41 37 40] (I 41 (Q [n 6 0])))) (T [n 11 0] (S (T [f 42 0 7,l 43 1 42,n 44 0] (B 0 (W VO))) (Q [m 69 11,m 6 69])))))),[r 6]⟩
theorem c53:P 53=some C53:=by kernel_rfl
end Go.Cs.Tryz
namespace Go.Cs
open Go
theorem Hp.Lo.word{s:Hp}(h:s.Lo){w:Nat}(hw:w<64):s.word w=0:=by
 unfold Hp.word
 have e:s.owner w=none:=by
  unfold Hp.owner
  rw[List.find?_eq_none]
  intro x hx e
  have:=h.2 x hx
  simp only[decide_eq_true_eq]at e
  omega
 rw[e]
theorem PH.sep{H:Gb}{hb:Nat}{s:Hp}{L:GD}(p:PH H hb s L)(k:s.Ok)(lo:s.Lo){l:List Int}(hs:Zj l){b:Nat}(h:H[b]?=some ⟨ints l,.rw,1⟩):b∉L.all hb:=by
 intro hb'
 have side:∀{a c n:Nat}{f:Nat→Bool},Side H a c n f→H[c]?=some ⟨ints l,.rw,1⟩→False:=fun{a c n f} sd e=>by
  obtain⟨ws,w1,-,w2,-⟩:=sd.ws
  rw[w2]at e
  simp only[Gx,JI.mk.injEq,and_true]at e
  have hp:=sd.pos
  have h0:0<ws.length:=by rw[w1];unfold UU;omega
  have e0:=congrArg (fun r=>r[0]?) e
  simp only[Ke,J9 h0,ints,Option.map_some]at e0
  cases e2:l[0]? with
  |none=>rw[e2]at e0;cases e0
  |some y=>rw[e2]at e0;simp at e0
 obtain⟨l1,h1,-⟩:=p.Qg
 obtain⟨l2,h2,-⟩:=p.fwd
 simp only[GD.all,List.mem_cons,List.not_mem_nil,or_false]at hb'
 rcases hb' with rfl|rfl|rfl|rfl|rfl|rfl|rfl|rfl|rfl
 ·rw[p.top]at h;simp at h
 ·rw[p.blk]at h;simp at h
 ·rw[p.wrd]at h
  simp only[Gx,JI.mk.injEq,and_true]at h
  have hnb:=k.nb
  have hnw:s.nw=64*s.blk.length:=rfl
  have e:=fun(i:Nat)=>congrArg (fun r=>r[i]?) h
  have el:∀i:Nat,i<64→l[i]?=some 0:=fun i hi=>by
   have:=e i
   simp only[Ke,ints]at this
   rw[ZG oM,Option.map_some,lo.word hi]at this
   cases e2:l[i]? with
   |none=>rw[e2]at this;cases this
   |some y=>rw[e2]at this;simp only[Option.map_some,Gx,CV.int.injEq,true_and]at this;rw[this]
  have:=KV (r:=fun a b:Int=>a<b) hs (i:=0) (j:=1) oM (el 0 oM) (el 1 oM)
  omega
 ·rw[p.sta.st]at h;simp at h
 ·exact side p.sta h
 ·rw[p.pin.st]at h;simp at h
 ·exact side p.pin h
 ·rw[h1]at h;simp at h
 ·rw[h2]at h;simp at h
theorem LI.apart{H H':Gb}{hb:Nat}{s:Hp}{L:GD}{w:CV}{l:List Int}(h:LI H w l)(p:PH H hb s L)(k:s.Ok)(lo:s.Lo)(hs:Zj l)(g:Keeps H H' (·∈L.all hb)):LI H' w l:=by
 rcases h with h|⟨b,tl,h1,h2,h3,h4⟩
 ·exact .inl h
 ·exact .inr ⟨b,tl,h1,h2,by rw[g.keep b (Gd h3) (p.sep k lo hs h3),h3],h4⟩
theorem VN.lo{s:Hp}{R:Rt}(h:VN s R):s.Lo:=h.2.2
end Go.Cs
namespace Go.Cs.Tryz
open Go Go.Cs
section
variable {H : Gb} {hb : Nat} {s : Hp} {L : GD}
theorem GaB{cb:Nat}{w:CV}{l:List Int}(hcb:H[cb]?=some ⟨[w],.rw,0⟩) (h:LI H w l) (hs:Zj l) (hl:l.length≤100000) (x:Int):run P 51 [.i x,.ptr cb 0] H=some (.bool (decide (x∈l)),H):=by
 obtain⟨i,h1⟩:=AO h hs hl x
 rw[Gi c51 _ _ sM]
 simp(disch:=first|exact dz|fail) only[simprocAttr,Gc,↓reduceIte,Gj,hcb,h1]
theorem Yd(k:s.Ok)(lo:s.Lo)(p:PH H hb s L){a:Int}{o:Ob}(ho:s.obj a=some o){c7:Nat}(t7:H[c7]?=some ⟨Je o.refs.length o.data.length o.kd,.rw,0⟩) (h7n:c7∉L.all hb)
  {E0:Env} (h0:E0 0=.ptr hb 0) (h1:E0 1=.i a) (h7:E0 7=.ptr c7 0) (h11:E0 11=.i 0) (h43:E0 43=.i o.refs.length) (h44:E0 44=.i 0) {r:Option (CX×Env×Gb)} (hr:den P (.loop VO) E0 H=r):
  ∃E' H' n,r=some (.exit 0,E',H')∧Keeps H H' (·∈L.all hb)∧PH H' hb (s.upd o.addr zA) L∧E' 11=.i (n:Nat)∧n≤15∧((∀(j:Nat)(r:Int),o.refs[j]?=some r→Jj o.kd j=false→r=0)→n=0):=by
 obtain⟨hom,hoa⟩:=Hp.Jy ho
 have hok:=k.ob o hom
 have hnr:=hok.nr
 have hkd:=hok.kd.1
 have hfi:=hok.fits
 have hnb:=k.nb
 have hnw:s.nw=64*s.blk.length:=rfl
 have uniq:∀x∈s.objs,x.addr=o.addr→x=o:=fun x hx hxa=>by
  have e1:=k.obj hx
  have e2:=k.obj hom
  rw[hxa,e2]at e1
  exact(Option.some.inj e1).symm
 have zAo:s.upd o.addr (zf o.refs.length)=s.upd o.addr zA:=Ar fun x hx hxa=>by rw[uniq x hx hxa];rfl
 obtain⟨x',E',H',e,-,⟨rfl,g,pp,n,q1,q2,q3⟩,fr⟩:=Gy (p:=P) (c:=VO) (E0:=E0) (H0:=H)
  (fun q E H'=>∃(j n:Nat),E 44=.i j∧j≤o.refs.length∧q=o.refs.length-j∧Keeps H H' (·∈L.all hb)∧PH H' hb (s.upd o.addr (zf j)) L∧E 11=.i n∧n≤j∧((∀(j:Nat)(r:Int),o.refs[j]?=some r→Jj o.kd j=false→r=0)→n=0))
  (fun x' E' H'=>x'=.exit 0∧Keeps H H' (·∈L.all hb)∧PH H' hb (s.upd o.addr zA) L∧∃n:Nat,E' 11=.i n∧n≤15∧((∀(j:Nat)(r:Int),o.refs[j]?=some r→Jj o.kd j=false→r=0)→n=0)) (by
   rintro q E H' hE ⟨j,n,e44,hj,rfl,g,pj,e11,hn,hz⟩
   have e0:=(hE 0 dK).trans h0
   have e1:=(hE 1 dK).trans h1
   have e7:=(hE 7 dK).trans h7
   have e43:=(hE 43 dK).trans h43
   have t7':H'[c7]?=_:=(g.keep c7 (Gd t7) h7n).trans t7
   have kj:(s.upd o.addr (zf j)).Ok:=k.upd fun x _ _=>Gbs j x
   by_cases c:j<o.refs.length
   ·have c':decide ((j:Int)<(o.refs.length:Int))=true:=GK oM
    obtain⟨r,hr⟩:∃r,o.refs[j]?=some r:=⟨_,J9 c⟩
    have Vm:(s.upd o.addr (zf j)).obj a=some (zf j o):=by
     rw[Hp.Sc (fun x _ _=>Gbs j x),ho]
     simp[KR]
    have hre:((s.upd o.addr (zf j)).refsOf a)[j]?=some r:=by
     unfold Hp.refsOf
     rw[Vm]
     show(Z5 o.kd j o.refs)[j]?=some r
     rw[KC,hr];simp
    obtain⟨X,b1,g1⟩:=KF pj kj a j oM
    rw[Hp.Uw hre]at b1
    unfold Uj at b1
    have pX:=pj.gr g1
    have gX:Keeps H' X (·∈L.all hb):=g1.weaken fun _ h=>h.elim
    have t7X:=g1.get t7'
    have w1:IntKind.i64.wrap ((j:Int)+1)=((j+1:Nat):Int):=Gh oM
    suffices fin:∃(E':Env)(H2:Gb)(n2:Nat),den P VO E H'=some (.normal,E',H2)∧E' 44=.i ((j+1:Nat):Int)∧Keeps H' H2 (·∈L.all hb)∧PH H2 hb (s.upd o.addr (zf (j+1))) L∧E' 11=.i n2∧n2≤j+1∧((∀(j:Nat)(r:Int),o.refs[j]?=some r→Jj o.kd j=false→r=0)→n2=0)by
     obtain⟨E',H2,n2,f1,f2,f3,f4,f5,f6,f7⟩:=fin
     exact Gt f1 (k':=o.refs.length-(j+1)) oM ⟨j+1,n2,f2,oM,rfl,g.trans f3,f4,f5,f6,f7⟩
    unfold Je at t7X
    have same:(r=0∨Jj o.kd j=true)→s.upd o.addr (zf (j+1))=s.upd o.addr (zf j):=fun h=>Ar fun x hx hxa=>by
     rw[uniq x hx hxa]
     unfold zf
     rw[Ga1 hr h]
    by_cases hr0:r=0
    ·have GhP:(r != 0)=false:=by rw[hr0];rfl
     simp(disch:=first|exact dz|fail) only[simprocAttr,Gc,↓reduceIte,VO,e0,e1,e7,e43,e44,c',b1,GhP,w1]
     exact⟨_,_,n,rfl,uA,gX,by rw[same (.inl hr0)];exact pX,by simp[Gg,e11],oM,hz⟩
    ·have GhP:(r != 0)=true:=by simpa using hr0
     have hso:=LC (H:=X) (kd:=o.kd) (i:=j) hkd
     cases hst:Jj o.kd j with
     |true=>
      rw[hst]at hso
      simp(disch:=first|exact dz|fail) only[simprocAttr,Gc,↓reduceIte,VO,e0,e1,e7,e43,e44,c',b1,GhP,t7X,hso,w1]
      exact⟨_,_,n,rfl,uA,gX,by rw[same (.inr hst)];exact pX,by simp[Gg,e11],oM,hz⟩
     |false=>
      rw[hst]at hso
      obtain⟨X2,d1,d2,d3⟩:=NI pX kj a j 0 oM oM
      have hset:(s.upd o.addr (zf j)).setRef a j 0=(s.upd o.addr (zf (j+1)),0):=by
       unfold Hp.setRef
       rw[Vm]
       dsimp only
       have hl2:(zf j o).refs.length=o.refs.length:=UH _ _ _
       rw[if_pos (by rw[hl2];omega),if_pos (.inl rfl),K6]
       congr 1
       show(s.upd o.addr (zf j)).upd o.addr _=_
       rw[Gha (f:=zf j) fun x=>rfl]
       refine Ar fun x hx hxa=>?_
       rw[uniq x hx hxa]
       unfold zf
       dsimp only
       rw[Gc2 c hst]
      rw[hset]at d1 d3
      have w2:IntKind.i64.wrap ((n:Int)+1)=((n+1:Nat):Int):=Gh oM
      simp(disch:=first|exact dz|fail) only[simprocAttr,Gc,↓reduceIte,VO,e0,e1,e7,e11,e43,e44,c',b1,GhP,t7X,hso,d1,w1,w2]
      exact⟨_,_,n+1,rfl,uA,gX.trans d2,d3,uA,oM,fun h=>absurd (h j r hr hst) hr0⟩
   ·have c':decide ((j:Int)<(o.refs.length:Int))=false:=GC oM
    have hjj:j=o.refs.length:=by omega
    rw[hjj,zAo]at pj
    apply Gl (x:=.exit 0)
    ·simp(disch:=first|exact dz|fail) only[simprocAttr,Gc,↓reduceIte,VO,e43,e44,c']
     rfl
    ·simp
    ·exact⟨rfl,g,pj,n,by simp[Gg,e11],oM,hz⟩) _ ⟨0,0,h44,oM,rfl,Keeps.refl _ _,by
     rw[GjM fun x _ _=>by unfold zf;rw[GaI]];exact p,h11,Nat.le_refl _,fun _=>rfl⟩
 exact⟨E',H',n,hr.symm.trans e,g,pp,q1,q2,q3⟩
theorem O7(k:s.Ok)(lo:s.Lo)(p:PH H hb s L){a:Int}(hh:s.has a=true){cb:Nat}{w:CV}{l:List Int}(hcb:H[cb]?=some ⟨[w],.rw,0⟩) (h:LI H w l) (hs:Zj l) (hl:l.length≤100000):
  ∃H' n,run P 53 [.ptr hb 0,.i a,.func 51 [.ptr cb 0]] H=some (.i (n:Nat),H')∧Keeps H H' (·∈L.all hb)∧PH H' hb (VB s l a) L∧n≤15∧((∀o,s.obj a=some o→SZ l o)→n=0):=by
 classical
 obtain⟨o,ho⟩:=Hp.J8.1 hh
 obtain⟨hom,hoa⟩:=Hp.Jy ho
 have hok:=k.ob o hom
 have hlt:=k.has_lt hh
 have ec:VB s l a=if Xb l o then s.upd o.addr zA else s:=by unfold VB;rw[ho]
 obtain⟨X,h1,g1⟩:=NA p k a oM
 have hsv:s.JR a=(Je o.refs.length o.data.length o.kd,0):=by unfold Hp.JR;rw[ho]
 rw[hsv]at h1
 obtain⟨X1,hX1⟩:∃X1:Gb,X1=X++[⟨Je o.refs.length o.data.length o.kd,.rw,0⟩]:=⟨_,rfl⟩
 have g2:Gr X X1:=by rw[hX1];exact Gr.app _ _
 have t1:X1[X.length]?=some ⟨Je o.refs.length o.data.length o.kd,.rw,0⟩:=by rw[hX1];simp
 have g12:Gr H X1:=g1.trans g2
 have p1:=p.gr g12
 have hno:X.length∉L.all hb:=fun h=>by have:=p.lt _ h;have:=g1.len;omega
 have kg:Keeps H X1 (·∈L.all hb):=g12.weaken fun _ h=>h.elim
 by_cases c1:o.kd=1∨o.kd=2
 ·have GjY:0<o.refs.length:=by rcases c1 with h|h;exact hok.kd.2.1 h;exact JH oM (hok.kd.2.2 h)
  have hr0:o.refs[0]?=some (o.refs.getD 0 0):=by rw[Qc,J9 GjY];rfl
  obtain⟨X2,h2,g3⟩:=KF p1 k a 0 oM
  have e0:=Hp.Uw (s:=s) (a:=a) (j:=0) (r:=o.refs.getD 0 0) (by unfold Hp.refsOf;rw[ho];exact hr0)
  rw[show(((0:Nat):Int))=0 from rfl]at e0
  rw[e0]at h2
  unfold Uj at h2
  have t2:=g3.get t1
  have g23:Gr H X2:=g12.trans g3
  have kg2:Keeps H X2 (·∈L.all hb):=g23.weaken fun _ h=>h.elim
  have hck:=GaB (g23.get hcb) (h.gr g23) hs hl (o.refs.getD 0 0)
  have k12:((o.kd:Int) != 1&&(o.kd:Int) != 2)=false:=by rcases c1 with h|h<;>rw[h]<;>rfl
  have hkk:((o.kd:Int) != 1)=false∨(((o.kd:Int) != 1)=true∧((o.kd:Int) != 2)=false):=by
   rcases c1 with h|h
   ·left;rw[h];rfl
   ·right;rw[h];exact⟨rfl,rfl⟩
  by_cases cn:o.refs.getD 0 0≠0∧o.refs.getD 0 0∈l
  ·have hn:¬Xb l o:=fun h=>h.2 cn
   rw[ec,if_neg hn]
   rw[GK cn.2]at hck
   have c0:(o.refs.getD 0 0 != 0)=true:=by simpa using cn.1
   refine⟨X2,0,?_,kg2,p1.gr g3,oM,fun _=>rfl⟩
   rw[Gi c53 _ _ sM]
   unfold Je at h1 hX1 t1 t2
   simp(disch:=first|exact dz|fail) only[simprocAttr,Gc,↓reduceIte,G8,h1]
   rw[←hX1]
   rcases hkk with hkk|⟨hkk,TQ⟩
   ·simp(disch:=first|exact dz|fail) only[simprocAttr,Gc,↓reduceIte,t1,hkk,h2,c0,Jd,JF,hck]
    try rfl
   ·simp(disch:=first|exact dz|fail) only[simprocAttr,Gc,↓reduceIte,t1,hkk,TQ,h2,c0,Jd,JF,hck]
    try rfl
  ·have hc:Xb l o:=⟨c1,cn⟩
   rw[ec,if_pos hc]
   have hcase:(o.refs.getD 0 0 != 0)=false∨((o.refs.getD 0 0 != 0)=true∧decide (o.refs.getD 0 0∈l)=false):=by
    by_cases z:o.refs.getD 0 0=0
    ·left;rw[z];rfl
    ·right
     exact⟨by simpa using z,GC fun h=>cn ⟨z,h⟩⟩
   suffices fin:∃H' n,run P 53 [.ptr hb 0,.i a,.func 51 [.ptr cb 0]] H=some (.i (n:Nat),H')∧Keeps X2 H' (·∈L.all hb)∧PH H' hb (s.upd o.addr zA) L∧n≤15∧((∀(j:Nat)(r:Int),o.refs[j]?=some r→Jj o.kd j=false→r=0)→n=0)by
    obtain⟨H',n,f1,f2,f3,f4,f5⟩:=fin
    exact⟨H',n,f1,kg2.trans f2,f3,f4,fun h=>f5 (h o ho hc)⟩
   rw[Gi c53 _ _ sM]
   have t2s:=t2
   unfold Je at h1 hX1 t1 t2
   have key:∀{E:Env},E 0=.ptr hb 0→E 1=.i a→E 7=.ptr X.length 0→E 11=.i 0→E 43=.i o.refs.length→E 44=.i 0→∃E' H' n,den P (.loop VO) E X2=some (.exit 0,E',H')∧Keeps X2 H' (·∈L.all hb)∧PH H' hb (s.upd o.addr zA) L∧E' 11=.i (n:Nat)∧n≤15∧((∀(j:Nat)(r:Int),o.refs[j]?=some r→Jj o.kd j=false→r=0)→n=0):=
    fun{E} z0 z1 z7 z11 z43 z44=>Yd k lo (p1.gr g3) ho t2s hno z0 z1 z7 z11 z43 z44 rfl
   rcases hkk with hkk|⟨hkk,TQ⟩<;>rcases hcase with c0|⟨c0,c2⟩
   ·simp(disch:=first|exact dz|fail) only[simprocAttr,Gc,↓reduceIte,G8,h1]
    rw[←hX1]
    simp(disch:=first|exact dz|fail) only[simprocAttr,Gc,↓reduceIte,t1,hkk,h2,c0,t2]
    generalize hr:den P (.loop VO) _ _=r
    obtain⟨E',H',n,f1,f2,f3,f4,f5,f6⟩:=Yd k lo (p1.gr g3) ho t2s hno uA uA uA uA uA uA hr
    rw[f1]
    simp(disch:=first|exact dz|fail) only[simprocAttr,Gc,↓reduceIte,f4]
    exact⟨_,n,rfl,f2,f3,f5,f6⟩
   ·rw[c2]at hck
    simp(disch:=first|exact dz|fail) only[simprocAttr,Gc,↓reduceIte,G8,h1]
    rw[←hX1]
    simp(disch:=first|exact dz|fail) only[simprocAttr,Gc,↓reduceIte,t1,hkk,h2,c0,t2,Jd,JF,hck]
    generalize hr:den P (.loop VO) _ _=r
    obtain⟨E',H',n,f1,f2,f3,f4,f5,f6⟩:=Yd k lo (p1.gr g3) ho t2s hno uA uA uA uA uA uA hr
    rw[f1]
    simp(disch:=first|exact dz|fail) only[simprocAttr,Gc,↓reduceIte,f4]
    exact⟨_,n,rfl,f2,f3,f5,f6⟩
   ·simp(disch:=first|exact dz|fail) only[simprocAttr,Gc,↓reduceIte,G8,h1]
    rw[←hX1]
    simp(disch:=first|exact dz|fail) only[simprocAttr,Gc,↓reduceIte,t1,hkk,TQ,h2,c0,t2]
    generalize hr:den P (.loop VO) _ _=r
    obtain⟨E',H',n,f1,f2,f3,f4,f5,f6⟩:=Yd k lo (p1.gr g3) ho t2s hno uA uA uA uA uA uA hr
    rw[f1]
    simp(disch:=first|exact dz|fail) only[simprocAttr,Gc,↓reduceIte,f4]
    exact⟨_,n,rfl,f2,f3,f5,f6⟩
   ·rw[c2]at hck
    simp(disch:=first|exact dz|fail) only[simprocAttr,Gc,↓reduceIte,G8,h1]
    rw[←hX1]
    simp(disch:=first|exact dz|fail) only[simprocAttr,Gc,↓reduceIte,t1,hkk,TQ,h2,c0,t2,Jd,JF,hck]
    generalize hr:den P (.loop VO) _ _=r
    obtain⟨E',H',n,f1,f2,f3,f4,f5,f6⟩:=Yd k lo (p1.gr g3) ho t2s hno uA uA uA uA uA uA hr
    rw[f1]
    simp(disch:=first|exact dz|fail) only[simprocAttr,Gc,↓reduceIte,f4]
    exact⟨_,n,rfl,f2,f3,f5,f6⟩
 ·have hn:¬Xb l o:=fun h=>c1 h.1
  rw[ec,if_neg hn]
  have n1:((o.kd:Int) != 1)=true:=bne_iff_ne.2 oM
  have n2:((o.kd:Int) != 2)=true:=bne_iff_ne.2 oM
  refine⟨X1,0,?_,kg,p1,oM,fun _=>rfl⟩
  rw[Gi c53 _ _ sM]
  unfold Je at h1 hX1 t1
  simp(disch:=first|exact dz|fail) only[simprocAttr,Gc,↓reduceIte,G8,h1]
  rw[←hX1]
  try rfl
end
end Go.Cs.Tryz
namespace Go.Cs.Tryz
open Go Go.Cs A
def Pm:Gu:=T [b 44 .lss 43 42] (S (J 44 (X 2)) (S (B 3 (T [x 45 1 41 43,l 46 1 45,m 11 46] (R [m 47 9,m 48 0,m 49 11,m 50 8,q3 51 53 48 49 50,b 52 .add 47 51,m 9 52]))) (R [bk 53 .add 43 1,m 43 53])))
def DC:Gu:=T [b 18 .lss 17 16] (S (J 18 (X 0)) (S (B 1 (T [m 19 17,x 20 1 15 17,l 21 1 20,m 6 19,m 7 21] (T [m 22 0,m 23 7,q2 24 50 22 23,no 25 24,m 26 25,gf 26 (m 27 6),gf 26 (bk 28 .gtr 27 0),gf 26 (m 29 28),gt 29 (l 30 1 3),gt 29 (m 31 6),gt 29 (bk 32 .sub 31 1),gt 29 (x 33 1 30 32),gt 29 (l 34 1 33),gt 29 (m 35 7),gt 29 (b 36 .geq 34 35),gf 26 (an 37 29 36),or 38 26 37] (I 38 (Q [n 4 0,n 5 2]))))) (R [bk 39 .add 17 1,m 17 39])))
def C15:Gm:=⟨55,0,T [bo 3 1,n 4 0,n 5 0] (S (T [m 12 0,q1 13 49 12,bk 14 .leq 13 0] (I 14 (Q [n 4 0,n 5 1]))) (S (T [l 15 1 3,le 16 15,n 17 0] (B 0 (W DC))) (T [e 40 (.NY 51 [t 3]),m 8 40] (T [n 9 0] (S (T [l 41 1 3,le 42 41,n 43 0] (B 2 (W Pm))) (Q [m 54 9,m 4 54,n 5 0])))))),[r 4,r 5]⟩
theorem c15:P 15=some C15:=by kernel_rfl
end Go.Cs.Tryz
namespace Go.Cs.Tryz
open Go Go.Cs
section
variable {H : Gb} {hb : Nat} {s : Hp} {L : GD}
theorem Ge3(k:s.Ok)(p:PH H hb s L){cb:Nat}{w:CV}{l:List Int}(hcb:H[cb]?=some ⟨[w],.rw,0⟩) (h:LI H w l) (hs:Zj l) (hl:l.length≤100000) (hh:∀x∈l,s.has x=true)
  {E0:Env} (h0:E0 0=.ptr hb 0) (h3:E0 3=.ptr cb 0) (h15:E0 15=w) (h16:E0 16=.i l.length) (h17:E0 17=.i 0) {r:Option (CX×Env×Gb)} (hr:den P (.loop DC) E0 H=r):
  ∃E',r=some (.exit 0,E',H)∧∀t,t∉wr DC→E' t=E0 t:=by
 obtain⟨x',E',H',e,-,⟨rfl,rfl⟩,fr⟩:=Gy (p:=P) (c:=DC) (E0:=E0) (H0:=H)
  (fun q E H'=>H'=H∧∃j:Nat,E 17=.i j∧j≤l.length∧q=l.length-j)
  (fun x' E' H'=>x'=.exit 0∧H'=H) (by
   rintro q E H' hE ⟨rfl,j,e17,hj,rfl⟩
   have e0:=(hE 0 dK).trans h0
   have e3:=(hE 3 dK).trans h3
   have e15:=(hE 15 dK).trans h15
   have e16:=(hE 16 dK).trans h16
   by_cases c:j<l.length
   ·have c':decide ((j:Int)<(l.length:Int))=true:=GK oM
    have hx:l[j]?=some l[j]:=J9 c
    obtain⟨a,hae⟩:∃a,a=l[j]:=⟨_,rfl⟩
    rw[←hae]at hx
    have hha:=hh a (JX hx)
    have hlt:=k.has_lt hha
    obtain⟨b,f,i1,i2,i3⟩:=h.at hx
    have V3:=i3 H' (Keeps.refl _ _)
    have h1:=QA p k a oM
    rw[hha]at h1
    have w1:IntKind.i64.wrap ((j:Int)+1)=((j+1:Nat):Int):=Gh oM
    suffices fin:∃E',den P DC E H'=some (.normal,E',H')∧E' 17=.i ((j+1:Nat):Int)by
     obtain⟨E',f1,f2⟩:=fin
     exact Gt f1 (k':=l.length-(j+1)) oM ⟨rfl,j+1,f2,oM,rfl⟩
    by_cases c0:j=0
    ·have c0':decide (0<(j:Int))=false:=GC oM
     simp(disch:=first|exact dz|fail) only[simprocAttr,Gc,↓reduceIte,DC,e0,e3,e15,e16,e17,c',i1,V3,h1,c0',w1]
     exact⟨_,rfl,uA⟩
    ·have c0':decide (0<(j:Int))=true:=GK oM
     have hy:l[j-1]?=some l[j-1]:=J9 oM
     obtain⟨b2,f2,u1,u2,u3⟩:=h.at hy
     have u3':=u3 H' (Keeps.refl _ _)
     have wm:IntKind.i64.wrap ((j:Int)-1)=((j-1:Nat):Int):=by rw[Gh oM];omega
     have hlt2:=KV (r:=fun a b:Int=>a<b) hs (i:=j-1) (j:=j) oM hy hx
     have c2:decide (a≤l[j-1])=false:=GC oM
     simp(disch:=first|exact dz|fail) only[simprocAttr,Gc,↓reduceIte,DC,e0,e3,e15,e16,e17,c',i1,V3,h1,c0',hcb,wm,u1,u3',c2,w1]
     exact⟨_,rfl,uA⟩
   ·have c':decide ((j:Int)<(l.length:Int))=false:=GC oM
    apply Gl (x:=.exit 0)
    ·simp(disch:=first|exact dz|fail) only[simprocAttr,Gc,↓reduceIte,DC,e16,e17,c']
     rfl
    ·simp
    ·exact⟨rfl,rfl⟩) _ ⟨rfl,0,h17,oM,rfl⟩
 exact⟨E',hr.symm.trans e,fr⟩
theorem Ges{R:Rt}(k:s.Ok)(hs:VN s R)(p:PH H hb s L){cb:Nat}{w:CV}{l:List Int}(hcb:H[cb]?=some ⟨[w],.rw,0⟩) (hcn:cb∉L.all hb) (h:LI H w l) (hsr:Zj l) (hl:l.length≤100000) (hh:∀x∈l,s.has x=true)
  {E0:Env} (h0:E0 0=.ptr hb 0) (h8:E0 8=.func 51 [.ptr cb 0]) (h9:E0 9=.i 0) (h41:E0 41=w) (h42:E0 42=.i l.length) (h43:E0 43=.i 0) {r:Option (CX×Env×Gb)} (hr:den P (.loop Pm) E0 H=r):
  ∃E' H' n,r=some (.exit 2,E',H')∧Keeps H H' (·∈L.all hb)∧PH H' hb (Yt s l l.length) L∧E' 9=.i (n:Nat)∧((∀a∈l,∀o,s.obj a=some o→SZ l o)→n=0):=by
 obtain⟨x',E',H',e,-,⟨rfl,g,pp,n,q1,q2⟩,fr⟩:=Gy (p:=P) (c:=Pm) (E0:=E0) (H0:=H)
  (fun q E H'=>∃j n:Nat,E 43=.i j∧j≤l.length∧q=l.length-j∧Keeps H H' (·∈L.all hb)∧PH H' hb (Yt s l j) L∧LI H' w l∧E 9=.i n∧n≤15*j∧((∀a∈l,∀o,s.obj a=some o→SZ l o)→n=0))
  (fun x' E' H'=>x'=.exit 2∧Keeps H H' (·∈L.all hb)∧PH H' hb (Yt s l l.length) L∧∃n:Nat,E' 9=.i n∧((∀a∈l,∀o,s.obj a=some o→SZ l o)→n=0)) (by
   rintro q E H' hE ⟨j,n,e43,hj,rfl,g,pj,hj',e9,hn,hz⟩
   have e0:=(hE 0 dK).trans h0
   have e8:=(hE 8 dK).trans h8
   have e41:=(hE 41 dK).trans h41
   have e42:=(hE 42 dK).trans h42
   by_cases c:j<l.length
   ·have c':decide ((j:Int)<(l.length:Int))=true:=GK oM
    have hx:l[j]?=some l[j]:=J9 c
    obtain⟨a,hae⟩:∃a,a=l[j]:=⟨_,rfl⟩
    rw[←hae]at hx
    have hal:=JX hx
    have hha:=hh a hal
    obtain⟨b,f,i1,i2,i3⟩:=hj'.at hx
    have V3:=i3 H' (Keeps.refl _ _)
    obtain⟨kj,Gok⟩:=Ij k l (j:=j) hj
    have sj:=TH hs l (j:=j) hj
    obtain⟨H2,m,r1,g2,p2,m1,m2⟩:=O7 kj sj.lo pj (a:=a) (by rw[Gok];exact hha) ((g.keep cb (Gd hcb) hcn).trans hcb) hj' hsr hl
    have w1:IntKind.i64.wrap ((j:Int)+1)=((j+1:Nat):Int):=Gh oM
    have w2:IntKind.i64.wrap ((n:Int)+(m:Int))=((n+m:Nat):Int):=Gh oM
    apply Gt (k':=l.length-(j+1))
    ·simp(disch:=first|exact dz|fail) only[simprocAttr,Gc,↓reduceIte,Pm,e0,e8,e9,e41,e42,e43,c',i1,V3,r1,w1,w2]
     rfl
    ·omega
    ·refine⟨j+1,n+m,uA,oM,rfl,g.trans g2,by rw[Ak hx];exact p2,hj'.apart pj kj sj.lo hsr g2,uA,oM,fun hall=>?_⟩
     rw[hz hall,m2 fun o' ho'=>?_]
     obtain⟨o,ho⟩:=Hp.J8.1 hha
     obtain⟨o2,q1,q2⟩:=LB s l hj a o ho
     rw[ho']at q1
     simp only[Gx]at q1
     subst q1
     exact q2.sz (hall a hal o ho)
   ·have c':decide ((j:Int)<(l.length:Int))=false:=GC oM
    have hjj:j=l.length:=by omega
    rw[hjj]at pj
    apply Gl (x:=.exit 2)
    ·simp(disch:=first|exact dz|fail) only[simprocAttr,Gc,↓reduceIte,Pm,e42,e43,c']
     rfl
    ·simp
    ·exact⟨rfl,g,pj,n,by simp[Gg,e9],hz⟩) _ ⟨0,0,h43,oM,rfl,Keeps.refl _ _,p,h,h9,Nat.le_refl _,fun _=>rfl⟩
 exact⟨E',H',n,hr.symm.trans e,g,pp,q1,q2⟩
theorem Da{R:Rt}(k:s.Ok)(hs:VN s R)(p:PH H hb s L){w:CV}{l:List Int}(h:LI H w l)(hsr:Zj l)(hl:l.length≤100000)(hh:∀x∈l,s.has x=true):
  ∃H' n,run P 15 [.ptr hb 0,w] H=some (.Ju [.i (n:Nat),.i 0],H')∧Keeps H H' (·∈L.all hb)∧PH H' hb (Yt s l l.length) L∧LI H' w l∧((∀a∈l,∀o,s.obj a=some o→SZ l o)→n=0):=by
 obtain⟨X,hX⟩:∃X:Gb,X=H++[⟨[w],.rw,0⟩]:=⟨_,rfl⟩
 have gX:Gr H X:=by rw[hX];exact Gr.app _ _
 have tX:X[H.length]?=some ⟨[w],.rw,0⟩:=by rw[hX];simp
 have pX:=p.gr gX
 have Ou:=h.gr gX
 have hvl:=Ou.len X
 have hbl:=KD pX k
 have hnb:=k.nb
 have c1:decide ((s.blk.length:Int)≤0)=false:=GC oM
 have hcn:H.length∉L.all hb:=fun h=>by have:=p.lt _ h;omega
 have hcl:cellsOf w=[w]:=by
  have:=At.leaf h
  cases w<;>first|rfl|cases this
 rw[Gi c15 _ _ sM]
 simp(disch:=first|exact dz|fail) only[simprocAttr,Gc,↓reduceIte,Gj,hcl]
 rw[←hX]
 simp(disch:=first|exact dz|fail) only[simprocAttr,Gc,↓reduceIte,hbl,c1,tX,hvl]
 generalize hr:den P (.loop DC) _ _=r
 obtain⟨E2,rfl,f2⟩:=Ge3 k pX tX Ou hsr hl hh uA uA uA uA uA hr
 have b0:=f2 0 dK
 have b3:=f2 3 dK
 simp only[Gg,Nat.reduceEqDiff,↓reduceIte]at b0 b3
 simp(disch:=first|exact dz|fail) only[simprocAttr,Gc,↓reduceIte,b3,tX,hvl]
 generalize hr:den P (.loop Pm) _ _=r
 obtain⟨E3,H3,n,rfl,g3,p3,a9,hz⟩:=Ges k hs pX tX hcn Ou hsr hl hh (by simp[Gg,b0]) uA uA uA uA uA hr
 simp(disch:=first|exact dz|fail) only[simprocAttr,Gc,↓reduceIte,a9]
 exact⟨H3,n,rfl,(gX.weaken fun _ h=>h.elim).trans g3,p3,Ou.apart pX k hs.lo hsr g3,hz⟩
end
end Go.Cs.Tryz
namespace Go.Cs.Tryz
open Go Go.Cs A
def Te:Gu:=S (T [m 95 14,m 96 4,le 97 96,b 98 .lss 95 97] (J 98 (X 0))) (S (B 1 (S (D [⟨m 105 13,4,0,0⟩,⟨m 106 4,5,0,0⟩,⟨m 107 14,6,0,0⟩,⟨x 108 1 106 107,7,0,0⟩,⟨l 109 1 108,8,1,0⟩,⟨q2 110 22 105 109,9,3,0⟩,⟨m 101 13,0,0,0⟩,⟨z 102 101,1,0,0⟩,⟨f 103 1 102,2,0,0⟩,⟨l 104 1 103,3,1,0⟩,⟨x 111 8 104 110,10,0,1⟩,⟨lg 112 8 111,11,1,1⟩,⟨e 15 (.new [i 0,i 0,i 0,i 0,i 0,.Gf,.Gf,.bool false]),12,0,0⟩,⟨st 8 15 112,13,3,1⟩]) (T [f 113 2 15,f 114 2 113,l 115 1 114,bk 116 .eql 115 1,m 117 116,gf 117 (f 118 2 15),gf 117 (f 119 2 118),gf 117 (l 120 1 119),gf 117 (bk 121 .eql 120 2),or 122 117 121,m 123 122,gt 123 (f 124 5 15),gt 123 (l 125 1 124),gt 123 (e 126 (.index 1 (t 125) (k 0))),gt 123 (l 127 1 126),gt 123 (bk 128 .neq 127 0),an 129 123 128,m 130 129,gt 130 (m 131 4),gt 130 (f 132 5 15),gt 130 (l 133 1 132),gt 130 (e 134 (.index 1 (t 133) (k 0))),gt 130 (l 135 1 134),gt 130 (q2 136 23 131 135),gt 130 (no 137 136),an 138 130 137] (I 138 (Q [nb 2 false]))))) (R [m 99 14,bk 100 .add 99 1,m 14 100]))
def C5:Gm:=⟨163,0,T [bo 1 0,nb 2 false] (T [lg 17 7 1,q1 18 18 17,m 3 18] (S (T [m 19 3,e 20 (.eqv false 1 (t 19) (c .nilPtr))] (I 20 (Q [nb 2 false]))) (T [m 21 3,q1 22 19 21,m 4 22] (S (D [⟨m 24 3,0,0,0⟩,⟨z 25 24,1,0,0⟩,⟨f 26 0 25,2,0,0⟩,⟨l 27 1 26,3,1,0⟩,⟨m 28 3,4,0,0⟩,⟨z 29 28,5,0,0⟩,⟨f 30 1 29,6,0,0⟩,⟨l 31 1 30,7,1,0⟩,⟨q2 32 13 27 31,8,3,0⟩,⟨m 23 32,9,0,1⟩,⟨ex 33 23 0,10,0,1⟩,⟨ex 34 23 1,11,0,1⟩,⟨ex 35 23 2,12,0,1⟩,⟨m 5 33,13,0,1⟩,⟨m 6 34,14,0,1⟩,⟨m 7 35,15,0,1⟩]) (S (D [⟨m 37 3,0,0,0⟩,⟨z 38 37,1,0,0⟩,⟨f 39 0 38,2,0,0⟩,⟨l 40 1 39,3,1,0⟩,⟨m 41 3,4,0,0⟩,⟨z 42 41,5,0,0⟩,⟨f 43 1 42,6,0,0⟩,⟨l 44 1 43,7,1,0⟩,⟨q2 45 14 40 44,8,3,0⟩,⟨m 36 45,9,0,1⟩,⟨ex 46 36 0,10,0,1⟩,⟨ex 47 36 1,11,0,1⟩,⟨ex 48 36 2,12,0,1⟩,⟨m 8 46,13,0,1⟩,⟨m 9 47,14,0,1⟩,⟨m 10 48,15,0,1⟩]) (S (T [m 49 7,bk 50 .neq 49 0,m 51 50,gf 51 (m 52 10),gf 51 (bk 53 .neq 52 0),or 54 51 53,m 55 54,gf 55 (m 56 5),gf 55 (m 57 4),gf 55 (q2 58 20 56 57),gf 55 (no 59 58),or 60 55 59,m 61 60,gf 61 (m 62 8),gf 61 (m 63 4),gf 61 (q2 64 20 62 63),gf 61 (no 65 64),or 66 61 65,m 67 66,gf 67 (m 68 9),gf 67 (bk 69 .lss 68 0),or 70 67 69,m 71 70,gf 71 (m 72 6),gf 71 (bk 73 .eql 72 0),gf 71 (m 74 4),gf 71 (le 75 74),gf 71 (bk 76 .eql 75 0),gf 71 (e 77 (.eqv true 0 (t 73) (t 76))),or 78 71 77] (I 78 (Q [nb 2 false]))) (S (T [m 80 3,z 81 80,f 82 0 81,l 83 1 82,m 84 4,q2 85 15 83 84,m 79 85,ex 86 79 0,ex 87 79 1,m 11 86,m 12 87] (T [m 88 12,bk 89 .neq 88 0] (I 89 (Q [nb 2 false])))) (T [m 90 3,z 91 90,f 92 0 91,l 93 1 92,q1 94 21 93,m 13 94] (S (T [n 14 0] (B 0 (W Te))) (T [m 140 3,z 141 140,f 142 0 141,l 143 1 142,m 144 4,q2 145 15 143 144,m 139 145,ex 146 139 0,ex 147 139 1,m 16 146,m 7 147] (Q [m 148 16,bk 149 .eql 148 0,m 150 149,gt 150 (m 151 7),gt 150 (bk 152 .eql 151 0),an 153 150 152,m 154 153,gt 154 (m 155 3),gt 154 (q1 156 19 155),gt 154 (m 157 4),gt 154 (q2 158 20 156 157),an 159 154 158,m 160 159,gt 160 (ca 161 10 []),an 162 160 161,m 2 162]))))))))))),[r 2]⟩
theorem c5:P 5=some C5:=by kernel_rfl
end Go.Cs.Tryz
namespace Go.Cs.Tryz
open Go Go.Cs
section
variable {H : Gb} {o : Tags} {q : Nat} {s : Hp} {LR : N_}
theorem GkM(m:JO o H q s LR)(k:s.Ok){w:CV}{l:List Int}(h:LI H w l)(hl:l.length≤100000)(hh:∀x∈l,s.has x=true)(hz:∀a∈l,∀x,s.obj a=some x→(x.kd=1∨x.kd=2)→x.refs.getD 0 0≠0→x.refs.getD 0 0∈l)
  {E0:Env}(h4:E0 4=w)(h13:E0 13=.ptr q 0)(h14:E0 14=.i 0){r:Option (CX×Env×Gb)}(hr:den P (.loop Te) E0 H=r):
  ∃E' H',r=some (.exit 0,E',H')∧Gr H H'∧∀t,t∉wr Te→E' t=E0 t:=by
 obtain⟨x',E',H',e,-,⟨rfl,g⟩,fr⟩:=Gy (p:=P) (c:=Te) (E0:=E0) (H0:=H)
  (fun q E H'=>∃j:Nat,E 14=.i j∧j≤l.length∧q=l.length-j∧Gr H H')
  (fun x' E' H'=>x'=.exit 0∧Gr H H') (by
   rintro q E H' hE ⟨j,e14,hj,rfl,g⟩
   have e4:=(hE 4 dK).trans h4
   have e13:=(hE 13 dK).trans h13
   have m':=m.gr g
   have hvl:=h.len H'
   by_cases c:j<l.length
   ·have c':decide ((j:Int)<(l.length:Int))=true:=GK oM
    have hr:l[j]?=some l[j]:=J9 c
    obtain⟨a,hae⟩:∃a,a=l[j]:=⟨_,rfl⟩
    rw[←hae]at hr
    have hal:=JX hr
    have hha:=hh a hal
    obtain⟨x,hx⟩:=Hp.J8.1 hha
    obtain⟨b,f,i1,i2,i3⟩:=h.at hr
    have V3:=i3 H' g
    have w1:IntKind.i64.wrap ((j:Int)+1)=((j+1:Nat):Int):=Gh oM
    have hix:=NU m' k a
    unfold Hp.KJ at hix
    rw[if_pos hha]at hix
    have hxi:=Hp.YM hx
    obtain⟨b2,n,tl,q1,q2,q3,q4,q5,q6⟩:=JO.row m' hxi
    have hc:=m'.cells
    rw[q1]at hc
    have q7:EZ (some (⟨Gz LR.hv s.objs,.rw,8⟩:JI)) (s.idx a*8) 8=some (GN LR.hv x):=by
     rw[Ug,if_pos oM,YN hxi]
    obtain⟨X,hX⟩:∃X:Gb,X=H'++[⟨GN LR.hv x,.rw,0⟩]:=⟨_,rfl⟩
    have gX:Gr H' X:=by rw[hX];exact Gr.app _ _
    have tX:X[H'.length]?=some ⟨GN LR.hv x,.rw,0⟩:=by rw[hX];simp
    have hxm:=(Hp.Jy hx).1
    have hrf:=(m'.refs x hxm)
    have hkd:=(k.ob x hxm).kd
    suffices fin:∃E' H2,den P Te E H'=some (.normal,E',H2)∧E' 14=.i ((j+1:Nat):Int)∧Gr H' H2 by
     obtain⟨E',H2,f1,f2,f3⟩:=fin
     exact Gt f1 (k':=l.length-(j+1)) oM ⟨j+1,f2,oM,rfl,g.trans f3⟩
    have hs8:=Gk_ (H:=H') (r:=GN LR.hv x) rfl (by simp[GN,Gq,JM,hrf.1.leaf,hrf.2.leaf])
    unfold GN at q7 hX hs8 tX
    unfold zOb at hs8
    simp(disch:=first|exact dz|fail) only[simprocAttr,Gc,↓reduceIte,Te,e4,e13,e14,hvl,c',hc,i1,i2,V3,hix,q3,q5,q7,fill,splice,and_self]
    rw[hs8,←hX]
    by_cases ck:x.kd=1∨x.kd=2
    ·have GjY:0<x.refs.length:=by rcases ck with h|h;exact hkd.2.1 h;exact JH oM (hkd.2.2 h)
     have hr0:x.refs[0]?=some (x.refs.getD 0 0):=by rw[Qc,J9 GjY];rfl
     obtain⟨c0,f0,j1,-,j3⟩:=LI.at (At.il hrf.1) hr0
     have j1:∀X,Kb 1 (LR.hv x.id).1 (.i 0) X=some (.ptr c0 f0,X):=j1
     have j3':=j3 X gX
     have hkk:((x.kd:Int)==1)=true∨(((x.kd:Int)==1)=false∧((x.kd:Int)==2)=true):=by
      rcases ck with h|h
      ·left;rw[h];rfl
      ·right;rw[h];exact⟨rfl,rfl⟩
     by_cases z:x.refs.getD 0 0=0
     ·have z':(x.refs.getD 0 0 != 0)=false:=by rw[z];rfl
      rcases hkk with hkk|⟨hkk,TQ⟩
      ·simp(disch:=first|exact dz|fail) only[simprocAttr,Gc,↓reduceIte,tX,hkk,j1,j3',z',e14,w1]
       exact⟨_,_,rfl,uA,gX⟩
      ·simp(disch:=first|exact dz|fail) only[simprocAttr,Gc,↓reduceIte,tX,hkk,TQ,j1,j3',z',e14,w1]
       exact⟨_,_,rfl,uA,gX⟩
     ·have z':(x.refs.getD 0 0 != 0)=true:=by simpa using z
      have hm:=hz a hal x hx ck z
      have hhas:=Ga_ (h.gr (g.trans gX)) hl (x.refs.getD 0 0)
      rw[GK hm]at hhas
      rcases hkk with hkk|⟨hkk,TQ⟩
      ·simp(disch:=first|exact dz|fail) only[simprocAttr,Gc,↓reduceIte,tX,hkk,j1,j3',z',e4,hhas,e14,w1]
       exact⟨_,_,rfl,uA,gX⟩
      ·simp(disch:=first|exact dz|fail) only[simprocAttr,Gc,↓reduceIte,tX,hkk,TQ,j1,j3',z',e4,hhas,e14,w1]
       exact⟨_,_,rfl,uA,gX⟩
    ·have n1:((x.kd:Int)==1)=false:=VZ.2 oM
     have n2:((x.kd:Int)==2)=false:=VZ.2 oM
     simp(disch:=first|exact dz|fail) only[simprocAttr,Gc,↓reduceIte,tX,n1,n2,e14,w1]
     exact⟨_,_,rfl,uA,gX⟩
   ·have c':decide ((j:Int)<(l.length:Int))=false:=GC oM
    apply Gl (x:=.exit 0)
    ·simp(disch:=first|exact dz|fail) only[simprocAttr,Gc,↓reduceIte,Te,e4,e14,hvl,c']
     rfl
    ·simp
    ·exact⟨rfl,g⟩) _ ⟨0,h14,oM,rfl,Keeps.refl _ _⟩
 exact⟨E',H',hr.symm.trans e,g,fr⟩
end
end Go.Cs.Tryz

namespace Go.Cs.Tryz
open Go Go.Cs
section
variable {H : Gb}
theorem Gfh{bl mu:Int}{v:Nat→CV}(b:Beg (H++[⟨[.int .u8 bl,.int .u8 mu,v 2,v 3,v 4,v 5,v 6],.rw,0⟩]) bl mu v)(awake:∀G:Gb,∃G',run P 10 [] G=some (.bool true,G')):
  ∃H',run P 5 [.agg [.int .u8 bl,.int .u8 mu,v 2,v 3,v 4,v 5,v 6]] H=some (.bool true,H'):=by
 obtain⟨X,hX⟩:∃X:Gb,X=H++[⟨[.int .u8 bl,.int .u8 mu,v 2,v 3,v 4,v 5,v 6],.rw,0⟩]:=⟨_,rfl⟩
 rw[←hX]at b
 have tX:X[H.length]?=some ⟨[.int .u8 bl,.int .u8 mu,v 2,v 3,v 4,v 5,v 6],.rw,0⟩:=by rw[hX];simp
 obtain⟨sb,X1,s,R,D,h1,w,hown,-,hs,-,-⟩:=Gat b
 have k:=w.k
 have kr:=w.kr
 have t1:=w.m.top
 obtain⟨w2,X2,l2,h2,g2,li2,s2,k2⟩:=Mw t1 w.m.ph k w.m.pr kr
 have m2:=w.m.gr g2
 have t2:=m2.top
 have Wn:=k.Ry s2 fun x hx=>((k2 x).1 hx).has
 obtain⟨w3,X3,l3,n3,h3,g3,li3,s3,k3,z3⟩:=Gb8 m2.ph k m2.pr kr hs
 have m3:=m2.gr g3
 have t3:=m3.top
 have e3:l3=l2:=Dm s3 s2 fun x=>by rw[k3,k2]
 subst e3
 obtain⟨w4,X4,l4,n4,h4,g4,li4,s4,k4⟩:=RS m3.ph k m3.pr kr hs
 have m4:=m3.gr g4
 have t4:=m4.top
 have e4:l4=l3:=Dm s4 s2 fun x=>by rw[k4,k2]
 subst e4
 have Ghx:=((li2.gr g3).gr g4)
 have i1:=Y9 (li3.gr g4) Ghx oM
 have i2:=Y9 li4 Ghx oM
 simp only[decide_true]at i1 i2
 have hvl:=Ghx.len X4
 have hh:∀x∈l4,s.has x=true:=fun x hx=>((k2 x).1 hx).has
 obtain⟨X5,n5,h5,g5,p5,li5,-⟩:=Da k hs m4.ph Ghx s2 oM hh
 obtain⟨s',hs'⟩:∃s',s'=Yt s l4 l4.length:=⟨_,rfl⟩
 rw[←hs']at p5
 obtain⟨ok5,Gn1⟩:=Ij k l4 (Nat.le_refl l4.length)
 have GiF:=TH hs l4 (Nat.le_refl l4.length)
 have kp5:∀x,XN s' R x↔XN s R x:=fun x=>by
  rw[hs']
  exact GfA k hs.lo.has k2 x
 rw[←hs']at ok5 GiF
 have hh5:∀x∈l4,s'.has x=true:=fun x hx=>by rw[hs',Gn1];exact hh x hx
 have t5:X5[sb]?=_:=(g5.keep sb (Gd t4) m4.d0.1).trans t4
 have pr5:K9 D.o1 X5 D.rb R D.v:=m4.pr.frame (fun c t h=>JH (m4.pr.dom c t h) g5.len) (fun _ _ h=>h) fun c t h=>g5.keep c (m4.pr.dom c t h) fun hc=>by rw[(m4.d1 c hc).1]at h;cases h
 obtain⟨qb,X6,o6,L6,h6,g6,m6,-⟩:=Me p5 ok5
 have hz:∀a∈l4,∀x,s'.obj a=some x→(x.kd=1∨x.kd=2)→x.refs.getD 0 0≠0→x.refs.getD 0 0∈l4:=fun a ha x hx hkd hne=>by
  obtain⟨o,ho⟩:=Hp.J8.1 (hh a ha)
  obtain⟨x2,q1,q2,-⟩:=GdW l4 ha ho
  rw[←hs',hx]at q1
  simp only[Gx]at q1
  subst q1
  classical
  refine Decidable.byContradiction fun hn=>hne ?_
  have hc:Xb l4 x:=⟨hkd,fun h=>hn h.2⟩
  have h0l:0<x.refs.length:=by
   have:=ok5.F6 hx
   rcases hkd with h|h
   ·exact this.1 h
   ·exact JH oM (this.2 h)
  exact q2 hc 0 _ (by rw[Qc,J9 h0l];rfl) (Yv hkd)
 have n0:decide ((n4:Int)<0)=false:=GC oM
 have hb3:((n3:Int)==0)=((l4.length:Int)==0):=by
  rw[Bool.eq_iff_iff,beq_iff_eq,beq_iff_eq]
  constructor
  ·intro h;rw[z3.1 oM];rfl
  ·intro h;rw[z3.2 (Bo oM)];rfl
 have hself:(((l4.length:Int)==0)==((l4.length:Int)==0))=true:=by simp
 rw[Gi c5 _ _ sM]
 simp(disch:=first|exact dz|fail) only[simprocAttr,Gc,↓reduceIte,Gv]
 rw[←hX]
 simp(disch:=first|exact dz|fail) only[simprocAttr,Gc,↓reduceIte,tX,h1,t1,h2,t2,h3,t3,h4,i1,i2,n0,hvl,hb3,Bool.not_true,hself,t4,h5,t5,h6]
 generalize hr:den P (.loop Te) _ _=r
 have li6:=li5.gr g6
 obtain⟨E7,X7,rfl,g7,f7⟩:=GkM m6 ok5 li6 oM hh5 hz uA uA uA hr
 have b3:=f7 3 dK
 have b4:=f7 4 dK
 simp only[Gg,Nat.reduceEqDiff,↓reduceIte]at b3 b4
 have g57:Gr X5 X7:=g6.trans g7
 have p7:=p5.gr g57
 have t7:=g57.get t5
 obtain⟨X8,n8,h8,g8,p8,li8,z8⟩:=Da ok5 GiF p7 (li5.gr g57) s2 oM hh5
 have z8':n8=0:=z8 fun a ha o ho=>by
  obtain⟨o0,ho0⟩:=Hp.J8.1 (hh a ha)
  obtain⟨x2,q1,q2,-⟩:=GdW l4 ha ho0
  rw[←hs',ho]at q1
  simp only[Gx]at q1
  rw[q1];exact q2
 subst z8'
 obtain⟨ok8,-⟩:=Ij ok5 l4 (Nat.le_refl l4.length)
 have k2':∀x,x∈l4↔XN s' R x:=fun x=>(k2 x).trans (kp5 x).symm
 have kp8:∀x,XN (Yt s' l4 l4.length) R x↔XN s' R x:=fun x=>GfA ok5 GiF.lo.has k2' x
 have t8:X8[sb]?=_:=(g8.keep sb (Gd t7) m4.d0.1).trans t7
 have pr7:=pr5.gr g57
 have pr8:K9 D.o1 X8 D.rb R D.v:=pr7.frame (fun c t h=>JH (pr7.dom c t h) g8.len) (fun _ _ h=>h) fun c t h=>g8.keep c (pr7.dom c t h) fun hc=>by rw[(m4.d1 c hc).1]at h;cases h
 obtain⟨w9,X9,l9,h9,g9,li9,s9,k9⟩:=Mw t8 p8 ok8 pr8 kr
 have e9:l9=l4:=Dm s9 s2 fun x=>by rw[k9,kp8,k2']
 subst e9
 have i9:=Y9 li9 (li8.gr g9) oM
 simp only[decide_true]at i9
 obtain⟨G',hG⟩:=awake X9
 simp(disch:=first|exact dz|fail) only[simprocAttr,Gc,↓reduceIte,b3,b4,t7,h8,h9,i9,hG]
 exact⟨_,rfl⟩
end
end Go.Cs.Tryz
namespace Go.Cs.Tryz
open Go Go.Cs A
def GnA:Gm:=⟨28,0,T [e 4 (.K7 (c .Gf))] (S (T [m 5 0,q1 6 95 5,no 7 6,m 8 7,gf 8 (m 9 1),gf 8 (bk 10 .lss 9 0),or 11 8 10,m 12 11,gf 12 (m 13 1),gf 12 (m 14 0),gf 12 (z 15 14),gf 12 (f 16 0 15),gf 12 (l 17 1 16),gf 12 (le 18 17),gf 12 (b 19 .geq 13 18),or 20 12 19] (I 20 (Q [e 4 (.K7 (c .Gf))]))) (Q [m 21 0,m 22 1,bk 23 .mul 22 64,m 24 1,bk 25 .add 24 1,bk 26 .mul 25 64,q3 27 170 21 23 26,m 4 27])),[r 4]⟩
theorem Gm9:P 200=some GnA:=by kernel_rfl
def Bz:Gu:=T [b 22 .lss 21 20] (S (J 22 (X 0)) (S (B 1 (T [x 23 1 19 21,l 24 1 23,m 9 24] (T [m 25 7,m 26 9,e 27 (.Nz (t 25) [t 26] [(304,"dustcart/alloc.place",335),(305,"dustcart/alloc.place",340),(306,"dustcart/alloc.place",348),(307,"dustcart/alloc.place",349),(308,"dustcart/alloc.place",353)])] (R [m 28 9,m 29 0,m 30 9,q2 31 155 29 30,b 32 .add 28 31,st 1 6 32])))) (R [bk 33 .add 21 1,m 21 33])))
def Gre:Gm:=⟨40,0,T [e 4 (.K7 (c .Gf))] (S (T [m 10 0,m 11 1,q2 12 310 10 11,no 13 12] (I 13 (Q [e 4 (.K7 (c .Gf))]))) (T [e 5 (.new [.Gf])] (T [m 14 1,bk 15 .mul 14 64,e 6 (.new [i 0]),st 1 6 15] (T [e 16 (.NY 311 [t 6,t 5]),m 7 16] (S (T [m 17 0,m 18 1,q2 19 200 17 18,le 20 19,n 21 0] (B 0 (W Bz))) (T [m 34 7,m 35 1,bk 36 .add 35 1,bk 37 .mul 36 64,e 38 (.Nz (t 34) [t 37] [(304,"dustcart/alloc.place",335),(305,"dustcart/alloc.place",340),(306,"dustcart/alloc.place",348),(307,"dustcart/alloc.place",349),(308,"dustcart/alloc.place",353)])] (Q [l 39 1 5,m 4 39]))))))),[r 4]⟩
theorem Gnn:P 294=some Gre:=by kernel_rfl
def God:Gm:=⟨19,0,T [nb 4 false] (Q [m 5 0,m 6 1,q2 7 285 5 6,m 8 7,gt 8 (m 9 0),gt 8 (z 10 9),gt 8 (f 11 0 10),gt 8 (l 12 1 11),gt 8 (m 13 1),gt 8 (x 14 2 12 13),gt 8 (f 15 0 14),gt 8 (l 16 1 15),gt 8 (bk 17 .eql 16 1),an 18 8 17,m 4 18]),[r 4]⟩
theorem Go6:P 310=some God:=by kernel_rfl
def Grt:Gm:=⟨15,0,T [m 4 0,l 5 1 1,b 6 .gtr 4 5] (I 6 (R [l 7 1 2,l 8 1 1,m 9 0,l 10 1 1,b 11 .sub 9 10,e 12 (.build [i 0,i 0] [(0,1,t 8),(1,1,t 11)]),e 13 (.buildSlice 2 [i 0,i 0] 1 [(0,2,t 12)]),ap 14 2 7 13,st 1 2 14])),[]⟩
theorem Gqk:P 311=some Grt:=by kernel_rfl
end Go.Cs.Tryz
namespace Go.Cs
open Go
theorem Hp.Ok.TL{s:Hp}(k:s.Ok)(b:Nat)(hb:b≤s.blk.length):QM s.starts (32*s.blk.length-32*b) (32*b)=(s.objs.filter fun o=>decide (64*b≤o.addr)).map fun o=>o.addr/2:=by
 refine U5 _ _ _ _ ?_ ?_ ?_
 ·rw[List.pairwise_map]
  refine List.Pairwise.imp_of_mem (fun{x y} hx hy h=>?_) (k.apart.filter _)
  have h1:=(k.ob x (List.mem_filter.1 hx).1).even
  have h2:=(k.ob y (List.mem_filter.1 hy).1).even
  have h3:=x.size_pos
  omega
 ·intro i hi
  rw[YX]at hi
  obtain⟨o,ho,rfl⟩:=hi
  rw[List.mem_filter,decide_eq_true_iff]at ho
  have h1:=(k.ob o ho.1).fits
  have h2:=o.size_pos
  unfold Hp.nw at h1
  omega
 ·intro i h1 h2
  unfold Hp.starts
  rw[List.any_eq_true,YX]
  constructor
  ·rintro ⟨o,ho,h⟩
   have h1:o.addr=2*i:=by simpa using h
   exact⟨o,List.mem_filter.2 ⟨ho,by simp;omega⟩,oM⟩
  ·rintro ⟨o,ho,h⟩
   have ho:=(List.mem_filter.1 ho).1
   have h1:=(k.ob o ho).even
   exact⟨o,ho,by simp;omega⟩
theorem takeWhile_filter{α:Type}{q:α→Bool}:∀{l:List α},l.Pairwise (fun a b=>q b=true→q a=true)→l.takeWhile q=l.filter q
 |[],_=>rfl
 |x::l,h=>by
  rw[List.pairwise_cons]at h
  by_cases c:q x=true
  ·rw[List.takeWhile_cons_of_pos c,List.filter_cons_of_pos c,takeWhile_filter h.2]
  ·rw[List.takeWhile_cons_of_neg c,List.filter_cons_of_neg c,List.filter_eq_nil_iff.2 fun y hy hq=>c (h.1 y hy hq)]
theorem Hp.Ok.Ghy{s:Hp}(k:s.Ok)(b:Nat)(hb:b≤s.blk.length):(((QM s.starts (32*s.blk.length-32*b) (32*b)).map fun i=>((2*i:Nat):Int)).takeWhile fun a=>decide (a<((64*(b+1):Nat):Int)))=K8 (s.Jh b):=by
 rw[k.TL b hb,List.map_map]
 have e:(s.objs.filter fun o=>decide (64*b≤o.addr)).map ((fun i=>((2*i:Nat):Int))∘fun o=>o.addr/2)=K8 (s.objs.filter fun o=>decide (64*b≤o.addr)):=by
  refine List.map_congr_left fun o ho=>?_
  have:=(k.ob o (List.mem_filter.1 ho).1).even
  simp only[Function.comp_apply]
  omega
 rw[e]
 unfold K8
 rw[List.takeWhile_map]
 congr 1
 rw[takeWhile_filter]
 ·rw[List.filter_filter]
  unfold Hp.Jh
  refine List.filter_congr fun o ho=>?_
  rw[Bool.eq_iff_iff]
  simp only[Function.comp_apply,JQ,decide_eq_true_eq,beq_iff_eq]
  omega
 ·refine List.Pairwise.imp_of_mem (fun{x y} hx hy h hq=>?_) (k.apart.filter _)
  simp only[Function.comp_apply,decide_eq_true_eq]at hq⊢
  omega
end Go.Cs
namespace Go.Cs.Tryz
open Go Go.Cs
section
variable {H : Gb} {hb : Nat} {s : Hp} {L : GD}
theorem Ro(p:PH H hb s L)(k:s.Ok){b:Nat}(hb':b<s.blk.length):∃v H',run P 200 [.ptr hb 0,.i b] H=some (v,H')∧Gr H H'∧IL H.length H' v (K8 (s.Jh b)):=by
 have hnb:=k.nb
 obtain⟨v,H',h1,g,h2⟩:=Dn p k (f:=64*b) (by unfold Hp.nw;omega) (to:=((64*(b+1):Nat):Int)) oM
 rw[show 64*b/2=32*b by omega,k.Ghy b oM]at h2
 have h3:=Nj p k
 have pt:=p.top
 have c0:¬((b:Int)<0):=by omega
 have c1:¬((s.blk.length:Int)≤(b:Int)):=by omega
 have w1:IntKind.i64.wrap ((b:Int)*64)=((64*b:Nat):Int):=by rw[Gh oM];omega
 have w2:IntKind.i64.wrap ((b:Int)+1)=((b+1:Nat):Int):=Gh oM
 have w3:IntKind.i64.wrap (((b+1:Nat):Int)*64)=((64*(b+1):Nat):Int):=by rw[Gh oM];omega
 refine⟨v,H',?_,g,h2⟩
 rw[Gi Gm9 _ _ sM]
 simp(disch:=first|exact dz|fail) only[simprocAttr,Gc,↓reduceIte,Gj,pt,h3,c0,c1,decide_false,KA,w1,w2,w3,h1]
theorem Gde(p:PH H hb s L)(k:s.Ok){b:Nat}(hb':b<s.blk.length):run P 310 [.ptr hb 0,.i b] H=some (.bool (decide (1≤b)&&decide (s.GI b=1)),H):=by
 have h1:=Oi p k b
 have pt:=p.top
 have hx:s.blk[b]?=some s.blk[b]:=J9 hb'
 have hsn:s.GI b=(s.blk[b]).1:=by unfold Hp.GI;rw[Qc,hx];rfl
 obtain⟨q1,q2,q3⟩:=D_ p hx
 have c1:decide ((b:Int)<(s.blk.length:Int))=true:=GK oM
 rw[c1,Bool.and_true]at h1
 rw[Gi Go6 _ _ sM]
 have e1:(((s.blk[b]).1:Int)==1)=decide (s.GI b=1):=by rw[hsn,Bool.eq_iff_iff];simp;omega
 by_cases c:1≤b
 ·have c':decide ((1:Int)≤(b:Int))=true:=GK oM
  rw[c']at h1
  simp(disch:=first|exact dz|fail) only[simprocAttr,Gc,↓reduceIte,Gj,pt,h1,q1,q3,e1,GK c,Bool.true_and]
 ·have c':decide ((1:Int)≤(b:Int))=false:=GC oM
  rw[c']at h1
  simp(disch:=first|exact dz|fail) only[simprocAttr,Gc,↓reduceIte,Gj,h1,GC c,Bool.false_and]
theorem Gbw{k c5 c6 a to:Nat}{v:CV}{l:List (Nat×Nat)}(h6:H[c6]?=some ⟨[.i a],.rw,0⟩) (h5:H[c5]?=some ⟨[v],.rw,0⟩) (hc:c5<k∧c6<k∧c5≠c6) (hk:k≤H.length) (hp:PL k H v l) (hl:l.length≤5000) (ha:a≤100000) (hto:to≤100000):
  ∃v' H',run P 311 [.i to,.ptr c6 0,.ptr c5 0] H=some (.Ju [],H')∧Keeps H H' (fun c=>k≤c∨c=c5)∧H'[c5]?=some ⟨[v'],.rw,0⟩∧PL k H' v' (l++if a<to then [(a,to-a)]else []):=by
 rw[Gi Gqk _ _ sM]
 by_cases c:a<to
 ·have c':decide ((a:Int)<(to:Int))=true:=GK oM
  have wS:IntKind.i64.wrap ((to:Int)-(a:Int))=((to-a:Nat):Int):=by rw[Gh oM];omega
  obtain⟨v',H1,a1,a2,a3⟩:=PL.push hp hk oM (a,to-a)
  have hel:elems (H++[⟨[.i (a:Int),.i ((to-a:Nat):Int)],.rw,2⟩]) 2 (.slice H.length 0 1 1 2 false)=some (1,[.i (a:Int),.i ((to-a:Nat):Int)]):=by
   rw[JC oM]
   simp(disch:=first|exact dz|fail) only[simprocAttr,Gc,↓reduceIte,JW]
  have h51:H1[c5]?=some ⟨[v],.rw,0⟩:=(a3.keep c5 (Gd h5) oM).trans h5
  have hlf:=PL.leaf a2
  dsimp only at a1
  have l5:=Gd h51
  refine⟨v',H1.set c5 ⟨[v'],.rw,0⟩,?_,Keeps.set (w:=fun c=>k≤c∨c=c5) (a3.weaken fun c h=>.inl h) (.inl (.inr rfl)) _,by rw[KI l5],?_⟩
  ·simp(disch:=first|exact dz|fail) only[simprocAttr,Gc,↓reduceIte,G8,h5,h6,c',wS,fill,splice,and_self,hel,Ja,a1,h51,Q8 hlf,ZM hlf]
  ·rw[if_pos c]
   exact a2.frame (fun _ h=>h) fun c h=>by rw[JU];have:=(Gn.1 h).1;omega
 ·have c':decide ((a:Int)<(to:Int))=false:=GC oM
  refine⟨v,H,?_,Keeps.refl _ _,h5,?_⟩
  ·simp(disch:=first|exact dz|fail) only[simprocAttr,Gc,↓reduceIte,G8,h6,c']
  ·rw[if_neg c,List.append_nil];exact hp
theorem Ghm(p:PH H hb s L)(k:s.Ok){b:Nat}(hb':b<s.blk.length){v19:CV}(hv:IL 0 H v19 (K8 (s.Jh b))){c5 c6:Nat}(hc:c5<H.length∧c6<H.length∧c5≠c6)(hno:c5∉L.all hb∧c6∉L.all hb)
  (Si:K8 (s.Jh b)≠[]→Gp v19≠c5∧Gp v19≠c6)(t5:H[c5]?=some ⟨[.Gf],.rw,0⟩) (t6:H[c6]?=some ⟨[.i ((64*b:Nat):Int)],.rw,0⟩)
  {E0:Env} (h0:E0 0=.ptr hb 0) (h6:E0 6=.ptr c6 0) (h7:E0 7=.func 311 [.ptr c6 0,.ptr c5 0]) (h19:E0 19=v19) (h20:E0 20=.i (s.Jh b).length) (h21:E0 21=.i 0) {r:Option (CX×Env×Gb)} (hr:den P (.loop Bz) E0 H=r):
  ∃E' H' v a l,r=some (.exit 0,E',H')∧Keeps H H' (fun c=>c=c5∨c=c6)∧H'[c5]?=some ⟨[v],.rw,0⟩∧H'[c6]?=some ⟨[.i (a:Nat)],.rw,0⟩∧PL H.length H' v l∧a≤10000∧l.length≤2048∧l++Js (64*(b+1)) a []=Js (64*(b+1)) (64*b) (s.Jh b)∧∀t,t∉wr Bz→E' t=E0 t:=by
 have few:=k.few
 have hnb:=k.nb
 have hfl:(s.Jh b).length≤2048:=Jr (List.length_filter_le _ _) few
 obtain⟨x',E',H',e,-,⟨rfl,g,v,a,l,hf⟩,fr⟩:=Gy (p:=P) (c:=Bz) (E0:=E0) (H0:=H)
  (fun q E H'=>Keeps H H' (fun c=>c=c5∨c=c6)∧∃(j a:Nat)(v:CV)(l:List (Nat×Nat)),E 21=.i j∧j≤(s.Jh b).length∧q=(s.Jh b).length-j∧H'[c5]?=some ⟨[v],.rw,0⟩∧H'[c6]?=some ⟨[.i (a:Nat)],.rw,0⟩∧a≤10000∧l.length≤j∧PL H.length H' v l∧
   l++Js (64*(b+1)) a ((s.Jh b).drop j)=Js (64*(b+1)) (64*b) (s.Jh b))
  (fun x' E' H'=>x'=.exit 0∧Keeps H H' (fun c=>c=c5∨c=c6)∧∃(v:CV)(a:Nat)(l:List (Nat×Nat)),H'[c5]?=some ⟨[v],.rw,0⟩∧H'[c6]?=some ⟨[.i (a:Nat)],.rw,0⟩∧PL H.length H' v l∧a≤10000∧l.length≤2048∧l++Js (64*(b+1)) a []=Js (64*(b+1)) (64*b) (s.Jh b)) (by
   rintro q E H' hE ⟨g,j,a,v,l,e21,hj,rfl,u5,u6,ha,hl,hn,hd⟩
   have e0:=(hE 0 dK).trans h0
   have e6:=(hE 6 dK).trans h6
   have e7:=(hE 7 dK).trans h7
   have e19:=(hE 19 dK).trans h19
   have e20:=(hE 20 dK).trans h20
   by_cases c:j<(s.Jh b).length
   ·have c':decide ((j:Int)<((s.Jh b).length:Int))=true:=GK oM
    obtain⟨x,hx⟩:∃x,(s.Jh b)[j]?=some x:=⟨_,J9 c⟩
    obtain⟨hxm,hxb⟩:=Hp.PG (JX hx)
    have hok:=k.ob x hxm
    have hsz:=Ob.size_le hok
    have hnw:=hok.fits
    have hsn:s.nw=64*s.blk.length:=rfl
    have hla:0<(K8 (s.Jh b)).length:=by simp[K8];omega
    obtain⟨tl,a1,a2,a3,a4⟩:=At.pos hv hla
    have Gwo:=Si (BQ.1 hla)
    have O4:H'[Gp v19]?=H[Gp v19]?:=g.keep _ (Gd a3) oM
    have hxa:(K8 (s.Jh b))[j]?=some (x.addr:Int):=by simp[K8,hx]
    have ix:∀X,Kb 1 v19 (.i j) X=some (.ptr (Gp v19) j,X):=fun X=>by
     rw[a1];exact(if_pos (by simp[K8];omega)).trans (by simp[Gp])
    have l1:ld H'[Gp v19]? j=some (.i x.addr):=by rw[O4,a3,Vt,ZX,hxa];rfl
    rw[drop_cons hx]at hd
    have hd':Js (64*(b+1)) a (x::(s.Jh b).drop (j+1))=(if a<x.addr then [(a,x.addr-a)]else [])++Js (64*(b+1)) (x.addr+x.size) ((s.Jh b).drop (j+1)):=rfl
    rw[hd',←List.append_assoc]at hd
    obtain⟨v2,H2,r2,k2,w5,n2⟩:=Gbw (to:=x.addr) u6 u5 hc g.len hn oM oM oM
    have g2:Keeps H H2 (fun c=>c=c5∨c=c6):=⟨Jr g.len k2.len,fun d hd hw=>by rw[k2.keep d (JH hd g.len) oM,g.keep d hd hw]⟩
    have w6:H2[c6]?=_:=(k2.keep c6 (Gd u6) oM).trans u6
    have p2:PH H2 hb s L:=p.frame fun d hd=>g2.keep d (p.lt d hd) fun h=>by
     rcases h with rfl|rfl
     ·exact hno.1 hd
     ·exact hno.2 hd
    obtain⟨H3,r3,g3⟩:=OY p2 k hxm
    have x6:=g3.get w6
    have x5:=g3.get w5
    have w1:IntKind.i64.wrap ((j:Int)+1)=((j+1:Nat):Int):=Gh oM
    have wB:IntKind.i64.wrap ((x.addr:Int)+(x.size:Int))=((x.addr+x.size:Nat):Int):=Gh oM
    have hll:(l++if a<x.addr then [(a,x.addr-a)]else []).length≤j+1:=by split<;>simp<;>omega
    apply Gt (k':=(s.Jh b).length-(j+1))
    ·simp(disch:=first|exact dz|fail) only[simprocAttr,Gc,↓reduceIte,Bz,e0,e6,e7,e19,e20,e21,c',ix,l1,Jd,JF,r2,r3,wB,x6,w1]
     rfl
    ·omega
    ·refine⟨⟨by rw[List.length_set];exact Jr g2.len g3.len,fun d hd hw=>by rw[JU oM,g3.keep d (JH hd g2.len) fun h=>h,g2.keep d hd hw]⟩,j+1,x.addr+x.size,v2,_,uA,oM,rfl,by rw[JU oM];exact x5,by rw[KI (Gd x6)],oM,hll,?_,hd⟩
     exact(n2.keeps g3).frame (fun _ h=>h) fun d h=>by rw[JU];have:=(Gn.1 h).1;omega
   ·have c':decide ((j:Int)<((s.Jh b).length:Int))=false:=GC oM
    rw[Ghq oM]at hd
    apply Gl (x:=.exit 0)
    ·simp(disch:=first|exact dz|fail) only[simprocAttr,Gc,↓reduceIte,Bz,e20,e21,c']
     rfl
    ·simp
    ·exact⟨rfl,g,v,a,l,u5,u6,hn,ha,oM,hd⟩) _ ⟨Keeps.refl H _,0,64*b,.Gf,[],h21,oM,rfl,t5,t6,oM,sM,.inl ⟨rfl,rfl,.inl rfl⟩,sM⟩
 obtain⟨h1,h2,h3,h4,h5',h6'⟩:=hf
 exact⟨E',H',v,a,l,hr.symm.trans e,g,h1,h2,h3,h4,h5',h6',fr⟩
theorem GcA(p:PH H hb s L)(k:s.Ok){b:Nat}(hb':b<s.blk.length)(h1b:1≤b):∃v H',run P 294 [.ptr hb 0,.i b] H=some (v,H')∧Gr H H'∧PL H.length H' v (s.gaps b):=by
 have hnb:=k.nb
 have hu:=Gde p k hb'
 rw[GK h1b,Bool.true_and]at hu
 rw[Gi Gnn _ _ sM]
 unfold Hp.gaps
 by_cases c:s.GI b=1
 ·rw[if_pos c]
  rw[GK c]at hu
  have w0:IntKind.i64.wrap ((b:Int)*64)=((64*b:Nat):Int):=by rw[Gh oM];omega
  obtain⟨X,hX⟩:∃X:Gb,X=H++[⟨[.Gf],.rw,0⟩]++[⟨[.i ((64*b:Nat):Int)],.rw,0⟩]:=⟨_,rfl⟩
  have gX:Gr H X:=by rw[hX];exact(Gr.app H _).app' _
  have lX:X.length=H.length+2:=by rw[hX];simp
  have t5:X[H.length]?=some ⟨[.Gf],.rw,0⟩:=by rw[hX];simp
  have t6:X[H.length+1]?=some ⟨[.i ((64*b:Nat):Int)],.rw,0⟩:=by rw[hX];simp
  obtain⟨v19,H1,h1,g1,h19⟩:=Ro (p.gr gX) k hb'
  have l1:=g1.len
  have hvl:=h19.len H1
  have hal:(K8 (s.Jh b)).length=(s.Jh b).length:=by simp[K8]
  rw[hal]at hvl
  simp(disch:=first|exact dz|fail) only[simprocAttr,Gc,↓reduceIte,Gj,hu,w0]
  rw[←hX]
  simp(disch:=first|exact dz|fail) only[simprocAttr,Gc,↓reduceIte,h1,hvl]
  generalize hr:den P (.loop Bz) _ _=r
  have Si:K8 (s.Jh b)≠[]→Gp v19≠H.length∧Gp v19≠H.length+1:=fun h0=>by
   obtain⟨tl,a1,a2,a3,a4⟩:=At.pos h19 (BQ.2 h0)
   have:=(Gn.1 a2).1
   omega
  have hno:H.length∉L.all hb∧H.length+1∉L.all hb:=⟨fun h=>by have:=p.lt _ h;omega,fun h=>by have:=p.lt _ h;omega⟩
  have hv0:IL 0 H1 v19 (K8 (s.Jh b)):=h19.frame (fun c h=>Gn.2 ⟨Nat.zero_le _,(Gn.1 h).2⟩) fun c h=>rfl
  obtain⟨E',H2,v,a,l,rfl,g2,u5,u6,hn,ha,hl,hd,fr⟩:=Ghm ((p.gr gX).gr g1) k hb' hv0 (c5:=H.length) (c6:=H.length+1) oM hno Si (g1.get t5) (g1.get t6) uA uA uA uA uA uA hr
  have f1:=fr 1 dK
  have f5:=fr 5 dK
  have f7:=fr 7 dK
  simp only[Gg,Nat.reduceEqDiff,↓reduceIte]at f1 f5 f7
  have w1:IntKind.i64.wrap ((b:Int)+1)=((b+1:Nat):Int):=Gh oM
  have w2:IntKind.i64.wrap (((b+1:Nat):Int)*64)=((64*(b+1):Nat):Int):=by rw[Gh oM];omega
  obtain⟨v2,H3,r3,k3,w5,n3⟩:=Gbw (to:=64*(b+1)) u6 u5 (k:=H1.length) oM g2.len hn oM oM oM
  have hg0:Js (64*(b+1)) a []=if a<64*(b+1)then [(a,64*(b+1)-a)]else []:=rfl
  rw[hg0]at hd
  rw[hd]at n3
  refine⟨v2,H3,?_,⟨by have:=g2.len;have:=k3.len;omega,fun c hc _=>?_⟩,n3.frame (fun c h=>Gn.2 ⟨by have:=(Gn.1 h).1;omega,(Gn.1 h).2⟩) fun c h=>rfl⟩
  ·simp(disch:=first|exact dz|fail) only[simprocAttr,Gc,↓reduceIte,f1,f5,f7,w1,w2,Jd,JF,r3,w5]
  ·rw[k3.keep c (by have:=g2.len;omega) oM,g2.keep c oM oM,g1.keep c oM fun h=>h,gX.keep c hc fun h=>h]
 ·rw[if_neg c]
  rw[GC c]at hu
  refine⟨.Gf,H,?_,Keeps.refl _ _,.inl ⟨rfl,rfl,.inl rfl⟩⟩
  simp(disch:=first|exact dz|fail) only[simprocAttr,Gc,↓reduceIte,Gj,hu]
end
end Go.Cs.Tryz
namespace Go.Cs.Tryz
open Go Go.Cs A
def GoE:Gm:=⟨12,0,T [nb 2 false] (Q [m 3 0,e 4 (.eqv true 1 (t 3) (c .nilPtr)),m 5 4,gt 5 (m 6 0),gt 5 (z 7 6),gt 5 (f 8 0 7),gt 5 (l 9 1 8),gt 5 (e 10 (.eqv true 1 (t 9) (c .nilPtr))),an 11 5 10,m 2 11]),[r 2]⟩
theorem c232:P 232=some GoE:=by kernel_rfl
def Ah:Gu:=S (T [m 5 4,m 6 0,z 7 6,f 8 0 7,l 9 1 8,q1 10 49 9,b 11 .lss 5 10] (J 11 (X 0))) (S (B 1 (S (D [⟨m 14 0,0,0,0⟩,⟨z 15 14,1,0,0⟩,⟨f 16 0 15,2,0,0⟩,⟨l 17 1 16,3,1,0⟩,⟨m 18 4,4,0,0⟩,⟨m 19 0,5,0,0⟩,⟨z 20 19,6,0,0⟩,⟨f 21 1 20,7,0,0⟩,⟨l 22 1 21,8,1,0⟩,⟨q3 23 149 17 18 22,9,3,0⟩,⟨bk 24 .eql 23 0,10,0,1⟩]) (I 24 (Q [m 25 4,bk 26 .mul 25 64,m 27 4,bk 28 .add 27 1,bk 29 .mul 28 64,e 30 (.build [i 0,i 0] [(0,1,t 26),(1,1,t 29)]),st 2 2 30,nb 3 true])))) (R [m 12 4,bk 13 .add 12 1,m 4 13]))
def Gp1:Gm:=⟨32,0,T [e 2 (.new [i 0,i 0]),nb 3 false] (S (T [n 4 1] (B 0 (W Ah))) (Q [e 31 (.build [i 0,i 0] []),st 2 2 31,nb 3 false])),[.cell 2 true 2,r 3]⟩
theorem Gnt:P 338=some Gp1:=by kernel_rfl
def ZF:Gu:=T [b 11 .lss 10 9] (S (J 11 (X 0)) (S (B 1 (T [m 12 10,m 4 12] (S (D [⟨m 13 0,0,0,0⟩,⟨z 14 13,1,0,0⟩,⟨f 15 0 14,2,0,0⟩,⟨l 16 1 15,3,1,0⟩,⟨m 17 4,4,0,0⟩,⟨q2 18 71 16 17,5,3,0⟩,⟨bk 19 .eql 18 1,6,0,1⟩,⟨m 20 19,7,0,1⟩,⟨gt 20 (m 21 0),8,0,1⟩,⟨gt 20 (z 22 21),9,0,1⟩,⟨gt 20 (f 23 0 22),10,0,1⟩,⟨gt 20 (l 24 1 23),11,1,1⟩,⟨gt 20 (m 25 4),12,0,1⟩,⟨gt 20 (q2 26 72 24 25),13,3,1⟩,⟨gt 20 (m 27 0),14,0,1⟩,⟨gt 20 (z 28 27),15,0,1⟩,⟨gt 20 (f 29 1 28),16,0,1⟩,⟨gt 20 (l 30 1 29),17,1,1⟩,⟨gt 20 (b 31 .eql 26 30),18,0,2⟩,⟨an 32 20 31,19,0,2⟩]) (I 32 (R [m 33 3,m 34 4,e 35 (.buildSlice 1 [i 0] 1 [(0,1,t 34)]),ap 36 1 33 35,m 3 36]))))) (R [bk 37 .add 10 1,m 10 37])))
def GqI:Gm:=⟨39,0,T [e 2 (.K7 (c .Gf))] (T [e 3 (.K7 (c .Gf))] (S (T [m 5 0,z 6 5,f 7 0 6,l 8 1 7,q1 9 49 8,n 10 0] (B 0 (W ZF))) (Q [m 38 3,m 2 38]))),[r 2]⟩
theorem Gnv:P 339=some GqI:=by kernel_rfl
end Go.Cs.Tryz
namespace Go.Cs
open Go
section
variable {F : Jp} {E : Env} {H : Gb}
theorem Ge_{t:Nat}{x:J7}:K3 F (.Sg t x) E H=some (.iface t (E.ev x),H):=rfl
theorem Gcn{n:String}{x:J7}:GL (.I6 n x) E H=okV (.GaC n (E.ev x)):=rfl
theorem GiU{t:Nat}{x:CV}:GhR (.iface t x)=okV (.iface t x):=rfl
theorem Dq{EL:List (Nat×String×Nat)}{n:String}{t f:Nat}{x:CV}{args:List CV}(h:Zk EL t n=some f):Fe F EL (.GaC n (.iface t x)) args H=F f (x::args) H:=by
 simp only[Fe,h,Option.bind_some]
end
def Hz(hb:Nat)(sp pol:Int)(c:Nat→Int):List CV:=[.ptr hb 0,.i sp,.i pol,.i (c 0),.i (c 1),.i (c 2),.i (c 3)]
def O6(s:Hp)(sp:Int)(b:Nat):Bool:=s.GI b==1&&(s.Nu b:Int)==sp
def Hp.Nr(s:Hp)(sp:Int)(n:Nat):List Nat:=(List.range n).filter (O6 s sp)
theorem Hp.WS{s:Hp}{sp:Int}{n:Nat}:s.Nr sp (n+1)=s.Nr sp n++if O6 s sp n then [n]else []:=by
 unfold Hp.Nr
 rw[List.range_succ,List.filter_append]
 by_cases c:O6 s sp n=true
 ·rw[if_pos c,List.filter_cons_of_pos c];rfl
 ·rw[if_neg c,List.filter_cons_of_neg c];rfl
theorem Hp.LJ{s:Hp}{sp:Int}{n:Nat}:(s.Nr sp n).length≤n:=Jr (List.length_filter_le _ _) sM
abbrev ofN(l:List Nat):List Int:=l.map fun(n:Nat)=>(n:Int)
def Hp.KX(s:Hp)(n:Nat)(l:List Nat):List (Nat×Nat):=l.flatMap fun b=>(s.gaps b).filter fun g=>decide (n≤g.2)
def Ev(s:Hp)(b:Nat):Bool:=s.blk.getD b (1,0)==(0,0)
def Hp.Ye(s:Hp):Nat→Nat→Option Nat
 |0,_=>none
 |q+1,b=>if Ev s b then some b else s.Ye q (b+1)
def Hp.Z6(s:Hp):Option Nat:=s.Ye (s.blk.length-1) 1
theorem Hp.Hu{s:Hp}:∀{q b c:Nat},s.Ye q b=some c→b≤c∧c<b+q∧Ev s c=true
 |0,b,c,h=>by cases h
 |q+1,b,c,h=>by
  unfold Hp.Ye at h
  split at h
  ·simp only[Gx]at h
   subst h
   exact⟨Nat.le_refl _,oM,by assumption⟩
  ·have:=Hp.Hu h
   exact⟨oM,oM,this.2.2⟩
def Hp.took(s:Hp)(sp:Int):Hp:=match s.Z6 with
 |some b=>{s with blk:=s.blk.set b (1,sp.toNat)}
 |none=>s
theorem Hp.Gjk{s:Hp}{sp:Int}(hsp:0≤sp∧sp<8){b:Nat}(h1:1≤b)(h2:b<s.blk.length):s.claim b 1 1 sp 0 0=if Ev s b then({s with blk:=s.blk.set b (1,sp.toNat)},0)else(s,8):=by
 unfold Hp.claim
 have hx:s.blk[b]?=some s.blk[b]:=J9 h2
 rw[if_pos oM,K6]
 have e:(s.blk.drop b).take (1:Int).toNat=[s.blk[b]]:=by rw[drop_cons hx];rfl
 rw[e]
 have ef:Ev s b=(s.blk[b]==(0,0)):=by unfold Ev;rw[Qc,hx];rfl
 rw[ef]
 have e2:(Kz s.blk b (0,(0:Int).toNat) (1:Int).toNat).set b (1,sp.toNat)=s.blk.set b (1,sp.toNat):=by
  show((s.blk.set (b+0) (0,0)).set b (1,sp.toNat))=_
  rw[Nat.add_zero,List.set_set]
 rw[e2]
 obtain⟨x,y⟩:=s.blk[b]
 by_cases c:x=0∧y=0
 ·obtain⟨rfl,rfl⟩:=c
  rfl
 ·have h3:((x,y)==((0:Nat),(0:Nat)))=false:=by simp;omega
  have h4:([(x,y)].any fun x=>x.1 != 0||x.2 != 0)=true:=by simp;omega
  rw[h3,h4];rfl
theorem Hp.Ok.GjR{s:Hp}(k:s.Ok){b:Nat}{x:Nat×Nat}(hx:x.1≤3∧x.2<8):({s with blk:=s.blk.set b x}:Hp).Ok where
 nb:=by simpa using k.nb
 st:=fun y hy=>by
  rcases List.mem_or_eq_of_mem_set hy with h|rfl
  ·exact k.st y h
  ·exact hx
 ob:=fun o ho=>by have:=k.ob o ho;unfold Hp.nw at this⊢;rw[List.length_set];exact this
 apart:=k.apart
 ids:=k.ids
 born:=k.born
theorem Hp.Ok.took{s:Hp}(k:s.Ok){sp:Int}(hsp:0≤sp∧sp<8):(s.took sp).Ok:=by
 unfold Hp.took
 split
 ·exact k.GjR ⟨sM,by simp;omega⟩
 ·exact k
end Go.Cs
namespace Go.Cs.Tryz
open Go Go.Cs
section
variable {H : Gb} {hb : Nat} {s : Hp} {L : GD} {ab : Nat} {sp pol : Int} {cu : Nat → Int}
theorem Ht(p:PH H hb s L)(k:s.Ok){b:Nat}(hb':b<s.blk.length):run P 72 [.ptr hb 0,.i b] H=some (.i (s.Nu b),H):=by
 have h2:=LY p k b
 have hx:s.blk[b]?=some s.blk[b]:=J9 hb'
 have e2:Hp.space s (b:Int)=(s.Nu b:Int):=by
  unfold Hp.space Hp.Nu
  rw[if_pos oM,K6,Qc,hx];rfl
 rw[e2]at h2
 exact h2
theorem GaH(ha:H[ab]?=some ⟨Hz hb sp pol cu,.rw,0⟩):run P 232 [.ptr ab 0] H=some (.bool true,H):=by
 unfold Hz at ha
 rw[Gi c232 _ _ sM]
 simp(disch:=first|exact dz|fail) only[simprocAttr,Gc,↓reduceIte,Gv,ha,EC,Bool.not_false]
theorem Gdc(p:PH H hb s L)(k:s.Ok)(ha:H[ab]?=some ⟨Hz hb sp pol cu,.rw,0⟩)
  {E0:Env} (h0:E0 0=.ptr ab 0) (h3:E0 3=.Gf) (h9:E0 9=.i s.blk.length) (h10:E0 10=.i 0) {r:Option (CX×Env×Gb)} (hr:den P (.loop ZF) E0 H=r):
  ∃E' H',r=some (.exit 0,E',H')∧Gr H H'∧IL H.length H' (E' 3) (ofN (s.Nr sp s.blk.length)):=by
 have hnb:=k.nb
 obtain⟨x',E',H',e,-,⟨rfl,g,hf⟩,fr⟩:=Gy (p:=P) (c:=ZF) (E0:=E0) (H0:=H)
  (fun q E H'=>Gr H H'∧∃j:Nat,E 10=.i j∧j≤s.blk.length∧q=s.blk.length-j∧IL H.length H' (E 3) (ofN (s.Nr sp j)))
  (fun x' E' H'=>x'=.exit 0∧Gr H H'∧IL H.length H' (E' 3) (ofN (s.Nr sp s.blk.length))) (by
   rintro q E H' hE ⟨g,j,e10,hj,rfl,hn⟩
   have e0:=(hE 0 dK).trans h0
   have e9:=(hE 9 dK).trans h9
   have ha':=g.get ha
   unfold Hz at ha'
   by_cases c:j<s.blk.length
   ·have c':decide ((j:Int)<(s.blk.length:Int))=true:=GK oM
    have s1:=Uo (p.gr g) k c
    have s2:=Ht (p.gr g) k c
    have w1:IntKind.i64.wrap ((j:Int)+1)=((j+1:Nat):Int):=Gh oM
    have hu:=Hp.WS (s:=s) (sp:=sp) (n:=j)
    by_cases c1:s.GI j=1
    ·have e1:((s.GI j:Int)==1)=true:=by rw[c1];rfl
     by_cases c2:(s.Nu j:Int)=sp
     ·have e2:((s.Nu j:Int)==sp)=true:=by simp[c2]
      have hin:O6 s sp j=true:=by simp[O6,c1,c2]
      rw[if_pos hin]at hu
      have hul:=Hp.LJ (s:=s) (sp:=sp) (n:=j)
      obtain⟨v',H1,a1,a2,a3⟩:=IL.push hn g.len (by simp;omega) (j:Int)
      have hel:elems (H'++[⟨[.i (j:Int)],.rw,1⟩]) 1 (.slice H'.length 0 1 1 1 false)=some (1,[.i (j:Int)]):=by
       rw[JC oM]
       simp(disch:=first|exact dz|fail) only[simprocAttr,Gc,↓reduceIte,JW]
      apply Gt (k':=s.blk.length-(j+1))
      ·simp(disch:=first|exact dz|fail) only[simprocAttr,Gc,↓reduceIte,ZF,e0,e9,e10,c',ha',s1,s2,e1,e2,w1,fill,splice,and_self,hel,Ja,a1]
       rfl
      ·omega
      ·refine⟨g.news a3,j+1,uA,oM,rfl,?_⟩
       simp only[Gg,Nat.reduceEqDiff,↓reduceIte]
       rw[hu,ofN,XE]
       exact a2
     ·have e2:((s.Nu j:Int)==sp)=false:=by simp[c2]
      have hin:O6 s sp j=false:=by simp[O6,c2]
      rw[hin,if_neg sM,List.append_nil]at hu
      apply Gt (k':=s.blk.length-(j+1))
      ·simp(disch:=first|exact dz|fail) only[simprocAttr,Gc,↓reduceIte,ZF,e0,e9,e10,c',ha',s1,s2,e1,e2,w1]
       rfl
      ·omega
      ·exact⟨g,j+1,uA,oM,rfl,by rw[hu];simpa[Gg]using hn⟩
    ·have e1:((s.GI j:Int)==1)=false:=by simp;omega
     have hin:O6 s sp j=false:=by simp[O6,c1]
     rw[hin,if_neg sM,List.append_nil]at hu
     apply Gt (k':=s.blk.length-(j+1))
     ·simp(disch:=first|exact dz|fail) only[simprocAttr,Gc,↓reduceIte,ZF,e0,e9,e10,c',ha',s1,e1,w1]
      rfl
     ·omega
     ·exact⟨g,j+1,uA,oM,rfl,by rw[hu];simpa[Gg]using hn⟩
   ·have c':decide ((j:Int)<(s.blk.length:Int))=false:=GC oM
    have ej:j=s.blk.length:=by omega
    subst ej
    apply Gl (x:=.exit 0)
    ·simp(disch:=first|exact dz|fail) only[simprocAttr,Gc,↓reduceIte,ZF,e9,e10,c']
     rfl
    ·simp
    ·exact⟨rfl,g,by simpa[Gg]using hn⟩) _ ⟨Keeps.refl H _,0,h10,oM,rfl,by rw[h3];exact IL.nil⟩
 exact⟨E',H',hr.symm.trans e,g,hf⟩
theorem Rh(p:PH H hb s L)(k:s.Ok)(ha:H[ab]?=some ⟨Hz hb sp pol cu,.rw,0⟩):∃v H',run P 339 [.ptr ab 0] H=some (v,H')∧Gr H H'∧IL H.length H' v (ofN (s.Nr sp s.blk.length)):=by
 have h1:=KD p k
 have ha':=ha
 unfold Hz at ha'
 rw[Gi Gnv _ _ sM]
 simp(disch:=first|exact dz|fail) only[simprocAttr,Gc,↓reduceIte,Gv,ha',h1]
 generalize hr:den P (.loop ZF) _ _=r
 obtain⟨E',H',rfl,g,hn⟩:=Gdc p k ha uA uA uA uA hr
 refine⟨E' 3,H',?_,g,hn⟩
 simp(disch:=first|exact dz|fail) only[simprocAttr,Gc,↓reduceIte]
theorem GeK(p:PH H hb s L)(k:s.Ok)(hsp:0≤sp∧sp<8)(ha:H[ab]?=some ⟨Hz hb sp pol cu,.rw,0⟩) (hab:ab∉L.all hb) {c2:Nat} (t2:H[c2]?=some ⟨[.i 0,.i 0],.rw,0⟩) (hc2:c2∉L.all hb)
  {E0:Env} (h0:E0 0=.ptr ab 0) (h2:E0 2=.ptr c2 0) (h4:E0 4=.i 1) {r:Option (CX×Env×Gb)} (hr:den P (.loop Ah) E0 H=r):
  ∃x E' H',r=some (x,E',H')∧Keeps H H' (fun c=>c∈L.all hb∨c=c2)∧PH H' hb (s.took sp) L∧(∀t,t∉wr Ah→E' t=E0 t)∧
   match s.Z6 with
   |some b=>x=.ret∧E' 3=.bool true∧H'[c2]?=some ⟨[.i (64*b:Nat),.i (64*(b+1):Nat)],.rw,0⟩
   |none=>x=.exit 0∧H'[c2]?=some ⟨[.i 0,.i 0],.rw,0⟩:=by
 have hnb:=k.nb
 obtain⟨x',E',H',e,-,hf,fr⟩:=Gy (p:=P) (c:=Ah) (E0:=E0) (H0:=H)
  (fun q E H'=>Keeps H H' (fun c=>c∈L.all hb∨c=c2)∧∃j:Nat,E 4=.i j∧1≤j∧j≤s.blk.length∧q=s.blk.length-j∧PH H' hb s L∧H'[c2]?=some ⟨[.i 0,.i 0],.rw,0⟩∧s.Ye (s.blk.length-j) j=s.Z6)
  (fun x E' H'=>Keeps H H' (fun c=>c∈L.all hb∨c=c2)∧PH H' hb (s.took sp) L∧
   match s.Z6 with
   |some b=>x=.ret∧E' 3=.bool true∧H'[c2]?=some ⟨[.i (64*b:Nat),.i (64*(b+1):Nat)],.rw,0⟩
   |none=>x=.exit 0∧H'[c2]?=some ⟨[.i 0,.i 0],.rw,0⟩) (by
   rintro q E H' hE ⟨g,j,e4,hj1,hj,rfl,p',u2,hd⟩
   have e0:=(hE 0 dK).trans h0
   have e2:=(hE 2 dK).trans h2
   have hne:ab≠c2:=by
    rintro rfl
    rw[ha]at t2
    simp[Hz]at t2
   have ha':H'[ab]?=_:=(g.keep ab (Gd ha) fun h=>h.elim hab hne).trans ha
   unfold Hz at ha'
   have hbl:=KD p' k
   by_cases c:j<s.blk.length
   ·have c':decide ((j:Int)<(s.blk.length:Int))=true:=GK oM
    obtain⟨H1,h1,k1,p1⟩:=Ms p' k j sp
    rw[Hp.Gjk hsp hj1 c]at h1 p1
    have ha1:H1[ab]?=_:=(k1.keep ab (Gd ha') hab).trans ha'
    have u21:H1[c2]?=_:=(k1.keep c2 (Gd u2) hc2).trans u2
    have g1:Keeps H H1 (fun c=>c∈L.all hb∨c=c2):=g.trans (k1.weaken fun c h=>.inl h)
    rw[show s.blk.length-j=(s.blk.length-(j+1))+1 by omega]at hd
    unfold Hp.Ye at hd
    by_cases cf:Ev s j=true
    ·rw[if_pos cf]at h1 p1 hd
     have w1:IntKind.i64.wrap ((j:Int)*64)=((64*j:Nat):Int):=by rw[Gh oM];omega
     have w2:IntKind.i64.wrap ((j:Int)+1)=((j+1:Nat):Int):=Gh oM
     have w3:IntKind.i64.wrap (((j+1:Nat):Int)*64)=((64*(j+1):Nat):Int):=by rw[Gh oM];omega
     apply Gl (x:=.ret)
     ·simp(disch:=first|exact dz|fail) only[simprocAttr,Gc,↓reduceIte,Ah,e0,e2,e4,ha',hbl,c',ha1,h1,show((0:Int)==0)=true from rfl,w1,w2,w3,fill,splice,and_self,u21,G9,Gs,Gw,GV,Gq]
      rfl
     ·simp
     ·rw[←hd]
      have ht:s.took sp={s with blk:=s.blk.set j (1,sp.toNat)}:=by unfold Hp.took;rw[←hd]
      rw[ht]
      refine⟨g1.set (.inl (.inr rfl)) _,p1.frame fun d hd=>by rw[JU];rintro rfl;exact hc2 hd,rfl,uA,?_⟩
      rw[KI (Gd u21)]
    ·rw[if_neg cf]at h1 p1 hd
     have w2:IntKind.i64.wrap ((j:Int)+1)=((j+1:Nat):Int):=Gh oM
     apply Gt (k':=s.blk.length-(j+1))
     ·simp(disch:=first|exact dz|fail) only[simprocAttr,Gc,↓reduceIte,Ah,e0,e2,e4,ha',hbl,c',ha1,h1,show((8:Int)==0)=false from rfl,w2]
      rfl
     ·omega
     ·exact⟨g1,j+1,uA,oM,oM,rfl,p1,u21,hd⟩
   ·have c':decide ((j:Int)<(s.blk.length:Int))=false:=GC oM
    rw[show s.blk.length-j=0 by omega]at hd
    apply Gl (x:=.exit 0)
    ·simp(disch:=first|exact dz|fail) only[simprocAttr,Gc,↓reduceIte,Ah,e0,e4,ha',hbl,c']
     rfl
    ·simp
    ·rw[←hd]
     have ht:s.took sp=s:=by unfold Hp.took;rw[←hd];rfl
     rw[ht]
     exact⟨g,p',rfl,u2⟩) _ ⟨Keeps.refl H _,1,h4,oM,oM,rfl,p,t2,rfl⟩
 exact⟨x',E',H',hr.symm.trans e,hf.1,hf.2.1,fr,hf.2.2⟩
theorem T9(p:PH H hb s L)(k:s.Ok)(hsp:0≤sp∧sp<8)(ha:H[ab]?=some ⟨Hz hb sp pol cu,.rw,0⟩) (hab:ab∉L.all hb):
  ∃H',run P 338 [.ptr ab 0] H=some (match s.Z6 with
   |some b=>.Ju [.agg [.i (64*b:Nat),.i (64*(b+1):Nat)],.bool true]
   |none=>.Ju [.agg [.i 0,.i 0],.bool false],H')∧Keeps H H' (·∈L.all hb)∧PH H' hb (s.took sp) L:=by
 obtain⟨X,hX⟩:∃X:Gb,X=H++[⟨[.i 0,.i 0],.rw,0⟩]:=⟨_,rfl⟩
 have gX:Gr H X:=by rw[hX];exact Gr.app H _
 have tX:X[H.length]?=some ⟨[.i 0,.i 0],.rw,0⟩:=by rw[hX];simp
 have hcn:H.length∉L.all hb:=fun h=>by have:=p.lt _ h;omega
 have Ou:X=H++[⟨[.int .i64 0,.int .i64 0],.rw,0⟩]:=hX
 rw[Gi Gnt _ _ sM]
 simp(disch:=first|exact dz|fail) only[simprocAttr,Gc,↓reduceIte,Gv]
 rw[←Ou]
 generalize hr:den P (.loop Ah) _ _=r
 obtain⟨x,E',H',rfl,g,p',fr,hm⟩:=GeK (p.gr gX) k hsp (gX.get ha) hab tX hcn uA uA uA hr
 have f2:=fr 2 dK
 simp only[Gg,Nat.reduceEqDiff,↓reduceIte]at f2
 have kk:Keeps H H' (·∈L.all hb):=⟨Jr gX.len g.len,fun c hc hn=>by rw[g.keep c (JH hc gX.len) (fun h=>h.elim hn fun e=>by omega),gX.keep c hc fun h=>h]⟩
 cases hb1:s.Z6 with
 |some b=>
  rw[hb1]at hm
  obtain⟨rfl,m1,m2⟩:=hm
  refine⟨H',?_,kk,p'⟩
  simp(disch:=first|exact dz|fail) only[simprocAttr,Gc,↓reduceIte,f2,m1,m2,Ib,JV]
 |none=>
  rw[hb1]at hm
  obtain⟨rfl,m2⟩:=hm
  refine⟨H'.set H.length ⟨[.i 0,.i 0],.rw,0⟩,?_,kk.set (.inr (Nat.le_refl _)) _,p'.frame fun d hd=>by rw[JU];rintro rfl;exact hcn hd⟩
  simp(disch:=first|exact dz|fail) only[simprocAttr,Gc,↓reduceIte,f2,m2,fill,splice,and_self,G9,Gs,Gw,GV,Gq,Ib,JV,KI (Gd m2)]
end
end Go.Cs.Tryz
namespace Go.Cs.Tryz
open Go Go.Cs A
def ZE:Gu:=T [b 28 .lss 27 26] (S (J 28 (X 2)) (S (B 3 (T [x 29 2 25 27,lg 30 2 29,e 11 (.new [i 0,i 0]),st 2 11 30] (S (T [m 31 1,f 32 0 11,l 33 1 32,b 34 .sub 31 33,m 12 34] (T [m 35 12,bk 36 .gtr 35 0] (I 36 (R [m 37 1,f 38 1 11,l 39 1 38,m 40 12,b 41 .sub 39 40,f 42 0 11,st 1 42 37,f 43 1 11,st 1 43 41])))) (T [f 44 1 11,l 45 1 44,m 46 2,b 47 .geq 45 46] (I 47 (R [m 48 7,lg 49 2 11,e 50 (.buildSlice 2 [i 0,i 0] 1 [(0,2,t 49)]),ap 51 2 48 50,m 7 51])))))) (R [bk 52 .add 27 1,m 27 52])))
def Bp:Gu:=T [b 17 .lss 16 15] (S (J 17 (X 0)) (S (B 1 (T [x 18 1 14 16,l 19 1 18,m 9 19] (T [m 20 0,z 21 20,f 22 0 21,l 23 1 22,m 24 9,q2 25 294 23 24,le 26 25,n 27 0] (B 2 (W ZE))))) (R [bk 53 .add 16 1,m 16 53])))
def GmL:Gm:=⟨55,0,T [e 6 (.K7 (c .Gf))] (T [e 7 (.K7 (c .Gf))] (S (T [m 13 0,q1 14 339 13,le 15 14,n 16 0] (B 0 (W Bp))) (Q [m 54 7,m 6 54]))),[r 6]⟩
theorem Goh:P 337=some GmL:=by kernel_rfl
end Go.Cs.Tryz
namespace Go.Cs
open Go
structure Acc(H:Gb)(v:CV)(l:List (Nat×Nat))(lb:Nat):Prop where
 at':At (only lb) z3 H v 2 l.length (G6 l)
 nil:l=[]→v=.Gf
theorem Acc.ns{H:Gb}{lb:Nat}:Acc H .Gf [] lb:=⟨.inl ⟨rfl,rfl,.inl rfl⟩,fun _=>rfl⟩
theorem Acc.re{H:Gb}{v:CV}{lb:Nat}(h:Acc H v [] lb)(lc:Nat):Acc H v [] lc:=by rw[h.nil rfl];exact Acc.ns
theorem Acc.lt{H:Gb}{v:CV}{l:List (Nat×Nat)}{lb:Nat}(h:Acc H v l lb)(hl:l≠[]):lb<H.length:=by
 obtain⟨tl,a1,a2,a3,a4⟩:=At.pos h.at' (BQ.2 hl)
 rw[JN]at a2
 rw[←a2.1];exact Gd a3
theorem Acc.keeps{H H':Gb}{v:CV}{l:List (Nat×Nat)}{lb:Nat}(h:Acc H v l lb)(g:Gr H H'):Acc H' v l lb:=⟨At.keeps h.at' g,h.nil⟩
theorem Acc.push{H:Gb}{v:CV}{l:List (Nat×Nat)}{lb:Nat}(h:Acc H v l lb)(hl:l.length+1≤16777216)(x:Nat×Nat):
  ∃v' H',Jv (H++[⟨[.i x.1,.i x.2],.rw,2⟩]) 2 v 1 [.i x.1,.i x.2]=some (v',H')∧Acc H' v' (l++[x]) (H.length+1)∧Keeps H H' (·=lb):=by
 obtain⟨H',a1,a2,a3,a4⟩:=At.append (At.keeps h.at' (Gr.app H [⟨[.i x.1,.i x.2],.rw,2⟩])) (k:=1) (new:=[.i x.1,.i x.2]) oM (by unfold JG;omega) (by simp[Gq]) rfl
 have l1:(H++[(⟨[.i x.1,.i x.2],.rw,2⟩:JI)]).length=H.length+1:=by simp
 refine⟨_,H',a1,⟨?_,fun h=>by simp at h⟩,⟨oM,fun c hc hn=>?_⟩⟩
 ·refine .inr ⟨H.length+1,true,by rw[l1];simp,JN.2 ⟨rfl,rfl⟩,?_,by rw[KE];omega⟩
  rw[←l1,a3,YD];rfl
 ·rw[a4 c oM fun h=>hn (JN.1 h).1,QN hc]
theorem Acc.pl{H:Gb}{v:CV}{l:List (Nat×Nat)}{lb k:Nat}(h:Acc H v l lb)(hk:k≤lb):PL k H v l:=by
 rcases h.at' with h|⟨b,f,h0,h1,h2,h3⟩
 ·exact .inl h
 ·exact .inr ⟨b,f,h0,Gn.2 ⟨by rw[(JN.1 h1).1];exact hk,rfl⟩,h2,h3⟩
theorem Hp.Tf{s:Hp}{n:Nat}{l:List Nat}{j b:Nat}(h:l[j]?=some b):s.KX n (l.take (j+1))=s.KX n (l.take j)++(s.gaps b).filter fun g=>decide (n≤g.2):=by
 unfold Hp.KX
 rw[QL,h,VT,List.flatMap_append,List.flatMap_cons,List.flatMap_nil,List.append_nil]
theorem Hp.Ok.Ged{s:Hp}(k:s.Ok)(b:Nat):(s.gaps b).length≤2049:=by
 have few:=k.few
 unfold Hp.gaps
 split
 ·have h1:=Yg (e:=64*(b+1)) (l:=s.Jh b) (a:=64*b)
  have h2:(s.Jh b).length≤s.objs.length:=List.length_filter_le _ _
  omega
 ·simp
end Go.Cs
namespace Go.Cs.Tryz
open Go Go.Cs
section
variable {H : Gb} {hb : Nat} {s : Hp} {L : GD} {ab : Nat} {sp pol : Int} {cu : Nat → Int}
theorem Gej{n:Nat}{gs acc0:List (Nat×Nat)}{v25 v7:CV}{lb0:Nat}(hv:PL 0 H v25 gs)(hg:∀x∈gs,x.1≤10000)(hgl:gs.length≤2049)(hal:acc0.length≤1000000)(h7:Acc H v7 acc0 lb0)(hne:gs≠[]→Gp v25≠lb0)
  {E0:Env}(e01:E0 1=.i 0)(e02:E0 2=.i n)(e07:E0 7=v7)(e25:E0 25=v25)(e26:E0 26=.i gs.length)(e27:E0 27=.i 0){r:Option (CX×Env×Gb)}(hr:den P (.loop ZE) E0 H=r):
  ∃E' H' lb,r=some (.exit 2,E',H')∧Keeps H H' (·=lb0)∧Acc H' (E' 7) (acc0++gs.filter fun g=>decide (n≤g.2)) lb∧(lb=lb0∨H.length≤lb)∧∀t,t∉wr ZE→E' t=E0 t:=by
 obtain⟨x',E',H',e,-,⟨rfl,g,lb,q1,q2⟩,fr⟩:=Gy (p:=P) (c:=ZE) (E0:=E0) (H0:=H)
  (fun q E H'=>Keeps H H' (·=lb0)∧∃(j lb:Nat),E 27=.i j∧j≤gs.length∧q=gs.length-j∧Acc H' (E 7) (acc0++(gs.take j).filter fun g=>decide (n≤g.2)) lb∧(lb=lb0∨H.length≤lb))
  (fun x' E' H'=>x'=.exit 2∧Keeps H H' (·=lb0)∧∃lb,Acc H' (E' 7) (acc0++gs.filter fun g=>decide (n≤g.2)) lb∧(lb=lb0∨H.length≤lb)) (by
   rintro q E H' hE ⟨g,j,lb,e27,hj,rfl,hn,hlb⟩
   have e1:=(hE 1 dK).trans e01
   have e2:=(hE 2 dK).trans e02
   have e25:=(hE 25 dK).trans e25
   have e26:=(hE 26 dK).trans e26
   by_cases c:j<gs.length
   ·have c':decide ((j:Int)<(gs.length:Int))=true:=GK oM
    obtain⟨x,hx⟩:∃x,gs[j]?=some x:=⟨_,J9 c⟩
    have hxb:=hg x (JX hx)
    obtain⟨b,i1,-,i3,i4,i5,-⟩:=PL.at hv hx
    have hbb:Gp v25=b:=by
     have h1:=i1 H
     obtain⟨tl,a1,a2,a3,a4⟩:=At.pos hv oM
     rw[a1,UF oM]at h1
     simp only[Gx,Prod.mk.injEq,CV.ptr.injEq]at h1
     exact h1.1.1
    have hbl:=Gd i3
    have V3:H'[b]?=_:=(g.keep b hbl (by rw[←hbb];exact hne (fun h=>by rw[h]at c;exact absurd c sM))).trans i3
    have hcl:=KE gs
    have hN:EZ (some ⟨G6 gs,.rw,2⟩) (j*2) 2=some [.i x.1,.i x.2]:=by
     rw[Ug,if_pos oM,drop_cons i4,drop_cons i5];rfl
    have w0:IntKind.i64.wrap (0-(x.1:Int))= -(x.1:Int):=by rw[Gh oM];omega
    have n0:decide ((0:Int)< -(x.1:Int))=false:=GC oM
    have w1:IntKind.i64.wrap ((j:Int)+1)=((j+1:Nat):Int):=Gh oM
    have hsn:=FW (p:=fun g:Nat×Nat=>decide (n≤g.2)) hx
    have hfl:((gs.take j).filter fun g=>decide (n≤g.2)).length≤gs.length:=Jr (List.length_filter_le _ _) (by simp;omega)
    obtain⟨Y,hY⟩:∃Y:Gb,Y=H'++[⟨[.i x.1,.i x.2],.rw,0⟩]:=⟨_,rfl⟩
    have gY:Gr H' Y:=by rw[hY];exact Gr.app _ _
    have lY:Y.length=H'.length+1:=by rw[hY];simp
    have tY:Y[H'.length]?=some ⟨[.i x.1,.i x.2],.rw,0⟩:=by rw[hY];simp
    have nY:Acc Y (E 7) _ lb:=hn.keeps gY
    have gl:=g.len
    by_cases c1:n≤x.2
    ·have c1':decide ((n:Int)≤(x.2:Int))=true:=GK oM
     obtain⟨v',H1,a1,a2,a3⟩:=Acc.push nY (by rw[Nq];omega) x
     have hel:elems (Y++[⟨[.i (x.1:Int),.i (x.2:Int)],.rw,2⟩]) 2 (.slice Y.length 0 1 1 2 false)=some (1,[.i (x.1:Int),.i (x.2:Int)]):=by
      rw[JC oM]
      simp(disch:=first|exact dz|fail) only[simprocAttr,Gc,↓reduceIte,JW]
     apply Gt (k':=gs.length-(j+1))
     ·simp(disch:=first|exact dz|fail) only[simprocAttr,Gc,↓reduceIte,ZE,e1,e2,e25,e26,e27,c',i1,V3,hN,fill,splice,and_self,G9,Gs,Gw,GV,Gq,w0,n0,c1',w1]
      rw[←hY]
      simp(disch:=first|exact dz|fail) only[simprocAttr,Gc,↓reduceIte,tY,hel,Ja,a1,e27,w1]
      rfl
     ·omega
     ·refine⟨⟨by have:=a3.len;omega,fun d hd hw=>?_⟩,j+1,Y.length+1,uA,oM,rfl,?_,.inr oM⟩
      ·by_cases cc:d=lb
       ·rcases hlb with h|h
        ·exact absurd (cc.trans h) hw
        ·omega
       ·rw[a3.keep d oM cc,gY.keep d oM fun h=>h,g.keep d hd hw]
      ·rw[hsn,if_pos (GK c1),←List.append_assoc]
       simpa[Gg]using a2
    ·have c1':decide ((n:Int)≤(x.2:Int))=false:=GC oM
     apply Gt (k':=gs.length-(j+1))
     ·simp(disch:=first|exact dz|fail) only[simprocAttr,Gc,↓reduceIte,ZE,e1,e2,e25,e26,e27,c',i1,V3,hN,fill,splice,and_self,G9,Gs,Gw,GV,Gq,w0,n0,c1',w1]
      rw[←hY]
     ·omega
     ·refine⟨g.trans (gY.weaken fun _ h=>h.elim),j+1,lb,uA,oM,rfl,?_,hlb⟩
      rw[hsn,if_neg (by simpa using c1),List.append_nil]
      simpa[Gg]using nY
   ·have c':decide ((j:Int)<(gs.length:Int))=false:=GC oM
    rw[NW oM]at hn
    apply Gl (x:=.exit 2)
    ·simp(disch:=first|exact dz|fail) only[simprocAttr,Gc,↓reduceIte,ZE,e26,e27,c']
     rfl
    ·simp
    ·exact⟨rfl,g,lb,by simpa[Gg]using hn,hlb⟩) _ ⟨Keeps.refl _ _,0,lb0,e27,oM,rfl,by rw[e07];simpa using h7,.inl rfl⟩
 exact⟨E',H',lb,hr.symm.trans e,g,q1,q2,fr⟩
theorem GeU(p:PH H hb s L)(k:s.Ok)(hz:s.GI 0=0)(ha:H[ab]?=some ⟨Hz hb sp pol cu,.rw,0⟩) {n:Nat} {bl:List Nat} (hbs:∀b∈bl,b<s.blk.length∧1≤b) (hbl:bl.length≤64) {v14:CV} (hv:IL 0 H v14 (ofN bl))
  {E0:Env} (e00:E0 0=.ptr ab 0) (e01:E0 1=.i 0) (e02:E0 2=.i n) (e07:E0 7=.Gf) (e14:E0 14=v14) (e15:E0 15=.i bl.length) (e16:E0 16=.i 0) {r:Option (CX×Env×Gb)} (hr:den P (.loop Bp) E0 H=r):
  ∃E' H',r=some (.exit 0,E',H')∧Gr H H'∧PL H.length H' (E' 7) (s.KX n bl):=by
 have hnb:=k.nb
 obtain⟨x',E',H',e,-,⟨rfl,g,hf⟩,fr⟩:=Gy (p:=P) (c:=Bp) (E0:=E0) (H0:=H)
  (fun q E H'=>Gr H H'∧∃(j lb:Nat),E 16=.i j∧j≤bl.length∧q=bl.length-j∧Acc H' (E 7) (s.KX n (bl.take j)) lb∧H.length≤lb∧(s.KX n (bl.take j)).length≤3000*j)
  (fun x' E' H'=>x'=.exit 0∧Gr H H'∧PL H.length H' (E' 7) (s.KX n bl)) (by
   rintro q E H' hE ⟨g,j,lb,e16,hj,rfl,hn,hlb,hnl⟩
   have e0:=(hE 0 dK).trans e00
   have e1:=(hE 1 dK).trans e01
   have e2:=(hE 2 dK).trans e02
   have e14:=(hE 14 dK).trans e14
   have e15:=(hE 15 dK).trans e15
   by_cases c:j<bl.length
   ·have c':decide ((j:Int)<(bl.length:Int))=true:=GK oM
    obtain⟨b,hx⟩:∃b,bl[j]?=some b:=⟨_,J9 c⟩
    obtain⟨hb1,hb2⟩:=hbs b (JX hx)
    have hxa:(ofN bl)[j]?=some (b:Int):=by simp[hx]
    obtain⟨vb,vo,i1,-,i3,-⟩:=IL.at hv hxa
    have hvb:vb<H.length:=by
     cases e:H[vb]? with
     |none=>rw[e]at i3;cases i3
     |some q=>exact Gd e
    have V3:ld H'[vb]? vo=some (.i (b:Int)):=by rw[g.keep vb hvb fun h=>h];exact i3
    have ha':=g.get ha
    unfold Hz at ha'
    obtain⟨v25,H1,h1,g1,hv25⟩:=GcA (p.gr g) k hb1 hb2
    have h25:PL 0 H1 v25 (s.gaps b):=hv25.frame (fun c h=>Gn.2 ⟨Nat.zero_le _,(Gn.1 h).2⟩) fun c h=>rfl
    have hvl:=hv25.len H1
    have hgl:=k.Ged b
    have gl1:=g1.len
    have gl:=g.len
    obtain⟨lc,GpZ,Gl1,Gpb⟩:∃lc,Acc H1 (E 7) (s.KX n (bl.take j)) lc∧H.length≤lc∧(s.gaps b≠[]→Gp v25≠lc):=by
     have hn1:Acc H1 (E 7) (s.KX n (bl.take j)) lb:=hn.keeps g1
     by_cases ce:s.KX n (bl.take j)=[]
     ·refine⟨H1.length,?_,oM,fun h0=>?_⟩
      ·rw[ce]at hn1⊢;exact hn1.re _
      ·obtain⟨tl,a1,a2,a3,a4⟩:=At.pos hv25 (BQ.2 h0)
       have:=Gd a3
       omega
     ·refine⟨lb,hn1,hlb,fun h0=>?_⟩
      obtain⟨tl,a1,a2,a3,a4⟩:=At.pos hv25 (BQ.2 h0)
      have h2:=(Gn.1 a2).1
      have h3:=hn.lt ce
      omega
    have hsn:=Hp.Tf (s:=s) (n:=n) hx
    have hfl:((s.gaps b).filter fun g=>decide (n≤g.2)).length≤(s.gaps b).length:=List.length_filter_le _ _
    have w1:IntKind.i64.wrap ((j:Int)+1)=((j+1:Nat):Int):=Gh oM
    suffices∃E' H2 lb',den P Bp E H'=some (.normal,E',H2)∧E' 16=.i ((j+1:Nat):Int)∧Gr H H2∧Acc H2 (E' 7) (s.KX n (bl.take (j+1))) lb'∧H.length≤lb' by
     obtain⟨E',H2,lb',d1,d2,d3,d4,d5⟩:=this
     apply Gt (k':=bl.length-(j+1)) d1
     ·omega
     ·refine⟨d3,j+1,lb',d2,oM,rfl,d4,d5,?_⟩
      rw[hsn,Nq]
      omega
    simp(disch:=first|exact dz|fail) only[simprocAttr,Gc,↓reduceIte,Bp,e0,e14,e15,e16,c',i1,V3,ha',h1,hvl]
    generalize hr:den P (.loop ZE) _ _=r
    obtain⟨E2,H2,lb',rfl,k2,q1,q2,fr⟩:=Gej (n:=n) h25 (fun x hx=>by have:=Hp.RD hx;omega) hgl oM GpZ Gpb (by simp[Gg,e1]) (by simp[Gg,e2]) uA uA uA uA hr
    have f16:=fr 16 dK
    simp only[Gg,Nat.reduceEqDiff,↓reduceIte,e16]at f16
    simp(disch:=first|exact dz|fail) only[simprocAttr,Gc,↓reduceIte,f16,w1]
    refine⟨_,H2,lb',rfl,uA,⟨by have:=k2.len;omega,fun d hd _=>?_⟩,?_,by rcases q2 with h|h<;>omega⟩
    ·rw[k2.keep d oM oM,g1.keep d oM fun h=>h,g.keep d hd fun h=>h]
    ·rw[hsn];simpa[Gg]using q1
   ·have c':decide ((j:Int)<(bl.length:Int))=false:=GC oM
    rw[NW oM]at hn
    apply Gl (x:=.exit 0)
    ·simp(disch:=first|exact dz|fail) only[simprocAttr,Gc,↓reduceIte,Bp,e15,e16,c']
     rfl
    ·simp
    ·exact⟨rfl,g,by simpa[Gg]using hn.pl hlb⟩) _ ⟨Keeps.refl H _,0,H.length,e16,oM,rfl,by rw[e07];exact Acc.ns,oM,by simp[Hp.KX]⟩
 exact⟨E',H',hr.symm.trans e,g,hf⟩
theorem Xf(p:PH H hb s L)(k:s.Ok)(hz:s.GI 0=0)(ha:H[ab]?=some ⟨Hz hb sp pol cu,.rw,0⟩) (n:Nat):∃v H',run P 337 [.ptr ab 0,.i 0,.i n] H=some (v,H')∧Gr H H'∧PL H.length H' v (s.KX n (s.Nr sp s.blk.length)):=by
 have hnb:=k.nb
 obtain⟨v14,H1,h1,g1,hv⟩:=Rh p k ha
 have hvl:=hv.len H1
 have hl:=Hp.LJ (s:=s) (sp:=sp) (n:=s.blk.length)
 rw[Wu]at hvl
 have hv0:IL 0 H1 v14 (ofN (s.Nr sp s.blk.length)):=hv.frame (fun c h=>Gn.2 ⟨Nat.zero_le _,(Gn.1 h).2⟩) fun c h=>rfl
 rw[Gi Goh _ _ sM]
 simp(disch:=first|exact dz|fail) only[simprocAttr,Gc,↓reduceIte,G8,h1,hvl]
 generalize hr:den P (.loop Bp) _ _=r
 obtain⟨E',H2,rfl,g2,hn⟩:=GeU (p.gr g1) k hz (g1.get ha) (n:=n) (bl:=s.Nr sp s.blk.length) (fun b hb=>by
  unfold Hp.Nr at hb
  rw[List.mem_filter,List.mem_range]at hb
  refine⟨hb.1,?_⟩
  rcases Nat.eq_zero_or_pos b with h|h
  ·subst h
   have:=hb.2
   simp[O6,hz]at this
  ·exact h) oM hv0 uA uA uA uA uA uA uA hr
 refine⟨E' 7,H2,?_,g1.trans g2,hn.frame (fun c h=>Gn.2 ⟨Jr g1.len (Gn.1 h).1,(Gn.1 h).2⟩) fun c h=>rfl⟩
 simp(disch:=first|exact dz|fail) only[simprocAttr,Gc,↓reduceIte]
end
end Go.Cs.Tryz
namespace Go.Cs.Tryz
open Go Go.Cs A
def GpY:Gm:=⟨34,0,T [e 6 (.K7 (c .nilPtr)),n 7 0] (S (T [m 8 0,q1 9 49 8,bk 10 .eql 9 0,m 11 10,gf 11 (m 12 1),gf 11 (bk 13 .lss 12 0),or 14 11 13,m 15 14,gf 15 (m 16 1),gf 15 (bk 17 .geq 16 8),or 18 15 17,m 19 18,gf 19 (m 20 2),gf 19 (bk 21 .lss 20 0),or 22 19 21,m 23 22,gf 23 (m 24 2),gf 23 (ca 25 231 []),gf 23 (le 26 25),gf 23 (b 27 .geq 24 26),or 28 23 27] (I 28 (Q [e 6 (.K7 (c .nilPtr)),n 7 1]))) (Q [m 29 0,m 30 1,m 31 2,e 32 (.build [.nilPtr,i 0,i 0,i 0,i 0,i 0,i 0] [(0,1,t 29),(1,1,t 30),(2,1,t 31)]),bo 33 32,m 6 33,n 7 0])),[r 6,r 7]⟩
theorem c143:P 143=some GpY:=by kernel_rfl
def GnD:Gm:=⟨73,0,T [bo 3 1,n 4 0,n 5 0] (S (B 0 (T [m 13 0,q1 14 232 13,no 15 14,m 12 15] (C 12 (Q [n 4 0,n 5 5]) (T [lg 17 3 3,q1 18 125 17,no 19 18,m 16 19] (I 16 (Q [n 4 0,n 5 2])))))) (T [lg 20 3 3,q1 21 127 20,m 6 21] (S (D [⟨ca 22 231 [],0,3,0⟩,⟨m 23 0,1,0,0⟩,⟨z 24 23,2,0,0⟩,⟨f 25 2 24,3,0,0⟩,⟨l 26 1 25,4,1,0⟩,⟨x 27 1 22 26,5,0,1⟩,⟨l 28 1 27,6,1,1⟩,⟨z 29 28,7,0,1⟩,⟨e 30 (.I6 "dustcart/alloc.place" (t 29)),8,0,1⟩,⟨m 7 30,9,0,1⟩]) (S (T [m 31 6,bk 32 .gtr 31 32] (I 32 (R [e 7 (.K7 (c (.func 233 [])))]))) (T [m 33 0,z 34 33,lg 35 7 34,e 8 (.new [.nilPtr,i 0,i 0,i 0,i 0,i 0,i 0]),st 7 8 35] (T [m 37 7,m 38 0,m 39 6,e 40 (.Nz (t 37) [t 38,t 39] [(304,"dustcart/alloc.place",335),(305,"dustcart/alloc.place",340),(306,"dustcart/alloc.place",348),(307,"dustcart/alloc.place",349),(308,"dustcart/alloc.place",353)]),m 36 40,ex 41 36 0,ex 42 36 1,m 9 41,m 10 42] (S (T [m 43 10,no 44 43] (I 44 (Q [n 4 0,n 5 6]))) (T [n 11 5] (S (S (D [⟨m 45 0,0,0,0⟩,⟨z 46 45,1,0,0⟩,⟨f 47 0 46,2,0,0⟩,⟨l 48 1 47,3,1,0⟩,⟨m 49 9,4,0,0⟩,⟨bk 50 .quo 49 64,5,0,0⟩,⟨q2 51 72 48 50,6,3,0⟩,⟨m 52 0,7,0,0⟩,⟨z 53 52,8,0,0⟩,⟨f 54 1 53,9,0,0⟩,⟨l 55 1 54,10,1,0⟩,⟨b 56 .eql 51 55,11,0,1⟩]) (I 56 (D [⟨m 58 0,0,0,0⟩,⟨z 59 58,1,0,0⟩,⟨f 60 0 59,2,0,0⟩,⟨l 61 1 60,3,1,0⟩,⟨m 62 9,4,0,0⟩,⟨lg 63 3 3,5,1,0⟩,⟨q3 64 40 61 62 63,6,3,0⟩,⟨m 57 64,7,0,1⟩,⟨ex 65 57 0,8,0,1⟩,⟨ex 66 57 1,9,0,1⟩,⟨m 11 66,10,0,1⟩]))) (S (T [m 67 11,bk 68 .neq 67 0] (I 68 (T [m 69 0,lg 70 7 8,z 71 69,st 7 71 70] (Q [n 4 0,n 5 6])))) (Q [m 72 9,m 4 72,n 5 0]))))))))))),[r 4,r 5]⟩
theorem Gp0:P 144=some GnD:=by kernel_rfl
def GqA:Gm:=⟨12,0,T [e 0 (.K7 (c .Gf))] (Q [e 1 (.build [] []),e 2 (.Sg 304 (t 1)),e 3 (.build [] []),e 4 (.Sg 305 (t 3)),e 5 (.build [] []),e 6 (.Sg 306 (t 5)),e 7 (.build [] []),e 8 (.Sg 307 (t 7)),e 9 (.build [] []),e 10 (.Sg 308 (t 9)),e 11 (.buildSlice 1 [.nilIface,.nilIface,.nilIface,.nilIface,.nilIface] 5 [(0,1,t 2),(1,1,t 4),(2,1,t 6),(3,1,t 8),(4,1,t 10)]),m 0 11]),[r 0]⟩
theorem GqJ:P 231=some GqA:=by kernel_rfl
def GoU:Gm:=⟨15,0,T [bo 3 0,n 6 0,nb 7 false] (Q [m 8 1,m 9 1,m 10 2,ca 11 337 [t 9,k 0,t 10],q2 12 336 8 11,ex 13 12 0,ex 14 12 1,m 6 13,m 7 14]),[r 6,r 7]⟩
theorem GmB:P 335=some GoU:=by kernel_rfl
def Gr8:Gm:=⟨23,0,T [n 4 0,nb 5 false] (S (T [m 8 1,le 9 8,bk 10 .gtr 9 0] (I 10 (Q [m 11 1,e 12 (.index 2 (t 11) (k 0)),f 13 0 12,l 14 1 13,m 4 14,nb 5 true]))) (T [m 16 0,q1 17 338 16,m 15 17,ex 18 15 0,ex 19 15 1,e 6 (.new [i 0,i 0]),st 2 6 18,m 7 19] (Q [f 20 0 6,l 21 1 20,m 22 7,m 4 21,m 5 22]))),[r 4,r 5]⟩
theorem Gn4:P 336=some Gr8:=by kernel_rfl
end Go.Cs.Tryz
namespace Go.Cs
open Go
def Hp.spot(s:Hp)(sp:Int)(n:Nat):Hp×Option Nat:=match s.KX n (s.Nr sp s.blk.length)with
 |g::_=>(s,some g.1)
 |[]=>(s.took sp,s.Z6.map (64*·))
def Hp.alloc(s:Hp)(sp r d k:Int):Hp×Int×Int:=
 match(s.spot sp (G7 r.toNat d.toNat)).2 with
 |none=>((s.spot sp (G7 r.toNat d.toNat)).1,0,6)
 |some a=>
  if(((s.spot sp (G7 r.toNat d.toNat)).1.Nu (a/64):Nat):Int)=sp∧((s.spot sp (G7 r.toNat d.toNat)).1.place a r d k).2.2=0 then(((s.spot sp (G7 r.toNat d.toNat)).1.place a r d k).1,a,0)
  else((s.spot sp (G7 r.toNat d.toNat)).1,0,6)
theorem Hp.XF{s:Hp}{n:Nat}{l:List Nat}{g:Nat×Nat}(h:g∈s.KX n l):∃b∈l,g∈s.gaps b:=by
 unfold Hp.KX at h
 rw[List.mem_flatMap]at h
 obtain⟨b,h1,h2⟩:=h
 exact⟨b,h1,(List.mem_filter.1 h2).1⟩
theorem Hp.Ggp{s:Hp}(k:s.Ok){sp:Int}{n a:Nat}(h:(s.spot sp n).2=some a):a/64<s.blk.length:=by
 have hnb:=k.nb
 unfold Hp.spot at h
 split at h
 ·rename_i g l hg
  simp only[Gx]at h
  obtain⟨b,h1,h2⟩:=Hp.XF (s:=s) (n:=n) (l:=s.Nr sp s.blk.length) (g:=g) (by rw[hg];exact NC)
  unfold Hp.Nr at h1
  rw[List.mem_filter,List.mem_range]at h1
  have:=Hp.RD h2
  omega
 ·rw[GR]at h
  obtain⟨b,h1,rfl⟩:=h
  have:=Hp.Hu h1
  omega
theorem Hp.Ok.spot{s:Hp}(k:s.Ok){sp:Int}(hsp:0≤sp∧sp<8)(n:Nat):(s.spot sp n).1.Ok:=by
 unfold Hp.spot
 split
 ·exact k
 ·exact k.took hsp
theorem Hp.GcM{s:Hp}{sp:Int}{n:Nat}:(s.spot sp n).1.blk.length=s.blk.length∧(s.spot sp n).1.born=s.born∧(s.spot sp n).1.objs=s.objs∧(s.spot sp n).1.fwd=s.fwd:=by
 unfold Hp.spot
 split
 ·exact⟨rfl,rfl,rfl,rfl⟩
 ·unfold Hp.took
  split<;>exact⟨sM,rfl,rfl,rfl⟩
theorem Hp.Gdb{s:Hp}{a r d k:Int}(h:(s.place a r d k).2.2≠0):(s.place a r d k).1=s:=by
 unfold Hp.place at h⊢
 split
 ·split
  ·rename_i c1 c2
   rw[if_pos c1,if_pos c2]at h
   exact absurd rfl h
  ·rfl
 ·rfl
end Go.Cs
namespace Go.Cs.Tryz
open Go Go.Cs
section
variable {H : Gb} {hb : Nat} {s : Hp} {L : GD} {ab : Nat} {sp pol : Int} {cu : Nat → Int}
theorem Td(p:PH H hb s L)(k:s.Ok)(hsp:0≤sp∧sp<8)(ha:H[ab]?=some ⟨Hz hb sp pol cu,.rw,0⟩) (hab:ab∉L.all hb) {n:Nat} {v:CV} (hv:PL 0 H v (s.KX n (s.Nr sp s.blk.length))):
  ∃H',run P 336 [.ptr ab 0,v] H=some (match(s.spot sp n).2 with
   |some a=>.Ju [.i (a:Nat),.bool true]
   |none=>.Ju [.i 0,.bool false],H')∧Keeps H H' (·∈L.all hb)∧PH H' hb (s.spot sp n).1 L:=by
 have hvl:=hv.len H
 rw[Gi Gn4 _ _ sM]
 unfold Hp.spot
 cases hg:s.KX n (s.Nr sp s.blk.length)with
 |cons g l=>
  rw[hg]at hvl hv
  have c':decide ((0:Int)<(((g::l).length:Nat):Int))=true:=GK sM
  obtain⟨b,i1,-,i3,i4,i5,-⟩:=PL.at hv (i:=0) (x:=g) rfl
  have i1':∀H':Gb,Kb 2 v (.int .i64 0) H'=some (.ptr b (0*2),H'):=i1
  refine⟨H,?_,Keeps.refl _ _,p⟩
  simp(disch:=first|exact dz|fail) only[simprocAttr,Gc,↓reduceIte,Gj,hvl,c',i1',i3,i4,Nat.zero_mul]
 |nil=>
  rw[hg]at hvl
  obtain⟨H',h1,h2,h3⟩:=T9 p k hsp ha hab
  have c':decide ((0:Int)<((([]:List (Nat×Nat)).length:Nat):Int))=false:=rfl
  cases hb1:s.Z6 with
  |some b=>
   rw[hb1]at h1
   refine⟨H'++[⟨[.i (64*b:Nat),.i (64*(b+1):Nat)],.rw,0⟩],?_,h2.app' _,h3.app _⟩
   simp(disch:=first|exact dz|fail) only[simprocAttr,Gc,↓reduceIte,Gj,hvl,c',h1,G9,Gs,Gw,GV,Gq,splice]
  |none=>
   rw[hb1]at h1
   refine⟨H'++[⟨[.i 0,.i 0],.rw,0⟩],?_,h2.app' _,h3.app _⟩
   simp(disch:=first|exact dz|fail) only[simprocAttr,Gc,↓reduceIte,Gj,hvl,c',h1,G9,Gs,Gw,GV,Gq,splice]
theorem SL(p:PH H hb s L)(k:s.Ok)(hz:s.GI 0=0)(hsp:0≤sp∧sp<8)(ha:H[ab]?=some ⟨Hz hb sp pol cu,.rw,0⟩) (hab:ab∉L.all hb) (n:Nat):
  ∃H',run P 335 [.agg [],.ptr ab 0,.i n] H=some (match(s.spot sp n).2 with
   |some a=>.Ju [.i (a:Nat),.bool true]
   |none=>.Ju [.i 0,.bool false],H')∧Keeps H H' (·∈L.all hb)∧PH H' hb (s.spot sp n).1 L:=by
 obtain⟨X,hX⟩:∃X:Gb,X=H++[⟨[],.rw,0⟩]:=⟨_,rfl⟩
 have gX:Gr H X:=by rw[hX];exact Gr.app H _
 obtain⟨v,H1,h1,g1,hv⟩:=Xf (p.gr gX) k hz (gX.get ha) n
 have hv0:PL 0 H1 v (s.KX n (s.Nr sp s.blk.length)):=hv.frame (fun c h=>Gn.2 ⟨Nat.zero_le _,(Gn.1 h).2⟩) fun c h=>rfl
 have g:=gX.trans g1
 obtain⟨H2,h2,k2,p2⟩:=Td (p.gr g) k hsp (Gr.get g ha) hab hv0
 have h1':run P 337 [.ptr ab 0,.int .i64 0,.i n] X=some (v,H1):=h1
 refine⟨H2,?_,(g.weaken fun _ h=>h.elim).trans k2,p2⟩
 rw[Gi GmB _ _ sM]
 simp(disch:=first|exact dz|fail) only[simprocAttr,Gc,↓reduceIte,G8]
 rw[←hX]
 simp(disch:=first|exact dz|fail) only[simprocAttr,Gc,↓reduceIte,h1',h2]
 cases (s.spot sp n).2 with
 |some a=>simp(disch:=first|exact dz|fail) only[simprocAttr,Gc,↓reduceIte]
 |none=>simp(disch:=first|exact dz|fail) only[simprocAttr,Gc,↓reduceIte]
def Wm:List CV:=[.iface 304 (.agg []),.iface 305 (.agg []),.iface 306 (.agg []),.iface 307 (.agg []),.iface 308 (.agg [])]
theorem Zu:run P 231 [] H=some (.slice H.length 0 5 5 1 false,H++[⟨Wm,.rw,1⟩]):=by
 rw[Gi GqJ _ _ sM]
 have ci:∀t (x:CV),cellsOf (.iface t x)=[.iface t x]:=fun _ _=>rfl
 simp(disch:=first|exact dz|fail) only[simprocAttr,Gc,↓reduceIte,Gbb,fill,splice,and_self,Ge_,ci]
 rfl
theorem Gcb(p:PH H hb s L)(k:s.Ok)(hsp:0≤sp∧sp<8):∃ab H',run P 143 [.ptr hb 0,.i sp,.i 0] H=some (.Ju [.ptr ab 0,.i 0],H')∧Gr H H'∧H.length≤ab∧H'[ab]?=some ⟨Hz hb sp 0 (fun _=>0),.rw,0⟩:=by
 have hnb:=k.nb
 have h1:=KD p k
 have h2:=Zu (H:=H)
 have e1:((s.blk.length:Int)==0)=false:=by rw[VZ];omega
 have c1:¬(sp<0):=by omega
 have c2:¬((8:Int)≤sp):=by omega
 refine⟨H.length+1,H++[⟨Wm,.rw,1⟩]++[⟨Hz hb sp 0 (fun _=>0),.rw,0⟩],?_,(Gr.app H _).app' _,oM,sM⟩
 rw[Gi c143 _ _ sM]
 simp(disch:=first|exact dz|fail) only[simprocAttr,Gc,↓reduceIte,G8,h1,e1,c1,c2,h2,decide_false,KA,fill,splice,and_self]
 rfl
theorem WG(p:PH H hb s L)(k:s.Ok)(hz:s.GI 0=0)(hsp:0≤sp∧sp<8)(hborn:s.born<1000000000000)(ha:H[ab]?=some ⟨Hz hb sp 0 cu,.rw,0⟩) (hab:ab∉L.all hb) {r d kd:Int} (hv:JJ r d kd=true) (hw:G7 r.toNat d.toNat≤32):
  ∃H',run P 144 [.ptr ab 0,.agg (Je r d kd)] H=some (.Ju [.i (s.alloc sp r d kd).2.1,.i (s.alloc sp r d kd).2.2],H')∧Keeps H H' (fun c=>c∈L.all hb∨c=ab)∧PH H' hb (s.alloc sp r d kd).1 L:=by
 obtain⟨n,hn⟩:∃n,n=G7 r.toNat d.toNat:=⟨_,rfl⟩
 have hwI:G5 r d kd=(n:Int):=by unfold G5;rw[if_pos hv,hn]
 rw[←hn]at hw
 obtain⟨X0,hX0⟩:∃X:Gb,X=H++[⟨Je r d kd,.rw,0⟩]:=⟨_,rfl⟩
 have g0:Gr H X0:=by rw[hX0];exact Gr.app H _
 have t3:X0[H.length]?=some ⟨Je r d kd,.rw,0⟩:=by rw[hX0];simp
 have h1:=GaH (g0.get ha)
 have h2:=Bn (H:=X0) r d kd
 rw[hv]at h2
 obtain⟨X1,hX1⟩:∃X:Gb,X=X0++[⟨Je r d kd,.rw,0⟩]:=⟨_,rfl⟩
 have g1:Gr X0 X1:=by rw[hX1];exact Gr.app _ _
 rw[←hX1]at h2
 have h3:=Yn (H:=X1) r d kd
 rw[hwI]at h3
 obtain⟨X2,hX2⟩:∃X:Gb,X=X1++[⟨Je r d kd,.rw,0⟩]++[⟨Je r d kd,.rw,0⟩]:=⟨_,rfl⟩
 have g2:Gr X1 X2:=by rw[hX2];exact(Gr.app _ _).app' _
 rw[←hX2]at h3
 have h4:=Zu (H:=X2)
 obtain⟨X3,Bd⟩:∃X:Gb,X=X2++[⟨Wm,.rw,1⟩]:=⟨_,rfl⟩
 have g3:Gr X2 X3:=by rw[Bd];exact Gr.app _ _
 have tp:X3[X2.length]?=some ⟨Wm,.rw,1⟩:=by rw[Bd];simp
 rw[←Bd]at h4
 obtain⟨X4,DL⟩:∃X:Gb,X=X3++[⟨Hz hb sp 0 cu,.rw,0⟩]:=⟨_,rfl⟩
 have g4:Gr X3 X4:=by rw[DL];exact Gr.app _ _
 have t8:X4[X3.length]?=some ⟨Hz hb sp 0 cu,.rw,0⟩:=by rw[DL];simp
 have g02:=g0.trans (g1.trans g2)
 have g03:=g02.trans g3
 have g04:=g03.trans g4
 have t31:=g1.get t3
 have t33:=Gr.get (g1.trans g2) t3
 have a2:=Gr.get g02 ha
 have a3:=Gr.get g03 ha
 have l04:=g04.len
 obtain⟨H5,h5,k5,p5⟩:=SL (p.gr g04) k hz hsp (Gr.get g04 ha) hab n
 have pl:=p.lt
 have GkO:X3.length∉L.all hb:=fun h=>by have:=pl _ h;have:=g03.len;omega
 have hHn:H.length∉L.all hb:=fun h=>by have:=pl _ h;omega
 have hc4:H.length<X4.length:=Gd (Gr.get ((g1.trans g2).trans (g3.trans g4)) t3)
 have a5:H5[ab]?=some ⟨Hz hb sp 0 cu,.rw,0⟩:=(k5.keep ab (Gd (Gr.get g04 ha)) hab).trans (Gr.get g04 ha)
 have t85:H5[X3.length]?=some ⟨Hz hb sp 0 cu,.rw,0⟩:=(k5.keep _ (Gd t8) GkO).trans t8
 have t35:H5[H.length]?=some ⟨Je r d kd,.rw,0⟩:=(k5.keep _ hc4 hHn).trans (Gr.get ((g1.trans g2).trans (g3.trans g4)) t3)
 have kk:Keeps H H5 (·∈L.all hb):=(g04.weaken fun _ h=>h.elim).trans k5
 have hm:Zk [(304, "dustcart/alloc.place",335),(305, "dustcart/alloc.place",340),(306, "dustcart/alloc.place",348),(307, "dustcart/alloc.place",349),(308, "dustcart/alloc.place",353)] 304 "dustcart/alloc.place" =some 335:=by decide +kernel
 have gt:decide ((32:Int)<(n:Int))=false:=GC oM
 have h0f:((H++[(⟨Je r d kd,.rw,0⟩:JI)])=X0):=hX0.symm
 unfold Hz at a2 a3 t85 a5 DL
 unfold Je at h2 h3 t3 t31 t33 t35 h0f
 unfold Wm at tp
 have hcs:∀c,cellsOf (.agg c)=c:=fun _=>rfl
 rw[Gi Gp0 _ _ sM]
 unfold Hp.alloc
 rw[←hn]
 unfold Je
 simp(disch:=first|exact dz|fail) only[simprocAttr,Gc,↓reduceIte,Gj,h0f]
 simp(disch:=first|exact dz|fail) only[simprocAttr,Gc,↓reduceIte,h0f,h1,t3,h2,t31,h3,h4,a2,a3,tp,Gcn,GiU,gt,hcs]
 rw[←DL]
 have sb:=Hp.GcM (s:=s) (sp:=sp) (n:=n)
 have sk:=k.spot hsp n
 cases hs:(s.spot sp n).2 with
 |none=>
  rw[hs]at h5
  dsimp only at h5⊢
  refine⟨H5,?_,kk.weaken fun _ h=>.inl h,p5⟩
  simp(disch:=first|exact dz|fail) only[simprocAttr,Gc,↓reduceIte,Jd,Dq hm,h5]
 |some a=>
  rw[hs]at h5
  dsimp only at h5⊢
  have hal:=Hp.Ggp k hs
  have hnb:=k.nb
  have hsp1:=Ht p5 sk (b:=a/64) oM
  have td:(a:Int).tdiv 64=((a/64:Nat):Int):=KT a 64
  have wd:IntKind.i64.wrap ((a/64:Nat):Int)=((a/64:Nat):Int):=Gh oM
  have hkeep:∀Y,Keeps H5 Y (·∈L.all hb)→Y[ab]?=H5[ab]?∧Y[X3.length]?=H5[X3.length]?:=fun Y g=>⟨g.keep ab (Gd a5) hab,g.keep _ (Gd t85) GkO⟩
  by_cases cs:(((s.spot sp n).1.Nu (a/64):Nat):Int)=sp
  ·have cs':((((s.spot sp n).1.Nu (a/64):Nat):Int)==sp)=true:=by rw[beq_iff_eq];exact cs
   obtain⟨H6,h6,k6,p6⟩:=Bv p5 sk oM a r d kd
   unfold Je Uj at h6
   by_cases ce:((s.spot sp n).1.place a r d kd).2.2=0
   ·rw[if_pos ⟨cs,ce⟩]
    have ce':(((s.spot sp n).1.place a r d kd).2.2 != 0)=false:=by rw[ce];rfl
    refine⟨H6,?_,(kk.trans k6).weaken fun _ h=>.inl h,p6⟩
    simp(disch:=first|exact dz|fail) only[simprocAttr,Gc,↓reduceIte,Jd,Dq hm,h5,a5,ZV,td,wd,hsp1,cs',t35,h6,ce']
   ·rw[if_neg (fun h=>ce h.2)]
    have ce':(((s.spot sp n).1.place a r d kd).2.2 != 0)=true:=by simpa using ce
    have e6:=Hp.Gdb ce
    rw[e6]at p6
    have a6:=(hkeep H6 k6).1.trans a5
    have t86:=(hkeep H6 k6).2.trans t85
    refine⟨_,?_,((kk.trans k6).weaken fun _ h=>.inl h).set (w:=fun c=>c∈L.all hb∨c=ab) (.inl (.inr rfl)) ⟨Hz hb sp 0 cu,.rw,0⟩,p6.frame fun c hc=>by rw[JU];rintro rfl;exact hab hc⟩
    simp(disch:=first|exact dz|fail) only[simprocAttr,Gc,↓reduceIte,Jd,Dq hm,h5,a5,ZV,td,wd,hsp1,cs',t35,h6,ce',t86,a6,G9,Gs,Gw,GV,Gq,splice]
    rfl
  ·have cs':((((s.spot sp n).1.Nu (a/64):Nat):Int)==sp)=false:=by rw[VZ];exact cs
   rw[if_neg (fun h=>cs h.1)]
   refine⟨_,?_,(kk.weaken fun _ h=>.inl h).set (w:=fun c=>c∈L.all hb∨c=ab) (.inl (.inr rfl)) ⟨Hz hb sp 0 cu,.rw,0⟩,p5.frame fun c hc=>by rw[JU];rintro rfl;exact hab hc⟩
   simp(disch:=first|exact dz|fail) only[simprocAttr,Gc,↓reduceIte,Jd,Dq hm,h5,a5,ZV,td,wd,hsp1,cs',t85,G9,Gs,Gw,GV,Gq,splice,show((5:Int) != 0)=true from rfl]
   rfl
end
end Go.Cs.Tryz
namespace Go.Cs.Tryz
open Go Go.Cs A
def Ua:Gu:=B 3 (T [f 24 0 2,l 25 1 24,m 26 7,m 27 8,q3 28 76 25 26 27,m 23 28,ex 29 23 0,ex 30 23 1,m 9 29,m 10 30] (S (T [m 31 9,bk 32 .eql 31 0] (I 32 (X 2))) (T [f 34 0 2,l 35 1 34,m 36 9,q2 37 75 35 36,m 33 37,ex 38 33 0,ex 39 33 1,e 11 (.new [i 0,i 0,i 0]),st 3 11 38,m 12 39] (T [f 41 0 2,l 42 1 41,m 43 9,ca 44 77 [t 42,t 43,k 0],m 40 44,ex 45 40 0,ex 46 40 1,m 13 45,m 14 46] (S (T [m 47 12,bk 48 .neq 47 0,m 49 48,gf 49 (lg 50 3 11),gf 49 (e 51 (.K7 (c (.agg [i 3,i 1,i 2])))),gf 49 (e 52 (.eqs true 3 (t 50) (t 51))),or 53 49 52,m 54 53,gf 54 (m 55 5),gf 54 (m 56 9),gf 54 (e 57 (.Qo false .i64 (.bool false) (t 55) (t 56))),or 58 54 57,m 59 58,gf 59 (m 60 13),gf 59 (bk 61 .lss 60 1),or 62 59 61,m 63 62,gf 63 (m 64 13),gf 63 (bk 65 .rem 64 8),gf 63 (m 66 6),gf 63 (b 67 .neq 65 66),or 68 63 67] (I 68 (Q [nb 4 false]))) (T [m 69 5,m 70 9,u (.QY .i64 (t 69) (t 70) (c (.bool true)))] (T [m 71 9,m 72 7,m 73 8,e 74 (.build [i 0,i 0,i 0,i 0,i 0] [(0,1,t 71),(1,1,t 72),(2,1,t 73)]),e 15 (.new [i 0,i 0,i 0,i 0,i 0]),st 5 15 74] (T [f 76 0 2,l 77 1 76,m 78 9,ca 79 76 [t 77,t 78,k 0],m 75 79,ex 80 75 0,ex 81 75 1,f 82 3 15,st 1 82 80] (T [f 84 0 2,l 85 1 84,m 86 9,ca 87 76 [t 85,t 86,k 1],m 83 87,ex 88 83 0,ex 89 83 1,f 90 4 15,st 1 90 88] (S (T [m 91 1,lg 92 5 15,e 93 (.Nz (t 91) [t 92] [(304,"dustcart/alloc.place",335),(305,"dustcart/alloc.place",340),(306,"dustcart/alloc.place",348),(307,"dustcart/alloc.place",349),(308,"dustcart/alloc.place",353)]),no 94 93] (I 94 (Q [nb 4 true]))) (R [m 95 9,m 7 95,n 8 2])))))))))))
def BU:Gu:=T [bk 18 .lss 17 8] (S (J 18 (X 0)) (S (B 1 (T [m 19 17,m 6 19] (T [f 20 1 2,l 21 1 20,m 22 6,m 7 21,m 8 22] (B 2 (W Ua))))) (R [bk 96 .add 17 1,m 17 96])))
def GpW:Gm:=⟨97,0,T [bo 2 0,nb 4 false] (T [e 16 .Vg,m 5 16] (S (T [n 17 0] (B 0 (W BU))) (Q [nb 4 true]))),[r 4]⟩
theorem c117:P 117=some GpW:=by kernel_rfl
end Go.Cs.Tryz
namespace Go.Cs
open Go
structure MC where
 addr:Int
 fr:Int
 ref:Int
 key:Int
 val:Int
def QB(x:MC):List CV:=[.i x.addr,.i x.fr,.i x.ref,.i x.key,.i x.val]
def Hp.MK(s:Hp)(a:Int):Bool:=match s.obj a with
 |some o=>o.refs.length==3&&(o.data.length==1&&o.kd==2)
 |none=>false
def Hp.MX(s:Hp)(b:Nat)(a:Int):Bool:=s.MK a&&(decide (1≤(s.Kh a 0).1)&&(s.Kh a 0).1.tmod 8==(b:Int))
def Hp.Gds(s:Hp)(fr rf:Int):MC:=⟨(s.Jq fr rf).1,fr,rf,(s.Jq (s.Jq fr rf).1 0).1,(s.Jq (s.Jq fr rf).1 1).1⟩
def Hp.chain(s:Hp)(b:Nat):Nat→Int→Int→List Int→List MC×List Int×Bool
 |0,_,_,seen=>([],seen,false)
 |q+1,fr,rf,seen=>
  if(s.Jq fr rf).1=0 then([],seen,true)
  else if s.MX b (s.Jq fr rf).1=true∧(s.Jq fr rf).1∉seen then
   (s.Gds fr rf::(s.chain b q (s.Jq fr rf).1 2 (seen++[(s.Jq fr rf).1])).1,(s.chain b q (s.Jq fr rf).1 2 (seen++[(s.Jq fr rf).1])).2)
  else([],seen,false)
def Hp.tabs(s:Hp)(head:Int):Nat→Nat→List Int→List MC×Bool
 |0,_,_=>([],true)
 |q+1,b,seen=>
  if(s.chain b (4097-seen.length) head b seen).2.2=true then
   ((s.chain b (4097-seen.length) head b seen).1++(s.tabs head q (b+1) (s.chain b (4097-seen.length) head b seen).2.1).1,(s.tabs head q (b+1) (s.chain b (4097-seen.length) head b seen).2.1).2)
  else((s.chain b (4097-seen.length) head b seen).1,false)
def Hp.walk(s:Hp)(head:Int):List MC×Bool:=s.tabs head 8 0 []
theorem Hp.YV{s:Hp}{b q:Nat}{fr rf:Int}{seen:List Int}:s.chain b (q+1) fr rf seen=if(s.Jq fr rf).1=0 then([],seen,true)
 else if s.MX b (s.Jq fr rf).1=true∧(s.Jq fr rf).1∉seen then
  (s.Gds fr rf::(s.chain b q (s.Jq fr rf).1 2 (seen++[(s.Jq fr rf).1])).1,(s.chain b q (s.Jq fr rf).1 2 (seen++[(s.Jq fr rf).1])).2)
 else([],seen,false):=rfl
theorem Gkf{H:Gb}{r d k:Nat}:OE true 3 (.agg [.i r,.i d,.i k]) (.agg [.int .i64 3,.int .i64 1,.int .i64 2]) H=some (.bool (!(r==3&&(d==1&&k==2))),H):=by
 have e1:∀a b:Nat,((a:Int)==(b:Int))=(a==b):=fun a b=>by rw[Bool.eq_iff_iff];simp;omega
 have h3:=e1 r 3
 have h1:=e1 d 1
 have h2:=e1 k 2
 simp only[OE,Nv,List.length_cons,List.length_nil,if_true,Option.map_some,Bool.and_true]
 rw[←h3,←h1,←h2];rfl
end Go.Cs
namespace Go.Cs.Tryz
open Go Go.Cs
section
variable {H : Gb} {hb : Nat} {s : Hp} {L : GD}
theorem Hp.EF{s:Hp}(hs:QS s)(a i:Int):(s.Jq a i).1=0∨s.has (s.Jq a i).1=true:=by
 unfold Hp.Jq
 cases h:s.obj a with
 |none=>exact .inl rfl
 |some o=>
  dsimp only
  split
  ·rename_i c
   rw[Qc]
   cases e:o.refs[i.toNat]? with
   |none=>exact .inl rfl
   |some x=>exact hs o (Hp.Jy h).1 x (JX e)
  ·exact .inl rfl
structure EY(N f:Nat)(caps:List CV)(hb:Nat)(s:Hp)(L:GD)(all:List MC)(cont:Nat→Bool)(Inv Fin:Nat→(Nat→Prop)→Gb→Prop):Prop where
 lt:f<1000000
 ph:∀i W H,Inv i W H→PH H hb s L
 gr:∀i W H H' m,Inv i W H→N≤m→¬W m→Keeps H H' (·=m)→Inv i W H'
 go:∀i W H x,all[i]?=some x→N≤H.length→Inv i W H→∃W' H',run P f (.agg (QB x)::caps) H=some (.bool (cont i),H')∧Keeps H H' W∧(∀c,W' c→W c∨H.length≤c)∧(cont i=true→Inv (i+1) W' H')∧(cont i=false→Fin i W' H')
structure AW(H:Gb)(N M hb:Nat)(s:Hp)(head:Int)(c2 mb:Nat)(W0:Nat→Prop)(cont:Nat→Bool)(Inv:Nat→(Nat→Prop)→Gb→Prop)(i:Nat)(seen:List Int)(H':Gb):Prop where
 inv:∃W,Inv i W H'∧¬W mb∧¬W c2∧∀c,W c→W0 c∨H.length≤c
 kp:Keeps H H' (fun c=>W0 c∨c=mb)
 t2:H'[c2]?=some ⟨[.ptr hb 0,.i head],.rw,0⟩
 ks:N8 H' mb s seen
 on:∀j,j<i→cont j=true
 le:i≤M
theorem GgA{N f:Nat}{caps:List CV}{all:List MC}{cont:Nat→Bool}{Inv Fin:Nat→(Nat→Prop)→Gb→Prop}(k:s.Ok)(hs:QS s)(y:EY N f caps hb s L all cont Inv Fin)
  {head:Int}(hhd:head≤9223372036854775807){c2 mb b:Nat}{W0:Nat→Prop}(hN:N≤c2∧N≤mb∧c2≠mb∧c2<H.length∧mb<H.length)(hb8:b<8)(h0:s.has 0=false)
  {i0:Nat}{Qr:List Int}{rest:List MC}{H1:Gb}(a0:AW H N all.length hb s head c2 mb W0 cont Inv i0 Qr H1)(hd0:all.drop i0=(s.chain b (4097-Qr.length) head b Qr).1++rest)
  {E0:Env}(e01:E0 1=.func f caps)(e02:E0 2=.ptr c2 0)(e05:E0 5=.GU mb)(e06:E0 6=.i b)(e07:E0 7=.i head)(e08:E0 8=.i b){r:Option (CX×Env×Gb)}(hr:den P (.loop Ua) E0 H1=r):
  ∃x E' H',r=some (x,E',H')∧(∀t,t∉wr Ua→E' t=E0 t)∧
   (
    (x=.exit 2∧(s.chain b (4097-Qr.length) head b Qr).2.2=true∧∃i,AW H N all.length hb s head c2 mb W0 cont Inv i (s.chain b (4097-Qr.length) head b Qr).2.1 H'∧all.drop i=rest)∨
    (x=.ret∧E' 4=.bool false∧(s.chain b (4097-Qr.length) head b Qr).2.2=false∧∃i seen,AW H N all.length hb s head c2 mb W0 cont Inv i seen H'∧all.drop i=rest)∨
    (x=.ret∧E' 4=.bool true∧∃i W,i<all.length∧(∀j,j<i→cont j=true)∧cont i=false∧Fin i W H'∧Keeps H H' (fun c=>W0 c∨c=mb))):=by
 obtain⟨x',E',H',e,-,hf,fr⟩:=Gy (p:=P) (c:=Ua) (E0:=E0) (H0:=H1)
  (fun q E H'=>∃(i:Nat)(seen:List Int)(fr rf:Int),AW H N all.length hb s head c2 mb W0 cont Inv i seen H'∧q=4097-seen.length∧fr≤9223372036854775807∧E 7=.i fr∧E 8=.i rf∧
   all.drop i=(s.chain b (4097-seen.length) fr rf seen).1++rest∧(s.chain b (4097-seen.length) fr rf seen).2=(s.chain b (4097-Qr.length) head b Qr).2)
  (fun x E' H'=>((x=.exit 2∧(s.chain b (4097-Qr.length) head b Qr).2.2=true∧∃i,AW H N all.length hb s head c2 mb W0 cont Inv i (s.chain b (4097-Qr.length) head b Qr).2.1 H'∧all.drop i=rest)∨
    (x=.ret∧E' 4=.bool false∧(s.chain b (4097-Qr.length) head b Qr).2.2=false∧∃i seen,AW H N all.length hb s head c2 mb W0 cont Inv i seen H'∧all.drop i=rest)∨
    (x=.ret∧E' 4=.bool true∧∃i W,i<all.length∧(∀j,j<i→cont j=true)∧cont i=false∧Fin i W H'∧Keeps H H' (fun c=>W0 c∨c=mb)))) (by
   rintro q E H' hE ⟨i,seen,fr,rf,a,rfl,hfr,e7,e8,hd,hc⟩
   have e1:=(hE 1 dK).trans e01
   have e2:=(hE 2 dK).trans e02
   have e5:=(hE 5 dK).trans e05
   have e6:=(hE 6 dK).trans e06
   obtain⟨W,hI,nW1,nW2,hWn⟩:=a.inv
   have t2:=a.t2
   have few:=a.ks.few k
   have p:=y.ph _ _ _ hI
   obtain⟨X1,r1,g1⟩:=KF p k fr rf hfr
   unfold Uj at r1
   obtain⟨ad,had⟩:∃ad,ad=(s.Jq fr rf).1:=⟨_,rfl⟩
   have hq:4097-seen.length=(4097-(seen.length+1))+1:=by omega
   rw[hq]at hd hc
   rw[Hp.YV]at hd hc
   have hent:s.Gds fr rf=⟨ad,fr,rf,(s.Jq ad 0).1,(s.Jq ad 1).1⟩:=by rw[had];rfl
   rw[hent]at hd
   rw[←had]at hd hc r1
   have step:∀Y,Gr H' Y→AW H N all.length hb s head c2 mb W0 cont Inv i seen Y:=fun Y g=>⟨⟨W,y.gr i W H' Y mb hI hN.2.1 nW1 (Gr.mb g mb),nW1,nW2,hWn⟩,a.kp.trans (g.weaken fun _ h=>h.elim),g.get t2,a.ks.frame (g.keep mb a.ks.m.lt fun h=>h),a.on,a.le⟩
   by_cases c0:ad=0
   · rw[if_pos c0]at hd hc
     have c0':(ad==0)=true:=by rw[c0];rfl
     have aS:=step X1 g1
     apply Gl (x:=.exit 2)
     ·simp(disch:=first|exact dz|fail) only[simprocAttr,Gc,↓reduceIte,Ua,e1,e2,e7,e8,t2,r1,c0']
      rfl
     ·simp
     ·left
      rw[←hc]
      exact⟨rfl,rfl,i,aS,hd⟩
   rw[if_neg c0]at hd hc
   have c0':(ad==0)=false:=by rw[VZ];exact c0
   have hhas:s.has ad=true:=by rcases Hp.EF hs fr rf with h|h<;>rw[←had]at h;exact absurd h c0;exact h
   obtain⟨o,ho⟩:=Hp.J8.1 hhas
   have halt:=k.has_lt hhas
   have hle:ad≤9223372036854775807:=by omega
   have hok:=k.ob o (Hp.Jy ho).1
   have hnr:=hok.nr
   have hnd:=hok.nd
   obtain⟨X2,r2,g2⟩:=NA (p.gr g1) k ad hle
   have hsA:s.JR ad=(Je o.refs.length o.data.length o.kd,0):=by unfold Hp.JR;rw[ho]
   rw[hsA]at r2
   obtain⟨Y2,hY2⟩:∃X:Gb,X=X2++[⟨Je o.refs.length o.data.length o.kd,.rw,0⟩]:=⟨_,rfl⟩
   have gY2:Gr X2 Y2:=by rw[hY2];exact Gr.app _ _
   have t11:Y2[X2.length]?=some ⟨Je o.refs.length o.data.length o.kd,.rw,0⟩:=by rw[hY2];simp
   have g12:=(g1.trans g2).trans gY2
   obtain⟨X3,r3,g3⟩:=EW (p.gr g12) k ad 0 hle
   unfold Uj at r3
   have r3':run P 77 [.ptr hb 0,.i ad,.int .i64 0] Y2=some (.Ju [.i (s.Kh ad 0).1,.i (s.Kh ad 0).2],X3):=r3
   obtain⟨d0,hd0⟩:∃d0,d0=(s.Kh ad 0).1:=⟨_,rfl⟩
   rw[←hd0]at r3'
   have g13:Gr H' X3:=g12.trans g3
   have aS:=step X3 g13
   have tA:=g1.get t2
   have tB:=Gr.get g12 t2
   have tC:=Gr.get g13 t2
   have Gac:=g3.get t11
   have hget:=aS.ks.get ad
   have hE3:=fun X=>Gkf (H:=X) (r:=o.refs.length) (d:=o.data.length) (k:=o.kd)
   unfold Je at r2 t11 Gac hY2
   have hsE:s.MK ad=(o.refs.length==3&&(o.data.length==1&&o.kd==2)):=by unfold Hp.MK;rw[ho]
   have bad:¬(s.MX b ad=true∧ad∉seen)→∃E3,den P Ua E H'=some (.ret,E3,X3)∧E3 4=.bool false:=by
     intro hn
     by_cases q1:(o.refs.length==3&&(o.data.length==1&&o.kd==2))=true
     rotate_left
     ·have q1':(!(o.refs.length==3&&(o.data.length==1&&o.kd==2)))=true:=by rw[Bool.eq_false_iff.2 q1];rfl
      simp(disch:=first|exact dz|fail) only[simprocAttr,Gc,↓reduceIte,Ua,e1,e2,e7,e8,t2,r1,c0',tA,r2,G9,Gs,Gw,GV,Gq,splice]
      rw[←hY2]
      simp(disch:=first|exact dz|fail) only[simprocAttr,Gc,↓reduceIte,e5,e6,tB,r3',Gac,hE3,q1',show((0:Int) != 0)=false from rfl]
      exact⟨_,rfl,uA⟩
     have q1':(!(o.refs.length==3&&(o.data.length==1&&o.kd==2)))=false:=by rw[q1];rfl
     by_cases q2:ad∈seen
     ·rw[GK q2]at hget
      simp(disch:=first|exact dz|fail) only[simprocAttr,Gc,↓reduceIte,Ua,e1,e2,e7,e8,t2,r1,c0',tA,r2,G9,Gs,Gw,GV,Gq,splice]
      rw[←hY2]
      simp(disch:=first|exact dz|fail) only[simprocAttr,Gc,↓reduceIte,e5,e6,tB,r3',Gac,hE3,q1',show((0:Int) != 0)=false from rfl,JA,hget]
      exact⟨_,rfl,uA⟩
     rw[GC q2]at hget
     by_cases q3:d0<1
     ·have q3':decide (d0<1)=true:=GK q3
      simp(disch:=first|exact dz|fail) only[simprocAttr,Gc,↓reduceIte,Ua,e1,e2,e7,e8,t2,r1,c0',tA,r2,G9,Gs,Gw,GV,Gq,splice]
      rw[←hY2]
      simp(disch:=first|exact dz|fail) only[simprocAttr,Gc,↓reduceIte,e5,e6,tB,r3',Gac,hE3,q1',show((0:Int) != 0)=false from rfl,JA,hget,q3']
      exact⟨_,rfl,uA⟩
     have q3':decide (d0<1)=false:=GC q3
     have q4:(d0.tmod 8 != (b:Int))=true:=by
      rw[bne_iff_ne]
      intro h4
      refine hn ⟨?_,q2⟩
      unfold Hp.MX
      rw[hsE,q1,←hd0,h4,GK oM]
      simp
     simp(disch:=first|exact dz|fail) only[simprocAttr,Gc,↓reduceIte,Ua,e1,e2,e7,e8,t2,r1,c0',tA,r2,G9,Gs,Gw,GV,Gq,splice]
     rw[←hY2]
     simp(disch:=first|exact dz|fail) only[simprocAttr,Gc,↓reduceIte,e5,e6,tB,r3',Gac,hE3,q1',show((0:Int) != 0)=false from rfl,JA,hget,q3',GA,q4]
     exact⟨_,rfl,uA⟩
   by_cases cg:s.MX b ad=true∧ad∉seen
   · rw[if_pos cg]at hd hc
     dsimp only at hd hc
     have cg1:=cg.1
     unfold Hp.MX at cg1
     rw[hsE,←hd0]at cg1
     obtain⟨q1,q34⟩:=Bool.and_eq_true_iff.1 cg1
     obtain⟨q3,q4⟩:=Bool.and_eq_true_iff.1 q34
     rw[decide_eq_true_iff]at q3
     rw[beq_iff_eq]at q4
     have q1':(!(o.refs.length==3&&(o.data.length==1&&o.kd==2)))=false:=by rw[q1];rfl
     have q3':decide (d0<1)=false:=GC oM
     have q4':(d0.tmod 8 != (b:Int))=false:=by rw[q4];simp
     rw[GC cg.2]at hget
     obtain⟨X4,m1,k4,ks4,l4⟩:=aS.ks.add hhas cg.2
     have k04:Keeps H' X4 (·=mb):=(Gr.mb g13 mb).trans k4
     have lH:=a.kp.len
     have l13:=g13.len
     have t24:X4[c2]?=_:=(k4.keep c2 (Gd tC) hN.2.2.1).trans tC
     have stepM:∀Y,Keeps H' Y (·=mb)→Inv i W Y:=fun Y g=>y.gr i W H' Y mb hI hN.2.1 nW1 g
     obtain⟨Y4,hY4⟩:∃X:Gb,X=X4++[⟨[.i ad,.i fr,.i rf,.i 0,.i 0],.rw,0⟩]:=⟨_,rfl⟩
     have gY4:Gr X4 Y4:=by rw[hY4];exact Gr.app _ _
     have t15:Y4[X4.length]?=some ⟨[.i ad,.i fr,.i rf,.i 0,.i 0],.rw,0⟩:=by rw[hY4];simp
     obtain⟨X5,r5,g5⟩:=KF (y.ph _ _ _ (stepM Y4 (k04.trans (Gr.mb gY4 mb)))) k ad 0 hle
     unfold Uj at r5
     have r5':run P 76 [.ptr hb 0,.i ad,.int .i64 0] Y4=some (.Ju [.i (s.Jq ad 0).1,.i (s.Jq ad 0).2],X5):=r5
     have Gj8:=g5.get t15
     have g45:=gY4.trans g5
     obtain⟨Y5,hY5⟩:∃X:Gb,X=X5.set X4.length ⟨[.i ad,.i fr,.i rf,.i (s.Jq ad 0).1,.i 0],.rw,0⟩:=⟨_,rfl⟩
     have gY5:Gr X4 Y5:=by rw[hY5];exact Keeps.set (w:=fun _=>False) g45 (.inr (Nat.le_refl _)) _
     have Gp2:Y5[X4.length]?=some ⟨[.i ad,.i fr,.i rf,.i (s.Jq ad 0).1,.i 0],.rw,0⟩:=by rw[hY5,KI (Gd Gj8)]
     obtain⟨X6,r6,g6⟩:=KF (y.ph _ _ _ (stepM Y5 (k04.trans (Gr.mb gY5 mb)))) k ad 1 hle
     unfold Uj at r6
     have r6':run P 76 [.ptr hb 0,.i ad,.int .i64 1] Y5=some (.Ju [.i (s.Jq ad 1).1,.i (s.Jq ad 1).2],X6):=r6
     have t156:=g6.get Gp2
     have g46:=gY5.trans g6
     obtain⟨Y6,hY6⟩:∃X:Gb,X=X6.set X4.length ⟨[.i ad,.i fr,.i rf,.i (s.Jq ad 0).1,.i (s.Jq ad 1).1],.rw,0⟩:=⟨_,rfl⟩
     have gY6:Gr X4 Y6:=by rw[hY6];exact Keeps.set (w:=fun _=>False) g46 (.inr (Nat.le_refl _)) _
     have Gif:Y6[X4.length]?=some ⟨[.i ad,.i fr,.i rf,.i (s.Jq ad 0).1,.i (s.Jq ad 1).1],.rw,0⟩:=by rw[hY6,KI (Gd t156)]
     have k06:Keeps H' Y6 (·=mb):=k04.trans (Gr.mb gY6 mb)
     have hx:all[i]?=some ⟨ad,fr,rf,(s.Jq ad 0).1,(s.Jq ad 1).1⟩:=by
      have h0:(all.drop i)[0]?=all[i]?:=by rw[Yo];rfl
      rw[←h0,hd];rfl
     have l06:=k06.len
     obtain⟨W',X7,r7,k7,w7,i7,f7⟩:=y.go i W Y6 _ hx oM (stepM Y6 k06)
     unfold QB at r7
     dsimp only at r7
     have h2t:Y6[c2]?=_:=(k06.keep c2 (Gd t2) hN.2.2.1).trans t2
     have tq4:Y4[c2]?=_:=gY4.get t24
     have tq5:Y5[c2]?=_:=gY5.get t24
     have tx5:X5[c2]?=_:=Gr.get g45 t24
     have nmb:¬W' mb:=fun h=>by rcases w7 mb h with h|h;exact nW1 h;omega
     have nc2:¬W' c2:=fun h=>by rcases w7 c2 h with h|h;exact nW2 h;omega
     have kH7:Keeps H X7 (fun c=>W0 c∨c=mb):=⟨by have:=k7.len;omega,fun c hc hn=>by
      rw[k7.keep c oM (fun h=>by rcases hWn c h with h|h;exact hn (.inl h);omega),k06.keep c oM (fun h=>hn (.inr h)),a.kp.keep c hc hn]⟩
     have hyl:=y.lt
     cases hcn:cont i with
     |true=>
      rw[hcn]at r7
      apply Gt (k':=4097-(seen.length+1))
      ·simp(disch:=first|exact dz|fail) only[simprocAttr,Gc,↓reduceIte,Ua,e1,e2,e7,e8,t2,r1,c0',tA,r2,G9,Gs,Gw,GV,Gq,splice]
       rw[←hY2]
       simp(disch:=first|exact dz|fail) only[simprocAttr,Gc,↓reduceIte,e1,e2,e5,e6,e7,e8,tB,r3',Gac,hE3,q1',JA,hget,q3',GA,q4',show((0:Int) != 0)=false from rfl,Ue,m1,t24,fill,splice,and_self,G9,Gs,Gw,GV,Gq]
       rw[←hY4]
       simp(disch:=first|exact dz|fail) only[simprocAttr,Gc,↓reduceIte,e1,e2,tq4,r5',Gj8,tx5]
       rw[←hY5]
       simp(disch:=first|exact dz|fail) only[simprocAttr,Gc,↓reduceIte,e1,e2,tq5,r6',t156]
       rw[←hY6]
       simp(disch:=first|exact dz|fail) only[simprocAttr,Gc,↓reduceIte,e1,Gif,Jd,JF,r7]
       rfl
      ·omega
      ·refine⟨i+1,seen++[ad],ad,2,⟨⟨W',i7 hcn,nmb,nc2,fun c h=>?_⟩,kH7,?_,?_,fun j hj=>?_,Gd hx⟩,by rw[Nq];rfl,hle,uA,uA,?_,?_⟩
       ·rcases w7 c h with h|h
        ·exact hWn c h
        ·right;omega
       ·rw[k7.keep c2 (Gd h2t) nW2,h2t]
       ·refine ks4.frame ?_
        rw[k7.keep mb oM nW1,gY6.keep mb ks4.m.lt fun h=>h]
       ·rcases QU j i with h|h
        ·exact a.on j h
        ·rw[show j=i by omega];exact hcn
       ·rw[Nq,List.length_singleton]
        have:all.drop (i+1)=(all.drop i).tail:=by rw[List.tail_drop]
        rw[this,hd];rfl
       ·rw[Nq,List.length_singleton];exact hc
     |false=>
      rw[hcn]at r7
      apply Gl (x:=.ret)
      ·simp(disch:=first|exact dz|fail) only[simprocAttr,Gc,↓reduceIte,Ua,e1,e2,e7,e8,t2,r1,c0',tA,r2,G9,Gs,Gw,GV,Gq,splice]
       rw[←hY2]
       simp(disch:=first|exact dz|fail) only[simprocAttr,Gc,↓reduceIte,e1,e2,e5,e6,e7,e8,tB,r3',Gac,hE3,q1',JA,hget,q3',GA,q4',show((0:Int) != 0)=false from rfl,Ue,m1,t24,fill,splice,and_self,G9,Gs,Gw,GV,Gq]
       rw[←hY4]
       simp(disch:=first|exact dz|fail) only[simprocAttr,Gc,↓reduceIte,e1,e2,tq4,r5',Gj8,tx5]
       rw[←hY5]
       simp(disch:=first|exact dz|fail) only[simprocAttr,Gc,↓reduceIte,e1,e2,tq5,r6',t156]
       rw[←hY6]
       simp(disch:=first|exact dz|fail) only[simprocAttr,Gc,↓reduceIte,e1,Gif,Jd,JF,r7]
       rfl
      ·simp
      ·right;right
       exact⟨rfl,uA,i,W',Gd hx,a.on,hcn,f7 hcn,kH7⟩
   · rw[if_neg cg]at hd hc
     obtain⟨E3,d1,d2⟩:=bad cg
     apply Gl (x:=.ret) d1
     ·simp
     ·right;left
      rw[←hc]
      exact⟨rfl,d2,rfl,i,seen,aS,hd⟩) _ ⟨i0,Qr,head,b,a0,rfl,hhd,e07,e08,hd0,rfl⟩
 exact⟨x',E',H',hr.symm.trans e,fr,hf⟩
end
end Go.Cs.Tryz

namespace Go.Cs
open Go
theorem Hp.Au{s:Hp}{head:Int}{q b:Nat}{seen:List Int}:s.tabs head (q+1) b seen=
 if(s.chain b (4097-seen.length) head b seen).2.2=true then
  ((s.chain b (4097-seen.length) head b seen).1++(s.tabs head q (b+1) (s.chain b (4097-seen.length) head b seen).2.1).1,(s.tabs head q (b+1) (s.chain b (4097-seen.length) head b seen).2.1).2)
 else((s.chain b (4097-seen.length) head b seen).1,false):=rfl
end Go.Cs
namespace Go.Cs.Tryz
open Go Go.Cs
section
variable {H : Gb} {hb : Nat} {s : Hp} {L : GD}
theorem Gjx{N f:Nat}{caps:List CV}{all:List MC}{cont:Nat→Bool}{Inv Fin:Nat→(Nat→Prop)→Gb→Prop}(k:s.Ok)(hs:QS s)(y:EY N f caps hb s L all cont Inv Fin)
  {head:Int}(hhd:head≤9223372036854775807){c2 mb:Nat}{W0:Nat→Prop}(hN:N≤c2∧N≤mb∧c2≠mb∧c2<H.length∧mb<H.length)(h0:s.has 0=false)(a0:AW H N all.length hb s head c2 mb W0 cont Inv 0 [] H)(hall:all=(s.walk head).1)
  {E0:Env}(e01:E0 1=.func f caps)(e02:E0 2=.ptr c2 0)(e05:E0 5=.GU mb)(GoZ:E0 17=.i 0){r:Option (CX×Env×Gb)}(hr:den P (.loop BU) E0 H=r):
  ∃x E' H',r=some (x,E',H')∧
   (
    (x=.exit 0∧(s.walk head).2=true∧∃seen,AW H N all.length hb s head c2 mb W0 cont Inv all.length seen H')∨
    (x=.ret∧E' 4=.bool false∧(s.walk head).2=false∧∃seen,AW H N all.length hb s head c2 mb W0 cont Inv all.length seen H')∨
    (x=.ret∧E' 4=.bool true∧∃i W,i<all.length∧(∀j,j<i→cont j=true)∧cont i=false∧Fin i W H'∧Keeps H H' (fun c=>W0 c∨c=mb))):=by
 obtain⟨x',E',H',e,-,hf,fr⟩:=Gy (p:=P) (c:=BU) (E0:=E0) (H0:=H)
  (fun q E H'=>∃(j i:Nat)(seen:List Int),E 17=.i j∧j≤8∧q=8-j∧i≤all.length∧AW H N all.length hb s head c2 mb W0 cont Inv i seen H'∧all.drop i=(s.tabs head (8-j) j seen).1∧(s.tabs head (8-j) j seen).2=(s.walk head).2)
  (fun x E' H'=>((x=.exit 0∧(s.walk head).2=true∧∃seen,AW H N all.length hb s head c2 mb W0 cont Inv all.length seen H')∨
    (x=.ret∧E' 4=.bool false∧(s.walk head).2=false∧∃seen,AW H N all.length hb s head c2 mb W0 cont Inv all.length seen H')∨
    (x=.ret∧E' 4=.bool true∧∃i W,i<all.length∧(∀j,j<i→cont j=true)∧cont i=false∧Fin i W H'∧Keeps H H' (fun c=>W0 c∨c=mb)))) (by
   rintro q E H' hE ⟨j,i,seen,e17,hj,rfl,hi,a,hd,hok⟩
   have e1:=(hE 1 dK).trans e01
   have e2:=(hE 2 dK).trans e02
   have e5:=(hE 5 dK).trans e05
   have t2:=a.t2
   have full:∀i',i'≤all.length→all.drop i'=[]→i'=all.length:=fun i' h1 h2=>by
     have:=congrArg List.length h2
     simp only[List.length_drop,List.length_nil]at this
     omega
   by_cases c:j<8
   · have c':decide ((j:Int)<8)=true:=GK oM
     rw[show 8-j=(8-(j+1))+1 by omega,Hp.Au]at hd hok
     have w1:IntKind.i64.wrap ((j:Int)+1)=((j+1:Nat):Int):=Gh oM
     obtain⟨q8,hq8⟩:∃q8,q8=8-(j+1):=⟨_,rfl⟩
     rw[←hq8]at hd hok
     suffices∃E1 H1 x1,den P BU E H'=some (x1,E1,H1)∧
       (
        (x1=.normal∧E1 17=.i ((j+1:Nat):Int)∧∃i' seen',i'≤all.length∧AW H N all.length hb s head c2 mb W0 cont Inv i' seen' H1∧all.drop i'=(s.tabs head q8 (j+1) seen').1∧(s.tabs head q8 (j+1) seen').2=(s.walk head).2)∨
        (x1=.ret∧E1 4=.bool false∧(s.walk head).2=false∧∃seen,AW H N all.length hb s head c2 mb W0 cont Inv all.length seen H1)∨
        (x1=.ret∧E1 4=.bool true∧∃i W,i<all.length∧(∀j,j<i→cont j=true)∧cont i=false∧Fin i W H1∧Keeps H H1 (fun c=>W0 c∨c=mb)))by
      obtain⟨E1,H1,x1,d1,h|h|h⟩:=this
      ·obtain⟨rfl,d2,i',seen',d3,d4,d5,d6⟩:=h
       apply Gt (k':=8-(j+1)) d1
       · omega
       · exact⟨j+1,i',seen',d2,oM,rfl,d3,d4,by rw[←hq8];exact d5,by rw[←hq8];exact d6⟩
      ·obtain⟨rfl,h⟩:=h
       exact Gl (x:=.ret) d1 sM (.inr (.inl ⟨rfl,h⟩))
      ·obtain⟨rfl,h⟩:=h
       exact Gl (x:=.ret) d1 sM (.inr (.inr ⟨rfl,h⟩))
     obtain⟨rest,hrest,hok2,Gqw⟩:∃rest,all.drop i=(s.chain j (4097-seen.length) head j seen).1++rest∧((s.chain j (4097-seen.length) head j seen).2.2=true→rest=(s.tabs head q8 (j+1) (s.chain j (4097-seen.length) head j seen).2.1).1∧(s.tabs head q8 (j+1) (s.chain j (4097-seen.length) head j seen).2.1).2=(s.walk head).2)∧((s.chain j (4097-seen.length) head j seen).2.2=false→rest=[]∧(s.walk head).2=false):=by
      by_cases cc:(s.chain j (4097-seen.length) head j seen).2.2=true
      ·rw[if_pos cc]at hd hok
       exact⟨_,hd,fun _=>⟨rfl,hok⟩,fun h=>by rw[cc]at h;cases h⟩
      ·rw[if_neg cc]at hd hok
       exact⟨[],by rw[hd,List.append_nil],fun h=>absurd h cc,fun _=>⟨rfl,hok.symm⟩⟩
     simp(disch:=first|exact dz|fail) only[simprocAttr,Gc,↓reduceIte,BU,e2,e17,c',t2]
     generalize hr:den P (.loop Ua) _ _=r
     obtain⟨x1,E1,H1,rfl,fr1,h|h|h⟩:=GgA k hs y hhd hN c h0 a hrest (by simp[Gg,e1]) (by simp[Gg,e2]) (by simp[Gg,e5]) uA uA uA hr
     ·obtain⟨rfl,g1,i',g2,g3⟩:=h
      have f17:=fr1 17 dK
      simp only[Gg,Nat.reduceEqDiff,↓reduceIte,e17]at f17
      obtain⟨q1,q2⟩:=hok2 g1
      simp(disch:=first|exact dz|fail) only[simprocAttr,Gc,↓reduceIte,f17,w1]
      exact⟨_,H1,_,rfl,.inl ⟨rfl,uA,i',_,g2.le,g2,by rw[g3,q1],q2⟩⟩
     ·obtain⟨rfl,g1,g2,i',seen',g3,g4⟩:=h
      obtain⟨q1,q2⟩:=Gqw g2
      simp(disch:=first|exact dz|fail) only[simprocAttr,Gc,↓reduceIte]
      exact⟨_,H1,_,rfl,.inr (.inl ⟨rfl,g1,q2,seen',by have e:=full i' g3.le (by rw[g4,q1]);rw[e]at g3;exact g3⟩)⟩
     ·obtain⟨rfl,g1,g2⟩:=h
      simp(disch:=first|exact dz|fail) only[simprocAttr,Gc,↓reduceIte]
      exact⟨_,H1,_,rfl,.inr (.inr ⟨rfl,g1,g2⟩)⟩
   · have c':decide ((j:Int)<8)=false:=GC oM
     rw[show 8-j=0 by omega]at hd hok
     apply Gl (x:=.exit 0)
     ·simp(disch:=first|exact dz|fail) only[simprocAttr,Gc,↓reduceIte,BU,e17,c']
      rfl
     ·simp
     ·exact .inl ⟨rfl,hok.symm,seen,by have e:=full i hi hd;rw[e]at a;exact a⟩) _ ⟨0,0,[],GoZ,oM,rfl,oM,a0,by rw[hall];rfl,rfl⟩
 exact⟨x',E',H',hr.symm.trans e,hf⟩
theorem Mf{N f:Nat}{caps:List CV}{cont:Nat→Bool}{Inv Fin:Nat→(Nat→Prop)→Gb→Prop}{head:Int}(k:s.Ok)(hs:QS s)(h0:s.has 0=false)(y:EY N f caps hb s L (s.walk head).1 cont Inv Fin)
  (hhd:head≤9223372036854775807){W0:Nat→Prop}(hI:Inv 0 W0 H)(hW:∀c,W0 c→c<H.length)(hN:N≤H.length):
  ∃ok H',run P 117 [.agg [.ptr hb 0,.i head],.func f caps] H=some (.bool ok,H')∧Keeps H H' W0∧
   (
    (ok=(s.walk head).2∧(∀j,j<(s.walk head).1.length→cont j=true)∧∃W,Inv (s.walk head).1.length W H'∧∀c,W c→W0 c∨H.length≤c)∨
    (ok=true∧∃i W,i<(s.walk head).1.length∧(∀j,j<i→cont j=true)∧cont i=false∧Fin i W H')):=by
 obtain⟨X,hX⟩:∃X:Gb,X=H++[⟨[.ptr hb 0,.i head],.rw,0⟩]++[⟨[],.map,0⟩]:=⟨_,rfl⟩
 have gX:Gr H X:=by rw[hX];exact(Gr.app H _).app' _
 have lX:X.length=H.length+2:=by rw[hX];simp
 have t2:X[H.length]?=some ⟨[.ptr hb 0,.i head],.rw,0⟩:=by rw[hX];simp
 have hm:NQ X (H.length+1) (fun _=>none) []:=by
  have:=NQ.new (H++[⟨[.ptr hb 0,.i head],.rw,0⟩])
  rw[←hX]at this
  simpa using this
 have ks:N8 X (H.length+1) s []:=⟨by simpa using hm,fun x hx=>by cases hx⟩
 have a0:AW X N (s.walk head).1.length hb s head H.length (H.length+1) W0 cont Inv 0 [] X:=⟨⟨W0,y.gr 0 W0 H X (H.length+1) hI oM (fun h=>by have:=hW _ h;omega) (Gr.mb gX _),fun h=>by have:=hW _ h;omega,fun h=>by have:=hW _ h;omega,fun c h=>.inl h⟩,Keeps.refl _ _,t2,ks,fun j h=>by omega,Nat.zero_le _⟩
 rw[Gi c117 _ _ sM]
 simp(disch:=first|exact dz|fail) only[simprocAttr,Gc,↓reduceIte,Gj,BX]
 rw[←hX]
 generalize hr:den P (.loop BU) _ _=r
 obtain⟨x,E',H',rfl,h⟩:=Gjx k hs y hhd (c2:=H.length) (mb:=H.length+1) oM h0 a0 rfl uA uA uA uA hr
 have kp:∀{D:Nat→Prop},Keeps X H' (fun c=>W0 c∨c=H.length+1)→Keeps H H' W0:=fun g=>⟨Jr gX.len g.len,fun c hc hn=>by rw[g.keep c oM (fun h=>h.elim hn fun e=>by omega),gX.keep c hc fun h=>h]⟩
 have nw:∀c (W:Nat→Prop),(∀c,W c→W0 c∨X.length≤c)→W c→W0 c∨H.length≤c:=fun c W h hc=>(h c hc).imp id fun h=>by omega
 rcases h with h|h|h
 ·obtain⟨rfl,g1,seen,a⟩:=h
  obtain⟨W,i1,-,-,i2⟩:=a.inv
  refine⟨true,H',?_,kp (D:=W0) a.kp,.inl ⟨g1.symm,a.on,W,i1,fun c=>nw c W i2⟩⟩
  simp(disch:=first|exact dz|fail) only[simprocAttr,Gc,↓reduceIte]
 ·obtain⟨rfl,g0,g1,seen,a⟩:=h
  obtain⟨W,i1,-,-,i2⟩:=a.inv
  refine⟨false,H',?_,kp (D:=W0) a.kp,.inl ⟨g1.symm,a.on,W,i1,fun c=>nw c W i2⟩⟩
  simp(disch:=first|exact dz|fail) only[simprocAttr,Gc,↓reduceIte,g0]
 ·obtain⟨rfl,g0,i,W,g1,g2,g3,g4,g5⟩:=h
  refine⟨true,H',?_,kp (D:=W0) g5,.inr ⟨rfl,i,W,g1,g2,g3,g4⟩⟩
  simp(disch:=first|exact dz|fail) only[simprocAttr,Gc,↓reduceIte,g0]
end
end Go.Cs.Tryz
namespace Go.Cs.Tryz
open Go Go.Cs A
def C16:Gm:=⟨12,0,T [n 4 0,n 5 0] (Q [m 6 0,e 7 (.K7 (c (.agg [i 8,i 1,i 3]))),m 8 1,q3 9 54 6 7 8,ex 10 9 0,ex 11 9 1,m 4 10,m 5 11]),[r 4,r 5]⟩
theorem c16:P 16=some C16:=by kernel_rfl
def C38:Gm:=⟨31,0,T [n 6 0,n 7 0] (T [m 13 0,m 14 1,q2 15 116 13 14,m 12 15,ex 16 12 0,ex 17 12 1,e 8 (.new [.nilPtr,i 0]),st 2 8 16,m 9 17] (S (T [m 18 9,bk 19 .neq 18 0] (I 19 (Q [m 20 9,n 6 0,m 7 20]))) (T [lg 22 2 8,m 23 2,q2 24 121 22 23,m 21 24,ex 25 21 0,ex 26 21 1,e 10 (.new [i 0,i 0,i 0,i 0,i 0]),st 5 10 25,m 11 26] (S (T [m 27 11,no 28 27] (I 28 (Q [n 6 0,n 7 4]))) (Q [f 29 4 10,l 30 1 29,m 6 30,n 7 0]))))),[r 6,r 7]⟩
theorem c38:P 38=some C38:=by kernel_rfl
def C54:Gm:=⟨24,0,T [bo 4 1,n 6 0,n 7 0] (T [m 11 0,m 12 2,ca 13 143 [t 11,t 12,k 0],m 10 13,ex 14 10 0,ex 15 10 1,m 8 14,m 9 15] (S (T [m 16 9,bk 17 .neq 16 0] (I 17 (Q [m 18 9,n 6 0,m 7 18]))) (Q [m 19 8,lg 20 3 4,q2 21 144 19 20,ex 22 21 0,ex 23 21 1,m 6 22,m 7 23]))),[r 6,r 7]⟩
theorem c54:P 54=some C54:=by kernel_rfl
def Goy:Gm:=⟨43,0,T [e 4 (.new [.nilPtr,i 0]),n 5 0] (T [m 10 0,m 11 1,e 12 (.build [.nilPtr,i 0] [(0,1,t 10),(1,1,t 11)]),e 6 (.new [.nilPtr,i 0]),st 2 6 12] (S (T [m 13 0,q1 14 49 13,bk 15 .leq 14 0] (I 15 (Q [lg 16 2 6,st 2 4 16,n 5 1]))) (T [m 18 0,m 19 1,q2 20 75 18 19,m 17 20,ex 21 17 0,ex 22 17 1,e 7 (.new [i 0,i 0,i 0]),st 3 7 21,m 8 22] (S (T [m 23 8,bk 24 .neq 23 0] (I 24 (Q [lg 25 2 6,st 2 4 25,n 5 4]))) (T [e 9 (.new [i 0]),u (.store 1 (t 9) (k 0))] (S (S (D [⟨lg 26 3 7,0,1,0⟩,⟨e 27 (.K7 (c (.agg [i 8,i 1,i 3]))),1,0,0⟩,⟨e 28 (.eqs true 3 (t 26) (t 27)),2,0,0⟩,⟨m 29 28,3,0,0⟩,⟨gf 29 (lg 30 2 6),4,1,0⟩,⟨gf 29 (e 31 (.NY 218 [t 9])),5,0,0⟩,⟨gf 29 (q2 32 117 30 31),6,3,0⟩,⟨gf 29 (no 33 32),7,0,1⟩,⟨or 34 29 33,8,0,1⟩,⟨m 35 34,9,0,1⟩,⟨gf 35 (lg 37 2 6),11,1,1⟩,⟨gf 35 (q1 38 123 37),12,3,1⟩,⟨gf 35 (l 36 1 9),10,1,1⟩,⟨gf 35 (b 39 .neq 36 38),13,0,2⟩,⟨or 40 35 39,14,0,2⟩]) (I 40 (Q [lg 41 2 6,st 2 4 41,n 5 2]))) (Q [lg 42 2 6,st 2 4 42,n 5 0]))))))),[.cell 4 true 2,r 5]⟩
theorem c116:P 116=some Goy:=by kernel_rfl
def Goq:Gm:=⟨18,0,T [bo 2 0,bo 3 1,e 4 (.new [i 0,i 0,i 0,i 0,i 0]),nb 5 false] (T [e 6 (.new [i 0,i 0,i 0,i 0,i 0])] (T [lg 7 2 2,e 8 (.NY 219 [t 3,t 6]),q2 9 117 7 8] (S (D [⟨lg 10 5 6,0,1,0⟩,⟨l 11 1 3,1,1,0⟩,⟨bk 12 .neq 11 0,2,0,0⟩,⟨m 13 12,3,0,0⟩,⟨st 5 4 10,8,3,0⟩,⟨gt 13 (f 14 0 6),4,0,0⟩,⟨gt 13 (l 15 1 14),5,1,0⟩,⟨gt 13 (bk 16 .neq 15 0),6,0,0⟩,⟨an 17 13 16,7,0,0⟩,⟨m 5 17,9,0,1⟩]) .ret))),[.cell 4 true 5,r 5]⟩
theorem Gqa:P 121=some Goq:=by kernel_rfl
def Gp5:Gm:=⟨14,0,T [bo 1 0,n 2 0] (T [f 6 0 1,l 7 1 6,f 8 1 1,l 9 1 8,ca 10 77 [t 7,t 9,k 0],m 5 10,ex 11 5 0,ex 12 5 1,m 3 11,m 4 12] (Q [m 13 3,m 2 13])),[r 2]⟩
theorem Gqt:P 123=some Gp5:=by kernel_rfl
def Gn6:Gm:=⟨6,0,T [bo 2 0,nb 3 false] (T [l 4 1 1,bk 5 .add 4 1,st 1 1 5] (Q [nb 3 true])),[r 3]⟩
theorem c218:P 218=some Gn6:=by kernel_rfl
def GoJ:Gm:=⟨13,0,T [bo 3 0,nb 4 false] (S (T [f 5 3 3,l 6 1 5,l 7 1 1,b 8 .eql 6 7] (I 8 (R [lg 9 5 3,st 5 2 9]))) (Q [f 10 0 2,l 11 1 10,bk 12 .eql 11 0,m 4 12])),[r 4]⟩
theorem Gnr:P 219=some GoJ:=by kernel_rfl
end Go.Cs.Tryz
namespace Go.Cs
open Go
theorem Gjw{H:Gb}{r d k a b c:Int}:OE true 3 (.agg [.i r,.i d,.i k]) (.agg [.int .i64 a,.int .i64 b,.int .i64 c]) H=some (.bool (!(r==a&&(d==b&&k==c))),H):=by
 simp only[OE,Nv,List.length_cons,List.length_nil,if_true,Option.map_some,Bool.and_true]
theorem Il{E:Env}{H:Gb}{g:Bool}{n:Nat}{x y:J7}:GL (.eqs g n x y) E H=(OE g n (E.ev x) (E.ev y) H).bind fun p=>okV p.1:=by
 simp only[GL,OE]
 cases E.ev x<;>cases E.ev y<;>first|rfl|skip
 rename_i xs ys
 dsimp only
 by_cases h:xs.length=n
 ·rw[if_pos h,if_pos h];cases Nv xs ys<;>rfl
 ·rw[if_neg h,if_neg h];rfl
def Hp.ofE(s:Hp)(head:Int):Int:=match s.obj head with
 |none=>4
 |some o=>if(o.refs.length==8&&(o.data.length==1&&o.kd==3))=true∧(s.walk head).2=true∧((s.walk head).1.length:Int)=(s.Kh head 0).1 then 0 else 2
theorem Bu{s:Hp}{b:Nat}{x:MC}:∀{q:Nat}{fr rf:Int}{seen:List Int},x∈(s.chain b q fr rf seen).1→x.addr≠0∧s.has x.addr=true
 |0,_,_,_,h=>by cases h
 |q+1,fr,rf,seen,h=>by
  rw[Hp.YV]at h
  split at h
  ·cases h
  ·rename_i h0
   split at h
   ·rename_i hg
    rcases List.mem_cons.1 h with rfl|h
    ·refine⟨h0,?_⟩
     have h1:=(Bool.and_eq_true_iff.1 hg.1).1
     unfold Hp.MK at h1
     rw[Hp.J8]
     split at h1
     ·rename_i o ho;exact⟨o,ho⟩
     ·cases h1
    ·exact Bu h
   ·cases h
theorem Az{s:Hp}{head:Int}{x:MC}:∀{q b:Nat}{seen:List Int},x∈(s.tabs head q b seen).1→x.addr≠0∧s.has x.addr=true
 |0,_,_,h=>by cases h
 |q+1,b,seen,h=>by
  rw[Hp.Au]at h
  split at h
  ·rcases NG.1 h with h|h
   ·exact Bu h
   ·exact Az h
  ·exact Bu h
def FC(l:List MC)(key:Int):Option MC:=l.find? fun x=>x.key==key
end Go.Cs
namespace Go.Cs.Tryz
open Go Go.Cs
section
variable {H : Gb} {hb : Nat} {s : Hp} {L : GD}
theorem EO(p:PH H hb s L)(k:s.Ok){head:Int}(hhd:head≤9223372036854775807):∃H',run P 123 [.agg [.ptr hb 0,.i head]] H=some (.i (s.Kh head 0).1,H')∧Gr H H':=by
 obtain⟨X,hX⟩:∃X:Gb,X=H++[⟨[.ptr hb 0,.i head],.rw,0⟩]:=⟨_,rfl⟩
 have gX:Gr H X:=by rw[hX];exact Gr.app H _
 have tX:X[H.length]?=some ⟨[.ptr hb 0,.i head],.rw,0⟩:=by rw[hX];simp
 obtain⟨H1,h1,g1⟩:=EW (p.gr gX) k head 0 hhd
 unfold Uj at h1
 have h1':run P 77 [.ptr hb 0,.i head,.int .i64 0] X=some (.Ju [.i (s.Kh head 0).1,.i (s.Kh head 0).2],H1):=h1
 refine⟨H1,?_,gX.trans g1⟩
 rw[Gi Gqt _ _ sM]
 simp(disch:=first|exact dz|fail) only[simprocAttr,Gc,↓reduceIte,Gv]
 rw[←hX]
 simp(disch:=first|exact dz|fail) only[simprocAttr,Gc,↓reduceIte,tX,h1']
theorem GkV(p:PH H hb s L){nb N:Nat}(hnb:nb<N∧nb∉L.all hb)(hlt:∀c∈L.all hb,c<N)(all:List MC)(hal:all.length≤100000):
  EY N 218 [.ptr nb 0] hb s L all (fun _=>true) (fun i W H=>PH H hb s L∧H[nb]?=some ⟨[.i (i:Nat)],.rw,0⟩∧W=(·=nb)) (fun _ _ _=>False) where
 lt:=by decide
 ph:=fun i W H h=>h.1
 gr:=fun i W H H' m h hm _ g=>⟨h.1.frame fun c hc=>g.keep c (h.1.lt c hc) fun e=>by have:=hlt c hc;omega,(g.keep nb (Gd h.2.1) oM).trans h.2.1,h.2.2⟩
 go:=fun i W H x hx hN h=>by
  obtain⟨h1,h2,rfl⟩:=h
  have hl:=Gd hx
  have w1:IntKind.i64.wrap ((i:Int)+1)=((i+1:Nat):Int):=Gh oM
  refine⟨(·=nb),H.set nb ⟨[.i ((i+1:Nat):Int)],.rw,0⟩++[⟨QB x,.rw,0⟩],?_,(Keeps.set (w:=fun c=>c=nb) (Keeps.refl _ _) (.inl rfl) _).app' _,fun c h=>.inl h,fun _=>⟨(h1.frame fun c hc=>by rw[JU];rintro rfl;exact hnb.2 hc).app _,by rw[QN (by rw[List.length_set];exact Gd h2),KI (Gd h2)],rfl⟩,fun h=>by cases h⟩
  rw[Gi c218 _ _ sM]
  unfold QB
  simp(disch:=first|exact dz|fail) only[simprocAttr,Gc,↓reduceIte,Gj,h2,w1]
theorem Hp.Ok.Ge1{s:Hp}(k:s.Ok){head:Int}:(s.walk head).1.length≤50000:=by
 have h1:∀{q b:Nat}{fr rf:Int}{seen:List Int},(s.chain b q fr rf seen).1.length≤q:=by
  intro q
  induction q with
  |zero=>intros;exact Nat.le_refl _
  |succ q ih=>
   intro b fr rf seen
   rw[Hp.YV]
   split
   ·exact Nat.zero_le _
   ·split
    ·have:=ih (b:=b) (fr:=(s.Jq fr rf).1) (rf:=2) (seen:=seen++[(s.Jq fr rf).1])
     simp only[List.length_cons];omega
    ·exact Nat.zero_le _
 have h2:∀{q b:Nat}{seen:List Int},(s.tabs head q b seen).1.length≤q*4097:=by
  intro q
  induction q with
  |zero=>intros;exact Nat.zero_le _
  |succ q ih=>
   intro b seen
   rw[Hp.Au]
   have a1:=h1 (q:=4097-seen.length) (b:=b) (fr:=head) (rf:=b) (seen:=seen)
   split
   ·have a2:=ih (b:=b+1) (seen:=(s.chain b (4097-seen.length) head b seen).2.1)
    simp only[Nq];omega
   ·dsimp only;omega
 have:=h2 (q:=8) (b:=0) (seen:=[])
 unfold Hp.walk;omega
theorem Rq(p:PH H hb s L)(k:s.Ok)(hs:QS s)(h0:s.has 0=false){head:Int}(hhd:head≤9223372036854775807):∃H',run P 116 [.ptr hb 0,.i head] H=some (.Ju [.agg [.ptr hb 0,.i head],.i (s.ofE head)],H')∧Gr H H':=by
 have hnb:=k.nb
 obtain⟨X,hX⟩:∃X:Gb,X=H++[⟨[.nilPtr,.i 0],.rw,0⟩]++[⟨[.ptr hb 0,.i head],.rw,0⟩]:=⟨_,rfl⟩
 have gX:Gr H X:=by rw[hX];exact(Gr.app H _).app' _
 have t4:X[H.length]?=some ⟨[.nilPtr,.i 0],.rw,0⟩:=by rw[hX];simp
 have t6:X[H.length+1]?=some ⟨[.ptr hb 0,.i head],.rw,0⟩:=by rw[hX];simp
 have lX:X.length=H.length+2:=by rw[hX];simp
 have h1:=KD (p.gr gX) k
 have c1:decide ((s.blk.length:Int)≤0)=false:=GC oM
 obtain⟨H1,h2,g1⟩:=NA (p.gr gX) k head hhd
 have u4:=g1.get t4
 have u6:=g1.get t6
 have Ou:X=H++[⟨[.nilPtr,.int .i64 0],.rw,0⟩]++[⟨[.ptr hb 0,.i head],.rw,0⟩]:=hX
 rw[Gi c116 _ _ sM]
 have lu4:=Gd u4
 have lu6:=Gd u6
 have ln4:cellsOf .nilPtr=[.nilPtr]:=rfl
 cases ho:s.obj head with
 |none=>
  have e:s.JR head=(Je 0 0 0,4):=by unfold Hp.JR;rw[ho]
  have hof:s.ofE head=4:=by unfold Hp.ofE;rw[ho]
  rw[hof]
  rw[e]at h2
  unfold Je at h2
  refine⟨(H1.set H.length ⟨[.ptr hb 0,.i head],.rw,0⟩)++[⟨Je 0 0 0,.rw,0⟩],?_,(Keeps.set (w:=fun _=>False) (gX.trans g1) (.inr (Nat.le_refl _)) _).app' _⟩
  ·simp(disch:=first|exact dz|fail) only[simprocAttr,Gc,↓reduceIte,Gj,fill,splice,and_self,G9,Gs,Gw,GV,Gq,J6,ln4]
   rw[←Ou]
   simp(disch:=first|exact dz|fail) only[simprocAttr,Gc,↓reduceIte,h1,c1,h2,u6,u4,show((4:Int) != 0)=true from rfl,G9,Gs,Gw,GV,Gq,J6,splice,Ib,JV,KI (Gd u4)]
   rfl
 |some o=>
  have e:s.JR head=(Je o.refs.length o.data.length o.kd,0):=by unfold Hp.JR;rw[ho]
  have hof:s.ofE head=if(o.refs.length==8&&(o.data.length==1&&o.kd==3))=true∧(s.walk head).2=true∧((s.walk head).1.length:Int)=(s.Kh head 0).1 then 0 else 2:=by unfold Hp.ofE;rw[ho]
  rw[e]at h2
  unfold Je at h2
  have hE:=fun X=>Gjw (H:=X) (r:=o.refs.length) (d:=o.data.length) (k:=o.kd) (a:=8) (b:=1) (c:=3)
  have eE:((o.refs.length:Int)==8&&((o.data.length:Int)==1&&(o.kd:Int)==3))=(o.refs.length==8&&(o.data.length==1&&o.kd==3)):=by
   have e1:∀a b:Nat,((a:Int)==(b:Int))=(a==b):=fun a b=>by rw[Bool.eq_iff_iff];simp;omega
   rw[←e1 _ 8,←e1 _ 1,←e1 _ 3];rfl
  rw[eE]at hE
  obtain⟨X2,hX2⟩:∃X:Gb,X=H1++[⟨[.i o.refs.length,.i o.data.length,.i o.kd],.rw,0⟩]++[⟨[.i 0],.rw,0⟩]:=⟨_,rfl⟩
  have g2:Gr H1 X2:=by rw[hX2];exact(Gr.app _ _).app' _
  have t7:X2[H1.length]?=some ⟨[.i o.refs.length,.i o.data.length,.i o.kd],.rw,0⟩:=by rw[hX2];simp
  have t9:X2[H1.length+1]?=some ⟨[.i 0],.rw,0⟩:=by rw[hX2];simp
  have Jt:X2.length=H1.length+2:=by rw[hX2];simp
  have p2:=((p.gr gX).gr g1).gr g2
  have v6:=g2.get u6
  have v4:=g2.get u4
  have hlt:∀c∈L.all hb,c<X2.length:=p2.lt
  have hl1:=gX.len
  have hl2:=g1.len
  have Gpw:∀Y,Gr X2 Y→Gr H Y:=fun Y g=>((gX.trans g1).trans g2).trans g
  by_cases q1:(o.refs.length==8&&(o.data.length==1&&o.kd==3))=true
  rotate_left
  ·rw[Bool.eq_false_iff.2 q1]at hE
   rw[if_neg (fun h=>q1 h.1)]at hof
   rw[hof]
   refine⟨X2.set H.length ⟨[.ptr hb 0,.i head],.rw,0⟩,?_,Keeps.set (w:=fun _=>False) (Gpw X2 (Keeps.refl _ _)) (.inr (Nat.le_refl _)) _⟩
   simp(disch:=first|exact dz|fail) only[simprocAttr,Gc,↓reduceIte,Gj,fill,splice,and_self,G9,Gs,Gw,GV,Gq,J6,ln4]
   rw[←Ou]
   simp(disch:=first|exact dz|fail) only[simprocAttr,Gc,↓reduceIte,h1,c1,h2,u6,u4,show((0:Int) != 0)=false from rfl,G9,Gs,Gw,GV,Gq,J6,splice]
   rw[←hX2]
   simp(disch:=first|exact dz|fail) only[simprocAttr,Gc,↓reduceIte,t7,t9,v6,v4,Il,hE,G9,Gs,Gw,GV,Gq,J6,splice,Ib,JV,KI (Gd v4)]
  rw[q1]at hE
  have y:=GkV p2 (nb:=H1.length+1) (N:=X2.length) ⟨oM,fun h=>by have:=((p.gr gX).gr g1).lt _ h;omega⟩ hlt (s.walk head).1 (by have:=Hp.Ok.Ge1 k (head:=head);omega)
  obtain⟨ok,H3,h3,k3,hr⟩:=Mf k hs h0 y hhd (W0:=(·=H1.length+1)) ⟨p2,t9,rfl⟩ (fun c h=>by omega) (Nat.le_refl _)
  rcases hr with⟨e1,-,W,⟨p3,w9,-⟩,-⟩|⟨-,i,W,-,-,h,-⟩
  rotate_left
  ·cases h
  obtain⟨H4,h4,g4⟩:=EO p3 k hhd
  have w4:H3[H.length]?=_:=(k3.keep _ (Gd v4) oM).trans v4
  have w6:H3[H.length+1]?=_:=(k3.keep _ (Gd v6) oM).trans v6
  have x9:=g4.get w9
  have x6:=g4.get w6
  have x4:=g4.get w4
  have gr4:Gr H H4:=⟨by have:=k3.len;have:=g4.len;omega,fun c hc _=>by
   have:=k3.len
   rw[g4.keep c oM fun h=>h,k3.keep c oM oM,g2.keep c oM fun h=>h,g1.keep c oM fun h=>h,gX.keep c hc fun h=>h]⟩
  have gr3:Gr H H3:=⟨by have:=k3.len;omega,fun c hc _=>by
   rw[k3.keep c oM oM,g2.keep c oM fun h=>h,g1.keep c oM fun h=>h,gX.keep c hc fun h=>h]⟩
  cases hok:(s.walk head).2 with
  |false=>
   rw[hok]at e1
   subst e1
   rw[if_neg (fun h=>by rw[hok]at h;cases h.2.1)]at hof
   rw[hof]
   refine⟨H3.set H.length ⟨[.ptr hb 0,.i head],.rw,0⟩,?_,Keeps.set (w:=fun _=>False) gr3 (.inr (Nat.le_refl _)) _⟩
   simp(disch:=first|exact dz|fail) only[simprocAttr,Gc,↓reduceIte,Gj,fill,splice,and_self,G9,Gs,Gw,GV,Gq,J6,ln4]
   rw[←Ou]
   simp(disch:=first|exact dz|fail) only[simprocAttr,Gc,↓reduceIte,h1,c1,h2,u6,u4,show((0:Int) != 0)=false from rfl,G9,Gs,Gw,GV,Gq,J6,splice]
   rw[←hX2]
   simp(disch:=first|exact dz|fail) only[simprocAttr,Gc,↓reduceIte,t7,t9,v6,v4,w6,w4,Il,hE,h3,G9,Gs,Gw,GV,Gq,J6,splice,Ib,JV,KI (Gd w4)]
  |true=>
   rw[hok]at e1
   subst e1
   by_cases q2:((s.walk head).1.length:Int)=(s.Kh head 0).1
   ·rw[if_pos ⟨q1,hok,q2⟩]at hof
    rw[hof]
    have q2':(((s.walk head).1.length:Int) != (s.Kh head 0).1)=false:=by rw[q2];simp
    refine⟨H4.set H.length ⟨[.ptr hb 0,.i head],.rw,0⟩,?_,Keeps.set (w:=fun _=>False) gr4 (.inr (Nat.le_refl _)) _⟩
    simp(disch:=first|exact dz|fail) only[simprocAttr,Gc,↓reduceIte,Gj,fill,splice,and_self,G9,Gs,Gw,GV,Gq,J6,ln4]
    rw[←Ou]
    simp(disch:=first|exact dz|fail) only[simprocAttr,Gc,↓reduceIte,h1,c1,h2,u6,u4,show((0:Int) != 0)=false from rfl,G9,Gs,Gw,GV,Gq,J6,splice]
    rw[←hX2]
    simp(disch:=first|exact dz|fail) only[simprocAttr,Gc,↓reduceIte,t7,t9,v6,v4,w6,w4,w9,x9,x6,x4,Il,hE,h3,h4,q2',G9,Gs,Gw,GV,Gq,J6,splice,Ib,JV,KI (Gd x4)]
   ·rw[if_neg (fun h=>q2 h.2.2)]at hof
    rw[hof]
    have q2':(((s.walk head).1.length:Int) != (s.Kh head 0).1)=true:=by rw[bne_iff_ne];exact q2
    refine⟨H4.set H.length ⟨[.ptr hb 0,.i head],.rw,0⟩,?_,Keeps.set (w:=fun _=>False) gr4 (.inr (Nat.le_refl _)) _⟩
    simp(disch:=first|exact dz|fail) only[simprocAttr,Gc,↓reduceIte,Gj,fill,splice,and_self,G9,Gs,Gw,GV,Gq,J6,ln4]
    rw[←Ou]
    simp(disch:=first|exact dz|fail) only[simprocAttr,Gc,↓reduceIte,h1,c1,h2,u6,u4,show((0:Int) != 0)=false from rfl,G9,Gs,Gw,GV,Gq,J6,splice]
    rw[←hX2]
    simp(disch:=first|exact dz|fail) only[simprocAttr,Gc,↓reduceIte,t7,t9,v6,v4,w6,w4,w9,x9,x6,x4,Il,hE,h3,h4,q2',G9,Gs,Gw,GV,Gq,J6,splice,Ib,JV,KI (Gd x4)]
theorem Ggy(p:PH H hb s L){kb ib N:Nat}{key:Int}(hib:ib<N∧kb<N∧ib≠kb∧ib∉L.all hb)(hlt:∀c∈L.all hb,c<N)(all:List MC)(ha:∀x∈all,x.addr≠0):
  EY N 219 [.ptr kb 0,.ptr ib 0] hb s L all (fun i=>match all[i]? with|some x=>!(x.key==key)|none=>true)
   (fun i W H=>PH H hb s L∧H[kb]?=some ⟨[.i key],.rw,0⟩∧H[ib]?=some ⟨[.i 0,.i 0,.i 0,.i 0,.i 0],.rw,0⟩∧W=(·=ib))
   (fun i W H=>PH H hb s L∧H[kb]?=some ⟨[.i key],.rw,0⟩∧∃x,all[i]?=some x∧H[ib]?=some ⟨QB x,.rw,0⟩) where
 lt:=by decide
 ph:=fun i W H h=>h.1
 gr:=fun i W H H' m h hm hw g=>⟨h.1.frame fun c hc=>g.keep c (h.1.lt c hc) fun e=>by have:=hlt c hc;omega,(g.keep kb (Gd h.2.1) oM).trans h.2.1,(g.keep ib (Gd h.2.2.1) oM).trans h.2.2.1,h.2.2.2⟩
 go:=fun i W H x hx hN h=>by
  obtain⟨h1,h2,h3,rfl⟩:=h
  have hx0:=ha x (JX hx)
  have e0:(x.addr==0)=false:=by rw[VZ];exact hx0
  have l2:=Gd h2
  have l3:=Gd h3
  rw[hx]
  dsimp only
  rw[Gi Gnr _ _ sM]
  by_cases c:x.key=key
  ·have c':(x.key==key)=true:=by rw[beq_iff_eq];exact c
   rw[c']
   refine⟨(·=ib),H.set ib ⟨QB x,.rw,0⟩++[⟨QB x,.rw,0⟩],?_,(Keeps.set (w:=fun c=>c=ib) (Keeps.refl _ _) (.inl rfl) _).app' _,fun c h=>.inl h,(fun h=>by cases h),fun _=>⟨(h1.frame fun c hc=>by rw[JU];rintro rfl;exact hib.2.2.2 hc).app _,?_,x,rfl,?_⟩⟩
   ·unfold QB
    simp(disch:=first|exact dz|fail) only[simprocAttr,Gc,↓reduceIte,G8,h2,h3,c',e0,G9,Gs,Gw,GV,Gq,splice,KI l3]
   ·rw[QN (by rw[List.length_set];exact l2),JU hib.2.2.1,h2]
   ·rw[QN (by rw[List.length_set];exact l3),KI l3]
  ·have c':(x.key==key)=false:=by rw[VZ];exact c
   rw[c']
   refine⟨(·=ib),H++[⟨QB x,.rw,0⟩],?_,Keeps.app _ _ _,fun c h=>.inl h,(fun _=>⟨h1.app _,by rw[QN l2,h2],by rw[QN l3,h3],rfl⟩),fun h=>by cases h⟩
   unfold QB
   simp(disch:=first|exact dz|fail) only[simprocAttr,Gc,↓reduceIte,G8,h2,h3,c',e0,show((0:Int)==0)=true from rfl]
def RU(o:Option MC)(key:Int):CV:=match o with
 |some x=>.Ju [.agg (QB x),.bool (key != 0)]
 |none=>.Ju [.agg [.i 0,.i 0,.i 0,.i 0,.i 0],.bool false]
theorem OX(p:PH H hb s L)(k:s.Ok)(hs:QS s)(h0:s.has 0=false){head:Int}(hhd:head≤9223372036854775807)(key:Int):∃H',run P 121 [.agg [.ptr hb 0,.i head],.i key] H=some (RU (FC (s.walk head).1 key) key,H')∧Gr H H':=by
 obtain⟨X,hX⟩:∃X:Gb,X=H++[⟨[.ptr hb 0,.i head],.rw,0⟩]++[⟨[.i key],.rw,0⟩]++[⟨[.i 0,.i 0,.i 0,.i 0,.i 0],.rw,0⟩]++[⟨[.i 0,.i 0,.i 0,.i 0,.i 0],.rw,0⟩]:=⟨_,rfl⟩
 have gX:Gr H X:=by rw[hX];exact(((Gr.app H _).app' _).app' _).app' _
 have lX:X.length=H.length+4:=by rw[hX];simp
 have t2:X[H.length]?=some ⟨[.ptr hb 0,.i head],.rw,0⟩:=by rw[hX];simp
 have t3:X[H.length+1]?=some ⟨[.i key],.rw,0⟩:=by rw[hX];simp
 have t4:X[H.length+2]?=some ⟨[.i 0,.i 0,.i 0,.i 0,.i 0],.rw,0⟩:=by rw[hX];simp
 have t6:X[H.length+3]?=some ⟨[.i 0,.i 0,.i 0,.i 0,.i 0],.rw,0⟩:=by rw[hX];simp
 have pX:=p.gr gX
 have y:=Ggy (key:=key) pX (kb:=H.length+1) (ib:=H.length+3) (N:=X.length) ⟨oM,oM,oM,fun h=>by have:=p.lt _ h;omega⟩ pX.lt (s.walk head).1 fun x hx=>(Az hx).1
 obtain⟨ok,H3,h3,k3,hr⟩:=Mf k hs h0 y hhd (W0:=(·=H.length+3)) ⟨pX,t3,t6,rfl⟩ (fun c h=>by omega) (Nat.le_refl _)
 have l3:=k3.len
 have w4:H3[H.length+2]?=_:=(k3.keep _ oM oM).trans t4
 have g3:Gr H H3:=⟨oM,fun c hc _=>by rw[k3.keep c oM oM,gX.keep c hc fun h=>h]⟩
 have l4:=Gd w4
 rw[Gi Gqa _ _ sM]
 have Ou:X=H++[⟨[.ptr hb 0,.i head],.rw,0⟩]++[⟨[.i key],.rw,0⟩]++[⟨[.int .i64 0,.int .i64 0,.int .i64 0,.int .i64 0,.int .i64 0],.rw,0⟩]++[⟨[.int .i64 0,.int .i64 0,.int .i64 0,.int .i64 0,.int .i64 0],.rw,0⟩]:=hX
 have gs:∀cs,Gr H (H3.set (H.length+2) ⟨cs,.rw,0⟩):=fun cs=>Keeps.set (w:=fun _=>False) g3 (.inr oM) _
 rcases hr with⟨-,hall,W,⟨p3,w3,w6,-⟩,-⟩|⟨-,i,W,hi,hbf,hci,p3,w3,x,hx,w6⟩
 ·have hno:FC (s.walk head).1 key=none:=by
   unfold FC
   rw[List.find?_eq_none]
   intro x hx
   obtain⟨i,hi⟩:=List.mem_iff_getElem?.1 hx
   have:=hall i (Gd hi)
   rw[hi]at this
   simpa using this
  rw[hno]
  have e0:(key != 0)=true∨(key != 0)=false:=by cases (key != 0)<;>simp
  rcases e0 with e0|e0
  ·refine⟨_,?_,gs [.i 0,.i 0,.i 0,.i 0,.i 0]⟩
   simp(disch:=first|exact dz|fail) only[simprocAttr,Gc,↓reduceIte,Gj]
   rw[←Ou]
   simp(disch:=first|exact dz|fail) only[simprocAttr,Gc,↓reduceIte,t2,t3,h3,w3,w6,w4,e0,show((0:Int) != 0)=false from rfl,G9,Gs,Gw,GV,Gq,splice,Ib,JV,KI l4]
   rfl
  ·refine⟨_,?_,gs [.i 0,.i 0,.i 0,.i 0,.i 0]⟩
   simp(disch:=first|exact dz|fail) only[simprocAttr,Gc,↓reduceIte,Gj]
   rw[←Ou]
   simp(disch:=first|exact dz|fail) only[simprocAttr,Gc,↓reduceIte,t2,t3,h3,w3,w6,w4,e0,G9,Gs,Gw,GV,Gq,splice,Ib,JV,KI l4]
   rfl
 ·rw[hx]at hci
  dsimp only at hci
  have hk:x.key=key:=by simpa using hci
  have hxa:=(Az (JX hx)).1
  have ea:(x.addr != 0)=true:=by rw[bne_iff_ne];exact hxa
  have hyes:FC (s.walk head).1 key=some x:=by
   unfold FC
   rw[List.find?_eq_some_iff_append]
   refine⟨by rw[beq_iff_eq];exact hk,(s.walk head).1.take i,(s.walk head).1.drop (i+1),?_,fun z hz=>?_⟩
   ·have e1:(s.walk head).1.drop i=x::(s.walk head).1.drop (i+1):=drop_cons hx
    rw[←e1,List.take_append_drop]
   ·obtain⟨j,hj⟩:=List.mem_iff_getElem?.1 hz
    rw[Ze]at hj
    split at hj
    ·rename_i hji
     have:=hbf j hji
     rw[hj]at this
     simpa using this
    ·cases hj
  rw[hyes]
  unfold QB at w6
  unfold RU QB
  have e0:(key != 0)=true∨(key != 0)=false:=by cases (key != 0)<;>simp
  rcases e0 with e0|e0
  ·refine⟨_,?_,gs (QB x)⟩
   unfold QB
   simp(disch:=first|exact dz|fail) only[simprocAttr,Gc,↓reduceIte,Gj]
   rw[←Ou]
   simp(disch:=first|exact dz|fail) only[simprocAttr,Gc,↓reduceIte,t2,t3,h3,w3,w6,w4,e0,ea,G9,Gs,Gw,GV,Gq,splice,Ib,JV,KI l4]
  ·refine⟨_,?_,gs (QB x)⟩
   unfold QB
   simp(disch:=first|exact dz|fail) only[simprocAttr,Gc,↓reduceIte,Gj]
   rw[←Ou]
   simp(disch:=first|exact dz|fail) only[simprocAttr,Gc,↓reduceIte,t2,t3,h3,w3,w6,w4,e0,ea,G9,Gs,Gw,GV,Gq,splice,Ib,JV,KI l4]
def Hp.Ox(s:Hp)(head key:Int):Int×Int:=if s.ofE head≠0 then(0,s.ofE head)else match FC (s.walk head).1 key with
 |some x=>if key≠0 then(x.val,0)else(0,4)
 |none=>(0,4)
theorem Gfk(p:PH H hb s L)(k:s.Ok)(hs:QS s)(h0:s.has 0=false){head:Int}(hhd:head≤9223372036854775807)(key:Int):∃H',run P 38 [.ptr hb 0,.i head,.i key] H=some (Uj (Hp.Ox s head key),H')∧Gr H H':=by
 obtain⟨H1,h1,g1⟩:=Rq p k hs h0 hhd
 obtain⟨X,hX⟩:∃X:Gb,X=H1++[⟨[.ptr hb 0,.i head],.rw,0⟩]:=⟨_,rfl⟩
 have gX:Gr H1 X:=by rw[hX];exact Gr.app _ _
 have tX:X[H1.length]?=some ⟨[.ptr hb 0,.i head],.rw,0⟩:=by rw[hX];simp
 have g:=g1.trans gX
 have lp:leaf (.ptr hb 0)=true:=rfl
 obtain⟨H2,h2,g2⟩:=OX (p.gr g) k hs h0 hhd key
 unfold Uj
 rw[Gi c38 _ _ sM]
 by_cases c:s.ofE head=0
 ·have c':((0:Int) != 0)=false:=rfl
  unfold RU at h2
  cases hf:FC (s.walk head).1 key with
  |none=>
   rw[hf]at h2
   have hg:Hp.Ox s head key=(0,4):=by unfold Hp.Ox;rw[if_neg (fun h=>h c),hf]
   rw[hg]
   rw[c]at h1
   refine⟨H2++[⟨[.i 0,.i 0,.i 0,.i 0,.i 0],.rw,0⟩],?_,(g.trans g2).app' _⟩
   simp(disch:=first|exact dz|fail) only[simprocAttr,Gc,↓reduceIte,G8,h1,G9,Gs,Gw,GV,Gq,J6,splice]
   rw[←hX]
   simp(disch:=first|exact dz|fail) only[simprocAttr,Gc,↓reduceIte,c',tX,h2,G9,Gs,Gw,GV,Gq,splice]
  |some x=>
   rw[hf]at h2
   unfold QB at h2
   refine⟨H2++[⟨QB x,.rw,0⟩],?_,(g.trans g2).app' _⟩
   unfold QB
   by_cases ck:key=0
   ·have e0:(key != 0)=false:=by rw[ck];rfl
    rw[e0]at h2
    have hg:Hp.Ox s head key=(0,4):=by unfold Hp.Ox;rw[if_neg (fun h=>h c),hf];exact if_neg (fun h=>h ck)
    rw[hg]
    rw[c]at h1
    simp(disch:=first|exact dz|fail) only[simprocAttr,Gc,↓reduceIte,G8,h1,G9,Gs,Gw,GV,Gq,J6,splice]
    rw[←hX]
    simp(disch:=first|exact dz|fail) only[simprocAttr,Gc,↓reduceIte,c',tX,h2,G9,Gs,Gw,GV,Gq,splice]
   ·have e0:(key != 0)=true:=by rw[bne_iff_ne];exact ck
    rw[e0]at h2
    have hg:Hp.Ox s head key=(x.val,0):=by unfold Hp.Ox;rw[if_neg (fun h=>h c),hf];exact if_pos ck
    rw[hg]
    rw[c]at h1
    simp(disch:=first|exact dz|fail) only[simprocAttr,Gc,↓reduceIte,G8,h1,G9,Gs,Gw,GV,Gq,J6,splice]
    rw[←hX]
    simp(disch:=first|exact dz|fail) only[simprocAttr,Gc,↓reduceIte,c',tX,h2,G9,Gs,Gw,GV,Gq,splice]
 ·have hg:Hp.Ox s head key=(0,s.ofE head):=by unfold Hp.Ox;exact if_pos c
  rw[hg]
  have c':(s.ofE head != 0)=true:=by rw[bne_iff_ne];exact c
  refine⟨X,?_,g⟩
  simp(disch:=first|exact dz|fail) only[simprocAttr,Gc,↓reduceIte,G8,h1,c',G9,Gs,Gw,GV,Gq,J6,splice]
  rw[←hX]
theorem Pz(p:PH H hb s L)(k:s.Ok)(hz:s.GI 0=0){sp:Int}(hsp:0≤sp∧sp<8)(hborn:s.born<1000000000000){r d kd:Int}(hv:JJ r d kd=true)(hw:G7 r.toNat d.toNat≤32):
  ∃H',run P 54 [.ptr hb 0,.agg (Je r d kd),.i sp] H=some (.Ju [.i (s.alloc sp r d kd).2.1,.i (s.alloc sp r d kd).2.2],H')∧Keeps H H' (·∈L.all hb)∧PH H' hb (s.alloc sp r d kd).1 L:=by
 obtain⟨X,hX⟩:∃X:Gb,X=H++[⟨Je r d kd,.rw,0⟩]:=⟨_,rfl⟩
 have gX:Gr H X:=by rw[hX];exact Gr.app _ _
 have tX:X[H.length]?=some ⟨Je r d kd,.rw,0⟩:=by rw[hX];simp
 obtain⟨ab,H1,h1,g1,hab,ha⟩:=Gcb (p.gr gX) k hsp
 have h1':run P 143 [.ptr hb 0,.i sp,.int .i64 0] X=some (.Ju [.ptr ab 0,.i 0],H1):=h1
 have g:=gX.trans g1
 have lX:=gX.len
 obtain⟨H2,h2,k2,p2⟩:=WG (p.gr g) k hz hsp hborn ha (fun h=>by have:=p.lt _ h;omega) hv hw
 have uX:=g1.get tX
 refine⟨H2,?_,⟨by have:=g.len;have:=k2.len;omega,fun c hc hn=>by
  rw[k2.keep c (by have:=g.len;omega) (fun h=>h.elim hn fun e=>by omega),g.keep c hc fun h=>h]⟩,p2⟩
 unfold Je at h2 uX tX hX⊢
 rw[Gi c54 _ _ sM]
 simp(disch:=first|exact dz|fail) only[simprocAttr,Gc,↓reduceIte,G8]
 rw[←hX]
 simp(disch:=first|exact dz|fail) only[simprocAttr,Gc,↓reduceIte,h1',uX,h2,show((0:Int) != 0)=false from rfl]
theorem Gfv(p:PH H hb s L)(k:s.Ok)(hz:s.GI 0=0){sp:Int}(hsp:0≤sp∧sp<8)(hborn:s.born<1000000000000):
  ∃H',run P 16 [.ptr hb 0,.i sp] H=some (.Ju [.i (s.alloc sp 8 1 3).2.1,.i (s.alloc sp 8 1 3).2.2],H')∧Keeps H H' (·∈L.all hb)∧PH H' hb (s.alloc sp 8 1 3).1 L:=by
 obtain⟨H1,h1,k1,p1⟩:=Pz p k hz hsp hborn (r:=8) (d:=1) (kd:=3) dE dE
 refine⟨H1,?_,k1,p1⟩
 have h1':run P 54 [.ptr hb 0,.agg [.int .i64 8,.int .i64 1,.int .i64 3],.i sp] H=some (.Ju [.i (s.alloc sp 8 1 3).2.1,.i (s.alloc sp 8 1 3).2.2],H1):=h1
 rw[Gi c16 _ _ sM]
 simp(disch:=first|exact dz|fail) only[simprocAttr,Gc,↓reduceIte,Gj,h1']
end
end Go.Cs.Tryz
namespace Go.Cs.Tryz
open Go Go.Cs A
def Fh:Gu:=S (T [l 19 1 9] (J 19 (X 0))) (S (B 1 (T [u (.store 1 (t 9) (c (.bool false)))] (R [lg 20 2 6,e 21 (.NY 118 [t 9,t 6,t 8]),q2 22 117 20 21]))) (T [l 23 1 9] (R [e 9 (.new [.bool false]),st 1 9 23])))
def C31:Gm:=⟨25,0,T [n 4 0,n 5 0] (T [m 11 0,m 12 1,q2 13 116 11 12,m 10 13,ex 14 10 0,ex 15 10 1,e 6 (.new [.nilPtr,i 0]),st 2 6 14,m 7 15] (S (T [m 16 7,bk 17 .neq 16 0] (I 17 (Q [m 18 7,n 4 0,m 5 18]))) (T [e 8 (.new [i 0]),u (.store 1 (t 8) (k 0))] (S (T [e 9 (.new [.bool false]),u (.store 1 (t 9) (c (.bool true)))] (B 0 (W Fh))) (Q [l 24 1 8,m 4 24,n 5 0]))))),[r 4,r 5]⟩
theorem c31:P 31=some C31:=by kernel_rfl
def GpH:Gm:=⟨17,0,T [bo 4 0,nb 5 false] (S (T [f 6 3 4,l 7 1 6,bk 8 .eql 7 0,st 1 1 8] (T [l 9 1 1] (I 9 (T [lg 10 2 2,lg 11 5 4,q2 12 119 10 11] (R [l 13 1 3,bk 14 .add 13 1,st 1 3 14]))))) (Q [l 15 1 1,no 16 15,m 5 16])),[r 5]⟩
theorem Goz:P 118=some GpH:=by kernel_rfl
def Grq:Gm:=⟨30,0,T [bo 2 0,bo 3 1] (T [f 7 0 2,l 8 1 7,f 9 0 3,l 10 1 9,ca 11 76 [t 8,t 10,k 2],m 6 11,ex 12 6 0,ex 13 6 1,m 4 12,m 5 13] (T [f 14 0 2,l 15 1 14,f 16 1 3,l 17 1 16,f 18 2 3,l 19 1 18,m 20 4,q4 21 122 15 17 19 20] (D [⟨lg 26 2 2,4,1,0⟩,⟨q1 27 123 26,5,3,0⟩,⟨f 22 0 2,0,0,0⟩,⟨l 23 1 22,1,1,0⟩,⟨f 24 1 2,2,0,0⟩,⟨l 25 1 24,3,1,0⟩,⟨bk 28 .sub 27 1,6,0,1⟩,⟨ca 29 91 [t 23,t 25,k 0,t 28],7,3,1⟩]))),[]⟩
theorem c119:P 119=some Grq:=by kernel_rfl
end Go.Cs.Tryz
