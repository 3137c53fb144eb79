/- A part of the proof: WeakTwo returns true for every input: Kept and Waiting return the kept objects of the document; after Clear with these no weak reference of a kept object leads to one that is not kept, and a second Clear has no effect (P19.1, P19.2) Conditions: none. -/
import Derived.Test.YthpfmihkegbbgaaGreatDoorWeakTwo2
import Derived.Test.YthpfmihkegbbgaaGreatDoorProg
import Derived.KernelRfl
set_option linter.unusedVariables false
set_option linter.unusedSimpArgs false
set_option linter.defProp false
set_option maxRecDepth 100000
namespace Go.Cs
open Go
theorem K9.Dl{o:Tags}{H Hf:Gb}{rb:Nat}{R:Rt}{v:Nat→CV}(m:K9 o H rb R v){l:List Int}{w:CV}(h:At (Loc H.length) z3 Hf w 1 l.length (ints l))(hl:H.length≤Hf.length)
  (hb:Hf[rb]?=some ⟨[.i R.slots.length,v 0,v 1,w],.rw,0⟩) (hf:∀d,d<H.length→o d≠some (0,2,0)→d≠rb→Hf[d]?=H[d]?):
  ∃o' v',K9 o' Hf rb {R with queue:=l} v'∧K_ o H o' Hf:=by
 obtain⟨o',h1,h2,h3⟩:=h.adopt (o:=o) (t:=(0,2,0)) m.dom
 have ho:∀c t,o c=some t→o' c=some t:=fun c t h=>by rw[h1 c (m.dom c _ h),h]
 have old:∀c t,o c=some t→t≠(0,9,0)→t≠(0,2,0)→Hf[c]?=H[c]?:=fun c t h hn hn2=>hf c (m.dom c _ h) (by rw[h];simpa using hn2) (by rintro rfl;rw[m.top]at h;simp only[Gx]at h;exact hn h.symm)
 refine⟨o',fun i=>if i=2 then w else v i,⟨?_,ho _ _ m.top,hb,fun i hi=>?_⟩,⟨hl,h1,fun c hc hn=>hf c hc (by rw[hn];simp) ?_⟩⟩
 ·intro c t h
  by_cases hc:c<H.length
  ·omega
  ·exact(h2 c t h oM).2
 ·match i,hi with
  |0,_=>exact(m.li 0 oM).frame (fun c=>ho c _) fun c h=>old c _ h sM sM
  |1,_=>exact(m.li 1 oM).frame (fun c=>ho c _) fun c h=>old c _ h sM sM
  |2,_=>exact h3
 ·rintro rfl;rw[m.top]at hn;cases hn
theorem Yi:∀n:Nat,(List.replicate n (List.replicate 16 (0:Int))).flatten=List.replicate (16*n) 0
 |0=>rfl
 |n+1=>by rw[List.replicate_succ,List.flatten_cons,Yi n,List.replicate_append_replicate];congr 1;omega
end Go.Cs
namespace Go.Cs.Tryz
open Go Go.Cs
section
variable {H : Gb} {o : Tags} {rb : Nat} {R : Rt} {v : Nat → CV}
theorem Hr(m:K9 o H rb R v)(k:R.Ok)(kd mu ix:Int):∃H',run P 114 [.ptr rb 0,.agg [.i kd,.i mu,.i ix]] H=some (.Ju [Z4 v (R.loc kd mu ix),.i (if(R.loc kd mu ix).isSome then 0 else 1)],H')∧Gr H H':=by
 obtain⟨X,hX⟩:∃X:Gb,X=H++[⟨[.i kd,.i mu,.i ix],.rw,0⟩]:=⟨_,rfl⟩
 have gX:Gr H X:=by rw[hX];exact Gr.app _ _
 have lX:X[H.length]?=some ⟨[.i kd,.i mu,.i ix],.rw,0⟩:=by rw[hX];simp
 have mX:=m.gr gX
 have h1:=QZ mX k
 obtain⟨X1,h2,g1⟩:=Gfo mX k kd mu ix
 refine⟨X1,?_,gX.trans g1⟩
 rw[Gi Gqh _ _ sM]
 simp(disch:=first|exact dz|fail) only[simprocAttr,Gc,↓reduceIte,Gj]
 rw[←hX]
 cases e:R.loc kd mu ix with
 |none=>
  rw[e]at h2
  unfold Z4 at h2⊢
  simp(disch:=first|exact dz|fail) only[simprocAttr,Gc,↓reduceIte,h1,lX,h2,Bool.not_true]
  rfl
 |some x=>
  rw[e]at h2
  unfold Z4 at h2⊢
  simp(disch:=first|exact dz|fail) only[simprocAttr,Gc,↓reduceIte,h1,lX,h2,Bool.not_true]
  rfl
theorem Gci(m:K9 o H rb R v)(k:R.Ok)(kd mu ix:Int):∃H',run P 29 [.ptr rb 0,.agg [.i kd,.i mu,.i ix]] H=some (Uj (R.get kd mu ix),H')∧Gr H H':=by
 obtain⟨X,hX⟩:∃X:Gb,X=H++[⟨[.i kd,.i mu,.i ix],.rw,0⟩]:=⟨_,rfl⟩
 have gX:Gr H X:=by rw[hX];exact Gr.app _ _
 have lX:X[H.length]?=some ⟨[.i kd,.i mu,.i ix],.rw,0⟩:=by rw[hX];simp
 have mX:=m.gr gX
 obtain⟨X1,h2,g1⟩:=Hr mX k kd mu ix
 have m1:=mX.gr g1
 refine⟨X1,?_,gX.trans g1⟩
 rw[Gi c29 _ _ sM]
 simp(disch:=first|exact dz|fail) only[simprocAttr,Gc,↓reduceIte,Gj]
 rw[←hX]
 unfold Rt.get Uj
 cases e:R.loc kd mu ix with
 |none=>
  rw[e]at h2
  unfold Z4 at h2
  simp(disch:=first|exact dz|fail) only[simprocAttr,Gc,↓reduceIte,h2,lX,Option.isSome_none,Bool.false_eq_true]
 |some x=>
  rw[e]at h2
  obtain⟨l1,l2,l3,l4⟩:=Rt.Bg k e
  obtain⟨tl,e1,e2,e3,e4⟩:=(m1.li x.1 l2).pos oM
  unfold Z4 at h2
  have hx:(ints (R.li x.1))[x.2]?=some (.i ((R.li x.1).getD x.2 0)):=by rw[ZX,Yp 0 l1];rfl
  simp(disch:=first|exact dz|fail) only[simprocAttr,Gc,↓reduceIte,h2,lX,Option.isSome_some,e3,hx]
theorem P6(m:K9 o H rb R v)(k:R.Ok)(kd mu ix w:Int):Gfr o H rb (R.set kd mu ix w).1 (.i (R.set kd mu ix w).2) (run P 34 [.ptr rb 0,.agg [.i kd,.i mu,.i ix],.i w] H):=by
 obtain⟨X,hX⟩:∃X:Gb,X=H++[⟨[.i kd,.i mu,.i ix],.rw,0⟩]:=⟨_,rfl⟩
 have gX:Gr H X:=by rw[hX];exact Gr.app _ _
 have lX:X[H.length]?=some ⟨[.i kd,.i mu,.i ix],.rw,0⟩:=by rw[hX];simp
 have mX:=m.gr gX
 obtain⟨X1,h2,g1⟩:=Hr mX k kd mu ix
 have m1:=mX.gr g1
 have GR:=Gr.get g1 lX
 rw[Gi c34 _ _ sM]
 simp(disch:=first|exact dz|fail) only[simprocAttr,Gc,↓reduceIte,G8]
 rw[←hX]
 unfold Rt.set
 cases e:R.loc kd mu ix with
 |none=>
  rw[e]at h2
  unfold Z4 at h2
  refine⟨X1,o,v,?_,m1,K_.gr (gX.trans g1)⟩
  simp(disch:=first|exact dz|fail) only[simprocAttr,Gc,↓reduceIte,h2,lX,Option.isSome_none,Bool.false_eq_true]
 |some x=>
  rw[e]at h2
  obtain⟨l1,l2,l3,l4⟩:=Rt.Bg k e
  unfold Z4 at h2
  dsimp only
  by_cases c1:w<0
  ·rw[if_pos (.inl c1)]
   refine⟨X1,o,v,?_,m1,K_.gr (gX.trans g1)⟩
   simp(disch:=first|exact dz|fail) only[simprocAttr,Gc,↓reduceIte,h2,lX,Option.isSome_some,c1,decide_true]
  ·have c1':decide (w<0)=false:=GC c1
   obtain⟨s1,s2,s3⟩:=m1.setAt k l1 l2 l4 w
   have st:x.2<(ints (R.li x.1)).length:=by rw[Aa];exact l1
   by_cases c2:w=0
   ·subst c2
    by_cases c3:kd=2
    ·rw[if_pos (.inr ⟨rfl,c3⟩)]
     subst c3
     refine⟨X1,o,v,?_,m1,K_.gr (gX.trans g1)⟩
     simp(disch:=first|exact dz|fail) only[simprocAttr,Gc,↓reduceIte,h2,lX,GR,Option.isSome_some,show((0:Int)==0)=true from rfl,show((2:Int)==2)=true from rfl]
    ·rw[if_neg oM]
     have c3':(kd==2)=false:=by simp[c3]
     refine⟨_,o,v,?_,s3,(K_.gr (gX.trans g1)).set1 s1 _⟩
     simp(disch:=first|exact dz|fail) only[simprocAttr,Gc,↓reduceIte,h2,lX,GR,Option.isSome_some,show((0:Int)==0)=true from rfl,c3',s2,Nn Gq st]
   ·have c2':(w==0)=false:=by simp[c2]
    rw[if_neg oM]
    refine⟨_,o,v,?_,s3,(K_.gr (gX.trans g1)).set1 s1 _⟩
    simp(disch:=first|exact dz|fail) only[simprocAttr,Gc,↓reduceIte,h2,lX,GR,Option.isSome_some,c1',c2',s2,Nn Gq st]
theorem GaL(m:K9 o H rb R v)(k:R.Ok)(w:Int):Gfr o H rb (R.push w).1 (.i (R.push w).2) (run P 159 [.ptr rb 0,.i w] H):=by
 have h1:=QZ m k
 have hc:=m.cells
 have hq:=m.li 2 oM
 have hlq:(R.li 2).length=R.queue.length:=rfl
 have hl:=hq.len H
 rw[hlq]at hl
 rw[Gi c159 _ _ sM]
 unfold Rt.push
 by_cases c1:w≤0
 ·rw[if_pos c1]
  refine⟨H,o,v,?_,m,K_.refl H⟩
  simp(disch:=first|exact dz|fail) only[simprocAttr,Gc,↓reduceIte,Gj,h1,c1,Bool.not_true,decide_true]
 ·rw[if_neg c1]
  have c1':decide (w≤0)=false:=GC c1
  by_cases c2:R.queue.length=64
  ·rw[if_pos c2]
   have c2':((R.queue.length:Int)==64)=true:=by simp;omega
   refine⟨H,o,v,?_,m,K_.refl H⟩
   simp(disch:=first|exact dz|fail) only[simprocAttr,Gc,↓reduceIte,Gj,h1,hc,c1',c2',hl,Bool.not_true]
  ·rw[if_neg c2]
   have c2':((R.queue.length:Int)==64)=false:=by simp;omega
   have Gos:=k.Xe
   have gB:Gr H (H++[⟨[.i w],.rw,1⟩]):=Gr.app _ _
   have mB:=m.gr gB
   obtain⟨H1,a1,a2,a3,a4⟩:=(mB.li 2 oM).append (k:=1) (new:=ints [w]) oM (by rw[hlq];unfold JG;omega) (EK _) rfl
   rw[hlq]at a1
   have hlB:(H++[(⟨[.i w],.rw,1⟩:JI)]).length=H.length+1:=by simp
   have hrb:rb<H.length:=m.dom _ _ m.top
   have t1:H1[rb]?=some ⟨[.i R.slots.length,v 0,v 1,v 2],.rw,0⟩:=by
    rw[a4 rb oM (by rw[m.top];simp)];exact mB.cells
   have hel:elems (H++[⟨[.i w],.rw,1⟩]) 1 (.slice H.length 0 1 1 1 false)=some (1,ints [w]):=by
    rw[JC oM]
    simp(disch:=first|exact dz|fail) only[simprocAttr,Gc,↓reduceIte,JW]
    rfl
   obtain⟨o',v',r1,r2⟩:=K9.Dl m (l:=R.queue++[w]) (w:=.slice (H.length+1) 0 (R.queue.length+1) (R.queue.length+1) 1 true) (Hf:=H1.set rb ⟨[.i R.slots.length,v 0,v 1,.slice (H.length+1) 0 (R.queue.length+1) (R.queue.length+1) 1 true],.rw,0⟩)
    (.inr ⟨H.length+1,true,sM,Gn.2 ⟨Nat.le_succ _,rfl⟩,by
     rw[JU oM]
     rw[hlB]at a3
     rw[a3,UZ];rfl,by simp[ints]⟩)
    (by rw[List.length_set,a2];omega) (by rw[KI (Gd t1)]) (fun d hd hn hr=>by
     rw[JU (Ne.symm hr),a4 d oM hn,QN hd])
   refine⟨_,o',v',?_,r1,r2⟩
   rw[hlB]at a1
   simp(disch:=first|exact dz|fail) only[simprocAttr,Gc,↓reduceIte,Gj,h1,hc,c1',c2',hl,Bool.not_true,fill,splice,and_self,hel,Ja,a1,t1]
theorem Ph(n:Int)(h:1≤n∧n≤4):∃rb H' o v,run P 12 [.i n] H=some (.Ju [.ptr rb 0,.i 0],H')∧Gr H H'∧K9 o H' rb (Rt.new n.toNat) v∧∀c t,o c=some t→H.length≤c:=by
 obtain⟨n,rfl⟩:∃q:Nat,n=q:=⟨n.toNat,oM⟩
 have c0:¬((n:Int)<1):=by omega
 have c1:¬((4:Int)<(n:Int)):=by omega
 have w1:IntKind.i64.wrap ((n:Int)*16)=((16*n:Nat):Int):=by rw[Gh oM];omega
 have m1:=Uv (Jf:=1) (z:=[CV.int .i64 0]) (l:=((16*n:Nat):Int)) (c:=((16*n:Nat):Int)) oM
 have m2:=Uv (Jf:=1) (z:=[CV.int .i64 0]) (l:=(16:Int)) (c:=(16:Int)) oM
 rw[K6,VQ]at m1
 rw[show(16:Int).toNat=16 from rfl,VQ]at m2
 rw[K6]
 refine⟨H.length+2,H++[⟨ints (List.replicate (16*n) 0),.rw,1⟩]++[⟨ints (List.replicate 16 0),.rw,1⟩]++[⟨[.i n,.slice H.length 0 (16*n) (16*n) 1 false,.slice (H.length+1) 0 16 16 1 false,.Gf],.rw,0⟩],
  ((Tags.put (fun _=>none) H.length (0,0,0)).put (H.length+1) (0,1,0)).put (H.length+2) (0,9,0),fun i=>if i=0 then .slice H.length 0 (16*n) (16*n) 1 false else if i=1 then .slice (H.length+1) 0 16 16 1 false else .Gf,?_,((Gr.app H _).app' _).app' _,?_,?_⟩
 ·rw[Gi c12 _ _ sM]
  simp(disch:=first|exact dz|fail) only[simprocAttr,Gc,↓reduceIte,Gv,c0,c1,decide_false,Oh,w1,m1,m2,fill,splice,and_self]
 ·refine⟨fun c t hc=>?_,Tags.put_eq,by simp[Rt.new],fun i hi=>?_⟩
  ·by_cases e:c=H.length+2
   ·subst e;simp
   ·rw[Tags.GY e]at hc
    by_cases e2:c=H.length+1
    ·subst e2;simp
    ·rw[Tags.GY e2]at hc
     by_cases e3:c=H.length
     ·subst e3;simp
     ·rw[Tags.GY e3]at hc;cases hc
  ·match i,hi with
   |0,_=>
    have e:(Rt.new n).li 0=List.replicate (16*n) 0:=Yi n
    rw[e]
    exact .inr ⟨H.length,false,sM,by rw[Tags.GY oM,Tags.GY oM,Tags.put_eq],sM,by simp[ints]⟩
   |1,_=>exact .inr ⟨H.length+1,false,by simp[Rt.li,Rt.new],by rw[Tags.GY oM,Tags.put_eq],by simp[Rt.li,Rt.new],by simp[ints,Rt.li,Rt.new]⟩
   |2,_=>exact .inl ⟨rfl,rfl,.inl rfl⟩
 ·intro c t hc
  by_cases e:c=H.length+2
  ·omega
  ·rw[Tags.GY e]at hc
   by_cases e2:c=H.length+1
   ·omega
   ·rw[Tags.GY e2]at hc
    by_cases e3:c=H.length
    ·omega
    ·rw[Tags.GY e3]at hc;cases hc
end
end Go.Cs.Tryz
namespace Go.Cs.Tryz
open Go Go.Cs A
def GnH:Gm:=⟨11,0,T [n 2 0] (S (T [m 3 0,q1 4 217 3,no 5 4] (I 5 (Q [n 2 0]))) (Q [m 6 0,z 7 6,f 8 0 7,l 9 1 8,le 10 9,m 2 10])),[r 2]⟩
theorem GqX:P 115=some GnH:=by kernel_rfl
def GnV:Gm:=⟨12,0,T [e 2 (.K7 (c .Gf))] (S (T [m 3 0,q1 4 217 3,no 5 4] (I 5 (Q [e 2 (.K7 (c .Gf))]))) (Q [e 6 (.buildSlice 1 [] 0 []),m 7 0,z 8 7,f 9 2 8,l 10 1 9,ap 11 1 6 10,m 2 11])),[r 2]⟩
theorem c157:P 157=some GnV:=by kernel_rfl
def GpD:Gm:=⟨26,0,T [n 4 0] (S (T [m 5 0,q1 6 217 5,no 7 6] (I 7 (Q [n 4 5]))) (S (T [m 8 1,bk 9 .leq 8 0] (I 9 (Q [n 4 1]))) (S (T [m 10 0,z 11 10,f 12 2 11,l 13 1 12,le 14 13,bk 15 .geq 14 64] (I 15 (Q [n 4 6]))) (T [m 16 0,m 17 0,z 18 17,f 19 2 18,l 20 1 19,m 21 1,e 22 (.buildSlice 1 [i 0] 1 [(0,1,t 21)]),ap 23 1 20 22,z 24 16,f 25 2 24,st 1 25 23] (Q [n 4 0]))))),[r 4]⟩
theorem Gn3:P 158=some GpD:=by kernel_rfl
def GnE:Gm:=⟨13,0,T [nb 2 false] (Q [m 3 0,e 4 (.eqv true 1 (t 3) (c .nilPtr)),m 5 4,gt 5 (m 6 0),gt 5 (z 7 6),gt 5 (f 8 0 7),gt 5 (l 9 1 8),gt 5 (le 10 9),gt 5 (bk 11 .gtr 10 0),an 12 5 11,m 2 12]),[r 2]⟩
theorem Gn8:P 217=some GnE:=by kernel_rfl
def Grc:Gm:=⟨67,0,T [bo 3 1,nb 4 false] (S (T [f 5 0 3,l 6 1 5] (B 0 (T [bk 8 .eql 6 0,m 7 8] (C 7 (S (D [⟨f 9 1 3,0,0,0⟩,⟨l 10 1 9,1,1,0⟩,⟨bk 11 .geq 10 0,2,0,0⟩,⟨m 12 11,3,0,0⟩,⟨gt 12 (f 13 1 3),4,0,0⟩,⟨gt 12 (l 14 1 13),5,1,0⟩,⟨gt 12 (m 15 0),6,0,0⟩,⟨gt 12 (z 16 15),7,0,0⟩,⟨gt 12 (f 17 0 16),8,0,0⟩,⟨gt 12 (l 18 1 17),9,1,0⟩,⟨gt 12 (le 19 18),10,0,0⟩,⟨gt 12 (b 20 .lss 14 19),11,0,0⟩,⟨an 21 12 20,12,0,0⟩,⟨m 22 21,13,0,0⟩,⟨gt 22 (f 23 2 3),14,0,0⟩,⟨gt 22 (l 24 1 23),15,1,0⟩,⟨gt 22 (bk 25 .geq 24 0),16,0,0⟩,⟨an 26 22 25,17,0,0⟩,⟨m 27 26,18,0,0⟩,⟨gt 27 (f 28 2 3),19,0,0⟩,⟨gt 27 (l 29 1 28),20,1,0⟩,⟨gt 27 (bk 30 .lss 29 16),21,0,0⟩,⟨an 31 27 30,22,0,0⟩,⟨m 4 31,23,0,0⟩]) .ret) (T [bk 33 .eql 6 1,m 32 33] (C 32 (Q [f 34 1 3,l 35 1 34,bk 36 .eql 35 0,m 37 36,gt 37 (f 38 2 3),gt 37 (l 39 1 38),gt 37 (bk 40 .geq 39 0),an 41 37 40,m 42 41,gt 42 (f 43 2 3),gt 42 (l 44 1 43),gt 42 (bk 45 .lss 44 16),an 46 42 45,m 4 46]) (T [bk 48 .eql 6 2,m 47 48] (I 47 (S (D [⟨f 49 1 3,0,0,0⟩,⟨l 50 1 49,1,1,0⟩,⟨bk 51 .eql 50 0,2,0,0⟩,⟨m 52 51,3,0,0⟩,⟨gt 52 (f 53 2 3),4,0,0⟩,⟨gt 52 (l 54 1 53),5,1,0⟩,⟨gt 52 (bk 55 .geq 54 0),6,0,0⟩,⟨an 56 52 55,7,0,0⟩,⟨m 57 56,8,0,0⟩,⟨gt 57 (f 58 2 3),9,0,0⟩,⟨gt 57 (l 59 1 58),10,1,0⟩,⟨gt 57 (m 60 0),11,0,0⟩,⟨gt 57 (z 61 60),12,0,0⟩,⟨gt 57 (f 62 2 61),13,0,0⟩,⟨gt 57 (l 63 1 62),14,1,0⟩,⟨gt 57 (le 64 63),15,0,0⟩,⟨gt 57 (b 65 .lss 59 64),16,0,0⟩,⟨an 66 57 65,17,0,0⟩,⟨m 4 66,18,0,0⟩]) .ret))))))))) (Q [nb 4 false])),[r 4]⟩
theorem GnY:P 243=some Grc:=by kernel_rfl
end Go.Cs.Tryz
namespace Go.Cs
open Go
structure Zd where
 sv:CV
 gv:CV
 qv:CV
 ss:List CV
structure J_(o:Tags)(H:Gb)(rb:Nat)(R:Rt)(L:Zd):Prop where
 dom:∀c t,o c=some t→c<H.length
 top:o rb=some (0,9,0)
 cells:H[rb]?=some ⟨[L.sv,L.gv,L.qv],.rw,0⟩
 ns:L.ss.length=R.slots.length
 slots:At o (0,8,0) H L.sv 1 R.slots.length L.ss
 slot:∀i l,R.slots[i]?=some l→∃v,L.ss[i]?=some v∧At o (1,i,0) H v 1 16 (ints l)
 glob:At o (0,1,0) H L.gv 1 16 (ints R.glob)
 queue:At o (0,2,0) H L.qv 1 R.queue.length (ints R.queue)
theorem J_.frame{o o':Tags}{H H':Gb}{rb:Nat}{R:Rt}{L:Zd}(m:J_ o H rb R L)(hd:∀c t,o' c=some t→c<H'.length)(ho:∀c t,o c=some t→o' c=some t)(hf:∀c t,o c=some t→H'[c]?=H[c]?):J_ o' H' rb R L where
 dom:=hd
 top:=ho _ _ m.top
 cells:=by rw[hf _ _ m.top,m.cells]
 ns:=m.ns
 slots:=m.slots.frame (fun c=>ho c _) (fun c=>hf c _)
 slot:=fun i l h=>by
  obtain⟨v,h1,h2⟩:=m.slot i l h
  exact⟨v,h1,h2.frame (fun c=>ho c _) (fun c=>hf c _)⟩
 glob:=m.glob.frame (fun c=>ho c _) (fun c=>hf c _)
 queue:=m.queue.frame (fun c=>ho c _) (fun c=>hf c _)
theorem J_.gr{o:Tags}{H H':Gb}{rb:Nat}{R:Rt}{L:Zd}(m:J_ o H rb R L)(g:Gr H H'):J_ o H' rb R L:=
 m.frame (fun c t h=>JH (m.dom c t h) g.len) (fun _ _ h=>h) (fun c t h=>g.keep c (m.dom c t h) fun h=>h)
def GaW(o:Tags)(H:Gb)(rb:Nat)(R':Rt)(v:CV)(r:Option (CV×Gb)):Prop:=
 ∃H' o' L',r=some (v,H')∧J_ o' H' rb R' L'∧K_ o H o' H'
theorem J_.Dl{o:Tags}{H Hf:Gb}{rb:Nat}{R:Rt}{L:Zd}(m:J_ o H rb R L){l:List Int}{w:CV}(h:At (Loc H.length) z3 Hf w 1 l.length (ints l))(hl:H.length≤Hf.length)
  (hb:Hf[rb]?=some ⟨[L.sv,L.gv,w],.rw,0⟩) (hf:∀d,d<H.length→o d≠some (0,2,0)→d≠rb→Hf[d]?=H[d]?):
  ∃o' L',J_ o' Hf rb {R with queue:=l} L'∧K_ o H o' Hf:=by
 obtain⟨o',h1,h2,h3⟩:=h.adopt (o:=o) (t:=(0,2,0)) m.dom
 have ho:∀c t,o c=some t→o' c=some t:=fun c t h=>by rw[h1 c (m.dom c _ h),h]
 have old:∀c t,o c=some t→t≠(0,9,0)→t≠(0,2,0)→Hf[c]?=H[c]?:=fun c t h hn hn2=>hf c (m.dom c _ h) (by rw[h];simpa using hn2) (by rintro rfl;rw[m.top]at h;simp only[Gx]at h;exact hn h.symm)
 refine⟨o',{L with qv:=w},⟨?_,ho _ _ m.top,hb,m.ns,m.slots.frame (fun c=>ho c _) fun c h=>old c _ h sM sM,fun i l h=>?_,m.glob.frame (fun c=>ho c _) fun c h=>old c _ h sM sM,h3⟩,⟨hl,h1,fun c hc hn=>hf c hc (by rw[hn];simp) ?_⟩⟩
 ·intro c t h
  by_cases hc:c<H.length
  ·omega
  ·exact(h2 c t h oM).2
 ·obtain⟨v,h1,h2⟩:=m.slot i l h
  exact⟨v,h1,h2.frame (fun c=>ho c _) fun c h=>old c _ h sM sM⟩
 ·rintro rfl;rw[m.top]at hn;cases hn
def Zd.at(L:Zd)(x:Nat×Nat):CV:=if x.1=0 then L.ss.getD (x.2/16) .Gf else if x.1=1 then L.gv else L.qv
def DJ(x:Nat×Nat):Nat:=if x.1=0 then x.2 % 16 else x.2
theorem J_.place{o:Tags}{H:Gb}{rb:Nat}{R:Rt}{L:Zd}(m:J_ o H rb R L)(k:R.Ok){x:Nat×Nat}(h1:x.2<(R.li x.1).length)(h2:x.1≤2)(h0:x.1=0→x.2/16<R.slots.length):
  ∃b n tl t cs,L.at x=.slice b 0 n n 1 tl∧o b=some t∧t≠(0,9,0)∧t≠(0,8,0)∧H[b]?=some ⟨ints cs,.rw,1⟩∧cs.length=n∧DJ x<n∧cs[DJ x]?=some ((R.li x.1).getD x.2 0)∧
   ∀w,J_ o (H.set b ⟨(ints cs).set (DJ x) (.i w),.rw,1⟩) rb (R.setAt x w) L:=by
 obtain⟨a,j⟩:=x
 simp only at h1 h2 h0
 match a,h2 with
 |0,_=>
  have hl:=h0 rfl
  have hg:=J9 hl
  obtain⟨l,hle⟩:∃l,l=R.slots[j/16]:=⟨_,rfl⟩
  rw[←hle]at hg
  have h16:=k.s16 l (JX hg)
  obtain⟨v,e1,e2⟩:=m.slot _ _ hg
  obtain⟨tl,f1,f2,f3,f4⟩:=e2.pos oM
  have hat:L.at (0,j)=v:=by
   show L.ss.getD (j/16) .Gf=v
   rw[Qc,e1];rfl
  have old:∀w c t,o c=some t→t≠(1,j/16,0)→(H.set (Gp v) ⟨(ints l).set (j % 16) (.i w),.rw,1⟩)[c]?=H[c]?:=fun w c t h hn=>by
   rw[JU];rintro rfl;rw[f2]at h;simp only[Gx]at h;exact hn h.symm
  refine⟨Gp v,16,tl,_,l,by rw[hat];exact f1,f2,sM,sM,f3,h16,Nat.mod_lt _ oM,?_,fun w=>?_⟩
  ·show l[j % 16]?=some (R.flat.getD j 0)
   have:=flat_get k.s16 hg (i:=j % 16) oM
   have e:16*(j/16)+j % 16=j:=by omega
   rw[e]at this
   rw[←this]
   exact Yp 0 h1
  ·refine⟨fun c t h=>by rw[List.length_set];exact m.dom c t h,m.top,by rw[show DJ (0,j)=j % 16 from rfl,old w _ _ m.top sM,m.cells],?_,?_,fun i s hs=>?_,?_,?_⟩
   ·show L.ss.length=(R.slots.modify _ _).length
    rw[BK];exact m.ns
   ·show At o (0,8,0) _ L.sv 1 (R.slots.modify _ _).length L.ss
    rw[BK]
    exact m.slots.frame (fun c h=>h) fun c h=>old w c _ h sM
   ·have hs':(R.slots.modify (j/16) fun l=>l.set (j % 16) w)[i]?=some s:=hs
    rw[Yq,hg]at hs'
    dsimp only at hs'
    rw[Lu]at hs'
    by_cases c:j/16=i
    ·subst c
     rw[if_pos rfl,if_pos hl]at hs'
     simp only[Gx]at hs'
     refine⟨v,e1,.inr ⟨Gp v,tl,f1,f2,?_,by simp[ints,←hs',h16]⟩⟩
     rw[KI (Gd f3),←hs',ints_set];rfl
    ·rw[if_neg c]at hs'
     obtain⟨v2,g1,g2⟩:=m.slot _ _ hs'
     exact⟨v2,g1,g2.frame (fun c h=>h) fun d h=>old w d _ h (by simp;omega)⟩
   ·exact m.glob.frame (fun c h=>h) fun c h=>old w c _ h sM
   ·exact m.queue.frame (fun c h=>h) fun c h=>old w c _ h sM
 |1,_=>
  have hl:j<R.glob.length:=h1
  have hg:=k.g16
  obtain⟨tl,f1,f2,f3,f4⟩:=m.glob.pos oM
  have old:∀w c t,o c=some t→t≠(0,1,0)→(H.set (Gp L.gv) ⟨(ints R.glob).set j (.i w),.rw,1⟩)[c]?=H[c]?:=fun w c t h hn=>by
   rw[JU]
   intro hc
   rw[hc,h]at f2;simp only[Gx]at f2;exact hn f2
  refine⟨Gp L.gv,16,tl,_,R.glob,f1,f2,sM,sM,f3,hg,(by show j<16;omega),Yp 0 hl,fun w=>?_⟩
  refine⟨fun c t h=>by rw[List.length_set];exact m.dom c t h,m.top,by rw[show DJ (1,j)=j from rfl,old w _ _ m.top sM,m.cells],m.ns,?_,fun i s hs=>?_,?_,?_⟩
  ·exact m.slots.frame (fun c h=>h) fun c h=>old w c _ h sM
  ·obtain⟨v2,g1,g2⟩:=m.slot _ _ hs
   exact⟨v2,g1,g2.frame (fun c h=>h) fun d h=>old w d _ h sM⟩
  ·refine .inr ⟨Gp L.gv,tl,f1,f2,?_,by simp[ints,Rt.setAt,hg]⟩
   rw[KI (Gd f3)]
   show _=some (⟨ints (R.glob.set j w),.rw,1⟩:JI)
   rw[ints_set];rfl
  ·exact m.queue.frame (fun c h=>h) fun c h=>old w c _ h sM
 |2,_=>
  have hl:j<R.queue.length:=h1
  obtain⟨tl,f1,f2,f3,f4⟩:=m.queue.pos oM
  have old:∀w c t,o c=some t→t≠(0,2,0)→(H.set (Gp L.qv) ⟨(ints R.queue).set j (.i w),.rw,1⟩)[c]?=H[c]?:=fun w c t h hn=>by
   rw[JU]
   intro hc
   rw[hc,h]at f2;simp only[Gx]at f2;exact hn f2
  refine⟨Gp L.qv,R.queue.length,tl,_,R.queue,f1,f2,sM,sM,f3,rfl,hl,Yp 0 hl,fun w=>?_⟩
  refine⟨fun c t h=>by rw[List.length_set];exact m.dom c t h,m.top,by rw[show DJ (2,j)=j from rfl,old w _ _ m.top sM,m.cells],m.ns,?_,fun i s hs=>?_,?_,?_⟩
  ·exact m.slots.frame (fun c h=>h) fun c h=>old w c _ h sM
  ·obtain⟨v2,g1,g2⟩:=m.slot _ _ hs
   exact⟨v2,g1,g2.frame (fun c h=>h) fun d h=>old w d _ h sM⟩
  ·exact m.glob.frame (fun c h=>h) fun c h=>old w c _ h sM
  ·refine .inr ⟨Gp L.qv,tl,by simp[Rt.setAt];exact f1,f2,?_,by simp[ints,Rt.setAt]⟩
   rw[KI (Gd f3)]
   show _=some (⟨ints (R.queue.set j w),.rw,1⟩:JI)
   rw[ints_set];rfl
end Go.Cs
namespace Go.Cs.Tryz
open Go Go.Cs
section
variable {H : Gb} {o : Tags} {rb : Nat} {R : Rt} {L : Zd}
theorem Zx(m:J_ o H rb R L)(k:R.Ok):run P 217 [.ptr rb 0] H=some (.bool true,H):=by
 have h:=m.cells
 have hl:=m.slots.len H
 have hp:(0:Int)<(R.slots.length:Int):=by have:=k.ns;omega
 rw[Gi Gn8 _ _ sM]
 simp(disch:=first|exact dz|fail) only[simprocAttr,Gc,↓reduceIte,Gv,h,hl,hp,EC,Bool.not_false,decide_true]
theorem PW(m:J_ o H rb R L)(k:R.Ok):run P 115 [.ptr rb 0] H=some (.i R.slots.length,H):=by
 have h:=m.cells
 have h1:=Zx m k
 have hl:=m.slots.len H
 rw[Gi GqX _ _ sM]
 simp(disch:=first|exact dz|fail) only[simprocAttr,Gc,↓reduceIte,Gv,h,h1,hl,Bool.not_true]
theorem Gc3(m:J_ o H rb R L)(k:R.Ok):∃v H',run P 157 [.ptr rb 0] H=some (v,H')∧Gr H H'∧IL H.length H' v R.queue:=by
 have h:=m.cells
 have h1:=Zx m k
 have hq:=k.Xe
 obtain⟨w,sl,el⟩:=m.queue.lo (j:=R.queue.length) (Nat.le_refl _)
 have he:elems (H++[⟨[],.rw,1⟩]) 1 L.qv=some (R.queue.length,ints R.queue):=m.queue.elems fun c hc=>QN (m.dom _ _ hc)
 have h0:IL H.length (H++[⟨[],.rw,1⟩]) (.slice H.length 0 0 0 1 false) []:=.inl ⟨rfl,rfl,.inr ⟨_,_,rfl⟩⟩
 obtain⟨v',H1,a1,a2,a3⟩:=IL.cat h0 sM (l2:=R.queue) (by simp;omega)
 have hlt:rb<H.length:=m.dom _ _ m.top
 refine⟨v',H1,?_,(Gr.app H _).news a3,a2⟩
 rw[Gi c157 _ _ sM]
 simp(disch:=first|exact dz|fail) only[simprocAttr,Gc,↓reduceIte,Gv,h,h1,Bool.not_true,Ut,he,Ja,a1]
theorem Gfd(m:J_ o H rb R L)(k:R.Ok)(w:Int):GaW o H rb (R.push w).1 (.i (R.push w).2) (run P 158 [.ptr rb 0,.i w] H):=by
 have h1:=Zx m k
 have hc:=m.cells
 have hl:=m.queue.len H
 have Gos:=k.Xe
 rw[Gi Gn3 _ _ sM]
 unfold Rt.push
 by_cases c1:w≤0
 ·rw[if_pos c1]
  refine⟨H,o,L,?_,m,K_.refl H⟩
  simp(disch:=first|exact dz|fail) only[simprocAttr,Gc,↓reduceIte,Gj,h1,c1,Bool.not_true,decide_true]
 ·rw[if_neg c1]
  have c1':decide (w≤0)=false:=GC c1
  by_cases c2:R.queue.length=64
  ·rw[if_pos c2]
   have c2':decide ((64:Int)≤(R.queue.length:Int))=true:=GK oM
   refine⟨H,o,L,?_,m,K_.refl H⟩
   simp(disch:=first|exact dz|fail) only[simprocAttr,Gc,↓reduceIte,Gj,h1,hc,c1',c2',hl,Bool.not_true]
  ·rw[if_neg c2]
   have c2':decide ((64:Int)≤(R.queue.length:Int))=false:=GC oM
   have gB:Gr H (H++[⟨[.i w],.rw,1⟩]):=Gr.app _ _
   have mB:=m.gr gB
   obtain⟨H1,a1,a2,a3,a4⟩:=mB.queue.append (k:=1) (new:=ints [w]) oM (by unfold JG;omega) (EK _) rfl
   have hlB:(H++[(⟨[.i w],.rw,1⟩:JI)]).length=H.length+1:=by simp
   have hrb:rb<H.length:=m.dom _ _ m.top
   have t1:H1[rb]?=some ⟨[L.sv,L.gv,L.qv],.rw,0⟩:=by
    rw[a4 rb oM (by rw[m.top];simp)];exact mB.cells
   have hel:elems (H++[⟨[.i w],.rw,1⟩]) 1 (.slice H.length 0 1 1 1 false)=some (1,ints [w]):=by
    rw[JC oM]
    simp(disch:=first|exact dz|fail) only[simprocAttr,Gc,↓reduceIte,JW]
    rfl
   obtain⟨o',L',r1,r2⟩:=J_.Dl m (l:=R.queue++[w]) (w:=.slice (H.length+1) 0 (R.queue.length+1) (R.queue.length+1) 1 true) (Hf:=H1.set rb ⟨[L.sv,L.gv,.slice (H.length+1) 0 (R.queue.length+1) (R.queue.length+1) 1 true],.rw,0⟩)
    (.inr ⟨H.length+1,true,sM,Gn.2 ⟨Nat.le_succ _,rfl⟩,by
     rw[JU oM]
     rw[hlB]at a3
     rw[a3,UZ],by simp[ints]⟩)
    (by rw[List.length_set,a2];omega) (by rw[KI (Gd t1)]) (fun d hd hn hr=>by
     rw[JU (Ne.symm hr),a4 d oM hn,QN hd])
   refine⟨_,o',L',?_,r1,r2⟩
   rw[hlB]at a1
   simp(disch:=first|exact dz|fail) only[simprocAttr,Gc,↓reduceIte,Gj,h1,hc,c1',c2',hl,Bool.not_true,fill,splice,and_self,hel,Ja,a1,t1]
theorem Gh6(m:J_ o H rb R L)(k:R.Ok)(kd mu ix:Int):run P 243 [.ptr rb 0,.agg [.i kd,.i mu,.i ix]] H=some (.bool (R.loc kd mu ix).isSome,H++[⟨[.i kd,.i mu,.i ix],.rw,0⟩]):=by
 obtain⟨X,hX⟩:∃X:Gb,X=H++[⟨[.i kd,.i mu,.i ix],.rw,0⟩]:=⟨_,rfl⟩
 have gX:Gr H X:=by rw[hX];exact Gr.app _ _
 have lX:X[H.length]?=some ⟨[.i kd,.i mu,.i ix],.rw,0⟩:=by rw[hX];simp
 have mX:=m.gr gX
 have hc:=mX.cells
 have ml1:=Ee (v:=L.sv) (n:=(R.slots.length:Int)) fun H=>m.slots.len H
 have ml2:=Ee (v:=L.qv) (n:=(R.queue.length:Int)) fun H=>m.queue.len H
 have hg:=k.g16
 rw[Gi GnY _ _ sM]
 simp(disch:=first|exact dz|fail) only[simprocAttr,Gc,↓reduceIte,Gj]
 rw[←hX]
 have fin:∀b:Bool,(R.loc kd mu ix).isSome=b→some (CV.bool b,X)=some (CV.bool (R.loc kd mu ix).isSome,X):=fun b h=>by rw[h]
 by_cases k0:kd=0
 ·subst k0
  have hL:R.loc 0 mu ix=if 0≤mu∧mu<(R.slots.length:Int)then(if 0≤ix∧ix<16 then some (0,16*mu.toNat+ix.toNat)else none)else none:=by
   unfold Rt.loc
   by_cases c:0≤mu∧mu<(R.slots.length:Int)
   ·rw[if_pos ⟨rfl,c⟩,if_pos c]
   ·rw[if_neg (fun h=>c h.2),if_neg c,if_neg oM,if_neg oM]
  rw[hL]
  by_cases a1:0≤mu
  ·by_cases a2:mu<(R.slots.length:Int)
   ·rw[if_pos ⟨a1,a2⟩]
    by_cases a3:0≤ix
    ·by_cases a4:ix<16
     ·rw[if_pos ⟨a3,a4⟩]
      simp(disch:=first|exact dz|fail) only[simprocAttr,Gc,↓reduceIte,lX,hc,ml1,show((0:Int)==0)=true from rfl,a1,a2,a3,a4,decide_true,Option.isSome_some]
     ·rw[if_neg (fun h=>a4 h.2)]
      simp(disch:=first|exact dz|fail) only[simprocAttr,Gc,↓reduceIte,lX,hc,ml1,show((0:Int)==0)=true from rfl,a1,a2,a3,a4,decide_true,decide_false,Option.isSome_none]
    ·rw[if_neg (fun h=>a3 h.1)]
     simp(disch:=first|exact dz|fail) only[simprocAttr,Gc,↓reduceIte,lX,hc,ml1,show((0:Int)==0)=true from rfl,a1,a2,a3,decide_true,decide_false,Option.isSome_none]
   ·rw[if_neg (fun h=>a2 h.2)]
    simp(disch:=first|exact dz|fail) only[simprocAttr,Gc,↓reduceIte,lX,hc,ml1,show((0:Int)==0)=true from rfl,a1,a2,decide_true,decide_false,Option.isSome_none]
  ·rw[if_neg (fun h=>a1 h.1)]
   simp(disch:=first|exact dz|fail) only[simprocAttr,Gc,↓reduceIte,lX,hc,show((0:Int)==0)=true from rfl,a1,decide_false,Option.isSome_none]
 ·have e0:(kd==0)=false:=by simp[k0]
  by_cases k1:kd=1
  ·subst k1
   have hL:R.loc 1 mu ix=if mu=0 then(if 0≤ix∧ix<16 then some (1,ix.toNat)else none)else none:=by
    unfold Rt.loc
    rw[if_neg oM]
    by_cases c:mu=0
    ·rw[if_pos ⟨rfl,c⟩,if_pos c,hg];rfl
    ·rw[if_neg (fun h=>c h.2),if_neg c,if_neg oM]
   rw[hL]
   by_cases a1:mu=0
   ·subst a1
    rw[if_pos rfl]
    by_cases a3:0≤ix
    ·by_cases a4:ix<16
     ·rw[if_pos ⟨a3,a4⟩]
      simp(disch:=first|exact dz|fail) only[simprocAttr,Gc,↓reduceIte,lX,hc,show((1:Int)==0)=false from rfl,show((1:Int)==1)=true from rfl,show((0:Int)==0)=true from rfl,a3,a4,decide_true,Option.isSome_some]
     ·rw[if_neg (fun h=>a4 h.2)]
      simp(disch:=first|exact dz|fail) only[simprocAttr,Gc,↓reduceIte,lX,hc,show((1:Int)==0)=false from rfl,show((1:Int)==1)=true from rfl,show((0:Int)==0)=true from rfl,a3,a4,decide_true,decide_false,Option.isSome_none]
    ·rw[if_neg (fun h=>a3 h.1)]
     simp(disch:=first|exact dz|fail) only[simprocAttr,Gc,↓reduceIte,lX,hc,show((1:Int)==0)=false from rfl,show((1:Int)==1)=true from rfl,show((0:Int)==0)=true from rfl,a3,decide_false,Option.isSome_none]
   ·rw[if_neg a1]
    have a1':(mu==0)=false:=by simp[a1]
    simp(disch:=first|exact dz|fail) only[simprocAttr,Gc,↓reduceIte,lX,hc,show((1:Int)==0)=false from rfl,show((1:Int)==1)=true from rfl,a1',Option.isSome_none]
  ·have e1:(kd==1)=false:=by simp[k1]
   by_cases k2:kd=2
   ·subst k2
    have hL:R.loc 2 mu ix=if mu=0 then(if 0≤ix∧ix<(R.queue.length:Int)then some (2,ix.toNat)else none)else none:=by
     unfold Rt.loc
     rw[if_neg oM,if_neg oM]
     by_cases c:mu=0
     ·rw[if_pos ⟨rfl,c⟩,if_pos c]
     ·rw[if_neg (fun h=>c h.2),if_neg c]
    rw[hL]
    by_cases a1:mu=0
    ·subst a1
     rw[if_pos rfl]
     by_cases a3:0≤ix
     ·by_cases a4:ix<(R.queue.length:Int)
      ·rw[if_pos ⟨a3,a4⟩]
       simp(disch:=first|exact dz|fail) only[simprocAttr,Gc,↓reduceIte,lX,hc,ml2,show((2:Int)==0)=false from rfl,show((2:Int)==1)=false from rfl,show((2:Int)==2)=true from rfl,show((0:Int)==0)=true from rfl,a3,a4,decide_true,Option.isSome_some]
      ·rw[if_neg (fun h=>a4 h.2)]
       simp(disch:=first|exact dz|fail) only[simprocAttr,Gc,↓reduceIte,lX,hc,ml2,show((2:Int)==0)=false from rfl,show((2:Int)==1)=false from rfl,show((2:Int)==2)=true from rfl,show((0:Int)==0)=true from rfl,a3,a4,decide_true,decide_false,Option.isSome_none]
     ·rw[if_neg (fun h=>a3 h.1)]
      simp(disch:=first|exact dz|fail) only[simprocAttr,Gc,↓reduceIte,lX,hc,show((2:Int)==0)=false from rfl,show((2:Int)==1)=false from rfl,show((2:Int)==2)=true from rfl,show((0:Int)==0)=true from rfl,a3,decide_false,Option.isSome_none]
    ·rw[if_neg a1]
     have a1':(mu==0)=false:=by simp[a1]
     simp(disch:=first|exact dz|fail) only[simprocAttr,Gc,↓reduceIte,lX,hc,show((2:Int)==0)=false from rfl,show((2:Int)==1)=false from rfl,show((2:Int)==2)=true from rfl,a1',Option.isSome_none]
   ·have e2:(kd==2)=false:=by simp[k2]
    have hL:R.loc kd mu ix=none:=by
     unfold Rt.loc
     rw[if_neg oM,if_neg oM,if_neg oM]
    rw[hL]
    simp(disch:=first|exact dz|fail) only[simprocAttr,Gc,↓reduceIte,lX,e0,e1,e2,Option.isSome_none]
end
end Go.Cs.Tryz
namespace Go.Cs.Tryz
open Go Go.Cs A
def IQ:Gu:=S (T [m 15 5,m 16 0,b 17 .lss 15 16] (J 17 (X 0))) (S (B 1 (D [⟨m 21 4,1,0,0⟩,⟨z 22 21,2,0,0⟩,⟨f 23 0 22,3,0,0⟩,⟨l 24 1 23,4,1,0⟩,⟨e 25 (.makeSlice 1 [i 0] (k 16) (k 16)),5,0,0⟩,⟨e 26 (.buildSlice 1 [.Gf] 1 [(0,1,t 25)]),6,0,0⟩,⟨ap 27 1 24 26,7,3,0⟩,⟨m 20 4,0,0,0⟩,⟨z 28 20,8,0,1⟩,⟨f 29 0 28,9,0,1⟩,⟨st 1 29 27,10,3,1⟩])) (R [m 18 5,bk 19 .add 18 1,m 5 19]))
def C56:Gm:=⟨31,0,T [e 2 (.K7 (c .nilPtr)),n 3 0] (S (T [m 6 0,bk 7 .lss 6 1,m 8 7,gf 8 (m 9 0),gf 8 (bk 10 .gtr 9 4),or 11 8 10] (I 11 (Q [e 2 (.K7 (c .nilPtr)),n 3 1]))) (T [e 12 (.makeSlice 1 [i 0] (k 16) (k 16)),e 13 (.build [.Gf,.Gf,.Gf] [(1,1,t 12)]),bo 14 13,m 4 14] (S (T [n 5 0] (B 0 (W IQ))) (Q [m 30 4,m 2 30,n 3 0])))),[r 2,r 3]⟩
theorem c56:P 56=some C56:=by kernel_rfl
def GpK:Gm:=⟨31,0,T [bo 4 1,n 6 0] (S (T [m 7 0,q1 8 217 7,no 9 8] (I 9 (Q [n 6 5]))) (S (T [m 10 0,lg 11 3 4,q2 12 243 10 11,no 13 12,m 14 13,gf 14 (m 15 2),gf 14 (bk 16 .lss 15 0),or 17 14 16,m 18 17,gf 18 (m 19 2),gf 18 (bk 20 .eql 19 0),gf 18 (m 21 20),gt 21 (f 22 0 4),gt 21 (l 23 1 22),gt 21 (bk 24 .eql 23 2),gf 18 (an 25 21 24),or 26 18 25] (I 26 (Q [n 6 1]))) (T [m 27 0,lg 28 3 4,m 29 2,q3 30 244 27 28 29] (Q [n 6 0])))),[r 6]⟩
theorem c160:P 160=some GpK:=by kernel_rfl
def GoI:Gm:=⟨39,0,T [bo 3 1,n 4 0] (S (T [f 5 0 3,l 6 1 5] (B 0 (T [bk 8 .eql 6 0,m 7 8] (C 7 (S (D [⟨m 9 0,0,0,0⟩,⟨z 10 9,1,0,0⟩,⟨f 11 0 10,2,0,0⟩,⟨l 12 1 11,3,1,0⟩,⟨f 13 1 3,4,0,0⟩,⟨l 14 1 13,5,1,0⟩,⟨x 15 1 12 14,6,0,0⟩,⟨l 16 1 15,7,1,0⟩,⟨f 17 2 3,8,0,0⟩,⟨l 18 1 17,9,1,0⟩,⟨x 19 1 16 18,10,0,0⟩,⟨l 20 1 19,11,1,0⟩,⟨m 4 20,12,0,0⟩]) .ret) (T [bk 22 .eql 6 1,m 21 22] (I 21 (S (D [⟨m 23 0,0,0,0⟩,⟨z 24 23,1,0,0⟩,⟨f 25 1 24,2,0,0⟩,⟨l 26 1 25,3,1,0⟩,⟨f 27 2 3,4,0,0⟩,⟨l 28 1 27,5,1,0⟩,⟨x 29 1 26 28,6,0,0⟩,⟨l 30 1 29,7,1,0⟩,⟨m 4 30,8,0,0⟩]) .ret))))))) (S (D [⟨m 31 0,0,0,0⟩,⟨z 32 31,1,0,0⟩,⟨f 33 2 32,2,0,0⟩,⟨l 34 1 33,3,1,0⟩,⟨f 35 2 3,4,0,0⟩,⟨l 36 1 35,5,1,0⟩,⟨x 37 1 34 36,6,0,0⟩,⟨l 38 1 37,7,1,0⟩,⟨m 4 38,8,0,0⟩]) .ret)),[r 4]⟩
theorem Gqf:P 169=some GoI:=by kernel_rfl
def Go9:Gm:=⟨40,0,T [bo 4 1] (T [f 6 0 4,l 7 1 6] (B 0 (T [bk 17 .eql 7 0,m 16 17] (C 16 (D [⟨m 18 0,0,0,0⟩,⟨z 19 18,1,0,0⟩,⟨f 20 0 19,2,0,0⟩,⟨l 21 1 20,3,1,0⟩,⟨f 22 1 4,4,0,0⟩,⟨l 23 1 22,5,1,0⟩,⟨x 24 1 21 23,6,0,0⟩,⟨l 25 1 24,7,1,0⟩,⟨f 26 2 4,8,0,0⟩,⟨l 27 1 26,9,1,0⟩,⟨m 28 2,10,0,0⟩,⟨x 29 1 25 27,11,0,0⟩,⟨st 1 29 28,12,3,0⟩]) (T [bk 31 .eql 7 1,m 30 31] (C 30 (D [⟨m 32 0,0,0,0⟩,⟨z 33 32,1,0,0⟩,⟨f 34 1 33,2,0,0⟩,⟨l 35 1 34,3,1,0⟩,⟨f 36 2 4,4,0,0⟩,⟨l 37 1 36,5,1,0⟩,⟨m 38 2,6,0,0⟩,⟨x 39 1 35 37,7,0,0⟩,⟨st 1 39 38,8,3,0⟩]) (D [⟨m 8 0,0,0,0⟩,⟨z 9 8,1,0,0⟩,⟨f 10 2 9,2,0,0⟩,⟨l 11 1 10,3,1,0⟩,⟨f 12 2 4,4,0,0⟩,⟨l 13 1 12,5,1,0⟩,⟨m 14 2,6,0,0⟩,⟨x 15 1 11 13,7,0,0⟩,⟨st 1 15 14,8,3,0⟩]))))))),[]⟩
theorem GqB:P 244=some Go9:=by kernel_rfl
end Go.Cs.Tryz
namespace Go.Cs
open Go
theorem Rt.WQ{R:Rt}{kd mu ix:Int}{x:Nat×Nat}(h:R.loc kd mu ix=some x):(x.1=0∧kd=0∧0≤mu∧mu<(R.slots.length:Int)∧0≤ix∧ix<16∧x.2/16=mu.toNat∧x.2 % 16=ix.toNat)∨(x.1=1∧kd=1∧0≤ix∧x.2=ix.toNat)∨(x.1=2∧kd=2∧0≤ix∧x.2=ix.toNat):=by
 unfold Rt.loc at h
 split at h
 ·split at h
  ·simp only[Gx]at h
   subst h
   refine .inl ⟨rfl,?_⟩
   simp only
   omega
  ·cases h
 ·split at h
  ·split at h
   ·rename_i c c2
    simp only[Gx]at h
    subst h
    exact .inr (.inl ⟨rfl,c.1,c2.1,rfl⟩)
   ·cases h
  ·split at h
   ·split at h
    ·rename_i c c2
     simp only[Gx]at h
     subst h
     exact .inr (.inr ⟨rfl,c.1,c2.1,rfl⟩)
    ·cases h
   ·cases h
end Go.Cs
namespace Go.Cs.Tryz
open Go Go.Cs
section
variable {H : Gb} {o : Tags} {rb : Nat} {R : Rt} {L : Zd}
theorem J_.Gd9(m:J_ o H rb R L){j:Nat}(h0:j/16<R.slots.length):∃b tl,L.sv=.slice b 0 R.slots.length R.slots.length 1 tl∧H[b]?=some ⟨L.ss,.rw,1⟩∧L.ss[j/16]?=some (L.at (0,j))∧o b=some (0,8,0):=by
 obtain⟨tl,e1,e2,e3,e4⟩:=m.slots.pos oM
 refine⟨_,tl,e1,e3,?_,e2⟩
 show _=some (L.ss.getD (j/16) .Gf)
 exact Yp _ (by rw[m.ns];omega)
theorem Gbg(m:J_ o H rb R L)(k:R.Ok){kd mu ix:Int}{x:Nat×Nat}(hx:R.loc kd mu ix=some x):run P 169 [.ptr rb 0,.agg [.i kd,.i mu,.i ix]] H=some (.i ((R.li x.1).getD x.2 0),H++[⟨[.i kd,.i mu,.i ix],.rw,0⟩]):=by
 obtain⟨X,hX⟩:∃X:Gb,X=H++[⟨[.i kd,.i mu,.i ix],.rw,0⟩]:=⟨_,rfl⟩
 have gX:Gr H X:=by rw[hX];exact Gr.app _ _
 have lX:X[H.length]?=some ⟨[.i kd,.i mu,.i ix],.rw,0⟩:=by rw[hX];simp
 have mX:=m.gr gX
 have hc:=mX.cells
 obtain⟨l1,l2,l3,l4⟩:=Rt.Bg k hx
 obtain⟨b,n,tl,t,cs,p1,p2,-,-,p3,p4,p5,p6,-⟩:=mX.place k l1 l2 l4
 have hcs:(ints cs)[DJ x]?=some (.i ((R.li x.1).getD x.2 0)):=by rw[ZX,p6];rfl
 rw[Gi Gqf _ _ sM]
 simp(disch:=first|exact dz|fail) only[simprocAttr,-List.reduceReplicate,Gc,↓reduceIte,Gj]
 rw[←hX]
 obtain⟨a,j⟩:=x
 rcases Rt.WQ hx with⟨h1,rfl,h2,h3,h4,h5,h6,h7⟩|⟨h1,rfl,h4,h7⟩|⟨h1,rfl,h4,h7⟩
 ·simp only at h1 h6 h7 p5
  subst h1
  obtain⟨b2,tl2,s1,s2,s3,s4⟩:=J_.Gd9 mX (l4 rfl)
  rw[p1]at s3
  rw[s1]at hc
  rw[h6]at s3
  have e7:DJ (0,j)=ix.toNat:=by show j % 16=_;exact h7
  rw[e7]at hcs p5
  have c1:0≤mu∧mu<(R.slots.length:Int):=⟨h2,h3⟩
  have c2:0≤ix∧ix<(n:Int):=by omega
  simp(disch:=first|exact dz|fail) only[simprocAttr,-List.reduceReplicate,Gc,↓reduceIte,lX,hc,show((0:Int)==0)=true from rfl,c1,s2,s3,c2,p3,hcs]
 ·simp only at h1 h7 p5
  subst h1
  subst h7
  have e7:DJ (1,ix.toNat)=ix.toNat:=rfl
  rw[e7]at hcs p5
  have e8:L.at (1,ix.toNat)=L.gv:=rfl
  rw[e8]at p1
  rw[p1]at hc
  have c2:0≤ix∧ix<(n:Int):=by omega
  simp(disch:=first|exact dz|fail) only[simprocAttr,-List.reduceReplicate,Gc,↓reduceIte,lX,hc,show((1:Int)==0)=false from rfl,show((1:Int)==1)=true from rfl,c2,p3,hcs]
 ·simp only at h1 h7 p5
  subst h1
  subst h7
  have e7:DJ (2,ix.toNat)=ix.toNat:=rfl
  rw[e7]at hcs p5
  have e8:L.at (2,ix.toNat)=L.qv:=rfl
  rw[e8]at p1
  rw[p1]at hc
  have c2:0≤ix∧ix<(n:Int):=by omega
  simp(disch:=first|exact dz|fail) only[simprocAttr,-List.reduceReplicate,Gc,↓reduceIte,lX,hc,show((2:Int)==0)=false from rfl,show((2:Int)==1)=false from rfl,c2,p3,hcs]
theorem GhD(m:J_ o H rb R L)(k:R.Ok){kd mu ix:Int}{x:Nat×Nat}(hx:R.loc kd mu ix=some x)(w:Int):GaW o H rb (R.setAt x w) (.Ju []) (run P 244 [.ptr rb 0,.agg [.i kd,.i mu,.i ix],.i w] H):=by
 obtain⟨X,hX⟩:∃X:Gb,X=H++[⟨[.i kd,.i mu,.i ix],.rw,0⟩]:=⟨_,rfl⟩
 have gX:Gr H X:=by rw[hX];exact Gr.app _ _
 have lX:X[H.length]?=some ⟨[.i kd,.i mu,.i ix],.rw,0⟩:=by rw[hX];simp
 have mX:=m.gr gX
 have hc:=mX.cells
 obtain⟨l1,l2,l3,l4⟩:=Rt.Bg k hx
 obtain⟨b,n,tl,t,cs,p1,p2,-,-,p3,p4,p5,p6,p7⟩:=mX.place k l1 l2 l4
 have st:DJ x<(ints cs).length:=by rw[Aa,p4];exact p5
 refine⟨_,o,L,?_,p7 w,(K_.gr gX).set1 p2 _⟩
 rw[Gi GqB _ _ sM]
 simp(disch:=first|exact dz|fail) only[simprocAttr,-List.reduceReplicate,Gc,↓reduceIte,G8]
 rw[←hX]
 obtain⟨a,j⟩:=x
 rcases Rt.WQ hx with⟨h1,rfl,h2,h3,h4,h5,h6,h7⟩|⟨h1,rfl,h4,h7⟩|⟨h1,rfl,h4,h7⟩
 ·simp only at h1 h6 h7 p5
  subst h1
  obtain⟨b2,tl2,s1,s2,s3,s4⟩:=J_.Gd9 mX (l4 rfl)
  rw[p1]at s3
  rw[s1]at hc
  rw[h6]at s3
  have e7:DJ (0,j)=ix.toNat:=by show j % 16=_;exact h7
  rw[e7]at st p5
  rw[e7]
  have c1:0≤mu∧mu<(R.slots.length:Int):=⟨h2,h3⟩
  have c2:0≤ix∧ix<(n:Int):=by omega
  simp(disch:=first|exact dz|fail) only[simprocAttr,-List.reduceReplicate,Gc,↓reduceIte,lX,hc,show((0:Int)==0)=true from rfl,c1,s2,s3,c2,p3,Nn Gq st]
 ·simp only at h1 h7 p5
  subst h1
  subst h7
  have e7:DJ (1,ix.toNat)=ix.toNat:=rfl
  rw[e7]at st p5
  rw[e7]
  have e8:L.at (1,ix.toNat)=L.gv:=rfl
  rw[e8]at p1
  rw[p1]at hc
  have c2:0≤ix∧ix<(n:Int):=by omega
  simp(disch:=first|exact dz|fail) only[simprocAttr,-List.reduceReplicate,Gc,↓reduceIte,lX,hc,show((1:Int)==0)=false from rfl,show((1:Int)==1)=true from rfl,c2,p3,Nn Gq st]
 ·simp only at h1 h7 p5
  subst h1
  subst h7
  have e7:DJ (2,ix.toNat)=ix.toNat:=rfl
  rw[e7]at st p5
  rw[e7]
  have e8:L.at (2,ix.toNat)=L.qv:=rfl
  rw[e8]at p1
  rw[p1]at hc
  have c2:0≤ix∧ix<(n:Int):=by omega
  simp(disch:=first|exact dz|fail) only[simprocAttr,-List.reduceReplicate,Gc,↓reduceIte,lX,hc,show((2:Int)==0)=false from rfl,show((2:Int)==1)=false from rfl,c2,p3,Nn Gq st]
theorem GaQ(m:J_ o H rb R L)(k:R.Ok)(kd mu ix w:Int):GaW o H rb (R.set kd mu ix w).1 (.i (R.set kd mu ix w).2) (run P 160 [.ptr rb 0,.agg [.i kd,.i mu,.i ix],.i w] H):=by
 obtain⟨X,hX⟩:∃X:Gb,X=H++[⟨[.i kd,.i mu,.i ix],.rw,0⟩]:=⟨_,rfl⟩
 have gX:Gr H X:=by rw[hX];exact Gr.app _ _
 have lX:X[H.length]?=some ⟨[.i kd,.i mu,.i ix],.rw,0⟩:=by rw[hX];simp
 have mX:=m.gr gX
 have h1:=Zx mX k
 have h2:=Gh6 mX k kd mu ix
 obtain⟨X1,hX1⟩:∃X1:Gb,X1=X++[⟨[.i kd,.i mu,.i ix],.rw,0⟩]:=⟨_,rfl⟩
 rw[←hX1]at h2
 have g1:Gr X X1:=by rw[hX1];exact Gr.app _ _
 have m1:=mX.gr g1
 have GR:=Gr.get g1 lX
 rw[Gi c160 _ _ sM]
 simp(disch:=first|exact dz|fail) only[simprocAttr,-List.reduceReplicate,Gc,↓reduceIte,G8]
 rw[←hX]
 unfold Rt.set
 cases e:R.loc kd mu ix with
 |none=>
  rw[e]at h2
  refine⟨X1,o,L,?_,m1,K_.gr (gX.trans g1)⟩
  simp(disch:=first|exact dz|fail) only[simprocAttr,-List.reduceReplicate,Gc,↓reduceIte,h1,lX,h2,Option.isSome_none,Bool.not_true,Bool.not_false]
 |some x=>
  rw[e]at h2
  dsimp only
  by_cases c1:w<0
  ·rw[if_pos (.inl c1)]
   refine⟨X1,o,L,?_,m1,K_.gr (gX.trans g1)⟩
   simp(disch:=first|exact dz|fail) only[simprocAttr,-List.reduceReplicate,Gc,↓reduceIte,h1,lX,h2,Option.isSome_some,Bool.not_true,c1,decide_true]
  ·have c1':decide (w<0)=false:=GC c1
   obtain⟨H',o',L',q1,q2,q3⟩:=GhD m1 k e w
   by_cases c2:w=0
   ·subst c2
    by_cases c3:kd=2
    ·rw[if_pos (.inr ⟨rfl,c3⟩)]
     subst c3
     refine⟨X1,o,L,?_,m1,K_.gr (gX.trans g1)⟩
     simp(disch:=first|exact dz|fail) only[simprocAttr,-List.reduceReplicate,Gc,↓reduceIte,h1,lX,GR,h2,Option.isSome_some,Bool.not_true,show((0:Int)==0)=true from rfl,show((2:Int)==2)=true from rfl]
    ·rw[if_neg oM]
     have c3':(kd==2)=false:=by simp[c3]
     refine⟨H',o',L',?_,q2,(K_.gr (gX.trans g1)).trans q3⟩
     simp(disch:=first|exact dz|fail) only[simprocAttr,-List.reduceReplicate,Gc,↓reduceIte,h1,lX,GR,h2,Option.isSome_some,Bool.not_true,show((0:Int)==0)=true from rfl,c3',q1]
   ·have c2':(w==0)=false:=by simp[c2]
    rw[if_neg oM]
    refine⟨H',o',L',?_,q2,(K_.gr (gX.trans g1)).trans q3⟩
    simp(disch:=first|exact dz|fail) only[simprocAttr,-List.reduceReplicate,Gc,↓reduceIte,h1,lX,GR,h2,Option.isSome_some,Bool.not_true,c1',c2',q1]
theorem Gkh{n:Nat}(hn:n≤4){k0:Nat}(hk0:k0≤H.length)(hfresh:∀c t,o c=some t→k0≤c){glob:List Int}(m:J_ o H rb ⟨[],glob,[]⟩ L)
  {E0:Env}(h0:E0 0=.i n)(h4:E0 4=.ptr rb 0)(h5:E0 5=.i 0){r:Option (CX×Env×Gb)}(hr:den P (.loop IQ) E0 H=r):
  ∃E' H' o' L',r=some (.exit 0,E',H')∧Keeps H H' (fun c=>k0≤c)∧J_ o' H' rb ⟨List.replicate n (List.replicate 16 0),glob,[]⟩ L'∧(∀c t,o' c=some t→k0≤c)∧∀t,t∉wr IQ→E' t=E0 t:=by
 obtain⟨x',E',H',e,-,⟨rfl,g,hf⟩,fr⟩:=Gy (p:=P) (c:=IQ) (E0:=E0) (H0:=H)
  (fun q E H'=>Keeps H H' (fun c=>k0≤c)∧∃(j:Nat)(o':Tags)(L':Zd),E 5=.i j∧j≤n∧q=n-j∧J_ o' H' rb ⟨List.replicate j (List.replicate 16 0),glob,[]⟩ L'∧∀c t,o' c=some t→k0≤c)
  (fun x E' H'=>x=.exit 0∧Keeps H H' (fun c=>k0≤c)∧∃(o':Tags)(L':Zd),J_ o' H' rb ⟨List.replicate n (List.replicate 16 0),glob,[]⟩ L'∧∀c t,o' c=some t→k0≤c) (by
   rintro q E H' hE ⟨g,j,o',L',e5,hj,rfl,mj,hfr⟩
   have e0:=(hE 0 dK).trans h0
   have e4:=(hE 4 dK).trans h4
   have hc:=mj.cells
   by_cases c:j<n
   ·have c':decide ((j:Int)<(n:Int))=true:=GK oM
    have w1:IntKind.i64.wrap ((j:Int)+1)=((j+1:Nat):Int):=Gh oM
    have m2:=Uv (Jf:=1) (z:=[CV.int .i64 0]) (l:=(16:Int)) (c:=(16:Int)) oM
    rw[show(16:Int).toNat=16 from rfl,VQ]at m2
    obtain⟨Y,hY⟩:∃Y:Gb,Y=H'++[⟨ints (List.replicate 16 0),.rw,1⟩]++[⟨[.slice H'.length 0 16 16 1 false],.rw,1⟩]:=⟨_,rfl⟩
    have gY:Gr H' Y:=by rw[hY];exact(Gr.app _ _).app' _
    have lY:Y.length=H'.length+2:=by rw[hY];simp
    have y0:Y[H'.length]?=some ⟨ints (List.replicate 16 0),.rw,1⟩:=by rw[hY];simp
    have y1:Y[H'.length+1]?=some ⟨[.slice H'.length 0 16 16 1 false],.rw,1⟩:=by rw[hY];simp
    have mY:=mj.gr gY
    have Gd8:=mY.slots
    simp only[List.length_replicate]at Gd8
    obtain⟨H2,a1,a2,a3,a4⟩:=Gd8.append (k:=1) (new:=[.slice H'.length 0 16 16 1 false]) oM (by unfold JG;omega) rfl rfl
    have t2:H2[rb]?=some ⟨[L'.sv,L'.gv,L'.qv],.rw,0⟩:=by
     rw[a4 rb (mY.dom _ _ mY.top) (by rw[mY.top];simp)];exact mY.cells
    have hel:elems Y 1 (.slice (H'.length+1) 0 1 1 1 false)=some (1,[.slice H'.length 0 16 16 1 false]):=by
     rw[JC oM,y1];rfl
    have hrb:rb<H'.length:=mj.dom _ _ mj.top
    have z0:H2[H'.length]?=some ⟨ints (List.replicate 16 0),.rw,1⟩:=by
     rw[a4 _ oM (by
      cases e:o' H'.length with
      |none=>simp
      |some t=>exact absurd (mj.dom _ _ e) (Nat.lt_irrefl _)),y0]
    have hset:∀c,c≠rb→(H2.set rb ⟨[.slice Y.length 0 (j+1) (j+1) 1 true,L'.gv,L'.qv],.rw,0⟩)[c]?=H2[c]?:=fun c hc=>JU (Ne.symm hc)
    have hold:∀c t,o' c=some t→t≠(0,9,0)→t≠(0,8,0)→(H2.set rb ⟨[.slice Y.length 0 (j+1) (j+1) 1 true,L'.gv,L'.qv],.rw,0⟩)[c]?=H'[c]?:=fun c t h n1 n2=>by
     rw[hset c (by rintro rfl;rw[mj.top]at h;simp only[Gx]at h;exact n1 h.symm),a4 c (mY.dom _ _ h) (by rw[h];simpa using n2)]
     exact gY.keep c (mj.dom _ _ h) fun h=>h
    have ho:∀c t,o' c=some t→((o'.put H'.length (1,j,0)).put Y.length (0,8,0)) c=some t:=fun c t h=>by
     have:=mj.dom c t h
     rw[Tags.GY oM,Tags.GY oM,h]
    apply Gt (k':=n-(j+1))
    ·simp(disch:=first|exact dz|fail) only[simprocAttr,-List.reduceReplicate,Gc,↓reduceIte,IQ,e0,e4,e5,hc,c',m2,fill,splice,and_self]
     rw[←hY]
     simp(disch:=first|exact dz|fail) only[simprocAttr,-List.reduceReplicate,Gc,↓reduceIte,hel,a1,t2,w1,e4,e5]
     rfl
    ·omega
    ·refine⟨?_,j+1,(o'.put H'.length (1,j,0)).put Y.length (0,8,0),{L' with sv:=.slice Y.length 0 (j+1) (j+1) 1 true,ss:=L'.ss++[.slice H'.length 0 16 16 1 false]},uA,oM,rfl,?_,?_⟩
     ·refine⟨?_,fun d hd hn=>?_⟩
      ·have:=g.len;rw[List.length_set,a2];omega
      ·have hd':d<H'.length:=JH hd g.len
       rw[hset d (by rintro rfl;exact hn (hfr _ _ mj.top)),a4 d oM (fun h=>hn (hfr _ _ h)),gY.keep d hd' fun h=>h,g.keep d hd hn]
     ·refine⟨fun c t h=>?_,ho _ _ mj.top,by rw[KI (Gd t2)],?_,?_,fun i l hl=>?_,?_,?_⟩
      ·rw[List.length_set,a2]
       by_cases e:c=Y.length
       ·omega
       ·rw[Tags.GY e]at h
        by_cases e2:c=H'.length
        ·omega
        ·rw[Tags.GY e2]at h
         have:=mj.dom c t h;omega
      ·have:=mj.ns
       simp only[Nq,List.length_replicate,List.length_cons,List.length_nil]at this⊢
       omega
      ·refine .inr ⟨Y.length,true,sM,Tags.put_eq,?_,?_⟩
       ·rw[hset _ oM];exact a3
       ·have:=mj.ns
        simp only[Nq,List.length_replicate,List.length_cons,List.length_nil]at this⊢
        omega
      ·have hns:=mj.ns
       simp only[List.length_replicate]at hns
       simp only[List.getElem?_replicate]at hl
       split at hl
       ·rename_i hi
        simp only[Gx]at hl
        subst hl
        by_cases e:i=j
        ·subst e
         refine⟨.slice H'.length 0 16 16 1 false,?_,.inr ⟨H'.length,false,rfl,?_,?_,by simp[ints]⟩⟩
         ·show(L'.ss++_)[i]?=_
          rw[←hns];simp
         ·rw[Tags.GY oM,Tags.put_eq]
         ·rw[hset _ oM];exact z0
        ·obtain⟨v,v1,v2⟩:=mj.slot i (List.replicate 16 0) (by simp only[List.getElem?_replicate];rw[if_pos oM])
         refine⟨v,?_,v2.frame (fun c=>ho c _) fun c h=>hold c _ h sM sM⟩
         show(L'.ss++_)[i]?=_
         rw[QN oM];exact v1
       ·cases hl
      ·exact mj.glob.frame (fun c=>ho c _) fun c h=>hold c _ h sM sM
      ·exact mj.queue.frame (fun c=>ho c _) fun c h=>hold c _ h sM sM
     ·intro c t h
      have:=g.len
      by_cases e:c=Y.length
      ·omega
      ·rw[Tags.GY e]at h
       by_cases e2:c=H'.length
       ·omega
       ·rw[Tags.GY e2]at h
        exact hfr c t h
   ·have c':decide ((j:Int)<(n:Int))=false:=GC oM
    have:j=n:=by omega
    subst this
    apply Gl (x:=.exit 0)
    ·simp(disch:=first|exact dz|fail) only[simprocAttr,-List.reduceReplicate,Gc,↓reduceIte,IQ,e0,e5,c']
     rfl
    ·simp
    ·exact⟨rfl,g,o',L',mj,hfr⟩) _ ⟨Keeps.refl _ _,0,o,L,h5,oM,rfl,m,hfresh⟩
 obtain⟨o',L',h1,h2⟩:=hf
 exact⟨E',H',o',L',hr.symm.trans e,g,h1,h2,fr⟩
theorem GaR(n:Int)(h:1≤n∧n≤4):∃rb H' o L,run P 56 [.i n] H=some (.Ju [.ptr rb 0,.i 0],H')∧Gr H H'∧J_ o H' rb (Rt.new n.toNat) L∧∀c t,o c=some t→H.length≤c:=by
 obtain⟨n,rfl⟩:∃q:Nat,n=q:=⟨n.toNat,oM⟩
 have c0:¬((n:Int)<1):=by omega
 have c1:¬((4:Int)<(n:Int)):=by omega
 have m2:=ZH (H:=H) (Jf:=1) (z:=[CV.int .i64 0]) (l:=(16:Int)) (c:=(16:Int)) oM
 rw[show(16:Int).toNat=16 from rfl,VQ]at m2
 rw[K6]
 obtain⟨X,hX⟩:∃X:Gb,X=H++[⟨ints (List.replicate 16 0),.rw,1⟩]++[⟨[.Gf,.slice H.length 0 16 16 1 false,.Gf],.rw,0⟩]:=⟨_,rfl⟩
 have gX:Gr H X:=by rw[hX];exact(Gr.app _ _).app' _
 have mX:J_ ((Tags.put (fun _=>none) H.length (0,1,0)).put (H.length+1) (0,9,0)) X (H.length+1) ⟨[],List.replicate 16 0,[]⟩ ⟨.Gf,.slice H.length 0 16 16 1 false,.Gf,[]⟩:=by
  refine⟨fun c t hc=>?_,Tags.put_eq,by rw[hX];simp,rfl,.inl ⟨rfl,rfl,.inl rfl⟩,fun i l h=>by simp at h,.inr ⟨H.length,false,rfl,by rw[Tags.GY oM,Tags.put_eq],by rw[hX];simp,by simp[ints]⟩,.inl ⟨rfl,rfl,.inl rfl⟩⟩
  by_cases e:c=H.length+1
  ·subst e;rw[hX];simp
  ·rw[Tags.GY e]at hc
   by_cases e2:c=H.length
   ·subst e2;rw[hX];simp
   ·rw[Tags.GY e2]at hc;cases hc
 have hfr:∀c t,((Tags.put (fun _=>none) H.length (0,1,0)).put (H.length+1) (0,9,0)) c=some t→H.length≤c:=fun c t hc=>by
  by_cases e:c=H.length+1
  ·omega
  ·rw[Tags.GY e]at hc
   by_cases e2:c=H.length
   ·omega
   ·rw[Tags.GY e2]at hc;cases hc
 rw[Gi c56 _ _ sM]
 simp(disch:=first|exact dz|fail) only[simprocAttr,-List.reduceReplicate,Gc,↓reduceIte,Gv,c0,c1,decide_false,m2,fill,splice,and_self]
 rw[←hX]
 generalize hr:den P (.loop IQ) _ _=r
 obtain⟨E',H',o',L',rfl,g,m',Gpi,fr⟩:=Gkh (n:=n) oM (k0:=H.length) gX.len hfr mX uA uA uA hr
 have f4:=fr 4 dK
 simp only[Gg,Nat.reduceEqDiff,↓reduceIte]at f4
 refine⟨H.length+1,H',o',L',?_,gX.news g,m',Gpi⟩
 simp(disch:=first|exact dz|fail) only[simprocAttr,-List.reduceReplicate,Gc,↓reduceIte,f4]
end
end Go.Cs.Tryz

namespace Go.Cs
open Go
structure VF where
 hb:Nat
 L:GD
 rb:Nat
 o1:Tags
 v:Nat→CV
 qb:Nat
 o2:Tags
 L2:N_
 ub:Nat
 o3:Tags
 L3:Zd
def VF.own(D:VF)(sb c:Nat):Prop:=c=sb∨c∈D.L.all D.hb∨D.o1 c≠none∨D.o2 c≠none∨D.o3 c≠none
structure AY(H:Gb)(sb:Nat)(s t:Hp)(R T:Rt)(D:VF):Prop where
 top:H[sb]?=some ⟨[.ptr D.hb 0,.ptr D.rb 0,.ptr D.qb 0,.ptr D.ub 0],.rw,0⟩
 ph:PH H D.hb s D.L
 pr:K9 D.o1 H D.rb R D.v
 rh:JO D.o2 H D.qb t D.L2
 rr:J_ D.o3 H D.ub T D.L3
 d0:sb∉D.L.all D.hb∧D.o1 sb=none∧D.o2 sb=none∧D.o3 sb=none
 d1:∀c∈D.L.all D.hb,D.o1 c=none∧D.o2 c=none∧D.o3 c=none
 d2:∀c,D.o1 c≠none→D.o2 c=none∧D.o3 c=none
 d3:∀c,D.o2 c≠none→D.o3 c=none
structure Uf(sb:Nat)(D:VF)(H:Gb)(D':VF)(H':Gb):Prop where
 len:H.length≤H'.length
 keep:∀c,c<H.length→¬D.own sb c→H'[c]?=H[c]?
 own:∀c,c<H.length→D'.own sb c→D.own sb c
 same:D'.hb=D.hb∧D'.rb=D.rb∧D'.qb=D.qb∧D'.ub=D.ub
theorem Uf.trans{sb:Nat}{D D' D'':VF}{H H' Eo:Gb}(a:Uf sb D H D' H')(b:Uf sb D' H' D'' Eo):Uf sb D H D'' Eo:=
 ⟨Jr a.len b.len,fun c h hn=>by rw[b.keep c (JH h a.len) fun h2=>hn (a.own c h h2),a.keep c h hn],fun c h hd=>a.own c h (b.own c (JH h a.len) hd),b.same.1.trans a.same.1,b.same.2.1.trans a.same.2.1,b.same.2.2.1.trans a.same.2.2.1,b.same.2.2.2.trans a.same.2.2.2⟩
theorem Uf.gr{sb:Nat}{D:VF}{H H':Gb}(g:Gr H H'):Uf sb D H D H':=⟨g.len,fun c h _=>g.keep c h fun h=>h,fun _ _ h=>h,rfl,rfl,rfl,rfl⟩
theorem Dw{α:Type}{x:Option α}{t:α}(h:x=some t):x≠none:=by rw[h];simp
theorem Jo{α:Type}{x:Option α}(h:¬x≠none):x=none:=by
 cases x with
 |none=>rfl
 |some a=>exact absurd sM h
section
variable {H H' : Gb} {sb : Nat} {s t s' t' : Hp} {R T R' T' : Rt} {D : VF}
theorem AY.gr(m:AY H sb s t R T D)(g:Gr H H'):AY H' sb s t R T D where
 top:=g.get m.top
 ph:=m.ph.gr g
 pr:=m.pr.gr g
 rh:=m.rh.gr g
 rr:=m.rr.gr g
 d0:=m.d0
 d1:=m.d1
 d2:=m.d2
 d3:=m.d3
theorem AY.Pt(m:AY H sb s t R T D){v:CV}{r:Option (CV×Gb)}(h:Did H D.hb D.L s' v r):∃H',r=some (v,H')∧AY H' sb s' t R T D∧Uf sb D H D H':=by
 obtain⟨H',h1,k,p⟩:=h
 have old:∀c,c<H.length→c∉D.L.all D.hb→H'[c]?=H[c]?:=k.keep
 refine⟨H',h1,⟨?_,p,?_,?_,?_,m.d0,m.d1,m.d2,m.d3⟩,⟨k.len,fun c hc hn=>old c hc fun h=>hn (.inr (.inl h)),fun c _ h=>h,rfl,rfl,rfl,rfl⟩⟩
 ·rw[old sb (Gd m.top) m.d0.1,m.top]
 ·exact m.pr.frame (fun c u h=>JH (m.pr.dom c u h) k.len) (fun _ _ h=>h) fun c u h=>old c (m.pr.dom c u h) fun hc=>by rw[(m.d1 c hc).1]at h;cases h
 ·exact m.rh.frame (fun c u h=>JH (m.rh.dom c u h) k.len) (fun _ _ h=>h) fun c u h=>old c (m.rh.dom c u h) fun hc=>by rw[(m.d1 c hc).2.1]at h;cases h
 ·exact m.rr.frame (fun c u h=>JH (m.rr.dom c u h) k.len) (fun _ _ h=>h) fun c u h=>old c (m.rr.dom c u h) fun hc=>by rw[(m.d1 c hc).2.2]at h;cases h
theorem K_.new{o o':Tags}(a:K_ o H o' H'){c:Nat}(h:o' c≠none):o c≠none∨H.length≤c:=by
 by_cases hc:c<H.length
 ·rw[a.tag c hc]at h;exact .inl h
 ·exact .inr oM
theorem AY.S9(m:AY H sb s t R T D){v:CV}{r:Option (CV×Gb)}(h:Zm D.o2 H D.qb t' v r):∃H' D',r=some (v,H')∧AY H' sb s t' R T D'∧Uf sb D H D' H':=by
 obtain⟨H',o',L',h1,p,k⟩:=h
 have lt:∀c∈D.L.all D.hb,c<H.length:=m.ph.lt
 have fresh:∀c,o' c≠none→D.o2 c≠none∨H.length≤c:=fun c h=>k.new h
 refine⟨H',{D with o2:=o',L2:=L'},h1,⟨?_,?_,?_,p,?_,?_,?_,?_,?_⟩,⟨k.len,fun c hc hn=>k.keep c hc (Jo fun h=>hn (.inr (.inr (.inr (.inl h))))),fun c hc h=>?_,rfl,rfl,rfl,rfl⟩⟩
 ·rw[k.keep sb (Gd m.top) m.d0.2.2.1,m.top]
 ·exact m.ph.frame fun c hc=>k.keep c (lt c hc) (m.d1 c hc).2.1
 ·exact m.pr.frame (fun c u h=>JH (m.pr.dom c u h) k.len) (fun _ _ h=>h) fun c u h=>k.keep c (m.pr.dom c u h) (m.d2 c (Dw h)).1
 ·exact m.rr.frame (fun c u h=>JH (m.rr.dom c u h) k.len) (fun _ _ h=>h) fun c u h=>k.keep c (m.rr.dom c u h) (Jo fun h2=>by rw[m.d3 c h2]at h;cases h)
 ·exact⟨m.d0.1,m.d0.2.1,Jo fun h=>by rcases fresh _ h with h|h;exact h m.d0.2.2.1;exact absurd (Gd m.top) oM,m.d0.2.2.2⟩
 ·exact fun c hc=>⟨(m.d1 c hc).1,Jo fun h=>by rcases fresh _ h with h|h;exact h (m.d1 c hc).2.1;exact absurd (lt c hc) oM,(m.d1 c hc).2.2⟩
 ·intro c hc
  refine⟨Jo fun h=>?_,(m.d2 c hc).2⟩
  rcases fresh _ h with h|h
  ·exact h (m.d2 c hc).1
  ·cases e:D.o1 c with
   |none=>exact hc e
   |some u=>exact absurd (m.pr.dom c u e) oM
 ·intro c hc
  rcases fresh _ hc with h|h
  ·exact m.d3 c h
  ·cases e:D.o3 c with
   |none=>rfl
   |some u=>exact absurd (m.rr.dom c u e) oM
 ·rcases h with h|h|h|h|h
  ·exact .inl h
  ·exact .inr (.inl h)
  ·exact .inr (.inr (.inl h))
  ·rw[show({D with o2:=o',L2:=L'}:VF).o2 c=D.o2 c from k.tag c hc]at h
   exact .inr (.inr (.inr (.inl h)))
  ·exact .inr (.inr (.inr (.inr h)))
theorem AY.Gig(m:AY H sb s t R T D){v:CV}{r:Option (CV×Gb)}(h:Gfr D.o1 H D.rb R' v r):∃H' D',r=some (v,H')∧AY H' sb s t R' T D'∧Uf sb D H D' H':=by
 obtain⟨H',o',w',h1,p,k⟩:=h
 have lt:∀c∈D.L.all D.hb,c<H.length:=m.ph.lt
 have fresh:∀c,o' c≠none→D.o1 c≠none∨H.length≤c:=fun c h=>k.new h
 have n2:∀c,D.o2 c≠none→D.o1 c=none:=fun c h=>Jo fun h2=>h (m.d2 c h2).1
 have n3:∀c,D.o3 c≠none→D.o1 c=none:=fun c h=>Jo fun h2=>h (m.d2 c h2).2
 refine⟨H',{D with o1:=o',v:=w'},h1,⟨?_,?_,p,?_,?_,?_,?_,?_,m.d3⟩,⟨k.len,fun c hc hn=>k.keep c hc (Jo fun h=>hn (.inr (.inr (.inl h)))),fun c hc h=>?_,rfl,rfl,rfl,rfl⟩⟩
 ·rw[k.keep sb (Gd m.top) m.d0.2.1,m.top]
 ·exact m.ph.frame fun c hc=>k.keep c (lt c hc) (m.d1 c hc).1
 ·exact m.rh.frame (fun c u h=>JH (m.rh.dom c u h) k.len) (fun _ _ h=>h) fun c u h=>k.keep c (m.rh.dom c u h) (n2 c (Dw h))
 ·exact m.rr.frame (fun c u h=>JH (m.rr.dom c u h) k.len) (fun _ _ h=>h) fun c u h=>k.keep c (m.rr.dom c u h) (n3 c (Dw h))
 ·exact⟨m.d0.1,Jo fun h=>by rcases fresh _ h with h|h;exact h m.d0.2.1;exact absurd (Gd m.top) oM,m.d0.2.2⟩
 ·exact fun c hc=>⟨Jo fun h=>by rcases fresh _ h with h|h;exact h (m.d1 c hc).1;exact absurd (lt c hc) oM,(m.d1 c hc).2⟩
 ·intro c hc
  rcases fresh _ hc with h|h
  ·exact m.d2 c h
  ·refine⟨Jo fun h2=>?_,Jo fun h2=>?_⟩
   ·cases e:D.o2 c with
    |none=>exact h2 e
    |some u=>exact absurd (m.rh.dom c u e) oM
   ·cases e:D.o3 c with
    |none=>exact h2 e
    |some u=>exact absurd (m.rr.dom c u e) oM
 ·rcases h with h|h|h|h|h
  ·exact .inl h
  ·exact .inr (.inl h)
  ·rw[show({D with o1:=o',v:=w'}:VF).o1 c=D.o1 c from k.tag c hc]at h
   exact .inr (.inr (.inl h))
  ·exact .inr (.inr (.inr (.inl h)))
  ·exact .inr (.inr (.inr (.inr h)))
theorem AY.Gia(m:AY H sb s t R T D){v:CV}{r:Option (CV×Gb)}(h:GaW D.o3 H D.ub T' v r):∃H' D',r=some (v,H')∧AY H' sb s t R T' D'∧Uf sb D H D' H':=by
 obtain⟨H',o',w',h1,p,k⟩:=h
 have lt:∀c∈D.L.all D.hb,c<H.length:=m.ph.lt
 have fresh:∀c,o' c≠none→D.o3 c≠none∨H.length≤c:=fun c h=>k.new h
 refine⟨H',{D with o3:=o',L3:=w'},h1,⟨?_,?_,?_,?_,p,?_,?_,?_,?_⟩,⟨k.len,fun c hc hn=>k.keep c hc (Jo fun h=>hn (.inr (.inr (.inr (.inr h))))),fun c hc h=>?_,rfl,rfl,rfl,rfl⟩⟩
 ·rw[k.keep sb (Gd m.top) m.d0.2.2.2,m.top]
 ·exact m.ph.frame fun c hc=>k.keep c (lt c hc) (m.d1 c hc).2.2
 ·exact m.pr.frame (fun c u h=>JH (m.pr.dom c u h) k.len) (fun _ _ h=>h) fun c u h=>k.keep c (m.pr.dom c u h) (m.d2 c (Dw h)).2
 ·exact m.rh.frame (fun c u h=>JH (m.rh.dom c u h) k.len) (fun _ _ h=>h) fun c u h=>k.keep c (m.rh.dom c u h) (m.d3 c (Dw h))
 ·exact⟨m.d0.1,m.d0.2.1,m.d0.2.2.1,Jo fun h=>by rcases fresh _ h with h|h;exact h m.d0.2.2.2;exact absurd (Gd m.top) oM⟩
 ·exact fun c hc=>⟨(m.d1 c hc).1,(m.d1 c hc).2.1,Jo fun h=>by rcases fresh _ h with h|h;exact h (m.d1 c hc).2.2;exact absurd (lt c hc) oM⟩
 ·intro c hc
  refine⟨(m.d2 c hc).1,Jo fun h=>?_⟩
  rcases fresh _ h with h|h
  ·exact h (m.d2 c hc).2
  ·cases e:D.o1 c with
   |none=>exact hc e
   |some u=>exact absurd (m.pr.dom c u e) oM
 ·intro c hc
  refine Jo fun h=>?_
  rcases fresh _ h with h|h
  ·exact h (m.d3 c hc)
  ·cases e:D.o2 c with
   |none=>exact hc e
   |some u=>exact absurd (m.rh.dom c u e) oM
 ·rcases h with h|h|h|h|h
  ·exact .inl h
  ·exact .inr (.inl h)
  ·exact .inr (.inr (.inl h))
  ·exact .inr (.inr (.inr (.inl h)))
  ·rw[show({D with o3:=o',L3:=w'}:VF).o3 c=D.o3 c from k.tag c hc]at h
   exact .inr (.inr (.inr (.inr h)))
theorem AY.RJ{D':VF}(m:AY H' sb s t R T D')(g:Uf sb D H D' H'):H'[sb]?=some ⟨[.ptr D.hb 0,.ptr D.rb 0,.ptr D.qb 0,.ptr D.ub 0],.rw,0⟩:=by
 rw[m.top,g.same.1,g.same.2.1,g.same.2.2.1,g.same.2.2.2]
theorem AY.lt(m:AY H sb s t R T D):∀c,D.own sb c→c<H.length:=fun c h=>by
 rcases h with rfl|h|h|h|h
 ·exact Gd m.top
 ·exact m.ph.lt c h
 ·cases e:D.o1 c with
  |none=>exact absurd e h
  |some u=>exact m.pr.dom c u e
 ·cases e:D.o2 c with
  |none=>exact absurd e h
  |some u=>exact m.rh.dom c u e
 ·cases e:D.o3 c with
  |none=>exact absurd e h
  |some u=>exact m.rr.dom c u e
theorem Ls{b n sp Dj:Int}{fst Ed:Nat}(h:(s.claim b n fst sp Ed Dj).2≠0):(s.claim b n fst sp Ed Dj).1=s:=by
 unfold Hp.claim at h⊢
 split
 ·rename_i c
  rw[if_pos c]at h
  split
  ·rfl
  ·rename_i c2
   rw[if_neg c2]at h
   exact absurd rfl h
 ·rfl
theorem Lj{b:Nat}{n sp Dj:Int}{fst Ed:Nat}(h:(s.claim b n fst sp Ed Dj).2=0):s.GI b=0∧1≤b∧b<s.blk.length:=by
 unfold Hp.claim at h
 split at h
 ·rename_i c
  split at h
  ·exact absurd h sM
  ·rename_i c2
   have hb:b<s.blk.length:=by omega
   refine⟨?_,oM,hb⟩
   have hx:s.blk[b]?=some s.blk[b]:=J9 hb
   rw[K6,drop_cons hx]at c2
   obtain⟨m,hm⟩:∃m,n.toNat=m+1:=⟨n.toNat-1,oM⟩
   rw[hm,List.take_succ_cons,List.any_cons]at c2
   unfold Hp.GI
   rw[Qc,hx]
   simp only[Option.getD_some]
   simp only[Bool.or_eq_true,not_or,Bool.not_eq_true,bne_eq_false_iff_eq]at c2
   exact c2.1.1
 ·exact absurd h sM
theorem Hp.Fz.place{s:Hp}(f:s.Fz)(a r d kd:Int):(s.place a r d kd).1.Fz:=by
 unfold Hp.place
 split
 ·split
  ·exact f
  ·exact f
 ·exact f
theorem Hp.Ok.place{s:Hp}(k:s.Ok)(hb:s.born<1000000000000)(a r d kd:Int):(s.place a r d kd).1.Ok:=by
 unfold Hp.place
 split
 ·rename_i hv
  split
  ·rename_i hf
   obtain⟨q,rfl,e1,e2,e3⟩:=k.RI (by have:=Ae r.toNat d.toNat;omega) hf
   have vb:=Qu hv
   have hv':JJ (r.toNat:Int) (d.toNat:Int) (kd.toNat:Int)=true:=by rw[NR];omega
   exact k.Va hv' e1 e2 e3 hb
  ·exact k
 ·exact k
theorem Hp.GaG{s:Hp}(a r d kd:Int):(s.place a r d kd).1.born≤s.born+1:=by
 unfold Hp.place
 split
 ·split
  ·exact Nat.le_refl _
  ·exact Nat.le_succ _
 ·exact Nat.le_succ _
end
end Go.Cs
namespace Go.Cs.Tryz
open Go Go.Cs A
def C30:Gm:=⟨31,0,T [e 4 (.new [i 0,i 0,i 0])] (T [m 6 1,e 7 (.mm true [t 6,k 0]),bk 8 .rem 7 40,m 5 8] (S (B 0 (T [m 10 5,bk 11 .lss 10 24,m 9 11] (C 9 (Q [m 12 5,m 13 0,z 14 13,f 15 3 14,l 16 1 15,q1 17 115 16,b 18 .rem 12 17,m 19 5,bk 20 .quo 19 4,e 21 (.build [i 0,i 0,i 0] [(0,1,k 0),(1,1,t 18),(2,1,t 20)]),st 3 4 21]) (T [m 23 5,bk 24 .lss 23 36,m 22 24] (I 22 (Q [m 25 5,bk 26 .sub 25 24,e 27 (.build [i 0,i 0,i 0] [(0,1,k 1),(2,1,t 26)]),st 3 4 27])))))) (Q [m 28 5,bk 29 .sub 28 36,e 30 (.build [i 0,i 0,i 0] [(0,1,k 2),(2,1,t 29)]),st 3 4 30]))),[.cell 4 true 3]⟩
theorem c30:P 30=some C30:=by kernel_rfl
def C58:Gm:=⟨44,0,T [bo 1 0,e 2 (.new [i 0,i 0,i 0])] (T [e 4 (.Qp 4 1 (t 1) (k 1)),l 5 1 4,e 6 (.conv .i64 (t 5)),bk 7 .rem 6 5,e 8 (.Qp 4 1 (t 1) (k 2)),l 9 1 8,e 10 (.conv .i64 (t 9)),bk 11 .rem 10 6,e 12 (.build [i 0,i 0,i 0] [(0,1,t 7),(1,1,t 11)]),e 3 (.new [i 0,i 0,i 0]),st 3 3 12] (S (T [e 13 (.Qp 4 1 (t 1) (k 0)),l 14 1 13,e 15 (.bin .rem (t 14) (c (.int .u8 8)))] (B 0 (T [e 17 (.bin .eql (t 15) (c (.int .u8 4))),m 16 17] (C 16 (R [f 18 0 3,l 19 1 18,bk 20 .rem 19 3,e 21 (.bin .add (k 1) (t 20)),f 22 2 3,u (.store 1 (t 22) (k 1)),f 23 0 3,st 1 23 21]) (T [e 25 (.bin .eql (t 15) (c (.int .u8 5))),m 24 25] (C 24 (R [f 26 0 3,l 27 1 26,bk 28 .rem 27 3,e 29 (.bin .add (k 2) (t 28)),f 30 2 3,u (.store 1 (t 30) (k 2)),f 31 0 3,st 1 31 29]) (T [e 33 (.bin .eql (t 15) (c (.int .u8 6))),m 32 33] (C 32 (R [f 34 2 3,u (.store 1 (t 34) (k 3))]) (T [e 36 (.bin .eql (t 15) (c (.int .u8 7))),m 35 36] (I 35 (R [e 37 (.Qp 4 1 (t 1) (k 2)),l 38 1 37,e 39 (.conv .i64 (t 38)),bk 40 .rem 39 100,e 41 (.bin .add (k 32) (t 40)),f 42 1 3,st 1 42 41]))))))))))) (Q [lg 43 3 3,st 3 2 43]))),[.cell 2 true 3]⟩
theorem c58:P 58=some C58:=by kernel_rfl
def C59:Gm:=⟨53,0,T [n 4 0] (S (B 0 (T [m 6 1,bk 7 .eql 6 (-77),m 5 7] (C 5 (Q [m 8 0,q1 9 151 8,m 4 9]) (T [m 11 1,bk 12 .geq 11 1000,m 10 12] (C 10 (Q [m 13 1,bk 14 .sub 13 1000,m 4 14]) (T [m 16 1,bk 17 .lss 16 0,m 18 17,gf 18 (m 19 1),gf 18 (bk 20 .geq 19 100),or 21 18 20,m 15 21] (C 15 (Q [m 22 1,m 4 22]) (T [m 24 0,z 25 24,f 26 2 25,l 27 1 26,z 28 27,f 29 1 28,l 30 1 29,le 31 30,bk 32 .eql 31 0,m 23 32] (I 23 (Q [n 4 0])))))))))) (S (D [⟨m 33 0,0,0,0⟩,⟨z 34 33,1,0,0⟩,⟨f 35 2 34,2,0,0⟩,⟨l 36 1 35,3,1,0⟩,⟨z 37 36,4,0,0⟩,⟨f 38 1 37,5,0,0⟩,⟨l 39 1 38,6,1,0⟩,⟨m 40 1,7,0,0⟩,⟨m 41 0,8,0,0⟩,⟨z 42 41,9,0,0⟩,⟨f 43 2 42,10,0,0⟩,⟨l 44 1 43,11,1,0⟩,⟨z 45 44,12,0,0⟩,⟨f 46 1 45,13,0,0⟩,⟨l 47 1 46,14,1,0⟩,⟨le 48 47,15,0,0⟩,⟨b 49 .rem 40 48,16,0,0⟩,⟨x 50 8 39 49,17,0,0⟩,⟨f 51 0 50,18,0,0⟩,⟨l 52 1 51,19,1,0⟩,⟨m 4 52,20,0,0⟩]) .ret)),[r 4]⟩
theorem c59:P 59=some C59:=by kernel_rfl
def C63:Gm:=⟨26,0,T [nb 8 false] (S (D [⟨m 9 0,0,0,0⟩,⟨z 10 9,1,0,0⟩,⟨f 11 2 10,2,0,0⟩,⟨l 12 1 11,3,1,0⟩,⟨m 13 1,4,0,0⟩,⟨m 14 2,5,0,0⟩,⟨m 15 3,6,0,0⟩,⟨q4 16 156 12 13 14 15,7,3,0⟩,⟨m 17 0,8,0,0⟩,⟨z 18 17,9,0,0⟩,⟨f 19 0 18,10,0,0⟩,⟨l 20 1 19,11,1,0⟩,⟨m 21 1,12,0,0⟩,⟨m 22 2,13,0,0⟩,⟨m 23 3,14,0,0⟩,⟨q4 24 122 20 21 22 23,15,3,1⟩,⟨b 25 .eql 16 24,16,0,2⟩,⟨m 8 25,17,0,2⟩]) .ret),[r 8]⟩
theorem c63:P 63=some C63:=by kernel_rfl
def C64:Gm:=⟨53,0,T [nb 6 false] (T [m 8 0,m 9 1,q2 10 30 8 9,e 7 (.new [i 0,i 0,i 0]),st 3 7 10] (S (S (D [⟨f 11 0 7,0,0,0⟩,⟨l 12 1 11,1,1,0⟩,⟨bk 13 .eql 12 2,2,0,0⟩,⟨m 14 13,3,0,0⟩,⟨gt 14 (m 17 0),6,0,0⟩,⟨gt 14 (z 18 17),7,0,0⟩,⟨gt 14 (f 19 3 18),8,0,0⟩,⟨gt 14 (l 20 1 19),9,1,0⟩,⟨gt 14 (q1 21 157 20),10,3,0⟩,⟨gt 14 (f 15 2 7),4,0,0⟩,⟨gt 14 (l 16 1 15),5,1,0⟩,⟨gt 14 (le 22 21),11,0,1⟩,⟨gt 14 (b 23 .geq 16 22),12,0,1⟩,⟨an 24 14 23,13,0,1⟩]) (I 24 (S (D [⟨m 25 0,0,0,0⟩,⟨z 26 25,1,0,0⟩,⟨f 27 3 26,2,0,0⟩,⟨l 28 1 27,3,1,0⟩,⟨m 29 2,4,0,0⟩,⟨q2 30 158 28 29,5,3,0⟩,⟨m 31 0,6,0,0⟩,⟨z 32 31,7,0,0⟩,⟨f 33 1 32,8,0,0⟩,⟨l 34 1 33,9,1,0⟩,⟨m 35 2,10,0,0⟩,⟨q2 36 159 34 35,11,3,1⟩,⟨b 37 .eql 30 36,12,0,2⟩,⟨m 6 37,13,0,2⟩]) .ret))) (S (D [⟨m 38 0,0,0,0⟩,⟨z 39 38,1,0,0⟩,⟨f 40 3 39,2,0,0⟩,⟨l 41 1 40,3,1,0⟩,⟨lg 42 3 7,4,1,0⟩,⟨m 43 2,5,0,0⟩,⟨q3 44 160 41 42 43,6,3,0⟩,⟨m 45 0,7,0,0⟩,⟨z 46 45,8,0,0⟩,⟨f 47 1 46,9,0,0⟩,⟨l 48 1 47,10,1,0⟩,⟨lg 49 3 7,11,1,0⟩,⟨m 50 2,12,0,0⟩,⟨q3 51 34 48 49 50,13,3,1⟩,⟨b 52 .eql 44 51,14,0,2⟩,⟨m 6 52,15,0,2⟩]) .ret))),[r 6]⟩
theorem c64:P 64=some C64:=by kernel_rfl
end Go.Cs.Tryz
namespace Go.Cs
open Go
def u8s(l:List Int):List CV:=l.map fun x=>CV.int .u8 x
section
variable {F : Jp} {E : Env} {H : Gb}
def RV(n e:Nat)(x i:CV)(H:Gb):Option (CV×Gb):=match x,i with
 |.ptr b o,.int _ i=>if 0≤i∧i<(n:Int)then some (.ptr b (o+i.toNat*e),H)else none
 |_,_=>none
def PN(n e:Nat)(x i:CV):Option P5:=match x,i with
 |.ptr b o,.int _ i=>if 0≤i∧i<(n:Int)then okV (.ptr b (o+i.toNat*e))else none
 |_,_=>none
theorem NK{n e:Nat}{x i:J7}:K3 F (.Qp n e x i) E H=RV n e (E.ev x) (E.ev i) H:=by
 simp only[K3,Vu,GL,RV]
 cases E.ev x<;>cases E.ev i<;>first|rfl|skip
 dsimp only
 split<;>rfl
theorem ES{n e:Nat}{x i:J7}:GL (.Qp n e x i) E H=PN n e (E.ev x) (E.ev i):=by
 simp only[GL,PN]
 cases E.ev x<;>cases E.ev i<;>first|rfl|skip
theorem NN{n e b o:Nat}{k:IntKind}{i:Int}(h:0≤i∧i<(n:Int)):RV n e (.ptr b o) (.int k i) H=some (.ptr b (o+i.toNat*e),H):=if_pos h
theorem BO{n e b o:Nat}{k:IntKind}{i:Int}(h:0≤i∧i<(n:Int)):PN n e (.ptr b o) (.int k i)=okV (.ptr b (o+i.toNat*e)):=if_pos h
end
def Rt.vals(R:Rt):List Int:=R.flat++(R.glob++R.queue)
theorem Rt.TD{R:Rt}(k:R.Ok){kd mu ix a:Int}{v:Int}(h:v∈(R.set kd mu ix a).1.vals):v∈R.vals∨v=a:=by
 unfold Rt.set at h
 split at h
 ·rename_i x hx
  split at h
  ·exact .inl h
  ·obtain⟨l1,l2,l3,l4⟩:=Rt.Bg k hx
   have e:=fun i hi=>Rt.LP k l2 l4 a i hi
   have key:∀i,i≤2→v∈(R.setAt x a).li i→v∈R.li i∨v=a:=fun i hi hv=>by
    rw[e i hi]at hv
    split at hv
    ·exact List.mem_or_eq_of_mem_set hv
    ·exact .inl hv
   simp only[Rt.vals,NG]at h⊢
   rcases h with h|h|h
   ·rcases key 0 oM h with h|h
    ·exact .inl (.inl h)
    ·exact .inr h
   ·rcases key 1 oM h with h|h
    ·exact .inl (.inr (.inl h))
    ·exact .inr h
   ·rcases key 2 oM h with h|h
    ·exact .inl (.inr (.inr h))
    ·exact .inr h
 ·exact .inl h
theorem Rt.GbZ{R:Rt}{a v:Int}(h:v∈(R.push a).1.vals):v∈R.vals∨v=a:=by
 unfold Rt.push at h
 split at h
 ·exact .inl h
 ·split at h
  ·exact .inl h
  ·simp only[Rt.vals,Rt.flat,NG,Uy]at h⊢
   rcases h with h|h|h|h
   ·exact .inl (.inl h)
   ·exact .inl (.inr (.inl h))
   ·exact .inl (.inr (.inr h))
   ·exact .inr h
structure FX(H:Gb)(sb:Nat)(s:Hp)(R:Rt)(D:VF):Prop where
 m:AY H sb s s R R D
 k:s.Ok
 f:s.Fz
 kr:R.Ok
end Go.Cs
namespace Go.Cs.Tryz
open Go Go.Cs
section
variable {H : Gb} {sb : Nat} {s t : Hp} {R T : Rt} {D : VF}
theorem SF{x0 x1 x2 x3:Int}(h0:0≤x0∧x0≤255)(h1:0≤x1∧x1≤255)(h2:0≤x2∧x2≤255):
  ∃r d kd H',run P 58 [.agg (u8s [x0,x1,x2,x3])] H=some (.agg (Je r d kd),H')∧Gr H H'∧JJ r d kd=true:=by
 have e0:x0.tmod 8=x0 % 8:=Int.tmod_eq_emod_of_nonneg h0.1
 have e1:x1.tmod 5=x1 % 5:=Int.tmod_eq_emod_of_nonneg h1.1
 have e2:x2.tmod 6=x2 % 6:=Int.tmod_eq_emod_of_nonneg h2.1
 have e4:x2.tmod 100=x2 % 100:=Int.tmod_eq_emod_of_nonneg h2.1
 have e3:(x1 % 5).tmod 3=x1 % 5 % 3:=Int.tmod_eq_emod_of_nonneg oM
 have w1:IntKind.i64.wrap x1=x1:=Gh oM
 have w2:IntKind.i64.wrap x2=x2:=Gh oM
 have w3:IntKind.i64.wrap (1+x1 % 5 % 3)=1+x1 % 5 % 3:=Gh oM
 have w4:IntKind.i64.wrap (2+x1 % 5 % 3)=2+x1 % 5 % 3:=Gh oM
 have w5:IntKind.i64.wrap (32+x2 % 100)=32+x2 % 100:=Gh oM
 have z:x0 % 8=4∨x0 % 8=5∨x0 % 8=6∨x0 % 8=7∨(x0 % 8≠4∧x0 % 8≠5∧x0 % 8≠6∧x0 % 8≠7):=by omega
 obtain⟨B,hB⟩:∃B:JI,B=⟨[.int .u8 x0,.int .u8 x1,.int .u8 x2,.int .u8 x3],.rw,0⟩:=⟨_,rfl⟩
 unfold u8s Je
 simp only[List.map_cons,List.map_nil]
 rcases z with z|z|z|z|⟨z4,z5,z6,z7⟩
 ·have q4:(x0 % 8==4)=true:=by simp[z]
  refine⟨1+x1 % 5 % 3,x2 % 6,1,H++[B]++[⟨[.i (1+x1 % 5 % 3),.i (x2 % 6),.i 1],.rw,0⟩]++[⟨[.i (1+x1 % 5 % 3),.i (x2 % 6),.i 1],.rw,0⟩],?_,((Gr.app H _).app' _).app' _,by rw[NR];omega⟩
  rw[Gi c58 _ _ sM,hB]
  simp(disch:=first|exact dz|fail) only[simprocAttr,Gc,↓reduceIte,Gv,Nf,Qi,NK,NN,GA,e0,e1,e2,e3,w1,w2,w3,q4,fill,splice,and_self]
 ·have q4:(x0 % 8==4)=false:=by simp[z]
  have q5:(x0 % 8==5)=true:=by simp[z]
  refine⟨2+x1 % 5 % 3,x2 % 6,2,H++[B]++[⟨[.i (2+x1 % 5 % 3),.i (x2 % 6),.i 2],.rw,0⟩]++[⟨[.i (2+x1 % 5 % 3),.i (x2 % 6),.i 2],.rw,0⟩],?_,((Gr.app H _).app' _).app' _,by rw[NR];omega⟩
  rw[Gi c58 _ _ sM,hB]
  simp(disch:=first|exact dz|fail) only[simprocAttr,Gc,↓reduceIte,Gv,Nf,Qi,NK,NN,GA,e0,e1,e2,e3,w1,w2,w4,q4,q5,fill,splice,and_self]
 ·have q4:(x0 % 8==4)=false:=by simp[z]
  have q5:(x0 % 8==5)=false:=by simp[z]
  have q6:(x0 % 8==6)=true:=by simp[z]
  refine⟨x1 % 5,x2 % 6,3,H++[B]++[⟨[.i (x1 % 5),.i (x2 % 6),.i 3],.rw,0⟩]++[⟨[.i (x1 % 5),.i (x2 % 6),.i 3],.rw,0⟩],?_,((Gr.app H _).app' _).app' _,by rw[NR];omega⟩
  rw[Gi c58 _ _ sM,hB]
  simp(disch:=first|exact dz|fail) only[simprocAttr,Gc,↓reduceIte,Gv,Nf,Qi,NK,NN,GA,e0,e1,e2,w1,w2,q4,q5,q6,fill,splice,and_self]
 ·have q4:(x0 % 8==4)=false:=by simp[z]
  have q5:(x0 % 8==5)=false:=by simp[z]
  have q6:(x0 % 8==6)=false:=by simp[z]
  have q7:(x0 % 8==7)=true:=by simp[z]
  refine⟨x1 % 5,32+x2 % 100,0,H++[B]++[⟨[.i (x1 % 5),.i (32+x2 % 100),.i 0],.rw,0⟩]++[⟨[.i (x1 % 5),.i (32+x2 % 100),.i 0],.rw,0⟩],?_,((Gr.app H _).app' _).app' _,by rw[NR];omega⟩
  rw[Gi c58 _ _ sM,hB]
  simp(disch:=first|exact dz|fail) only[simprocAttr,Gc,↓reduceIte,Gv,Nf,Qi,NK,NN,GA,e0,e1,e2,e4,w1,w2,w5,q4,q5,q6,q7,fill,splice,and_self]
 ·have q4:(x0 % 8==4)=false:=by simp[z4]
  have q5:(x0 % 8==5)=false:=by simp[z5]
  have q6:(x0 % 8==6)=false:=by simp[z6]
  have q7:(x0 % 8==7)=false:=by simp[z7]
  refine⟨x1 % 5,x2 % 6,0,H++[B]++[⟨[.i (x1 % 5),.i (x2 % 6),.i 0],.rw,0⟩]++[⟨[.i (x1 % 5),.i (x2 % 6),.i 0],.rw,0⟩],?_,((Gr.app H _).app' _).app' _,by rw[NR];omega⟩
  rw[Gi c58 _ _ sM,hB]
  simp(disch:=first|exact dz|fail) only[simprocAttr,Gc,↓reduceIte,Gv,Nf,Qi,NK,NN,GA,e0,e1,e2,w1,w2,q4,q5,q6,q7,fill,splice,and_self]
theorem ZK(m:AY H sb s t R T D)(kt:t.Ok){n:Int}(hn:0≤n∧n<100):∃a:Int,run P 59 [.ptr sb 0,.i n] H=some (.i a,H)∧0≤a∧a≤4096∧(a=0∨t.has a=true):=by
 have h1:=m.top
 have h2:=m.rh.cells
 have hl:=m.rh.objs.len H
 have hml:=Ee (v:=D.L2.ov) (n:=(t.objs.length:Int)) fun H=>m.rh.objs.len H
 have few:=kt.few
 have n1:(n== -77)=false:=VZ.2 oM
 have n2:decide ((1000:Int)≤n)=false:=GC oM
 have n3:decide (n<0)=false:=GC oM
 have n4:decide ((100:Int)≤n)=false:=GC oM
 by_cases c:t.objs.length=0
 ·have c':((t.objs.length:Int)==0)=true:=by rw[c];rfl
  refine⟨0,?_,oM,oM,.inl rfl⟩
  rw[Gi c59 _ _ sM]
  simp(disch:=first|exact dz|fail) only[simprocAttr,Gc,↓reduceIte,Gj,h1,h2,hl,n1,n2,n3,n4,c']
 ·have c':((t.objs.length:Int)==0)=false:=VZ.2 oM
  have hmod:n.tmod (t.objs.length:Int)=((n.toNat % t.objs.length:Nat):Int):=by
   have:=U1 n.toNat t.objs.length
   rw[show((n.toNat:Nat):Int)=n by omega]at this
   exact this
  have hlt:n.toNat % t.objs.length<t.objs.length:=Nat.mod_lt _ oM
  have hx:t.objs[n.toNat % t.objs.length]?=some t.objs[n.toNat % t.objs.length]:=J9 hlt
  generalize t.objs[n.toNat % t.objs.length]=x at hx
  generalize n.toNat % t.objs.length=j at hx hmod hlt
  obtain⟨b,q,tl,q1,q2,q3,q4,q5,q6⟩:=JO.row m.rh hx
  have q7:=Qe (hv:=D.L2.hv) hx (i:=0) (v:=.i x.addr) rfl
  rw[Nat.add_zero]at q7
  have hok:=kt.ob x (JX hx)
  have hf:=hok.fits
  have hnb:=kt.nb
  have hsn:t.nw=64*t.blk.length:=rfl
  refine⟨x.addr,?_,oM,oM,.inr (Hp.J8.2 ⟨x,kt.obj (JX hx)⟩)⟩
  rw[Gi c59 _ _ sM]
  rw[q1]at h2 hl hml
  simp(disch:=first|exact dz|fail) only[simprocAttr,Gc,↓reduceIte,Gj,h1,h2,hl,hml,n1,n2,n3,n4,c',N9,hmod,q3,q5,q7]
theorem Gaz(w:FX H sb s R D)(a i to:Int)(ha:a≤9223372036854775807)(hto:to≤9223372036854775807):
  ∃H' D',run P 63 [.ptr sb 0,.i a,.i i,.i to] H=some (.bool true,H')∧AY H' sb (s.setRef a i to).1 (s.setRef a i to).1 R R D'∧Uf sb D H D' H':=by
 obtain⟨H1,D1,h1,m1,g1⟩:=w.m.S9 (XB w.m.rh w.k a i to)
 obtain⟨H2,h2,m2,g2⟩:=m1.Pt (NI m1.ph w.k a i to ha hto)
 have t0:=w.m.top
 have t1:=m1.RJ g1
 rw[g1.same.1]at h2
 have e:((s.setRef a i to).2==(s.setRef a i to).2)=true:=by simp
 refine⟨H2,D1,?_,m2,g1.trans g2⟩
 rw[Gi c63 _ _ sM]
 simp(disch:=first|exact dz|fail) only[simprocAttr,Gc,↓reduceIte,GJ,t0,h1,t1,h2,e]
theorem Xa(m:AY H sb s t R T D)(kr:T.Ok){n:Int}(hn:0≤n∧n≤255):∃kd mu ix H',run P 30 [.ptr sb 0,.i n] H=some (.agg [.i kd,.i mu,.i ix],H')∧Gr H H'∧0≤ix∧(0≤kd∧kd≤2)∧(kd=2→mu=0):=by
 obtain⟨n,rfl⟩:∃q:Nat,n=q:=⟨n.toNat,oM⟩
 have gz:Gr H (H++[⟨[.int .i64 0,.int .i64 0,.int .i64 0],.rw,0⟩]):=Gr.app _ _
 have m1:=m.gr gz
 have h1:=m1.top
 have h2:=PW m1.rr kr
 have hns:=kr.ns
 have hmx:(if(0:Int)>(n:Int)then(0:Int)else(n:Int))=(n:Int):=if_neg oM
 have hm:(n:Int).tmod 40=((n % 40:Nat):Int):=U1 n 40
 have hlt:sb<H.length:=Gd m.top
 by_cases c1:n % 40<24
 ·have c1':decide (((n % 40:Nat):Int)<24)=true:=GK oM
  have hr:((n % 40:Nat):Int).tmod (T.slots.length:Int)=((n % 40 % T.slots.length:Nat):Int):=U1 _ _
  have hq:((n % 40:Nat):Int).tdiv 4=((n % 40/4:Nat):Int):=KT _ 4
  have wq:IntKind.i64.wrap ((n % 40/4:Nat):Int)=((n % 40/4:Nat):Int):=Gh oM
  have hnz:¬(T.slots.length:Int)=0:=by omega
  refine⟨0,((n % 40 % T.slots.length:Nat):Int),((n % 40/4:Nat):Int),H++[⟨[.i 0,.i ((n % 40 % T.slots.length:Nat):Int),.i ((n % 40/4:Nat):Int)],.rw,0⟩],?_,Gr.app _ _,oM,oM,oM⟩
  rw[Gi c30 _ _ sM]
  simp(disch:=first|exact dz|fail) only[simprocAttr,Gc,↓reduceIte,Gj,h1,h2,LG,WO,hmx,GA,GH,hm,c1',hr,hq,wq,hnz,fill,splice,and_self]
 ·have c1':decide (((n % 40:Nat):Int)<24)=false:=GC oM
  by_cases c2:n % 40<36
  ·have c2':decide (((n % 40:Nat):Int)<36)=true:=GK oM
   have wq:IntKind.i64.wrap (((n % 40:Nat):Int)-24)=((n % 40-24:Nat):Int):=by rw[Gh oM];omega
   refine⟨1,0,((n % 40-24:Nat):Int),H++[⟨[.i 1,.i 0,.i ((n % 40-24:Nat):Int)],.rw,0⟩],?_,Gr.app _ _,oM,oM,oM⟩
   rw[Gi c30 _ _ sM]
   simp(disch:=first|exact dz|fail) only[simprocAttr,Gc,↓reduceIte,Gj,h1,h2,LG,WO,hmx,GA,hm,c1',c2',wq,fill,splice,and_self]
  ·have c2':decide (((n % 40:Nat):Int)<36)=false:=GC oM
   have wq:IntKind.i64.wrap (((n % 40:Nat):Int)-36)=((n % 40-36:Nat):Int):=by rw[Gh oM];omega
   refine⟨2,0,((n % 40-36:Nat):Int),H++[⟨[.i 2,.i 0,.i ((n % 40-36:Nat):Int)],.rw,0⟩],?_,Gr.app _ _,oM,oM,oM⟩
   rw[Gi c30 _ _ sM]
   simp(disch:=first|exact dz|fail) only[simprocAttr,Gc,↓reduceIte,Gj,h1,h2,LG,WO,hmx,GA,hm,c1',c2',wq,fill,splice,and_self]
theorem Gc7(w:FX H sb s R D){n a:Int}(hn:0≤n∧n≤255)(ha:a≤9223372036854775807):
  ∃R' H' D',run P 64 [.ptr sb 0,.i n,.i a] H=some (.bool true,H')∧AY H' sb s s R' R' D'∧Uf sb D H D' H'∧R'.Ok∧∀v∈R'.vals,v∈R.vals∨v=a:=by
 obtain⟨kd,mu,ix,X,hw,gX,hix,hkd,hmu⟩:=Xa w.m w.kr hn
 obtain⟨Y,hY⟩:∃Y:Gb,Y=X++[⟨[.i kd,.i mu,.i ix],.rw,0⟩]:=⟨_,rfl⟩
 have gY:Gr X Y:=by rw[hY];exact Gr.app _ _
 have lY:Y[X.length]?=some ⟨[.i kd,.i mu,.i ix],.rw,0⟩:=by rw[hY];simp
 have mY:=w.m.gr (gX.trans gY)
 have tY:=mY.top
 obtain⟨v,Z,hz,gZ,il⟩:=Gc3 mY.rr w.kr
 have mZ:=mY.gr gZ
 have lZ:=Gr.get gZ lY
 have tZ:=mZ.top
 have hvl:=il.len Z
 have Gla:=Ee (v:=v) (n:=(R.queue.length:Int)) fun H=>il.len H
 have gYZ:=gX.trans gY
 have Gio:∀(V:Gb)(mV:AY V sb s s R R D)(gV:Gr Y V),∃(H1 H2:Gb)(D2:VF),run P 160 [.ptr D.ub 0,.agg [.i kd,.i mu,.i ix],.i a] V=some (.i (R.set kd mu ix a).2,H1)∧H1[sb]?=some ⟨[.ptr D.hb 0,.ptr D.rb 0,.ptr D.qb 0,.ptr D.ub 0],.rw,0⟩∧H1[X.length]?=some ⟨[.i kd,.i mu,.i ix],.rw,0⟩∧
   run P 34 [.ptr D.rb 0,.agg [.i kd,.i mu,.i ix],.i a] H1=some (.i (R.set kd mu ix a).2,H2)∧AY H2 sb s s (R.set kd mu ix a).1 (R.set kd mu ix a).1 D2∧Uf sb D V D2 H2:=fun V mV gV=>by
  obtain⟨H1,D1,a1,m1,g1⟩:=mV.Gia (GaQ mV.rr w.kr kd mu ix a)
  obtain⟨H2,D2,a2,m2,g2⟩:=m1.Gig (P6 m1.pr w.kr kd mu ix a)
  rw[g1.same.2.1]at a2
  refine⟨H1,H2,D2,a1,m1.RJ g1,?_,a2,m2,g1.trans g2⟩
  have lV:=Gr.get gV lY
  rw[g1.keep X.length (Gd lV) ?_,lV]
  intro h
  have h1:=w.m.lt _ h
  have h2:=gX.len
  omega
 by_cases k2:kd=2
 ·subst k2
  by_cases c:(R.queue.length:Int)≤ix
  ·have c':decide ((R.queue.length:Int)≤ix)=true:=GK c
   obtain⟨H1,D1,a1,m1,g1⟩:=mZ.Gia (Gfd mZ.rr w.kr a)
   obtain⟨H2,D2,a2,m2,g2⟩:=m1.Gig (GaL m1.pr w.kr a)
   have t1:=m1.RJ g1
   rw[g1.same.2.1]at a2
   have e:((R.push a).2==(R.push a).2)=true:=by simp
   refine⟨_,H2,D2,?_,m2,(Uf.gr (gYZ.trans gZ)).trans (g1.trans g2),w.kr.push a ha,fun v h=>Rt.GbZ h⟩
   rw[Gi c64 _ _ sM]
   simp(disch:=first|exact dz|fail) only[simprocAttr,Gc,↓reduceIte,G8,hw,fill,splice,and_self]
   rw[←hY]
   simp(disch:=first|exact dz|fail) only[simprocAttr,Gc,↓reduceIte,lY,tY,show((2:Int)==2)=true from rfl,hz,lZ,hvl,Gla,c',tZ,a1,t1,a2,e]
  ·have c':decide ((R.queue.length:Int)≤ix)=false:=GC c
   obtain⟨H1,H2,D2,a1,t1,l1,a2,m2,g⟩:=Gio Z mZ gZ
   have e:((R.set 2 mu ix a).2==(R.set 2 mu ix a).2)=true:=by simp
   refine⟨_,H2,D2,?_,m2,(Uf.gr (gYZ.trans gZ)).trans g,w.kr.set 2 mu ix a ha,fun v h=>Rt.TD w.kr h⟩
   rw[Gi c64 _ _ sM]
   simp(disch:=first|exact dz|fail) only[simprocAttr,Gc,↓reduceIte,G8,hw,fill,splice,and_self]
   rw[←hY]
   simp(disch:=first|exact dz|fail) only[simprocAttr,Gc,↓reduceIte,lY,tY,show((2:Int)==2)=true from rfl,hz,lZ,hvl,Gla,c',tZ,a1,t1,l1,a2,e]
 ·have k2':(kd==2)=false:=by simp[k2]
  obtain⟨H1,H2,D2,a1,t1,l1,a2,m2,g⟩:=Gio Y mY (Keeps.refl _ _)
  have e:((R.set kd mu ix a).2==(R.set kd mu ix a).2)=true:=by simp
  refine⟨_,H2,D2,?_,m2,(Uf.gr gYZ).trans g,w.kr.set kd mu ix a ha,fun v h=>Rt.TD w.kr h⟩
  rw[Gi c64 _ _ sM]
  simp(disch:=first|exact dz|fail) only[simprocAttr,Gc,↓reduceIte,G8,hw,fill,splice,and_self]
  rw[←hY]
  simp(disch:=first|exact dz|fail) only[simprocAttr,Gc,↓reduceIte,lY,tY,k2',a1,t1,l1,a2,e]
end
end Go.Cs.Tryz
namespace Go.Cs.Tryz
open Go Go.Cs A
def C57:Gm:=⟨84,0,T [bo 4 1,nb 6 false] (S (D [⟨m 16 0,0,0,0⟩,⟨z 17 16,1,0,0⟩,⟨f 18 2 17,2,0,0⟩,⟨l 19 1 18,3,1,0⟩,⟨lg 20 3 4,4,1,0⟩,⟨m 21 2,5,0,0⟩,⟨q3 22 145 19 20 21,6,3,0⟩,⟨m 15 22,7,0,1⟩,⟨ex 23 15 0,8,0,1⟩,⟨ex 24 15 1,9,0,1⟩,⟨m 7 23,10,0,1⟩,⟨m 8 24,11,0,1⟩]) (S (T [m 25 8,no 26 25] (I 26 (Q [nb 6 true]))) (S (T [m 27 7,bk 28 .quo 27 64,m 9 28] (T [m 29 0,z 30 29,f 31 0 30,l 32 1 31,m 33 9,q2 34 71 32 33,bk 35 .eql 34 0] (I 35 (T [n 10 0] (S (T [lg 36 3 4,q1 37 146 36] (C 37 (D [⟨lg 43 3 4,5,1,0⟩,⟨q1 44 148 43,6,3,0⟩,⟨m 38 0,0,0,0⟩,⟨z 39 38,1,0,0⟩,⟨f 40 0 39,2,0,0⟩,⟨l 41 1 40,3,1,0⟩,⟨m 42 9,4,0,0⟩,⟨m 45 2,7,0,0⟩,⟨q4 46 147 41 42 44 45,8,3,1⟩,⟨m 10 46,9,0,2⟩]) (R [m 47 0,z 48 47,f 49 0 48,l 50 1 49,m 51 9,m 52 2,q3 53 149 50 51 52,m 10 53]))) (T [m 54 10,bk 55 .neq 54 0] (I 55 (Q [nb 6 false])))))))) (S (D [⟨m 57 0,0,0,0⟩,⟨z 58 57,1,0,0⟩,⟨f 59 2 58,2,0,0⟩,⟨l 60 1 59,3,1,0⟩,⟨m 61 7,4,0,0⟩,⟨lg 62 3 4,5,1,0⟩,⟨q3 63 150 60 61 62,6,3,0⟩,⟨m 56 63,7,0,1⟩,⟨ex 64 56 0,8,0,1⟩,⟨ex 65 56 1,9,0,1⟩,⟨m 11 64,10,0,1⟩,⟨m 12 65,11,0,1⟩]) (S (D [⟨m 67 0,0,0,0⟩,⟨z 68 67,1,0,0⟩,⟨f 69 0 68,2,0,0⟩,⟨l 70 1 69,3,1,0⟩,⟨m 71 7,4,0,0⟩,⟨lg 72 3 4,5,1,0⟩,⟨q3 73 40 70 71 72,6,3,0⟩,⟨m 66 73,7,0,1⟩,⟨ex 74 66 0,8,0,1⟩,⟨ex 75 66 1,9,0,1⟩,⟨m 13 74,10,0,1⟩,⟨m 14 75,11,0,1⟩]) (Q [m 76 11,m 77 13,b 78 .eql 76 77,m 79 78,gt 79 (m 80 12),gt 79 (m 81 14),gt 79 (b 82 .eql 80 81),an 83 79 82,m 6 83])))))),[r 6]⟩
theorem c57:P 57=some C57:=by kernel_rfl
end Go.Cs.Tryz
namespace Go.Cs
open Go
theorem Hp.Su{s:Hp}{b:Nat}(h:b<s.blk.length):s.blk[b]?=some s.blk[b]∧s.GI b=(s.blk[b]).1:=by
 have hx:s.blk[b]?=some s.blk[b]:=J9 h
 exact⟨hx,by unfold Hp.GI;rw[Qc,hx];rfl⟩
theorem Hp.Gae{s:Hp}{a r d kd:Int}{x:Ob}(h:x∈(s.place a r d kd).1.objs):x∈s.objs∨∃a id r d k,x=Nb a id r d k:=by
 unfold Hp.place at h
 split at h
 ·split at h
  ·rcases JL.1 h with h|h
   ·exact .inr ⟨_,_,_,_,_,h⟩
   ·exact .inl h
  ·exact .inl h
 ·exact .inl h
theorem Hp.Di{s:Hp}(b n:Int)(fst:Nat)(sp:Int)(Ed:Nat)(Dj:Int):(s.claim b n fst sp Ed Dj).1.objs=s.objs:=by
 unfold Hp.claim
 split
 ·split<;>rfl
 ·rfl
def Hp.Lo(s:Hp):Prop:=s.GI 0=0∧∀x∈s.objs,64≤x.addr
theorem Hp.Lo.place{s:Hp}(h:s.Lo)(a r d kd:Int):(s.place a r d kd).1.Lo:=by
 unfold Hp.place
 split
 ·split
  ·rename_i hf
   refine⟨h.1,fun x hx=>?_⟩
   rcases JL.1 hx with rfl|hx
   ·show 64≤a.toNat
    rcases QU a.toNat 64 with c|c
    ·have e:a.toNat/64=0:=by omega
     unfold Hp.fits at hf
     rw[e]at hf
     rw[h.1]at hf
     split at hf
     ·cases hf
     ·split at hf
      ·rw[if_pos (.inl oM)]at hf;cases hf
      ·rw[if_pos (.inl oM)]at hf;cases hf
    ·exact c
   ·exact h.2 x hx
  ·exact h
 ·exact h
theorem Xp(l:List (Nat×Nat)){b:Nat}(m:Nat×Nat)(n:Nat)(hb:1≤b):(Kz l b m n)[0]?=l[0]?:=by
 induction n with
 |zero=>rfl
 |succ n ih=>rw[Kz,JU oM,ih]
theorem Hp.Lo.claim{s:Hp}(h:s.Lo)(b n:Int)(fst:Nat)(sp:Int)(Ed:Nat)(Dj:Int):(s.claim b n fst sp Ed Dj).1.Lo:=by
 refine⟨?_,fun x hx=>h.2 x (by rw[Hp.Di]at hx;exact hx)⟩
 unfold Hp.claim
 split
 ·rename_i c
  split
  ·exact h.1
  ·have h1:=h.1
   unfold Hp.GI at h1⊢
   rw[Qc]at h1⊢
   dsimp only
   rw[JU oM,Xp _ _ _ oM]
   exact h1
 ·exact h.1
theorem Hp.Lo.has{s:Hp}(h:s.Lo):s.has 0=false:=by
 unfold Hp.has
 rw[List.any_eq_false]
 intro x hx e
 have:=h.2 x hx
 simp only[beq_iff_eq]at e
 omega
end Go.Cs
namespace Go.Cs.Tryz
open Go Go.Cs
section
variable {H : Gb} {sb : Nat} {s t : Hp} {R T : Rt} {D : VF}
theorem Uo{hb:Nat}{L:GD}(p:PH H hb s L)(k:s.Ok){b:Nat}(hb':b<s.blk.length):run P 71 [.ptr hb 0,.i b] H=some (.i (s.GI b),H):=by
 have h:=GaF p k b
 obtain⟨hx,e⟩:=Hp.Su hb'
 have e2:Hp.state s (b:Int)=(s.GI b:Int):=by
  unfold Hp.state
  rw[if_pos oM,K6,hx,e]
 rw[e2]at h
 exact h
theorem Gcc(m:AY H sb s s R R D)(k:s.Ok)(f:s.Fz)(hb:s.born<1000000000000)(a r d kd:Int):
  ∃(H1 H2:Gb)(D2:VF),run P 150 [.ptr D.qb 0,.i a,.agg (Je r d kd)] H=some (Uj (s.place a r d kd).2,H1)∧H1[sb]?=some ⟨[.ptr D.hb 0,.ptr D.rb 0,.ptr D.qb 0,.ptr D.ub 0],.rw,0⟩∧(∀c,c<H.length→¬D.own sb c→H1[c]?=H[c]?)∧
   run P 40 [.ptr D.hb 0,.i a,.agg (Je r d kd)] H1=some (Uj (s.place a r d kd).2,H2)∧AY H2 sb (s.place a r d kd).1 (s.place a r d kd).1 R R D2∧Uf sb D H D2 H2:=by
 obtain⟨H1,D1,h1,m1,g1⟩:=m.S9 (GbP m.rh k hb a r d kd)
 obtain⟨H2,h2,m2,g2⟩:=m1.Pt (Bv m1.ph k hb a r d kd)
 rw[g1.same.1]at h2
 exact⟨H1,H2,D1,h1,m1.RJ g1,g1.keep,h2,m2,g1.trans g2⟩
theorem Tx(w:FX H sb s R D)(hb:s.born<1000000000000){r d kd sp:Int}(hv:JJ r d kd=true)(hsp:0≤sp∧sp<8):
  ∃s' H' D',run P 57 [.ptr sb 0,.agg (Je r d kd),.i sp] H=some (.bool true,H')∧AY H' sb s' s' R R D'∧Uf sb D H D' H'∧s'.Ok∧s'.Fz∧s'.born≤s.born+1∧(∀x∈s'.objs,x∈s.objs∨∃a id r d k,x=Nb a id r d k)∧(s.Lo→s'.Lo):=by
 have hnb:=w.k.nb
 have hwb:=QJ r d kd
 have frl:∀n,s.free n≤s.blk.length:=fun n=>Hp.M0
 obtain⟨X,hX⟩:∃X:Gb,X=H++[⟨Je r d kd,.rw,0⟩]:=⟨_,rfl⟩
 have gX:Gr H X:=by rw[hX];exact Gr.app _ _
 have lX:X[H.length]?=some ⟨Je r d kd,.rw,0⟩:=by rw[hX];simp
 have hno:∀c,D.own sb c→c≠H.length:=fun c h=>by have:=w.m.lt c h;omega
 have mX:=w.m.gr gX
 have tX:=mX.top
 obtain⟨H1,D1,h1,m1,g1⟩:=mX.S9 (Gc9 mX.rh w.k w.f r d kd sp)
 have t1:=m1.RJ g1
 have l1:H1[H.length]?=some ⟨Je r d kd,.rw,0⟩:=by rw[g1.keep _ (Gd lX) (fun h=>hno _ h rfl),lX]
 have GdK:∀c,D1.own sb c→c≠H.length:=fun c h e=>by
  subst e
  exact hno _ (g1.own _ (Gd lX) h) rfl
 have gXs:Uf sb D H D X:=Uf.gr gX
 have tail:∀(V:Gb)(DV:VF)(s':Hp)(a:Int),AY V sb s' s' R R DV→Uf sb D H DV V→(∀c,DV.own sb c→c≠H.length)→V[H.length]?=some ⟨Je r d kd,.rw,0⟩→s'.Ok→s'.Fz→s'.born=s.born→s'.objs=s.objs→(s.Lo→s'.Lo)→
   ∃(V1 V2:Gb)(D2:VF),run P 150 [.ptr D.qb 0,.i a,.agg [.i r,.i d,.i kd]] V=some (Uj (s'.place a r d kd).2,V1)∧V1[sb]?=some ⟨[.ptr D.hb 0,.ptr D.rb 0,.ptr D.qb 0,.ptr D.ub 0],.rw,0⟩∧V1[H.length]?=some ⟨[.i r,.i d,.i kd],.rw,0⟩∧
    run P 40 [.ptr D.hb 0,.i a,.agg [.i r,.i d,.i kd]] V1=some (Uj (s'.place a r d kd).2,V2)∧
    ∃s'',AY V2 sb s'' s'' R R D2∧Uf sb D H D2 V2∧s''.Ok∧s''.Fz∧s''.born≤s.born+1∧(∀x∈s''.objs,x∈s.objs∨∃a id r d k,x=Nb a id r d k)∧(s.Lo→s''.Lo):=fun V DV s' a mV gV oV lV kV fV hbV Vj hlo=>by
  obtain⟨V1,V2,D2,p1,p2,p3,p4,p5,p6⟩:=Gcc mV kV fV oM a r d kd
  rw[gV.same.2.2.1]at p1
  rw[gV.same.1]at p4
  rw[gV.same.1,gV.same.2.1,gV.same.2.2.1,gV.same.2.2.2]at p2
  exact⟨V1,V2,D2,p1,p2,by rw[p3 _ (Gd lV) (fun h=>oV _ h rfl)];exact lV,p4,_,p5,gV.trans p6,kV.place oM a r d kd,fV.place a r d kd,by have:=s'.GaG a r d kd;omega,fun x hx=>by rw[←Vj];exact Hp.Gae hx,fun h=>(hlo h).place a r d kd⟩
 have cvE:∀(s':Hp)(a:Int),((s'.place a r d kd).2.1==(s'.place a r d kd).2.1)=true∧((s'.place a r d kd).2.2==(s'.place a r d kd).2.2)=true:=fun s' a=>by simp
 cases hok:(s.first r d kd sp).2.2 with
 |false=>
  rw[hok]at h1
  have hs:(s.first r d kd sp).1=s:=by
   unfold Hp.first at hok⊢
   split
   ·rename_i c
    rw[if_pos c]at hok
    split
    ·rfl
    ·rename_i c2
     rw[if_neg c2]at hok
     exact Ls (by simpa using hok)
   ·rename_i c
    rw[if_neg c]at hok
    split
    ·rfl
    ·rename_i c2
     rw[c2]at hok
     dsimp only at hok
     split
     ·rfl
     ·rename_i c3
      rw[if_neg c3]at hok
      exact Ls (by simpa using hok)
  rw[hs]at m1
  refine⟨s,H1,D1,?_,m1,gXs.trans g1,w.k,w.f,Nat.le_succ _,fun x h=>.inl h,fun h=>h⟩
  rw[Gi c57 _ _ sM]
  unfold Je at hX lX h1⊢
  simp(disch:=first|exact dz|fail) only[simprocAttr,Gc,↓reduceIte,G8]
  rw[←hX]
  simp(disch:=first|exact dz|fail) only[simprocAttr,Gc,↓reduceIte,tX,lX,h1,Bool.not_false]
 |true=>
  rw[hok]at h1
  by_cases cL:32<G5 r d kd
  ·have hF:s.first r d kd sp=((s.claim (s.free ((G5 r d kd+63)/64).toNat) ((G5 r d kd+63)/64) 2 sp 3 sp).1,64*(s.free ((G5 r d kd+63)/64).toNat:Int),(s.claim (s.free ((G5 r d kd+63)/64).toNat) ((G5 r d kd+63)/64) 2 sp 3 sp).2==0):=by
    unfold Hp.first at hok⊢
    rw[if_pos cL]at hok⊢
    split
    ·rename_i c2
     rw[if_pos c2]at hok;cases hok
    ·rfl
   obtain⟨b,hbd⟩:∃b,b=s.free ((G5 r d kd+63)/64).toNat:=⟨_,rfl⟩
   have hbl:=frl ((G5 r d kd+63)/64).toNat
   rw[←hbd]at hF hbl
   rw[hF]at h1 m1 hok
   have hcl:(s.claim b ((G5 r d kd+63)/64) 2 sp 3 sp).2=0:=by simpa using hok
   obtain⟨q1,q2,q3⟩:=Lj hcl
   have hst:=Uo m1.ph w.k (b:=b) q3
   rw[g1.same.1,q1]at hst
   obtain⟨X2,y1,g2⟩:=Ao (H:=H1) r d kd
   rw[GK cL]at y1
   have m2:=m1.gr g2
   have l2:=Gr.get g2 l1
   obtain⟨X3,y2,g3⟩:=I4 (H:=X2) r d kd
   have m3:=m2.gr g3
   have l3:=Gr.get g3 l2
   obtain⟨X4,y3,m4,g4⟩:=m3.Pt (Hy m3.ph w.k b ((G5 r d kd+63)/64) sp)
   rw[g1.same.1,hcl]at y3
   have l4:X4[H.length]?=some ⟨Je r d kd,.rw,0⟩:=by rw[g4.keep _ (Gd l3) (fun h=>GdK _ h rfl),l3]
   have GaE:Uf sb D H D1 X4:=(((gXs.trans g1).trans (.gr g2)).trans (.gr g3)).trans g4
   have k4:(s.claim b ((G5 r d kd+63)/64) 2 sp 3 sp).1.Ok:=w.k.claim _ _ _ _ oM oM (.inr rfl)
   have f4:(s.claim b ((G5 r d kd+63)/64) 2 sp 3 sp).1.Fz:=w.f.claim _ _ _ oM (.inl oM) _
   have b4:(s.claim b ((G5 r d kd+63)/64) 2 sp 3 sp).1.born=s.born:=by
    unfold Hp.claim
    split
    ·split<;>rfl
    ·rfl
   obtain⟨V1,V2,D2,p1,p2,p3,p4,s'',p5,p6,p7,p8,p9,p10⟩:=tail X4 D1 _ (64*(b:Int)) m4 GaE GdK l4 k4 f4 b4 (Hp.Di ..) (fun h=>h.claim ..)
   obtain⟨ce1,ce2⟩:=cvE (s.claim b ((G5 r d kd+63)/64) 2 sp 3 sp).1 (64*(b:Int))
   have t2:X2[sb]?=_:=(Gr.get g2 t1)
   have t3:X3[sb]?=_:=(Gr.get g3 t2)
   have t4:=m4.RJ GaE
   have hd:(64*(b:Int)).tdiv 64=(b:Int):=by rw[Int.tdiv_eq_ediv_of_nonneg oM];omega
   have wd:IntKind.i64.wrap (b:Int)=(b:Int):=Gh oM
   refine⟨s'',V2,D2,?_,p5,p6,p7,p8,p9,p10⟩
   rw[Gi c57 _ _ sM]
   unfold Je at hX lX h1 l1 l2 l3 l4 y1 y2⊢
   unfold Uj at p1 p4
   simp(disch:=first|exact dz|fail) only[simprocAttr,Gc,↓reduceIte,G8]
   rw[←hX]
   simp(disch:=first|exact dz|fail) only[simprocAttr,Gc,↓reduceIte,tX,lX,h1,Bool.not_true,GH,hd,wd,t1,hst,show(((0:Nat):Int)==0)=true from rfl,l1,y1,l2,y2,t2,t3,y3,l4,t4,p1,p2,p3,p4,ce1,ce2]
  ·cases hg:s.gap (G5 r d kd) sp with
   |some y=>
    have hF:s.first r d kd sp=(s,((y.1:Nat):Int),true):=by
     unfold Hp.first
     rw[if_neg cL,hg]
    rw[hF]at h1 m1
    obtain⟨q1,q2,q3⟩:=Hp.RF hg
    have hst:=Uo m1.ph w.k (b:=y.1/64) oM
    rw[g1.same.1,q1]at hst
    obtain⟨V1,V2,D2,p1,p2,p3,p4,s'',p5,p6,p7,p8,p9,p10⟩:=tail H1 D1 s (y.1:Int) m1 (gXs.trans g1) GdK l1 w.k w.f rfl rfl (fun h=>h)
    obtain⟨ce1,ce2⟩:=cvE s (y.1:Int)
    have hd:((y.1:Nat):Int).tdiv 64=((y.1/64:Nat):Int):=KT _ 64
    have wd:IntKind.i64.wrap ((y.1/64:Nat):Int)=((y.1/64:Nat):Int):=Gh oM
    refine⟨s'',V2,D2,?_,p5,p6,p7,p8,p9,p10⟩
    rw[Gi c57 _ _ sM]
    unfold Je at hX lX h1 l1⊢
    unfold Uj at p1 p4
    simp(disch:=first|exact dz|fail) only[simprocAttr,Gc,↓reduceIte,G8]
    rw[←hX]
    simp(disch:=first|exact dz|fail) only[simprocAttr,Gc,↓reduceIte,tX,lX,h1,Bool.not_true,GH,hd,wd,t1,hst,show(((1:Nat):Int)==0)=false from rfl,l1,p1,p2,p3,p4,ce1,ce2]
   |none=>
    have hF:s.first r d kd sp=((s.claim (s.free 1) 1 1 sp 0 0).1,64*(s.free 1:Int),(s.claim (s.free 1) 1 1 sp 0 0).2==0):=by
     unfold Hp.first at hok⊢
     rw[if_neg cL,hg]at hok⊢
     dsimp only at hok⊢
     split
     ·rename_i c2
      rw[if_pos c2]at hok;cases hok
     ·rfl
    have hbl:=frl 1
    generalize s.free 1=b at hF hbl
    rw[hF]at h1 m1 hok
    have hcl:(s.claim b 1 1 sp 0 0).2=0:=by simpa using hok
    obtain⟨q1,q2,q3⟩:=Lj hcl
    have hst:=Uo m1.ph w.k (b:=b) q3
    rw[g1.same.1,q1]at hst
    obtain⟨X2,y1,g2⟩:=Ao (H:=H1) r d kd
    rw[GC cL]at y1
    have m2:=m1.gr g2
    have l2:=Gr.get g2 l1
    obtain⟨X4,y3,m4,g4⟩:=m2.Pt (Ms m2.ph w.k b sp)
    rw[g1.same.1,hcl]at y3
    have l4:X4[H.length]?=some ⟨Je r d kd,.rw,0⟩:=by rw[g4.keep _ (Gd l2) (fun h=>GdK _ h rfl),l2]
    have GaE:Uf sb D H D1 X4:=((gXs.trans g1).trans (.gr g2)).trans g4
    have k4:(s.claim b 1 1 sp 0 0).1.Ok:=w.k.claim _ _ _ _ oM oM (.inl rfl)
    have f4:(s.claim b 1 1 sp 0 0).1.Fz:=w.f.claim _ _ _ oM (.inr rfl) _
    have b4:(s.claim b 1 1 sp 0 0).1.born=s.born:=by
     unfold Hp.claim
     split
     ·split<;>rfl
     ·rfl
    obtain⟨V1,V2,D2,p1,p2,p3,p4,s'',p5,p6,p7,p8,p9,p10⟩:=tail X4 D1 _ (64*(b:Int)) m4 GaE GdK l4 k4 f4 b4 (Hp.Di ..) (fun h=>h.claim ..)
    obtain⟨ce1,ce2⟩:=cvE (s.claim b 1 1 sp 0 0).1 (64*(b:Int))
    have t2:X2[sb]?=_:=(Gr.get g2 t1)
    have t4:=m4.RJ GaE
    have hd:(64*(b:Int)).tdiv 64=(b:Int):=by rw[Int.tdiv_eq_ediv_of_nonneg oM];omega
    have wd:IntKind.i64.wrap (b:Int)=(b:Int):=Gh oM
    refine⟨s'',V2,D2,?_,p5,p6,p7,p8,p9,p10⟩
    rw[Gi c57 _ _ sM]
    unfold Je at hX lX h1 l1 l2 l4 y1⊢
    unfold Uj at p1 p4
    simp(disch:=first|exact dz|fail) only[simprocAttr,Gc,↓reduceIte,G8]
    rw[←hX]
    simp(disch:=first|exact dz|fail) only[simprocAttr,Gc,↓reduceIte,tX,lX,h1,Bool.not_true,GH,hd,wd,t1,hst,show(((0:Nat):Int)==0)=true from rfl,l1,y1,l2,t2,y3,l4,t4,p1,p2,p3,p4,ce1,ce2]
end
end Go.Cs.Tryz
namespace Go.Cs.Tryz
open Go Go.Cs A
def Ho:Gu:=S (T [m 223 19,f 224 6 1,l 225 1 224,le 226 225,b 227 .lss 223 226,m 228 227,gt 228 (m 229 19),gt 228 (bk 230 .lss 229 8),an 231 228 230] (J 231 (X 8))) (S (B 9 (T [m 234 9,f 235 6 1,l 236 1 235,m 237 19,x 238 1 236 237,l 239 1 238,e 240 (.conv .i64 (t 239)),bk 241 .rem 240 100,q2 242 59 234 241,m 20 242] (S (D [⟨m 243 9,0,0,0⟩,⟨z 244 243,1,0,0⟩,⟨f 245 2 244,2,0,0⟩,⟨l 246 1 245,3,1,0⟩,⟨m 247 20,4,0,0⟩,⟨q2 248 65 246 247,5,3,0⟩,⟨m 249 9,6,0,0⟩,⟨z 250 249,7,0,0⟩,⟨f 251 0 250,8,0,0⟩,⟨l 252 1 251,9,1,0⟩,⟨m 253 20,10,0,0⟩,⟨q2 254 66 252 253,11,3,1⟩,⟨b 255 .neq 248 254,12,0,2⟩]) (I 255 (Q [e 2 (.K7 (c .nilPtr))]))))) (R [m 232 19,bk 233 .add 232 1,m 19 233]))
def FV:Gu:=S (T [m 192 18,f 193 5 1,l 194 1 193,le 195 194,b 196 .lss 192 195,m 197 196,gt 197 (m 198 18),gt 197 (bk 199 .lss 198 20),an 200 197 199] (J 200 (X 6))) (S (B 7 (S (D [⟨m 211 9,8,0,0⟩,⟨f 212 5 1,9,0,0⟩,⟨l 213 1 212,10,1,0⟩,⟨m 214 18,11,0,0⟩,⟨x 215 2 213 214,12,0,0⟩,⟨e 216 (.Qp 2 1 (t 215) (k 1)),13,0,0⟩,⟨l 217 1 216,14,1,0⟩,⟨e 218 (.conv .i64 (t 217)),15,0,0⟩,⟨bk 219 .rem 218 100,16,0,0⟩,⟨q2 220 59 211 219,17,3,0⟩,⟨m 203 9,0,0,0⟩,⟨f 204 5 1,1,0,0⟩,⟨l 205 1 204,2,1,0⟩,⟨m 206 18,3,0,0⟩,⟨x 207 2 205 206,4,0,0⟩,⟨e 208 (.Qp 2 1 (t 207) (k 0)),5,0,0⟩,⟨l 209 1 208,6,1,0⟩,⟨e 210 (.conv .i64 (t 209)),7,0,0⟩,⟨q3 221 64 203 210 220,18,3,1⟩,⟨no 222 221,19,0,2⟩]) (I 222 (Q [e 2 (.K7 (c .nilPtr))])))) (R [m 201 18,bk 202 .add 201 1,m 18 202]))
def A_:Gu:=S (T [m 136 13,f 137 4 1,l 138 1 137,le 139 138,b 140 .lss 136 139,m 141 140,gt 141 (m 142 13),gt 141 (bk 143 .lss 142 120),an 144 141 143] (J 144 (X 4))) (S (B 5 (T [f 147 4 1,l 148 1 147,m 149 13,x 150 3 148 149,lg 151 3 150,e 14 (.new [.int .u8 0,.int .u8 0,.int .u8 0]),st 3 14 151] (T [m 152 9,e 153 (.Qp 3 1 (t 14) (k 0)),l 154 1 153,e 155 (.conv .i64 (t 154)),bk 156 .rem 155 100,q2 157 59 152 156,m 15 157] (T [m 159 9,z 160 159,f 161 2 160,l 162 1 161,m 163 15,q2 164 62 162 163,m 158 164,ex 165 158 0,ex 166 158 1,e 16 (.new [i 0,i 0,i 0]),st 3 16 165,m 17 166] (S (D [⟨m 167 17,0,0,0⟩,⟨bk 168 .eql 167 0,1,0,0⟩,⟨m 169 168,2,0,0⟩,⟨gt 169 (f 170 0 16),3,0,0⟩,⟨gt 169 (l 171 1 170),4,1,0⟩,⟨gt 169 (bk 172 .gtr 171 0),5,0,0⟩,⟨an 173 169 172,6,0,0⟩,⟨m 174 173,7,0,0⟩,⟨gt 174 (m 183 9),16,0,0⟩,⟨gt 174 (e 184 (.Qp 3 1 (t 14) (k 2))),17,0,0⟩,⟨gt 174 (l 185 1 184),18,1,0⟩,⟨gt 174 (e 186 (.conv .i64 (t 185))),19,0,0⟩,⟨gt 174 (bk 187 .rem 186 100),20,0,0⟩,⟨gt 174 (q2 188 59 183 187),21,3,0⟩,⟨gt 174 (m 175 9),8,0,0⟩,⟨gt 174 (m 176 15),9,0,0⟩,⟨gt 174 (e 177 (.Qp 3 1 (t 14) (k 1))),10,0,0⟩,⟨gt 174 (l 178 1 177),11,1,0⟩,⟨gt 174 (e 179 (.conv .i64 (t 178))),12,0,0⟩,⟨gt 174 (f 180 0 16),13,0,0⟩,⟨gt 174 (l 181 1 180),14,1,0⟩,⟨gt 174 (b 182 .rem 179 181),15,0,0⟩,⟨gt 174 (q4 189 63 175 176 182 188),22,3,1⟩,⟨gt 174 (no 190 189),23,0,2⟩,⟨an 191 174 190,24,0,2⟩]) (I 191 (Q [e 2 (.K7 (c .nilPtr))]))))))) (R [m 145 13,bk 146 .add 145 1,m 13 146]))
def FJ:Gu:=S (T [m 103 11,f 104 3 1,l 105 1 104,le 106 105,b 107 .lss 103 106,m 108 107,gt 108 (m 109 11),gt 108 (bk 110 .lss 109 20),an 111 108 110] (J 111 (X 2))) (S (B 3 (T [m 114 9,f 115 3 1,l 116 1 115,m 117 11,x 118 1 116 117,l 119 1 118,e 120 (.conv .i64 (t 119)),bk 121 .rem 120 100,q2 122 59 114 121,m 12 122] (S (D [⟨m 123 9,0,0,0⟩,⟨z 124 123,1,0,0⟩,⟨f 125 2 124,2,0,0⟩,⟨l 126 1 125,3,1,0⟩,⟨m 127 12,4,0,0⟩,⟨q2 128 60 126 127,5,3,0⟩,⟨m 129 9,6,0,0⟩,⟨z 130 129,7,0,0⟩,⟨f 131 0 130,8,0,0⟩,⟨l 132 1 131,9,1,0⟩,⟨m 133 12,10,0,0⟩,⟨q2 134 61 132 133,11,3,1⟩,⟨b 135 .neq 128 134,12,0,2⟩]) (I 135 (Q [e 2 (.K7 (c .nilPtr))]))))) (R [m 112 11,bk 113 .add 112 1,m 11 113]))
def FP:Gu:=S (T [m 75 10,f 76 2 1,l 77 1 76,le 78 77,b 79 .lss 75 78,m 80 79,gt 80 (m 81 10),gt 80 (bk 82 .lss 81 40),an 83 80 82] (J 83 (X 0))) (S (B 1 (S (D [⟨f 87 2 1,1,0,0⟩,⟨l 88 1 87,2,1,0⟩,⟨m 89 10,3,0,0⟩,⟨x 90 4 88 89,4,0,0⟩,⟨lg 91 4 90,5,1,0⟩,⟨q1 92 58 91,6,3,0⟩,⟨m 86 9,0,0,0⟩,⟨f 93 2 1,7,0,0⟩,⟨l 94 1 93,8,1,0⟩,⟨m 95 10,9,0,0⟩,⟨x 96 4 94 95,10,0,0⟩,⟨e 97 (.Qp 4 1 (t 96) (k 3)),11,0,0⟩,⟨l 98 1 97,12,1,0⟩,⟨e 99 (.conv .i64 (t 98)),13,0,0⟩,⟨bk 100 .rem 99 3,14,0,0⟩,⟨q3 101 57 86 92 100,15,3,1⟩,⟨no 102 101,16,0,2⟩]) (I 102 (Q [e 2 (.K7 (c .nilPtr))])))) (R [m 84 10,bk 85 .add 84 1,m 10 85]))
def C18:Gm:=⟨257,0,T [bo 1 0,e 2 (.K7 (c .nilPtr))] (S (D [⟨f 21 0 1,0,0,0⟩,⟨l 22 1 21,1,1,0⟩,⟨e 23 (.conv .i64 (t 22)),2,0,0⟩,⟨bk 24 .rem 23 23,3,0,0⟩,⟨e 25 (.bin .add (k 2) (t 24)),4,0,0⟩,⟨f 26 1 1,5,0,0⟩,⟨l 27 1 26,6,1,0⟩,⟨e 28 (.conv .i64 (t 27)),7,0,0⟩,⟨bk 29 .rem 28 4,8,0,0⟩,⟨e 30 (.bin .add (k 1) (t 29)),9,0,0⟩,⟨m 3 25,10,0,0⟩,⟨m 4 30,11,0,0⟩]) (T [m 32 3,q1 33 11 32,m 31 33,ex 34 31 0,ex 35 31 1,m 5 34,m 6 35] (T [m 37 4,q1 38 12 37,m 36 38,ex 39 36 0,ex 40 36 1,m 7 39,m 8 40] (S (T [m 41 5,e 42 (.eqv false 1 (t 41) (c .nilPtr)),m 43 42,gf 43 (m 44 7),gf 43 (e 45 (.eqv false 1 (t 44) (c .nilPtr))),or 46 43 45,m 47 46,gf 47 (m 48 6),gf 47 (bk 49 .neq 48 0),or 50 47 49,m 51 50,gf 51 (m 52 8),gf 51 (bk 53 .neq 52 0),or 54 51 53] (I 54 (Q [e 2 (.K7 (c .nilPtr))]))) (T [m 55 5,m 56 7,e 57 (.build [.nilPtr,.nilPtr,.nilPtr,.nilPtr] [(0,1,t 55),(1,1,t 56)]),bo 58 57,m 9 58] (T [m 60 9,m 61 3,q1 62 55 61,m 59 62,ex 63 59 0,ex 64 59 1,z 65 60,f 66 2 65,st 1 66 63] (T [m 68 9,m 69 4,q1 70 56 69,m 67 70,ex 71 67 0,ex 72 67 1,z 73 68,f 74 3 73,st 1 74 71] (S (T [n 10 0] (B 0 (W FP))) (S (T [n 11 0] (B 2 (W FJ))) (S (T [n 13 0] (B 4 (W A_))) (S (T [n 18 0] (B 6 (W FV))) (S (T [n 19 0] (B 8 (W Ho))) (Q [m 256 9,m 2 256]))))))))))))),[r 2]⟩
theorem c18:P 18=some C18:=by kernel_rfl
end Go.Cs.Tryz
namespace Go.Cs
open Go
def U8R(n:Nat)(rs:List (List CV)):Prop:=∀r∈rs,∃zs:List Int,zs.length=n∧r=u8s zs∧∀z∈zs,0≤z∧z≤255
theorem U8R.at{n:Nat}{rs:List (List CV)}(h:U8R n rs){i:Nat}{r:List CV}(hi:rs[i]?=some r):∃zs:List Int,zs.length=n∧r=u8s zs∧∀z∈zs,0≤z∧z≤255:=h r (JX hi)
theorem Hp.Ga8{s:Hp}(a i to:Int):(s.setRef a i to).1.blk=s.blk∧(s.setRef a i to).1.born=s.born:=by
 unfold Hp.setRef
 split
 ·split
  ·split<;>exact⟨rfl,rfl⟩
  ·exact⟨rfl,rfl⟩
 ·exact⟨rfl,rfl⟩
def Bare(s:Hp)(R:Rt):Prop:=(∀o∈s.objs,∀x∈o.refs,x=0)∧(∀v∈R.vals,v=0)∧s.Lo
def VN(s:Hp)(R:Rt):Prop:=(∀o∈s.objs,∀x∈o.refs,x=0∨s.has x=true)∧(∀v∈R.vals,v=0∨s.has v=true)∧s.Lo
theorem Bare.snd{s:Hp}{R:Rt}(h:Bare s R):VN s R:=⟨fun o ho x hx=>.inl (h.1 o ho x hx),fun v hv=>.inl (h.2.1 v hv),h.2.2⟩
theorem Hp.Lo.kill{s:Hp}(h:s.Lo)(a:Int):(s.kill a).1.Lo:=by
 unfold Hp.kill
 split
 ·exact⟨h.1,fun x hx=>h.2 x (Hp.J5.1 hx).1⟩
 ·exact h
theorem Hp.Lo.upd{s:Hp}(h:s.Lo){a:Nat}{f:Ob→Ob}(t:∀x∈s.objs,x.addr=a→Np f x):(s.upd a f).Lo:=by
 refine⟨h.1,fun x hx=>?_⟩
 simp only[Hp.upd,YX]at hx
 obtain⟨y,hy,rfl⟩:=hx
 split
 ·rename_i c
  rw[(t y hy c).addr];exact h.2 y hy
 ·exact h.2 y hy
theorem Bare.kill{s:Hp}{R:Rt}(h:Bare s R)(a:Int):Bare (s.kill a).1 R:=by
 refine⟨fun o ho=>h.1 o ?_,h.2.1,h.2.2.kill a⟩
 unfold Hp.kill at ho
 split at ho
 ·exact(Hp.J5.1 ho).1
 ·exact ho
theorem VN.upd{s:Hp}{R:Rt}(h:VN s R){a:Nat}{f:Ob→Ob}(t:∀x∈s.objs,x.addr=a→Np f x)(hf:∀x∈s.objs,∀y∈(f x).refs,y∈x.refs∨y=0∨s.has y=true):VN (s.upd a f) R:=by
 have hh:=Hp.Gbu (s:=s) t
 refine⟨fun o ho x hx=>?_,fun v hv=>by rw[hh];exact h.2.1 v hv,h.2.2.upd t⟩
 rw[hh]
 simp only[Hp.upd,YX]at ho
 obtain⟨y,hy,rfl⟩:=ho
 split at hx
 ·rcases hf y hy x hx with h1|h1
  ·exact h.1 y hy x h1
  ·exact h1
 ·exact h.1 y hy x hx
theorem VN.setRef{s:Hp}{R:Rt}(h:VN s R)(a i to:Int):VN (s.setRef a i to).1 R:=by
 unfold Hp.setRef
 split
 ·split
  ·split
   ·rename_i c
    exact h.upd (fun x _ _=>A7 _ _ x) fun x hx y hy=>by
     rcases List.mem_or_eq_of_mem_set hy with h1|h1
     ·exact .inl h1
     ·subst h1;exact .inr c
   ·exact h
  ·exact h
 ·exact h
theorem VN.Ka{s:Hp}{R:Rt}(h:VN s R)(a:Int)(v:Bool):VN (s.Ka a v).1 R:=by
 unfold Hp.Ka
 split
 ·exact h.upd (fun x _ _=>⟨rfl,rfl,rfl,rfl,rfl⟩) fun x hx y hy=>.inl hy
 ·exact h
structure Nt(Q:Hp→Rt→Prop)(c0:Nat)(H0:Gb)(sb:Nat)(n:Nat)(H:Gb):Prop where
 ex:∃s R D,FX H sb s R D∧(∀c,D.own sb c→c0≤c)∧s.born≤n∧Q s R
 len:c0≤H.length
 keep:∀c,c<c0→H[c]?=H0[c]?
theorem Nt.step{Q:Hp→Rt→Prop}{c0 n n':Nat}{H0 H H':Gb}{sb:Nat}{s':Hp}{R':Rt}{D D':VF}(a:Nt Q c0 H0 sb n H)(hd:∀c,D.own sb c→c0≤c)(g:Uf sb D H D' H')(w:FX H' sb s' R' D')(hb:s'.born≤n')(hq:Q s' R'):Nt Q c0 H0 sb n' H' where
 ex:=⟨s',R',D',w,fun c h=>by
  by_cases hc:c<H.length
  ·exact hd c (g.own c hc h)
  ·have:=a.len;omega,hb,hq⟩
 len:=Jr a.len g.len
 keep:=fun c hc=>by
  rw[g.keep c (by have:=a.len;omega) fun h=>by have:=hd c h;omega,a.keep c hc]
theorem Nt.gr{Q:Hp→Rt→Prop}{c0 n:Nat}{H0 H H':Gb}{sb:Nat}(a:Nt Q c0 H0 sb n H)(g:Gr H H'):Nt Q c0 H0 sb n H':=by
 obtain⟨s,R,D,w,hd,hb,hq⟩:=a.ex
 exact a.step hd (Uf.gr g) ⟨w.m.gr g,w.k,w.f,w.kr⟩ hb hq
theorem Nt.snd{c0 n:Nat}{H0 H:Gb}{sb:Nat}(a:Nt Bare c0 H0 sb n H):Nt VN c0 H0 sb n H:=by
 obtain⟨s,R,D,w,hd,hb,hq⟩:=a.ex
 exact⟨⟨s,R,D,w,hd,hb,hq.snd⟩,a.len,a.keep⟩
theorem Sl.low{H0 H:Gb}{v:CV}{e c0:Nat}{rs:List (List CV)}(h:Sl H0 v e rs)(hv:Gp v<c0)(hk:∀c,c<c0→H[c]?=H0[c]?):Sl H v e rs:=
 h.mono fun b k hb _ he=>by rw[hk b (by rw[←he];exact hv),hb]
theorem Sl.row{H:Gb}{v:CV}{n:Nat}{rs:List (List CV)}(h:Sl H v n rs)(hn:0<n){j:Nat}{zs:List Int}(hi:rs[j]?=some (u8s zs)):
  ∃o,(∀X,Kb n v (.i j) X=some (.ptr (Gp v) o,X))∧ZP n v (.i j)=okV (.ptr (Gp v) o)∧∀Y:Gb,Y[Gp v]?=H[Gp v]?→EZ Y[Gp v]? o n=some (u8s zs)∧∀i x,zs[i]?=some x→ld Y[Gp v]? (o+i)=some (.int .u8 x):=by
 rcases h with⟨rfl,-⟩|⟨b,f,c,t,k,rfl,h1,h2,h3⟩
 ·simp at hi
 ·have hl:=Gd hi
  obtain⟨q1,q2⟩:=h3 j _ hi
  refine⟨f+j*n,fun X=>?_,?_,fun Y hY=>?_⟩
  ·rw[UF oM];simp;rfl
  ·rw[Al oM];simp;rfl
  ·have hlen:f+j*n+n≤k.cells.length:=by
    have:=congrArg List.length q1
    simp only[List.length_take,List.length_drop,q2]at this
    omega
   have hYb:Y[b]?=some k:=hY.trans h1
   show EZ Y[b]? _ _=_∧∀i x,_→ld Y[b]? _=_
   rw[hYb]
   obtain⟨cs,md,z⟩:=k
   have hx:∀i x,zs[i]?=some x→cs[f+j*n+i]?=some (.int .u8 x):=fun i x hx=>by
    have:=congrArg (fun r=>r[i]?) q1
    have hin:i<n:=by have:=Gd hx;simp[u8s]at q2;omega
    simp only[Ze,if_pos hin,Yo,u8s,Ke,hx,Option.map_some]at this
    exact this
   rcases h2 with rfl|rfl
   ·exact⟨by rw[Ug,if_pos hlen,q1],fun i x h=>by rw[Vt];exact hx i x h⟩
   ·exact⟨by rw[Xu,if_pos hlen,q1],fun i x h=>by rw[Gij];exact hx i x h⟩
end Go.Cs
namespace Go.Cs.Tryz
open Go Go.Cs
section
variable {H0 H : Gb} {sb c0 b1 : Nat} {bl mu : Int} {v2 v3 v4 v5 v6 : CV}
theorem GhJ{n0:Nat}(hn0:n0≤1000)(a:Nt Bare c0 H0 sb n0 H)(hb1:b1<c0)(hB:H0[b1]?=some ⟨[.int .u8 bl,.int .u8 mu,v2,v3,v4,v5,v6],.rw,0⟩)
  {rs:List (List CV)} (hs:Sl H0 v2 4 rs) (hv:Gp v2<c0) (hu:U8R 4 rs)
  {E0:Env} (h1:E0 1=.ptr b1 0) (h9:E0 9=.ptr sb 0) (h10:E0 10=.i 0) {r:Option (CX×Env×Gb)} (hr:den P (.loop FP) E0 H=r):
  ∃E' H',r=some (.exit 0,E',H')∧Nt Bare c0 H0 sb (n0+40) H'∧∀t,t∉wr FP→E' t=E0 t:=by
 obtain⟨x',E',H',e,-,⟨rfl,a'⟩,fr⟩:=Gy (p:=P) (c:=FP) (E0:=E0) (H0:=H)
  (fun q E H'=>∃j:Nat,E 10=.i j∧j≤40∧q=40-j∧Nt Bare c0 H0 sb (n0+j) H')
  (fun x E' H'=>x=.exit 0∧Nt Bare c0 H0 sb (n0+40) H') (by
   rintro q E H' hE ⟨j,e10,hj,rfl,aj⟩
   have e1:=(hE 1 dK).trans h1
   have e9:=(hE 9 dK).trans h9
   have tB:H'[b1]?=_:=(aj.keep b1 hb1).trans hB
   have hs':=hs.low hv aj.keep
   have hl:=hs'.len H'
   have done:∀m,m≤40→Nt Bare c0 H0 sb (n0+m) H'→Nt Bare c0 H0 sb (n0+40) H':=fun m hm am=>by
    obtain⟨s,R,D,w,hd,hb,hq⟩:=am.ex
    exact⟨⟨s,R,D,w,hd,oM,hq⟩,am.len,am.keep⟩
   by_cases c:j<rs.length
   ·have c':decide ((j:Int)<(rs.length:Int))=true:=GK oM
    by_cases c2:j<40
    ·have c2':decide ((j:Int)<40)=true:=GK oM
     obtain⟨row,hrow⟩:∃row,rs[j]?=some row:=⟨_,J9 c⟩
     obtain⟨zs,hz,rfl,hzb⟩:=hu.at hrow
     match zs,hz with
     |[x0,x1,x2,x3],_=>
      have z0:=hzb x0 sM
      have z1:=hzb x1 sM
      have z2:=hzb x2 sM
      have z3:=hzb x3 sM
      obtain⟨vo,hml,hmi,ldY⟩:=hs'.row oM hrow
      obtain⟨l4,l3'⟩:=ldY H' rfl
      have l3:=l3' 3 x3 rfl
      obtain⟨rr,dd,kk,X1,s1,g1,hval⟩:=SF (H:=H') (x3:=x3) z0 z1 z2
      obtain⟨s,R,D,w,hd,hb,hq⟩:=aj.ex
      have w1:FX X1 sb s R D:=⟨w.m.gr g1,w.k,w.f,w.kr⟩
      obtain⟨s',H2,D2,p1,p2,p3,p4,p5,p6,p7,p8⟩:=Tx w1 oM (sp:=x3 % 3) hval oM
      have k1:∀c,c<c0→X1[c]?=H'[c]?:=fun c hc=>g1.keep c (by have:=aj.len;omega) fun h=>h
      have tB1:X1[b1]?=_:=(k1 b1 hb1).trans tB
      have l31:=(ldY X1 (k1 _ hv)).2 3 x3 rfl
      have a2:Nt Bare c0 H0 sb (n0+(j+1)) H2:=(aj.gr g1).step hd p3 ⟨p2,p4,p5,w.kr⟩ oM ⟨fun o ho x hx=>by
       rcases p7 o ho with h|⟨_,_,_,_,_,rfl⟩
       ·exact hq.1 o h x hx
       ·exact(List.mem_replicate.1 hx).2,hq.2.1,p8 hq.2.2⟩
      have w3:IntKind.i64.wrap x3=x3:=Gh oM
      have e3:x3.tmod 3=x3 % 3:=Int.tmod_eq_emod_of_nonneg oM
      have wj:IntKind.i64.wrap ((j:Int)+1)=((j+1:Nat):Int):=Gh oM
      unfold u8s at s1 l4
      unfold Je at s1 p1
      simp only[List.map_cons,List.map_nil]at s1 l4
      apply Gt (k':=40-(j+1))
      ·simp(disch:=first|exact dz|fail) only[simprocAttr,Gc,↓reduceIte,FP,e1,e9,e10,tB,hl,c',c2',hml,hmi,l4,s1,tB1,ES,BO,Aj,Aq,l3,l31,w3,N9,e3,p1,Bool.not_true,wj]
       rfl
      ·omega
      ·exact⟨j+1,uA,oM,rfl,a2⟩
    ·have c2':decide ((j:Int)<40)=false:=GC oM
     apply Gl (x:=.exit 0)
     ·simp(disch:=first|exact dz|fail) only[simprocAttr,Gc,↓reduceIte,FP,e1,e9,e10,tB,hl,c',c2']
      rfl
     ·simp
     ·exact⟨rfl,done j hj aj⟩
   ·have c':decide ((j:Int)<(rs.length:Int))=false:=GC oM
    apply Gl (x:=.exit 0)
    ·simp(disch:=first|exact dz|fail) only[simprocAttr,Gc,↓reduceIte,FP,e1,e9,e10,tB,hl,c']
     rfl
    ·simp
    ·exact⟨rfl,done j hj aj⟩) _ ⟨0,h10,oM,rfl,by simpa using a⟩
 exact⟨E',H',hr.symm.trans e,a',fr⟩
theorem GgS{n0:Nat}(hn0:n0≤1000)(a:Nt Bare c0 H0 sb n0 H)(hb1:b1<c0)(hB:H0[b1]?=some ⟨[.int .u8 bl,.int .u8 mu,v2,v3,v4,v5,v6],.rw,0⟩)
  {rs:List (List CV)} (hs:Sl H0 v3 1 rs) (hv:Gp v3<c0) (hu:U8R 1 rs)
  {E0:Env} (h1:E0 1=.ptr b1 0) (h9:E0 9=.ptr sb 0) (h11:E0 11=.i 0) {r:Option (CX×Env×Gb)} (hr:den P (.loop FJ) E0 H=r):
  ∃E' H',r=some (.exit 2,E',H')∧Nt Bare c0 H0 sb n0 H'∧∀t,t∉wr FJ→E' t=E0 t:=by
 obtain⟨x',E',H',e,-,⟨rfl,a'⟩,fr⟩:=Gy (p:=P) (c:=FJ) (E0:=E0) (H0:=H)
  (fun q E H'=>∃j:Nat,E 11=.i j∧j≤20∧q=20-j∧Nt Bare c0 H0 sb n0 H')
  (fun x E' H'=>x=.exit 2∧Nt Bare c0 H0 sb n0 H') (by
   rintro q E H' hE ⟨j,e11,hj,rfl,aj⟩
   have e1:=(hE 1 dK).trans h1
   have e9:=(hE 9 dK).trans h9
   have tB:H'[b1]?=_:=(aj.keep b1 hb1).trans hB
   have hs':=hs.low hv aj.keep
   have hl:=hs'.len H'
   by_cases c:j<rs.length
   ·have c':decide ((j:Int)<(rs.length:Int))=true:=GK oM
    by_cases c2:j<20
    ·have c2':decide ((j:Int)<20)=true:=GK oM
     obtain⟨row,hrow⟩:∃row,rs[j]?=some row:=⟨_,J9 c⟩
     obtain⟨zs,hz,rfl,hzb⟩:=hu.at hrow
     match zs,hz with
     |[x0],_=>
      have z0:=hzb x0 sM
      obtain⟨vo,hml,hmi,ldY⟩:=hs'.row oM hrow
      have l0:=(ldY H' rfl).2 0 x0 rfl
      rw[Nat.add_zero]at l0
      obtain⟨s,R,D,w,hd,hb,hq⟩:=aj.ex
      have w3:IntKind.i64.wrap x0=x0:=Gh oM
      have e3:x0.tmod 100=x0 % 100:=Int.tmod_eq_emod_of_nonneg oM
      obtain⟨ad,q1,q2,q3,q4⟩:=ZK w.m w.k (n:=x0 % 100) oM
      obtain⟨H1,D1,p1,m1,g1⟩:=w.m.S9 (GfH w.m.rh w.k ad)
      obtain⟨H2,p2,m2,g2⟩:=m1.Pt (GbU m1.ph w.k ad oM)
      have t0:=w.m.top
      have t1:=m1.RJ g1
      rw[g1.same.1]at p2
      have e:((s.kill ad).2 != (s.kill ad).2)=false:=by simp
      have kk:(s.kill ad).1.Ok:=w.k.kill ad
      have ff:(s.kill ad).1.Fz:=by unfold Hp.kill;split<;>exact w.f
      have bb:(s.kill ad).1.born≤n0:=by unfold Hp.kill;split<;>exact hb
      have a2:Nt Bare c0 H0 sb n0 H2:=aj.step hd (g1.trans g2) ⟨m2,kk,ff,w.kr⟩ bb (hq.kill ad)
      have wj:IntKind.i64.wrap ((j:Int)+1)=((j+1:Nat):Int):=Gh oM
      apply Gt (k':=20-(j+1))
      ·simp(disch:=first|exact dz|fail) only[simprocAttr,Gc,↓reduceIte,FJ,e1,e9,e11,tB,hl,c',c2',hml,l0,Nf,Qi,w3,GA,e3,q1,t0,p1,t1,p2,e,wj]
       rfl
      ·omega
      ·exact⟨j+1,uA,oM,rfl,a2⟩
    ·have c2':decide ((j:Int)<20)=false:=GC oM
     apply Gl (x:=.exit 2)
     ·simp(disch:=first|exact dz|fail) only[simprocAttr,Gc,↓reduceIte,FJ,e1,e9,e11,tB,hl,c',c2']
      rfl
     ·simp
     ·exact⟨rfl,aj⟩
   ·have c':decide ((j:Int)<(rs.length:Int))=false:=GC oM
    apply Gl (x:=.exit 2)
    ·simp(disch:=first|exact dz|fail) only[simprocAttr,Gc,↓reduceIte,FJ,e1,e9,e11,tB,hl,c']
     rfl
    ·simp
    ·exact⟨rfl,aj⟩) _ ⟨0,h11,oM,rfl,a⟩
 exact⟨E',H',hr.symm.trans e,a',fr⟩
theorem GgJ{n0:Nat}(hn0:n0≤1000)(a:Nt VN c0 H0 sb n0 H)(hb1:b1<c0)(hB:H0[b1]?=some ⟨[.int .u8 bl,.int .u8 mu,v2,v3,v4,v5,v6],.rw,0⟩)
  {rs:List (List CV)} (hs:Sl H0 v4 3 rs) (hv:Gp v4<c0) (hu:U8R 3 rs)
  {E0:Env} (h1:E0 1=.ptr b1 0) (h9:E0 9=.ptr sb 0) (h13:E0 13=.i 0) {r:Option (CX×Env×Gb)} (hr:den P (.loop A_) E0 H=r):
  ∃E' H',r=some (.exit 4,E',H')∧Nt VN c0 H0 sb n0 H'∧∀t,t∉wr A_→E' t=E0 t:=by
 obtain⟨x',E',H',e,-,⟨rfl,a'⟩,fr⟩:=Gy (p:=P) (c:=A_) (E0:=E0) (H0:=H)
  (fun q E H'=>∃j:Nat,E 13=.i j∧j≤120∧q=120-j∧Nt VN c0 H0 sb n0 H')
  (fun x E' H'=>x=.exit 4∧Nt VN c0 H0 sb n0 H') (by
   rintro q E H' hE ⟨j,e13,hj,rfl,aj⟩
   have e1:=(hE 1 dK).trans h1
   have e9:=(hE 9 dK).trans h9
   have tB:H'[b1]?=_:=(aj.keep b1 hb1).trans hB
   have hs':=hs.low hv aj.keep
   have hl:=hs'.len H'
   have wj:IntKind.i64.wrap ((j:Int)+1)=((j+1:Nat):Int):=Gh oM
   by_cases c:j<rs.length
   ·have c':decide ((j:Int)<(rs.length:Int))=true:=GK oM
    by_cases c2:j<120
    ·have c2':decide ((j:Int)<120)=true:=GK oM
     obtain⟨row,hrow⟩:∃row,rs[j]?=some row:=⟨_,J9 c⟩
     obtain⟨zs,hz,rfl,hzb⟩:=hu.at hrow
     match zs,hz with
     |[x0,x1,x2],_=>
      have z0:=hzb x0 sM
      have z1:=hzb x1 sM
      have z2:=hzb x2 sM
      obtain⟨vo,hml,hmi,ldY⟩:=hs'.row oM hrow
      obtain⟨l4,-⟩:=ldY H' rfl
      unfold u8s at l4
      simp only[List.map_cons,List.map_nil]at l4
      obtain⟨Y,hY⟩:∃Y:Gb,Y=H'++[⟨[.int .u8 x0,.int .u8 x1,.int .u8 x2],.rw,0⟩]:=⟨_,rfl⟩
      have gY:Gr H' Y:=by rw[hY];exact Gr.app _ _
      have lY:Y[H'.length]?=some ⟨[.int .u8 x0,.int .u8 x1,.int .u8 x2],.rw,0⟩:=by rw[hY];simp
      obtain⟨s,R,D,w,hd,hb,hq⟩:=aj.ex
      have mY:=w.m.gr gY
      have w0:IntKind.i64.wrap x0=x0:=Gh oM
      have w1:IntKind.i64.wrap x1=x1:=Gh oM
      have w2:IntKind.i64.wrap x2=x2:=Gh oM
      have e30:x0.tmod 100=x0 % 100:=Int.tmod_eq_emod_of_nonneg oM
      have e32:x2.tmod 100=x2 % 100:=Int.tmod_eq_emod_of_nonneg oM
      obtain⟨ad,q1,q2,q3,q4⟩:=ZK mY w.k (n:=x0 % 100) oM
      have tY:=mY.top
      obtain⟨X1,s1,g1⟩:=Gcq mY.rh w.k ad
      have m1:=mY.gr g1
      have GR:=Gr.get g1 lY
      obtain⟨sr,sd,sk,se,hsh,hse⟩:∃sr sd sk se,s.JR ad=(Je sr sd sk,se)∧(se=0→0≤sr∧sr≤15):=by
       unfold Hp.JR
       cases ho:s.obj ad with
       |none=>exact⟨0,0,0,4,rfl,fun h=>by omega⟩
       |some o=>
        have:=(w.k.ob o (Hp.Jy ho).1).nr
        exact⟨_,_,_,0,rfl,fun _=>by omega⟩
      rw[hsh]at s1
      obtain⟨Z,hZ⟩:∃Z:Gb,Z=X1++[⟨[.i sr,.i sd,.i sk],.rw,0⟩]:=⟨_,rfl⟩
      have gZ:Gr X1 Z:=by rw[hZ];exact Gr.app _ _
      have lZ:Z[X1.length]?=some ⟨[.i sr,.i sd,.i sk],.rw,0⟩:=by rw[hZ];simp
      have lZ1:=Gr.get gZ GR
      have mZ:=m1.gr gZ
      have GaE:Gr H' Z:=(gY.trans g1).trans gZ
      have aZ:=aj.gr GaE
      unfold Je at s1
      by_cases c5:se=0
      ·have c5':(se==0)=true:=by simp[c5]
       obtain⟨r0,r1⟩:=hse c5
       by_cases c6:0<sr
       ·have c6':decide (0<sr)=true:=GK c6
        obtain⟨to,u1,u2,u3,u4⟩:=ZK mZ w.k (n:=x2 % 100) oM
        have e31:x1.tmod sr=x1 % sr:=Int.tmod_eq_emod_of_nonneg oM
        have hnz:¬sr=0:=by omega
        have hw:FX Z sb s R D:=⟨mZ,w.k,w.f,w.kr⟩
        obtain⟨H2,D2,p1,m2,g2⟩:=Gaz hw ad (x1 % sr) to oM oM
        have kk:=w.k.setRef ad (x1 % sr) to
        obtain⟨eb,en⟩:=s.Ga8 ad (x1 % sr) to
        have ff:(s.setRef ad (x1 % sr) to).1.Fz:=by unfold Hp.Fz;rw[eb];exact w.f
        have bb:(s.setRef ad (x1 % sr) to).1.born≤n0:=by rw[en];exact hb
        have a2:Nt VN c0 H0 sb n0 H2:=aZ.step hd g2 ⟨m2,kk,ff,w.kr⟩ bb (hq.setRef ..)
        apply Gt (k':=120-(j+1))
        ·simp(disch:=first|exact dz|fail) only[simprocAttr,Gc,↓reduceIte,A_,e1,e9,e13,tB,hl,c',c2',hml,l4]
         rw[←hY]
         simp(disch:=first|exact dz|fail) only[simprocAttr,Gc,↓reduceIte,e9,lY,NK,NN,Nf,Qi,w0,GA,e30,q1,tY,s1,Int.toNat_zero]
         rw[←hZ]
         simp(disch:=first|exact dz|fail) only[simprocAttr,Gc,↓reduceIte,c5',lZ,lZ1,c6',e9,ES,BO,Aj,Aq,w1,w2,N9,e31,e32,hnz,u1,p1,Bool.not_true,wj,e13]
         rfl
        ·omega
        ·exact⟨j+1,uA,oM,rfl,a2⟩
       ·have c6':decide (0<sr)=false:=GC c6
        apply Gt (k':=120-(j+1))
        ·simp(disch:=first|exact dz|fail) only[simprocAttr,Gc,↓reduceIte,A_,e1,e9,e13,tB,hl,c',c2',hml,l4]
         rw[←hY]
         simp(disch:=first|exact dz|fail) only[simprocAttr,Gc,↓reduceIte,e9,lY,NK,NN,Nf,Qi,w0,GA,e30,q1,tY,s1]
         rw[←hZ]
         simp(disch:=first|exact dz|fail) only[simprocAttr,Gc,↓reduceIte,c5',lZ,lZ1,c6',e9,wj,e13]
         rfl
        ·omega
        ·exact⟨j+1,uA,oM,rfl,aZ⟩
      ·have c5':(se==0)=false:=by simp[c5]
       apply Gt (k':=120-(j+1))
       ·simp(disch:=first|exact dz|fail) only[simprocAttr,Gc,↓reduceIte,A_,e1,e9,e13,tB,hl,c',c2',hml,l4]
        rw[←hY]
        simp(disch:=first|exact dz|fail) only[simprocAttr,Gc,↓reduceIte,e9,lY,NK,NN,Nf,Qi,w0,GA,e30,q1,tY,s1]
        rw[←hZ]
        simp(disch:=first|exact dz|fail) only[simprocAttr,Gc,↓reduceIte,c5',lZ,lZ1,e9,wj,e13]
        rfl
       ·omega
       ·exact⟨j+1,uA,oM,rfl,aZ⟩
    ·have c2':decide ((j:Int)<120)=false:=GC oM
     apply Gl (x:=.exit 4)
     ·simp(disch:=first|exact dz|fail) only[simprocAttr,Gc,↓reduceIte,A_,e1,e9,e13,tB,hl,c',c2']
      rfl
     ·simp
     ·exact⟨rfl,aj⟩
   ·have c':decide ((j:Int)<(rs.length:Int))=false:=GC oM
    apply Gl (x:=.exit 4)
    ·simp(disch:=first|exact dz|fail) only[simprocAttr,Gc,↓reduceIte,A_,e1,e9,e13,tB,hl,c']
     rfl
    ·simp
    ·exact⟨rfl,aj⟩) _ ⟨0,h13,oM,rfl,a⟩
 exact⟨E',H',hr.symm.trans e,a',fr⟩
theorem Gg2{n0:Nat}(hn0:n0≤1000)(a:Nt VN c0 H0 sb n0 H)(hb1:b1<c0)(hB:H0[b1]?=some ⟨[.int .u8 bl,.int .u8 mu,v2,v3,v4,v5,v6],.rw,0⟩)
  {rs:List (List CV)} (hs:Sl H0 v5 2 rs) (hv:Gp v5<c0) (hu:U8R 2 rs)
  {E0:Env} (h1:E0 1=.ptr b1 0) (h9:E0 9=.ptr sb 0) (h18:E0 18=.i 0) {r:Option (CX×Env×Gb)} (hr:den P (.loop FV) E0 H=r):
  ∃E' H',r=some (.exit 6,E',H')∧Nt VN c0 H0 sb n0 H'∧∀t,t∉wr FV→E' t=E0 t:=by
 obtain⟨x',E',H',e,-,⟨rfl,a'⟩,fr⟩:=Gy (p:=P) (c:=FV) (E0:=E0) (H0:=H)
  (fun q E H'=>∃j:Nat,E 18=.i j∧j≤20∧q=20-j∧Nt VN c0 H0 sb n0 H')
  (fun x E' H'=>x=.exit 6∧Nt VN c0 H0 sb n0 H') (by
   rintro q E H' hE ⟨j,e18,hj,rfl,aj⟩
   have e1:=(hE 1 dK).trans h1
   have e9:=(hE 9 dK).trans h9
   have tB:H'[b1]?=_:=(aj.keep b1 hb1).trans hB
   have hs':=hs.low hv aj.keep
   have hl:=hs'.len H'
   by_cases c:j<rs.length
   ·have c':decide ((j:Int)<(rs.length:Int))=true:=GK oM
    by_cases c2:j<20
    ·have c2':decide ((j:Int)<20)=true:=GK oM
     obtain⟨row,hrow⟩:∃row,rs[j]?=some row:=⟨_,J9 c⟩
     obtain⟨zs,hz,rfl,hzb⟩:=hu.at hrow
     match zs,hz with
     |[x0,x1],_=>
      have z0:=hzb x0 sM
      have z1:=hzb x1 sM
      obtain⟨vo,hml,hmi,ldY⟩:=hs'.row oM hrow
      have l0:=(ldY H' rfl).2 0 x0 rfl
      have l1:=(ldY H' rfl).2 1 x1 rfl
      rw[Nat.add_zero]at l0
      obtain⟨s,R,D,w,hd,hb,hq⟩:=aj.ex
      have w0:IntKind.i64.wrap x0=x0:=Gh oM
      have w1:IntKind.i64.wrap x1=x1:=Gh oM
      have e3:x1.tmod 100=x1 % 100:=Int.tmod_eq_emod_of_nonneg oM
      obtain⟨ad,q1,q2,q3,q4⟩:=ZK w.m w.k (n:=x1 % 100) oM
      obtain⟨R',H2,D2,p1,m2,g2,kr,hvl⟩:=Gc7 w (n:=x0) (a:=ad) oM oM
      have a2:Nt VN c0 H0 sb n0 H2:=aj.step hd g2 ⟨m2,w.k,w.f,kr⟩ hb ⟨hq.1,fun v hv=>by
       rcases hvl v hv with h|h
       ·exact hq.2.1 v h
       ·subst h;exact q4,hq.2.2⟩
      have wj:IntKind.i64.wrap ((j:Int)+1)=((j+1:Nat):Int):=Gh oM
      apply Gt (k':=20-(j+1))
      ·simp(disch:=first|exact dz|fail) only[simprocAttr,Gc,↓reduceIte,FV,e1,e9,e18,tB,hl,c',c2',hml,hmi,l0,l1,ES,BO,Aj,Aq,w0,w1,N9,e3,q1,p1,Bool.not_true,wj]
       rfl
      ·omega
      ·exact⟨j+1,uA,oM,rfl,a2⟩
    ·have c2':decide ((j:Int)<20)=false:=GC oM
     apply Gl (x:=.exit 6)
     ·simp(disch:=first|exact dz|fail) only[simprocAttr,Gc,↓reduceIte,FV,e1,e9,e18,tB,hl,c',c2']
      rfl
     ·simp
     ·exact⟨rfl,aj⟩
   ·have c':decide ((j:Int)<(rs.length:Int))=false:=GC oM
    apply Gl (x:=.exit 6)
    ·simp(disch:=first|exact dz|fail) only[simprocAttr,Gc,↓reduceIte,FV,e1,e9,e18,tB,hl,c']
     rfl
    ·simp
    ·exact⟨rfl,aj⟩) _ ⟨0,h18,oM,rfl,a⟩
 exact⟨E',H',hr.symm.trans e,a',fr⟩
theorem Gh5{n0:Nat}(hn0:n0≤1000)(a:Nt VN c0 H0 sb n0 H)(hb1:b1<c0)(hB:H0[b1]?=some ⟨[.int .u8 bl,.int .u8 mu,v2,v3,v4,v5,v6],.rw,0⟩)
  {rs:List (List CV)} (hs:Sl H0 v6 1 rs) (hv:Gp v6<c0) (hu:U8R 1 rs)
  {E0:Env} (h1:E0 1=.ptr b1 0) (h9:E0 9=.ptr sb 0) (h19:E0 19=.i 0) {r:Option (CX×Env×Gb)} (hr:den P (.loop Ho) E0 H=r):
  ∃E' H',r=some (.exit 8,E',H')∧Nt VN c0 H0 sb n0 H'∧∀t,t∉wr Ho→E' t=E0 t:=by
 obtain⟨x',E',H',e,-,⟨rfl,a'⟩,fr⟩:=Gy (p:=P) (c:=Ho) (E0:=E0) (H0:=H)
  (fun q E H'=>∃j:Nat,E 19=.i j∧j≤8∧q=8-j∧Nt VN c0 H0 sb n0 H')
  (fun x E' H'=>x=.exit 8∧Nt VN c0 H0 sb n0 H') (by
   rintro q E H' hE ⟨j,e19,hj,rfl,aj⟩
   have e1:=(hE 1 dK).trans h1
   have e9:=(hE 9 dK).trans h9
   have tB:H'[b1]?=_:=(aj.keep b1 hb1).trans hB
   have hs':=hs.low hv aj.keep
   have hl:=hs'.len H'
   by_cases c:j<rs.length
   ·have c':decide ((j:Int)<(rs.length:Int))=true:=GK oM
    by_cases c2:j<8
    ·have c2':decide ((j:Int)<8)=true:=GK oM
     obtain⟨row,hrow⟩:∃row,rs[j]?=some row:=⟨_,J9 c⟩
     obtain⟨zs,hz,rfl,hzb⟩:=hu.at hrow
     match zs,hz with
     |[x0],_=>
      have z0:=hzb x0 sM
      obtain⟨vo,hml,hmi,ldY⟩:=hs'.row oM hrow
      have l0:=(ldY H' rfl).2 0 x0 rfl
      rw[Nat.add_zero]at l0
      obtain⟨s,R,D,w,hd,hb,hq⟩:=aj.ex
      have w3:IntKind.i64.wrap x0=x0:=Gh oM
      have e3:x0.tmod 100=x0 % 100:=Int.tmod_eq_emod_of_nonneg oM
      obtain⟨ad,q1,q2,q3,q4⟩:=ZK w.m w.k (n:=x0 % 100) oM
      obtain⟨H1,D1,p1,m1,g1⟩:=w.m.S9 (GhE w.m.rh w.k ad)
      obtain⟨H2,p2,m2,g2⟩:=m1.Pt (Gd6 m1.ph w.k ad oM)
      have t0:=w.m.top
      have t1:=m1.RJ g1
      rw[g1.same.1]at p2
      have e:((s.Ka ad true).2 != (s.Ka ad true).2)=false:=by simp
      have kk:(s.Ka ad true).1.Ok:=by
       unfold Hp.Ka
       split
       ·exact w.k.upd fun x _ _=>⟨rfl,rfl,rfl,rfl,rfl⟩
       ·exact w.k
      have ff:(s.Ka ad true).1.Fz:=by unfold Hp.Ka;split<;>exact w.f
      have bb:(s.Ka ad true).1.born≤n0:=by unfold Hp.Ka;split<;>exact hb
      have a2:Nt VN c0 H0 sb n0 H2:=aj.step hd (g1.trans g2) ⟨m2,kk,ff,w.kr⟩ bb (hq.Ka ..)
      have wj:IntKind.i64.wrap ((j:Int)+1)=((j+1:Nat):Int):=Gh oM
      apply Gt (k':=8-(j+1))
      ·simp(disch:=first|exact dz|fail) only[simprocAttr,Gc,↓reduceIte,Ho,e1,e9,e19,tB,hl,c',c2',hml,l0,Nf,Qi,w3,GA,e3,q1,t0,p1,t1,p2,e,wj]
       rfl
      ·omega
      ·exact⟨j+1,uA,oM,rfl,a2⟩
    ·have c2':decide ((j:Int)<8)=false:=GC oM
     apply Gl (x:=.exit 8)
     ·simp(disch:=first|exact dz|fail) only[simprocAttr,Gc,↓reduceIte,Ho,e1,e9,e19,tB,hl,c',c2']
      rfl
     ·simp
     ·exact⟨rfl,aj⟩
   ·have c':decide ((j:Int)<(rs.length:Int))=false:=GC oM
    apply Gl (x:=.exit 8)
    ·simp(disch:=first|exact dz|fail) only[simprocAttr,Gc,↓reduceIte,Ho,e1,e9,e19,tB,hl,c']
     rfl
    ·simp
    ·exact⟨rfl,aj⟩) _ ⟨0,h19,oM,rfl,a⟩
 exact⟨E',H',hr.symm.trans e,a',fr⟩
end
end Go.Cs.Tryz

namespace Go.Cs
open Go
theorem Bare.new(n m:Nat):Bare (Hp.new n) (Rt.new m):=by
 refine⟨fun o ho=>(by cases ho),fun v hv=>?_,?_,fun x hx=>(by cases hx)⟩
 rotate_left
 ·show((List.replicate n ((0:Nat),(0:Nat))).getD 0 (0,0)).1=0
  rw[Qc,List.getElem?_replicate]
  split<;>rfl
 simp only[Rt.vals,Rt.flat,Rt.new,NG,List.mem_flatten,List.mem_replicate]at hv
 rcases hv with⟨l,⟨-,rfl⟩,h⟩|h|h
 ·exact(List.mem_replicate.1 h).2
 ·exact h.2
 ·cases h
theorem Hp.Giz(n:Nat):(Hp.new n).Fz:=fun x hx _=>by rw[(List.mem_replicate.1 hx).2]
end Go.Cs
namespace Go.Cs.Tryz
open Go Go.Cs
section
variable {H : Gb}
structure Beg(H:Gb)(bl mu:Int)(v:Nat→CV):Prop where
 bl:0≤bl∧bl≤255
 mu:0≤mu∧mu≤255
 sl:∀(i:Nat)(n:Nat×Nat),[(2,4),(3,1),(4,3),(5,2),(6,1)][i]?=some n→∃rs,Sl H (v n.1) n.2 rs∧Gp (v n.1)<H.length+1∧U8R n.2 rs
theorem Gat{bl mu:Int}{v:Nat→CV}(b:Beg H bl mu v):
  ∃sb H' s R D,run P 18 [.agg [.int .u8 bl,.int .u8 mu,v 2,v 3,v 4,v 5,v 6]] H=some (.ptr sb 0,H')∧FX H' sb s R D∧(∀c,D.own sb c→H.length<c)∧s.born≤40∧VN s R∧(∀c,c<H.length→H'[c]?=H[c]?)∧H.length<H'.length:=by
 obtain⟨X0,hX0⟩:∃X0:Gb,X0=H++[⟨[.int .u8 bl,.int .u8 mu,v 2,v 3,v 4,v 5,v 6],.rw,0⟩]:=⟨_,rfl⟩
 have g0:Gr H X0:=by rw[hX0];exact Gr.app _ _
 have l0:X0.length=H.length+1:=by rw[hX0];simp
 have t0:X0[H.length]?=some ⟨[.int .u8 bl,.int .u8 mu,v 2,v 3,v 4,v 5,v 6],.rw,0⟩:=by rw[hX0];simp
 have hbl:=b.bl
 have hmu:=b.mu
 have wb:IntKind.i64.wrap bl=bl:=Gh oM
 have wm:IntKind.i64.wrap mu=mu:=Gh oM
 have eb:bl.tmod 23=bl % 23:=Int.tmod_eq_emod_of_nonneg oM
 have em:mu.tmod 4=mu % 4:=Int.tmod_eq_emod_of_nonneg oM
 have wb2:IntKind.i64.wrap (2+bl % 23)=2+bl % 23:=Gh oM
 have wm2:IntKind.i64.wrap (1+mu % 4)=1+mu % 4:=Gh oM
 obtain⟨hb,X1,L,r1,g1,ph,fr1⟩:=Wo (H:=X0) (2+bl % 23) oM
 obtain⟨rb,X2,o1,w,r2,g2,pr,fr2⟩:=Ph (H:=X1) (1+mu % 4) oM
 obtain⟨X3,Bd⟩:∃X3:Gb,X3=X2++[⟨[.ptr hb 0,.ptr rb 0,.nilPtr,.nilPtr],.rw,0⟩]:=⟨_,rfl⟩
 have g3:Gr X2 X3:=by rw[Bd];exact Gr.app _ _
 have l3:X3.length=X2.length+1:=by rw[Bd];simp
 have t3:X3[X2.length]?=some ⟨[.ptr hb 0,.ptr rb 0,.nilPtr,.nilPtr],.rw,0⟩:=by rw[Bd];simp
 obtain⟨qb,X4,o2,L2,r4,g4,rh,fr4⟩:=Ghr (H:=X3) (2+bl % 23) oM
 have t4:=g4.get t3
 obtain⟨X5,Sk⟩:∃X5:Gb,X5=X4.set X2.length ⟨[.ptr hb 0,.ptr rb 0,.ptr qb 0,.nilPtr],.rw,0⟩:=⟨_,rfl⟩
 have l5:X5.length=X4.length:=by rw[Sk];simp
 have t5:X5[X2.length]?=some ⟨[.ptr hb 0,.ptr rb 0,.ptr qb 0,.nilPtr],.rw,0⟩:=by rw[Sk,KI (Gd t4)]
 have k5:∀c,c≠X2.length→X5[c]?=X4[c]?:=fun c hc=>by rw[Sk,JU (Ne.symm hc)]
 obtain⟨ub,X6,o3,L3,r6,g6,rr,fr6⟩:=GaR (H:=X5) (1+mu % 4) oM
 have t6:=g6.get t5
 obtain⟨X7,hX7⟩:∃X7:Gb,X7=X6.set X2.length ⟨[.ptr hb 0,.ptr rb 0,.ptr qb 0,.ptr ub 0],.rw,0⟩:=⟨_,rfl⟩
 have t7:X7[X2.length]?=some ⟨[.ptr hb 0,.ptr rb 0,.ptr qb 0,.ptr ub 0],.rw,0⟩:=by rw[hX7,KI (Gd t6)]
 have k7:∀c,c≠X2.length→X7[c]?=X6[c]?:=fun c hc=>by rw[hX7,JU (Ne.symm hc)]
 have e1:=g1.len
 have e2:=g2.len
 have e4:=g4.len
 have e6:=g6.len
 have hl7:X7.length=X6.length:=by rw[hX7];simp
 have k46:∀c,c<X4.length→c≠X2.length→X7[c]?=X4[c]?:=fun c hc hn=>by
  rw[k7 c hn,g6.keep c oM (fun h=>h),k5 c hn]
 have kX:∀c,c<X3.length→c≠X2.length→X7[c]?=X3[c]?:=fun c hc hn=>by
  rw[k46 c oM hn,g4.keep c hc fun h=>h]
 have kX2:∀c,c<X2.length→X7[c]?=X2[c]?:=fun c hc=>by
  rw[kX c oM oM,g3.keep c hc fun h=>h]
 have kX1:∀c,c<X1.length→X7[c]?=X1[c]?:=fun c hc=>by
  rw[kX2 c oM,g2.keep c hc fun h=>h]
 have kX0:∀c,c<X0.length→X7[c]?=X0[c]?:=fun c hc=>by
  rw[kX1 c oM,g1.keep c hc fun h=>h]
 have lt1:∀c∈L.all hb,c<X1.length:=ph.lt
 obtain⟨D,hD⟩:∃D:VF,D=⟨hb,L,rb,o1,w,qb,o2,L2,ub,o3,L3⟩:=⟨_,rfl⟩
 have n1:∀c,c<X1.length→o1 c=none:=fun c hc=>Jo fun h=>by
  cases e:o1 c with
  |none=>exact h e
  |some u=>have:=fr2 c u e;omega
 have n1':∀c,X2.length≤c→o1 c=none:=fun c hc=>Jo fun h=>by
  cases e:o1 c with
  |none=>exact h e
  |some u=>have:=pr.dom c u e;omega
 have n2:∀c,c<X3.length→o2 c=none:=fun c hc=>Jo fun h=>by
  cases e:o2 c with
  |none=>exact h e
  |some u=>have:=fr4 c u e;omega
 have n2':∀c,X4.length≤c→o2 c=none:=fun c hc=>Jo fun h=>by
  cases e:o2 c with
  |none=>exact h e
  |some u=>have:=rh.dom c u e;omega
 have n3:∀c,c<X5.length→o3 c=none:=fun c hc=>Jo fun h=>by
  cases e:o3 c with
  |none=>exact h e
  |some u=>have:=fr6 c u e;omega
 have m7:AY X7 X2.length (Hp.new (2+bl % 23).toNat) (Hp.new (2+bl % 23).toNat) (Rt.new (1+mu % 4).toNat) (Rt.new (1+mu % 4).toNat) D:=by
  subst hD
  refine⟨t7,ph.frame fun c hc=>kX1 c (lt1 c hc),?_,?_,?_,?_,?_,?_,?_⟩
  ·exact pr.frame (fun c u h=>by have:=pr.dom c u h;omega) (fun _ _ h=>h) fun c u h=>kX2 c (pr.dom c u h)
  ·exact rh.frame (fun c u h=>by have:=rh.dom c u h;omega) (fun _ _ h=>h) fun c u h=>k46 c (rh.dom c u h) (by have:=fr4 c u h;omega)
  ·exact rr.frame (fun c u h=>by have:=rr.dom c u h;omega) (fun _ _ h=>h) fun c u h=>k7 c (by have:=fr6 c u h;omega)
  ·exact⟨fun h=>by have:=lt1 _ h;omega,n1' _ (Nat.le_refl _),n2 _ oM,n3 _ oM⟩
  ·exact fun c hc=>⟨n1 c (lt1 c hc),n2 c (by have:=lt1 c hc;omega),n3 c (by have:=lt1 c hc;omega)⟩
  ·intro c hc
   cases e:o1 c with
   |none=>exact absurd e hc
   |some u=>
    have:=pr.dom c u e
    exact⟨n2 c oM,n3 c oM⟩
  ·intro c hc
   cases e:o2 c with
   |none=>exact absurd e hc
   |some u=>
    have:=rh.dom c u e
    exact n3 c oM
 have hown:∀c,D.own X2.length c→H.length+1≤c:=fun c hc=>by
  subst hD
  rcases hc with rfl|hc|hc|hc|hc
  ·omega
  ·have:=fr1 c hc;omega
  ·cases e:o1 c with
   |none=>exact absurd e hc
   |some u=>have:=fr2 c u e;omega
  ·cases e:o2 c with
   |none=>exact absurd e hc
   |some u=>have:=fr4 c u e;omega
  ·cases e:o3 c with
   |none=>exact absurd e hc
   |some u=>have:=fr6 c u e;omega
 have hbn:((2+bl % 23).toNat:Nat)≤64:=by omega
 have a7:Nt Bare (H.length+1) X0 X2.length 0 X7:=⟨⟨_,_,D,⟨m7,Hp.BI oM,Hp.Giz _,Rt.BI oM⟩,hown,Nat.le_refl _,Bare.new _ _⟩,oM,fun c hc=>kX0 c oM⟩
 obtain⟨rs2,s2,b2,u2⟩:=b.sl 0 _ rfl
 obtain⟨rs3,s3,b3,u3⟩:=b.sl 1 _ rfl
 obtain⟨rs4,s4,b4,u4⟩:=b.sl 2 _ rfl
 obtain⟨rs5,s5,b5,u5⟩:=b.sl 3 _ rfl
 obtain⟨rs6,s6,b6,u6⟩:=b.sl 4 _ rfl
 have up:∀{x:CV}{e:Nat}{rs:List (List CV)},Sl H x e rs→Sl X0 x e rs:=fun h=>h.mono fun b k hb _ _=>g0.get hb
 have tsb:X2.length≠H.length:=by omega
 have tB5:X1[H.length]?=_:=g1.get t0
 have tB2:X2[H.length]?=_:=g2.get tB5
 rw[Gi c18 _ _ sM]
 simp(disch:=first|exact dz|fail) only[simprocAttr,Gc,↓reduceIte,Gv]
 rw[←hX0]
 simp(disch:=first|exact dz|fail) only[simprocAttr,Gc,↓reduceIte,t0,Aj,Aq,N9,wb,wm,eb,em,wb2,wm2,r1,r2,fill,splice,and_self,show((0:Int) != 0)=false from rfl]
 rw[←Bd]
 simp(disch:=first|exact dz|fail) only[simprocAttr,Gc,↓reduceIte,r4,t4]
 rw[←Sk]
 simp(disch:=first|exact dz|fail) only[simprocAttr,Gc,↓reduceIte,r6,t6]
 rw[←hX7]
 generalize hr:den P (.loop FP) _ _=r
 obtain⟨E5,Y5,rfl,a5,f5⟩:=GhJ oM a7 (b1:=H.length) oM t0 (up s2) b2 u2 uA uA uA hr
 have f51:=f5 1 dK
 have f59:=f5 9 dK
 simp only[Gg,Nat.reduceEqDiff,↓reduceIte]at f51 f59
 simp(disch:=first|exact dz|fail) only[simprocAttr,Gc,↓reduceIte,f51,f59]
 generalize hr:den P (.loop FJ) _ _=r
 obtain⟨E4,Y4,rfl,a4,f4⟩:=GgS oM a5 (b1:=H.length) oM t0 (up s3) b3 u3 (by simp[Gg,f51]) (by simp[Gg,f59]) uA hr
 have f41:=f4 1 dK
 have f49:=f4 9 dK
 simp only[Gg,Nat.reduceEqDiff,↓reduceIte,f51,f59]at f41 f49
 simp(disch:=first|exact dz|fail) only[simprocAttr,Gc,↓reduceIte,f41,f49]
 generalize hr:den P (.loop A_) _ _=r
 obtain⟨E3,Y3,rfl,a3,f3⟩:=GgJ oM (a4.snd) (b1:=H.length) oM t0 (up s4) b4 u4 (by simp[Gg,f41]) (by simp[Gg,f49]) uA hr
 have f31:=f3 1 dK
 have f39:=f3 9 dK
 simp only[Gg,Nat.reduceEqDiff,↓reduceIte,f41,f49]at f31 f39
 simp(disch:=first|exact dz|fail) only[simprocAttr,Gc,↓reduceIte,f31,f39]
 generalize hr:den P (.loop FV) _ _=r
 obtain⟨E2,Y2,rfl,a2,f2⟩:=Gg2 oM a3 (b1:=H.length) oM t0 (up s5) b5 u5 (by simp[Gg,f31]) (by simp[Gg,f39]) uA hr
 have f21:=f2 1 dK
 have f29:=f2 9 dK
 simp only[Gg,Nat.reduceEqDiff,↓reduceIte,f31,f39]at f21 f29
 simp(disch:=first|exact dz|fail) only[simprocAttr,Gc,↓reduceIte,f21,f29]
 generalize hr:den P (.loop Ho) _ _=r
 obtain⟨E1,Y1,rfl,a1,f1⟩:=Gh5 oM a2 (b1:=H.length) oM t0 (up s6) b6 u6 (by simp[Gg,f21]) (by simp[Gg,f29]) uA hr
 have f19:=f1 9 dK
 simp only[Gg,Nat.reduceEqDiff,↓reduceIte,f29]at f19
 obtain⟨s,R,D',w',hd,hb',hq⟩:=a1.ex
 refine⟨X2.length,Y1,s,R,D',?_,w',fun c h=>by have:=hd c h;omega,oM,hq,fun c hc=>?_,by have:=a1.len;omega⟩
 ·simp(disch:=first|exact dz|fail) only[simprocAttr,Gc,↓reduceIte,f19]
 ·rw[a1.keep c oM,g0.keep c hc fun h=>h]
end
end Go.Cs.Tryz
namespace Go.Cs.Tryz
open Go Go.Cs A
def C23:Gm:=⟨9,0,T [nb 4 false] (Q [m 5 0,m 6 1,q2 7 79 5 6,bk 8 .geq 7 0,m 4 8]),[r 4]⟩
theorem c23:P 23=some C23:=by kernel_rfl
def MN:Gu:=S (T [m 6 5,m 7 0,le 8 7,b 9 .lss 6 8] (J 9 (X 0))) (S (B 1 (T [m 12 0,m 13 5,x 14 1 12 13,l 15 1 14,m 16 1,b 17 .eql 15 16] (I 17 (Q [m 18 5,m 4 18])))) (R [m 10 5,bk 11 .add 10 1,m 5 11]))
def C79:Gm:=⟨19,0,T [n 4 0] (S (T [n 5 0] (B 0 (W MN))) (Q [n 4 (-1)])),[r 4]⟩
theorem c79:P 79=some C79:=by kernel_rfl
def Gna:Gm:=⟨15,0,T [e 6 (.K7 (c .Gf))] (S (T [m 7 0,m 8 2,q2 9 176 7 8,no 10 9] (I 10 (Q [m 11 1,m 6 11]))) (Q [m 12 1,m 13 2,q2 14 174 12 13,m 6 14])),[r 6]⟩
theorem GqY:P 163=some Gna:=by kernel_rfl
def Gm2:Gm:=⟨6,0,T [e 2 (.K7 (c .Gf))] (Q [e 3 (.buildSlice 1 [] 0 []),m 4 0,ap 5 1 3 4,m 2 5]),[r 2]⟩
theorem c164:P 164=some Gm2:=by kernel_rfl
def GoS:Gm:=⟨26,0,T [bo 2 0,nb 4 false] (Q [f 5 2 2,l 6 1 5,bk 7 .neq 6 1,m 8 7,gt 8 (f 9 2 2),gt 8 (l 10 1 9),gt 8 (bk 11 .neq 10 2),an 12 8 11,m 13 12,gf 13 (m 14 1),gf 13 (bk 15 .gtr 14 0),gf 13 (m 16 15),gt 16 (f 17 2 2),gt 16 (l 18 1 17),gt 16 (bk 19 .eql 18 1),gt 16 (m 20 19),gf 20 (m 21 1),gf 20 (bk 22 .gtr 21 1),gt 16 (or 23 20 22),gf 13 (an 24 16 23),or 25 13 24,m 4 25]),[r 4]⟩
theorem Gq3:P 165=some GoS:=by kernel_rfl
def Zp:Gu:=S (T [m 6 5,m 7 0,le 8 7,b 9 .lss 6 8,m 10 9,gt 10 (m 11 0),gt 10 (m 12 5),gt 10 (x 13 1 11 12),gt 10 (l 14 1 13),gt 10 (m 15 1),gt 10 (b 16 .lss 14 15),an 17 10 16] (J 17 (X 0))) (B 1 (R [m 18 5,bk 19 .add 18 1,m 5 19]))
def GpN:Gm:=⟨45,0,T [e 4 (.K7 (c .Gf))] (T [n 5 0] (S (B 0 (W Zp)) (S (T [m 20 5,m 21 0,le 22 21,b 23 .lss 20 22,m 24 23,gt 24 (m 25 0),gt 24 (m 26 5),gt 24 (x 27 1 25 26),gt 24 (l 28 1 27),gt 24 (m 29 1),gt 24 (b 30 .eql 28 29),an 31 24 30] (I 31 (Q [m 32 0,m 4 32]))) (S (D [⟨e 33 (.buildSlice 1 [] 0 []),0,0,0⟩,⟨m 34 0,1,0,0⟩,⟨m 35 5,2,0,0⟩,⟨e 36 (.slice 1 (t 34) none (some (t 35)) none),3,0,0⟩,⟨ap 37 1 33 36,4,3,0⟩,⟨m 38 1,5,0,0⟩,⟨e 39 (.buildSlice 1 [i 0] 1 [(0,1,t 38)]),6,0,0⟩,⟨ap 40 1 37 39,7,3,1⟩,⟨m 41 0,8,0,0⟩,⟨m 42 5,9,0,0⟩,⟨e 43 (.slice 1 (t 41) (some (t 42)) none none),10,0,0⟩,⟨ap 44 1 40 43,11,3,2⟩,⟨m 4 44,12,0,3⟩]) .ret)))),[r 4]⟩
theorem Gm6:P 174=some GpN:=by kernel_rfl
end Go.Cs.Tryz
namespace Go.Cs
open Go
abbrev LI(H:Gb)(v:CV)(l:List Int):Prop:=IL 0 H v l
theorem IL.li{k:Nat}{H:Gb}{v:CV}{l:List Int}(h:IL k H v l):LI H v l:=h.frame (fun c h=>Gn.2 ⟨Nat.zero_le _,(Gn.1 h).2⟩) fun c h=>rfl
theorem LI.gr{H H':Gb}{v:CV}{l:List Int}(h:LI H v l)(g:Gr H H'):LI H' v l:=h.keeps g
theorem LI.len{H:Gb}{v:CV}{l:List Int}(h:LI H v l)(H':Gb):KA v H'=some (.i l.length,H'):=At.len h H'
theorem LI.at{H:Gb}{v:CV}{l:List Int}(h:LI H v l){i:Nat}{x:Int}(hi:l[i]?=some x):
  ∃b o,(∀X,Kb 1 v (.i i) X=some (.ptr b o,X))∧ZP 1 v (.i i)=okV (.ptr b o)∧∀Y,Gr H Y→ld Y[b]? o=some (.i x):=by
 obtain⟨b,o,h1,h2,h3,-⟩:=IL.at h hi
 refine⟨b,o,h1,h2,fun Y g=>?_⟩
 have hb:b<H.length:=by
  cases e:H[b]? with
  |none=>rw[e]at h3;cases h3
  |some k=>exact Gd e
 rw[g.keep b hb fun h=>h];exact h3
def Zj(l:List Int):Prop:=l.Pairwise (·<·)
def Df(n:Int):List Int→List Int
 |[]=>[n]
 |x::l=>if x<n then x::Df n l else if x=n then x::l else n::x::l
theorem Ya{n x:Int}:∀{l:List Int},x∈Df n l↔x=n∨x∈l
 |[]=>by simp[Df]
 |y::l=>by
  unfold Df
  split
  ·rw[List.mem_cons,Ya,List.mem_cons]
   constructor
   ·rintro (h|h|h)
    ·exact .inr (.inl h)
    ·exact .inl h
    ·exact .inr (.inr h)
   ·rintro (h|h|h)
    ·exact .inr (.inl h)
    ·exact .inl h
    ·exact .inr (.inr h)
  ·split
   ·rename_i h
    subst h
    simp
   ·simp only[List.mem_cons]
theorem TV{n:Int}:∀{l:List Int},Zj l→Zj (Df n l)
 |[],_=>by simp[Df,Zj]
 |y::l,h=>by
  unfold Zj at h
  rw[List.pairwise_cons]at h
  unfold Df
  split
  ·rename_i hy
   refine List.pairwise_cons.2 ⟨fun z hz=>?_,TV h.2⟩
   rcases Ya.1 hz with rfl|hz
   ·exact hy
   ·exact h.1 z hz
  ·split
   ·exact List.pairwise_cons.2 h
   ·refine List.pairwise_cons.2 ⟨fun z hz=>?_,List.pairwise_cons.2 h⟩
    rcases List.mem_cons.1 hz with rfl|hz
    ·omega
    ·have:=h.1 z hz;omega
def Zc(n:Int)(l:List Int):Nat:=(l.takeWhile fun x=>decide (x<n)).length
theorem GaX(n:Int)(l:List Int):Zc n l≤l.length:=(List.takeWhile_sublist _).length_le
theorem R_(n:Int):∀l:List Int,Df n l=if l[Zc n l]?=some n then l else l.take (Zc n l)++n::l.drop (Zc n l)
 |[]=>by simp[Df,Zc]
 |y::l=>by
  unfold Df
  by_cases h:y<n
  ·rw[if_pos h,R_ n l]
   have e:Zc n (y::l)=Zc n l+1:=by unfold Zc;rw[List.takeWhile_cons_of_pos (by simpa using h)];rfl
   rw[e,List.getElem?_cons_succ,List.take_succ_cons,List.drop_succ_cons]
   split<;>rfl
  ·rw[if_neg h]
   have e:Zc n (y::l)=0:=by unfold Zc;rw[List.takeWhile_cons_of_neg (by simpa using h)];rfl
   rw[e]
   by_cases h2:y=n
   ·rw[if_pos h2,if_pos (by rw[h2];rfl)]
   ·rw[if_neg h2,if_neg (by simpa using h2)];rfl
theorem RL{n:Int}:∀{l:List Int}{j:Nat},j≤l.length→(∀i y,i<j→l[i]?=some y→y<n)→(∀y,l[j]?=some y→n≤y)→Zc n l=j
 |[],j,hj,_,_=>by simp only[List.length_nil]at hj;unfold Zc;simp;omega
 |x::l,0,_,_,h2=>by
  have:=h2 x rfl
  unfold Zc
  rw[List.takeWhile_cons_of_neg (by simpa using this)];rfl
 |x::l,j+1,hj,h1,h2=>by
  have:=h1 0 x oM rfl
  have ih:=RL (n:=n) (l:=l) (j:=j) (by simpa using hj) (fun i y hi hy=>h1 (i+1) y oM (by simpa using hy)) (fun y hy=>h2 y (by simpa using hy))
  unfold Zc at ih⊢
  rw[List.takeWhile_cons_of_pos (by simpa using this),List.length_cons,ih]
theorem GgZ{l:List Int}(h:Zj l){a b:Int}(hl:∀x∈l,a≤x∧x<b):(l.length:Int)≤b-a∨l=[]:=by
 induction l generalizing a with
 |nil=>exact .inr rfl
 |cons x l ih=>
  unfold Zj at h
  rw[List.pairwise_cons]at h
  have hx:=hl x NC
  left
  rcases ih h.2 (a:=x+1) (fun y hy=>⟨by have:=h.1 y hy;omega,(hl y (Um _ hy)).2⟩)with e|e
  ·simp only[List.length_cons];omega
  ·subst e;simp;omega
theorem Dm:∀{l k:List Int},Zj l→Zj k→(∀x,x∈l↔x∈k)→l=k
 |[],[],_,_,_=>rfl
 |[],y::k,_,_,h=>by have:=(h y).2 NC;cases this
 |x::l,[],_,_,h=>by have:=(h x).1 NC;cases this
 |x::l,y::k,h1,h2,h=>by
  unfold Zj at h1 h2
  rw[List.pairwise_cons]at h1 h2
  have e:x=y:=by
   rcases List.mem_cons.1 ((h x).1 NC)with e|e
   ·exact e
   ·rcases List.mem_cons.1 ((h y).2 NC)with e2|e2
    ·exact e2.symm
    ·have:=h1.1 y e2
     have:=h2.1 x e
     omega
  subst e
  congr 1
  refine Dm h1.2 h2.2 fun z=>?_
  constructor
  ·intro hz
   rcases List.mem_cons.1 ((h z).1 (Um _ hz))with e|e
   ·have:=h1.1 z hz;omega
   ·exact e
  ·intro hz
   rcases List.mem_cons.1 ((h z).2 (Um _ hz))with e|e
   ·have:=h2.1 z hz;omega
   ·exact e
def Jj(kd i:Int):Bool:=(kd != 1&&kd != 2)||(decide (0<i)&&(kd==1||decide (1<i)))
end Go.Cs
namespace Go.Cs.Tryz
open Go Go.Cs
section
variable {H : Gb} {v : CV} {l : List Int}
theorem Gp4(h:LI H v l)(hl:l.length≤100000){n:Int}{E0:Env}(h0:E0 0=v)(h1:E0 1=.i n)(h5:E0 5=.i 0){r:Option (CX×Env×Gb)}(hr:den P (.loop MN) E0 H=r):
  ∃x E',r=some (x,E',H)∧((x=.ret∧∃j:Nat,E' 4=.i j∧n∈l)∨(x=.exit 0∧n∉l)):=by
 obtain⟨x',E',H',e,-,⟨rfl,hres⟩,fr⟩:=Gy (p:=P) (c:=MN) (E0:=E0) (H0:=H)
  (fun q E H'=>H'=H∧∃j:Nat,E 5=.i j∧j≤l.length∧q=l.length-j∧∀i y,i<j→l[i]?=some y→y≠n)
  (fun x E' H'=>H'=H∧((x=.ret∧∃j:Nat,E' 4=.i j∧n∈l)∨(x=.exit 0∧n∉l))) (by
   rintro q E H' hE ⟨rfl,j,e5,hj,rfl,hn⟩
   have e0:=(hE 0 dK).trans h0
   have e1:=(hE 1 dK).trans h1
   have hvl:=h.len H'
   by_cases c:j<l.length
   ·have c':decide ((j:Int)<(l.length:Int))=true:=GK oM
    have hx:l[j]?=some l[j]:=J9 c
    obtain⟨b,o,i1,i2,i3⟩:=h.at hx
    have V3:=i3 H' (Keeps.refl _ _)
    have w1:IntKind.i64.wrap ((j:Int)+1)=((j+1:Nat):Int):=Gh oM
    by_cases ha:l[j]=n
    ·have ha':(l[j]==n)=true:=by simp[ha]
     apply Gl (x:=.ret)
     ·simp(disch:=first|exact dz|fail) only[simprocAttr,Gc,↓reduceIte,MN,e0,e1,e5,hvl,c',i1,V3,ha']
      rfl
     ·simp
     ·exact⟨rfl,.inl ⟨rfl,j,uA,by rw[←ha];exact List.getElem_mem c⟩⟩
    ·have ha':(l[j]==n)=false:=by simp[ha]
     apply Gt (k':=l.length-(j+1))
     ·simp(disch:=first|exact dz|fail) only[simprocAttr,Gc,↓reduceIte,MN,e0,e1,e5,hvl,c',i1,V3,ha',w1]
      rfl
     ·omega
     ·refine⟨rfl,j+1,uA,oM,rfl,fun i y hi hy=>?_⟩
      by_cases e:i=j
      ·subst e
       rw[hx]at hy
       simp only[Gx]at hy
       rw[←hy];exact ha
      ·exact hn i y oM hy
   ·have c':decide ((j:Int)<(l.length:Int))=false:=GC oM
    apply Gl (x:=.exit 0)
    ·simp(disch:=first|exact dz|fail) only[simprocAttr,Gc,↓reduceIte,MN,e0,e1,e5,hvl,c']
     rfl
    ·simp
    ·refine⟨rfl,.inr ⟨rfl,fun hm=>?_⟩⟩
     obtain⟨i,hi,he⟩:=List.getElem_of_mem hm
     exact hn i _ oM (J9 hi) he) _ ⟨rfl,0,h5,oM,rfl,fun i y hi=>by omega⟩
 exact⟨x',E',hr.symm.trans e,hres⟩
theorem Ga_(h:LI H v l)(hl:l.length≤100000)(n:Int):run P 23 [v,.i n] H=some (.bool (decide (n∈l)),H):=by
 have key:∃z:Int,run P 79 [v,.i n] H=some (.i z,H)∧(0≤z↔n∈l):=by
  rw[Gi c79 _ _ sM]
  simp(disch:=first|exact dz|fail) only[simprocAttr,Gc,↓reduceIte,Gj]
  generalize hr:den P (.loop MN) _ _=r
  obtain⟨x,E',rfl,hp⟩:=Gp4 h hl (n:=n) uA uA uA hr
  rcases hp with⟨rfl,j,h4,hm⟩|⟨rfl,hm⟩
  ·exact⟨j,by simp(disch:=first|exact dz|fail) only[simprocAttr,Gc,↓reduceIte,h4],by simp[hm]⟩
  ·exact⟨-1,by simp(disch:=first|exact dz|fail) only[simprocAttr,Gc,↓reduceIte],by simp[hm]⟩
 obtain⟨z,h1,h2⟩:=key
 rw[Gi c23 _ _ sM]
 have e:decide (0≤z)=decide (n∈l):=by simp[h2]
 simp(disch:=first|exact dz|fail) only[simprocAttr,Gc,↓reduceIte,Gj,h1,e]
theorem GeD(h:LI H v l)(hl:l.length≤100000):∃v' H',run P 164 [v] H=some (v',H')∧Gr H H'∧LI H' v' l:=by
 have he:elems (H++[⟨[],.rw,1⟩]) 1 v=some (l.length,ints l):=(h.gr (Gr.app H [⟨[],.rw,1⟩])).elems fun c hc=>rfl
 have h0:IL H.length (H++[⟨[],.rw,1⟩]) (.slice H.length 0 0 0 1 false) []:=.inl ⟨rfl,rfl,.inr ⟨_,_,rfl⟩⟩
 obtain⟨v',H1,a1,a2,a3⟩:=IL.cat h0 sM (l2:=l) (by simp;omega)
 refine⟨v',H1,?_,(Gr.app H _).news a3,a2.li⟩
 rw[Gi c164 _ _ sM]
 simp(disch:=first|exact dz|fail) only[simprocAttr,Gc,↓reduceIte,Gv,Ut,he,Ja,a1]
theorem GjA(h:LI H v l)(hl:l.length≤100000){n:Int}{E0:Env}(h0:E0 0=v)(h1:E0 1=.i n)(h5:E0 5=.i 0){r:Option (CX×Env×Gb)}(hr:den P (.loop Zp) E0 H=r):
  ∃E',r=some (.exit 0,E',H)∧E' 5=.i (Zc n l)∧∀t,t∉wr Zp→E' t=E0 t:=by
 obtain⟨x',E',H',e,-,⟨rfl,rfl,hf⟩,fr⟩:=Gy (p:=P) (c:=Zp) (E0:=E0) (H0:=H)
  (fun q E H'=>H'=H∧∃j:Nat,E 5=.i j∧j≤l.length∧q=l.length-j∧∀i y,i<j→l[i]?=some y→y<n)
  (fun x E' H'=>x=.exit 0∧H'=H∧E' 5=.i (Zc n l)) (by
   rintro q E H' hE ⟨rfl,j,e5,hj,rfl,hn⟩
   have e0:=(hE 0 dK).trans h0
   have e1:=(hE 1 dK).trans h1
   have hvl:=h.len H'
   by_cases c:j<l.length
   ·have c':decide ((j:Int)<(l.length:Int))=true:=GK oM
    have hx:l[j]?=some l[j]:=J9 c
    obtain⟨b,o,i1,i2,i3⟩:=h.at hx
    have V3:=i3 H' (Keeps.refl _ _)
    have w1:IntKind.i64.wrap ((j:Int)+1)=((j+1:Nat):Int):=Gh oM
    by_cases ha:l[j]<n
    ·have ha':decide (l[j]<n)=true:=GK ha
     apply Gt (k':=l.length-(j+1))
     ·simp(disch:=first|exact dz|fail) only[simprocAttr,Gc,↓reduceIte,Zp,e0,e1,e5,hvl,c',i1,V3,ha',w1]
      rfl
     ·omega
     ·refine⟨rfl,j+1,uA,oM,rfl,fun i y hi hy=>?_⟩
      by_cases e:i=j
      ·subst e
       rw[hx]at hy
       simp only[Gx]at hy
       rw[←hy];exact ha
      ·exact hn i y oM hy
    ·have ha':decide (l[j]<n)=false:=GC ha
     apply Gl (x:=.exit 0)
     ·simp(disch:=first|exact dz|fail) only[simprocAttr,Gc,↓reduceIte,Zp,e0,e1,e5,hvl,c',i1,V3,ha']
      rfl
     ·simp
     ·refine⟨rfl,rfl,?_⟩
      rw[RL hj hn fun y hy=>by rw[hx]at hy;simp only[Gx]at hy;subst hy;omega]
      simp[Gg,e5]
   ·have c':decide ((j:Int)<(l.length:Int))=false:=GC oM
    apply Gl (x:=.exit 0)
    ·simp(disch:=first|exact dz|fail) only[simprocAttr,Gc,↓reduceIte,Zp,e0,e1,e5,hvl,c']
     rfl
    ·simp
    ·refine⟨rfl,rfl,?_⟩
     rw[RL hj hn fun y hy=>by have:=Gd hy;omega]
     simp[Gg,e5]) _ ⟨rfl,0,h5,oM,rfl,fun i y hi=>by omega⟩
 exact⟨E',hr.symm.trans e,hf,fr⟩
theorem Ggr(h:LI H v l)(hl:l.length≤100000)(n:Int):∃v' H',run P 174 [v,.i n] H=some (v',H')∧Gr H H'∧LI H' v' (Df n l):=by
 rw[Gi Gm6 _ _ sM]
 simp(disch:=first|exact dz|fail) only[simprocAttr,Gc,↓reduceIte,Gj]
 generalize hr:den P (.loop Zp) _ _=r
 obtain⟨E',rfl,h5,fr⟩:=GjA h hl (n:=n) uA uA uA hr
 have f0:=fr 0 dK
 have f1:=fr 1 dK
 simp only[Gg,Nat.reduceEqDiff,↓reduceIte]at f0 f1
 rw[R_]
 have hle:=GaX n l
 have hvl:=h.len H
 have Gsk:(l[Zc n l]?≠some n)→∀E:Env,True:=fun _ _=>trivial
 generalize hj:Zc n l=j at h5 hle
 have slow:∃v' H',LI H' v' (l.take j++n::l.drop j)∧Gr H H'∧∃w1 w2 u1 X1 u2 X2,NZ 1 v none (some (.i j)) none=some w1∧elems (H++[⟨[],.rw,1⟩]) 1 w1=some (j,ints (l.take j))∧Jv (H++[⟨[],.rw,1⟩]) 1 (.slice H.length 0 0 0 1 false) j (ints (l.take j))=some (u1,X1)∧
   elems (X1++[⟨[.i n],.rw,1⟩]) 1 (.slice X1.length 0 1 1 1 false)=some (1,[.i n])∧Jv (X1++[⟨[.i n],.rw,1⟩]) 1 u1 1 [.i n]=some (u2,X2)∧NZ 1 v (some (.i j)) none none=some w2∧elems X2 1 w2=some (l.length-j,ints (l.drop j))∧Jv X2 1 u2 (l.length-j) (ints (l.drop j))=some (v',H'):=by
  obtain⟨w1,sl1,el1⟩:=At.lo h hle
  obtain⟨w2,sl2,el2⟩:=At.hi h hle
  have tk:(ints l).take (j*1)=ints (l.take j):=by rw[Nat.mul_one];simp[ints,List.map_take]
  have dr:(ints l).drop (j*1)=ints (l.drop j):=by rw[Nat.mul_one];simp[ints,List.map_drop]
  rw[tk]at el1
  rw[dr]at el2
  have hblk:∀Y,Gr H Y→∀e' w r,(∀H':Gb,(∀c,Loc 0 c=some z3→H'[c]?=H[c]?)→elems H' e' w=some r)→True:=fun _ _ _ _ _ _=>trivial
  have h0:IL H.length (H++[⟨[],.rw,1⟩]) (.slice H.length 0 0 0 1 false) []:=.inl ⟨rfl,rfl,.inr ⟨_,_,rfl⟩⟩
  have Grm:elems (H++[⟨[],.rw,1⟩]) 1 w1=some (j,ints (l.take j)):=by
   have:=(At.lo (h.gr (Gr.app H [⟨[],.rw,1⟩])) hle)
   obtain⟨w,s1,e1⟩:=this
   rw[sl1]at s1
   simp only[Gx]at s1
   subst s1
   rw[e1 _ fun c hc=>rfl,tk]
  have ltk:(l.take j).length=j:=by rw[List.length_take];omega
  obtain⟨u1,X1,a1,b1,k1⟩:=IL.cat h0 sM (l2:=l.take j) (by simp;omega)
  rw[ltk]at a1
  have gX1:Gr H X1:=(Gr.app H _).news k1
  obtain⟨u2,X2,a2,b2,k2⟩:=IL.push b1 gX1.len (by simp;omega) n
  have gX2:Gr H X2:=gX1.news k2
  have Gpy:elems X2 1 w2=some (l.length-j,ints (l.drop j)):=by
   obtain⟨w,s1,e1⟩:=At.hi (h.gr gX2) hle
   rw[sl2]at s1
   simp only[Gx]at s1
   subst s1
   rw[e1 _ fun c hc=>rfl,dr]
  obtain⟨u3,X3,a3,b3,k3⟩:=IL.cat b2 gX2.len (l2:=l.drop j) (by simp;omega)
  have ldr:(l.drop j).length=l.length-j:=List.length_drop ..
  rw[ldr]at a3
  refine⟨u3,X3,?_,gX2.news k3,w1,w2,u1,X1,u2,X2,sl1,Grm,a1,?_,a2,sl2,Gpy,a3⟩
  ·have e:[]++l.take j++[n]++l.drop j=l.take j++n::l.drop j:=by simp
   rw[e]at b3
   exact b3.li
  ·rw[JC oM]
   simp(disch:=first|exact dz|fail) only[simprocAttr,Gc,↓reduceIte,JW]
 by_cases c:j<l.length
 ·have c':decide ((j:Int)<(l.length:Int))=true:=GK oM
  have hx:l[j]?=some l[j]:=J9 c
  obtain⟨b,o,i1,i2,i3⟩:=h.at hx
  have V3:=i3 H (Keeps.refl _ _)
  by_cases ha:l[j]=n
  ·have ha':(l[j]==n)=true:=by simp[ha]
   rw[if_pos (by rw[hx,ha])]
   refine⟨v,H,?_,Keeps.refl _ _,h⟩
   simp(disch:=first|exact dz|fail) only[simprocAttr,Gc,↓reduceIte,h5,f0,f1,hvl,c',i1,V3,ha']
  ·have ha':(l[j]==n)=false:=by simp[ha]
   rw[if_neg (by rw[hx];simpa using ha)]
   obtain⟨v',H',li,g,w1,w2,u1,X1,u2,X2,s1,s2,s3,s4,s5,s6,s7,s8⟩:=slow
   refine⟨v',H',?_,g,li⟩
   simp(disch:=first|exact dz|fail) only[simprocAttr,Gc,↓reduceIte,h5,f0,f1,hvl,c',i1,V3,ha',Ut,D7,A9,s1,Dx,s2,Ja,s3,fill,splice,and_self,s4,s5,s6,s7,s8]
 ·have c':decide ((j:Int)<(l.length:Int))=false:=GC oM
  rw[if_neg (by rw[En oM];simp)]
  obtain⟨v',H',li,g,w1,w2,u1,X1,u2,X2,s1,s2,s3,s4,s5,s6,s7,s8⟩:=slow
  refine⟨v',H',?_,g,li⟩
  simp(disch:=first|exact dz|fail) only[simprocAttr,Gc,↓reduceIte,h5,f0,f1,hvl,c',Ut,D7,A9,s1,Dx,s2,Ja,s3,fill,splice,and_self,s4,s5,s6,s7,s8]
theorem ZN{o:Tags}{rb:Nat}{s:Hp}{L:N_}(m:JO o H rb s L)(k:s.Ok)(h:LI H v l)(hl:l.length≤100000)(a:Int):
  ∃v' H',run P 163 [.ptr rb 0,v,.i a] H=some (v',H')∧Gr H H'∧LI H' v' (if s.has a=true then Df a l else l):=by
 have h1:=Gbj m k a
 rw[Gi GqY _ _ sM]
 cases e:s.has a with
 |true=>
  rw[e]at h1
  obtain⟨v',H',p1,p2,p3⟩:=Ggr h hl a
  refine⟨v',H',?_,p2,by simpa using p3⟩
  simp(disch:=first|exact dz|fail) only[simprocAttr,Gc,↓reduceIte,G8,h1,Bool.not_true,p1]
 |false=>
  rw[e]at h1
  refine⟨v,H,?_,Keeps.refl _ _,by simpa using h⟩
  simp(disch:=first|exact dz|fail) only[simprocAttr,Gc,↓reduceIte,G8,h1,Bool.not_false]
theorem Gap(r d kd i:Int):run P 165 [.agg (Je r d kd),.i i] H=some (.bool (Jj kd i),H++[⟨Je r d kd,.rw,0⟩]):=by
 rw[Gi Gq3 _ _ sM]
 unfold Je Jj
 by_cases k1:kd=1
 ·subst k1
  by_cases c:0<i
  ·simp(disch:=first|exact dz|fail) only[simprocAttr,Gc,↓reduceIte,Gj,show((1:Int) != 1)=false from rfl,show((1:Int)==1)=true from rfl,c,decide_true]
   rfl
  ·simp(disch:=first|exact dz|fail) only[simprocAttr,Gc,↓reduceIte,Gj,show((1:Int) != 1)=false from rfl,c,decide_false]
   rfl
 ·have e1:(kd != 1)=true:=by simp[k1]
  have e1':(kd==1)=false:=by simp[k1]
  by_cases k2:kd=2
  ·subst k2
   by_cases c:0<i
   ·by_cases c2:1<i
    ·simp(disch:=first|exact dz|fail) only[simprocAttr,Gc,↓reduceIte,Gj,e1,e1',show((2:Int) != 2)=false from rfl,c,c2,decide_true]
     rfl
    ·simp(disch:=first|exact dz|fail) only[simprocAttr,Gc,↓reduceIte,Gj,e1,e1',show((2:Int) != 2)=false from rfl,c,c2,decide_true,decide_false]
     rfl
   ·simp(disch:=first|exact dz|fail) only[simprocAttr,Gc,↓reduceIte,Gj,e1,show((2:Int) != 2)=false from rfl,c,decide_false]
    rfl
  ·have e2:(kd != 2)=true:=by simp[k2]
   simp(disch:=first|exact dz|fail) only[simprocAttr,Gc,↓reduceIte,Gj,e1,e2]
   rfl
end
end Go.Cs.Tryz
namespace Go.Cs.Tryz
open Go Go.Cs A
def Iw:Gu:=S (T [m 102 13,f 103 2 8,f 104 1 103,l 105 1 104,b 106 .lss 102 105] (J 106 (X 6))) (S (B 7 (T [m 110 0,f 111 0 8,l 112 1 111,m 113 13,q3 114 77 110 112 113,m 109 114,ex 115 109 0,ex 116 109 1,m 14 115,m 15 116] (T [f 117 6 8,l 118 1 117,m 16 118] (R [m 119 16,m 120 14,e 121 (.buildSlice 1 [i 0] 1 [(0,1,t 120)]),ap 122 1 119 121,f 123 6 8,st 1 123 122])))) (R [m 107 13,bk 108 .add 107 1,m 13 108]))
def ML:Gu:=S (T [m 80 9,f 81 2 8,f 82 0 81,l 83 1 82,b 84 .lss 80 83] (J 84 (X 4))) (S (B 5 (T [m 88 0,f 89 0 8,l 90 1 89,m 91 9,q3 92 76 88 90 91,m 87 92,ex 93 87 0,ex 94 87 1,m 10 93,m 11 94] (T [f 95 5 8,l 96 1 95,m 12 96] (R [m 97 12,m 98 10,e 99 (.buildSlice 1 [i 0] 1 [(0,1,t 98)]),ap 100 1 97 99,f 101 5 8,st 1 101 100])))) (R [m 85 9,bk 86 .add 85 1,m 9 86]))
def FB:Gu:=S (T [m 47 7,m 48 6,le 49 48,b 50 .lss 47 49] (J 50 (X 2))) (S (B 3 (S (D [⟨m 57 0,4,0,0⟩,⟨m 58 6,5,0,0⟩,⟨m 59 7,6,0,0⟩,⟨x 60 1 58 59,7,0,0⟩,⟨l 61 1 60,8,1,0⟩,⟨q2 62 74 57 61,9,3,0⟩,⟨m 53 6,0,0,0⟩,⟨m 54 7,1,0,0⟩,⟨x 55 1 53 54,2,0,0⟩,⟨l 56 1 55,3,1,0⟩,⟨e 63 (.build [i 0,i 0,i 0,i 0,i 0,.Gf,.Gf,.bool false] [(0,1,t 56),(7,1,t 62)]),10,0,1⟩,⟨e 8 (.new [i 0,i 0,i 0,i 0,i 0,.Gf,.Gf,.bool false]),11,0,0⟩,⟨st 8 8 63,12,3,1⟩]) (T [m 65 0,f 66 0 8,l 67 1 66,q2 68 35 65 67,m 64 68,ex 69 64 0,ex 70 64 1,f 71 1 8,st 1 71 69] (T [m 73 0,f 74 0 8,l 75 1 74,q2 76 75 73 75,m 72 76,ex 77 72 0,ex 78 72 1,f 79 2 8,st 3 79 77] (S (T [n 9 0] (B 4 (W ML))) (S (T [n 13 0] (B 6 (W Iw))) (T [m 124 3,z 125 124,f 126 1 125,l 127 1 126,m 17 127] (R [m 128 3,m 129 17,lg 130 8 8,e 131 (.buildSlice 8 [i 0,i 0,i 0,i 0,i 0,.Gf,.Gf,.bool false] 1 [(0,8,t 130)]),ap 132 8 129 131,z 133 128,f 134 1 133,st 1 134 132])))))))) (R [m 51 7,bk 52 .add 51 1,m 7 52]))
def Lh:Gu:=S (T [m 22 4,m 23 0,q1 24 49 23,b 25 .lss 22 24] (J 25 (X 0))) (S (B 1 (T [m 28 3,z 29 28,f 30 0 29,l 31 1 30,m 5 31] (R [m 32 3,m 33 5,m 34 0,m 35 4,q2 36 71 34 35,m 37 0,m 38 4,q2 39 72 37 38,e 40 (.build [i 0,i 0] [(0,1,t 36),(1,1,t 39)]),e 41 (.buildSlice 2 [i 0,i 0] 1 [(0,2,t 40)]),ap 42 2 33 41,z 43 32,f 44 0 43,st 1 44 42]))) (R [m 26 4,bk 27 .add 26 1,m 4 27]))
def C21:Gm:=⟨136,0,T [e 2 (.K7 (c .nilPtr))] (T [m 18 0,q1 19 70 18,e 20 (.build [.Gf,.Gf,.Gf,i 0] [(3,1,t 19)]),bo 21 20,m 3 21] (S (T [n 4 0] (B 0 (W Lh))) (T [m 45 0,q1 46 73 45,m 6 46] (S (T [n 7 0] (B 2 (W FB))) (Q [m 135 3,m 2 135]))))),[r 2]⟩
theorem c21:P 21=some C21:=by kernel_rfl
end Go.Cs.Tryz
namespace Go.Cs
open Go
def Nw(x:Ob)(rv dv:CV):List CV:=[.i x.addr,.i x.id,.i x.refs.length,.i x.data.length,.i x.kd,rv,dv,.bool x.pin]
def But(H H':Gb)(b:Nat):Prop:=Keeps H H' (fun c=>c=b)
theorem PH.but{H H':Gb}{hb b:Nat}{s:Hp}{L:GD}(p:PH H hb s L)(k:But H H' b)(hn:b∉L.all hb):PH H' hb s L:=
 p.frame fun c hc=>k.keep c (p.lt c hc) fun h=>hn (by rw[←h];exact hc)
theorem JO.GgL{o:Tags}{H Hf:Gb}{rb:Nat}{s:Hp}{L:N_}(m:JO o H rb s L){l:List Ob}{hv:Nat→CV×CV}{v:CV}{born:Nat}(h:At (Loc H.length) z3 Hf v 8 l.length (Gz hv l))(hl:H.length≤Hf.length)
  (hb:Hf[rb]?=some ⟨[L.bv,v,L.fv,.i born],.rw,0⟩) (hf:∀d,d<H.length→d≠rb→o d≠some (0,2,0)→Hf[d]?=H[d]?)
  (hr:∀x∈l,At o (0,3,x.id) H (hv x.id).1 1 x.refs.length (ints x.refs)∧At o (0,4,x.id) H (hv x.id).2 1 x.data.length (ints x.data)):
  ∃o' L',JO o' Hf rb {s with objs:=l,born:=born} L'∧K_ o H o' Hf∧L'.hv=hv∧L'.bv=L.bv∧L'.ov=v∧L'.fv=L.fv:=by
 obtain⟨o',h1,h2,h3⟩:=h.adopt (o:=o) (t:=(0,2,0)) m.dom
 have ho:∀c t,o c=some t→o' c=some t:=fun c t h=>by rw[h1 c (m.dom c _ h),h]
 have old:∀c t,o c=some t→t≠(0,0,0)→t≠(0,2,0)→Hf[c]?=H[c]?:=fun c t h hn hn2=>hf c (m.dom c _ h) (by rintro rfl;rw[m.top]at h;simp only[Gx]at h;exact hn h.symm) (by rw[h];simpa using hn2)
 refine⟨o',{L with ov:=v,hv:=hv},⟨?_,ho _ _ m.top,hb,m.fv,m.blk.frame (fun c=>ho c _) fun c h=>old c _ h sM sM,h3,fun x hx=>?_⟩,⟨hl,h1,fun c hc hn=>hf c hc ?_ (by rw[hn];simp)⟩,rfl,rfl,rfl,rfl⟩
 ·intro c t h
  by_cases hc:c<H.length
  ·omega
  ·exact(h2 c t h oM).2
 ·exact⟨(hr x hx).1.frame (fun c=>ho c _) fun c h=>old c _ h sM sM,(hr x hx).2.frame (fun c=>ho c _) fun c h=>old c _ h sM sM⟩
 ·rintro rfl;rw[m.top]at hn;cases hn
theorem JO.GjT{o:Tags}{H Hf:Gb}{rb:Nat}{s:Hp}{L:N_}(m:JO o H rb s L){l:List (Nat×Nat)}{v:CV}(h:At (Loc H.length) z3 Hf v 2 l.length (G6 l))(hl:H.length≤Hf.length)
  (hb:Hf[rb]?=some ⟨[v,L.ov,L.fv,.i s.born],.rw,0⟩) (hf:∀d,d<H.length→d≠rb→o d≠some (0,1,0)→Hf[d]?=H[d]?):
  ∃o' L',JO o' Hf rb {s with blk:=l} L'∧K_ o H o' Hf∧L'.ov=L.ov∧L'.bv=v∧L'.fv=L.fv:=by
 obtain⟨o',h1,h2,h3⟩:=h.adopt (o:=o) (t:=(0,1,0)) m.dom
 have ho:∀c t,o c=some t→o' c=some t:=fun c t h=>by rw[h1 c (m.dom c _ h),h]
 have old:∀c t,o c=some t→t≠(0,0,0)→t≠(0,1,0)→Hf[c]?=H[c]?:=fun c t h hn hn2=>hf c (m.dom c _ h) (by rintro rfl;rw[m.top]at h;simp only[Gx]at h;exact hn h.symm) (by rw[h];simpa using hn2)
 refine⟨o',{L with bv:=v},⟨?_,ho _ _ m.top,hb,m.fv,h3,m.objs.frame (fun c=>ho c _) fun c h=>old c _ h sM sM,fun x hx=>?_⟩,⟨hl,h1,fun c hc hn=>hf c hc ?_ (by rw[hn];simp)⟩,rfl,rfl,rfl⟩
 ·intro c t h
  by_cases hc:c<H.length
  ·omega
  ·exact(h2 c t h oM).2
 ·have hr:=m.refs x hx
  exact⟨hr.1.frame (fun c=>ho c _) fun c h=>old c _ h sM sM,hr.2.frame (fun c=>ho c _) fun c h=>old c _ h sM sM⟩
 ·rintro rfl;rw[m.top]at hn;cases hn
end Go.Cs
namespace Go.Cs.Tryz
open Go Go.Cs
section
variable {H : Gb} {hb : Nat} {s : Hp} {L : GD}
theorem Gea(p:PH H hb s L)(k:s.Ok){x:Ob}(hx:x∈s.objs){ob:Nat}{dv:CV}(Vj:H[ob]?=some ⟨Nw x .Gf dv,.rw,0⟩) (hno:ob∉L.all hb)
  {E0:Env} (h0:E0 0=.ptr hb 0) (h8:E0 8=.ptr ob 0) (h9:E0 9=.i 0) {r:Option (CX×Env×Gb)} (hr:den P (.loop ML) E0 H=r):
  ∃E' H' rv,r=some (.exit 4,E',H')∧But H H' ob∧H'[ob]?=some ⟨Nw x rv dv,.rw,0⟩∧IL H.length H' rv x.refs∧∀t,t∉wr ML→E' t=E0 t:=by
 have hok:=k.ob x hx
 have hnr:=hok.nr
 have Vm:=k.obj hx
 have hf:=hok.fits
 have hnb:=k.nb
 have hsn:s.nw=64*s.blk.length:=rfl
 obtain⟨x',E',H',e,-,⟨rfl,g,rv,q1,q2⟩,fr⟩:=Gy (p:=P) (c:=ML) (E0:=E0) (H0:=H)
  (fun q E H'=>But H H' ob∧∃(j:Nat)(rv:CV),E 9=.i j∧j≤x.refs.length∧q=x.refs.length-j∧H'[ob]?=some ⟨Nw x rv dv,.rw,0⟩∧IL H.length H' rv (x.refs.take j))
  (fun x' E' H'=>x'=.exit 4∧But H H' ob∧∃rv,H'[ob]?=some ⟨Nw x rv dv,.rw,0⟩∧IL H.length H' rv x.refs) (by
   rintro q E H' hE ⟨g,j,rv,e9,hj,rfl,q1,q2⟩
   have e0:=(hE 0 dK).trans h0
   have e8:=(hE 8 dK).trans h8
   have p':=p.but g hno
   have q1':=q1
   unfold Nw at q1'
   by_cases c:j<x.refs.length
   ·have c':decide ((j:Int)<(x.refs.length:Int))=true:=GK oM
    obtain⟨X,a1,g1⟩:=KF p' k x.addr j oM
    have hra:s.Jq x.addr j=(x.refs.getD j 0,0):=by
     unfold Hp.Jq
     rw[Vm]
     dsimp only
     rw[if_pos oM,K6]
    rw[hra]at a1
    have t1:=Gr.get g1 q1'
    obtain⟨v',X2,b1,b2,b3⟩:=IL.push (q2.keeps g1) (Jr g.len g1.len) (by rw[List.length_take];omega) (x.refs.getD j 0)
    have Grz:=Gd Vj
    have t2:X2[ob]?=some ⟨[.i x.addr,.i x.id,.i x.refs.length,.i x.data.length,.i x.kd,rv,dv,.bool x.pin],.rw,0⟩:=(b3.keep ob (Gd t1) oM).trans t1
    have hel:elems (X++[⟨[.i (x.refs.getD j 0)],.rw,1⟩]) 1 (.slice X.length 0 1 1 1 false)=some (1,[.i (x.refs.getD j 0)]):=by
     rw[JC oM]
     simp(disch:=first|exact dz|fail) only[simprocAttr,Gc,↓reduceIte,JW]
    have lv:leaf v'=true:=IL.leaf b2
    have w1:IntKind.i64.wrap ((j:Int)+1)=((j+1:Nat):Int):=Gh oM
    have htk:x.refs.take (j+1)=x.refs.take j++[x.refs.getD j 0]:=by rw[QL,Yp 0 c];rfl
    unfold Uj at a1
    have lt2:=Gd t2
    apply Gt (k':=x.refs.length-(j+1))
    ·simp(disch:=first|exact dz|fail) only[simprocAttr,Gc,↓reduceIte,ML,e0,e8,e9,q1',c',a1,t1,fill,splice,and_self,hel,Ja,b1,t2,Nn lv,w1]
     rfl
    ·omega
    ·refine⟨?_,j+1,v',uA,oM,rfl,by rw[KI lt2];rfl,?_⟩
     ·refine⟨?_,fun c hc hn=>?_⟩
      ·rw[List.length_set];exact Jr g.len (Jr g1.len b3.len)
      ·rw[JU (Ne.symm hn),b3.keep c (by have:=g.len;have:=g1.len;omega) oM,g1.keep c (by have:=g.len;omega) fun h=>h,g.keep c hc hn]
     ·rw[htk]
      exact b2.frame (fun c h=>h) fun c h=>by
       rw[JU]
       rintro rfl
       have:=(Gn.1 h).1
       omega
   ·have c':decide ((j:Int)<(x.refs.length:Int))=false:=GC oM
    rw[NW oM]at q2
    apply Gl (x:=.exit 4)
    ·simp(disch:=first|exact dz|fail) only[simprocAttr,Gc,↓reduceIte,ML,e0,e8,e9,q1',c']
     rfl
    ·simp
    ·exact⟨rfl,g,rv,q1,q2⟩) _ ⟨Keeps.refl _ _,0,.Gf,h9,oM,rfl,Vj,IL.nil⟩
 exact⟨E',H',rv,hr.symm.trans e,g,q1,q2,fr⟩
theorem GeC(p:PH H hb s L)(k:s.Ok){x:Ob}(hx:x∈s.objs){ob:Nat}{rv:CV}(Vj:H[ob]?=some ⟨Nw x rv .Gf,.rw,0⟩) (hno:ob∉L.all hb)
  {E0:Env} (h0:E0 0=.ptr hb 0) (h8:E0 8=.ptr ob 0) (h13:E0 13=.i 0) {r:Option (CX×Env×Gb)} (hr:den P (.loop Iw) E0 H=r):
  ∃E' H' dv,r=some (.exit 6,E',H')∧But H H' ob∧H'[ob]?=some ⟨Nw x rv dv,.rw,0⟩∧IL H.length H' dv x.data∧∀t,t∉wr Iw→E' t=E0 t:=by
 have hok:=k.ob x hx
 have hnd:=hok.nd
 have Vm:=k.obj hx
 have hf:=hok.fits
 have hnb:=k.nb
 have hsn:s.nw=64*s.blk.length:=rfl
 obtain⟨x',E',H',e,-,⟨rfl,g,dv,q1,q2⟩,fr⟩:=Gy (p:=P) (c:=Iw) (E0:=E0) (H0:=H)
  (fun q E H'=>But H H' ob∧∃(j:Nat)(dv:CV),E 13=.i j∧j≤x.data.length∧q=x.data.length-j∧H'[ob]?=some ⟨Nw x rv dv,.rw,0⟩∧IL H.length H' dv (x.data.take j))
  (fun x' E' H'=>x'=.exit 6∧But H H' ob∧∃dv,H'[ob]?=some ⟨Nw x rv dv,.rw,0⟩∧IL H.length H' dv x.data) (by
   rintro q E H' hE ⟨g,j,dv,e13,hj,rfl,q1,q2⟩
   have e0:=(hE 0 dK).trans h0
   have e8:=(hE 8 dK).trans h8
   have p':=p.but g hno
   have q1':=q1
   unfold Nw at q1'
   by_cases c:j<x.data.length
   ·have c':decide ((j:Int)<(x.data.length:Int))=true:=GK oM
    obtain⟨X,a1,g1⟩:=EW p' k x.addr j oM
    have hra:s.Kh x.addr j=(x.data.getD j 0,0):=by
     unfold Hp.Kh
     rw[Vm]
     dsimp only
     rw[if_pos oM,K6]
    rw[hra]at a1
    have t1:=Gr.get g1 q1'
    obtain⟨v',X2,b1,b2,b3⟩:=IL.push (q2.keeps g1) (Jr g.len g1.len) (by rw[List.length_take];omega) (x.data.getD j 0)
    have Grz:=Gd Vj
    have t2:X2[ob]?=some ⟨[.i x.addr,.i x.id,.i x.refs.length,.i x.data.length,.i x.kd,rv,dv,.bool x.pin],.rw,0⟩:=(b3.keep ob (Gd t1) oM).trans t1
    have hel:elems (X++[⟨[.i (x.data.getD j 0)],.rw,1⟩]) 1 (.slice X.length 0 1 1 1 false)=some (1,[.i (x.data.getD j 0)]):=by
     rw[JC oM]
     simp(disch:=first|exact dz|fail) only[simprocAttr,Gc,↓reduceIte,JW]
    have lv:leaf v'=true:=IL.leaf b2
    have w1:IntKind.i64.wrap ((j:Int)+1)=((j+1:Nat):Int):=Gh oM
    have htk:x.data.take (j+1)=x.data.take j++[x.data.getD j 0]:=by rw[QL,Yp 0 c];rfl
    unfold Uj at a1
    have lt2:=Gd t2
    apply Gt (k':=x.data.length-(j+1))
    ·simp(disch:=first|exact dz|fail) only[simprocAttr,Gc,↓reduceIte,Iw,e0,e8,e13,q1',c',a1,t1,fill,splice,and_self,hel,Ja,b1,t2,Nn lv,w1]
     rfl
    ·omega
    ·refine⟨?_,j+1,v',uA,oM,rfl,by rw[KI lt2];rfl,?_⟩
     ·refine⟨?_,fun c hc hn=>?_⟩
      ·rw[List.length_set];exact Jr g.len (Jr g1.len b3.len)
      ·rw[JU (Ne.symm hn),b3.keep c (by have:=g.len;have:=g1.len;omega) oM,g1.keep c (by have:=g.len;omega) fun h=>h,g.keep c hc hn]
     ·rw[htk]
      exact b2.frame (fun c h=>h) fun c h=>by
       rw[JU]
       rintro rfl
       have:=(Gn.1 h).1
       omega
   ·have c':decide ((j:Int)<(x.data.length:Int))=false:=GC oM
    rw[NW oM]at q2
    apply Gl (x:=.exit 6)
    ·simp(disch:=first|exact dz|fail) only[simprocAttr,Gc,↓reduceIte,Iw,e0,e8,e13,q1',c']
     rfl
    ·simp
    ·exact⟨rfl,g,dv,q1,q2⟩) _ ⟨Keeps.refl _ _,0,.Gf,h13,oM,rfl,Vj,IL.nil⟩
 exact⟨E',H',dv,hr.symm.trans e,g,q1,q2,fr⟩
theorem GhH{k0:Nat}(p:PH H hb s L)(k:s.Ok)(hp0:∀c∈L.all hb,c<k0){o:Tags}{rb:Nat}{LR:N_}(m:JO o H rb ⟨[],[],s.born,s.fwd⟩ LR)(hk0:k0≤H.length)(hfr:∀c t,o c=some t→k0≤c)
  {E0:Env}(h0:E0 0=.ptr hb 0)(h3:E0 3=.ptr rb 0)(h4:E0 4=.i 0){r:Option (CX×Env×Gb)}(hr:den P (.loop Lh) E0 H=r):
  ∃E' H' o' L',r=some (.exit 0,E',H')∧Keeps H H' (fun c=>k0≤c)∧JO o' H' rb {s with objs:=[]} L'∧(∀c t,o' c=some t→k0≤c)∧∀t,t∉wr Lh→E' t=E0 t:=by
 have hnb:=k.nb
 obtain⟨x',E',H',e,-,⟨rfl,g,o',L',q1,q2⟩,fr⟩:=Gy (p:=P) (c:=Lh) (E0:=E0) (H0:=H)
  (fun q E H'=>Keeps H H' (fun c=>k0≤c)∧∃(j:Nat)(o':Tags)(L':N_),E 4=.i j∧j≤s.blk.length∧q=s.blk.length-j∧JO o' H' rb {s with blk:=s.blk.take j,objs:=[]} L'∧∀c t,o' c=some t→k0≤c)
  (fun x' E' H'=>x'=.exit 0∧Keeps H H' (fun c=>k0≤c)∧∃(o':Tags)(L':N_),JO o' H' rb {s with objs:=[]} L'∧∀c t,o' c=some t→k0≤c) (by
   rintro q E H' hE ⟨g,j,o',L',e4,hj,rfl,mj,fj⟩
   have e0:=(hE 0 dK).trans h0
   have e3:=(hE 3 dK).trans h3
   have p':PH H' hb s L:=p.frame fun c hc=>g.keep c (p.lt c hc) (by have:=hp0 c hc;omega)
   have hbl:=KD p' k
   have t0:=mj.cells
   by_cases c:j<s.blk.length
   ·have c':decide ((j:Int)<(s.blk.length:Int))=true:=GK oM
    obtain⟨hx,hxe⟩:=Hp.Su c
    have hs:=Uo p' k c
    have hsp:run P 72 [.ptr hb 0,.i j] H'=some (.i (s.blk[j]).2,H'):=by
     have:=LY p' k j
     have e2:Hp.space s (j:Int)=((s.blk[j]).2:Int):=by
      unfold Hp.space
      rw[if_pos oM,K6,hx]
     rw[e2]at this
     exact this
    rw[hxe]at hs
    obtain⟨a,b⟩:∃a b,s.blk[j]=(a,b):=⟨_,_,rfl⟩
    obtain⟨y,hy⟩:∃y,y=s.blk[j]:=⟨_,rfl⟩
    rw[←hy]at hs hsp hx
    have gB:Gr H' (H'++[⟨[.i y.1,.i y.2],.rw,2⟩]):=Gr.app _ _
    have mB:=mj.gr gB
    have hlB:(H'++[(⟨[.i y.1,.i y.2],.rw,2⟩:JI)]).length=H'.length+1:=by simp
    have hltk:(s.blk.take j).length=j:=by rw[List.length_take];omega
    have hAt:=mB.blk
    simp only[hltk]at hAt
    obtain⟨X,a1,a2,a3,a4⟩:=hAt.append (k:=1) (new:=[.i y.1,.i y.2]) oM (by unfold JG;omega) (by simp[Gq]) rfl
    rw[hlB]at a1 a2 a3
    have t1:X[rb]?=_:=(a4 rb (mB.dom _ _ mB.top) (by rw[mB.top];simp)).trans mB.cells
    have hel:elems (H'++[⟨[.i y.1,.i y.2],.rw,2⟩]) 2 (.slice H'.length 0 1 1 2 false)=some (1,[.i y.1,.i y.2]):=by
     rw[JC oM]
     simp(disch:=first|exact dz|fail) only[simprocAttr,Gc,↓reduceIte,JW]
    have htk:s.blk.take (j+1)=s.blk.take j++[y]:=by rw[QL,hx];rfl
    have WE:(s.blk.take (j+1)).length=j+1:=by rw[List.length_take];omega
    have GmE:rb<H'.length:=mj.dom _ _ mj.top
    have t0':=t0
    dsimp only at t0' t1
    obtain⟨o2,L2,r1,r2,r3,r4,r5⟩:=JO.GjT mj (l:=s.blk.take (j+1)) (v:=.slice (H'.length+1) 0 (j+1) (j+1) 2 true) (Hf:=X.set rb ⟨[.slice (H'.length+1) 0 (j+1) (j+1) 2 true,L'.ov,L'.fv,.i s.born],.rw,0⟩)
     (.inr ⟨H'.length+1,true,by rw[WE],Gn.2 ⟨Nat.le_succ _,rfl⟩,by rw[JU oM,a3,htk,YD];rfl,by rw[KE,WE];omega⟩)
     (by rw[List.length_set,a2];omega) (by rw[KI (Gd t1)]) (fun d hd hr hn=>by rw[JU (Ne.symm hr),a4 d oM hn,QN hd])
    have w1:IntKind.i64.wrap ((j:Int)+1)=((j+1:Nat):Int):=Gh oM
    apply Gt (k':=s.blk.length-(j+1))
    ·simp(disch:=first|exact dz|fail) only[simprocAttr,Gc,↓reduceIte,Lh,e0,e3,e4,hbl,c',t0',hs,hsp,fill,splice,and_self,hel,Ja,a1,t1,w1]
     rfl
    ·omega
    ·refine⟨⟨Jr g.len r2.len,fun c hc hn=>?_⟩,j+1,o2,L2,uA,oM,rfl,r1,fun c t h=>?_⟩
     ·rw[r2.keep c (JH hc g.len) (Jo fun h=>?_),g.keep c hc hn]
      cases e:o' c with
      |none=>exact h e
      |some u=>exact hn (fj c u e)
     ·by_cases hc:c<H'.length
      ·rw[r2.tag c hc]at h;exact fj c t h
      ·have:=g.len;omega
   ·have c':decide ((j:Int)<(s.blk.length:Int))=false:=GC oM
    rw[NW oM]at mj
    apply Gl (x:=.exit 0)
    ·simp(disch:=first|exact dz|fail) only[simprocAttr,Gc,↓reduceIte,Lh,e0,e3,e4,hbl,c']
     rfl
    ·simp
    ·exact⟨rfl,g,o',L',mj,fj⟩) _ ⟨Keeps.refl _ _,0,o,LR,h4,oM,rfl,by simpa using m,hfr⟩
 exact⟨E',H',o',L',hr.symm.trans e,g,q1,q2,fr⟩
end
end Go.Cs.Tryz

namespace Go.Cs.Tryz
open Go Go.Cs
section
variable {H : Gb} {hb : Nat} {s : Hp} {L : GD}
theorem GgR{k0:Nat}(p:PH H hb s L)(k:s.Ok)(hp0:∀c∈L.all hb,c<k0){o:Tags}{rb:Nat}{LR:N_}(m:JO o H rb {s with objs:=[]} LR)(hk0:k0≤H.length)(hfr:∀c t,o c=some t→k0≤c)
  {v6:CV}(hv6:∀H':Gb,(∀c,c<H.length→o c=none→H'[c]?=H[c]?)→LI H' v6 s.all)
  {E0:Env} (h0:E0 0=.ptr hb 0) (h3:E0 3=.ptr rb 0) (h6:E0 6=v6) (h7:E0 7=.i 0) {r:Option (CX×Env×Gb)} (hr:den P (.loop FB) E0 H=r):
  ∃E' H' o' L',r=some (.exit 2,E',H')∧K_ o H o' H'∧JO o' H' rb s L'∧∀t,t∉wr FB→E' t=E0 t:=by
 have few:=k.few
 have hnb:=k.nb
 have hsn:s.nw=64*s.blk.length:=rfl
 have hall:s.all.length=s.objs.length:=by simp[Hp.all]
 have Gon:∀c,c<k0→o c=none:=fun c hc=>Jo fun h=>by
  cases e:o c with
  |none=>exact h e
  |some u=>have:=hfr c u e;omega
 obtain⟨x',E',H',e,-,⟨rfl,o',L',g,q1⟩,fr⟩:=Gy (p:=P) (c:=FB) (E0:=E0) (H0:=H)
  (fun q E H'=>∃(j:Nat)(o':Tags)(L':N_),E 7=.i j∧j≤s.objs.length∧q=s.objs.length-j∧K_ o H o' H'∧JO o' H' rb {s with objs:=s.objs.take j} L')
  (fun x' E' H'=>x'=.exit 2∧∃(o':Tags)(L':N_),K_ o H o' H'∧JO o' H' rb s L') (by
   rintro q E H' hE ⟨j,o',L',e7,hj,rfl,g,mj⟩
   have e0:=(hE 0 dK).trans h0
   have e3:=(hE 3 dK).trans h3
   have e6:=(hE 6 dK).trans h6
   have p':PH H' hb s L:=p.frame fun c hc=>g.keep c (p.lt c hc) (Gon c (hp0 c hc))
   have li:=hv6 H' g.keep
   have hvl:=li.len H'
   rw[hall]at hvl
   by_cases c:j<s.objs.length
   ·have c':decide ((j:Int)<(s.objs.length:Int))=true:=GK oM
    have hx:s.objs[j]?=some s.objs[j]:=J9 c
    obtain⟨x,hxe⟩:∃x,x=s.objs[j]:=⟨_,rfl⟩
    rw[←hxe]at hx
    have hxm:=JX hx
    have hok:=k.ob x hxm
    have Vm:=k.obj hxm
    have hfi:=hok.fits
    have hxa:s.all[j]?=some (x.addr:Int):=by simp[Hp.all,hx]
    obtain⟨lb,lo,i1,i2,i3⟩:=li.at hxa
    have i3a:=i3 H' (Keeps.refl _ _)
    have Gky:=Tc p' k x.addr oM
    have hpv:s.pinnedAt x.addr=x.pin:=by unfold Hp.pinnedAt;rw[Vm]
    rw[hpv]at Gky
    obtain⟨Y,hY⟩:∃Y:Gb,Y=H'++[⟨[.i x.addr,.int .i64 0,.int .i64 0,.int .i64 0,.int .i64 0,.Gf,.Gf,.bool x.pin],.rw,0⟩]:=⟨_,rfl⟩
    have gY:Gr H' Y:=by rw[hY];exact Gr.app _ _
    have lY:Y[H'.length]?=some ⟨[.i x.addr,.int .i64 0,.int .i64 0,.int .i64 0,.int .i64 0,.Gf,.Gf,.bool x.pin],.rw,0⟩:=by rw[hY];simp
    have pY:=p'.gr gY
    have hid:=Ir pY k x.addr oM
    have Gr4:s.U6 x.addr=((x.id:Int),0):=by unfold Hp.U6;rw[Vm]
    rw[Gr4]at hid
    obtain⟨Y1,hY1⟩:∃Y1:Gb,Y1=Y.set H'.length ⟨[.i x.addr,.i x.id,.int .i64 0,.int .i64 0,.int .i64 0,.Gf,.Gf,.bool x.pin],.rw,0⟩:=⟨_,rfl⟩
    have lY1:Y1[H'.length]?=some ⟨[.i x.addr,.i x.id,.int .i64 0,.int .i64 0,.int .i64 0,.Gf,.Gf,.bool x.pin],.rw,0⟩:=by rw[hY1,KI (Gd lY)]
    have gY1:Gr H' Y1:=by rw[hY1];exact⟨by rw[List.length_set];exact gY.len,fun c hc _=>by rw[JU oM,gY.keep c hc fun h=>h]⟩
    have pY1:=p'.gr gY1
    obtain⟨Y2,hs2,g2⟩:=NA pY1 k x.addr oM
    have hsv:s.JR x.addr=(Je x.refs.length x.data.length x.kd,0):=by unfold Hp.JR;rw[Vm]
    rw[hsv]at hs2
    have lY2:=Gr.get g2 lY1
    obtain⟨Y3,hY3⟩:∃Y3:Gb,Y3=Y2.set H'.length ⟨Nw x .Gf .Gf,.rw,0⟩:=⟨_,rfl⟩
    have lY3:Y3[H'.length]?=some ⟨Nw x .Gf .Gf,.rw,0⟩:=by rw[hY3,KI (Gd lY2)]
    have gY3:Gr H' Y3:=by
     have:=gY1.trans g2
     rw[hY3];exact⟨by rw[List.length_set];exact this.len,fun c hc _=>by rw[JU oM,this.keep c hc fun h=>h]⟩
    have pY3:=p'.gr gY3
    have hno:H'.length∉L.all hb:=fun h=>by have:=p'.lt _ h;omega
    have Rj:OT Y2 H'.length (some ⟨[.i x.addr,.i x.id,.int .i64 0,.int .i64 0,.int .i64 0,.Gf,.Gf,.bool x.pin],.rw,0⟩) 2 [.i x.refs.length,.i x.data.length,.i x.kd]=some Y3:=by
     rw[GV sM (by simp[Gq]),hY3];rfl
    have w1:IntKind.i64.wrap ((j:Int)+1)=((j+1:Nat):Int):=Gh oM
    unfold Uj at hid
    unfold Je at hs2
    suffices fin:∃E' H2 o2 L2,den P FB E H'=some (.normal,E',H2)∧E' 7=.i ((j+1:Nat):Int)∧K_ o' H' o2 H2∧JO o2 H2 rb {s with objs:=s.objs.take (j+1)} L2 by
     obtain⟨E',H2,o2,L2,f1,f2,f3,f4⟩:=fin
     exact Gt f1 (k':=s.objs.length-(j+1)) oM ⟨j+1,o2,L2,f2,oM,rfl,g.trans f3,f4⟩
    simp(disch:=first|exact dz|fail) only[simprocAttr,Gc,↓reduceIte,FB,e0,e3,e6,e7,hvl,c',i1,i2,i3a,Gky,fill,splice,and_self]
    rw[←hY]
    simp(disch:=first|exact dz|fail) only[simprocAttr,Gc,↓reduceIte,lY,hid,e0]
    rw[←hY1]
    simp(disch:=first|exact dz|fail) only[simprocAttr,Gc,↓reduceIte,lY1,hs2,e0,lY2,Rj]
    generalize hr:den P (.loop ML) _ _=r
    obtain⟨E4,Y4,rv,rfl,b4,l4,il4,fr4⟩:=Gea pY3 k hxm lY3 hno (by simp[Gg,e0]) uA uA hr
    have f0:=fr4 0 dK
    have f8:=fr4 8 dK
    have f3:=fr4 3 dK
    have f7:=fr4 7 dK
    simp only[Gg,Nat.reduceEqDiff,↓reduceIte,e0,e3,e7]at f0 f8 f3 f7
    have pY4:=pY3.but b4 hno
    simp(disch:=first|exact dz|fail) only[simprocAttr,Gc,↓reduceIte,f0,f8,f3,f7]
    generalize hr:den P (.loop Iw) _ _=r
    obtain⟨E5,Y5,dv,rfl,b5,l5,il5,fr5⟩:=GeC pY4 k hxm l4 hno (by simp[Gg,f0]) (by simp[Gg,f8]) uA hr
    have h8:=fr5 8 dK
    have h3':=fr5 3 dK
    have h7':=fr5 7 dK
    simp only[Gg,Nat.reduceEqDiff,↓reduceIte,f8,f3,f7]at h8 h3' h7'
    have e34:=b4.len
    have e45:=b5.len
    have e03:=gY3.len
    have Gtl:H'.length<Y3.length:=Gd lY3
    have gY4:Gr H' Y4:=⟨oM,fun c hc _=>by rw[b4.keep c oM oM,gY3.keep c hc fun h=>h]⟩
    have gY5:Gr H' Y5:=⟨oM,fun c hc _=>by rw[b5.keep c oM oM,gY4.keep c hc fun h=>h]⟩
    obtain⟨o1,a1,a2,a3⟩:=At.adopt (o:=o') (t:=(0,3,x.id)) il4 fun d u h=>by have:=mj.dom d u h;omega
    have d1:∀d u,o1 d=some u→d<Y4.length:=fun d u h=>by
     by_cases hd:d<Y3.length
     ·omega
     ·exact(a2 d u h oM).2
    obtain⟨o2,c1,c2,c3⟩:=At.adopt (o:=o1) (t:=(0,4,x.id)) il5 d1
    have ho2:∀d u,o' d=some u→o2 d=some u:=fun d u h=>by
     have hd:=mj.dom d u h
     rw[c1 d oM,a1 d oM,h]
    have d2:∀d u,o2 d=some u→d<Y5.length:=fun d u h=>by
     by_cases hd:d<Y4.length
     ·omega
     ·exact(c2 d u h oM).2
    obtain⟨Y6,hY6⟩:∃Y6:Gb,Y6=Y5++[⟨Nw x rv dv,.rw,8⟩]:=⟨_,rfl⟩
    have g56:Gr Y5 Y6:=by rw[hY6];exact Gr.app _ _
    have l6:Y6.length=Y5.length+1:=by rw[hY6];simp
    have gY6:=gY5.trans g56
    have m6:JO o2 Y6 rb {s with objs:=s.objs.take j} L':=mj.frame (fun d u h=>by have:=d2 d u h;omega) ho2 fun d u h=>gY6.keep d (mj.dom d u h) fun h=>h
    have rvA:At o2 (0,3,x.id) Y6 rv 1 x.refs.length (ints x.refs):=by
     have:At o2 (0,3,x.id) Y5 rv 1 x.refs.length (ints x.refs):=a3.frame (fun d h=>by rw[c1 d (d1 d _ h),h]) fun d h=>by
      have hd:=d1 d _ h
      refine b5.keep d hd ?_
      rintro rfl
      by_cases hh:H'.length<Y3.length
      ·rw[a1 _ hh]at h
       have:=mj.dom _ _ h
       omega
      ·omega
     exact this.keeps g56
    have dvA:At o2 (0,4,x.id) Y6 dv 1 x.data.length (ints x.data):=c3.keeps g56
    have hltk:(s.objs.take j).length=j:=by rw[List.length_take];omega
    have WE:(s.objs.take (j+1)).length=j+1:=by rw[List.length_take];omega
    have htk:s.objs.take (j+1)=s.objs.take j++[x]:=by rw[QL,hx];rfl
    have hAt:=m6.objs
    simp only[hltk]at hAt
    have lvr:(Nw x rv dv).all leaf=true:=by simp[Nw,Gq,JM,IL.leaf il4,IL.leaf il5]
    obtain⟨X,z1,z2,z3',z4⟩:=hAt.append (k:=1) (new:=Nw x rv dv) oM (by unfold JG;omega) lvr rfl
    have t6:=m6.cells
    have t5:Y5[rb]?=_:=(gY5.keep rb (mj.dom _ _ mj.top) fun h=>h).trans mj.cells
    have tX:X[rb]?=_:=(z4 rb (m6.dom _ _ m6.top) (by rw[m6.top];simp)).trans t6
    have GmE:rb<H'.length:=mj.dom _ _ mj.top
    have hel:elems Y6 8 (.slice Y5.length 0 1 1 8 false)=some (1,Nw x rv dv):=by
     rw[JC oM,hY6,M_ (Nat.le_refl _)]
     simp[EZ,Nw,NW]
    have hld:EZ Y5[H'.length]? 0 8=some (Nw x rv dv):=by rw[l5];rfl
    have GfV:fill [.int .i64 0,.int .i64 0,.int .i64 0,.int .i64 0,.int .i64 0,.Gf,.Gf,.bool false] [(0,8,.agg (Nw x rv dv))]=some (Nw x rv dv):=rfl
    have hne:∀y∈s.objs.take j,y.id≠x.id:=fun y hy=>by
     obtain⟨i,hi,he⟩:=List.getElem_of_mem hy
     rw[List.length_take]at hi
     have hy':s.objs[i]?=some y:=by rw[←he,List.getElem_take,J9 oM]
     exact KV (r:=fun a b:Ob=>a.id≠b.id) k.ids oM hy' hx
    obtain⟨o3,L3,r1,r2,-⟩:=JO.GgL m6 (l:=s.objs.take (j+1)) (hv:=fun i=>if i=x.id then(rv,dv)else L'.hv i) (v:=.slice Y6.length 0 (j+1) (j+1) 8 true) (born:=s.born) (Hf:=X.set rb ⟨[L'.bv,.slice Y6.length 0 (j+1) (j+1) 8 true,L'.fv,.i s.born],.rw,0⟩)
     (.inr ⟨Y6.length,true,by rw[WE],Gn.2 ⟨Nat.le_refl _,rfl⟩,by
      rw[JU (by have:=gY6.len;omega),z3',htk,Yy]
      have same:∀l:List Ob,(∀y∈l,y.id≠x.id)→Gz (fun i=>if i=x.id then(rv,dv)else L'.hv i) l=Gz L'.hv l:=fun l=>by
       induction l with
       |nil=>intro _;rfl
       |cons y l ih=>
        intro h
        rw[Jg,Jg,ih fun z hz=>h z (Um _ hz)]
        simp[GN,h y NC]
      rw[same _ hne]
      simp[Gz,GN,Nw],by rw[KZ,WE]⟩)
     (by rw[List.length_set,z2];omega) (by rw[KI (Gd tX)]) (fun d hd hr hn=>by rw[JU (Ne.symm hr),z4 d hd hn])
     (fun y hy=>by
      rw[htk]at hy
      rcases NG.1 hy with hy|hy
      ·rw[if_neg (hne y hy)];exact m6.refs y hy
      ·simp only[Uy]at hy
       subst hy
       rw[if_pos rfl];exact⟨rvA,dvA⟩)
    have GpV:K_ o' H' o2 Y6:=⟨gY6.len,fun d hd=>by rw[c1 d oM,a1 d oM],fun d hd _=>gY6.keep d hd fun h=>h⟩
    dsimp only at t5 tX
    simp(disch:=first|exact dz|fail) only[simprocAttr,Gc,↓reduceIte,h8,h3',h7',t5,hld,GfV]
    rw[←hY6]
    have Gq6:Option.map (fun cs=>(1,cs)) (EZ (some ({cells:=Nw x rv dv,mode:=Mode.rw,Jf:=8}:JI)) 0 8)=some (1,Nw x rv dv):=rfl
    simp(disch:=first|exact dz|fail) only[simprocAttr,Gc,↓reduceIte,Gq6,Ja,z1,tX,h7',w1]
    exact⟨_,_,o3,L3,rfl,uA,GpV.trans r2,r1⟩
   ·have c':decide ((j:Int)<(s.objs.length:Int))=false:=GC oM
    rw[NW oM]at mj
    apply Gl (x:=.exit 2)
    ·simp(disch:=first|exact dz|fail) only[simprocAttr,Gc,↓reduceIte,FB,e6,e7,hvl,c']
     rfl
    ·simp
    ·exact⟨rfl,o',L',g,mj⟩) _ ⟨0,o,LR,h7,oM,rfl,⟨Nat.le_refl _,fun _ _=>rfl,fun _ _ _=>rfl⟩,by simpa using m⟩
 exact⟨E',H',o',L',hr.symm.trans e,g,q1,fr⟩
end
end Go.Cs.Tryz

namespace Go.Cs.Tryz
open Go Go.Cs
section
variable {H : Gb} {hb : Nat} {s : Hp} {L : GD}
theorem Me(p:PH H hb s L)(k:s.Ok):
  ∃rb H' o L',run P 21 [.ptr hb 0] H=some (.ptr rb 0,H')∧Gr H H'∧JO o H' rb s L'∧(∀c t,o c=some t→H.length≤c):=by
 have hbi:=SA p k
 obtain⟨X,hX⟩:∃X:Gb,X=H++[⟨[.Gf,.Gf,.Gf,.i s.born],.rw,0⟩]:=⟨_,rfl⟩
 have gX:Gr H X:=by rw[hX];exact Gr.app _ _
 have lX:X.length=H.length+1:=by rw[hX];simp
 have pX:=p.gr gX
 have m0:JO (Tags.put (fun _=>none) H.length (0,0,0)) X H.length ⟨[],[],s.born,s.fwd⟩ ⟨.Gf,.Gf,.Gf,fun _=>(.Gf,.Gf)⟩:=by
  refine⟨fun c t hc=>?_,Tags.put_eq,by rw[hX];simp,rfl,.inl ⟨rfl,rfl,.inl rfl⟩,.inl ⟨rfl,rfl,.inl rfl⟩,fun x hx=>by cases hx⟩
  by_cases e:c=H.length
  ·omega
  ·rw[Tags.GY e]at hc;cases hc
 rw[Gi c21 _ _ sM]
 simp(disch:=first|exact dz|fail) only[simprocAttr,Gc,↓reduceIte,Gv,hbi,fill,splice,and_self]
 rw[←hX]
 generalize hr:den P (.loop Lh) _ _=r
 obtain⟨E1,X1,o1,L1,rfl,g1,m1,f1,fr1⟩:=GhH pX k (fun c hc=>p.lt c hc) m0 oM (fun c t hc=>by
  by_cases e:c=H.length
  ·omega
  ·rw[Tags.GY e]at hc;cases hc) uA uA uA hr
 have a0:=fr1 0 dK
 have a3:=fr1 3 dK
 simp only[Gg,Nat.reduceEqDiff,↓reduceIte]at a0 a3
 have g01:Gr H X1:=⟨Jr gX.len g1.len,fun c hc _=>by rw[g1.keep c oM oM,gX.keep c hc fun h=>h]⟩
 have p1:=p.gr g01
 obtain⟨v6,X2,r2,g2,il⟩:=LM p1 k
 simp(disch:=first|exact dz|fail) only[simprocAttr,Gc,↓reduceIte,a0,a3,r2]
 generalize hr:den P (.loop FB) _ _=r
 have p2:=p1.gr g2
 have m2:=m1.gr g2
 have il0:=il.li
 obtain⟨E3,X3,o3,L3,rfl,g3,m3,fr3⟩:=GgR (k0:=H.length) p2 k (fun c hc=>p.lt c hc) m2 (Jr g01.len g2.len) f1 (v6:=v6) (fun H' hk=>by
   rcases il with h|⟨c,f,i1,i2,i3,i4⟩
   ·exact .inl h
   ·have hc:=(Gn.1 i2).1
    refine .inr ⟨c,f,i1,Gn.2 ⟨Nat.zero_le _,rfl⟩,?_,i4⟩
    rw[hk c (Gd i3) (Jo fun h=>?_),i3]
    cases e2:o1 c with
    |none=>exact h e2
    |some u=>have:=m1.dom c u e2;omega) (by simp[Gg,a0]) (by simp[Gg,a3]) uA uA hr
 have b3:=fr3 3 dK
 simp only[Gg,Nat.reduceEqDiff,↓reduceIte,a3]at b3
 simp(disch:=first|exact dz|fail) only[simprocAttr,Gc,↓reduceIte,b3]
 refine⟨_,_,o3,L3,rfl,?_,m3,fun c t h=>?_⟩
 ·have h1:=g01.len
  have h2:=g2.len
  refine⟨by have:=g3.len;omega,fun c hc _=>?_⟩
  rw[g3.keep c oM (Jo fun h=>?_),g2.keep c oM fun h=>h,g01.keep c hc fun h=>h]
  cases e:o1 c with
  |none=>exact h e
  |some u=>have:=f1 c u e;omega
 ·have h1:=g01.len
  have h2:=g2.len
  by_cases hc:c<X2.length
  ·rw[g3.tag c hc]at h;exact f1 c t h
  ·omega
end
end Go.Cs.Tryz
namespace Go.Cs.Tryz
open Go Go.Cs A
def Vb:Gu:=T [b 29 .lss 28 27] (S (J 29 (X 2)) (S (B 3 (T [m 30 28,m 5 30] (T [m 31 3,m 32 5,e 33 (.build [i 0,i 0,i 0] [(0,1,t 31),(2,1,t 32)]),e 6 (.new [i 0,i 0,i 0]),st 3 6 33] (S (T [m 34 3,bk 35 .eql 34 0] (I 35 (R [m 36 5,bk 37 .quo 36 16,m 38 5,bk 39 .rem 38 16,f 40 1 6,st 1 40 37,f 41 2 6,st 1 41 39]))) (S (D [⟨m 42 4,0,0,0⟩,⟨m 43 5,1,0,0⟩,⟨x 44 1 42 43,2,0,0⟩,⟨l 45 1 44,3,1,0⟩,⟨bk 46 .neq 45 0,4,0,0⟩,⟨m 47 46,5,0,0⟩,⟨gt 47 (m 48 0),6,0,0⟩,⟨gt 47 (lg 49 3 6),7,1,0⟩,⟨gt 47 (m 50 4),8,0,0⟩,⟨gt 47 (m 51 5),9,0,0⟩,⟨gt 47 (x 52 1 50 51),10,0,0⟩,⟨gt 47 (e 53 (.Nz (t 48) [t 49,t 52] [(304,"dustcart/alloc.place",335),(305,"dustcart/alloc.place",340),(306,"dustcart/alloc.place",348),(307,"dustcart/alloc.place",349),(308,"dustcart/alloc.place",353)])),11,3,0⟩,⟨gt 47 (no 54 53),12,0,1⟩,⟨an 55 47 54,13,0,1⟩]) (I 55 .ret)))))) (R [bk 56 .add 28 1,m 28 56])))
def BH:Gu:=T [b 22 .lss 21 20] (S (J 22 (X 0)) (S (B 1 (T [m 23 21,x 24 1 19 21,l 25 1 24,m 3 23,m 4 25] (T [m 26 4,le 27 26,n 28 0] (B 2 (W Vb))))) (R [bk 57 .add 21 1,m 21 57])))
def GnK:Gm:=⟨58,0,S (D [⟨l 7 1 1,0,1,0⟩,⟨z 8 7,1,0,0⟩,⟨f 9 1 8,2,0,0⟩,⟨l 10 1 9,3,1,0⟩,⟨l 11 1 1,4,1,0⟩,⟨z 12 11,5,0,0⟩,⟨f 13 2 12,6,0,0⟩,⟨l 14 1 13,7,1,0⟩,⟨l 15 1 1,8,1,0⟩,⟨z 16 15,9,0,0⟩,⟨f 17 3 16,10,0,0⟩,⟨l 18 1 17,11,1,0⟩,⟨e 19 (.buildSlice 1 [.Gf,.Gf,.Gf] 3 [(0,1,t 10),(1,1,t 14),(2,1,t 18)]),12,0,0⟩,⟨le 20 19,13,0,0⟩,⟨n 21 0,14,0,0⟩]) (B 0 (W BH)),[]⟩
theorem Gpr:P 224=some GnK:=by kernel_rfl
end Go.Cs.Tryz
namespace Go.Cs
open Go
theorem QX{l:List CV}{i t:Nat}{v:CV}:entry (l.set i v) t=if t=i then(if i<l.length then v else .undef)else entry l t:=by
 unfold entry
 rw[Qc,Qc,Lu]
 by_cases c:i=t
 ·subst c
  simp only[↓reduceIte]
  split<;>rfl
 ·rw[if_neg c,if_neg (Ne.symm c)]
theorem UD{n t:Nat}{E:Env}:entry ((List.range n).map E) t=if t<n then E t else .undef:=by
 unfold entry
 rw[Qc,Ke]
 by_cases c:t<n
 ·rw[ZG c,if_pos c];rfl
 ·rw[if_neg c,En (by rw[List.length_range];omega)];rfl
theorem LU{F:Jp}{b z:Nat}{ps env args e1:List CV}{H H1 H2:Gb}(h:H[b]?=some (Jk 0 ps env z)) (hl:args.length=ps.length) (r0:F (RB+z) (U0 env ps args) H=some (.Ju e1,H1)) (h1:H1[b]?=some (Jk 0 ps env z))
  (r1:F (RB+z+1) e1 (H1.set b (Jk 1 ps env z))=some (.i 0,H2)) (h2:H2[b]?=some (Jk 1 ps env z)):yieldOf F b args H=some (.bool true,H2.set b (Jk 0 ps env z)):=by
 unfold yieldOf
 rw[h]
 simp only[Jk,hl,and_self,↓reduceIte]
 rw[r0]
 simp only[Option.bind_some,KO,h1,Jk,and_self,↓reduceIte]
 simp only[Jk]at r1
 rw[r1]
 simp only[Option.bind_some,h2,Jk]
 rfl
def rd1(n:Nat)(o:Option (CX×Env×Gb)):Option (CV×Gb):=o.bind fun r=>match r.1 with|.normal=>some (.Ju ((List.range n).map r.2.1),r.2.2)|_=>none
theorem Gbo{p:JD}{f n:Nat}{body:Gu}{res:List VH}(hf:p f=some ⟨n,1,body,res⟩)(a:List CV)(H:Gb)(ha:a.length≤n):run p f a H=rd1 n (den p body (entry a) H):=by
 rw[run_eq hf a ha H];rfl
def rd2(o:Option (CX×Env×Gb)):Option (CV×Gb):=o.map fun r=>(.i r.1.code,r.2.2)
theorem RY{p:JD}{f n:Nat}{body:Gu}{res:List VH}(hf:p f=some ⟨n,2,body,res⟩)(a:List CV)(H:Gb)(ha:a.length≤n):run p f a H=rd2 (den p body (entry a) H):=by
 rw[run_eq hf a ha H]
 unfold rd2
 cases den p body (entry a) H<;>rfl
theorem Gic{n:Nat}{E:Env}{H:Gb}:rd1 n (some (.normal,E,H))=some (.Ju ((List.range n).map E),H):=rfl
theorem W9{E:Env}{H:Gb}:rd2 (some (.normal,E,H))=some (.i 0,H):=rfl
theorem Xo{p:JD}{g:J7}{ps:List Nat}{k z:Nat}{E:Env}{H:Gb}:den p (.Qb g ps k z) E H=(Ny (run p) (E.ev g) ps k z E H).bind (Uq E H.length):=by rw[VD]
theorem Ws{p:JD}{g:J7}{ps:List Nat}{k z f:Nat}{caps:List CV}{E:Env}{H H':Gb}{v:CV}{P0 N0:List CV}{z0:Nat}(hg:E.ev g=.func f caps)(hf:f<1000000)
  (hr:run p f (.yld H.length::caps) (H++[Jk 0 (ps.map fun(t:Nat)=>CV.i (t:Int)) ((List.range k).map E) z])=some (v,H'))(hb:H'[H.length]?=some (Jk 0 P0 N0 z0)):
  den p (.Qb g ps k z) E H=some (.normal,E,H'.set H.length ⟨[],.dead,0⟩):=by
 rw[Xo,hg]
 unfold Ny
 simp only[hf,↓reduceIte]
 rw[hr]
 simp only[Option.bind_some,Uq,hb,Jk,↓reduceIte]
def KY(l:Nat)(xs:List Int):List (Nat×Nat×Int):=xs.zipIdx.filterMap fun x=>if x.1=0 then none else some (l,x.2,x.1)
def Rt.vis(R:Rt):List (Nat×Nat×Int):=KY 0 (R.li 0)++(KY 1 (R.li 1)++KY 2 (R.li 2))
theorem PC{l j:Nat}{xs:List Int}{x:Int}(h:xs[j]?=some x):KY l (xs.take (j+1))=KY l (xs.take j)++(if x=0 then []else [(l,j,x)]):=by
 unfold KY
 have hj:j<xs.length:=by
  rcases QU j xs.length with c|c
  ·exact c
  ·rw[En c]at h;cases h
 rw[QL,h,VT,List.zipIdx_append,List.filterMap_append]
 congr 1
 simp only[List.zipIdx_cons,List.zipIdx_nil,List.length_take,Nat.zero_add]
 rw[Nat.min_eq_left oM]
 by_cases c:x=0<;>simp[c]
theorem DK{l:Nat}{xs:List Int}{y:Nat×Nat×Int}:y∈KY l xs↔y.1=l∧xs[y.2.1]?=some y.2.2∧y.2.2≠0:=by
 unfold KY
 rw[List.mem_filterMap]
 constructor
 ·rintro ⟨⟨x,i⟩,h1,h2⟩
  rw[List.mem_zipIdx_iff_getElem?]at h1
  dsimp only at h2 h1
  split at h2
  ·cases h2
  ·simp only[Gx]at h2
   subst h2
   exact⟨rfl,h1,by assumption⟩
 ·rintro ⟨h1,h2,h3⟩
  refine⟨(y.2.2,y.2.1),List.mem_zipIdx_iff_getElem?.2 h2,?_⟩
  simp only[h3,↓reduceIte,←h1]
theorem I_(l:Nat)(xs:List Int):(KY l xs).length≤xs.length:=by
 unfold KY
 exact Jr (List.length_filterMap_le _ _) sM
def Qg(x:Nat×Nat×Int):List CV:=if x.1=0 then [.i 0,.i ((x.2.1/16:Nat):Int),.i ((x.2.1 % 16:Nat):Int)]else [.i x.1,.i 0,.i x.2.1]
theorem Rt.Gmc{R:Rt}{l:Nat}(hl:l≤2):∃q,R.vis=(if l=0 then []else if l=1 then KY 0 (R.li 0)else KY 0 (R.li 0)++KY 1 (R.li 1))++(KY l (R.li l)++q):=by
 unfold Rt.vis
 match l,hl with
 |0,_=>exact⟨_,rfl⟩
 |1,_=>exact⟨KY 2 (R.li 2),rfl⟩
 |2,_=>exact⟨[],sM⟩
def Rt.Qx(R:Rt)(l:Nat):List (Nat×Nat×Int):=if l=0 then []else if l=1 then KY 0 (R.li 0)else if l=2 then KY 0 (R.li 0)++KY 1 (R.li 1)else R.vis
theorem Rt.Lv{R:Rt}{l:Nat}(hl:l≤2):R.Qx (l+1)=R.Qx l++KY l (R.li l):=by
 match l,hl with
 |0,_=>rfl
 |1,_=>rfl
 |2,_=>simp[Rt.Qx,Rt.vis,List.append_assoc]
theorem Rt.Gh8{R:Rt}{l j:Nat}(hl:l≤2){x:Int}(h:(R.li l)[j]?=some x) (hx:x≠0):R.Qx l++KY l ((R.li l).take j)++[(l,j,x)]<+:R.vis:=by
 have e1:KY l ((R.li l).take (j+1))=KY l ((R.li l).take j)++[(l,j,x)]:=by rw[PC h,if_neg hx]
 have e2:KY l ((R.li l).take (j+1))<+:KY l (R.li l):=by
  have h1:(R.li l).take (j+1)<+:R.li l:=List.take_prefix _ _
  obtain⟨t,ht⟩:=h1
  refine⟨(t.zipIdx ((R.li l).take (j+1)).length).filterMap fun x=>if x.1=0 then none else some (l,x.2,x.1),?_⟩
  have e0:KY l (R.li l)=KY l ((R.li l).take (j+1)++t):=by rw[ht]
  rw[e0]
  unfold KY
  rw[List.zipIdx_append,List.filterMap_append,Nat.zero_add]
 obtain⟨q,hq⟩:=e2
 have e3:R.Qx (l+1)<+:R.vis:=by
  match l,hl with
  |0,_=>exact⟨_,rfl⟩
  |1,_=>exact⟨KY 2 (R.li 2),by simp[Rt.Qx,Rt.vis,List.append_assoc]⟩
  |2,_=>exact⟨[],by simp[Rt.Qx]⟩
 rw[List.append_assoc,←e1]
 refine List.IsPrefix.trans ?_ e3
 rw[Rt.Lv hl,←hq]
 exact⟨q,by simp[List.append_assoc]⟩
end Go.Cs
namespace Go.Cs.Tryz
open Go Go.Cs
section
variable {H : Gb} {o : Tags} {rb : Nat} {R : Rt} {v : Nat → CV}
def Y_(Inv:List (Nat×Nat×Int)→(Nat→Prop)→Gb→Prop)(W0:Nat→Prop)(H:Gb)(k3:JI)(D:List (Nat×Nat×Int))(H':Gb):Prop:=
 ∃W,Inv D W H'∧Keeps H H' W0∧(∀c,W c→W0 c∨H.length<c)∧H'[H.length]?=some k3
structure Yields(b:Nat)(v:Nat→CV)(R:Rt)(Inv:List (Nat×Nat×Int)→(Nat→Prop)→Gb→Prop):Prop where
 gr:∀D W H' Eo,Inv D W H'→Gr H' Eo→Inv D W Eo
 go:∀D W H' x,Inv D W H'→x.2.2≠0→D++[x]<+:R.vis→ld H'[Gp (v x.1)]? x.2.1=some (.i x.2.2)→
  ∃W' Eo,yieldOf (run P) b [.agg (Qg x),.ptr (Gp (v x.1)) x.2.1] H'=some (.bool true,Eo)∧Inv (D++[x]) W' Eo∧Keeps H' Eo W∧∀c,W' c→W c∨H'.length≤c
theorem Gj0{Inv:List (Nat×Nat×Int)→(Nat→Prop)→Gb→Prop}{W0:Nat→Prop}{b l:Nat}(hl:l≤2)(m:K9 o H rb R v)(k:R.Ok)(y:Yields b v R Inv)(hW:∀c,W0 c→o c=none∧c≠H.length){k3:JI}{H1:Gb}(a:Y_ Inv W0 H k3 (R.Qx l) H1)
  {E0:Env}(e0:E0 0=.yld b)(e3:E0 3=.i l)(e4:E0 4=v l)(e27:E0 27=.i (R.li l).length)(e28:E0 28=.i 0){r:Option (CX×Env×Gb)}(hr:den P (.loop Vb) E0 H1=r):
  ∃E' H',r=some (.exit 2,E',H')∧Y_ Inv W0 H k3 (R.Qx (l+1)) H'∧∀t,t∉wr Vb→E' t=E0 t:=by
 obtain⟨x',E',H',e,-,⟨rfl,q1⟩,fr⟩:=Gy (p:=P) (c:=Vb) (E0:=E0) (H0:=H1)
  (fun q E H'=>∃j:Nat,E 28=.i j∧j≤(R.li l).length∧q=(R.li l).length-j∧Y_ Inv W0 H k3 (R.Qx l++KY l ((R.li l).take j)) H')
  (fun x' E' H'=>x'=.exit 2∧Y_ Inv W0 H k3 (R.Qx (l+1)) H') (by
   rintro q E H' hE ⟨j,e28,hj,rfl,W,iv,kp,nw,t3⟩
   have e0:=(hE 0 dK).trans e0
   have e3:=(hE 3 dK).trans e3
   have e4:=(hE 4 dK).trans e4
   have e27:=(hE 27 dK).trans e27
   have hfl:=k.KG
   have hns:=k.ns
   have hg:=k.g16
   have hq:=k.Xe
   have hlen:(R.li l).length≤64:=by
    match l,hl with
    |0,_=>show R.flat.length≤64;omega
    |1,_=>show R.glob.length≤64;omega
    |2,_=>exact hq
   by_cases c:j<(R.li l).length
   ·have c':decide ((j:Int)<((R.li l).length:Int))=true:=GK oM
    obtain⟨x,hx⟩:∃x,(R.li l)[j]?=some x:=⟨_,J9 c⟩
    obtain⟨tl,a1,a2,a3,a4⟩:=(m.li l hl).pos oM
    have hb:=m.dom _ _ a2
    have ix1:∀X,Kb 1 (v l) (.i j) X=some (.ptr (Gp (v l)) j,X):=fun X=>by
     rw[a1];exact(if_pos oM).trans (by simp[Gp])
    have ix2:ZP 1 (v l) (.i j)=okV (.ptr (Gp (v l)) j):=by
     rw[a1];exact(if_pos oM).trans (by simp[Gp])
    have ldx:∀Y:Gb,Y[Gp (v l)]?=H[Gp (v l)]?→ld Y[Gp (v l)]? j=some (.i x):=fun Y h=>by
     rw[h,a3,Vt];simp[ints,hx]
    have kH:H'[Gp (v l)]?=H[Gp (v l)]?:=kp.keep _ hb fun h=>by rw[(hW _ h).1]at a2;cases a2
    have w1:IntKind.i64.wrap ((j:Int)+1)=((j+1:Nat):Int):=Gh oM
    have d1:(j:Int).tdiv 16=((j/16:Nat):Int):=by rw[Int.tdiv_eq_ediv_of_nonneg oM];omega
    have d2:(j:Int).tmod 16=((j % 16:Nat):Int):=by rw[Int.tmod_eq_emod_of_nonneg oM];omega
    have w2:IntKind.i64.wrap ((j/16:Nat):Int)=((j/16:Nat):Int):=Gh oM
    obtain⟨X,hX⟩:∃X:Gb,X=H'++[⟨Qg (l,j,x),.rw,0⟩]:=⟨_,rfl⟩
    have gX:Gr H' X:=by rw[hX];exact Gr.app _ _
    have lX:X.length=H'.length+1:=by rw[hX];simp
    have tX:X[H'.length]?=some ⟨Qg (l,j,x),.rw,0⟩:=by rw[hX];simp
    have hbl:Gp (v l)<H'.length:=JH hb kp.len
    have kX:X[Gp (v l)]?=H[Gp (v l)]?:=(gX.keep _ hbl fun h=>h).trans kH
    have lx:=ldx X kX
    suffices fin:∃E' H2,den P Vb E H'=some (.normal,E',H2)∧E' 28=.i ((j+1:Nat):Int)∧Y_ Inv W0 H k3 (R.Qx l++KY l ((R.li l).take (j+1))) H2 by
     obtain⟨E',H2,f1,f2,f3⟩:=fin
     exact Gt f1 (k':=(R.li l).length-(j+1)) oM ⟨j+1,f2,oM,rfl,f3⟩
    rw[PC hx]
    have ivX:=y.gr _ _ _ _ iv gX
    have kpX:Keeps H X W0:=kp.trans ⟨gX.len,fun c hc _=>gX.keep c hc fun h=>h⟩
    have hHl:H.length<H'.length:=Gd t3
    have t3X:X[H.length]?=some k3:=(gX.keep _ hHl fun h=>h).trans t3
    by_cases hx0:x=0
    ·have cx0:(x != 0)=false:=by rw[hx0];rfl
     by_cases hl0:l=0
     ·have cl0:((l:Int)==0)=true:=by rw[hl0];rfl
      have hp:Qg (l,j,x)=[.i l,.i ((j/16:Nat):Int),.i ((j % 16:Nat):Int)]:=by rw[hl0];rfl
      rw[hp]at hX tX
      simp(disch:=first|exact dz|fail) only[simprocAttr,Gc,↓reduceIte,Vb,e0,e3,e4,e27,e28,c',fill,splice,and_self,GH,GA,d1,d2,w2,cl0]
      rw[←hX]
      simp(disch:=first|exact dz|fail) only[simprocAttr,Gc,↓reduceIte,ix2,lx,cx0,tX,e28,w1]
      exact⟨_,_,rfl,uA,by rw[if_pos hx0,List.append_nil];exact⟨W,ivX,kpX,nw,t3X⟩⟩
     ·have cl0:((l:Int)==0)=false:=VZ.2 oM
      have hp:Qg (l,j,x)=[.i l,.i 0,.i j]:=if_neg hl0
      rw[hp]at hX tX
      simp(disch:=first|exact dz|fail) only[simprocAttr,Gc,↓reduceIte,Vb,e0,e3,e4,e27,e28,c',fill,splice,and_self,cl0]
      rw[←hX]
      simp(disch:=first|exact dz|fail) only[simprocAttr,Gc,↓reduceIte,ix2,lx,cx0,tX,e28,w1]
      exact⟨_,_,rfl,uA,by rw[if_pos hx0,List.append_nil];exact⟨W,ivX,kpX,nw,t3X⟩⟩
    ·have cx0:(x != 0)=true:=by simpa using hx0
     obtain⟨W',X2,hy1,hy2,hy3,hy4⟩:=y.go _ _ _ (l,j,x) ivX hx0 (Rt.Gh8 hl hx hx0) lx
     have GlM:Y_ Inv W0 H k3 (R.Qx l++(KY l ((R.li l).take j)++[(l,j,x)])) X2:=by
      rw[←List.append_assoc]
      refine⟨W',hy2,⟨Jr kpX.len hy3.len,fun c hc hn=>?_⟩,fun c hc=>?_,?_⟩
      ·rw[hy3.keep c (by have:=kpX.len;omega) fun h=>?_,kpX.keep c hc hn]
       rcases nw c h with h|h
       ·exact hn h
       ·omega
      ·rcases hy4 c hc with h|h
       ·exact nw c h
       ·exact .inr oM
      ·rw[hy3.keep _ oM fun h=>?_,t3X]
       rcases nw _ h with h|h
       ·exact(hW _ h).2 rfl
       ·omega
     dsimp only at hy1
     by_cases hl0:l=0
     ·have cl0:((l:Int)==0)=true:=by rw[hl0];rfl
      have hp:Qg (l,j,x)=[.i l,.i ((j/16:Nat):Int),.i ((j % 16:Nat):Int)]:=by rw[hl0];rfl
      rw[hp]at hX tX
      simp(disch:=first|exact dz|fail) only[simprocAttr,Gc,↓reduceIte,Vb,e0,e3,e4,e27,e28,c',fill,splice,and_self,GH,GA,d1,d2,w2,cl0]
      rw[←hX]
      simp(disch:=first|exact dz|fail) only[simprocAttr,Gc,↓reduceIte,ix2,lx,cx0,tX,e0,e4,Jd,SG]
      rw[←hp]
      simp(disch:=first|exact dz|fail) only[simprocAttr,Gc,↓reduceIte,hy1,e28,w1]
      exact⟨_,_,rfl,uA,by rw[if_neg hx0];exact GlM⟩
     ·have cl0:((l:Int)==0)=false:=VZ.2 oM
      have hp:Qg (l,j,x)=[.i l,.i 0,.i j]:=if_neg hl0
      rw[hp]at hX tX
      simp(disch:=first|exact dz|fail) only[simprocAttr,Gc,↓reduceIte,Vb,e0,e3,e4,e27,e28,c',fill,splice,and_self,cl0]
      rw[←hX]
      simp(disch:=first|exact dz|fail) only[simprocAttr,Gc,↓reduceIte,ix2,lx,cx0,tX,e0,e4,Jd,SG]
      rw[←hp]
      simp(disch:=first|exact dz|fail) only[simprocAttr,Gc,↓reduceIte,hy1,e28,w1]
      exact⟨_,_,rfl,uA,by rw[if_neg hx0];exact GlM⟩
   ·have c':decide ((j:Int)<((R.li l).length:Int))=false:=GC oM
    rw[NW oM,←Rt.Lv hl]at iv
    apply Gl (x:=.exit 2)
    ·simp(disch:=first|exact dz|fail) only[simprocAttr,Gc,↓reduceIte,Vb,e28,e27,c']
     rfl
    ·simp
    ·exact⟨rfl,W,iv,kp,nw,t3⟩) _ ⟨0,e28,oM,rfl,by simpa[KY]using a⟩
 exact⟨E',H',hr.symm.trans e,q1,fr⟩
theorem GhN{Inv:List (Nat×Nat×Int)→(Nat→Prop)→Gb→Prop}{W0:Nat→Prop}{b:Nat}{X:Gb}(m:K9 o H rb R v)(k:R.Ok)(y:Yields b v R Inv)(hW:∀c,W0 c→o c=none∧c≠H.length)
  (a0:Y_ Inv W0 H ⟨[v 0,v 1,v 2],.rw,1⟩ (R.Qx 0) X){E0:Env}(e0:E0 0=.yld b)(e19:E0 19=.slice H.length 0 3 3 1 false)(e20:E0 20=.i 3)(e21:E0 21=.i 0){r:Option (CX×Env×Gb)}(hr:den P (.loop BH) E0 X=r):
  ∃E' H',r=some (.exit 0,E',H')∧Y_ Inv W0 H ⟨[v 0,v 1,v 2],.rw,1⟩ (R.Qx 3) H':=by
 obtain⟨x',E',H',e,-,⟨rfl,q1⟩,fr⟩:=Gy (p:=P) (c:=BH) (E0:=E0) (H0:=X)
  (fun q E H'=>∃l:Nat,E 21=.i l∧l≤3∧q=3-l∧Y_ Inv W0 H ⟨[v 0,v 1,v 2],.rw,1⟩ (R.Qx l) H')
  (fun x' E' H'=>x'=.exit 0∧Y_ Inv W0 H ⟨[v 0,v 1,v 2],.rw,1⟩ (R.Qx 3) H') (by
   rintro q E H' hE ⟨l,e21,hl,rfl,a⟩
   have e0:=(hE 0 dK).trans e0
   have e19:=(hE 19 dK).trans e19
   have e20:=(hE 20 dK).trans e20
   obtain⟨W,iv,kp,nw,t3⟩:=id a
   by_cases c:l<3
   ·have c':decide ((l:Int)<3)=true:=GK oM
    have ldv:ld (some (⟨[v 0,v 1,v 2],.rw,1⟩:JI)) l=some (v l):=by
     match l,c with
     |0,_=>rfl
     |1,_=>rfl
     |2,_=>rfl
    have vl:=(m.li l oM).len H'
    have w1:IntKind.i64.wrap ((l:Int)+1)=((l+1:Nat):Int):=Gh oM
    suffices fin:∃E' H2,den P BH E H'=some (.normal,E',H2)∧E' 21=.i ((l+1:Nat):Int)∧Y_ Inv W0 H ⟨[v 0,v 1,v 2],.rw,1⟩ (R.Qx (l+1)) H2 by
     obtain⟨E',H2,f1,f2,f3⟩:=fin
     exact Gt f1 (k':=3-(l+1)) oM ⟨l+1,f2,oM,rfl,f3⟩
    simp(disch:=first|exact dz|fail) only[simprocAttr,Gc,↓reduceIte,BH,e0,e19,e20,e21,c',t3,ldv,vl]
    generalize hr:den P (.loop Vb) _ _=r
    obtain⟨E2,H2,rfl,a2,fr2⟩:=Gj0 (l:=l) oM m k y hW a (by simp[Gg,e0]) uA uA uA uA hr
    have f21:=fr2 21 dK
    simp only[Gg,Nat.reduceEqDiff,↓reduceIte,e21]at f21
    simp(disch:=first|exact dz|fail) only[simprocAttr,Gc,↓reduceIte,f21,w1]
    exact⟨_,_,rfl,uA,a2⟩
   ·have c':decide ((l:Int)<3)=false:=GC oM
    have h3:l=3:=by omega
    subst h3
    apply Gl (x:=.exit 0)
    ·simp(disch:=first|exact dz|fail) only[simprocAttr,Gc,↓reduceIte,BH,e20,e21,c']
     rfl
    ·simp
    ·exact⟨rfl,a⟩) _ ⟨0,e21,oM,rfl,a0⟩
 exact⟨E',H',hr.symm.trans e,q1⟩
theorem Lm{Inv:List (Nat×Nat×Int)→(Nat→Prop)→Gb→Prop}{W0:Nat→Prop}{b bx:Nat}(m:K9 o H rb R v)(k:R.Ok)(y:Yields b v R Inv)(hW:∀c,W0 c→o c=none∧c≠H.length)(iv:Inv [] W0 H)
  (hbx:H[bx]?=some ⟨[.ptr rb 0],.rw,0⟩):
  ∃W H',run P 224 [.yld b,.ptr bx 0] H=some (.Ju [],H')∧Inv R.vis W H'∧Keeps H H' W0∧(∀c,W c→W0 c∨H.length<c):=by
 have hc:=m.cells
 obtain⟨X,hX⟩:∃X:Gb,X=H++[⟨[v 0,v 1,v 2],.rw,1⟩]:=⟨_,rfl⟩
 have gX:Gr H X:=by rw[hX];exact Gr.app _ _
 have tX:X[H.length]?=some ⟨[v 0,v 1,v 2],.rw,1⟩:=by rw[hX];simp
 have lf:leaf (v 0)=true∧leaf (v 1)=true∧leaf (v 2)=true:=⟨(m.li 0 oM).leaf,(m.li 1 oM).leaf,(m.li 2 oM).leaf⟩
 have a0:Y_ Inv W0 H ⟨[v 0,v 1,v 2],.rw,1⟩ (R.Qx 0) X:=⟨W0,y.gr _ _ _ _ iv gX,⟨gX.len,fun c hc _=>gX.keep c hc fun h=>h⟩,fun c h=>.inl h,tX⟩
 obtain⟨lf0,lf1,lf2⟩:=lf
 have cl:∀w:CV,leaf w=true→cellsOf w=[w]:=fun w h=>by cases w<;>first|rfl|cases h
 have c0:=cl _ lf0
 have c1:=cl _ lf1
 have c2:=cl _ lf2
 rw[Gi Gpr _ _ sM]
 simp(disch:=first|exact dz|fail) only[simprocAttr,Gc,↓reduceIte,Gj,hbx,hc,fill,splice,and_self,c0,c1,c2]
 rw[←hX]
 generalize hr:den P (.loop BH) _ _=r
 obtain⟨E',H',rfl,q1⟩:=GhN m k y hW a0 (by simp[Gg,entry]) uA uA uA hr
 obtain⟨W,iv2,kp,nw,t3⟩:=q1
 simp(disch:=first|exact dz|fail) only[simprocAttr,Gc,↓reduceIte]
 exact⟨_,_,rfl,iv2,kp,nw⟩
end
end Go.Cs.Tryz
namespace Go.Cs.Tryz
open Go Go.Cs A
def GfQ:Gm:=⟨26,1,R [m 5 12],[]⟩
theorem GdF:P 1001408=some GfQ:=by kernel_rfl
def Gdx:Gm:=⟨26,2,B 1 (S (D [⟨l 13 1 3,0,1,0⟩,⟨m 14 5,1,0,0⟩,⟨z 15 14,2,0,0⟩,⟨l 16 1 15,3,1,0⟩,⟨q2 17 108 13 16,4,3,0⟩,⟨no 18 17,5,0,1⟩]) (I 18 (D [⟨l 19 1 3,0,1,0⟩,⟨m 20 5,1,0,0⟩,⟨z 21 20,2,0,0⟩,⟨l 22 1 21,3,1,0⟩,⟨e 23 (.buildSlice 1 [i 0] 1 [(0,1,t 22)]),4,0,0⟩,⟨ap 24 1 19 23,5,3,0⟩,⟨st 1 3 24,6,3,1⟩]))),[]⟩
theorem SV:P 1001409=some Gdx:=by kernel_rfl
end Go.Cs.Tryz
namespace Go.Cs
open Go
def only(lb:Nat):Tags:=fun c=>if c=lb then some z3 else none
theorem JN{lb c:Nat}{t:Tag}:only lb c=some t↔c=lb∧t=z3:=by
 unfold only
 split
 ·simp[*,eq_comm]
 ·simp[*]
theorem At.il{o:Tags}{t:Tag}{H:Gb}{v:CV}{e n:Nat}{cs:List CV}(h:At o t H v e n cs):At (Loc 0) z3 H v e n cs:=by
 rcases h with h|⟨b,tl,h0,h1,h2,h3⟩
 ·exact .inl h
 ·exact .inr ⟨b,tl,h0,Gn.2 ⟨Nat.zero_le _,rfl⟩,h2,h3⟩
def QT(acc:List Int)(x:Nat×Nat×Int):List Int:=if x.2.2∈acc then acc else acc++[x.2.2]
def Jc(D:List (Nat×Nat×Int)):List Int:=D.foldl QT []
theorem Xr(acc:List Int)(x:Nat×Nat×Int):(QT acc x).length≤acc.length+1:=by
 unfold QT
 split
 ·omega
 ·simp
theorem Qv(D:List (Nat×Nat×Int)):(Jc D).length≤D.length:=by
 have key:∀(D:List (Nat×Nat×Int))(acc:List Int),(D.foldl QT acc).length≤acc.length+D.length:=fun D=>by
  induction D with
  |nil=>intro acc;simp
  |cons x D ih=>
   intro acc
   rw[List.foldl_cons]
   have:=ih (QT acc x)
   have:=Xr acc x
   simp only[List.length_cons]
   omega
 have:=key D []
 simpa[Jc]using this
theorem Vz{D:List (Nat×Nat×Int)}{v:Int}:v∈Jc D↔∃x∈D,x.2.2=v:=by
 have key:∀(D:List (Nat×Nat×Int))(acc:List Int),v∈D.foldl QT acc↔v∈acc∨∃x∈D,x.2.2=v:=fun D=>by
  induction D with
  |nil=>intro acc;simp
  |cons x D ih=>
   intro acc
   rw[List.foldl_cons,ih]
   have h1:v∈QT acc x↔v∈acc∨x.2.2=v:=by
    unfold QT
    split
    ·rename_i c
     exact⟨fun h=>.inl h,fun h=>by rcases h with h|h;exact h;rw[←h];exact c⟩
    ·simp[eq_comm]
   rw[h1]
   simp[or_assoc]
 have:=key D []
 simpa[Jc]using this
theorem YE(D:List (Nat×Nat×Int))(x:Nat×Nat×Int):Jc (D++[x])=QT (Jc D) x:=by simp[Jc]
theorem Rt.Im{R:Rt}{v:Int}:(∃x∈R.vis,x.2.2=v)↔v∈R.vals∧v≠0:=by
 have h1:∀l:Nat,(∃x∈KY l (R.li l),x.2.2=v)↔v∈R.li l∧v≠0:=fun l=>by
  constructor
  ·rintro ⟨x,hx,rfl⟩
   obtain⟨-,h2,h3⟩:=DK.1 hx
   exact⟨JX h2,h3⟩
  ·rintro ⟨h2,h3⟩
   obtain⟨i,hi⟩:=List.mem_iff_getElem?.1 h2
   exact⟨(l,i,v),DK.2 ⟨rfl,hi,h3⟩,rfl⟩
 have h2:(∃x∈R.vis,x.2.2=v)↔(∃x∈KY 0 (R.li 0),x.2.2=v)∨(∃x∈KY 1 (R.li 1),x.2.2=v)∨(∃x∈KY 2 (R.li 2),x.2.2=v):=by
  unfold Rt.vis
  constructor
  ·rintro ⟨x,hx,he⟩
   simp only[NG]at hx
   rcases hx with h|h|h
   ·exact .inl ⟨x,h,he⟩
   ·exact .inr (.inl ⟨x,h,he⟩)
   ·exact .inr (.inr ⟨x,h,he⟩)
  ·rintro (⟨x,h,he⟩|⟨x,h,he⟩|⟨x,h,he⟩)
   ·exact⟨x,by simp[h],he⟩
   ·exact⟨x,by simp[h],he⟩
   ·exact⟨x,by simp[h],he⟩
 rw[h2,h1,h1,h1]
 simp only[Rt.vals,Rt.li,NG]
 constructor
 ·rintro (⟨h,h'⟩|⟨h,h'⟩|⟨h,h'⟩)
  ·exact⟨.inl h,h'⟩
  ·exact⟨.inr (.inl h),h'⟩
  ·exact⟨.inr (.inr h),h'⟩
 ·rintro ⟨h|h|h,h'⟩
  ·exact .inl ⟨h,h'⟩
  ·exact .inr (.inl ⟨h,h'⟩)
  ·exact .inr (.inr ⟨h,h'⟩)
theorem Rt.Ok.Vs{R:Rt}(k:R.Ok):R.vis.length≤144:=by
 have h0:=I_ 0 (R.li 0)
 have h1:=I_ 1 (R.li 1)
 have h2:=I_ 2 (R.li 2)
 have e0:(R.li 0).length=16*R.slots.length:=k.KG
 have e1:(R.li 1).length=16:=k.g16
 have e2:(R.li 2).length≤64:=k.Xe
 have hns:=k.ns
 unfold Rt.vis
 simp only[Nq]
 omega
end Go.Cs
namespace Go.Cs.Tryz
open Go Go.Cs
section
variable {H : Gb} {o : Tags} {rb : Nat} {R : Rt} {v : Nat → CV}
def GdR(b w:Nat)(ps env:List CV)(D:List (Nat×Nat×Int))(W:Nat→Prop)(H:Gb):Prop:=
 ∃lb lv,H[b]?=some (Jk 0 ps env 1408)∧H[w]?=some ⟨[lv],.rw,0⟩∧b≠w∧lb≠b∧lb≠w∧At (only lb) z3 H lv 1 (Jc D).length (ints (Jc D))∧∀c,W c↔c=b∨c=w∨c=lb
theorem Gd1{b w:Nat}{env:List CV}(he:env.length=26)(h3:entry env 3=.ptr w 0)(k:R.Ok):Yields b v R (GdR b w [.i 11,.i 12] env) where
 gr:=fun D W H' Eo=>by
  rintro ⟨lb,lv,h1,h2,h3,h4,h5,h6,h7⟩ g
  exact⟨lb,lv,g.get h1,g.get h2,h3,h4,h5,At.keeps h6 g,h7⟩
 go:=fun D W H' x=>by
  rintro ⟨lb,lv,h1,h2,h3',h4,h5,h6,h7⟩ hx hp hl
  have hn:(Jc D).length≤144:=by
   have h8:=Qv D
   have h9:=hp.length_le
   have:=k.Vs
   simp only[Nq,List.length_cons,List.length_nil]at h9
   omega
  have r0:run P (1000000+1408) (U0 env [.i 11,.i 12] [.agg (Qg x),.ptr (Gp (v x.1)) x.2.1]) H'=some (.Ju ((List.range 26).map ((entry ((env.set 11 (.agg (Qg x))).set 12 (.ptr (Gp (v x.1)) x.2.1))).upd 5 (.ptr (Gp (v x.1)) x.2.1))),H'):=by
   rw[show(1000000+1408:Nat)=1001408 from rfl,Gbo GdF _ _ (by simp[U0,he])]
   rw[show U0 env [.i 11,.i 12] [.agg (Qg x),.ptr (Gp (v x.1)) x.2.1]=(env.set 11 (.agg (Qg x))).set 12 (.ptr (Gp (v x.1)) x.2.1)from rfl]
   have e12:entry ((env.set 11 (.agg (Qg x))).set 12 (.ptr (Gp (v x.1)) x.2.1)) 12=.ptr (Gp (v x.1)) x.2.1:=by rw[QX,if_pos rfl,if_pos (by rw[List.length_set];omega)]
   simp(disch:=first|exact dz|fail) only[simprocAttr,Gc,↓reduceIte,Gic,e12]
  obtain⟨e1,he1⟩:∃e1,e1=(List.range 26).map ((entry ((env.set 11 (.agg (Qg x))).set 12 (.ptr (Gp (v x.1)) x.2.1))).upd 5 (.ptr (Gp (v x.1)) x.2.1)):=⟨_,rfl⟩
  rw[←he1]at r0
  have q3:entry e1 3=.ptr w 0:=by
   rw[he1,UD,if_pos oM]
   simp only[Gg,Nat.reduceEqDiff,↓reduceIte]
   rw[QX,if_neg oM,QX,if_neg oM,h3]
  have q5:entry e1 5=.ptr (Gp (v x.1)) x.2.1:=by
   rw[he1,UD,if_pos oM]
   simp only[Gg,Nat.reduceEqDiff,↓reduceIte]
  have le1:e1.length≤26:=by rw[he1];simp
  obtain⟨X,hX⟩:∃X:Gb,X=H'.set b (Jk 1 [.i 11,.i 12] env 1408):=⟨_,rfl⟩
  have hbl:=Gd h1
  have xb:X[b]?=some (Jk 1 [.i 11,.i 12] env 1408):=by rw[hX,KI hbl]
  have xo:∀c,c≠b→X[c]?=H'[c]?:=fun c hc=>by rw[hX,JU (Ne.symm hc)]
  have xw:X[w]?=some ⟨[lv],.rw,0⟩:=by rw[xo w (Ne.symm h3'),h2]
  have xl:ld X[Gp (v x.1)]? x.2.1=some (.i x.2.2):=by
   by_cases c:Gp (v x.1)=b
   ·rw[c,h1]at hl;cases hl
   ·rw[xo _ c,hl]
  have x6:At (only lb) z3 X lv 1 (Jc D).length (ints (Jc D)):=h6.frame (fun _ h=>h) fun c h=>by rw[JN]at h;rw[xo c (by rw[h.1];exact h4)]
  have hcon:=contains (IL.sl (At.il x6)) x.2.2 oM
  have hany:((Jc D).any fun y=>x.2.2==y)=decide (x.2.2∈Jc D):=by
   rw[Bool.eq_iff_iff,List.any_eq_true,decide_eq_true_iff]
   exact⟨fun⟨y,hy,he⟩=>by rw[beq_iff_eq]at he;rw[he];exact hy,fun h=>⟨_,h,sM⟩⟩
  rw[hany]at hcon
  have rr:RB+1408+1=1001409:=rfl
  have lX:X.length=H'.length:=by rw[hX,List.length_set]
  by_cases hc:x.2.2∈Jc D
  ·have r1:run P (RB+1408+1) e1 X=some (.i 0,X):=by
    rw[rr,RY SV _ _ le1]
    simp(disch:=first|exact dz|fail) only[simprocAttr,Gc,↓reduceIte,q3,q5,xw,xl,hcon,hc,W9]
   have hy:=LU (F:=run P) (args:=[.agg (Qg x),.ptr (Gp (v x.1)) x.2.1]) h1 rfl r0 h1 (by rw[←hX];exact r1) xb
   refine⟨W,_,hy,⟨lb,lv,by rw[KI oM],by rw[JU h3',xw],h3',h4,h5,?_,h7⟩,⟨by rw[List.length_set];omega,fun c hc hn=>?_⟩,fun c h=>.inl h⟩
   ·rw[YE,QT,if_pos hc]
    exact x6.frame (fun _ h=>h) fun c h=>by rw[JN]at h;rw[JU (by rw[h.1];exact Ne.symm h4)]
   ·have hb:c≠b:=fun h=>hn ((h7 c).2 (.inl h))
    rw[JU (Ne.symm hb),xo c hb]
  ·obtain⟨X3,Bd⟩:∃X3:Gb,X3=X++[⟨[.i x.2.2],.rw,1⟩]:=⟨_,rfl⟩
   have g3:Gr X X3:=by rw[Bd];exact Gr.app _ _
   have l3:X3.length=X.length+1:=by rw[Bd];simp
   have lbn:lb=H'.length→(Jc D).length=0:=fun h=>by
    rcases x6 with h8|⟨c,f,-,h9,h10,-⟩
    ·exact h8.1
    ·rw[JN]at h9;have:=Gd h10;omega
   obtain⟨X4,a1,a2,a3,a4⟩:=At.append (At.keeps x6 g3) (k:=1) (new:=[.i x.2.2]) oM (by unfold JG;omega) (by simp[Gq]) rfl
   have lwb:=Gd h2
   have t3w:X3[w]?=some ⟨[lv],.rw,0⟩:=g3.get xw
   have a4':∀c,c<X3.length→c≠lb→X4[c]?=X3[c]?:=fun c hc hn=>a4 c hc fun h=>by rw[JN]at h;exact hn h.1
   have t4w:X4[w]?=some ⟨[lv],.rw,0⟩:=by rw[a4' w oM (Ne.symm h5),t3w]
   have t4b:X4[b]?=some (Jk 1 [.i 11,.i 12] env 1408):=by rw[a4' b oM (Ne.symm h4),g3.get xb]
   have hel:elems X3 1 (.slice X.length 0 1 1 1 false)=some (1,[.i x.2.2]):=by
    rw[JC oM,Bd]
    simp(disch:=first|exact dz|fail) only[simprocAttr,Gc,↓reduceIte,JW]
   obtain⟨X5,Sk⟩:∃X5:Gb,X5=X4.set w ⟨[.slice X3.length 0 ((Jc D).length+1) ((Jc D).length+1) 1 true],.rw,0⟩:=⟨_,rfl⟩
   have l5:X5.length=X4.length:=by rw[Sk,List.length_set]
   have t5b:X5[b]?=some (Jk 1 [.i 11,.i 12] env 1408):=by rw[Sk,JU (Ne.symm h3'),t4b]
   have t5w:X5[w]?=some ⟨[.slice X3.length 0 ((Jc D).length+1) ((Jc D).length+1) 1 true],.rw,0⟩:=by rw[Sk,KI oM]
   have r1:run P (RB+1408+1) e1 X=some (.i 0,X5):=by
    rw[rr,RY SV _ _ le1]
    simp(disch:=first|exact dz|fail) only[simprocAttr,Gc,↓reduceIte,q3,q5,xw,xl,hcon,hc,W9,fill,splice,and_self]
    rw[←Bd]
    simp(disch:=first|exact dz|fail) only[simprocAttr,Gc,↓reduceIte,t3w,hel,Ja,a1,t4w,q3,W9]
    rw[←Sk]
   have hy:=LU (F:=run P) (args:=[.agg (Qg x),.ptr (Gp (v x.1)) x.2.1]) h1 rfl r0 h1 (by rw[←hX];exact r1) t5b
   have e5:Jc (D++[x])=Jc D++[x.2.2]:=by rw[YE,QT,if_neg hc]
   refine⟨fun c=>c=b∨c=w∨c=X3.length,_,hy,⟨X3.length,_,by rw[KI oM],by rw[JU h3',t5w],h3',oM,oM,?_,fun c=>Iff.rfl⟩,⟨by rw[List.length_set];omega,fun c hc hn=>?_⟩,fun c h=>?_⟩
   ·rw[e5]
    refine .inr ⟨X3.length,true,sM,JN.2 ⟨rfl,rfl⟩,?_,by simp[ints]⟩
    rw[JU oM,Sk,JU oM,a3,UZ]
    rfl
   ·have hb:c≠b:=fun h=>hn ((h7 c).2 (.inl h))
    have hw:c≠w:=fun h=>hn ((h7 c).2 (.inr (.inl h)))
    have hlb:c≠lb:=fun h=>hn ((h7 c).2 (.inr (.inr h)))
    rw[JU (Ne.symm hb),Sk,JU (Ne.symm hw),a4' c oM hlb,g3.keep c oM fun h=>h,xo c hb]
   ·rcases h with h|h|h
    ·exact .inl ((h7 c).2 (.inl h))
    ·exact .inl ((h7 c).2 (.inr (.inl h)))
    ·exact .inr oM
end
end Go.Cs.Tryz
namespace Go.Cs.Tryz
open Go Go.Cs A
def C44:Gm:=⟨26,0,T [e 2 (.K7 (c .Gf))] (S (T [m 6 0,q1 7 134 6,no 8 7] (I 8 (Q [e 2 (.K7 (c .Gf))]))) (T [e 3 (.new [.Gf])] (S (T [m 9 0,q1 10 135 9] (B 0 (.Qb (t 10) [11,12] 26 1408))) (Q [l 25 1 3,m 2 25])))),[r 2]⟩
theorem c44:P 44=some C44:=by kernel_rfl
def Gp6:Gm:=⟨4,0,T [bo 1 0,e 2 (.K7 (c .nilFunc))] (Q [e 3 (.NY 224 [t 1]),m 2 3]),[r 2]⟩
theorem Gl4:P 135=some Gp6:=by kernel_rfl
def GpC:Gm:=⟨17,0,T [e 2 (.K7 (c .Gf))] (S (T [m 5 0,q1 6 134 5,no 7 6] (I 7 (Q [e 2 (.K7 (c .Gf))]))) (T [e 3 (.new [.Gf])] (S (T [m 8 0,q1 9 135 8] (B 0 (.Qb (t 9) [10,11] 17 5344))) (Q [l 16 1 3,m 2 16])))),[r 2]⟩
theorem c167:P 167=some GpC:=by kernel_rfl
def GeO:Gm:=⟨17,1,R [e 4 (.new [i 0,i 0,i 0]),st 3 4 10],[]⟩
theorem GfD:P 1005344=some GeO:=by kernel_rfl
def GdT:Gm:=⟨17,2,B 1 (R [l 12 1 3,lg 13 3 4,e 14 (.buildSlice 3 [i 0,i 0,i 0] 1 [(0,3,t 13)]),ap 15 3 12 14,st 1 3 15]),[]⟩
theorem Gee:P 1005345=some GdT:=by kernel_rfl
end Go.Cs.Tryz
namespace Go.Cs
open Go
def YI(D:List (Nat×Nat×Int)):List CV:=(D.map Qg).flatten
theorem Dy(x:Nat×Nat×Int):(Qg x).length=3:=by unfold Qg;split<;>rfl
theorem I5(D:List (Nat×Nat×Int)):(YI D).length=D.length*3:=by
 induction D with
 |nil=>rfl
 |cons x D ih=>simp only[YI,List.map_cons,List.flatten_cons,Nq,Dy,List.length_cons]at ih⊢;omega
theorem WJ(D D2:List (Nat×Nat×Int)):YI (D++D2)=YI D++YI D2:=by simp[YI]
theorem Wy(x:Nat×Nat×Int):(Qg x).all leaf=true:=by unfold Qg;split<;>simp[Gq]
end Go.Cs
namespace Go.Cs.Tryz
open Go Go.Cs
section
variable {H : Gb} {o : Tags} {rb : Nat} {R : Rt} {v : Nat → CV}
def Gda(b w:Nat)(ps env:List CV)(D:List (Nat×Nat×Int))(W:Nat→Prop)(H:Gb):Prop:=
 ∃lb lv,H[b]?=some (Jk 0 ps env 5344)∧H[w]?=some ⟨[lv],.rw,0⟩∧b≠w∧lb≠b∧lb≠w∧At (only lb) z3 H lv 3 D.length (YI D)∧∀c,W c↔c=b∨c=w∨c=lb
theorem GbE{b w:Nat}{env:List CV}(he:env.length=17)(h3:entry env 3=.ptr w 0)(k:R.Ok):Yields b v R (Gda b w [.i 10,.i 11] env) where
 gr:=fun D W H' Eo=>by
  rintro ⟨lb,lv,h1,h2,h3,h4,h5,h6,h7⟩ g
  exact⟨lb,lv,g.get h1,g.get h2,h3,h4,h5,At.keeps h6 g,h7⟩
 go:=fun D W H' x=>by
  rintro ⟨lb,lv,h1,h2,h3',h4,h5,h6,h7⟩ hx hp hl
  have hn:D.length≤144:=by
   have h9:=hp.length_le
   have:=k.Vs
   simp only[Nq,List.length_cons,List.length_nil]at h9
   omega
  obtain⟨Y,hY⟩:∃Y:Gb,Y=H'++[⟨Qg x,.rw,0⟩]:=⟨_,rfl⟩
  have gY:Gr H' Y:=by rw[hY];exact Gr.app _ _
  have lY:Y.length=H'.length+1:=by rw[hY];simp
  have tY:Y[H'.length]?=some ⟨Qg x,.rw,0⟩:=by rw[hY];simp
  have r0:run P (1000000+5344) (U0 env [.i 10,.i 11] [.agg (Qg x),.ptr (Gp (v x.1)) x.2.1]) H'=some (.Ju ((List.range 17).map ((entry ((env.set 10 (.agg (Qg x))).set 11 (.ptr (Gp (v x.1)) x.2.1))).upd 4 (.ptr H'.length 0))),Y):=by
   rw[show(1000000+5344:Nat)=1005344 from rfl,Gbo GfD _ _ (by simp[U0,he])]
   rw[show U0 env [.i 10,.i 11] [.agg (Qg x),.ptr (Gp (v x.1)) x.2.1]=(env.set 10 (.agg (Qg x))).set 11 (.ptr (Gp (v x.1)) x.2.1)from rfl]
   have e10:entry ((env.set 10 (.agg (Qg x))).set 11 (.ptr (Gp (v x.1)) x.2.1)) 10=.agg (Qg x):=by rw[QX,if_neg oM,QX,if_pos rfl,if_pos oM]
   have hpl:∃p0 p1 p2,Qg x=[.i p0,.i p1,.i p2]:=by unfold Qg;split<;>exact⟨_,_,_,rfl⟩
   obtain⟨p0,p1,p2,hpl⟩:=hpl
   generalize entry ((env.set 10 (.agg (Qg x))).set 11 (.ptr (Gp (v x.1)) x.2.1))=EV at e10⊢
   rw[hpl]at e10 hY
   simp(disch:=first|exact dz|fail) only[simprocAttr,Gc,↓reduceIte,Gic,e10]
   rw[←hY]
  obtain⟨e1,he1⟩:∃e1,e1=(List.range 17).map ((entry ((env.set 10 (.agg (Qg x))).set 11 (.ptr (Gp (v x.1)) x.2.1))).upd 4 (.ptr H'.length 0)):=⟨_,rfl⟩
  rw[←he1]at r0
  have q3:entry e1 3=.ptr w 0:=by
   rw[he1,UD,if_pos oM]
   simp only[Gg,Nat.reduceEqDiff,↓reduceIte]
   rw[QX,if_neg oM,QX,if_neg oM,h3]
  have q4:entry e1 4=.ptr H'.length 0:=by
   rw[he1,UD,if_pos oM]
   simp only[Gg,Nat.reduceEqDiff,↓reduceIte]
  have le1:e1.length≤17:=by rw[he1];simp
  obtain⟨X,hX⟩:∃X:Gb,X=Y.set b (Jk 1 [.i 10,.i 11] env 5344):=⟨_,rfl⟩
  have hbl:=Gd h1
  have y1:=gY.get h1
  have xb:X[b]?=some (Jk 1 [.i 10,.i 11] env 5344):=by rw[hX,KI oM]
  have xo:∀c,c≠b→X[c]?=Y[c]?:=fun c hc=>by rw[hX,JU (Ne.symm hc)]
  have xw:X[w]?=some ⟨[lv],.rw,0⟩:=by rw[xo w (Ne.symm h3'),gY.get h2]
  have xp:X[H'.length]?=some ⟨Qg x,.rw,0⟩:=by rw[xo _ oM,tY]
  have x6:At (only lb) z3 X lv 3 D.length (YI D):=(At.keeps h6 gY).frame (fun _ h=>h) fun c h=>by rw[JN]at h;rw[xo c (by rw[h.1];exact h4)]
  have rr:RB+5344+1=1005345:=rfl
  have lX:X.length=Y.length:=by rw[hX,List.length_set]
  obtain⟨X3,Bd⟩:∃X3:Gb,X3=X++[⟨Qg x,.rw,3⟩]:=⟨_,rfl⟩
  have g3:Gr X X3:=by rw[Bd];exact Gr.app _ _
  have l3:X3.length=X.length+1:=by rw[Bd];simp
  obtain⟨X4,a1,a2,a3,a4⟩:=At.append (At.keeps x6 g3) (k:=1) (new:=Qg x) oM (by unfold JG;omega) (Wy x) (Dy x)
  have lwb:=Gd h2
  have t3w:X3[w]?=some ⟨[lv],.rw,0⟩:=g3.get xw
  have a4':∀c,c<X3.length→c≠lb→X4[c]?=X3[c]?:=fun c hc hn=>a4 c hc fun h=>by rw[JN]at h;exact hn h.1
  have t4w:X4[w]?=some ⟨[lv],.rw,0⟩:=by rw[a4' w oM (Ne.symm h5),t3w]
  have t4b:X4[b]?=some (Jk 1 [.i 10,.i 11] env 5344):=by rw[a4' b oM (Ne.symm h4),g3.get xb]
  have hel:elems X3 3 (.slice X.length 0 1 1 3 false)=some (1,Qg x):=by
   have hpl:∃p0 p1 p2,Qg x=[.i p0,.i p1,.i p2]:=by unfold Qg;split<;>exact⟨_,_,_,rfl⟩
   obtain⟨p0,p1,p2,hpl⟩:=hpl
   rw[hpl]at Bd⊢
   rw[JC oM,Bd]
   simp(disch:=first|exact dz|fail) only[simprocAttr,Gc,↓reduceIte,JW]
  obtain⟨X5,Sk⟩:∃X5:Gb,X5=X4.set w ⟨[.slice X3.length 0 (D.length+1) (D.length+1) 3 true],.rw,0⟩:=⟨_,rfl⟩
  have l5:X5.length=X4.length:=by rw[Sk,List.length_set]
  have t5b:X5[b]?=some (Jk 1 [.i 10,.i 11] env 5344):=by rw[Sk,JU (Ne.symm h3'),t4b]
  have t5w:X5[w]?=some ⟨[.slice X3.length 0 (D.length+1) (D.length+1) 3 true],.rw,0⟩:=by rw[Sk,KI oM]
  have r1:run P (RB+5344+1) e1 X=some (.i 0,X5):=by
   rw[rr,RY Gee _ _ le1]
   have hpl:∃p0 p1 p2,Qg x=[.i p0,.i p1,.i p2]:=by unfold Qg;split<;>exact⟨_,_,_,rfl⟩
   obtain⟨p0,p1,p2,hpl⟩:=hpl
   rw[hpl]at hel xp Bd a1
   simp(disch:=first|exact dz|fail) only[simprocAttr,Gc,↓reduceIte,q3,q4,xw,xp,W9,fill,splice,and_self]
   rw[←Bd]
   simp(disch:=first|exact dz|fail) only[simprocAttr,Gc,↓reduceIte,t3w,hel,Ja,a1,t4w,q3,W9]
   rw[←Sk]
  have hy:=LU (F:=run P) (args:=[.agg (Qg x),.ptr (Gp (v x.1)) x.2.1]) h1 rfl r0 y1 (by rw[←hX];exact r1) t5b
  refine⟨fun c=>c=b∨c=w∨c=X3.length,_,hy,⟨X3.length,_,by rw[KI oM],by rw[JU h3',t5w],h3',oM,oM,?_,fun c=>Iff.rfl⟩,⟨by rw[List.length_set];omega,fun c hc hn=>?_⟩,fun c h=>?_⟩
  ·refine .inr ⟨X3.length,true,sM,JN.2 ⟨rfl,rfl⟩,?_,by rw[I5]⟩
   rw[JU oM,Sk,JU oM,a3,WJ]
   simp[YI]
  ·have hb:c≠b:=fun h=>hn ((h7 c).2 (.inl h))
   have hw:c≠w:=fun h=>hn ((h7 c).2 (.inr (.inl h)))
   have hlb:c≠lb:=fun h=>hn ((h7 c).2 (.inr (.inr h)))
   rw[JU (Ne.symm hb),Sk,JU (Ne.symm hw),a4' c oM hlb,g3.keep c oM fun h=>h,xo c hb,gY.keep c hc fun h=>h]
  ·rcases h with h|h|h
   ·exact .inl ((h7 c).2 (.inl h))
   ·exact .inl ((h7 c).2 (.inr (.inl h)))
   ·exact .inr oM
theorem GgU{X:Gb}{k0 w bx:Nat}(m:K9 o X rb R v)(k:R.Ok)(hk0:k0≤w∧k0≤X.length)(hw:o w=none)(tw:X[w]?=some ⟨[.Gf],.rw,0⟩) (tx:X[bx]?=some ⟨[.ptr rb 0],.rw,0⟩)
  {E0:Env} (e3:E0 3=.ptr w 0) (e10:E0 10=.func 224 [.ptr bx 0]) {r:Option (CX×Env×Gb)} (hr:den P (.Qb (.tmp 10) [11,12] 26 1408) E0 X=r):
  ∃X' lv,r=some (.normal,E0,X')∧Keeps X X' (fun c=>c=w)∧X'[w]?=some ⟨[lv],.rw,0⟩∧IL k0 X' lv (Jc R.vis):=by
 obtain⟨H1,hH1⟩:∃H1:Gb,H1=X++[Jk 0 [.i 11,.i 12] ((List.range 26).map E0) 1408]:=⟨_,rfl⟩
 have g1:Gr X H1:=by rw[hH1];exact Gr.app _ _
 have l1:H1.length=X.length+1:=by rw[hH1];simp
 have t1:H1[X.length]?=some (Jk 0 [.i 11,.i 12] ((List.range 26).map E0) 1408):=by rw[hH1];simp
 have hwl:=Gd tw
 have he3:entry ((List.range 26).map E0) 3=.ptr w 0:=by rw[UD,if_pos oM,e3]
 obtain⟨W,X2,h1,⟨lb,lv,i1,i2,i3,i4,i5,i6,i7⟩,h3,h4⟩:=Lm (W0:=fun c=>c=X.length∨c=w∨c=X.length+2) (m.gr g1) k (Gd1 (b:=X.length) (w:=w) sM he3 k)
  (fun c h=>⟨Jo fun hn=>by
   rcases h with h|h|h
   ·cases e:o c with
    |none=>exact hn e
    |some u=>have:=m.dom c u e;omega
   ·rw[h]at hn;exact hn hw
   ·cases e:o c with
    |none=>exact hn e
    |some u=>have:=m.dom c u e;omega,oM⟩)
  ⟨X.length+2,.Gf,t1,g1.get tw,oM,oM,oM,.inl ⟨rfl,rfl,.inl rfl⟩,fun c=>Iff.rfl⟩ (g1.get tx)
 have hd:=Ws (p:=P) (g:=.tmp 10) (ps:=[11,12]) (k:=26) (z:=1408) (E:=E0) (H:=X) (H':=X2) (by rw[Gao];exact e10) oM (by rw[←h1,hH1];rfl) i1
 have hl2:=h3.len
 refine⟨_,lv,hr.symm.trans hd,⟨by rw[List.length_set];omega,fun c hc hn=>?_⟩,?_,?_⟩
 ·rw[JU oM,h3.keep c oM oM,g1.keep c hc fun h=>h]
 ·rw[JU oM,i2]
 ·have hlb:k0≤lb:=by
   rcases h4 lb ((i7 lb).2 (.inr (.inr rfl)))with h|h
   ·omega
   ·omega
  exact i6.frame (fun c h=>by rw[JN]at h;exact Gn.2 ⟨oM,h.2.symm⟩) fun c h=>by rw[JN]at h;rw[JU oM]
theorem ZT(m:K9 o H rb R v)(k:R.Ok):∃w H',run P 44 [.ptr rb 0] H=some (w,H')∧Gr H H'∧IL H.length H' w (Jc R.vis):=by
 have h1:=QZ m k
 obtain⟨X,hX⟩:∃X:Gb,X=H++[⟨[.Gf],.rw,0⟩]++[⟨[.ptr rb 0],.rw,0⟩]:=⟨_,rfl⟩
 have gX:Gr H X:=by rw[hX];exact(Gr.app H _).app' _
 have lX:X.length=H.length+2:=by rw[hX];simp
 have tX:X[H.length]?=some ⟨[.Gf],.rw,0⟩:=by rw[hX];simp
 have tX2:X[H.length+1]?=some ⟨[.ptr rb 0],.rw,0⟩:=by rw[hX];simp
 have hal:run P 135 [.ptr rb 0] (H++[⟨[.Gf],.rw,0⟩])=some (.func 224 [.ptr (H.length+1) 0],X):=by
  rw[Gi Gl4 _ _ sM]
  simp(disch:=first|exact dz|fail) only[simprocAttr,Gc,↓reduceIte,Gv]
  rw[←hX]
 rw[Gi c44 _ _ sM]
 simp(disch:=first|exact dz|fail) only[simprocAttr,Gc,↓reduceIte,Gv,h1,hal]
 generalize hr:den P (.Qb _ _ _ _) _ _=r
 obtain⟨X2,lv,rfl,kp,t2,li⟩:=GgU (m.gr gX) k (k0:=H.length) (w:=H.length) oM (Jo fun hn=>by
  cases e:o H.length with
  |none=>exact hn e
  |some u=>have:=m.dom _ u e;omega) tX tX2 uA uA hr
 simp(disch:=first|exact dz|fail) only[simprocAttr,Gc,↓reduceIte,t2]
 refine⟨_,_,rfl,⟨by have:=kp.len;have:=gX.len;omega,fun c hc _=>?_⟩,li⟩
 rw[kp.keep c oM oM,gX.keep c hc fun h=>h]
theorem GdZ{X:Gb}{k0 w bx:Nat}(m:K9 o X rb R v)(k:R.Ok)(hk0:k0≤w∧k0≤X.length)(hw:o w=none)(tw:X[w]?=some ⟨[.Gf],.rw,0⟩) (tx:X[bx]?=some ⟨[.ptr rb 0],.rw,0⟩)
  {E0:Env} (e3:E0 3=.ptr w 0) (e10:E0 9=.func 224 [.ptr bx 0]) {r:Option (CX×Env×Gb)} (hr:den P (.Qb (.tmp 9) [10,11] 17 5344) E0 X=r):
  ∃X' lv,r=some (.normal,E0,X')∧Keeps X X' (fun c=>c=w)∧X'[w]?=some ⟨[lv],.rw,0⟩∧At (Loc k0) z3 X' lv 3 R.vis.length (YI R.vis):=by
 obtain⟨H1,hH1⟩:∃H1:Gb,H1=X++[Jk 0 [.i 10,.i 11] ((List.range 17).map E0) 5344]:=⟨_,rfl⟩
 have g1:Gr X H1:=by rw[hH1];exact Gr.app _ _
 have l1:H1.length=X.length+1:=by rw[hH1];simp
 have t1:H1[X.length]?=some (Jk 0 [.i 10,.i 11] ((List.range 17).map E0) 5344):=by rw[hH1];simp
 have hwl:=Gd tw
 have he3:entry ((List.range 17).map E0) 3=.ptr w 0:=by rw[UD,if_pos oM,e3]
 obtain⟨W,X2,h1,⟨lb,lv,i1,i2,i3,i4,i5,i6,i7⟩,h3,h4⟩:=Lm (W0:=fun c=>c=X.length∨c=w∨c=X.length+2) (m.gr g1) k (GbE (b:=X.length) (w:=w) sM he3 k)
  (fun c h=>⟨Jo fun hn=>by
   rcases h with h|h|h
   ·cases e:o c with
    |none=>exact hn e
    |some u=>have:=m.dom c u e;omega
   ·rw[h]at hn;exact hn hw
   ·cases e:o c with
    |none=>exact hn e
    |some u=>have:=m.dom c u e;omega,oM⟩)
  ⟨X.length+2,.Gf,t1,g1.get tw,oM,oM,oM,.inl ⟨rfl,rfl,.inl rfl⟩,fun c=>Iff.rfl⟩ (g1.get tx)
 have hd:=Ws (p:=P) (g:=.tmp 9) (ps:=[10,11]) (k:=17) (z:=5344) (E:=E0) (H:=X) (H':=X2) (by rw[Gao];exact e10) oM (by rw[←h1,hH1];rfl) i1
 have hl2:=h3.len
 refine⟨_,lv,hr.symm.trans hd,⟨by rw[List.length_set];omega,fun c hc hn=>?_⟩,?_,?_⟩
 ·rw[JU oM,h3.keep c oM oM,g1.keep c hc fun h=>h]
 ·rw[JU oM,i2]
 ·have hlb:k0≤lb:=by
   rcases h4 lb ((i7 lb).2 (.inr (.inr rfl)))with h|h
   ·omega
   ·omega
  exact i6.frame (fun c h=>by rw[JN]at h;exact Gn.2 ⟨oM,h.2.symm⟩) fun c h=>by rw[JN]at h;rw[JU oM]
theorem Rs(m:K9 o H rb R v)(k:R.Ok):∃w H',run P 167 [.ptr rb 0] H=some (w,H')∧Gr H H'∧At (Loc H.length) z3 H' w 3 R.vis.length (YI R.vis):=by
 have h1:=QZ m k
 obtain⟨X,hX⟩:∃X:Gb,X=H++[⟨[.Gf],.rw,0⟩]++[⟨[.ptr rb 0],.rw,0⟩]:=⟨_,rfl⟩
 have gX:Gr H X:=by rw[hX];exact(Gr.app H _).app' _
 have lX:X.length=H.length+2:=by rw[hX];simp
 have tX:X[H.length]?=some ⟨[.Gf],.rw,0⟩:=by rw[hX];simp
 have tX2:X[H.length+1]?=some ⟨[.ptr rb 0],.rw,0⟩:=by rw[hX];simp
 have hal:run P 135 [.ptr rb 0] (H++[⟨[.Gf],.rw,0⟩])=some (.func 224 [.ptr (H.length+1) 0],X):=by
  rw[Gi Gl4 _ _ sM]
  simp(disch:=first|exact dz|fail) only[simprocAttr,Gc,↓reduceIte,Gv]
  rw[←hX]
 rw[Gi c167 _ _ sM]
 simp(disch:=first|exact dz|fail) only[simprocAttr,Gc,↓reduceIte,Gv,h1,hal]
 generalize hr:den P (.Qb _ _ _ _) _ _=r
 obtain⟨X2,lv,rfl,kp,t2,li⟩:=GdZ (m.gr gX) k (k0:=H.length) (w:=H.length) oM (Jo fun hn=>by
  cases e:o H.length with
  |none=>exact hn e
  |some u=>have:=m.dom _ u e;omega) tX tX2 uA uA hr
 simp(disch:=first|exact dz|fail) only[simprocAttr,Gc,↓reduceIte,t2]
 refine⟨_,_,rfl,⟨by have:=kp.len;have:=gX.len;omega,fun c hc _=>?_⟩,li⟩
 rw[kp.keep c oM oM,gX.keep c hc fun h=>h]
end
end Go.Cs.Tryz
namespace Go.Cs.Tryz
open Go Go.Cs A
def MF:Gu:=S (T [m 27 6,m 28 5,le 29 28,b 30 .lss 27 29] (J 30 (X 0))) (S (B 1 (T [m 34 0,m 35 5,m 36 6,x 37 3 35 36,lg 38 3 37,q2 39 29 34 38,m 33 39,ex 40 33 0,ex 41 33 1,m 7 40,m 8 41] (R [m 42 3,m 43 5,m 44 6,x 45 3 43 44,lg 46 3 45,m 47 7,q3 48 160 42 46 47]))) (R [m 31 6,bk 32 .add 31 1,m 6 32]))
def C68:Gm:=⟨50,0,T [e 2 (.K7 (c .nilPtr))] (T [m 10 0,q1 11 130 10,q1 12 56 11,m 9 12,ex 13 9 0,ex 14 9 1,m 3 13,m 4 14] (S (T [m 15 4,bk 16 .neq 15 0] (I 16 (Q [e 17 (.build [.Gf,.Gf,.Gf] []),bo 18 17,m 2 18]))) (T [m 19 3,m 20 0,q1 21 166 20,q1 22 164 21,z 23 19,f 24 2 23,st 1 24 22] (T [m 25 0,q1 26 167 25,m 5 26] (S (T [n 6 0] (B 0 (W MF))) (Q [m 49 3,m 2 49])))))),[r 2]⟩
theorem c68:P 68=some C68:=by kernel_rfl
def Gog:Gm:=⟨11,0,T [e 2 (.K7 (c .Gf))] (S (T [m 3 0,q1 4 134 3,no 5 4] (I 5 (Q [e 2 (.K7 (c .Gf))]))) (Q [m 6 0,z 7 6,f 8 3 7,l 9 1 8,q1 10 245 9,m 2 10])),[r 2]⟩
theorem GpF:P 166=some Gog:=by kernel_rfl
def Gpm:Gm:=⟨8,0,T [e 2 (.K7 (c .Gf))] (S (T [m 3 0,e 4 (.eqv false 2 (t 3) (c .Gf))] (I 4 (Q [e 2 (.K7 (c .Gf))]))) (Q [e 5 (.buildSlice 1 [] 0 []),m 6 0,ap 7 1 5 6,m 2 7])),[r 2]⟩
theorem GlO:P 245=some Gpm:=by kernel_rfl
end Go.Cs.Tryz
namespace Go.Cs
open Go
structure Dc(R Q:Rt)(D:List (Nat×Nat×Int)):Prop where
 k:Q.Ok
 ns:Q.slots.length=R.slots.length
 ln:∀l,l≤2→(Q.li l).length=(R.li l).length
 at':∀l,l≤2→∀i y,(R.li l)[i]?=some y→(Q.li l)[i]?=some (if l=2∨(l,i,y)∈D then y else 0)
theorem Dc.all{R Q:Rt}(h:Dc R Q R.vis):∀l,l≤2→Q.li l=R.li l:=fun l hl=>by
 apply List.ext_getElem?
 intro i
 cases e:(R.li l)[i]? with
 |none=>
  rw[List.getElem?_eq_none_iff]at e
  rw[List.getElem?_eq_none_iff,h.ln l hl];exact e
 |some y=>
  rw[h.at' l hl i y e]
  by_cases c:y=0
  ·rw[c];simp
  ·have:(l,i,y)∈R.vis:=by
    have hv:(l,i,y)∈KY l (R.li l):=DK.2 ⟨rfl,e,c⟩
    unfold Rt.vis
    simp only[NG]
    match l,hl with
    |0,_=>exact .inl hv
    |1,_=>exact .inr (.inl hv)
    |2,_=>exact .inr (.inr hv)
   rw[if_pos (.inr this)]
theorem Dc.vals{R Q:Rt}(h:Dc R Q R.vis):Q.vals=R.vals:=by
 have h0:=h.all 0 oM
 have h1:=h.all 1 oM
 have h2:=h.all 2 oM
 simp only[Rt.li]at h0 h1 h2
 unfold Rt.vals
 rw[h0,h1,h2]
theorem Rt.Ok.GlA{R:Rt}(k:R.Ok){l i:Nat}(hl:l≤2){y:Int}(h:(R.li l)[i]?=some y):0≤y∧y≤9223372036854775807:=by
 have hm:=JX h
 match l,hl with
 |0,_=>
  obtain⟨x,hx,hy⟩:=List.mem_flatten.1 (show y∈R.slots.flatten from hm)
  exact k.vs x hx y hy
 |1,_=>exact k.vg y hm
 |2,_=>have:=k.vq y hm;omega
theorem Rt.Gan{R:Rt}{x:Nat×Nat×Int}(h:x∈R.vis):x.1≤2∧(R.li x.1)[x.2.1]?=some x.2.2∧x.2.2≠0:=by
 unfold Rt.vis at h
 simp only[NG]at h
 rcases h with h|h|h<;>
 ·obtain⟨h1,h2,h3⟩:=DK.1 h
  rw[←h1]at h2
  exact⟨oM,h2,h3⟩
theorem WB{D:List (Nat×Nat×Int)}{j:Nat}{x:Nat×Nat×Int}(h:D[j]?=some x):EZ (some (⟨YI D,.rw,3⟩:JI)) (j*3) 3=some (Qg x):=by
 have hj:=Gd h
 rw[Ug,if_pos (by rw[I5];omega)]
 congr 1
 induction D generalizing j with
 |nil=>cases h
 |cons y D ih=>
  cases j with
  |zero=>
   simp only[List.getElem?_cons_zero,Gx]at h
   subst h
   have:=Dy y
   simp only[YI,List.map_cons,List.flatten_cons,Nat.zero_mul,List.drop_zero]
   rw[List.take_append_of_le_length oM,NW oM]
  |succ j=>
   simp only[List.getElem?_cons_succ]at h
   have e:=Dy y
   simp only[YI,List.map_cons,List.flatten_cons]
   rw[List.drop_append,List.drop_eq_nil_of_le oM,List.nil_append,show(j+1)*3-(Qg y).length=j*3 by omega]
   exact ih h (Gd h)
def KQ(x:Nat×Nat×Int):Int×Int×Int:=if x.1=0 then(0,((x.2.1/16:Nat):Int),((x.2.1 % 16:Nat):Int))else((x.1:Int),0,(x.2.1:Int))
theorem XO(x:Nat×Nat×Int):Qg x=[.i (KQ x).1,.i (KQ x).2.1,.i (KQ x).2.2]:=by
 unfold Qg KQ
 split<;>rfl
theorem Rt.Ok.Ih{R:Rt}(k:R.Ok){x:Nat×Nat×Int}(hl:x.1≤2)(hi:x.2.1<(R.li x.1).length):R.loc (KQ x).1 (KQ x).2.1 (KQ x).2.2=some (x.1,x.2.1):=by
 obtain⟨l,i,y⟩:=x
 have hf:=k.KG
 match l,hl with
 |0,_=>
  have hi':i<R.flat.length:=hi
  rw[show KQ (0,i,y)=(0,((i/16:Nat):Int),((i % 16:Nat):Int))from rfl]
  unfold Rt.loc
  dsimp only
  rw[if_pos oM,if_pos oM,K6,K6]
  congr 2
  omega
 |1,_=>
  have hi':i<R.glob.length:=hi
  rw[show KQ (1,i,y)=(1,0,(i:Int))from rfl]
  unfold Rt.loc
  dsimp only
  rw[if_neg oM,if_pos oM,if_pos oM,K6]
 |2,_=>
  have hi':i<R.queue.length:=hi
  rw[show KQ (2,i,y)=(2,0,(i:Int))from rfl]
  unfold Rt.loc
  dsimp only
  rw[if_neg oM,if_neg oM,if_pos oM,if_pos oM,K6]
theorem Dc.step{R Q:Rt}{D:List (Nat×Nat×Int)}(h:Dc R Q D)(k:R.Ok){x:Nat×Nat×Int}(hx:x∈R.vis):Dc R (Q.set (KQ x).1 (KQ x).2.1 (KQ x).2.2 x.2.2).1 (D++[x]):=by
 obtain⟨h1,h2,h3⟩:=Rt.Gan hx
 obtain⟨h4,h5⟩:=k.GlA h1 h2
 have hi:=Gd h2
 have hloc:=h.k.Ih (x:=x) h1 (by rw[h.ln _ h1];exact hi)
 obtain⟨l1,l2,l3,l4⟩:=Rt.Bg h.k hloc
 have ok:=h.k.set (KQ x).1 (KQ x).2.1 (KQ x).2.2 x.2.2 h5
 have e:(Q.set (KQ x).1 (KQ x).2.1 (KQ x).2.2 x.2.2).1=Q.setAt (x.1,x.2.1) x.2.2:=by
  unfold Rt.set
  rw[hloc]
  dsimp only
  rw[if_neg oM]
 rw[e]at ok⊢
 have hli:=fun i hi=>Rt.LP h.k l2 l4 x.2.2 i hi
 refine⟨ok,?_,fun l hl=>?_,fun l hl i y hy=>?_⟩
 ·rw[←h.ns]
  unfold Rt.setAt
  split
  ·simp
  ·split<;>rfl
 ·rw[hli l hl]
  split
  ·rw[List.length_set,h.ln l hl]
  ·exact h.ln l hl
 ·rw[hli l hl]
  have h0:=h.at' l hl i y hy
  split
  ·rename_i c
   dsimp only at c⊢
   by_cases ci:i=x.2.1
   ·subst c ci
    rw[h2]at hy
    simp only[Gx]at hy
    subst hy
    rw[KI (by rw[h.ln _ h1];exact hi),if_pos (.inr sM)]
   ·rw[JU (Ne.symm ci),h0]
    congr 1
    have:(l,i,y)∈D++[x]↔(l,i,y)∈D:=by
     rw[NG,Uy]
     constructor
     ·rintro (h|h)
      ·exact h
      ·exact absurd (congrArg (fun z=>z.2.1) h) ci
     ·exact .inl
    simp only[this]
  ·rename_i c
   dsimp only at c
   rw[h0]
   congr 1
   have:(l,i,y)∈D++[x]↔(l,i,y)∈D:=by
    rw[NG,Uy]
    constructor
    ·rintro (h|h)
     ·exact h
     ·exact absurd (congrArg (fun z=>z.1) h) c
    ·exact .inl
   simp only[this]
theorem Dc.new{R:Rt}(k:R.Ok):Dc R {Rt.new R.slots.length with queue:=R.queue} [] where
 k:=by
  have h:=Rt.BI k.ns
  exact⟨h.ns,h.s16,h.g16,k.Xe,h.vs,h.vg,k.vq⟩
 ns:=by simp[Rt.new]
 ln:=fun l hl=>by
  have:=k.KG
  have:=k.g16
  match l,hl with
  |0,_=>show(List.replicate R.slots.length (List.replicate 16 (0:Int))).flatten.length=R.flat.length;rw[Yi,List.length_replicate];omega
  |1,_=>show(List.replicate 16 (0:Int)).length=R.glob.length;rw[List.length_replicate];omega
  |2,_=>rfl
 at':=fun l hl i y hy=>by
  have hi:=Gd hy
  have:=k.KG
  have:=k.g16
  match l,hl with
  |0,_=>
   have hi':i<R.flat.length:=hi
   show(List.replicate R.slots.length (List.replicate 16 (0:Int))).flatten[i]?=_
   rw[Yi,List.getElem?_replicate,if_pos oM]
   simp
  |1,_=>
   have hi':i<R.glob.length:=hi
   show(List.replicate 16 (0:Int))[i]?=_
   rw[List.getElem?_replicate,if_pos oM]
   simp
  |2,_=>
   rw[if_pos (.inl rfl)]
   exact hy
end Go.Cs
namespace Go.Cs.Tryz
open Go Go.Cs
section
variable {H : Gb} {o : Tags} {rb : Nat} {R : Rt} {v : Nat → CV}
theorem GbT{w:CV}{l:List Int}(h:LI H w l)(hl:l.length≤100000):∃v' H',run P 164 [w] H=some (v',H')∧Gr H H'∧IL H.length H' v' l:=by
 have he:elems (H++[⟨[],.rw,1⟩]) 1 w=some (l.length,ints l):=(h.gr (Gr.app H [⟨[],.rw,1⟩])).elems fun c hc=>rfl
 have h0:IL H.length (H++[⟨[],.rw,1⟩]) (.slice H.length 0 0 0 1 false) []:=.inl ⟨rfl,rfl,.inr ⟨_,_,rfl⟩⟩
 obtain⟨v',H1,a1,a2,a3⟩:=IL.cat h0 sM (l2:=l) (by simp;omega)
 refine⟨v',H1,?_,(Gr.app H _).news a3,a2⟩
 rw[Gi c164 _ _ sM]
 simp(disch:=first|exact dz|fail) only[simprocAttr,Gc,↓reduceIte,Gv,Ut,he,Ja,a1]
theorem slices_Clone{w:CV}{l:List Int}(h:LI H w l)(hl:l.length≤100000):∃v' H',run P 245 [w] H=some (v',H')∧Gr H H'∧IL H.length H' v' l:=by
 by_cases c:w=.Gf
 ·subst c
  have:l=[]:=by
   rcases h with h|⟨b,tl,h,-⟩
   ·exact Bo h.1
   ·cases h
  subst this
  refine⟨.Gf,H,?_,Keeps.refl _ _,IL.nil⟩
  rw[Gi GlO _ _ sM]
  simp(disch:=first|exact dz|fail) only[simprocAttr,Gc,↓reduceIte,Gv,show WZ false 2 .Gf .Gf H=some (.bool true,H)from rfl]
 ·have he:elems (H++[⟨[],.rw,1⟩]) 1 w=some (l.length,ints l):=(h.gr (Gr.app H [⟨[],.rw,1⟩])).elems fun c hc=>rfl
  have h0:IL H.length (H++[⟨[],.rw,1⟩]) (.slice H.length 0 0 0 1 false) []:=.inl ⟨rfl,rfl,.inr ⟨_,_,rfl⟩⟩
  obtain⟨v',H1,a1,a2,a3⟩:=IL.cat h0 sM (l2:=l) (by simp;omega)
  obtain⟨b,f,n,d,t,rfl⟩:∃b f n d t,w=.slice b f n d 1 t:=by
   rcases h with⟨-,-,rfl|⟨b,f,rfl⟩⟩|⟨b,tl,rfl,-⟩
   ·exact absurd rfl c
   ·exact⟨_,_,_,_,_,rfl⟩
   ·exact⟨_,_,_,_,_,rfl⟩
  refine⟨v',H1,?_,(Gr.app H _).news a3,a2⟩
  rw[Gi GlO _ _ sM]
  simp(disch:=first|exact dz|fail) only[simprocAttr,Gc,↓reduceIte,Gv,show WZ false 2 (.slice b f n d 1 t) .Gf H=some (.bool false,H)from rfl,Ut,he,Ja,a1]
theorem Wq(m:K9 o H rb R v)(k:R.Ok):∃v' H',run P 166 [.ptr rb 0] H=some (v',H')∧Gr H H'∧IL H.length H' v' R.queue:=by
 have h:=m.cells
 have h1:=QZ m k
 obtain⟨v',H',h2,h3,h4⟩:=slices_Clone (At.il (m.li 2 oM)) (by have:=k.Xe;show R.queue.length≤_;omega)
 refine⟨v',H',?_,h3,h4⟩
 rw[Gi GpF _ _ sM]
 simp(disch:=first|exact dz|fail) only[simprocAttr,Gc,↓reduceIte,Gv,h,h1,h2]
theorem Gcw{o2:Tags}{qb:Nat}{Q0:Rt}{L0:Zd}(m:K9 o H rb R v)(k:R.Ok)(m2:J_ o2 H qb Q0 L0)(c0:Dc R Q0 [])(hd:∀c,o c≠none→o2 c=none){w:CV}{k0:Nat}(hw:At (Loc k0) z3 H w 3 R.vis.length (YI R.vis))(hw2:∀c,k0≤c→o2 c=none)
  {E0:Env}(h0:E0 0=.ptr rb 0)(h3:E0 3=.ptr qb 0)(h5:E0 5=w)(h6:E0 6=.i 0){r:Option (CX×Env×Gb)}(hr:den P (.loop MF) E0 H=r):
  ∃E' H' o2' Q L',r=some (.exit 0,E',H')∧K_ o2 H o2' H'∧J_ o2' H' qb Q L'∧Dc R Q R.vis∧∀t,t∉wr MF→E' t=E0 t:=by
 have hvl:=k.Vs
 obtain⟨x',E',H',e,-,⟨rfl,o2',Q,L',q1,q2,q3⟩,fr⟩:=Gy (p:=P) (c:=MF) (E0:=E0) (H0:=H)
  (fun q E H'=>∃(j:Nat)(o2':Tags)(Q:Rt)(L':Zd),E 6=.i j∧j≤R.vis.length∧q=R.vis.length-j∧K_ o2 H o2' H'∧J_ o2' H' qb Q L'∧Dc R Q (R.vis.take j))
  (fun x' E' H'=>x'=.exit 0∧∃(o2':Tags)(Q:Rt)(L':Zd),K_ o2 H o2' H'∧J_ o2' H' qb Q L'∧Dc R Q R.vis) (by
   rintro q E H' hE ⟨j,o2',Q,L',e6,hj,rfl,g,m',cp⟩
   have e0:=(hE 0 dK).trans h0
   have e3:=(hE 3 dK).trans h3
   have e5:=(hE 5 dK).trans h5
   have hwl:=hw.len H'
   by_cases c:j<R.vis.length
   ·have c':decide ((j:Int)<(R.vis.length:Int))=true:=GK oM
    obtain⟨x,hx⟩:∃x,R.vis[j]?=some x:=⟨_,J9 c⟩
    have hxm:=JX hx
    obtain⟨y1,y2,y3⟩:=Rt.Gan hxm
    have hloc:=k.Ih (x:=x) y1 (Gd y2)
    obtain⟨tl,a1,a2,a3,a4⟩:=hw.pos oM
    have hwo:o2 (Gp w)=none:=hw2 _ (Gn.1 a2).1
    have m1:K9 o H' rb R v:=m.frame (fun c t h=>JH (m.dom c t h) g.len) (fun _ _ h=>h) fun c t h=>g.keep c (m.dom c t h) (hd c (by rw[h];simp))
    have O4:H'[Gp w]?=some ⟨YI R.vis,.rw,3⟩:=(g.keep _ (Gd a3) hwo).trans a3
    have ix:∀X,Kb 3 w (.i j) X=some (.ptr (Gp w) (j*3),X):=fun X=>by
     rw[a1];exact(if_pos oM).trans (by simp[Gp])
    have ldp:∀Y:Gb,Y[Gp w]?=some ⟨YI R.vis,.rw,3⟩→EZ Y[Gp w]? (j*3) 3=some [.i (KQ x).1,.i (KQ x).2.1,.i (KQ x).2.2]:=fun Y h=>by
     rw[h,←XO];exact WB hx
    have l1:=ldp _ O4
    obtain⟨X1,b1,g1⟩:=Gci m1 k (KQ x).1 (KQ x).2.1 (KQ x).2.2
    have hv:R.get (KQ x).1 (KQ x).2.1 (KQ x).2.2=(x.2.2,0):=by
     unfold Rt.get
     rw[hloc]
     dsimp only
     rw[Qc,y2];rfl
    rw[hv]at b1
    unfold Uj at b1
    have l2:=ldp X1 (g1.get O4)
    have m3:=m'.gr g1
    obtain⟨X2,o3,L3,b2,m4,g4⟩:=GaQ m3 cp.k (KQ x).1 (KQ x).2.1 (KQ x).2.2 x.2.2
    have cp2:=cp.step k hxm
    have w1:IntKind.i64.wrap ((j:Int)+1)=((j+1:Nat):Int):=Gh oM
    have htk:R.vis.take (j+1)=R.vis.take j++[x]:=by rw[QL,hx];rfl
    apply Gt (k':=R.vis.length-(j+1))
    ·simp(disch:=first|exact dz|fail) only[simprocAttr,Gc,↓reduceIte,MF,e0,e3,e5,e6,hwl,c',ix,l1,b1,l2,b2,w1]
     rfl
    ·omega
    ·exact⟨j+1,o3,_,L3,uA,oM,rfl,(g.trans (K_.gr g1)).trans g4,m4,by rw[htk];exact cp2⟩
   ·have c':decide ((j:Int)<(R.vis.length:Int))=false:=GC oM
    rw[NW oM]at cp
    apply Gl (x:=.exit 0)
    ·simp(disch:=first|exact dz|fail) only[simprocAttr,Gc,↓reduceIte,MF,e0,e3,e5,e6,hwl,c']
     rfl
    ·simp
    ·exact⟨rfl,o2',Q,L',g,m',cp⟩) _ ⟨0,o2,Q0,L0,h6,oM,rfl,⟨Nat.le_refl _,fun _ _=>rfl,fun _ _ _=>rfl⟩,m2,by simpa using c0⟩
 exact⟨E',H',o2',Q,L',hr.symm.trans e,q1,q2,q3,fr⟩
theorem HZ(m:K9 o H rb R v)(k:R.Ok):
  ∃qb H' o2 Q L,run P 68 [.ptr rb 0] H=some (.ptr qb 0,H')∧Gr H H'∧J_ o2 H' qb Q L∧Dc R Q R.vis∧∀c t,o2 c=some t→H.length≤c:=by
 have h1:=Zy m k
 obtain⟨qb,X1,o2,L2,h2,g1,m2,f2⟩:=GaR (H:=H) (R.slots.length:Int) (by have:=k.ns;omega)
 rw[K6]at m2
 have mX1:=m.gr g1
 obtain⟨v3,X2,h3,g2,il2⟩:=Wq mX1 k
 obtain⟨v4,X3,h4,g3,il3⟩:=GbT il2.li (by have:=k.Xe;omega)
 have g23:=g2.trans g3
 have m3:=m2.gr g23
 have t3:=m3.cells
 have hq0:=m3.dom _ _ m3.top
 obtain⟨X4,DL⟩:∃X4:Gb,X4=X3.set qb ⟨[L2.sv,L2.gv,v4],.rw,0⟩:=⟨_,rfl⟩
 have l4:X4.length=X3.length:=by rw[DL,List.length_set]
 have hqb:=m2.dom _ _ m2.top
 have e1:=g1.len
 have e2:=g2.len
 have e3:=g3.len
 have lf4:=At.leaf il3
 have il4:At (Loc X1.length) z3 X4 v4 1 R.queue.length (ints R.queue):=il3.frame (fun c h=>Gn.2 ⟨by have:=(Gn.1 h).1;omega,(Gn.1 h).2⟩) fun c h=>by
  have:=(Gn.1 h).1
  rw[DL,JU oM]
 obtain⟨o3,L3,m4,g4⟩:=J_.Dl m2 (Hf:=X4) (l:=R.queue) (w:=v4) il4 oM (by rw[DL,KI oM]) (fun d hd hn hr=>by
  rw[DL,JU (Ne.symm hr),g23.keep d hd fun h=>h])
 have g04:Gr H X4:=⟨oM,fun c hc _=>by
  rw[DL,JU (by rintro rfl;have:=f2 _ _ m2.top;omega),g23.keep c oM fun h=>h,g1.keep c hc fun h=>h]⟩
 have f3:∀c t,o3 c=some t→H.length≤c:=fun c t h=>by
  by_cases hc:c<X1.length
  ·rw[g4.tag c hc]at h;exact f2 c t h
  ·omega
 have mX4:=m.gr g04
 obtain⟨w,X5,h5,g5,hw⟩:=Rs mX4 k
 have mX5:=mX4.gr g5
 have m5:=m4.gr g5
 have Rj:OT X3 qb X3[qb]? 2 [v4]=some X4:=by
  rw[t3,ZM lf4 sM,DL]
  rfl
 rw[Gi c68 _ _ sM]
 simp(disch:=first|exact dz|fail) only[simprocAttr,Gc,↓reduceIte,Gv,h1,h2,h3,h4,Rj,h5]
 generalize hr:den P (.loop MF) _ _=r
 obtain⟨E',X6,o6,Q,L6,rfl,g6,m6,cp,fr⟩:=Gcw mX5 k m5 (Dc.new k) (fun c h=>Jo fun hn=>by
  cases e:o c with
  |none=>exact h e
  |some u=>cases e2:o3 c with
   |none=>exact hn e2
   |some u2=>have:=m.dom c u e;have:=f3 c u2 e2;omega) hw (fun c hc=>Jo fun hn=>by
   cases e:o3 c with
   |none=>exact hn e
   |some u=>have:=m4.dom c u e;omega) uA uA uA uA hr
 have a3:=fr 3 dK
 simp only[Gg,Nat.reduceEqDiff,↓reduceIte]at a3
 simp(disch:=first|exact dz|fail) only[simprocAttr,Gc,↓reduceIte,a3]
 have e5:=g5.len
 refine⟨qb,X6,o6,Q,L6,rfl,⟨by have:=g6.len;omega,fun c hc _=>?_⟩,m6,cp,fun c t h=>?_⟩
 ·rw[g6.keep c oM (Jo fun hn=>?_),g5.keep c oM fun h=>h,g04.keep c hc fun h=>h]
  cases e:o3 c with
  |none=>exact hn e
  |some u=>have:=f3 c u e;omega
 ·by_cases hc:c<X5.length
  ·rw[g6.tag c hc]at h;exact f3 c t h
  ·omega
end
end Go.Cs.Tryz
namespace Go.Cs.Tryz
open Go Go.Cs A
def Dh:Gu:=S (T [m 40 7,m 41 0,z 42 41,f 43 2 42,l 44 1 43,le 45 44,b 46 .lss 40 45] (J 46 (X 6))) (S (B 7 (R [m 49 3,m 50 7,e 51 (.build [i 0,i 0,i 0] [(0,1,k 2),(2,1,t 50)]),e 52 (.buildSlice 3 [i 0,i 0,i 0] 1 [(0,3,t 51)]),ap 53 3 49 52,m 3 53])) (R [m 47 7,bk 48 .add 47 1,m 7 48]))
def BD:Gu:=S (T [m 31 6,bk 32 .lss 31 16] (J 32 (X 4))) (S (B 5 (R [m 35 3,m 36 6,e 37 (.build [i 0,i 0,i 0] [(0,1,k 1),(2,1,t 36)]),e 38 (.buildSlice 3 [i 0,i 0,i 0] 1 [(0,3,t 37)]),ap 39 3 35 38,m 3 39])) (R [m 33 6,bk 34 .add 33 1,m 6 34]))
def BM:Gu:=S (T [m 21 5,bk 22 .lss 21 16] (J 22 (X 2))) (S (B 3 (R [m 25 3,m 26 4,m 27 5,e 28 (.build [i 0,i 0,i 0] [(0,1,k 0),(1,1,t 26),(2,1,t 27)]),e 29 (.buildSlice 3 [i 0,i 0,i 0] 1 [(0,3,t 28)]),ap 30 3 25 29,m 3 30])) (R [m 23 5,bk 24 .add 23 1,m 5 24]))
def Ad:Gu:=S (T [m 12 4,m 13 0,z 14 13,f 15 0 14,l 16 1 15,le 17 16,b 18 .lss 12 17] (J 18 (X 0))) (S (B 1 (T [n 5 0] (B 2 (W BM)))) (R [m 19 4,bk 20 .add 19 1,m 4 20]))
def Gpd:Gm:=⟨55,0,T [e 2 (.K7 (c .Gf))] (T [e 3 (.K7 (c .Gf))] (S (T [m 8 0,q1 9 217 8,no 10 9] (I 10 (Q [m 11 3,m 2 11]))) (S (T [n 4 0] (B 0 (W Ad))) (S (T [n 6 0] (B 4 (W BD))) (S (T [n 7 0] (B 6 (W Dh))) (Q [m 54 3,m 2 54])))))),[r 2]⟩
theorem GqC:P 246=some Gpd:=by kernel_rfl
end Go.Cs.Tryz
namespace Go.Cs
open Go
abbrev P3(k:Nat)(H:Gb)(v:CV)(D:List (Nat×Nat×Int)):Prop:=At (Loc k) z3 H v 3 D.length (YI D)
theorem P3.push{k:Nat}{H:Gb}{v:CV}{D:List (Nat×Nat×Int)}(h:P3 k H v D)(hk:k≤H.length)(hn:D.length≤100000){x:Nat×Nat×Int}{p:List CV}(hp:Qg x=p):
  ∃v' X,Jv (H++[⟨p,.rw,3⟩]) 3 v 1 p=some (v',X)∧P3 k X v' (D++[x])∧Keeps H X (fun c=>k≤c):=by
 subst hp
 have g:Gr H (H++[⟨Qg x,.rw,3⟩]):=Gr.app _ _
 obtain⟨X,a1,a2,a3,a4⟩:=At.append (At.keeps h g) (k:=1) (new:=Qg x) oM (by unfold JG;omega) (Wy x) (Dy x)
 have l1:(H++[(⟨Qg x,.rw,3⟩:JI)]).length=H.length+1:=by simp
 refine⟨_,X,a1,.inr ⟨(H++[(⟨Qg x,.rw,3⟩:JI)]).length,true,sM,Gn.2 ⟨oM,rfl⟩,?_,by rw[I5]⟩,⟨oM,fun c hc hn=>?_⟩⟩
 ·rw[a3,WJ];simp[YI]
 ·rw[a4 c oM fun h=>by have:=(Gn.1 h).1;omega,QN hc]
def Ej(l:Nat)(xs:List Int):List (Nat×Nat×Int):=xs.zipIdx.map fun x=>(l,x.2,x.1)
theorem Vy(l:Nat)(xs:List Int):(Ej l xs).length=xs.length:=by simp[Ej]
theorem I7{l j:Nat}{xs:List Int}{x:Int}(h:xs[j]?=some x):Ej l (xs.take (j+1))=Ej l (xs.take j)++[(l,j,x)]:=by
 have hj:=Gd h
 unfold Ej
 rw[QL,h,VT,List.zipIdx_append,XE]
 congr 1
 simp only[List.zipIdx_cons,List.zipIdx_nil,List.length_take,Nat.zero_add,List.map_cons,List.map_nil]
 rw[Nat.min_eq_left oM]
theorem Ll(l:Nat)(xs:List Int):KY l xs=(Ej l xs).filter fun x=>x.2.2 != 0:=by
 unfold KY Ej
 rw[List.filter_map]
 induction xs.zipIdx with
 |nil=>rfl
 |cons x r ih=>
  rw[List.filterMap_cons,List.filter_cons]
  by_cases c:x.1=0
  ·simp only[c,↓reduceIte,Function.comp_apply,bne_self_eq_false,Bool.false_eq_true];exact ih
  ·simp only[c,↓reduceIte,Function.comp_apply,bne_iff_ne,ne_eq,not_false_eq_true,List.map_cons];rw[ih]
def Rt.every(R:Rt):List (Nat×Nat×Int):=Ej 0 R.flat++(Ej 1 R.glob++Ej 2 R.queue)
theorem Rt.GbF(R:Rt):R.vis=R.every.filter fun x=>x.2.2 != 0:=by
 unfold Rt.vis Rt.every
 rw[List.filter_append,List.filter_append,←Ll,←Ll,←Ll]
 rfl
theorem Rt.Ok.GbK{R:Rt}(k:R.Ok):R.every.length≤144:=by
 have h0:=k.KG
 have h1:=k.g16
 have h2:=k.Xe
 have h3:=k.ns
 unfold Rt.every
 simp only[Nq,Vy]
 omega
end Go.Cs
namespace Go.Cs.Tryz
open Go Go.Cs
section
variable {H : Gb} {o : Tags} {rb : Nat} {R : Rt} {L : Zd}
theorem Gdt(k:R.Ok){k0 i:Nat}(hk0:k0≤H.length)(hi:i<R.slots.length){w:CV}(hw:P3 k0 H w (Ej 0 (R.flat.take (16*i))))
  {E0:Env}(h3:E0 3=w)(h4:E0 4=.i i)(h5:E0 5=.i 0){r:Option (CX×Env×Gb)}(hr:den P (.loop BM) E0 H=r):
  ∃E' H' w',r=some (.exit 2,E',H')∧Keeps H H' (fun c=>k0≤c)∧E' 3=w'∧P3 k0 H' w' (Ej 0 (R.flat.take (16*(i+1))))∧∀t,t∉wr BM→E' t=E0 t:=by
 have hfl:=k.KG
 have hns:=k.ns
 obtain⟨x',E',H',e,-,⟨rfl,g,w',q1,q2⟩,fr⟩:=Gy (p:=P) (c:=BM) (E0:=E0) (H0:=H)
  (fun q E H'=>∃(j:Nat)(w':CV),E 5=.i j∧j≤16∧q=16-j∧Keeps H H' (fun c=>k0≤c)∧E 3=w'∧P3 k0 H' w' (Ej 0 (R.flat.take (16*i+j))))
  (fun x' E' H'=>x'=.exit 2∧Keeps H H' (fun c=>k0≤c)∧∃w',E' 3=w'∧P3 k0 H' w' (Ej 0 (R.flat.take (16*(i+1))))) (by
   rintro q E H' hE ⟨j,w',e5,hj,rfl,g,e3,p3⟩
   have e4:=(hE 4 dK).trans h4
   by_cases c:j<16
   ·have c':decide ((j:Int)<16)=true:=GK oM
    obtain⟨x,hx⟩:∃x,R.flat[16*i+j]?=some x:=⟨_,J9 oM⟩
    have hp:Qg (0,16*i+j,x)=[.i 0,.i (i:Int),.i (j:Int)]:=by
     rw[Qg,if_pos rfl]
     have e1:(16*i+j)/16=i:=by omega
     have e2:(16*i+j) % 16=j:=by omega
     dsimp only
     rw[e1,e2]
    obtain⟨v',X,a1,a2,a3⟩:=P3.push p3 (Jr hk0 g.len) (by rw[Vy,List.length_take];omega) hp
    have w1:IntKind.i64.wrap ((j:Int)+1)=((j+1:Nat):Int):=Gh oM
    apply Gt (k':=16-(j+1))
    ·simp(disch:=first|exact dz|fail) only[simprocAttr,Gc,↓reduceIte,BM,e3,e4,e5,c',fill,splice,and_self,a1,w1]
     rfl
    ·omega
    ·exact⟨j+1,v',uA,oM,rfl,g.trans a3,uA,by rw[show 16*i+(j+1)=16*i+j+1 by omega,I7 hx];exact a2⟩
   ·have c':decide ((j:Int)<16)=false:=GC oM
    apply Gl (x:=.exit 2)
    ·simp(disch:=first|exact dz|fail) only[simprocAttr,Gc,↓reduceIte,BM,e5,c']
     rfl
    ·simp
    ·exact⟨rfl,g,w',by simp[Gg,e3],by rw[show 16*(i+1)=16*i+j by omega];exact p3⟩) _ ⟨0,w,h5,oM,rfl,Keeps.refl _ _,h3,hw⟩
 exact⟨E',H',w',hr.symm.trans e,g,q1,q2,fr⟩
theorem GdN(m:J_ o H rb R L)(k:R.Ok){k0:Nat}(hk0:k0≤H.length)(hd:∀c t,o c=some t→c<k0)
  {E0:Env}(h0:E0 0=.ptr rb 0)(h3:E0 3=.Gf)(h4:E0 4=.i 0){r:Option (CX×Env×Gb)}(hr:den P (.loop Ad) E0 H=r):
  ∃E' H' w',r=some (.exit 0,E',H')∧Keeps H H' (fun c=>k0≤c)∧E' 3=w'∧P3 k0 H' w' (Ej 0 R.flat)∧∀t,t∉wr Ad→E' t=E0 t:=by
 have hfl:=k.KG
 have hns:=k.ns
 obtain⟨x',E',H',e,-,⟨rfl,g,w',q1,q2⟩,fr⟩:=Gy (p:=P) (c:=Ad) (E0:=E0) (H0:=H)
  (fun q E H'=>∃(i:Nat)(w':CV),E 4=.i i∧i≤R.slots.length∧q=R.slots.length-i∧Keeps H H' (fun c=>k0≤c)∧E 3=w'∧P3 k0 H' w' (Ej 0 (R.flat.take (16*i))))
  (fun x' E' H'=>x'=.exit 0∧Keeps H H' (fun c=>k0≤c)∧∃w',E' 3=w'∧P3 k0 H' w' (Ej 0 R.flat)) (by
   rintro q E H' hE ⟨i,w',e4,hj,rfl,g,e3,p3⟩
   have e0:=(hE 0 dK).trans h0
   have m':J_ o H' rb R L:=m.frame (fun c t h=>JH (m.dom c t h) g.len) (fun _ _ h=>h) fun c t h=>g.keep c (m.dom c t h) (by have:=hd c t h;omega)
   have hc:=m'.cells
   have hsl:=m'.slots.len H'
   by_cases c:i<R.slots.length
   ·have c':decide ((i:Int)<(R.slots.length:Int))=true:=GK oM
    have w1:IntKind.i64.wrap ((i:Int)+1)=((i+1:Nat):Int):=Gh oM
    suffices fin:∃E' H2 w2,den P Ad E H'=some (.normal,E',H2)∧E' 4=.i ((i+1:Nat):Int)∧Keeps H' H2 (fun c=>k0≤c)∧E' 3=w2∧P3 k0 H2 w2 (Ej 0 (R.flat.take (16*(i+1))))by
     obtain⟨E',H2,w2,f1,f2,f3,f4,f5⟩:=fin
     exact Gt f1 (k':=R.slots.length-(i+1)) oM ⟨i+1,w2,f2,oM,rfl,g.trans f3,f4,f5⟩
    simp(disch:=first|exact dz|fail) only[simprocAttr,Gc,↓reduceIte,Ad,e0,e4,hc,hsl,c']
    generalize hr:den P (.loop BM) _ _=r
    obtain⟨E2,H2,w2,rfl,b1,b2,b3,b4⟩:=Gdt k (Jr hk0 g.len) c p3 (by simp[Gg,e3]) (by simp[Gg,e4]) uA hr
    have f4:=b4 4 dK
    simp only[Gg,Nat.reduceEqDiff,↓reduceIte,e4]at f4
    simp(disch:=first|exact dz|fail) only[simprocAttr,Gc,↓reduceIte,f4,w1]
    exact⟨_,_,w2,rfl,uA,b1,by simp[Gg,b2],b3⟩
   ·have c':decide ((i:Int)<(R.slots.length:Int))=false:=GC oM
    rw[NW oM]at p3
    apply Gl (x:=.exit 0)
    ·simp(disch:=first|exact dz|fail) only[simprocAttr,Gc,↓reduceIte,Ad,e0,e4,hc,hsl,c']
     rfl
    ·simp
    ·exact⟨rfl,g,w',by simp[Gg,e3],p3⟩) _ ⟨0,.Gf,h4,oM,rfl,Keeps.refl _ _,h3,.inl ⟨rfl,rfl,.inl rfl⟩⟩
 exact⟨E',H',w',hr.symm.trans e,g,q1,q2,fr⟩
theorem Gev(k:R.Ok){k0:Nat}(hk0:k0≤H.length){D:List (Nat×Nat×Int)}(hD:D.length≤100){w:CV}(hw:P3 k0 H w D)
  {E0:Env}(h3:E0 3=w)(hv:E0 6=.i 0){r:Option (CX×Env×Gb)}(hr:den P (.loop BD) E0 H=r):
  ∃E' H' w',r=some (.exit 4,E',H')∧Keeps H H' (fun c=>k0≤c)∧E' 3=w'∧P3 k0 H' w' (D++Ej 1 R.glob)∧∀t,t∉wr BD→E' t=E0 t:=by
 have hg:=k.g16
 have hq:=k.Xe
 obtain⟨x',E',H',e,-,⟨rfl,g,w',q1,q2⟩,fr⟩:=Gy (p:=P) (c:=BD) (E0:=E0) (H0:=H)
  (fun q E H'=>∃(j:Nat)(w':CV),E 6=.i j∧j≤R.glob.length∧q=R.glob.length-j∧Keeps H H' (fun c=>k0≤c)∧E 3=w'∧P3 k0 H' w' (D++Ej 1 (R.glob.take j)))
  (fun x' E' H'=>x'=.exit 4∧Keeps H H' (fun c=>k0≤c)∧∃w',E' 3=w'∧P3 k0 H' w' (D++Ej 1 R.glob)) (by
   rintro q E H' hE ⟨j,w',e5,hj,rfl,g,e3,p3⟩
   by_cases c:j<R.glob.length
   ·have c':decide ((j:Int)<16)=true:=GK oM
    obtain⟨x,hx⟩:∃x,R.glob[j]?=some x:=⟨_,J9 oM⟩
    have hp:Qg (1,j,x)=[.i 1,.i 0,.i (j:Int)]:=rfl
    obtain⟨v',X,a1,a2,a3⟩:=P3.push p3 (Jr hk0 g.len) (by rw[Nq,Vy,List.length_take];omega) hp
    have w1:IntKind.i64.wrap ((j:Int)+1)=((j+1:Nat):Int):=Gh oM
    apply Gt (k':=R.glob.length-(j+1))
    ·simp(disch:=first|exact dz|fail) only[simprocAttr,Gc,↓reduceIte,BD,e3,e5,c',fill,splice,and_self,a1,w1]
     rfl
    ·omega
    ·exact⟨j+1,v',uA,oM,rfl,g.trans a3,uA,by rw[I7 hx,←List.append_assoc];exact a2⟩
   ·have c':decide ((j:Int)<16)=false:=GC oM
    rw[NW oM]at p3
    apply Gl (x:=.exit 4)
    ·simp(disch:=first|exact dz|fail) only[simprocAttr,Gc,↓reduceIte,BD,e3,e5,c']
     rfl
    ·simp
    ·exact⟨rfl,g,w',by simp[Gg,e3],p3⟩) _ ⟨0,w,hv,oM,rfl,Keeps.refl _ _,h3,by simpa[Ej]using hw⟩
 exact⟨E',H',w',hr.symm.trans e,g,q1,q2,fr⟩
theorem GeX(m:J_ o H rb R L)(k:R.Ok){k0:Nat}(hk0:k0≤H.length)(hd:∀c t,o c=some t→c<k0){D:List (Nat×Nat×Int)}(hD:D.length≤100){w:CV}(hw:P3 k0 H w D)
  {E0:Env}(h0:E0 0=.ptr rb 0)(h3:E0 3=w)(hv:E0 7=.i 0){r:Option (CX×Env×Gb)}(hr:den P (.loop Dh) E0 H=r):
  ∃E' H' w',r=some (.exit 6,E',H')∧Keeps H H' (fun c=>k0≤c)∧E' 3=w'∧P3 k0 H' w' (D++Ej 2 R.queue)∧∀t,t∉wr Dh→E' t=E0 t:=by
 have hg:=k.g16
 have hq:=k.Xe
 obtain⟨x',E',H',e,-,⟨rfl,g,w',q1,q2⟩,fr⟩:=Gy (p:=P) (c:=Dh) (E0:=E0) (H0:=H)
  (fun q E H'=>∃(j:Nat)(w':CV),E 7=.i j∧j≤R.queue.length∧q=R.queue.length-j∧Keeps H H' (fun c=>k0≤c)∧E 3=w'∧P3 k0 H' w' (D++Ej 2 (R.queue.take j)))
  (fun x' E' H'=>x'=.exit 6∧Keeps H H' (fun c=>k0≤c)∧∃w',E' 3=w'∧P3 k0 H' w' (D++Ej 2 R.queue)) (by
   rintro q E H' hE ⟨j,w',e5,hj,rfl,g,e3,p3⟩
   have e0:=(hE 0 dK).trans h0
   have m':J_ o H' rb R L:=m.frame (fun c t h=>JH (m.dom c t h) g.len) (fun _ _ h=>h) fun c t h=>g.keep c (m.dom c t h) (by have:=hd c t h;omega)
   have hc:=m'.cells
   have hql:=m'.queue.len H'
   by_cases c:j<R.queue.length
   ·have c':decide ((j:Int)<(R.queue.length:Int))=true:=GK oM
    obtain⟨x,hx⟩:∃x,R.queue[j]?=some x:=⟨_,J9 oM⟩
    have hp:Qg (2,j,x)=[.i 2,.i 0,.i (j:Int)]:=rfl
    obtain⟨v',X,a1,a2,a3⟩:=P3.push p3 (Jr hk0 g.len) (by rw[Nq,Vy,List.length_take];omega) hp
    have w1:IntKind.i64.wrap ((j:Int)+1)=((j+1:Nat):Int):=Gh oM
    apply Gt (k':=R.queue.length-(j+1))
    ·simp(disch:=first|exact dz|fail) only[simprocAttr,Gc,↓reduceIte,Dh,e0,hc,hql,e3,e5,c',fill,splice,and_self,a1,w1]
     rfl
    ·omega
    ·exact⟨j+1,v',uA,oM,rfl,g.trans a3,uA,by rw[I7 hx,←List.append_assoc];exact a2⟩
   ·have c':decide ((j:Int)<(R.queue.length:Int))=false:=GC oM
    rw[NW oM]at p3
    apply Gl (x:=.exit 6)
    ·simp(disch:=first|exact dz|fail) only[simprocAttr,Gc,↓reduceIte,Dh,e0,hc,hql,e3,e5,c']
     rfl
    ·simp
    ·exact⟨rfl,g,w',by simp[Gg,e3],p3⟩) _ ⟨0,w,hv,oM,rfl,Keeps.refl _ _,h3,by simpa[Ej]using hw⟩
 exact⟨E',H',w',hr.symm.trans e,g,q1,q2,fr⟩
theorem Gc5(m:J_ o H rb R L)(k:R.Ok):∃w H',run P 246 [.ptr rb 0] H=some (w,H')∧Gr H H'∧P3 H.length H' w R.every:=by
 have h1:=Zx m k
 have hfl:=k.KG
 have hns:=k.ns
 have hg:=k.g16
 rw[Gi GqC _ _ sM]
 simp(disch:=first|exact dz|fail) only[simprocAttr,Gc,↓reduceIte,Gv,h1]
 generalize hr:den P (.loop Ad) _ _=r
 obtain⟨E1,H1,w1,rfl,g1,a1,p1,f1⟩:=GdN m k (Nat.le_refl _) m.dom uA uA uA hr
 have b0:=f1 0 dK
 simp only[Gg,Nat.reduceEqDiff,↓reduceIte]at b0
 simp(disch:=first|exact dz|fail) only[simprocAttr,Gc,↓reduceIte]
 generalize hr:den P (.loop BD) _ _=r
 obtain⟨E2,H2,w2,rfl,g2,a2,p2,f2⟩:=Gev k g1.len (by rw[Vy];omega) p1 (by simp[Gg,a1]) uA hr
 have b2:=f2 0 dK
 simp only[Gg,Nat.reduceEqDiff,↓reduceIte,b0]at b2
 simp(disch:=first|exact dz|fail) only[simprocAttr,Gc,↓reduceIte]
 generalize hr:den P (.loop Dh) _ _=r
 have g12:=g1.trans g2
 have m2:J_ o H2 rb R L:=m.frame (fun c t h=>JH (m.dom c t h) g12.len) (fun _ _ h=>h) fun c t h=>g12.keep c (m.dom c t h) (by have:=m.dom c t h;omega)
 obtain⟨E3,H3,w3,rfl,g3,a3,p3,f3⟩:=GeX m2 k g12.len m.dom (by rw[Nq,Vy,Vy];omega) p2 (by simp[Gg,b2]) (by simp[Gg,a2]) uA hr
 simp(disch:=first|exact dz|fail) only[simprocAttr,Gc,↓reduceIte,a3]
 have g:=g12.trans g3
 refine⟨w3,H3,rfl,⟨g.len,fun c hc _=>g.keep c hc oM⟩,?_⟩
 unfold Rt.every
 rw[←List.append_assoc]
 exact p3
end
end Go.Cs.Tryz
namespace Go.Cs.Tryz
open Go Go.Cs A
def Yk:Gu:=S (T [m 8 5,m 9 4,le 10 9,b 11 .lss 8 10] (J 11 (X 0))) (S (B 1 (T [m 14 0,m 15 4,m 16 5,x 17 3 15 16,lg 18 3 17,q2 19 169 14 18,bk 20 .neq 19 0] (I 20 (R [m 21 3,m 22 4,m 23 5,x 24 3 22 23,lg 25 3 24,e 26 (.buildSlice 3 [i 0,i 0,i 0] 1 [(0,3,t 25)]),ap 27 3 21 26,m 3 27])))) (R [m 12 5,bk 13 .add 12 1,m 5 13]))
def Gr3:Gm:=⟨29,0,T [e 2 (.K7 (c .Gf))] (T [e 3 (.K7 (c .Gf))] (T [m 6 0,q1 7 246 6,m 4 7] (S (T [n 5 0] (B 0 (W Yk))) (Q [m 28 3,m 2 28])))),[r 2]⟩
theorem c168:P 168=some Gr3:=by kernel_rfl
end Go.Cs.Tryz
namespace Go.Cs
open Go
theorem Gh4{l:Nat}{xs:List Int}{y:Nat×Nat×Int}(h:y∈Ej l xs):y.1=l∧xs[y.2.1]?=some y.2.2:=by
 unfold Ej at h
 rw[YX]at h
 obtain⟨⟨x,i⟩,h1,rfl⟩:=h
 rw[List.mem_zipIdx_iff_getElem?]at h1
 exact⟨rfl,h1⟩
theorem Rt.Gfi{R:Rt}{x:Nat×Nat×Int}(h:x∈R.every):x.1≤2∧(R.li x.1)[x.2.1]?=some x.2.2:=by
 unfold Rt.every at h
 simp only[NG]at h
 rcases h with h|h|h<;>
 ·obtain⟨h1,h2⟩:=Gh4 h
  refine⟨oM,?_⟩
  rw[h1];exact h2
theorem FW{α:Type}{p:α→Bool}{l:List α}{j:Nat}{x:α}(h:l[j]?=some x):(l.take (j+1)).filter p=(l.take j).filter p++(if p x then [x]else []):=by
 rw[QL,h,VT,List.filter_append]
 congr 1
 cases e:p x<;>simp[e]
end Go.Cs
namespace Go.Cs.Tryz
open Go Go.Cs
section
variable {H : Gb} {o : Tags} {rb : Nat} {R : Rt} {L : Zd}
theorem P3.at{k:Nat}{w:CV}{D:List (Nat×Nat×Int)}(h:P3 k H w D){j:Nat}{x:Nat×Nat×Int}(hx:D[j]?=some x):
  k≤Gp w∧Gp w<H.length∧(∀X,Kb 3 w (.i j) X=some (.ptr (Gp w) (j*3),X))∧∀Y:Gb,Y[Gp w]?=H[Gp w]?→EZ Y[Gp w]? (j*3) 3=some [.i (KQ x).1,.i (KQ x).2.1,.i (KQ x).2.2]:=by
 have hj:=Gd hx
 obtain⟨tl,a1,a2,a3,a4⟩:=h.pos oM
 refine⟨(Gn.1 a2).1,Gd a3,fun X=>?_,fun Y hY=>?_⟩
 ·rw[a1];exact(if_pos oM).trans (by simp[Gp])
 ·rw[hY,a3,←XO];exact WB hx
theorem GcO(m:J_ o H rb R L)(k:R.Ok){k0 k1:Nat}(hk0:k0≤H.length)(hd:∀c t,o c=some t→c<k0){w:CV}(hw:P3 k1 H w R.every)(hwk:R.every≠[]→Gp w<k0)
  {E0:Env}(h0:E0 0=.ptr rb 0)(h3:E0 3=.Gf)(h4:E0 4=w)(h5:E0 5=.i 0){r:Option (CX×Env×Gb)}(hr:den P (.loop Yk) E0 H=r):
  ∃E' H' w',r=some (.exit 0,E',H')∧Keeps H H' (fun c=>k0≤c)∧E' 3=w'∧P3 k0 H' w' R.vis∧∀t,t∉wr Yk→E' t=E0 t:=by
 have hel:=k.GbK
 obtain⟨x',E',H',e,-,⟨rfl,g,w',q1,q2⟩,fr⟩:=Gy (p:=P) (c:=Yk) (E0:=E0) (H0:=H)
  (fun q E H'=>∃(j:Nat)(w':CV),E 5=.i j∧j≤R.every.length∧q=R.every.length-j∧Keeps H H' (fun c=>k0≤c)∧E 3=w'∧P3 k0 H' w' ((R.every.take j).filter fun x=>x.2.2 != 0))
  (fun x' E' H'=>x'=.exit 0∧Keeps H H' (fun c=>k0≤c)∧∃w',E' 3=w'∧P3 k0 H' w' R.vis) (by
   rintro q E H' hE ⟨j,w',e5,hj,rfl,g,e3,p3⟩
   have e0:=(hE 0 dK).trans h0
   have e4:=(hE 4 dK).trans h4
   have m':J_ o H' rb R L:=m.frame (fun c t h=>JH (m.dom c t h) g.len) (fun _ _ h=>h) fun c t h=>g.keep c (m.dom c t h) (by have:=hd c t h;omega)
   have hwl:=hw.len H'
   by_cases c:j<R.every.length
   ·have c':decide ((j:Int)<(R.every.length:Int))=true:=GK oM
    obtain⟨x,hx⟩:∃x,R.every[j]?=some x:=⟨_,J9 c⟩
    obtain⟨y1,y2⟩:=Rt.Gfi (JX hx)
    have hloc:=k.Ih (x:=x) y1 (Gd y2)
    obtain⟨i1,i2,i3,i4⟩:=P3.at hw hx
    have HY:=hwk (fun h=>by rw[h]at c;exact absurd c sM)
    have O4:H'[Gp w]?=H[Gp w]?:=g.keep _ i2 oM
    have l1:=i4 H' O4
    have b1:=Gbg m' k hloc
    rw[Qc,y2]at b1
    simp only[Option.getD_some]at b1
    obtain⟨X,hX⟩:∃X:Gb,X=H'++[⟨[.i (KQ x).1,.i (KQ x).2.1,.i (KQ x).2.2],.rw,0⟩]:=⟨_,rfl⟩
    have gX:Gr H' X:=by rw[hX];exact Gr.app _ _
    rw[←hX]at b1
    have hlen:=g.len
    have l2:=i4 X ((gX.keep _ oM fun h=>h).trans O4)
    have p3X:=At.keeps p3 gX
    have w1:IntKind.i64.wrap ((j:Int)+1)=((j+1:Nat):Int):=Gh oM
    have gX':Keeps H' X (fun c=>k0≤c):=⟨gX.len,fun c hc _=>gX.keep c hc fun h=>h⟩
    suffices fin:∃E' H2 w2,den P Yk E H'=some (.normal,E',H2)∧E' 5=.i ((j+1:Nat):Int)∧Keeps H' H2 (fun c=>k0≤c)∧E' 3=w2∧P3 k0 H2 w2 ((R.every.take (j+1)).filter fun x=>x.2.2 != 0)by
     obtain⟨E',H2,w2,f1,f2,f3,f4,f5⟩:=fin
     exact Gt f1 (k':=R.every.length-(j+1)) oM ⟨j+1,w2,f2,oM,rfl,g.trans f3,f4,f5⟩
    rw[FW hx]
    by_cases hz:x.2.2=0
    ·have hz':(x.2.2 != 0)=false:=by rw[hz];rfl
     simp(disch:=first|exact dz|fail) only[simprocAttr,Gc,↓reduceIte,Yk,e0,e3,e4,e5,hwl,c',i3,l1,b1,hz',w1]
     exact⟨_,_,w',rfl,uA,gX',by simp[Gg,e3],p3X⟩
    ·have hz':(x.2.2 != 0)=true:=by simpa using hz
     have hfl:((R.every.take j).filter fun x=>x.2.2 != 0).length≤144:=Jr (List.length_filter_le _ _) (by rw[List.length_take];omega)
     obtain⟨v',X2,a1,a2,a3⟩:=P3.push p3X (Jr hk0 (Jr g.len gX.len)) oM (XO x)
     simp(disch:=first|exact dz|fail) only[simprocAttr,Gc,↓reduceIte,Yk,e0,e3,e4,e5,hwl,c',i3,l1,b1,hz',l2,fill,splice,and_self,a1,w1]
     exact⟨_,_,v',rfl,uA,gX'.trans a3,uA,a2⟩
   ·have c':decide ((j:Int)<(R.every.length:Int))=false:=GC oM
    rw[NW oM,←Rt.GbF]at p3
    apply Gl (x:=.exit 0)
    ·simp(disch:=first|exact dz|fail) only[simprocAttr,Gc,↓reduceIte,Yk,e4,e5,hwl,c']
     rfl
    ·simp
    ·exact⟨rfl,g,w',by simp[Gg,e3],p3⟩) _ ⟨0,.Gf,h5,oM,rfl,Keeps.refl _ _,h3,.inl ⟨rfl,rfl,.inl rfl⟩⟩
 exact⟨E',H',w',hr.symm.trans e,g,q1,q2,fr⟩
theorem XZ(m:J_ o H rb R L)(k:R.Ok):∃w H',run P 168 [.ptr rb 0] H=some (w,H')∧Gr H H'∧P3 H.length H' w R.vis:=by
 obtain⟨w,H1,h1,g1,p1⟩:=Gc5 m k
 have m1:=m.gr g1
 have hel:R.every≠[]:=fun h=>by
  have:=k.g16
  have e:R.every.length=0:=by rw[h];rfl
  unfold Rt.every at e
  simp only[Nq,Vy]at e
  omega
 have hwb:Gp w<H1.length:=by
  have h0:0<R.every.length:=BQ.2 hel
  obtain⟨tl,a1,a2,a3,a4⟩:=p1.pos h0
  exact Gd a3
 rw[Gi c168 _ _ sM]
 simp(disch:=first|exact dz|fail) only[simprocAttr,Gc,↓reduceIte,Gv,h1]
 generalize hr:den P (.loop Yk) _ _=r
 obtain⟨E2,H2,w2,rfl,g2,a2,p2,f2⟩:=GcO m1 k (Nat.le_refl _) m1.dom p1 (fun _=>hwb) uA uA uA uA hr
 simp(disch:=first|exact dz|fail) only[simprocAttr,Gc,↓reduceIte,a2]
 refine⟨w2,H2,rfl,⟨Jr g1.len g2.len,fun c hc _=>?_⟩,p2.frame (fun c h=>Gn.2 ⟨Jr g1.len (Gn.1 h).1,(Gn.1 h).2⟩) fun _ _=>rfl⟩
 have:=g1.len
 rw[g2.keep c oM oM,g1.keep c hc fun h=>h]
end
end Go.Cs.Tryz
namespace Go.Cs.Tryz
open Go Go.Cs A
def Eb:Gu:=S (T [m 23 8,m 24 3,le 25 24,b 26 .lss 23 25] (J 26 (X 2))) (S (B 3 (R [m 29 7,m 30 29,gf 30 (m 31 3),gf 30 (m 32 8),gf 30 (x 33 1 31 32),gf 30 (l 34 1 33),gf 30 (m 35 6),gf 30 (b 36 .eql 34 35),or 37 30 36,m 7 37])) (R [m 27 8,bk 28 .add 27 1,m 8 28]))
def Fy:Gu:=S (T [m 11 5,m 12 4,le 13 12,b 14 .lss 11 13] (J 14 (X 0))) (S (B 1 (T [m 17 0,m 18 4,m 19 5,x 20 3 18 19,lg 21 3 20,q2 22 169 17 21,m 6 22] (T [nb 7 false] (S (T [n 8 0] (B 2 (W Eb))) (T [m 38 7,no 39 38] (I 39 (R [m 40 3,m 41 6,e 42 (.buildSlice 1 [i 0] 1 [(0,1,t 41)]),ap 43 1 40 42,m 3 43]))))))) (R [m 15 5,bk 16 .add 15 1,m 5 16]))
def C69:Gm:=⟨45,0,T [e 2 (.K7 (c .Gf))] (T [e 3 (.K7 (c .Gf))] (T [m 9 0,q1 10 168 9,m 4 10] (S (T [n 5 0] (B 0 (W Fy))) (Q [m 44 3,m 2 44])))),[r 2]⟩
theorem c69:P 69=some C69:=by kernel_rfl
end Go.Cs.Tryz
namespace Go.Cs
open Go
theorem GeE{l:List Int}{j:Nat}{y x:Int}(h:l[j]?=some y):(l.take (j+1)).any (fun z=>z==x)=((l.take j).any (fun z=>z==x)||y==x):=by
 rw[QL,h,VT,List.any_append]
 simp
end Go.Cs
namespace Go.Cs.Tryz
open Go Go.Cs
section
variable {H : Gb} {o : Tags} {rb : Nat} {R : Rt} {L : Zd}
theorem GbM{l:List Int}{w:CV}(h:LI H w l)(hl:l.length≤100000){x:Int}{E0:Env}(h3:E0 3=w)(h6:E0 6=.i x)(h7:E0 7=.bool false)(h8:E0 8=.i 0){r:Option (CX×Env×Gb)}(hr:den P (.loop Eb) E0 H=r):
  ∃E',r=some (.exit 2,E',H)∧E' 7=.bool (decide (x∈l))∧∀t,t∉wr Eb→E' t=E0 t:=by
 obtain⟨x',E',H',e,-,⟨rfl,rfl,hf⟩,fr⟩:=Gy (p:=P) (c:=Eb) (E0:=E0) (H0:=H)
  (fun q E H'=>H'=H∧∃j:Nat,E 8=.i j∧j≤l.length∧q=l.length-j∧E 7=.bool ((l.take j).any fun z=>z==x))
  (fun x' E' H'=>x'=.exit 2∧H'=H∧E' 7=.bool (decide (x∈l))) (by
   rintro q E H' hE ⟨rfl,j,e8,hj,rfl,e7⟩
   have e3:=(hE 3 dK).trans h3
   have e6:=(hE 6 dK).trans h6
   have hvl:=h.len H'
   by_cases c:j<l.length
   ·have c':decide ((j:Int)<(l.length:Int))=true:=GK oM
    have hx:l[j]?=some l[j]:=J9 c
    obtain⟨b,o,i1,i2,i3⟩:=h.at hx
    have V3:=i3 H' (Keeps.refl _ _)
    have w1:IntKind.i64.wrap ((j:Int)+1)=((j+1:Nat):Int):=Gh oM
    suffices fin:∃E',den P Eb E H'=some (.normal,E',H')∧E' 8=.i ((j+1:Nat):Int)∧E' 7=.bool ((l.take j).any (fun z=>z==x)||l[j]==x)by
     obtain⟨E',f1,f2,f3⟩:=fin
     exact Gt f1 (k':=l.length-(j+1)) oM ⟨rfl,j+1,f2,oM,rfl,by rw[GeE hx];exact f3⟩
    cases ha:(l.take j).any fun z=>z==x with
    |true=>
     rw[ha]at e7
     simp(disch:=first|exact dz|fail) only[simprocAttr,Gc,↓reduceIte,Eb,e3,e6,e7,e8,hvl,c',w1]
     exact⟨_,rfl,uA,uA⟩
    |false=>
     rw[ha]at e7
     simp(disch:=first|exact dz|fail) only[simprocAttr,Gc,↓reduceIte,Eb,e3,e6,e7,e8,hvl,c',i1,V3,w1]
     exact⟨_,rfl,uA,uA⟩
   ·have c':decide ((j:Int)<(l.length:Int))=false:=GC oM
    rw[NW oM]at e7
    apply Gl (x:=.exit 2)
    ·simp(disch:=first|exact dz|fail) only[simprocAttr,Gc,↓reduceIte,Eb,e3,e8,hvl,c']
     rfl
    ·simp
    ·refine⟨rfl,rfl,?_⟩
     have:(l.any fun z=>z==x)=decide (x∈l):=by
      rw[Bool.eq_iff_iff,List.any_eq_true,decide_eq_true_iff]
      exact⟨fun⟨y,hy,he⟩=>by rw[beq_iff_eq]at he;rw[←he];exact hy,fun h=>⟨_,h,sM⟩⟩
     rw[←this]
     simp[Gg,e7]) _ ⟨rfl,0,h8,oM,rfl,by simpa using h7⟩
 exact⟨E',hr.symm.trans e,hf,fr⟩
theorem GcL(m:J_ o H rb R L)(k:R.Ok){k0 k1:Nat}(hk0:k0≤H.length)(hd:∀c t,o c=some t→c<k0){w:CV}(hw:P3 k1 H w R.vis)(hwk:R.vis≠[]→Gp w<k0)
  {E0:Env}(h0:E0 0=.ptr rb 0)(h3:E0 3=.Gf)(h4:E0 4=w)(h5:E0 5=.i 0){r:Option (CX×Env×Gb)}(hr:den P (.loop Fy) E0 H=r):
  ∃E' H' w',r=some (.exit 0,E',H')∧Keeps H H' (fun c=>k0≤c)∧E' 3=w'∧IL k0 H' w' (Jc R.vis)∧∀t,t∉wr Fy→E' t=E0 t:=by
 have hel:=k.Vs
 obtain⟨x',E',H',e,-,⟨rfl,g,w',q1,q2⟩,fr⟩:=Gy (p:=P) (c:=Fy) (E0:=E0) (H0:=H)
  (fun q E H'=>∃(j:Nat)(w':CV),E 5=.i j∧j≤R.vis.length∧q=R.vis.length-j∧Keeps H H' (fun c=>k0≤c)∧E 3=w'∧IL k0 H' w' (Jc (R.vis.take j)))
  (fun x' E' H'=>x'=.exit 0∧Keeps H H' (fun c=>k0≤c)∧∃w',E' 3=w'∧IL k0 H' w' (Jc R.vis)) (by
   rintro q E H' hE ⟨j,w',e5,hj,rfl,g,e3,p3⟩
   have e0:=(hE 0 dK).trans h0
   have e4:=(hE 4 dK).trans h4
   have m':J_ o H' rb R L:=m.frame (fun c t h=>JH (m.dom c t h) g.len) (fun _ _ h=>h) fun c t h=>g.keep c (m.dom c t h) (by have:=hd c t h;omega)
   have hwl:=hw.len H'
   by_cases c:j<R.vis.length
   ·have c':decide ((j:Int)<(R.vis.length:Int))=true:=GK oM
    obtain⟨x,hx⟩:∃x,R.vis[j]?=some x:=⟨_,J9 c⟩
    obtain⟨y1,y2,y3⟩:=Rt.Gan (JX hx)
    have hloc:=k.Ih (x:=x) y1 (Gd y2)
    obtain⟨i1,i2,i3,i4⟩:=P3.at hw hx
    have HY:=hwk (fun h=>by rw[h]at c;exact absurd c sM)
    have O4:H'[Gp w]?=H[Gp w]?:=g.keep _ i2 oM
    have l1:=i4 H' O4
    have b1:=Gbg m' k hloc
    rw[Qc,y2]at b1
    simp only[Option.getD_some]at b1
    obtain⟨X,hX⟩:∃X:Gb,X=H'++[⟨[.i (KQ x).1,.i (KQ x).2.1,.i (KQ x).2.2],.rw,0⟩]:=⟨_,rfl⟩
    have gX:Gr H' X:=by rw[hX];exact Gr.app _ _
    rw[←hX]at b1
    have hlen:=g.len
    have p3X:=At.keeps p3 gX
    have hll:=Qv (R.vis.take j)
    rw[List.length_take]at hll
    have w1:IntKind.i64.wrap ((j:Int)+1)=((j+1:Nat):Int):=Gh oM
    have gX':Keeps H' X (fun c=>k0≤c):=⟨gX.len,fun c hc _=>gX.keep c hc fun h=>h⟩
    suffices fin:∃E' H2 w2,den P Fy E H'=some (.normal,E',H2)∧E' 5=.i ((j+1:Nat):Int)∧Keeps H' H2 (fun c=>k0≤c)∧E' 3=w2∧IL k0 H2 w2 (Jc (R.vis.take (j+1)))by
     obtain⟨E',H2,w2,f1,f2,f3,f4,f5⟩:=fin
     exact Gt f1 (k':=R.vis.length-(j+1)) oM ⟨j+1,w2,f2,oM,rfl,g.trans f3,f4,f5⟩
    rw[show R.vis.take (j+1)=R.vis.take j++[x]by rw[QL,hx];rfl,YE]
    simp(disch:=first|exact dz|fail) only[simprocAttr,Gc,↓reduceIte,Fy,e0,e3,e4,e5,hwl,c',i3,l1,b1]
    generalize hr:den P (.loop Eb) _ _=r
    obtain⟨E2,rfl,a7,f2⟩:=GbM (x:=x.2.2) (IL.li p3X) oM (by simp[Gg,e3]) uA uA uA hr
    have b3:=f2 3 dK
    have b5:=f2 5 dK
    have b6:=f2 6 dK
    simp only[Gg,Nat.reduceEqDiff,↓reduceIte,e3,e5]at b3 b5 b6
    by_cases hm:x.2.2∈Jc (R.vis.take j)
    ·rw[GK hm]at a7
     simp(disch:=first|exact dz|fail) only[simprocAttr,Gc,↓reduceIte,a7,b5,w1]
     exact⟨_,_,w',rfl,uA,gX',by simp[Gg,b3],by rw[QT,if_pos hm];exact p3X⟩
    ·rw[GC hm]at a7
     obtain⟨v',X2,a1,a2,a3⟩:=IL.push p3X (Jr hk0 (Jr g.len gX.len)) oM x.2.2
     have hel:elems (X++[⟨[.i x.2.2],.rw,1⟩]) 1 (.slice X.length 0 1 1 1 false)=some (1,[.i x.2.2]):=by
      rw[JC oM]
      simp(disch:=first|exact dz|fail) only[simprocAttr,Gc,↓reduceIte,JW]
     simp(disch:=first|exact dz|fail) only[simprocAttr,Gc,↓reduceIte,a7,b3,b5,b6,fill,splice,and_self,hel,Ja,a1,w1]
     exact⟨_,_,v',rfl,uA,gX'.trans a3,uA,by rw[QT,if_neg hm];exact a2⟩
   ·have c':decide ((j:Int)<(R.vis.length:Int))=false:=GC oM
    rw[NW oM]at p3
    apply Gl (x:=.exit 0)
    ·simp(disch:=first|exact dz|fail) only[simprocAttr,Gc,↓reduceIte,Fy,e4,e5,hwl,c']
     rfl
    ·simp
    ·exact⟨rfl,g,w',by simp[Gg,e3],p3⟩) _ ⟨0,.Gf,h5,oM,rfl,Keeps.refl _ _,h3,.inl ⟨rfl,rfl,.inl rfl⟩⟩
 exact⟨E',H',w',hr.symm.trans e,g,q1,q2,fr⟩
theorem GcV(m:J_ o H rb R L)(k:R.Ok):∃w H',run P 69 [.ptr rb 0] H=some (w,H')∧Gr H H'∧IL H.length H' w (Jc R.vis):=by
 obtain⟨w,H1,h1,g1,p1⟩:=XZ m k
 have m1:=m.gr g1
 have hwb:R.vis≠[]→Gp w<H1.length:=fun h=>by
  obtain⟨tl,a1,a2,a3,a4⟩:=p1.pos (BQ.2 h)
  exact Gd a3
 rw[Gi c69 _ _ sM]
 simp(disch:=first|exact dz|fail) only[simprocAttr,Gc,↓reduceIte,Gv,h1]
 generalize hr:den P (.loop Fy) _ _=r
 obtain⟨E2,H2,w2,rfl,g2,a2,p2,f2⟩:=GcL m1 k (Nat.le_refl _) m1.dom p1 hwb uA uA uA uA hr
 simp(disch:=first|exact dz|fail) only[simprocAttr,Gc,↓reduceIte,a2]
 refine⟨w2,H2,rfl,⟨Jr g1.len g2.len,fun c hc _=>?_⟩,p2.frame (fun c h=>Gn.2 ⟨Jr g1.len (Gn.1 h).1,(Gn.1 h).2⟩) fun _ _=>rfl⟩
 have:=g1.len
 rw[g2.keep c oM oM,g1.keep c hc fun h=>h]
end
end Go.Cs.Tryz

namespace Go.Cs
open Go
inductive Kp(s:Hp)(st:Int→Prop)(tb:Bool):Int→Prop
 |start {a:Int}:st a→s.has a=true→Kp s st tb a
 |ref {a b:Int} {o:Ob} {j:Nat}:Kp s st tb a→s.obj a=some o→o.refs[j]?=some b→Jj o.kd j=true→s.has b=true→Kp s st tb b
 |pair {a b c:Int} {o:Ob}:tb=true→Kp s st tb a→s.obj a=some o→o.kd=2→o.refs[0]?=some c→Kp s st tb c→o.refs[1]?=some b→s.has b=true→Kp s st tb b
theorem Kp.has{s:Hp}{st:Int→Prop}{tb:Bool}{a:Int}(h:Kp s st tb a):s.has a=true:=by
 cases h<;>assumption
theorem Kp.mono{s:Hp}{st st':Int→Prop}{tb:Bool}(hs:∀a,st a→st' a){a:Int}(h:Kp s st tb a):Kp s st' tb a:=by
 induction h with
 |start h1 h2=>exact .start (hs _ h1) h2
 |ref _ h2 h3 h4 h5 ih=>exact .ref ih h2 h3 h4 h5
 |pair h1 _ h3 h4 h5 _ h7 h8 ih1 ih2=>exact .pair h1 ih1 h3 h4 h5 ih2 h7 h8
def incl(s:Hp)(l:List Int)(a:Int):List Int:=if s.has a=true then Df a l else l
def Nc(s:Hp)(o:Ob)(j:Nat)(l:List Int):List Int:=((o.refs.take j).zipIdx).foldl (fun l x=>if Jj o.kd x.2=true then incl s l x.1 else l) l
def Ux(s:Hp)(tb:Bool)(l:List Int)(o:Ob):List Int:=
 if tb=true∧o.kd=2∧o.refs.getD 0 0∈Nc s o o.refs.length l then incl s (Nc s o o.refs.length l) (o.refs.getD 1 0)else Nc s o o.refs.length l
def KS(s:Hp)(tb:Bool)(all:List Int)(j:Nat)(l:List Int):List Int:=(all.take j).foldl (fun l a=>match s.obj a with|some o=>Ux s tb l o|none=>l) l
structure AP(l k:List Int):Prop where
 SN:Zj l→Zj k
 sub:∀x∈l,x∈k
 len:l.length≤k.length
 eq:Zj l→k.length=l.length→k=l
theorem AP.refl(l:List Int):AP l l:=⟨fun h=>h,fun _ h=>h,Nat.le_refl _,fun _ _=>rfl⟩
theorem AP.trans{l k m:List Int}(a:AP l k)(b:AP k m):AP l m:=
 ⟨fun h=>b.SN (a.SN h),fun x h=>b.sub x (a.sub x h),Jr a.len b.len,fun h e=>by
  have h1:=a.len
  have h2:=b.len
  have e1:=a.eq h oM
  subst e1
  exact b.eq h e⟩
theorem TY(n:Int)(l:List Int):Df n l=l∧n∈l∨(Df n l).length=l.length+1:=by
 rw[R_]
 split
 ·rename_i h
  exact .inl ⟨rfl,JX h⟩
 ·right
  have:=GaX n l
  simp only[Nq,List.length_cons,List.length_take,List.length_drop]
  omega
theorem ZL(s:Hp)(l:List Int)(a:Int):AP l (incl s l a):=by
 unfold incl
 split
 ·refine⟨TV,fun x h=>Ya.2 (.inr h),?_,fun _ h=>?_⟩
  ·rcases TY a l with h|h
   ·rw[h.1];exact Nat.le_refl _
   ·omega
  ·rcases TY a l with h1|h1
   ·exact h1.1
   ·omega
 ·exact .refl l
theorem P8{s:Hp}{l:List Int}{a:Int}(h:incl s l a=l)(ha:s.has a=true):a∈l:=by
 rw[incl,if_pos ha]at h
 rw[←h];exact Ya.2 (.inl rfl)
theorem IC{s:Hp}{l:List Int}{a x:Int}(h:x∈incl s l a):(x=a∧s.has a=true)∨x∈l:=by
 unfold incl at h
 split at h
 ·rcases Ya.1 h with h|h
  ·exact .inl ⟨h,by assumption⟩
  ·exact .inr h
 ·exact .inr h
theorem Yj{s:Hp}{o:Ob}{j:Nat}{l:List Int}{r:Int}(h:o.refs[j]?=some r):Nc s o (j+1) l=if Jj o.kd j=true then incl s (Nc s o j l) r else Nc s o j l:=by
 have hj:=Gd h
 unfold Nc
 rw[QL,h,VT,List.zipIdx_append,List.foldl_append]
 simp only[List.zipIdx_cons,List.zipIdx_nil,List.length_take,Nat.zero_add,List.foldl_cons,List.foldl_nil]
 rw[Nat.min_eq_left oM]
theorem Xn{s:Hp}{o:Ob}{j:Nat}{l:List Int}(hj:j<o.refs.length):AP (Nc s o j l) (Nc s o (j+1) l):=by
 rw[Yj (J9 hj)]
 split
 ·exact ZL _ _ _
 ·exact .refl _
theorem NS{s:Hp}{o:Ob}{l:List Int}:∀{i j:Nat},i≤j→j≤o.refs.length→AP (Nc s o i l) (Nc s o j l):=by
 intro i j hi
 induction hi with
 |refl=>intro _;exact .refl _
 |step h ih=>intro hj;exact(ih oM).trans (Xn oM)
theorem Gaf(s:Hp)(tb:Bool)(l:List Int)(o:Ob):AP l (Ux s tb l o):=by
 have h:AP l (Nc s o o.refs.length l):=NS (Nat.zero_le _) (Nat.le_refl _)
 unfold Ux
 split
 ·exact h.trans (ZL _ _ _)
 ·exact h
theorem Yu{s:Hp}{tb:Bool}{all:List Int}{j:Nat}{l:List Int}{a:Int}(h:all[j]?=some a):KS s tb all (j+1) l=match s.obj a with|some o=>Ux s tb (KS s tb all j l) o|none=>KS s tb all j l:=by
 unfold KS
 rw[QL,h,VT,List.foldl_append]
 rfl
theorem Xx{s:Hp}{tb:Bool}{all:List Int}{j:Nat}{l:List Int}(hj:j<all.length):AP (KS s tb all j l) (KS s tb all (j+1) l):=by
 rw[Yu (J9 hj)]
 split
 ·exact Gaf _ _ _ _
 ·exact .refl _
theorem Ud{s:Hp}{tb:Bool}{all:List Int}{l:List Int}:∀{i j:Nat},i≤j→j≤all.length→AP (KS s tb all i l) (KS s tb all j l):=by
 intro i j hi
 induction hi with
 |refl=>intro _;exact .refl _
 |step h ih=>intro hj;exact(ih oM).trans (Xx oM)
theorem squeeze{l k m:List Int}(hs:Zj l)(a:AP l k)(b:AP k m)(e:m=l):k=l:=by
 have h1:=a.len
 have h2:=b.len
 exact a.eq hs (by rw[e]at h2;omega)
theorem WX{s:Hp}{o:Ob}{l:List Int}(hs:Zj l)(h:Nc s o o.refs.length l=l){j:Nat}{r:Int}(hr:o.refs[j]?=some r) (hst:Jj o.kd j=true) (hh:s.has r=true):r∈l:=by
 have hj:=Gd hr
 have e0:Nc s o j l=l:=squeeze hs (NS (Nat.zero_le _) oM) (NS oM (Nat.le_refl _)) h
 have e1:Nc s o (j+1) l=l:=squeeze hs (NS (Nat.zero_le _) oM) (NS oM (Nat.le_refl _)) h
 rw[Yj hr,if_pos hst,e0]at e1
 exact P8 e1 hh
theorem Fp{s:Hp}{tb:Bool}{l:List Int}(hs:Zj l)(h:KS s tb l l.length l=l){a:Int}{o:Ob}(ha:a∈l)(ho:s.obj a=some o):Ux s tb l o=l:=by
 obtain⟨j,hj⟩:=List.mem_iff_getElem?.1 ha
 have hl:=Gd hj
 have e0:KS s tb l j l=l:=squeeze hs (Ud (Nat.zero_le _) oM) (Ud oM (Nat.le_refl _)) h
 have e1:KS s tb l (j+1) l=l:=squeeze hs (Ud (Nat.zero_le _) oM) (Ud oM (Nat.le_refl _)) h
 rw[Yu hj,ho,e0]at e1
 exact e1
theorem GcD{s:Hp}{st:Int→Prop}{tb:Bool}{l:List Int}(hs:Zj l)(h0:∀a,st a→s.has a=true→a∈l)(h:KS s tb l l.length l=l){a:Int}(ha:Kp s st tb a):a∈l:=by
 induction ha with
 |start h1 h2=>exact h0 _ h1 h2
 |@ref a b o j _ h2 h3 h4 h5 ih=>
  have e:=Fp hs h ih h2
  have e1:Nc s o o.refs.length l=l:=by
   refine squeeze hs (NS (Nat.zero_le _) (Nat.le_refl _)) ?_ e
   unfold Ux
   split
   ·exact ZL _ _ _
   ·exact .refl _
  exact WX hs e1 h3 h4 h5
 |@pair a b c o h1 _ h3 h4 h5 _ h7 h8 ih1 ih2=>
  have e:=Fp hs h ih1 h3
  have e1:Nc s o o.refs.length l=l:=by
   refine squeeze hs (NS (Nat.zero_le _) (Nat.le_refl _)) ?_ e
   unfold Ux
   split
   ·exact ZL _ _ _
   ·exact .refl _
  unfold Ux at e
  rw[e1,if_pos ⟨h1,h4,by rw[Qc,h5];exact ih2⟩,Qc,h7]at e
  exact P8 e h8
theorem Mr{s:Hp}{st:Int→Prop}{tb:Bool}{o:Ob}{a:Int}(ha:Kp s st tb a)(ho:s.obj a=some o){l:List Int}(hl:∀x∈l,Kp s st tb x):∀{j:Nat},j≤o.refs.length→∀x∈Nc s o j l,Kp s st tb x:=by
 intro j
 induction j with
 |zero=>intro _;exact hl
 |succ j ih=>
  intro hj x hx
  have hr:o.refs[j]?=some o.refs[j]:=J9 oM
  rw[Yj hr]at hx
  split at hx
  ·rename_i c
   rcases IC hx with⟨rfl,h⟩|h
   ·exact .ref ha ho hr c h
   ·exact ih oM x h
  ·exact ih oM x hx
theorem GbY{s:Hp}{st:Int→Prop}{tb:Bool}{o:Ob}{a:Int}(ha:Kp s st tb a)(ho:s.obj a=some o)(hk:o.kd=2→2≤o.refs.length){l:List Int}(hl:∀x∈l,Kp s st tb x):∀x∈Ux s tb l o,Kp s st tb x:=by
 intro x hx
 have h1:=Mr ha ho hl (Nat.le_refl _)
 unfold Ux at hx
 split at hx
 ·rename_i c
  rcases IC hx with⟨rfl,h⟩|h
  ·obtain⟨c1,c2,c3⟩:=c
   have h2:=hk c2
   have e0:o.refs[0]?=some (o.refs.getD 0 0):=by rw[Qc,J9 oM];rfl
   have e1:o.refs[1]?=some (o.refs.getD 1 0):=by rw[Qc,J9 oM];rfl
   exact .pair c1 ha ho c2 e0 (h1 _ c3) e1 h
  ·exact h1 x h
 ·exact h1 x hx
theorem Hp.Ok.F6{s:Hp}(k:s.Ok){a:Int}{o:Ob}(h:s.obj a=some o):(o.kd=1→1≤o.refs.length)∧(o.kd=2→2≤o.refs.length):=
 (k.ob o (Hp.Jy h).1).kd.2
theorem T_{s:Hp}(k:s.Ok){st:Int→Prop}{tb:Bool}{all l:List Int}(hall:∀x∈all,Kp s st tb x)(hl:∀x∈l,Kp s st tb x):∀{j:Nat},j≤all.length→∀x∈KS s tb all j l,Kp s st tb x:=by
 intro j
 induction j with
 |zero=>intro _;exact hl
 |succ j ih=>
  intro hj x hx
  have hr:all[j]?=some all[j]:=J9 oM
  rw[Yu hr]at hx
  split at hx
  ·rename_i o ho
   exact GbY (hall _ (JX hr)) ho (k.F6 ho).2 (ih oM) x hx
  ·exact ih oM x hx
theorem Hp.Ok.has_lt{s:Hp}(k:s.Ok){a:Int}(h:s.has a=true):0≤a∧a<4096:=by
 obtain⟨o,ho⟩:=Hp.J8.1 h
 obtain⟨h1,h2⟩:=Hp.Jy ho
 have h3:=(k.ob o h1).fits
 have h4:=o.size_pos
 have h5:=k.nb
 have h6:s.nw=64*s.blk.length:=rfl
 omega
theorem Hp.Ok.Ry{s:Hp}(k:s.Ok){l:List Int}(h:Zj l)(hl:∀x∈l,s.has x=true):l.length≤4096:=by
 rcases GgZ h (a:=0) (b:=4096) (fun x hx=>k.has_lt (hl x hx))with h|h
 ·omega
 ·rw[h];simp
end Go.Cs
namespace Go.Cs.Tryz
open Go Go.Cs A
def Dk:Gu:=S (T [m 54 13,f 55 5 12,l 56 1 55,le 57 56,b 58 .lss 54 57] (J 58 (X 6))) (S (B 7 (T [f 61 2 12,lg 62 3 61,m 63 13,q2 64 165 62 63] (I 64 (R [m 65 0,m 66 7,f 67 5 12,l 68 1 67,m 69 13,x 70 1 68 69,l 71 1 70,q3 72 163 65 66 71,m 7 72])))) (R [m 59 13,bk 60 .add 59 1,m 13 60]))
def FM:Gu:=S (T [m 36 11,m 37 10,le 38 37,b 39 .lss 36 38] (J 39 (X 4))) (S (B 5 (S (D [⟨m 46 0,4,0,0⟩,⟨m 47 10,5,0,0⟩,⟨m 48 11,6,0,0⟩,⟨x 49 1 47 48,7,0,0⟩,⟨l 50 1 49,8,1,0⟩,⟨q2 51 22 46 50,9,3,0⟩,⟨m 42 0,0,0,0⟩,⟨z 43 42,1,0,0⟩,⟨f 44 1 43,2,0,0⟩,⟨l 45 1 44,3,1,0⟩,⟨x 52 8 45 51,10,0,1⟩,⟨lg 53 8 52,11,1,1⟩,⟨e 12 (.new [i 0,i 0,i 0,i 0,i 0,.Gf,.Gf,.bool false]),12,0,0⟩,⟨st 8 12 53,13,3,1⟩]) (S (T [n 13 0] (B 6 (W Dk))) (T [m 73 2,m 74 73,gt 74 (f 75 2 12),gt 74 (f 76 2 75),gt 74 (l 77 1 76),gt 74 (bk 78 .eql 77 2),an 79 74 78,m 80 79,gt 80 (m 81 7),gt 80 (f 82 5 12),gt 80 (l 83 1 82),gt 80 (e 84 (.index 1 (t 83) (k 0))),gt 80 (l 85 1 84),gt 80 (q2 86 23 81 85),an 87 80 86] (I 87 (R [m 88 0,m 89 7,f 90 5 12,l 91 1 90,e 92 (.index 1 (t 91) (k 1)),l 93 1 92,q3 94 163 88 89 93,m 7 94])))))) (R [m 40 11,bk 41 .add 40 1,m 11 41]))
def He:Gu:=S (T [m 28 9,m 29 7,le 30 29,b 31 .neq 28 30] (J 31 (X 2))) (B 3 (T [m 32 7,le 33 32,m 9 33] (T [m 34 7,q1 35 164 34,m 10 35] (T [n 11 0] (B 4 (W FM))))))
def IY:Gu:=S (T [m 15 8,m 16 1,le 17 16,b 18 .lss 15 17] (J 18 (X 0))) (S (B 1 (R [m 21 0,m 22 7,m 23 1,m 24 8,x 25 1 23 24,l 26 1 25,q3 27 163 21 22 26,m 7 27])) (R [m 19 8,bk 20 .add 19 1,m 8 20]))
def C67:Gm:=⟨96,0,T [e 6 (.K7 (c .Gf))] (T [e 14 (.buildSlice 1 [] 0 []),m 7 14] (S (T [n 8 0] (B 0 (W IY))) (S (T [n 9 (-1)] (B 2 (W He))) (Q [m 95 7,m 6 95])))),[r 6]⟩
theorem c67:P 67=some C67:=by kernel_rfl
end Go.Cs.Tryz
namespace Go.Cs.Tryz
open Go Go.Cs
section
variable {H : Gb} {o : Tags} {rb : Nat} {s : Hp} {L : N_}
def zOb:List CV:=[.int .i64 0,.int .i64 0,.int .i64 0,.int .i64 0,.int .i64 0,.Gf,.Gf,.bool false]
theorem Gk_{H:Gb}{r:List CV}(hr:r.length=8)(hl:r.all leaf=true):OT (H++[⟨zOb,.rw,0⟩]) H.length (some ⟨zOb,.rw,0⟩) 0 r=some (H++[⟨r,.rw,0⟩]):=by
 rw[GV (by rw[hr];simp[zOb]) hl]
 congr 1
 rw[List.set_append_right _ _ (Nat.le_refl _),Nat.sub_self]
 simp[zOb,splice,hr]
structure Kl(s:Hp)(st:Int→Prop)(tb:Bool)(l:List Int):Prop where
 SN:Zj l
 kp:∀x∈l,Kp s st tb x
theorem Kl.few{st:Int→Prop}{tb:Bool}{l:List Int}(h:Kl s st tb l)(k:s.Ok):l.length≤4096:=k.Ry h.SN fun x hx=>(h.kp x hx).has
theorem Gfn(m:JO o H rb s L)(k:s.Ok){st:Int→Prop}{tb:Bool}{a:Int}{x:Ob}(ha:Kp s st tb a)(hx:s.obj a=some x){ob:Nat}(Vj:H[ob]?=some ⟨GN L.hv x,.rw,0⟩) {w:CV} {l:List Int} (hw:LI H w l) (kl:Kl s st tb l)
  {E0:Env} (h0:E0 0=.ptr rb 0) (h7:E0 7=w) (h12:E0 12=.ptr ob 0) (h13:E0 13=.i 0) {r:Option (CX×Env×Gb)} (hr:den P (.loop Dk) E0 H=r):
  ∃E' H' w',r=some (.exit 6,E',H')∧Gr H H'∧E' 7=w'∧LI H' w' (Nc s x x.refs.length l)∧∀t,t∉wr Dk→E' t=E0 t:=by
 have hxm:=(Hp.Jy hx).1
 have hok:=k.ob x hxm
 have hnr:=hok.nr
 obtain⟨x',E',H',e,-,⟨rfl,g,w',q1,q2⟩,fr⟩:=Gy (p:=P) (c:=Dk) (E0:=E0) (H0:=H)
  (fun q E H'=>∃(j:Nat)(w':CV),E 13=.i j∧j≤x.refs.length∧q=x.refs.length-j∧Gr H H'∧E 7=w'∧LI H' w' (Nc s x j l))
  (fun x' E' H'=>x'=.exit 6∧Gr H H'∧∃w',E' 7=w'∧LI H' w' (Nc s x x.refs.length l)) (by
   rintro q E H' hE ⟨j,w',e13,hj,rfl,g,e7,li⟩
   have e0:=(hE 0 dK).trans h0
   have e12:=(hE 12 dK).trans h12
   have m':=m.gr g
   obtain⟨rv,hrv⟩:∃rv,rv=(L.hv x.id).1:=⟨_,rfl⟩
   have hrf:=(m'.refs x hxm).1
   rw[←hrv]at hrf
   have hvl:=hrf.len H'
   have t0:=g.get Vj
   unfold GN at t0
   rw[←hrv]at t0
   have kl':Kl s st tb (Nc s x j l):=⟨(NS (Nat.zero_le _) hj).SN kl.SN,Mr ha hx kl.kp hj⟩
   have Wn:=kl'.few k
   by_cases c:j<x.refs.length
   ·have c':decide ((j:Int)<(x.refs.length:Int))=true:=GK oM
    have hr:x.refs[j]?=some x.refs[j]:=J9 c
    obtain⟨r,hre⟩:∃r,r=x.refs[j]:=⟨_,rfl⟩
    rw[←hre]at hr
    obtain⟨b,f,i1,i2,i3⟩:=LI.at (At.il hrf) hr
    have w1:IntKind.i64.wrap ((j:Int)+1)=((j+1:Nat):Int):=Gh oM
    have hst:=Gap (H:=H') x.refs.length x.data.length x.kd j
    obtain⟨X,hX⟩:∃X:Gb,X=H'++[⟨Je x.refs.length x.data.length x.kd,.rw,0⟩]:=⟨_,rfl⟩
    have gX:Gr H' X:=by rw[hX];exact Gr.app _ _
    rw[←hX]at hst
    unfold Je at hst
    have i3X:=i3 X gX
    have t0X:=gX.get t0
    suffices fin:∃E' H2 w2,den P Dk E H'=some (.normal,E',H2)∧E' 13=.i ((j+1:Nat):Int)∧Gr H' H2∧E' 7=w2∧LI H2 w2 (Nc s x (j+1) l)by
     obtain⟨E',H2,w2,f1,f2,f3,f4,f5⟩:=fin
     exact Gt f1 (k':=x.refs.length-(j+1)) oM ⟨j+1,w2,f2,oM,rfl,g.trans f3,f4,f5⟩
    rw[Yj hr]
    cases hsb:Jj x.kd j with
    |true=>
     rw[hsb]at hst
     obtain⟨v',X2,a1,a2,a3⟩:=ZN (m'.gr gX) k (li.gr gX) oM r
     simp(disch:=first|exact dz|fail) only[simprocAttr,Gc,↓reduceIte,Dk,e0,e7,e12,e13,t0,hvl,c',hst,t0X,i1,i3X,a1,w1]
     exact⟨_,_,v',rfl,uA,gX.trans a2,uA,a3⟩
    |false=>
     rw[hsb]at hst
     simp(disch:=first|exact dz|fail) only[simprocAttr,Gc,↓reduceIte,Dk,e0,e7,e12,e13,t0,hvl,c',hst,w1]
     exact⟨_,_,w',rfl,uA,gX,by simp[Gg,e7],li.gr gX⟩
   ·have c':decide ((j:Int)<(x.refs.length:Int))=false:=GC oM
    have hjj:j=x.refs.length:=by omega
    rw[hjj]at li
    apply Gl (x:=.exit 6)
    ·simp(disch:=first|exact dz|fail) only[simprocAttr,Gc,↓reduceIte,Dk,e12,e13,t0,hvl,c']
     rfl
    ·simp
    ·exact⟨rfl,g,w',by simp[Gg,e7],li⟩) _ ⟨0,w,h13,oM,rfl,Keeps.refl _ _,h7,hw⟩
 exact⟨E',H',w',hr.symm.trans e,g,q1,q2,fr⟩
theorem Gd3(m:JO o H rb s L)(k:s.Ok){st:Int→Prop}{tb:Bool}{all:List Int}{w0:CV}(hw0:LI H w0 all)(kla:Kl s st tb all){w:CV}{l:List Int}(hw:LI H w l)(kl:Kl s st tb l)
  {E0:Env}(h0:E0 0=.ptr rb 0)(h2:E0 2=.bool tb)(h7:E0 7=w)(h10:E0 10=w0)(h11:E0 11=.i 0){r:Option (CX×Env×Gb)}(hr:den P (.loop FM) E0 H=r):
  ∃E' H' w',r=some (.exit 4,E',H')∧Gr H H'∧E' 7=w'∧LI H' w' (KS s tb all all.length l)∧∀t,t∉wr FM→E' t=E0 t:=by
 have hfa:=kla.few k
 obtain⟨x',E',H',e,-,⟨rfl,g,w',q1,q2⟩,fr⟩:=Gy (p:=P) (c:=FM) (E0:=E0) (H0:=H)
  (fun q E H'=>∃(j:Nat)(w':CV),E 11=.i j∧j≤all.length∧q=all.length-j∧Gr H H'∧E 7=w'∧LI H' w' (KS s tb all j l))
  (fun x' E' H'=>x'=.exit 4∧Gr H H'∧∃w',E' 7=w'∧LI H' w' (KS s tb all all.length l)) (by
   rintro q E H' hE ⟨j,w',e11,hj,rfl,g,e7,li⟩
   have e0:=(hE 0 dK).trans h0
   have e2:=(hE 2 dK).trans h2
   have e10:=(hE 10 dK).trans h10
   have m':=m.gr g
   have hvl:=hw0.len H'
   have kl':Kl s st tb (KS s tb all j l):=⟨(Ud (Nat.zero_le _) hj).SN kl.SN,T_ k kla.kp kl.kp hj⟩
   have Wn:=kl'.few k
   by_cases c:j<all.length
   ·have c':decide ((j:Int)<(all.length:Int))=true:=GK oM
    have hr:all[j]?=some all[j]:=J9 c
    obtain⟨a,hae⟩:∃a,a=all[j]:=⟨_,rfl⟩
    rw[←hae]at hr
    have hka:=kla.kp a (JX hr)
    obtain⟨x,hx⟩:=Hp.J8.1 hka.has
    obtain⟨b,f,i1,i2,i3⟩:=LI.at hw0 hr
    have V3:=i3 H' g
    have w1:IntKind.i64.wrap ((j:Int)+1)=((j+1:Nat):Int):=Gh oM
    have hix:=NU m' k a
    unfold Hp.KJ at hix
    rw[if_pos hka.has]at hix
    have hxi:=Hp.YM hx
    obtain⟨b2,n,tl,q1,q2,q3,q4,q5,q6⟩:=JO.row m' hxi
    have hc:=m'.cells
    rw[q1]at hc
    have q7:EZ (some (⟨Gz L.hv s.objs,.rw,8⟩:JI)) (s.idx a*8) 8=some (GN L.hv x):=by
     rw[Ug,if_pos oM,YN hxi]
    obtain⟨X,hX⟩:∃X:Gb,X=H'++[⟨GN L.hv x,.rw,0⟩]:=⟨_,rfl⟩
    have gX:Gr H' X:=by rw[hX];exact Gr.app _ _
    have tX:X[H'.length]?=some ⟨GN L.hv x,.rw,0⟩:=by rw[hX];simp
    have hxm:=(Hp.Jy hx).1
    have hrf:=(m'.refs x hxm)
    suffices fin:∃E' H2 w2,den P FM E H'=some (.normal,E',H2)∧E' 11=.i ((j+1:Nat):Int)∧Gr H' H2∧E' 7=w2∧LI H2 w2 (Ux s tb (KS s tb all j l) x)by
     obtain⟨E',H2,w2,f1,f2,f3,f4,f5⟩:=fin
     exact Gt f1 (k':=all.length-(j+1)) oM ⟨j+1,w2,f2,oM,rfl,g.trans f3,f4,by rw[Yu hr,hx];exact f5⟩
    have hs8:=Gk_ (H:=H') (r:=GN L.hv x) rfl (by simp[GN,Gq,JM,hrf.1.leaf,hrf.2.leaf])
    unfold GN at q7 hX hs8
    unfold zOb at hs8
    have lf1:=hrf.1.leaf
    have lf2:=hrf.2.leaf
    simp(disch:=first|exact dz|fail) only[simprocAttr,Gc,↓reduceIte,FM,e0,e2,e7,e10,e11,hvl,c',hc,i1,i2,V3,hix,q3,q5,q7,fill,splice,and_self]
    rw[hs8,←hX]
    simp(disch:=first|exact dz|fail) only[simprocAttr,Gc,↓reduceIte,e7]
    generalize hr:den P (.loop Dk) _ _=r
    obtain⟨E2,X2,w2,rfl,g2,a7,a8,f2⟩:=Gfn (m'.gr gX) k hka hx tX (li.gr gX) kl' (by simp[Gg,e0]) (by simp[Gg,e7]) uA uA hr
    have b0:=f2 0 dK
    have b2:=f2 2 dK
    have b12:=f2 12 dK
    have b11:=f2 11 dK
    simp only[Gg,Nat.reduceEqDiff,↓reduceIte,e0,e2,e11]at b0 b2 b12 b11
    have t2:=g2.get tX
    unfold GN at t2
    have klr:Kl s st tb (Nc s x x.refs.length (KS s tb all j l)):=⟨(NS (Nat.zero_le _) (Nat.le_refl _)).SN kl'.SN,Mr hka hx kl'.kp (Nat.le_refl _)⟩
    have hfr:=klr.few k
    unfold Ux
    cases htb:tb with
    |false=>
     rw[htb]at b2 a8
     simp(disch:=first|exact dz|fail) only[simprocAttr,Gc,↓reduceIte,b2,b11,w1]
     exact⟨_,_,w2,rfl,uA,gX.trans g2,by simp[Gg,a7],by rw[if_neg sM];exact a8⟩
    |true=>
     rw[htb]at b2 a8
     by_cases hkd:x.kd=2
     ·have hk2:((x.kd:Int)==2)=true:=by rw[hkd];rfl
      have h2:=(k.F6 hx).2 hkd
      have hr0:x.refs[0]?=some (x.refs.getD 0 0):=by rw[Qc,J9 oM];rfl
      have hr1:x.refs[1]?=some (x.refs.getD 1 0):=by rw[Qc,J9 oM];rfl
      obtain⟨c0,f0,j1,-,j3⟩:=LI.at (At.il hrf.1) hr0
      obtain⟨c1,f1,u1,-,u3⟩:=LI.at (At.il hrf.1) hr1
      have j1:∀X,Kb 1 (L.hv x.id).1 (.i 0) X=some (.ptr c0 f0,X):=j1
      have u1:∀X,Kb 1 (L.hv x.id).1 (.i 1) X=some (.ptr c1 f1,X):=u1
      have j3':=j3 X2 (gX.trans g2)
      have u3':=u3 X2 (gX.trans g2)
      rw[htb]at hfr
      have hhas:=Ga_ a8 oM (x.refs.getD 0 0)
      by_cases hc0:x.refs.getD 0 0∈Nc s x x.refs.length (KS s true all j l)
      ·rw[GK hc0]at hhas
       obtain⟨v3,X3,d1,d2,d3⟩:=ZN (m'.gr (gX.trans g2)) k a8 oM (x.refs.getD 1 0)
       simp(disch:=first|exact dz|fail) only[simprocAttr,Gc,↓reduceIte,b0,b2,b11,b12,t2,hk2,a7,j1,j3',hhas,u1,u3',d1,w1]
       exact⟨_,_,v3,rfl,uA,(gX.trans g2).trans d2,uA,by rw[if_pos ⟨trivial,hkd,hc0⟩];exact d3⟩
      ·rw[GC hc0]at hhas
       simp(disch:=first|exact dz|fail) only[simprocAttr,Gc,↓reduceIte,b0,b2,b11,b12,t2,hk2,a7,j1,j3',hhas,w1]
       exact⟨_,_,w2,rfl,uA,gX.trans g2,by simp[Gg,a7],by rw[if_neg (fun h=>hc0 h.2.2)];exact a8⟩
     ·have hk2:((x.kd:Int)==2)=false:=VZ.2 oM
      simp(disch:=first|exact dz|fail) only[simprocAttr,Gc,↓reduceIte,b2,b11,b12,t2,hk2,w1]
      exact⟨_,_,w2,rfl,uA,gX.trans g2,by simp[Gg,a7],by rw[if_neg (by simp[hkd])];exact a8⟩
   ·have c':decide ((j:Int)<(all.length:Int))=false:=GC oM
    have hjj:j=all.length:=by omega
    rw[hjj]at li
    apply Gl (x:=.exit 4)
    ·simp(disch:=first|exact dz|fail) only[simprocAttr,Gc,↓reduceIte,FM,e10,e11,hvl,c']
     rfl
    ·simp
    ·exact⟨rfl,g,w',by simp[Gg,e7],li⟩) _ ⟨0,w,h11,oM,rfl,Keeps.refl _ _,h7,hw⟩
 exact⟨E',H',w',hr.symm.trans e,g,q1,q2,fr⟩
end
end Go.Cs.Tryz

namespace Go.Cs
open Go
def DR(s:Hp)(st:List Int)(j:Nat):List Int:=(st.take j).foldl (incl s) []
theorem Ot{s:Hp}{st:List Int}{j:Nat}{a:Int}(h:st[j]?=some a):DR s st (j+1)=incl s (DR s st j) a:=by
 unfold DR
 rw[QL,h,VT,List.foldl_append]
 rfl
end Go.Cs
namespace Go.Cs.Tryz
open Go Go.Cs
section
variable {H : Gb} {o : Tags} {rb : Nat} {s : Hp} {L : N_}
theorem Gfj(m:JO o H rb s L)(k:s.Ok){tb:Bool}{st:List Int}(hn:st.length≤100000){w0:CV}(hw0:LI H w0 st){w:CV}(hw:LI H w [])
  {E0:Env}(h0:E0 0=.ptr rb 0)(h1:E0 1=w0)(h7:E0 7=w)(h8:E0 8=.i 0){r:Option (CX×Env×Gb)}(hr:den P (.loop IY) E0 H=r):
  ∃E' H' w' l,r=some (.exit 0,E',H')∧Gr H H'∧E' 7=w'∧LI H' w' l∧Kl s (fun a=>a∈st) tb l∧(∀a∈st,s.has a=true→a∈l)∧∀t,t∉wr IY→E' t=E0 t:=by
 have facts:∀j,j≤st.length→Kl s (fun a=>a∈st) tb (DR s st j)∧∀i a,i<j→st[i]?=some a→s.has a=true→a∈DR s st j:=by
  intro j
  induction j with
  |zero=>intro _;exact⟨⟨List.Pairwise.nil,fun x hx=>by simp[DR]at hx⟩,fun i a hi=>by omega⟩
  |succ j ih=>
   intro hj
   obtain⟨i1,i2⟩:=ih oM
   have hr:st[j]?=some st[j]:=J9 oM
   rw[Ot hr]
   have ex:=ZL s (DR s st j) st[j]
   refine⟨⟨ex.SN i1.SN,fun x hx=>?_⟩,fun i a hi ha hh=>?_⟩
   ·rcases IC hx with⟨rfl,h⟩|h
    ·exact .start (JX hr) h
    ·exact i1.kp x h
   ·by_cases c:i=j
    ·subst c
     rw[hr]at ha
     simp only[Gx]at ha
     rw[incl,if_pos (by rw[ha];exact hh)]
     exact Ya.2 (.inl ha.symm)
    ·exact ex.sub a (i2 i a oM ha hh)
 obtain⟨x',E',H',e,-,⟨rfl,g,w',q1,q2⟩,fr⟩:=Gy (p:=P) (c:=IY) (E0:=E0) (H0:=H)
  (fun q E H'=>∃(j:Nat)(w':CV),E 8=.i j∧j≤st.length∧q=st.length-j∧Gr H H'∧E 7=w'∧LI H' w' (DR s st j))
  (fun x' E' H'=>x'=.exit 0∧Gr H H'∧∃w',E' 7=w'∧LI H' w' (DR s st st.length)) (by
   rintro q E H' hE ⟨j,w',e8,hj,rfl,g,e7,li⟩
   have e0:=(hE 0 dK).trans h0
   have e1:=(hE 1 dK).trans h1
   have m':=m.gr g
   have hvl:=hw0.len H'
   have Wn:=(facts j hj).1.few k
   by_cases c:j<st.length
   ·have c':decide ((j:Int)<(st.length:Int))=true:=GK oM
    have hr:st[j]?=some st[j]:=J9 c
    obtain⟨a,hae⟩:∃a,a=st[j]:=⟨_,rfl⟩
    rw[←hae]at hr
    obtain⟨b,f,i1,i2,i3⟩:=LI.at hw0 hr
    have V3:=i3 H' g
    have w1:IntKind.i64.wrap ((j:Int)+1)=((j+1:Nat):Int):=Gh oM
    obtain⟨v',X2,a1,a2,a3⟩:=ZN m' k li oM a
    apply Gt (k':=st.length-(j+1))
    ·simp(disch:=first|exact dz|fail) only[simprocAttr,Gc,↓reduceIte,IY,e0,e1,e7,e8,hvl,c',i1,V3,a1,w1]
     rfl
    ·omega
    ·exact⟨j+1,v',uA,oM,rfl,g.trans a2,uA,by rw[Ot hr];exact a3⟩
   ·have c':decide ((j:Int)<(st.length:Int))=false:=GC oM
    have hjj:j=st.length:=by omega
    rw[hjj]at li
    apply Gl (x:=.exit 0)
    ·simp(disch:=first|exact dz|fail) only[simprocAttr,Gc,↓reduceIte,IY,e1,e8,hvl,c']
     rfl
    ·simp
    ·exact⟨rfl,g,w',by simp[Gg,e7],li⟩) _ ⟨0,w,h8,oM,rfl,Keeps.refl _ _,h7,hw⟩
 obtain⟨f1,f2⟩:=facts st.length (Nat.le_refl _)
 exact⟨E',H',w',_,hr.symm.trans e,g,q1,q2,f1,fun a ha hh=>by
  obtain⟨i,hi⟩:=List.mem_iff_getElem?.1 ha
  exact f2 i a (Gd hi) hi hh,fr⟩
theorem GeV(m:JO o H rb s L)(k:s.Ok){tb:Bool}{st:Int→Prop}{w:CV}{l:List Int}(hw:LI H w l)(kl:Kl s st tb l)(hst:∀a,st a→s.has a=true→a∈l)
  {E0:Env}(h0:E0 0=.ptr rb 0)(h2:E0 2=.bool tb)(h7:E0 7=w)(h9:E0 9=.i (-1)){r:Option (CX×Env×Gb)}(hr:den P (.loop He) E0 H=r):
  ∃E' H' w' l',r=some (.exit 2,E',H')∧Gr H H'∧E' 7=w'∧LI H' w' l'∧Zj l'∧(∀x,x∈l'↔Kp s st tb x)∧∀t,t∉wr He→E' t=E0 t:=by
 obtain⟨x',E',H',e,-,⟨rfl,g,w',l',q1,q2,q3,q4⟩,fr⟩:=Gy (p:=P) (c:=He) (E0:=E0) (H0:=H)
  (fun q E H'=>∃(b:Int)(w':CV)(l':List Int),E 9=.i b∧q=2*(5000-l'.length)+(if b=(l'.length:Int)then 0 else 1)∧Gr H H'∧E 7=w'∧LI H' w' l'∧Kl s st tb l'∧(∀a,st a→s.has a=true→a∈l')∧(b=(l'.length:Int)→KS s tb l' l'.length l'=l'))
  (fun x' E' H'=>x'=.exit 2∧Gr H H'∧∃w' l',E' 7=w'∧LI H' w' l'∧Zj l'∧∀x,x∈l'↔Kp s st tb x) (by
   rintro q E H' hE ⟨b,w',l',e9,rfl,g,e7,li,kl,hst,hcl⟩
   have e0:=(hE 0 dK).trans h0
   have e2:=(hE 2 dK).trans h2
   have m':=m.gr g
   have hvl:=li.len H'
   have Wn:=kl.few k
   by_cases c:b=(l'.length:Int)
   ·have c':(b != (l'.length:Int))=false:=by rw[c];simp
    apply Gl (x:=.exit 2)
    ·simp(disch:=first|exact dz|fail) only[simprocAttr,Gc,↓reduceIte,He,e7,e9,hvl,c']
     rfl
    ·simp
    ·exact⟨rfl,g,w',l',by simp[Gg,e7],li,kl.SN,fun x=>⟨fun h=>kl.kp x h,fun h=>GcD kl.SN hst (hcl c) h⟩⟩
   ·have c':(b != (l'.length:Int))=true:=by simpa using c
    obtain⟨v',X1,a1,g1,li1⟩:=GeD li oM
    have kp2:Kl s st tb (KS s tb l' l'.length l'):=⟨(Ud (Nat.zero_le _) (Nat.le_refl _)).SN kl.SN,T_ k kl.kp kl.kp (Nat.le_refl _)⟩
    have hf2:=kp2.few k
    have ex:AP l' (KS s tb l' l'.length l'):=Ud (Nat.zero_le _) (Nat.le_refl _)
    suffices fin:∃E' H2 w2,den P He E H'=some (.normal,E',H2)∧E' 9=.i (l'.length:Int)∧Gr H' H2∧E' 7=w2∧LI H2 w2 (KS s tb l' l'.length l')by
     obtain⟨E',H2,w2,f1,f2,f3,f4,f5⟩:=fin
     have hle:=ex.len
     refine Gt f1 (k':=2*(5000-(KS s tb l' l'.length l').length)+(if(l'.length:Int)=((KS s tb l' l'.length l').length:Int)then 0 else 1)) ?_ ⟨_,w2,_,f2,rfl,g.trans f3,f4,f5,kp2,fun a h1 h2=>ex.sub a (hst a h1 h2),fun h=>?_⟩
     ·rw[if_neg c]
      split<;>omega
     ·have:=ex.eq kl.SN oM
      rw[this];exact this
    simp(disch:=first|exact dz|fail) only[simprocAttr,Gc,↓reduceIte,He,e7,e9,hvl,c',a1]
    generalize hr:den P (.loop FM) _ _=r
    obtain⟨E2,X2,w2,rfl,g2,a7,a8,f2⟩:=Gd3 (m'.gr g1) k li1 kl (li.gr g1) kl (by simp[Gg,e0]) (by simp[Gg,e2]) (by simp[Gg,e7]) uA uA hr
    have b9:=f2 9 dK
    simp only[Gg,Nat.reduceEqDiff,↓reduceIte]at b9
    simp(disch:=first|exact dz|fail) only[simprocAttr,Gc,↓reduceIte]
    exact⟨_,_,w2,rfl,b9,g1.trans g2,a7,a8⟩) _ ⟨-1,w,l,h9,rfl,Keeps.refl _ _,h7,hw,kl,hst,fun h=>by omega⟩
 exact⟨E',H',w',l',hr.symm.trans e,g,q1,q2,q3,q4,fr⟩
theorem Gcy(m:JO o H rb s L)(k:s.Ok)(tb:Bool){st:List Int}(hn:st.length≤100000){w0:CV}(hw0:LI H w0 st):
  ∃w' H' l,run P 67 [.ptr rb 0,w0,.bool tb] H=some (w',H')∧Gr H H'∧LI H' w' l∧Zj l∧∀x,x∈l↔Kp s (fun a=>a∈st) tb x:=by
 obtain⟨X,hX⟩:∃X:Gb,X=H++[⟨[],.rw,1⟩]:=⟨_,rfl⟩
 have gX:Gr H X:=by rw[hX];exact Gr.app _ _
 rw[Gi c67 _ _ sM]
 simp(disch:=first|exact dz|fail) only[simprocAttr,Gc,↓reduceIte,G8,Ut]
 rw[←hX]
 generalize hr:den P (.loop IY) _ _=r
 obtain⟨E1,X1,w1,l1,rfl,g1,a7,li1,kl1,hs1,f1⟩:=Gfj (tb:=tb) (m.gr gX) k hn (hw0.gr gX) (w:=.slice H.length 0 0 0 1 false) (.inl ⟨rfl,rfl,.inr ⟨_,_,rfl⟩⟩) uA uA uA uA hr
 have b0:=f1 0 dK
 have b2:=f1 2 dK
 simp only[Gg,Nat.reduceEqDiff,↓reduceIte]at b0 b2
 simp(disch:=first|exact dz|fail) only[simprocAttr,Gc,↓reduceIte]
 generalize hr:den P (.loop He) _ _=r
 obtain⟨E2,X2,w2,l2,rfl,g2,c7,li2,s2,k2,f2⟩:=GeV ((m.gr gX).gr g1) k li1 kl1 hs1 (by simp[Gg,b0]) (by simp[Gg,b2]) (by simp[Gg,a7]) uA hr
 simp(disch:=first|exact dz|fail) only[simprocAttr,Gc,↓reduceIte,c7]
 exact⟨w2,X2,l2,rfl,(gX.trans g1).trans g2,li2,s2,k2⟩
end
end Go.Cs.Tryz
namespace Go.Cs.Tryz
open Go Go.Cs A
def C19:Gm:=⟨15,0,T [e 2 (.K7 (c .Gf))] (S (D [⟨m 3 0,0,0,0⟩,⟨z 4 3,1,0,0⟩,⟨f 5 0 4,2,0,0⟩,⟨l 6 1 5,3,1,0⟩,⟨q1 7 21 6,4,3,0⟩,⟨m 8 0,5,0,0⟩,⟨z 9 8,6,0,0⟩,⟨f 10 1 9,7,0,0⟩,⟨l 11 1 10,8,1,0⟩,⟨q1 12 68 11,9,3,1⟩,⟨q1 13 69 12,10,3,2⟩,⟨ca 14 67 [t 7,t 13,c (.bool true)],11,3,3⟩,⟨m 2 14,12,0,4⟩]) .ret),[r 2]⟩
theorem c19:P 19=some C19:=by kernel_rfl
def MI:Gu:=S (T [m 11 5,m 12 0,le 13 12,b 14 .lss 11 13] (J 14 (X 0))) (S (B 1 (S (D [⟨m 17 0,0,0,0⟩,⟨m 18 5,1,0,0⟩,⟨x 19 1 17 18,2,0,0⟩,⟨l 20 1 19,3,1,0⟩,⟨m 21 1,4,0,0⟩,⟨m 22 5,5,0,0⟩,⟨x 23 1 21 22,6,0,0⟩,⟨l 24 1 23,7,1,0⟩,⟨b 25 .neq 20 24,8,0,0⟩]) (I 25 (Q [nb 4 false])))) (R [m 15 5,bk 16 .add 15 1,m 5 16]))
def C20:Gm:=⟨26,0,T [nb 4 false] (S (T [m 6 0,le 7 6,m 8 1,le 9 8,b 10 .neq 7 9] (I 10 (Q [nb 4 false]))) (S (T [n 5 0] (B 0 (W MI))) (Q [nb 4 true]))),[r 4]⟩
theorem c20:P 20=some C20:=by kernel_rfl
end Go.Cs.Tryz
