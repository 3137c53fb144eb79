/- WeakTwo returns true for every input: Kept and Waiting return the kept objects of the document; after Clear with these no weak reference of a kept object leads to one that is not kept, and a second Clear has no effect (P19.1, P19.2) Conditions: none. -/
import Derived.Test.YthpfmihkegbbgaaGreatDoorWeakTwo4
import Derived.Test.YthpfmihkegbbgaaGreatDoorProg
import Derived.KernelRfl
import Derived.Shelf.SlIterI.Nil
import Derived.Shelf.SortM.Plain
import Derived.Shelf.SortM.SortNone
import Derived.Ground.GgzProg
import Derived.Ground.SlgmProg
import Derived.Test.YthpfmihkegbbgaaGreatDoorRows
import Derived.ProofKit
import Derived.LaidMore
import Derived.OpenShut
import Derived.MakeChecks
import Derived.Test.YthpfmihkegbbgaaGreatDoorCards
import Derived.Test.YthpfmihkegbbgaaGreatDoorTie
import Derived.WalkKit
import Derived.ShutString
import Derived.ChangeOld
import Derived.Below
import Derived.SizedLaws
import Derived.Carry
set_option linter.unusedVariables false
set_option linter.unusedSimpArgs false
set_option linter.defProp false
set_option maxRecDepth 100000
namespace Go.Cs
open Go
def Hp.unlink(s:Hp)(head:Int)(x:MC):Hp:=
 ((s.setRef x.fr x.ref (s.Jq x.addr 2).1).1.KW head 0 (IntKind.i64.wrap (((s.setRef x.fr x.ref (s.Jq x.addr 2).1).1.Kh head 0).1-1))).1
theorem GdJ{s:Hp}{b:Nat}{a:Int}(h:s.MX b a=true):s.has a=true:=by
 have h1:=(Bool.and_eq_true_iff.1 h).1
 unfold Hp.MK at h1
 rw[Hp.J8]
 split at h1
 ·rename_i o ho;exact⟨o,ho⟩
 ·cases h1
theorem Lr{s:Hp}{b:Nat}{x:MC}:∀{q:Nat}{fr rf:Int}{seen:List Int},x∈(s.chain b q fr rf seen).1→x.fr=fr∨s.has x.fr=true
 |0,_,_,_,h=>by cases h
 |q+1,fr,rf,seen,h=>by
  rw[Hp.YV]at h
  split at h
  ·cases h
  ·split at h
   ·rename_i hg
    rcases List.mem_cons.1 h with rfl|h
    ·exact .inl rfl
    ·rcases Lr h with h|h
     ·rw[h];exact .inr (GdJ hg.1)
     ·exact .inr h
   ·cases h
theorem Gb1{s:Hp}{head:Int}{x:MC}:∀{q b:Nat}{seen:List Int},x∈(s.tabs head q b seen).1→x.fr=head∨s.has x.fr=true
 |0,_,_,h=>by cases h
 |q+1,b,seen,h=>by
  rw[Hp.Au]at h
  split at h
  ·rcases NG.1 h with h|h
   ·exact Lr h
   ·exact Gb1 h
  ·exact Lr h
theorem Hp.Ok.unlink{s:Hp}(k:s.Ok)(head:Int)(x:MC):(s.unlink head x).Ok:=(k.setRef _ _ _).KW _ _ _
end Go.Cs
namespace Go.Cs.Tryz
open Go Go.Cs
section
variable {H : Gb} {hb : Nat} {s : Hp} {L : GD}
theorem Wd(p:PH H hb s L)(k:s.Ok)(hs:QS s){head:Int}(hhd:head≤9223372036854775807){x:MC}(hxa:x.addr≤9223372036854775807)(hxf:x.fr≤9223372036854775807):
  ∃H',run P 119 [.agg [.ptr hb 0,.i head],.agg (QB x)] H=some (.Ju [],H')∧Keeps H H' (·∈L.all hb)∧PH H' hb (s.unlink head x) L:=by
 obtain⟨X,hX⟩:∃X:Gb,X=H++[⟨[.ptr hb 0,.i head],.rw,0⟩]++[⟨QB x,.rw,0⟩]:=⟨_,rfl⟩
 have gX:Gr H X:=by rw[hX];exact(Gr.app H _).app' _
 have lX:X.length=H.length+2:=by rw[hX];simp
 have t2:X[H.length]?=some ⟨[.ptr hb 0,.i head],.rw,0⟩:=by rw[hX];simp
 have t3:X[H.length+1]?=some ⟨QB x,.rw,0⟩:=by rw[hX];simp
 have n2:H.length∉L.all hb:=fun h=>by have:=p.lt _ h;omega
 have n3:H.length+1∉L.all hb:=fun h=>by have:=p.lt _ h;omega
 obtain⟨H1,h1,g1⟩:=KF (p.gr gX) k x.addr 2 hxa
 unfold Uj at h1
 have h1':run P 76 [.ptr hb 0,.i x.addr,.int .i64 2] X=some (.Ju [.i (s.Jq x.addr 2).1,.i (s.Jq x.addr 2).2],H1):=h1
 obtain⟨to,hto⟩:∃to,to=(s.Jq x.addr 2).1:=⟨_,rfl⟩
 have hle:to≤9223372036854775807:=by
  rcases Hp.EF hs x.addr 2 with h|h
  ·rw[hto,h];decide
  ·have:=k.has_lt h;omega
 rw[←hto]at h1'
 obtain⟨H2,h2,k2,p2⟩:=NI ((p.gr gX).gr g1) k x.fr x.ref to hxf hle
 have ok2:=k.setRef x.fr x.ref to
 obtain⟨H3,h3,g3⟩:=EO p2 ok2 hhd
 obtain⟨d,hd⟩:∃d,d=IntKind.i64.wrap (((s.setRef x.fr x.ref to).1.Kh head 0).1-1):=⟨_,rfl⟩
 obtain⟨H4,h4,k4,p4⟩:=YP (p2.gr g3) ok2 head 0 d hhd
 have h4':run P 91 [.ptr hb 0,.i head,.int .i64 0,.i d] H3=some (.i ((s.setRef x.fr x.ref to).1.KW head 0 d).2,H4):=h4
 have u2:=g1.get t2
 have u3:=g1.get t3
 have v2:H2[H.length]?=_:=(k2.keep _ (Gd u2) n2).trans u2
 have w2:=g3.get v2
 have e:s.unlink head x=((s.setRef x.fr x.ref to).1.KW head 0 d).1:=by unfold Hp.unlink;rw[←hto,←hd]
 refine⟨H4,?_,(((gX.trans g1).weaken fun _ h=>h.elim).trans k2).trans ((Keeps.weaken g3 fun _ h=>h.elim).trans k4),by rw[e];exact p4⟩
 unfold QB at t3 u3 hX⊢
 rw[Gi c119 _ _ sM]
 simp(disch:=first|exact dz|fail) only[simprocAttr,Gc,↓reduceIte,Gj]
 rw[←hX]
 simp(disch:=first|exact dz|fail) only[simprocAttr,Gc,↓reduceIte,t2,t3,h1',u2,u3,h2,v2,h3,w2,←hd,h4',Giv]
theorem GeQ(p:PH H hb s L)(k:s.Ok)(hs:QS s){head:Int}(hhd:head≤9223372036854775807){gb tb nb N n:Nat}(hn:n≤100000)(hlN:gb<N∧tb<N∧nb<N∧gb≠tb∧gb≠nb∧tb≠nb)(hno:gb∉L.all hb∧tb∉L.all hb∧nb∉L.all hb)(hlt:∀c∈L.all hb,c<N)
  (all:List MC)(ha:∀x∈all,x.addr≤9223372036854775807∧x.fr≤9223372036854775807):
  EY N 118 [.ptr gb 0,.ptr tb 0,.ptr nb 0] hb s L all (fun i=>match all[i]? with|some x=>!(x.key==0)|none=>true)
   (fun i W H=>PH H hb s L∧H[gb]?=some ⟨[.bool false],.rw,0⟩∧H[tb]?=some ⟨[.ptr hb 0,.i head],.rw,0⟩∧H[nb]?=some ⟨[.i n],.rw,0⟩∧W=(fun c=>c∈L.all hb∨c=gb∨c=nb))
   (fun i W H=>H[gb]?=some ⟨[.bool true],.rw,0⟩∧H[tb]?=some ⟨[.ptr hb 0,.i head],.rw,0⟩∧H[nb]?=some ⟨[.i ((n+1:Nat):Int)],.rw,0⟩∧∃x,all[i]?=some x∧PH H hb (s.unlink head x) L) where
 lt:=by decide
 ph:=fun i W H h=>h.1
 gr:=fun i W H H' m h hm hw g=>⟨h.1.frame fun c hc=>g.keep c (h.1.lt c hc) fun e=>by have:=hlt c hc;omega,(g.keep gb (Gd h.2.1) oM).trans h.2.1,(g.keep tb (Gd h.2.2.1) oM).trans h.2.2.1,(g.keep nb (Gd h.2.2.2.1) oM).trans h.2.2.2.1,h.2.2.2.2⟩
 go:=fun i W H x hx hN h=>by
  obtain⟨h1,t1,t2,t3,rfl⟩:=h
  rw[hx]
  dsimp only
  have l1:=Gd t1
  have l2:=Gd t2
  have l3:=Gd t3
  rw[Gi Goz _ _ sM]
  by_cases c:x.key=0
  ·have c':(x.key==0)=true:=by rw[beq_iff_eq];exact c
   rw[c']
   obtain⟨Y,hY⟩:∃X:Gb,X=H.set gb ⟨[.bool true],.rw,0⟩++[⟨QB x,.rw,0⟩]:=⟨_,rfl⟩
   have kY:Keeps H Y (·=gb):=by rw[hY];exact(Keeps.set (w:=fun c=>c=gb) (Keeps.refl _ _) (.inl rfl) _).app' _
   have y4:Y[H.length]?=some ⟨QB x,.rw,0⟩:=by rw[hY,M_ sM];simp
   have y1:Y[gb]?=some ⟨[.bool true],.rw,0⟩:=by rw[hY,QN (by rw[List.length_set];exact l1),KI l1]
   have y2:Y[tb]?=_:=(kY.keep tb l2 oM).trans t2
   have y3:Y[nb]?=_:=(kY.keep nb l3 oM).trans t3
   obtain⟨a1,a2⟩:=ha x (JX hx)
   obtain⟨H2,h2,k2,p2⟩:=Wd (p:=h1.frame fun c hc=>kY.keep c (h1.lt c hc) fun e=>hno.1 (by rw[←e];exact hc)) k hs hhd a1 a2
   have z1:H2[gb]?=_:=(k2.keep gb (Gd y1) hno.1).trans y1
   have z2:H2[tb]?=_:=(k2.keep tb (Gd y2) hno.2.1).trans y2
   have z3:H2[nb]?=_:=(k2.keep nb (Gd y3) hno.2.2).trans y3
   have w1:IntKind.i64.wrap ((n:Int)+1)=((n+1:Nat):Int):=Gh oM
   have lz:=Gd z3
   refine⟨(fun c=>c∈L.all hb∨c=gb∨c=nb),H2.set nb ⟨[.i ((n+1:Nat):Int)],.rw,0⟩,?_,((kY.weaken fun c h=>.inr (.inl h)).trans (k2.weaken fun c h=>.inl h)).set (.inl (.inr (.inr rfl))) _,fun c h=>.inl h,(fun h=>by cases h),fun _=>⟨?_,?_,?_,x,rfl,p2.frame fun c hc=>by rw[JU];rintro rfl;exact hno.2.2 hc⟩⟩
   ·unfold QB at hY y4 h2⊢
    simp(disch:=first|exact dz|fail) only[simprocAttr,Gc,↓reduceIte,GJ,t1,t2,c',Q8,ZM,JM]
    rw[←hY]
    simp(disch:=first|exact dz|fail) only[simprocAttr,Gc,↓reduceIte,h2,z3,w1,z1,JU (Ne.symm hlN.2.2.2.2.1)]
   ·rw[JU oM,z1]
   ·rw[JU oM,z2]
   ·rw[KI lz]
  ·have c':(x.key==0)=false:=by rw[VZ];exact c
   rw[c']
   obtain⟨Y,hY⟩:∃X:Gb,X=H.set gb ⟨[.bool false],.rw,0⟩++[⟨QB x,.rw,0⟩]:=⟨_,rfl⟩
   have kY:Keeps H Y (·=gb):=by rw[hY];exact(Keeps.set (w:=fun c=>c=gb) (Keeps.refl _ _) (.inl rfl) _).app' _
   have y1:Y[gb]?=some ⟨[.bool false],.rw,0⟩:=by rw[hY,QN (by rw[List.length_set];exact l1),KI l1]
   refine⟨_,Y,?_,kY.weaken fun c h=>.inr (.inl h),fun c h=>.inl h,(fun _=>⟨h1.frame fun c hc=>kY.keep c (h1.lt c hc) fun e=>hno.1 (by rw[←e];exact hc),y1,(kY.keep tb l2 oM).trans t2,(kY.keep nb l3 oM).trans t3,rfl⟩),fun h=>by cases h⟩
   unfold QB at hY⊢
   simp(disch:=first|exact dz|fail) only[simprocAttr,Gc,↓reduceIte,GJ,t1,c',Q8,ZM,JM]
   rw[←hY]
inductive EU(head:Int):Hp→Nat→Hp→Prop
 |stop {s:Hp} (h:∀x∈(s.walk head).1,x.key≠0):EU head s 0 s
 |more {s s':Hp} {n:Nat} {x:MC} (hs:QS (s.unlink head x)) (hz:(s.unlink head x).has 0=false) (h:(s.walk head).1.find? (fun x=>x.key==0)=some x) (h':EU head (s.unlink head x) n s'):EU head s (n+1) s'
theorem F3{head:Int}(hhd:head≤9223372036854775807){tb nb gb n:Nat}(k:s.Ok)(hs:QS s)(h0:s.has 0=false)(p:PH H hb s L)(hn:n≤100000)(hno:tb∉L.all hb∧nb∉L.all hb∧gb∉L.all hb)(hne:tb≠nb∧gb≠tb∧gb≠nb)
  (t1:H[tb]?=some ⟨[.ptr hb 0,.i head],.rw,0⟩) (t2:H[nb]?=some ⟨[.i n],.rw,0⟩) (t3:H[gb]?=some ⟨[.bool true],.rw,0⟩) {E0:Env} (e6:E0 6=.ptr tb 0) (e8:E0 8=.ptr nb 0) (e9:E0 9=.ptr gb 0):
  ∃E' H' g,den P Fh E0 H=some (.normal,E',H'++[⟨[.bool g],.rw,0⟩])∧E' 6=.ptr tb 0∧E' 8=.ptr nb 0∧E' 9=.ptr H'.length 0∧Keeps H H' (fun c=>c∈L.all hb∨c=gb∨c=nb)∧H'[tb]?=some ⟨[.ptr hb 0,.i head],.rw,0⟩∧
   (
    (g=false∧(∀x∈(s.walk head).1,x.key≠0)∧PH H' hb s L∧H'[nb]?=some ⟨[.i n],.rw,0⟩)∨
    (g=true∧H'[nb]?=some ⟨[.i ((n+1:Nat):Int)],.rw,0⟩∧∃x,(s.walk head).1.find? (fun x=>x.key==0)=some x∧PH H' hb (s.unlink head x) L)):=by
 obtain⟨X,hX⟩:∃X:Gb,X=H.set gb ⟨[.bool false],.rw,0⟩:=⟨_,rfl⟩
 have l1:=Gd t1
 have l2:=Gd t2
 have l3:=Gd t3
 have lX:X.length=H.length:=by rw[hX,List.length_set]
 have kX:Keeps H X (·=gb):=by rw[hX];exact Keeps.set (w:=fun c=>c=gb) (Keeps.refl _ _) (.inl rfl) _
 have x1:X[tb]?=_:=(kX.keep tb l1 oM).trans t1
 have x2:X[nb]?=_:=(kX.keep nb l2 oM).trans t2
 have x3:X[gb]?=some ⟨[.bool false],.rw,0⟩:=by rw[hX,KI l3]
 have pX:PH X hb s L:=p.frame fun c hc=>kX.keep c (p.lt c hc) fun e=>hno.2.2 (by rw[←e];exact hc)
 have y:=GeQ pX k hs hhd (gb:=gb) (tb:=tb) (nb:=nb) (N:=X.length) hn oM (by exact⟨hno.2.2,hno.1,hno.2.1⟩) pX.lt (s.walk head).1 fun x hx=>⟨by have:=k.has_lt (Az hx).2;omega,by
  rcases Gb1 hx with h|h
  ·omega
  ·have:=k.has_lt h;omega⟩
 obtain⟨ok,H3,h3,k3,hr⟩:=Mf k hs h0 y hhd (W0:=fun c=>c∈L.all hb∨c=gb∨c=nb) ⟨pX,x3,x1,x2,rfl⟩ (fun c h=>by rcases h with h|h|h;exact pX.lt _ h;omega;omega) (Nat.le_refl _)
 have kk:Keeps H H3 (fun c=>c∈L.all hb∨c=gb∨c=nb):=(kX.weaken fun c h=>.inr (.inl h)).trans k3
 have tt:H3[tb]?=_:=(kk.keep tb l1 (fun h=>by rcases h with h|h|h;exact hno.1 h;omega;omega)).trans t1
 rcases hr with⟨-,hall,W,⟨p3,w3,w1,w2,-⟩,-⟩|⟨-,i,W,hi,hbf,hci,w3,w1,w2,x,hx,p3⟩
 ·simp(disch:=first|exact dz|fail) only[simprocAttr,Gc,↓reduceIte,Fh,e6,e8,e9,t1,t3,Q8,ZM,JM]
  rw[←hX]
  simp(disch:=first|exact dz|fail) only[simprocAttr,Gc,↓reduceIte,e6,e8,e9,x1,h3,w3,Q8,ZM,JM]
  refine⟨_,H3,false,rfl,by simp[Gg,e6],by simp[Gg,e8],uA,kk,w1,.inl ⟨rfl,fun x hx=>?_,p3,w2⟩⟩
  obtain⟨i,hi⟩:=List.mem_iff_getElem?.1 hx
  have:=hall i (Gd hi)
  rw[hi]at this
  simpa using this
 ·simp(disch:=first|exact dz|fail) only[simprocAttr,Gc,↓reduceIte,Fh,e6,e8,e9,t1,t3,Q8,ZM,JM]
  rw[←hX]
  simp(disch:=first|exact dz|fail) only[simprocAttr,Gc,↓reduceIte,e6,e8,e9,x1,h3,w3,Q8,ZM,JM]
  refine⟨_,H3,true,rfl,by simp[Gg,e6],by simp[Gg,e8],uA,kk,w1,.inr ⟨rfl,w2,x,?_,p3⟩⟩
  rw[hx]at hci
  dsimp only at hci
  have hk:x.key=0:=by simpa using hci
  rw[List.find?_eq_some_iff_append]
  refine⟨by rw[beq_iff_eq];exact hk,(s.walk head).1.take i,(s.walk head).1.drop (i+1),?_,fun z hz=>?_⟩
  ·have e1:(s.walk head).1.drop i=x::(s.walk head).1.drop (i+1):=drop_cons hx
   rw[←e1,List.take_append_drop]
  ·obtain⟨j,hj⟩:=List.mem_iff_getElem?.1 hz
   rw[Ze]at hj
   split at hj
   · rename_i hji
     have:=hbf j hji
     rw[hj]at this
     simpa using this
   · cases hj
theorem Gg_{head:Int}(hhd:head≤9223372036854775807){tb nb:Nat}{H0:Gb}{s s':Hp}{m:Nat}(h:EU head s m s'):∀{n gb:Nat}{H:Gb}{E0:Env}{r:Option (CX×Env×Gb)},s.Ok→QS s→s.has 0=false→PH H hb s L→
  n+m≤100000→tb∉L.all hb∧nb∉L.all hb∧gb∉L.all hb→tb≠nb∧gb≠tb∧gb≠nb→H[tb]?=some ⟨[.ptr hb 0,.i head],.rw,0⟩→H[nb]?=some ⟨[.i n],.rw,0⟩→H[gb]?=some ⟨[.bool true],.rw,0⟩→H0.length≤nb→H0.length≤gb→Keeps H0 H (·∈L.all hb)→
  E0 6=.ptr tb 0→E0 8=.ptr nb 0→E0 9=.ptr gb 0→den P (.loop Fh) E0 H=r→
  ∃E' H',r=some (.exit 0,E',H')∧PH H' hb s' L∧H'[nb]?=some ⟨[.i ((n+m:Nat):Int)],.rw,0⟩∧E' 8=.ptr nb 0∧Keeps H0 H' (·∈L.all hb):=by
 induction h with
 |@stop s h=>
  intro n gb H E0 r k hs h0 p hnm hno hne t1 t2 t3 hn0 hg0 k0 e6 e8 e9 hr
  obtain⟨E1,H1,g,d,f6,f8,f9,k1,w1,c⟩:=F3 hhd k hs h0 p oM hno hne t1 t2 t3 e6 e8 e9
  have kk:Keeps H0 H1 (·∈L.all hb):=⟨Jr k0.len k1.len,fun c hc hn=>by rw[k1.keep c (JH hc k0.len) (fun h=>by rcases h with h|h|h;exact hn h;omega;omega),k0.keep c hc hn]⟩
  rcases c with⟨rfl,-,p1,w2⟩|⟨rfl,-,x,hx,-⟩
  ·refine⟨E1.upd 19 (.bool false),H1++[⟨[.bool false],.rw,0⟩],?_,p1.app _,by rw[QN (Gd w2),w2];rfl,by simp[Gg,f8],kk.app' _⟩
   rw[←hr,Zo,d]
   simp(disch:=first|exact dz|fail) only[simprocAttr,Gc,↓reduceIte]
   rw[Zo]
   simp(disch:=first|exact dz|fail) only[simprocAttr,Gc,↓reduceIte,Fh,f9]
  ·have:=OL hx
   exact absurd (by simpa using this) (h x (List.mem_of_find?_eq_some hx))
 |@more s s' m x hs' hz' hx h' ih=>
  intro n gb H E0 r k hs h0 p hnm hno hne t1 t2 t3 hn0 hg0 k0 e6 e8 e9 hr
  obtain⟨E1,H1,g,d,f6,f8,f9,k1,w1,c⟩:=F3 hhd k hs h0 p oM hno hne t1 t2 t3 e6 e8 e9
  have kk:Keeps H0 H1 (·∈L.all hb):=⟨Jr k0.len k1.len,fun c hc hn=>by rw[k1.keep c (JH hc k0.len) (fun h=>by rcases h with h|h|h;exact hn h;omega;omega),k0.keep c hc hn]⟩
  have l1:=k1.len
  have l0:=k0.len
  rcases c with⟨rfl,h,-,-⟩|⟨rfl,w2,x',hx',p1⟩
  ·have:=OL hx
   exact absurd (by simpa using this) (h x (List.mem_of_find?_eq_some hx))
  ·rw[hx]at hx'
   simp only[Gx]at hx'
   subst hx'
   have lw:=Gd w2
   have lt:=Gd w1
   have hr':den P (.loop Fh) E1 (H1++[⟨[.bool true],.rw,0⟩])=r:=by
    rw[←hr,Zo (E:=E0),d]
    simp(disch:=first|exact dz|fail) only[simprocAttr,Gc,↓reduceIte]
   obtain⟨E',H',q1,q2,q3,q4,q5⟩:=ih (n:=n+1) (gb:=H1.length) (k.unlink head x) hs' hz' (p1.app _) oM ⟨hno.1,hno.2.1,fun h=>by have:=p1.lt _ h;omega⟩ oM (by rw[QN lt,w1]) (by rw[QN lw,w2]) sM hn0 oM (kk.app' _) f6 f8 f9 hr'
   refine⟨E',H',q1,q2,?_,q4,q5⟩
   rw[q3]
   congr 4
   omega
theorem XQ(p:PH H hb s L)(k:s.Ok)(hs:QS s)(h0:s.has 0=false){head:Int}(hhd:head≤9223372036854775807)(hof:s.ofE head=0){m:Nat}{s':Hp}(hr:EU head s m s')(hm:m≤100000):
  ∃H',run P 31 [.ptr hb 0,.i head] H=some (.Ju [.i m,.i 0],H')∧Keeps H H' (·∈L.all hb)∧PH H' hb s' L:=by
 obtain⟨H1,h1,g1⟩:=Rq p k hs h0 hhd
 rw[hof]at h1
 obtain⟨X,hX⟩:∃X:Gb,X=H1++[⟨[.ptr hb 0,.i head],.rw,0⟩]++[⟨[.i 0],.rw,0⟩]++[⟨[.bool true],.rw,0⟩]:=⟨_,rfl⟩
 have gX:Gr H1 X:=by rw[hX];exact((Gr.app _ _).app' _).app' _
 have t1:X[H1.length]?=some ⟨[.ptr hb 0,.i head],.rw,0⟩:=by rw[hX];simp
 have t2:X[H1.length+1]?=some ⟨[.i (0:Nat)],.rw,0⟩:=by rw[hX];simp
 have t3:X[H1.length+2]?=some ⟨[.bool true],.rw,0⟩:=by rw[hX];simp
 have l1:=g1.len
 have pl:=p.lt
 have c':((0:Int) != 0)=false:=rfl
 have Ou:X=H1++[⟨[.ptr hb 0,.i head],.rw,0⟩]++[⟨[.int .i64 0],.rw,0⟩]++[⟨[.bool true],.rw,0⟩]:=hX
 rw[Gi c31 _ _ sM]
 simp(disch:=first|exact dz|fail) only[simprocAttr,Gc,↓reduceIte,Gj,h1,c',G9,Gs,Ym,Gw,GV,Gq,J6,JM,splice]
 rw[←Ou]
 generalize hr':den P (.loop Fh) _ _=r
 obtain⟨E',H2,rfl,p2,w2,e8,k2⟩:=Gg_ hhd (H0:=H) (tb:=H1.length) (nb:=H1.length+1) hr (n:=0) (gb:=H1.length+2) k hs h0 ((p.gr g1).gr gX) oM ⟨fun h=>by have:=pl _ h;omega,fun h=>by have:=pl _ h;omega,fun h=>by have:=pl _ h;omega⟩ oM t1 t2 t3 oM oM ((g1.trans gX).weaken fun _ h=>h.elim) uA uA uA hr'
 rw[Nat.zero_add]at w2
 refine⟨H2,?_,k2,p2⟩
 simp(disch:=first|exact dz|fail) only[simprocAttr,Gc,↓reduceIte,e8,w2]
end
end Go.Cs.Tryz
namespace Go.Cs.Tryz
open Go Go.Cs A
def DW:Gu:=T [b 98 .lss 97 96] (S (J 98 (X 1)) (S (B 2 (T [m 99 97,x 100 1 95 97,l 101 1 100,m 21 99,m 22 101] (R [m 102 0,m 103 16,m 104 21,m 105 22,q4 106 122 102 103 104 105]))) (R [bk 107 .add 97 1,m 97 107])))
def C36:Gm:=⟨125,0,T [n 10 0,n 11 0] (T [m 24 0,m 25 1,q2 26 116 24 25,m 23 26,ex 27 23 0,ex 28 23 1,e 12 (.new [.nilPtr,i 0]),st 2 12 27,m 13 28] (S (B 0 (T [m 30 13,bk 31 .neq 30 0,m 29 31] (C 29 (Q [m 32 13,n 10 0,m 11 32]) (T [m 34 0,m 35 2,q2 36 50 34 35,no 37 36,m 38 37,gf 38 (m 39 3),gf 38 (bk 40 .neq 39 0),gf 38 (m 41 40),gt 41 (m 42 0),gt 41 (m 43 3),gt 41 (q2 44 50 42 43),gt 41 (no 45 44),gf 38 (an 46 41 45),or 47 38 46,m 48 47,gf 48 (m 49 4),gf 48 (bk 50 .lss 49 0),or 51 48 50,m 52 51,gf 52 (m 53 4),gf 52 (bk 54 .geq 53 8),or 55 52 54,m 33 55] (I 33 (Q [n 10 0,n 11 1])))))) (S (T [lg 57 2 12,m 58 2,q2 59 121 57 58,m 56 59,ex 60 56 0,ex 61 56 1,e 14 (.new [i 0,i 0,i 0,i 0,i 0]),st 5 14 60,m 15 61] (T [m 62 15] (I 62 (T [m 63 0,f 64 0 14,l 65 1 64,m 66 3,ca 67 122 [t 63,t 65,k 1,t 66]] (Q [n 10 0,n 11 0]))))) (T [m 69 0,e 70 (.K7 (c (.agg [i 3,i 1,i 2]))),m 71 4,q3 72 54 69 70 71,m 68 72,ex 73 68 0,ex 74 68 1,m 16 73,m 13 74] (S (T [m 75 13,bk 76 .neq 75 0] (I 76 (Q [m 77 13,n 10 0,m 11 77]))) (T [m 79 0,m 80 2,q2 81 35 79 80,m 78 81,ex 82 78 0,ex 83 78 1,m 17 82,m 18 83] (T [m 85 0,m 86 1,m 87 17,bk 88 .rem 87 8,q3 89 76 85 86 88,m 84 89,ex 90 84 0,ex 91 84 1,m 19 90,m 20 91] (S (T [m 92 2,m 93 3,m 94 19,e 95 (.buildSlice 1 [i 0,i 0,i 0] 3 [(0,1,t 92),(1,1,t 93),(2,1,t 94)]),le 96 95,n 97 0] (B 1 (W DW))) (T [m 108 0,m 109 16,m 110 17,ca 111 91 [t 108,t 109,k 0,t 110]] (T [m 112 0,m 113 1,m 114 17,bk 115 .rem 114 8,m 116 16,q4 117 122 112 113 115 116] (T [m 118 0,m 119 1,lg 120 2 12,q1 121 123 120,bk 122 .add 121 1,ca 123 91 [t 118,t 119,k 0,t 122]] (Q [m 124 16,m 10 124,n 11 0])))))))))))),[r 10,r 11]⟩
theorem c36:P 36=some C36:=by kernel_rfl
end Go.Cs.Tryz
namespace Go.Cs
open Go
def Hp.Xt(s:Hp)(key val first ad:Int):Hp:=(((s.setRef ad 0 key).1.setRef ad 1 val).1.setRef ad 2 first).1
def Hp.OJ(s:Hp)(head id ad:Int):Hp:=((s.KW ad 0 id).1.setRef head (id.tmod 8) ad).1
def Hp.GdY(s:Hp)(head key val ad:Int):Hp:=
 (((s.Xt key val (s.Jq head ((s.U6 key).1.tmod 8)).1 ad).OJ head (s.U6 key).1 ad).KW head 0
  (IntKind.i64.wrap ((((s.Xt key val (s.Jq head ((s.U6 key).1.tmod 8)).1 ad).OJ head (s.U6 key).1 ad).Kh head 0).1+1))).1
theorem Hp.Ok.Xt{s:Hp}(k:s.Ok)(key val first ad:Int):(s.Xt key val first ad).Ok:=((k.setRef _ _ _).setRef _ _ _).setRef _ _ _
theorem Hp.Ok.OJ{s:Hp}(k:s.Ok)(head id ad:Int):(s.OJ head id ad).Ok:=(k.KW _ _ _).setRef _ _ _
end Go.Cs
namespace Go.Cs.Tryz
open Go Go.Cs
section
variable {H : Gb} {hb : Nat} {s : Hp} {L : GD}
theorem Wh{s1:Hp}(p:PH H hb s1 L)(k:s1.Ok){key val first ad:Int}(hk:key≤9223372036854775807)(hv:val≤9223372036854775807)(hf:first≤9223372036854775807)(had:ad≤9223372036854775807){sb:Nat}(hsb:sb∉L.all hb)(ts:H[sb]?=some ⟨[.i key,.i val,.i first],.rw,1⟩)
  {E0:Env} (e0:E0 0=.ptr hb 0) (e16:E0 16=.i ad) (e95:E0 95=.slice sb 0 3 3 1 false) (e96:E0 96=.i 3) (e97:E0 97=.i 0) {r:Option (CX×Env×Gb)} (hr:den P (.loop DW) E0 H=r):
  ∃E' H',r=some (.exit 1,E',H')∧Keeps H H' (·∈L.all hb)∧PH H' hb (s1.Xt key val first ad) L∧∀t,t∉wr DW→E' t=E0 t:=by
 obtain⟨H1,h1,k1,p1⟩:=NI p k ad 0 key had hk
 have o1:=k.setRef ad 0 key
 obtain⟨H2,h2,k2,p2⟩:=NI p1 o1 ad 1 val had hv
 have o2:=o1.setRef ad 1 val
 obtain⟨H3,h3,k3,p3⟩:=NI p2 o2 ad 2 first had hf
 have ls:=Gd ts
 have t1:H1[sb]?=_:=(k1.keep sb ls hsb).trans ts
 have t2:H2[sb]?=_:=(k2.keep sb (Gd t1) hsb).trans t1
 have h1':run P 122 [.ptr hb 0,.i ad,.int .i64 0,.i key] H=_:=h1
 have h2':run P 122 [.ptr hb 0,.i ad,.int .i64 1,.i val] H1=_:=h2
 have h3':run P 122 [.ptr hb 0,.i ad,.int .i64 2,.i first] H2=_:=h3
 have w1:IntKind.i64.wrap ((0:Int)+1)=1:=by decide
 have w2:IntKind.i64.wrap ((1:Int)+1)=2:=by decide
 have w3:IntKind.i64.wrap ((2:Int)+1)=3:=by decide
 have step:∀{E:Env}{G G':Gb}{i j v w:Int},E 0=.ptr hb 0→E 16=.i ad→E 95=.slice sb 0 3 3 1 false→E 96=.i 3→E 97=.i i→(0≤i∧i<3)→G[sb]?=some ⟨[.i key,.i val,.i first],.rw,1⟩→[CV.i key,CV.i val,CV.i first][i.toNat]?=some (.i v)→
   run P 122 [.ptr hb 0,.i ad,.i i,.i v] G=some (.i w,G')→IntKind.i64.wrap (i+1)=j→∃E',den P DW E G=some (.normal,E',G')∧E' 97=.i j:=by
  intro E G G' i j v w f0 f16 f95 f96 f97 hi tg hv hc hj
  have c':decide (i<3)=true:=GK hi.2
  have hi':(0:Int)≤i∧i<((3:Nat):Int):=by omega
  simp(disch:=first|exact dz|fail) only[simprocAttr,Gc,↓reduceIte,DW,f0,f16,f95,f96,f97,c',tg,hv,hc,hj,Nat.mul_one]
  exact⟨_,rfl,uA⟩
 obtain⟨x',E',H',e,-,⟨rfl,rfl⟩,fr⟩:=Gy (p:=P) (c:=DW) (E0:=E0) (H0:=H)
  (fun q E H'=>(q=3∧E 97=.i 0∧H'=H)∨(q=2∧E 97=.i 1∧H'=H1)∨(q=1∧E 97=.i 2∧H'=H2)∨(q=0∧E 97=.i 3∧H'=H3))
  (fun x E' H'=>x=.exit 1∧H'=H3) (by
   intro q E H' hE h
   have f0:=(hE 0 dK).trans e0
   have f16:=(hE 16 dK).trans e16
   have f95:=(hE 95 dK).trans e95
   have f96:=(hE 96 dK).trans e96
   rcases h with⟨rfl,h97,rfl⟩|⟨rfl,h97,rfl⟩|⟨rfl,h97,rfl⟩|⟨rfl,h97,rfl⟩
   ·obtain⟨E2,d,f⟩:=step f0 f16 f95 f96 h97 oM ts rfl h1' w1
    exact Gt (k':=2) d oM (.inr (.inl ⟨rfl,f,rfl⟩))
   ·obtain⟨E2,d,f⟩:=step f0 f16 f95 f96 h97 oM t1 rfl h2' w2
    exact Gt (k':=1) d oM (.inr (.inr (.inl ⟨rfl,f,rfl⟩)))
   ·obtain⟨E2,d,f⟩:=step f0 f16 f95 f96 h97 oM t2 rfl h3' w3
    exact Gt (k':=0) d oM (.inr (.inr (.inr ⟨rfl,f,rfl⟩)))
   ·apply Gl (x:=.exit 1)
    ·simp(disch:=first|exact dz|fail) only[simprocAttr,Gc,↓reduceIte,DW,f96,h97]
     rfl
    ·simp
    ·exact⟨rfl,rfl⟩) 3 (.inl ⟨rfl,e97,rfl⟩)
 exact⟨E',_,hr.symm.trans e,(k1.trans k2).trans k3,p3,fr⟩
theorem RH(p:PH H hb s L)(k:s.Ok)(hs:QS s)(h0:s.has 0=false)(hz:s.GI 0=0){sp:Int}(hsp:0≤sp∧sp<8)(hborn:s.born<1000000000000){head key val:Int}(hhd:head≤9223372036854775807)(hof:s.ofE head=0)(hkey:s.has key=true)(hval:val=0∨s.has val=true)
  (hf:FC (s.walk head).1 key=none){s1:Hp}{ad:Int}(ha:s.alloc sp 3 1 2=(s1,ad,0))(k1:s1.Ok)(hs1:QS s1)(had:ad≤9223372036854775807):
  ∃H',run P 36 [.ptr hb 0,.i head,.i key,.i val,.i sp] H=some (.Ju [.i ad,.i 0],H')∧Keeps H H' (·∈L.all hb)∧PH H' hb (s1.GdY head key val ad) L:=by
 have pl:=p.lt
 obtain⟨H1,h1,g1⟩:=Rq p k hs h0 hhd
 rw[hof]at h1
 obtain⟨X1,hX1⟩:∃X:Gb,X=H1++[⟨[.ptr hb 0,.i head],.rw,0⟩]:=⟨_,rfl⟩
 have gX1:Gr H1 X1:=by rw[hX1];exact Gr.app _ _
 have t12:X1[H1.length]?=some ⟨[.ptr hb 0,.i head],.rw,0⟩:=by rw[hX1];simp
 have gH1:=g1.trans gX1
 have hkl:=k.has_lt hkey
 have hhk:=QA (p.gr gH1) k key oM
 rw[hkey]at hhk
 obtain⟨H2,h2,g2⟩:=OX (p.gr gH1) k hs h0 hhd key
 rw[hf]at h2
 unfold RU at h2
 obtain⟨X2,hX2⟩:∃X:Gb,X=H2++[⟨[.i 0,.i 0,.i 0,.i 0,.i 0],.rw,0⟩]:=⟨_,rfl⟩
 have gX2:Gr H2 X2:=by rw[hX2];exact Gr.app _ _
 have gH2:=(gH1.trans g2).trans gX2
 obtain⟨H3,h3,k3,p3⟩:=Pz (p.gr gH2) k hz hsp hborn (r:=3) (d:=1) (kd:=2) dE dE
 rw[ha]at h3 p3
 dsimp only at h3 p3
 have h3':run P 54 [.ptr hb 0,.agg [.int .i64 3,.int .i64 1,.int .i64 2],.i sp] X2=some (.Ju [.i ad,.i 0],H3):=h3
 have l1:=g1.len
 have n12:H1.length∉L.all hb:=fun h=>by have:=pl _ h;omega
 have u12:=Gr.get (g2.trans gX2) t12
 have v12:H3[H1.length]?=_:=(k3.keep _ (Gd u12) n12).trans u12
 have h4:=Ir p3 k1 key oM
 unfold Uj at h4
 obtain⟨id,hid⟩:∃id,id=(s1.U6 key).1:=⟨_,rfl⟩
 rw[←hid]at h4
 obtain⟨H4,h5,g4⟩:=KF p3 k1 head (id.tmod 8) hhd
 unfold Uj at h5
 obtain⟨ft,hft⟩:∃ft,ft=(s1.Jq head (id.tmod 8)).1:=⟨_,rfl⟩
 rw[←hft]at h5
 have hle:ft≤9223372036854775807:=by
  rcases Hp.EF hs1 head (id.tmod 8)with h|h
  ·rw[hft,h];decide
  ·have:=k1.has_lt h;omega
 have hvl:val≤9223372036854775807:=by
  rcases hval with h|h
  ·rw[h];decide
  ·have:=k.has_lt h;omega
 have w12:=g4.get v12
 obtain⟨X4,DL⟩:∃X:Gb,X=H4++[⟨[.i key,.i val,.i ft],.rw,1⟩]:=⟨_,rfl⟩
 have gX4:Gr H4 X4:=by rw[DL];exact Gr.app _ _
 have ts:X4[H4.length]?=some ⟨[.i key,.i val,.i ft],.rw,1⟩:=by rw[DL];simp
 have p4:=(p3.gr g4).gr gX4
 have l3:=k3.len
 have l4:=g4.len
 have lH2:=gH2.len
 have ns:H4.length∉L.all hb:=fun h=>by have:=pl _ h;omega
 have x12:=gX4.get w12
 have kA:Keeps H X4 (·∈L.all hb):=((Keeps.weaken gH2 fun _ h=>h.elim).trans k3).trans (Keeps.weaken (g4.trans gX4) fun _ h=>h.elim)
 have okA:=k1.Xt key val ft ad
 have okB:=okA.OJ head id ad
 obtain⟨sA,hsA⟩:∃sA,sA=s1.Xt key val ft ad:=⟨_,rfl⟩
 have hN:s1.GdY head key val ad=((sA.OJ head id ad).KW head 0 (IntKind.i64.wrap (((sA.OJ head id ad).Kh head 0).1+1))).1:=by unfold Hp.GdY;rw[←hid,←hft,←hsA]
 have body:∀(E:Env)(HA:Gb),Keeps X4 HA (·∈L.all hb)→PH HA hb sA L→E 0=.ptr hb 0→E 1=.i head→E 12=.ptr H1.length 0→E 16=.i ad→E 17=.i id→
   ∃H',Keeps H H' (·∈L.all hb)∧PH H' hb (s1.GdY head key val ad) L∧∃HB HC HD w1 w2,run P 91 [.ptr hb 0,.i ad,.int .i64 0,.i id] HA=some (.i w1,HB)∧run P 122 [.ptr hb 0,.i head,.i (id.tmod 8),.i ad] HB=some (.i w2,HC)∧HC[H1.length]?=some ⟨[.ptr hb 0,.i head],.rw,0⟩∧
    run P 123 [.agg [.ptr hb 0,.i head]] HC=some (.i ((sA.OJ head id ad).Kh head 0).1,HD)∧∃w3,run P 91 [.ptr hb 0,.i head,.int .i64 0,.i (IntKind.i64.wrap (((sA.OJ head id ad).Kh head 0).1+1))] HD=some (.i w3,H'):=by
  intro E HA kX pA f0 f1 f12 f16 f17
  rw[←hsA]at okA okB
  obtain⟨HB,b1,b2,b3⟩:=YP pA okA ad 0 id had
  have ok1:=okA.KW ad 0 id
  obtain⟨HC,c1,c2,c3⟩:=NI b3 ok1 head (id.tmod 8) ad hhd had
  obtain⟨HD,d1,d2⟩:=EO c3 okB hhd
  obtain⟨HE,e1,e2,e3⟩:=YP (c3.gr d2) okB head 0 (IntKind.i64.wrap (((sA.OJ head id ad).Kh head 0).1+1)) hhd
  have kC:=(kX.trans b2).trans c2
  refine⟨HE,(kA.trans kC).trans ((Keeps.weaken d2 fun _ h=>h.elim).trans e2),by rw[hN];exact e3,HB,HC,HD,_,_,b1,c1,(kC.keep _ (Gd x12) n12).trans x12,d1,_,e1⟩
 have lp:leaf (.ptr hb 0)=true:=rfl
 have z0:((0:Int) != 0)=false:=rfl
 have c1:¬(sp<0):=by omega
 have c2:¬((8:Int)≤sp):=by omega
 rw[Gi c36 _ _ sM]
 by_cases hv0:val=0
 ·have hv1:(val != 0)=false:=by rw[hv0];rfl
  simp(disch:=first|exact dz|fail) only[simprocAttr,Gc,↓reduceIte,Vr,h1,z0,G9,Gs,Gw,GV,Gq,J6,splice]
  rw[←hX1]
  simp(disch:=first|exact dz|fail) only[simprocAttr,Gc,↓reduceIte,hhk,hv1,c1,c2,t12,decide_false,h2,G9,Gs,Gw,GV,Gq,splice]
  rw[←hX2]
  simp(disch:=first|exact dz|fail) only[simprocAttr,Gc,↓reduceIte,h3',z0,h4,h5,GA,fill,splice,and_self]
  rw[←DL]
  generalize hr:den P (.loop DW) _ _=r
  obtain⟨E',HA,rfl,kA',pA,fr⟩:=Wh p4 k1 oM hvl hle had ns ts uA uA uA uA uA hr
  have f0:=fr 0 dK
  have f1:=fr 1 dK
  have f12:=fr 12 dK
  have f16:=fr 16 dK
  have f17:=fr 17 dK
  simp only[Gg,Nat.reduceEqDiff,↓reduceIte]at f0 f1 f12 f16 f17
  rw[←hsA]at pA
  obtain⟨H',q1,q2,HB,HC,HD,w1,w2,b1,b2,b3,b4,w3,b5⟩:=body E' HA kA' pA f0 f1 f12 f16 f17
  refine⟨H',?_,q1,q2⟩
  simp(disch:=first|exact dz|fail) only[simprocAttr,Gc,↓reduceIte,f0,f1,f12,f16,f17,b1,b2,b3,b4,b5,GA]
 ·have hv1:(val != 0)=true:=by rw[bne_iff_ne];exact hv0
  have hhv:=QA (p.gr gH1) k val hvl
  rw[hval.resolve_left hv0]at hhv
  simp(disch:=first|exact dz|fail) only[simprocAttr,Gc,↓reduceIte,Vr,h1,z0,G9,Gs,Gw,GV,Gq,J6,splice]
  rw[←hX1]
  simp(disch:=first|exact dz|fail) only[simprocAttr,Gc,↓reduceIte,hhk,hv1,hhv,c1,c2,t12,decide_false,h2,G9,Gs,Gw,GV,Gq,splice]
  rw[←hX2]
  simp(disch:=first|exact dz|fail) only[simprocAttr,Gc,↓reduceIte,h3',z0,h4,h5,GA,fill,splice,and_self]
  rw[←DL]
  generalize hr:den P (.loop DW) _ _=r
  obtain⟨E',HA,rfl,kA',pA,fr⟩:=Wh p4 k1 oM hvl hle had ns ts uA uA uA uA uA hr
  have f0:=fr 0 dK
  have f1:=fr 1 dK
  have f12:=fr 12 dK
  have f16:=fr 16 dK
  have f17:=fr 17 dK
  simp only[Gg,Nat.reduceEqDiff,↓reduceIte]at f0 f1 f12 f16 f17
  rw[←hsA]at pA
  obtain⟨H',q1,q2,HB,HC,HD,w1,w2,b1,b2,b3,b4,w3,b5⟩:=body E' HA kA' pA f0 f1 f12 f16 f17
  refine⟨H',?_,q1,q2⟩
  simp(disch:=first|exact dz|fail) only[simprocAttr,Gc,↓reduceIte,f0,f1,f12,f16,f17,b1,b2,b3,b4,b5,GA]
end
end Go.Cs.Tryz
namespace Go.Cs.Tryz
open Go Go.Cs A
def C10:Gm:=⟨131,0,T [nb 0 false] (T [ca 17 11 [k 6],m 16 17,ex 18 16 0,ex 19 16 1,m 1 18,m 2 19] (T [ca 21 12 [k 1],m 20 21,ex 22 20 0,ex 23 20 1,m 3 22,m 4 23] (S (T [m 24 1,e 25 (.eqv false 1 (t 24) (c .nilPtr)),m 26 25,gf 26 (m 27 3),gf 26 (e 28 (.eqv false 1 (t 27) (c .nilPtr))),or 29 26 28,m 30 29,gf 30 (m 31 2),gf 30 (bk 32 .neq 31 0),or 33 30 32,m 34 33,gf 34 (m 35 4),gf 34 (bk 36 .neq 35 0),or 37 34 36] (I 37 (Q [nb 0 false]))) (T [m 39 1,ca 40 16 [t 39,k 0],m 38 40,ex 41 38 0,ex 42 38 1,m 5 41,m 2 42] (S (T [m 43 2,bk 44 .neq 43 0,m 45 44,gf 45 (m 46 3),gf 45 (e 47 (.build [i 0,i 0,i 0] [])),gf 45 (m 48 5),gf 45 (q3 49 34 46 47 48),gf 45 (bk 50 .neq 49 0),or 51 45 50] (I 51 (Q [nb 0 false]))) (S (T [m 53 1,e 54 (.build [i 0,i 0,i 0] []),ca 55 40 [t 53,k 76,t 54],m 52 55,ex 56 52 0,ex 57 52 1,m 6 56,m 7 57] (T [m 58 5,bk 59 .neq 58 64,m 60 59,gf 60 (m 61 7),gf 60 (bk 62 .neq 61 0),or 63 60 62] (I 63 (Q [nb 0 false])))) (T [m 65 1,m 66 5,ca 67 36 [t 65,t 66,k 76,k 0,k 0],m 64 67,ex 68 64 0,ex 69 64 1,m 8 68,m 2 69] (T [m 71 1,m 72 5,ca 73 38 [t 71,t 72,k 76],m 70 73,ex 74 70 0,ex 75 70 1,m 9 74,m 4 75] (T [m 77 1,m 78 3,q2 79 13 77 78,m 76 79,ex 80 76 0,ex 81 76 1,ex 82 76 2,m 10 80,m 11 81,m 12 82] (S (T [m 83 2,bk 84 .neq 83 0,m 85 84,gf 85 (m 86 4),gf 85 (bk 87 .neq 86 0),or 88 85 87,m 89 88,gf 89 (m 90 12),gf 89 (bk 91 .neq 90 0),or 92 89 91,m 93 92,gf 93 (m 94 8),gf 93 (bk 95 .neq 94 78),or 96 93 95,m 97 96,gf 97 (m 98 9),gf 97 (bk 99 .neq 98 0),or 100 97 99,m 101 100,gf 101 (m 102 11),gf 101 (bk 103 .neq 102 1),or 104 101 103,m 105 104,gf 105 (m 106 10),gf 105 (e 107 (.buildSlice 1 [i 0,i 0] 2 [(0,1,k 64),(1,1,k 78)])),gf 105 (q2 108 20 106 107),gf 105 (no 109 108),or 110 105 109] (I 110 (Q [nb 0 false]))) (S (T [m 112 1,m 113 10,q2 114 15 112 113,m 111 114,ex 115 111 0,ex 116 111 1,m 13 115,m 14 116] (T [m 117 14,bk 118 .neq 117 0] (I 118 (Q [nb 0 false])))) (T [m 120 1,m 121 5,q2 122 31 120 121,m 119 122,ex 123 119 0,ex 124 119 1,m 15 123,m 2 124] (Q [m 125 15,bk 126 .eql 125 1,m 127 126,gt 127 (m 128 2),gt 127 (bk 129 .eql 128 0),an 130 127 129,m 0 130]))))))))))))),[r 0]⟩
theorem c10:P 10=some C10:=by kernel_rfl
end Go.Cs.Tryz
namespace Go.Cs
open Go
def okB(s:Hp):Bool:=decide (2≤s.blk.length∧s.blk.length≤64)&&(s.blk.all (fun x=>decide (x.1≤3∧x.2<8))&&(s.objs.all (fun o=>decide (o.addr % 2=0∧o.refs.length≤15∧o.data.length≤200∧(o.kd≤3∧(o.kd=1→1≤o.refs.length)∧(o.kd=2→2≤o.refs.length))∧(1≤o.id∧o.id≤s.born)∧o.addr+o.size≤s.nw∧64≤o.addr))&&
 (decide (s.objs.Pairwise fun a b=>a.addr+a.size≤b.addr)&&(decide (s.objs.Pairwise fun a b=>a.id≠b.id)&&decide (s.born≤1000)))))
theorem TK{s:Hp}(h:okB s=true):s.Ok:=by
 simp only[okB,JQ,decide_eq_true_eq,List.all_eq_true]at h
 obtain⟨h1,h2,h3,h4,h5,h6⟩:=h
 refine⟨h1,h2,fun o ho=>?_,h4,h5,oM⟩
 obtain⟨a,b,c,d,e,f,-⟩:=h3 o ho
 exact⟨a,b,c,d,e,f⟩
theorem Gl6{s:Hp}(h:okB s=true)(hz:s.GI 0=0):s.Lo:=by
 simp only[okB,JQ,decide_eq_true_eq,List.all_eq_true]at h
 exact⟨hz,fun x hx=>(h.2.2.1 x hx).2.2.2.2.2.2⟩
def Gk5(s:Hp):Bool:=s.objs.all fun o=>o.refs.all fun x=>x==0||s.has x
theorem Iz{s:Hp}(h:Gk5 s=true):∀o∈s.objs,∀x∈o.refs,x=0∨s.has x=true:=by
 simpa[Gk5,List.all_eq_true]using h
def aB:List (Nat×Nat):=[(0,0),(1,0),(0,0),(0,0),(0,0),(0,0)]
def aT(r:Int)(n:Int):Ob:=⟨64,1,[0,0,r,0,0,0,0,0],[n],3,false⟩
def aO:Ob:=⟨76,2,[],[],0,false⟩
def aE(k d:Int):Ob:=⟨78,3,[k,0,0],[d],2,false⟩
def aS1:Hp:=⟨aB,[aT 0 0],1,[]⟩
def aS2:Hp:=⟨aB,[aT 0 0,aO],2,[]⟩
def aS3:Hp:=⟨aB,[aT 0 0,aO,aE 0 0],3,[]⟩
def Fa:Hp:=⟨aB,[aT 78 1,aO,aE 76 2],3,[]⟩
def aS5:Hp:=⟨aB,[aT 78 1,aO,aE 0 2],3,[]⟩
def aS6:Hp:=⟨aB,[aT 0 0,aO,aE 0 2],3,[]⟩
theorem a1:(Hp.new 6).alloc 0 8 1 3=(aS1,64,0):=by kernel_rfl
theorem a2:aS1.place 76 0 0 0=(aS2,2,0):=by kernel_rfl
theorem a3:aS2.alloc 0 3 1 2=(aS3,78,0):=by kernel_rfl
theorem a4:aS3.GdY 64 76 0 78=Fa:=by kernel_rfl
theorem a6:aS5.unlink 64 ⟨78,64,2,0,0⟩=aS6:=by kernel_rfl
def aR:Rt:=((Rt.new 1).set 0 0 0 64).1
theorem GaY:∀a∈aR.vals,a=0∨a=64:=by decide +kernel
theorem GlQ:(64:Int)∈aR.vals:=by decide +kernel
theorem Glx:aR.Ok:=(Rt.BI oM).set 0 0 0 64 dE
theorem Gag{a:Int}{o:Ob}(ha:a=64∨a=78)(h:Fa.obj a=some o):(a=64∧o=aT 78 1)∨(a=78∧o=aE 76 2):=by
 rcases ha with rfl|rfl
 ·left
  have:Fa.obj 64=some (aT 78 1):=by kernel_rfl
  rw[this]at h
  exact⟨rfl,by simpa using h.symm⟩
 ·right
  have:Fa.obj 78=some (aE 76 2):=by kernel_rfl
  rw[this]at h
  exact⟨rfl,by simpa using h.symm⟩
theorem Gik{a:Int}(h:XN Fa aR a):a=64∨a=78:=by
 unfold XN at h
 induction h with
 |start h1 h2=>
  rcases GaY _ h1.1 with h|h
  ·exact absurd h h1.2
  ·exact .inl h
 |@ref a b o j _ h2 h3 h4 h5 ih=>
  have hb:b=0∨b=78∨(a=78∧j=0):=by
   rcases Gag ih h2 with⟨rfl,rfl⟩|⟨rfl,rfl⟩
   ·have:=JX h3
    simp[aT]at this
    omega
   ·match j,h3 with
    |0,_=>exact .inr (.inr ⟨rfl,rfl⟩)
    |1,h3=>simp[aE]at h3;omega
    |2,h3=>simp[aE]at h3;omega
    |j+3,h3=>simp[aE]at h3
  rcases hb with rfl|rfl|⟨rfl,rfl⟩
  ·have:Fa.has 0=false:=by decide +kernel
   rw[this]at h5;cases h5
  ·exact .inr rfl
  ·rcases Gag ih h2 with⟨h,-⟩|⟨-,rfl⟩
   ·cases h
   ·cases h4
 |@pair a b c o h1 _ h3 h4 h5 _ h7 h8 ih1 ih2=>
  rcases Gag ih1 h3 with⟨rfl,rfl⟩|⟨rfl,rfl⟩
  ·cases h4
  ·simp[aE]at h5;omega
theorem Giw{a:Int}(h:a=64∨a=78):XN Fa aR a:=by
 have h64:XN Fa aR 64:=.start ⟨GlQ,dE⟩ dK
 rcases h with rfl|rfl
 ·exact h64
 ·exact .ref (o:=aT 78 1) (j:=2) h64 (by kernel_rfl) rfl dE dK
theorem Ghb(ks:List Int)(hk:∀x∈ks,XN Fa aR x):∀x∈NM ks Fa.objs,Fa.has x=true→x∈ks:=fun x hx _=>by
 obtain⟨o,ho,⟨-,h2,h3⟩,-⟩:=YB.1 hx
 have:=Gik (hk _ h3)
 simp only[Fa,List.mem_cons,List.not_mem_nil,or_false]at ho
 rcases ho with rfl|rfl|rfl
 ·cases h2
 ·cases h2
 ·simp[aE]at this
theorem a5:Yt Fa [64,78] 2=aS5:=by
 classical
 have e1:Fa.obj 64=some (aT 78 1):=by kernel_rfl
 have e2:Fa.obj 78=some (aE 76 2):=by kernel_rfl
 have h1:VB Fa [64,78] 64=Fa:=by
  unfold VB
  rw[e1]
  exact if_neg fun h=>by rcases h.1 with h|h<;>cases h
 have h2:VB Fa [64,78] 78=aS5:=by
  unfold VB
  rw[e2]
  have hc:Xb [64,78] (aE 76 2):=⟨.inr rfl,fun h=>by have:=h.2;simp[aE]at this⟩
  have e3:Fa.upd (aE 76 2).addr zA=aS5:=by kernel_rfl
  exact(if_pos hc).trans e3
 show VB (VB Fa [64,78] 64) [64,78] 78=aS5
 rw[h1,h2]
end Go.Cs
namespace Go.Cs.Tryz
open Go Go.Cs
section
variable {H : Gb}
theorem Ghs:EU 64 aS5 1 aS6:=by
 have h1:(aS5.walk 64).1.find? (fun x=>x.key==0)=some ⟨78,64,2,0,0⟩:=by kernel_rfl
 refine .more (x:=⟨78,64,2,0,0⟩) ?_ ?_ h1 ?_
 ·rw[a6];exact Iz dK
 ·rw[a6];decide +kernel
 ·rw[a6]
  have h2:(aS6.walk 64).1=[]:=by kernel_rfl
  exact .stop fun x hx=>by rw[h2]at hx;cases hx
theorem Gcz:∃H',run P 10 [] H=some (.bool true,H'):=by
 obtain⟨hb,H1,L,h1,g1,p1,hL⟩:=Wo (H:=H) 6 oM
 obtain⟨rb,H2,o,v,h2,g2,m2,ho⟩:=Ph (H:=H1) 1 oM
 have p2:=p1.gr g2
 have k0:(Hp.new (6:Int).toNat).Ok:=Hp.BI dE
 obtain⟨H3,h3,k3,p3⟩:=Gfv p2 k0 dE (sp:=0) oM dE
 rw[show Hp.new (6:Int).toNat=Hp.new 6 from rfl,a1]at h3 p3
 dsimp only at h3 p3
 have pl1:=p1.lt
 have dis:∀c t,o c=some t→c∉L.all hb:=fun c t h hc=>by have:=ho c t h;have:=pl1 c hc;omega
 have m3:K9 o H3 rb (Rt.new 1) v:=m2.frame (fun c t h=>JH (m2.dom c t h) k3.len) (fun _ _ h=>h) fun c t h=>k3.keep c (m2.dom c t h) (dis c t h)
 obtain⟨H4,o4,v4,h4,m4,c4⟩:=P6 m3 (Rt.BI (n:=1) oM) 0 0 0 64
 have e4:((Rt.new 1).set 0 0 0 64).2=0:=by kernel_rfl
 rw[e4]at h4
 have m4:K9 o4 H4 rb aR v4:=m4
 have l3:H1.length≤H3.length:=Jr g2.len k3.len
 have Gpk:∀c t,o4 c=some t→c∉L.all hb:=fun c t h hc=>by
  have:=pl1 c hc
  rw[c4.tag c oM]at h
  exact dis c t h hc
 have p4:PH H4 hb aS1 L:=p3.frame fun c hc=>c4.keep c (p3.lt c hc) (by
  cases e:o c with
  |none=>rfl
  |some t=>exact absurd hc (dis c t e))
 obtain⟨H5,h5,k5,p5⟩:=Bv p4 (TK dK) dE 76 0 0 0
 rw[a2]at h5 p5
 have ok2:aS2.Ok:=TK dK
 obtain⟨H6,h6,k6,p6⟩:=RH p5 ok2 (Iz dK) dK dE (sp:=0) oM dE (head:=64) (key:=76) (val:=0) dE dK dK (.inl rfl) (by kernel_rfl) a3 (TK dK) (Iz dK) dE
 rw[a4]at p6
 have okb:okB Fa=true:=by decide +kernel
 have ok4:Fa.Ok:=TK okb
 have Gk4:QS Fa:=Iz dK
 have z4:Fa.has 0=false:=by decide +kernel
 obtain⟨H7,h7,g7⟩:=Gfk p6 ok4 Gk4 z4 (head:=64) dE 76
 have eg:Hp.Ox Fa 64 76=(0,0):=by kernel_rfl
 rw[eg]at h7
 have p7:=p6.gr g7
 have k47:Keeps H4 H7 (·∈L.all hb):=(k5.trans k6).trans (Keeps.weaken g7 fun _ h=>h.elim)
 have m7:K9 o4 H7 rb aR v4:=m4.frame (fun c t h=>JH (m4.dom c t h) k47.len) (fun _ _ h=>h) fun c t h=>k47.keep c (m4.dom c t h) (Gpk c t h)
 have snd:VN Fa aR:=⟨Gk4,fun x hx=>by
  rcases GaY x hx with h|h
  ·exact .inl h
  ·right;rw[h];decide +kernel,Gl6 okb dE⟩
 obtain⟨w,H8,l,t,h8,g8,li,sr,hm,ht,ht1⟩:=MO p7 ok4 m7 Glx snd (C:=True) (fun _ ks hk=>Ghb ks hk)
 have el:l=[64,78]:=Dm sr (by unfold Zj;decide) fun x=>(hm x).trans ⟨fun h=>by simpa using Gik h,fun h=>Giw (by simpa using h)⟩
 subst el
 have et:t=1:=by
  have:=ht1 trivial
  have:t≠0:=fun h=>by have:=ht.1 h;cases this
  omega
 subst et
 obtain⟨X8,hX8⟩:∃X:Gb,X=H8++[⟨[.i 64,.i 78],.rw,1⟩]:=⟨_,rfl⟩
 have gX8:Gr H8 X8:=by rw[hX8];exact Gr.app _ _
 have li2:LI X8 (.slice H8.length 0 2 2 1 false) [64,78]:=.inr ⟨H8.length,false,rfl,Gn.2 ⟨Nat.zero_le _,rfl⟩,by rw[hX8];simp[ints],rfl⟩
 have hi:=Y9 (li.gr gX8) li2 sM
 simp only[decide_true]at hi
 obtain⟨H9,n9,h9,k9,p9,-,-⟩:=Da ok4 snd ((p7.gr g8).gr gX8) (li.gr gX8) sr sM (fun x hx=>by
  simp only[List.mem_cons,List.not_mem_nil,or_false]at hx
  rcases hx with rfl|rfl<;>decide +kernel)
 have e9:Yt Fa [64,78] [(64:Int),78].length=aS5:=a5
 rw[e9]at p9
 obtain⟨H10,h10,k10,p10⟩:=XQ p9 (TK dK) (Iz dK) dK (head:=64) dE dK Ghs dE
 unfold Uj at h5 h7
 have h1':run P 11 [.int .i64 6] H=_:=h1
 have h2':run P 12 [.int .i64 1] H1=_:=h2
 have h3':run P 16 [.ptr hb 0,.int .i64 0] H2=_:=h3
 have h4':run P 34 [.ptr rb 0,.agg [.int .i64 0,.int .i64 0,.int .i64 0],.i 64] H3=_:=h4
 have h5':run P 40 [.ptr hb 0,.int .i64 76,.agg [.int .i64 0,.int .i64 0,.int .i64 0]] H4=_:=h5
 have h6':run P 36 [.ptr hb 0,.i 64,.int .i64 76,.int .i64 0,.int .i64 0] H5=_:=h6
 have h7':run P 38 [.ptr hb 0,.i 64,.int .i64 76] H6=_:=h7
 have GpG:X8=H8++[⟨[.int .i64 64,.int .i64 78],.rw,1⟩]:=hX8
 rw[Gi c10 _ _ sM]
 simp(disch:=first|exact dz|fail) only[simprocAttr,Gc,↓reduceIte,Gbb,h1',h2',Gbf,Gbq,show((0:Int) != 0)=false from rfl,h3',fill,splice,and_self,h4',h5',show((64:Int) != 64)=false from rfl,h6',h7',h8,show((78:Int) != 78)=false from rfl]
 rw[←GpG]
 simp(disch:=first|exact dz|fail) only[simprocAttr,Gc,↓reduceIte,hi,h9,show((0:Int) != 0)=false from rfl,h10,show((1:Int)==1)=true from rfl,show((0:Int)==0)=true from rfl]
 exact⟨_,rfl⟩
end
end Go.Cs.Tryz
noncomputable section
namespace Go.Cs.Tryz
open Go Go.Cs Go.RowKit Go.ChangeShapes Go.WideShapes
theorem Lx{H:Gb}{cv:Nat→CV}{blk:JI}{n j:Nat}{l:List (List CV)}(hn:0<n)(h:Gk3 cv blk (List.replicate n (.int .u8)) l)(hs:(∀j,cv j=.Gf)∨∃m c,∀j,cv j=.slice j 0 m c (List.replicate n (FK.int .u8)).length false)(hj:H[j]?=some blk):
  Sl H (cv j) n l∧Gp (cv j)≤j∧U8R n l:=by
 obtain⟨h1,h2,h3⟩:=h
 rw[List.length_replicate]at h2 hs
 refine⟨?_,?_,fun x hx=>?_⟩
 ·rcases hs with hs|⟨m,c,hs⟩
  ·left
   refine⟨?_,.inl (hs j)⟩
   have:=h1 j H
   rw[hs j]at this
   simp only[KA,Gx,Prod.mk.injEq,CV.int.injEq,true_and,and_true]at this
   exact Bo oM
  ·have hm:m=l.length:=by
    have:=h1 j H
    rw[hs j]at this
    simp only[KA,Gx,Prod.mk.injEq,CV.int.injEq,true_and,and_true]at this
    omega
   by_cases c0:l=[]
   ·left
    refine⟨c0,.inr ⟨j,0,c,false,?_⟩⟩
    rw[hs j,hm,c0];rfl
   ·obtain⟨-,q2,q3,q4⟩:=h2 c0
    refine .inr ⟨j,0,c,false,blk,by rw[hs j,hm],hj,.inr q2,fun i r hi=>?_⟩
    have:=q4 i r hi
    rw[Nat.zero_add]
    refine⟨this.2,?_⟩
    have:=(h3 r (JX hi)).1
    rw[List.length_replicate]at this
    exact this
 ·rcases hs with hs|⟨m,c,hs⟩
  ·rw[hs j];exact Nat.zero_le _
  ·rw[hs j];exact Nat.le_refl _
 ·obtain⟨q1,q2⟩:=h3 x hx
  rw[List.length_replicate]at q1
  obtain⟨zs,hl,hp⟩:=Oa (n:=n) (p:=fun i z=>x[i]?=some (.int .u8 z)∧0≤z∧z≤255) fun i hi=>by
   obtain⟨c,e1,z,e2,e3,e4⟩:=q2 i (.int .u8) (by rw[List.getElem?_replicate,if_pos hi])
   exact⟨z,by rw[e1,e2],e3,e4⟩
  refine⟨zs,hl,List.ext_getElem? fun i=>?_,fun z hz=>?_⟩
  ·unfold u8s
   by_cases hi:i<n
   ·have hg:=J9 (l:=zs) (i:=i) oM
    rw[Ke,(hp i _ hg).1,hg];rfl
   ·rw[En oM,En (by simp;omega)]
  ·obtain⟨i,hi⟩:=List.mem_iff_getElem?.1 hz
   exact(hp i z hi).2
noncomputable def Gjo:Array Field:=match Go.Proofs.Tryz.prog.underlying 27 with
 |some (.struct fs)=>fs
 |_=>#[]
theorem u27:Go.Proofs.Tryz.prog.underlying 27=some (.struct Gjo):=by kernel_rfl
theorem Gfa:Go.Proofs.Tryz.prog.cellTypes Go.Proofs.Tryz.prog.depth 27=some [5,5,22,23,24,25,23]:=by kernel_rfl
theorem GbN:[5,5,22,23,24,25,23].length=Go.Proofs.Tryz.prog.cellsOf 27:=by kernel_rfl
theorem II{i t o:Nat}(h:(Gjo[i]?).map (fun f=>(f.type,f.offset))=some (t,o)):∃f,Gjo[i]?=some f∧f.type=t∧f.offset=o:=by
 rw[GR]at h
 obtain⟨f,h1,h2⟩:=h
 simp only[Prod.mk.injEq]at h2
 exact⟨f,h1,h2.1,h2.2⟩
theorem XT{H:Type}{enc:TypeId×Value→H}{W:World}{base:Nat}{r:Reach}{b0:Nat}{held:Bool}{v:Value}{d:DataW H}{ps:List MemPlace}
  (hval:Value.okWide Go.Proofs.Tryz.prog W r b0 27 v)(hd:DataW.Trod enc Go.Proofs.Tryz.prog W base (fun _=>true) held 27 v d ps):
  ∃(bl mu:Int)(x:Nat→CV)(blks:List JI)(tgs:List (Option Zz)),tgs.length=blks.length∧(∀b blk,blks[b]?=some blk→GaU W blk (tgs.getD b none))∧
   V (fun b=>tgs.getD b none) (.agg [.int .u8 bl,.int .u8 mu,x 2,x 3,x 4,x 5,x 6]) v∧Beg (blks++[⟨[.int .u8 bl,.int .u8 mu,x 2,x 3,x 4,x 5,x 6],.rw,0⟩]) bl mu x:=by
 obtain⟨a,rfl⟩:∃a,v=.agg a:=by
  have h:=hval
  unfold Value.okWide at h
  rw[u27]at h
  obtain⟨a,ha,-⟩:=h
  exact⟨a,ha⟩
 have hsz:a.size=7:=by
  have h:=hval
  unfold Value.okWide at h
  rw[u27]at h
  obtain⟨a',ha,hs,-⟩:=h
  simp only[Value.agg.injEq]at ha
  subst ha
  rw[hs,←GbN];rfl
 obtain⟨f0,e0,t0,o0⟩:=II (i:=0) (t:=5) (o:=0) (by kernel_rfl)
 obtain⟨f1,e1,t1,o1⟩:=II (i:=1) (t:=5) (o:=1) (by kernel_rfl)
 obtain⟨f2,e2,t2,o2⟩:=II (i:=2) (t:=22) (o:=2) (by kernel_rfl)
 obtain⟨f3,e3,t3,o3⟩:=II (i:=3) (t:=23) (o:=3) (by kernel_rfl)
 obtain⟨f4,e4,t4,o4⟩:=II (i:=4) (t:=24) (o:=4) (by kernel_rfl)
 obtain⟨f5,e5,t5,o5⟩:=II (i:=5) (t:=25) (o:=5) (by kernel_rfl)
 obtain⟨f6,e6,t6,o6⟩:=II (i:=6) (t:=23) (o:=6) (by kernel_rfl)
 obtain⟨bl,a0,w0⟩:=Pg (k:=.u8) u27 hd e0 (by rw[t0];kernel_rfl) (by rw[t0];kernel_rfl)
 obtain⟨mu,a1,w1⟩:=Pg (k:=.u8) u27 hd e1 (by rw[t1];kernel_rfl) (by rw[t1];kernel_rfl)
 obtain⟨u2,_,_,a2,v2,d2⟩:=ZJ (e:=137) u27 Gfa GbN hval hd e2 (by rw[t2];kernel_rfl) (by rw[o2,t2];rfl) (by rw[t2];kernel_rfl)
 obtain⟨u3,_,_,a3,v3,d3⟩:=ZJ (e:=5) u27 Gfa GbN hval hd e3 (by rw[t3];kernel_rfl) (by rw[o3,t3];rfl) (by rw[t3];kernel_rfl)
 obtain⟨u4,_,_,a4,v4,d4⟩:=ZJ (e:=139) u27 Gfa GbN hval hd e4 (by rw[t4];kernel_rfl) (by rw[o4,t4];rfl) (by rw[t4];kernel_rfl)
 obtain⟨u5,_,_,a5,v5,d5⟩:=ZJ (e:=144) u27 Gfa GbN hval hd e5 (by rw[t5];kernel_rfl) (by rw[o5,t5];rfl) (by rw[t5];kernel_rfl)
 obtain⟨u6,_,_,a6,v6,d6⟩:=ZJ (e:=5) u27 Gfa GbN hval hd e6 (by rw[t6];kernel_rfl) (by rw[o6,t6];rfl) (by rw[t6];kernel_rfl)
 rw[o0]at a0;rw[o1]at a1;rw[o2]at a2;rw[o3]at a3;rw[o4]at a4;rw[o5]at a5;rw[o6]at a6
 rw[t2]at v2 d2;rw[t3]at v3 d3;rw[t4]at v4 d4;rw[t5]at v5 d5;rw[t6]at v6 d6
 obtain⟨c2,k2,g2,l2,x2,y2,s2,z2⟩:=UY (n:=6) (ks:=List.replicate 4 (.int .u8)) (t:=22) (e:=137) (by kernel_rfl) (by kernel_rfl) (by kernel_rfl) dE v2 d2
 obtain⟨c3,k3,g3,l3,x3,y3,s3,z3⟩:=UY (n:=6) (ks:=List.replicate 1 (.int .u8)) (t:=23) (e:=5) (by kernel_rfl) (by kernel_rfl) (by kernel_rfl) dE v3 d3
 obtain⟨c4,k4,g4,l4,x4,y4,s4,z4⟩:=UY (n:=6) (ks:=List.replicate 3 (.int .u8)) (t:=24) (e:=139) (by kernel_rfl) (by kernel_rfl) (by kernel_rfl) dE v4 d4
 obtain⟨c5,k5,g5,l5,x5,y5,s5,z5⟩:=UY (n:=6) (ks:=List.replicate 2 (.int .u8)) (t:=25) (e:=144) (by kernel_rfl) (by kernel_rfl) (by kernel_rfl) dE v5 d5
 obtain⟨c6,k6,g6,l6,x6,y6,s6,z6⟩:=UY (n:=6) (ks:=List.replicate 1 (.int .u8)) (t:=23) (e:=5) (by kernel_rfl) (by kernel_rfl) (by kernel_rfl) dE v6 d6
 refine⟨bl,mu,fun i=>match i with|2=>c2 0|3=>c3 1|4=>c4 2|5=>c5 3|_=>c6 4,[k2,k3,k4,k5,k6],[g2,g3,g4,g5,g6],rfl,fun b blk hb=>?_,?_,⟨w0,w1,fun i n hi=>?_⟩⟩
 ·match b,hb with
  |0,hb=>simp at hb;subst hb;exact y2
  |1,hb=>simp at hb;subst hb;exact y3
  |2,hb=>simp at hb;subst hb;exact y4
  |3,hb=>simp at hb;subst hb;exact y5
  |4,hb=>simp at hb;subst hb;exact y6
  |n+5,hb=>simp at hb
 ·simp only[V]
  refine⟨a,rfl,VL.Ac (by simp[hsz]) fun i c hi=>?_⟩
  match i,hi with
  |0,hi=>simp at hi;subst hi;exact⟨_,by simpa using a0,by simp[V]⟩
  |1,hi=>simp at hi;subst hi;exact⟨_,by simpa using a1,by simp[V]⟩
  |2,hi=>simp at hi;subst hi;exact⟨_,by simpa using a2,x2 0 _ rfl⟩
  |3,hi=>simp at hi;subst hi;exact⟨_,by simpa using a3,x3 1 _ rfl⟩
  |4,hi=>simp at hi;subst hi;exact⟨_,by simpa using a4,x4 2 _ rfl⟩
  |5,hi=>simp at hi;subst hi;exact⟨_,by simpa using a5,x5 3 _ rfl⟩
  |6,hi=>simp at hi;subst hi;exact⟨_,by simpa using a6,x6 4 _ rfl⟩
  |n+7,hi=>simp at hi
 ·match i,hi with
  |0,hi=>simp at hi;subst hi;obtain⟨p1,p2,p3⟩:=Lx (H:=[k2,k3,k4,k5,k6]++[⟨[.int .u8 bl,.int .u8 mu,c2 0,c3 1,c4 2,c5 3,c6 4],.rw,0⟩]) (j:=0) dE s2 z2 rfl;exact⟨l2,p1,Nat.lt_of_le_of_lt p2 sM,p3⟩
  |1,hi=>simp at hi;subst hi;obtain⟨p1,p2,p3⟩:=Lx (H:=[k2,k3,k4,k5,k6]++[⟨[.int .u8 bl,.int .u8 mu,c2 0,c3 1,c4 2,c5 3,c6 4],.rw,0⟩]) (j:=1) dE s3 z3 rfl;exact⟨l3,p1,Nat.lt_of_le_of_lt p2 sM,p3⟩
  |2,hi=>simp at hi;subst hi;obtain⟨p1,p2,p3⟩:=Lx (H:=[k2,k3,k4,k5,k6]++[⟨[.int .u8 bl,.int .u8 mu,c2 0,c3 1,c4 2,c5 3,c6 4],.rw,0⟩]) (j:=2) dE s4 z4 rfl;exact⟨l4,p1,Nat.lt_of_le_of_lt p2 sM,p3⟩
  |3,hi=>simp at hi;subst hi;obtain⟨p1,p2,p3⟩:=Lx (H:=[k2,k3,k4,k5,k6]++[⟨[.int .u8 bl,.int .u8 mu,c2 0,c3 1,c4 2,c5 3,c6 4],.rw,0⟩]) (j:=3) dE s5 z5 rfl;exact⟨l5,p1,Nat.lt_of_le_of_lt p2 sM,p3⟩
  |4,hi=>simp at hi;subst hi;obtain⟨p1,p2,p3⟩:=Lx (H:=[k2,k3,k4,k5,k6]++[⟨[.int .u8 bl,.int .u8 mu,c2 0,c3 1,c4 2,c5 3,c6 4],.rw,0⟩]) (j:=4) dE s6 z6 rfl;exact⟨l6,p1,Nat.lt_of_le_of_lt p2 sM,p3⟩
  |n+5,hi=>simp at hi
theorem two{bl mu:Int}{x:Nat→CV}{blks:List JI}(b:Beg (blks++[⟨[.int .u8 bl,.int .u8 mu,x 2,x 3,x 4,x 5,x 6],.rw,0⟩]) bl mu x):∃H1,run (Kn Go.Proofs.Tryz.prog) 5 [.agg [.int .u8 bl,.int .u8 mu,x 2,x 3,x 4,x 5,x 6]] blks=some (.bool true,H1):=
 Gfh b fun G=>Gcz (H:=G)
end Go.Cs.Tryz
namespace Go.Proofs
open Go.Shelf
def Tryz.keysA_ren:Go.Shelf.Ren:=⟨fun|7=>46|10=>138|n=>n,fun|23=>113|26=>3|3=>4|28=>118|0=>0|27=>117|33=>126|4=>4|n=>n,fun|n=>n⟩
theorem Tryz.keysA:Go.Proofs.SlLaysZI.n7 Tryz.prog Tryz.keysA_ren:={
 mixed:=by kernel_rfl
 f7:=⟨Tryz.f46.name,by decide,Tryz.func46.trans (congrArg some (by kernel_rfl))⟩
 f10:=⟨Tryz.f138.name,by decide,Tryz.func138.trans (congrArg some (by kernel_rfl))⟩
 t0:=Tryz.underlying0
 a0:=Tryz.isAgg0
 z0:=Tryz.sizeOf0
 v0:=Tryz.zeroValue0
 t4:=Tryz.underlying4
 a4:=Tryz.isAgg4
 z4:=Tryz.sizeOf4
 v4:=Tryz.zeroValue4
 t23:=Tryz.underlying113
 a23:=Tryz.isAgg113
 z23:=Tryz.sizeOf113
 v23:=Tryz.zeroValue113
 t26:=Tryz.underlying3
 a26:=Tryz.isAgg3
 z26:=Tryz.sizeOf3
 v26:=Tryz.zeroValue3
 t27:=Tryz.underlying117
 a27:=Tryz.isAgg117
 z27:=Tryz.sizeOf117
 v27:=Tryz.zeroValue117
 t28:=Tryz.underlying118
 a28:=Tryz.isAgg118
 z28:=Tryz.sizeOf118
 v28:=Tryz.zeroValue118
 t33:=Tryz.underlying126
 a33:=Tryz.isAgg126
 z33:=Tryz.sizeOf126
 v33:=Tryz.zeroValue126}
def Tryz.sortedA_ren:Go.Shelf.Ren:=⟨fun|6=>45|8=>136|9=>137|11=>225|13=>227|12=>226|23=>277|24=>278|14=>269|15=>270|16=>271|17=>272|18=>273|19=>274|20=>140|21=>275|22=>276|25=>303|26=>304|27=>305|28=>306|29=>307|30=>230|31=>315|n=>n,fun|26=>3|28=>118|24=>36|0=>0|3=>3|37=>210|48=>301|50=>292|4=>4|40=>295|39=>294|45=>127|5=>5|9=>9|51=>322|55=>183|57=>330|58=>331|33=>126|n=>n,fun|n=>n⟩
theorem Tryz.sortedA:Go.Proofs.SlLaysZI.n6 Tryz.prog Tryz.sortedA_ren:={
 mixed:=by kernel_rfl
 f6:=⟨Tryz.f45.name,by decide,Tryz.func45.trans (congrArg some (by kernel_rfl))⟩
 f8:=⟨Tryz.f136.name,by decide,Tryz.func136.trans (congrArg some (by kernel_rfl))⟩
 f11:=⟨Tryz.f225.name,by decide,Tryz.func225.trans (congrArg some (by kernel_rfl))⟩
 t0:=Tryz.underlying0
 a0:=Tryz.isAgg0
 z0:=Tryz.sizeOf0
 v0:=Tryz.zeroValue0
 t24:=Tryz.underlying36
 a24:=Tryz.isAgg36
 z24:=Tryz.sizeOf36
 v24:=Tryz.zeroValue36
 t26:=Tryz.underlying3
 a26:=Tryz.isAgg3
 z26:=Tryz.sizeOf3
 v26:=Tryz.zeroValue3
 t28:=Tryz.underlying118
 a28:=Tryz.isAgg118
 z28:=Tryz.sizeOf118
 v28:=Tryz.zeroValue118
 i26:=by kernel_rfl}
def Tryz.sortA_ren:Go.Shelf.Ren:=⟨fun|5=>137|8=>227|7=>226|19=>277|20=>278|10=>269|11=>270|12=>271|13=>272|14=>273|15=>274|16=>140|17=>275|18=>276|30=>303|31=>304|32=>305|33=>306|34=>307|35=>230|40=>315|n=>n,fun|23=>36|25=>3|3=>3|32=>210|22=>36|0=>0|44=>301|46=>292|4=>4|36=>295|35=>294|41=>127|5=>5|9=>9|53=>322|57=>183|63=>330|64=>331|n=>n,fun|n=>n⟩
theorem Tryz.sortA:Go.Proofs.SlLaysM.n5 Tryz.prog Tryz.sortA_ren:={
 mixed:=by kernel_rfl
 f5:=⟨Tryz.f137.name,by decide,Tryz.func137.trans (congrArg some (by kernel_rfl))⟩
 f7:=⟨Tryz.f226.name,by decide,Tryz.func226.trans (congrArg some (by kernel_rfl))⟩
 f8:=Tryz.func227.trans (congrArg some (by kernel_rfl))
 f10:=⟨Tryz.f269.name,by decide,Tryz.func269.trans (congrArg some (by kernel_rfl))⟩
 f11:=⟨Tryz.f270.name,by decide,Tryz.func270.trans (congrArg some (by kernel_rfl))⟩
 f12:=⟨Tryz.f271.name,by decide,Tryz.func271.trans (congrArg some (by kernel_rfl))⟩
 f13:=⟨Tryz.f272.name,by decide,Tryz.func272.trans (congrArg some (by kernel_rfl))⟩
 f14:=⟨Tryz.f273.name,by decide,Tryz.func273.trans (congrArg some (by kernel_rfl))⟩
 f15:=⟨Tryz.f274.name,by decide,Tryz.func274.trans (congrArg some (by kernel_rfl))⟩
 f16:=⟨Tryz.f140.name,by decide,Tryz.func140.trans (congrArg some (by kernel_rfl))⟩
 f17:=⟨Tryz.f275.name,by decide,Tryz.func275.trans (congrArg some (by kernel_rfl))⟩
 f18:=⟨Tryz.f276.name,by decide,Tryz.func276.trans (congrArg some (by kernel_rfl))⟩
 f19:=Tryz.func277.trans (congrArg some (by kernel_rfl))
 f20:=Tryz.func278.trans (congrArg some (by kernel_rfl))
 f30:=⟨Tryz.f303.name,by decide,Tryz.func303.trans (congrArg some (by kernel_rfl))⟩
 f31:=Tryz.func304.trans (congrArg some (by kernel_rfl))
 f32:=Tryz.func305.trans (congrArg some (by kernel_rfl))
 f33:=⟨Tryz.f306.name,by decide,Tryz.func306.trans (congrArg some (by kernel_rfl))⟩
 f34:=⟨Tryz.f307.name,by decide,Tryz.func307.trans (congrArg some (by kernel_rfl))⟩
 f35:=⟨Tryz.f230.name,by decide,Tryz.func230.trans (congrArg some (by kernel_rfl))⟩
 f40:=⟨Tryz.f315.name,by decide,Tryz.func315.trans (congrArg some (by kernel_rfl))⟩
 t0:=Tryz.underlying0
 a0:=Tryz.isAgg0
 z0:=Tryz.sizeOf0
 v0:=Tryz.zeroValue0
 t3:=Tryz.underlying3
 a3:=Tryz.isAgg3
 z3:=Tryz.sizeOf3
 v3:=Tryz.zeroValue3
 t4:=Tryz.underlying4
 a4:=Tryz.isAgg4
 z4:=Tryz.sizeOf4
 v4:=Tryz.zeroValue4
 t5:=Tryz.underlying5
 a5:=Tryz.isAgg5
 z5:=Tryz.sizeOf5
 v5:=Tryz.zeroValue5
 t9:=Tryz.underlying9
 a9:=Tryz.isAgg9
 z9:=Tryz.sizeOf9
 v9:=Tryz.zeroValue9
 t22:=Tryz.underlying36
 a22:=Tryz.isAgg36
 z22:=Tryz.sizeOf36
 v22:=Tryz.zeroValue36
 t23:=Tryz.underlying36
 a23:=Tryz.isAgg36
 z23:=Tryz.sizeOf36
 v23:=Tryz.zeroValue36
 t25:=Tryz.underlying3
 a25:=Tryz.isAgg3
 z25:=Tryz.sizeOf3
 v25:=Tryz.zeroValue3
 t32:=Tryz.underlying210
 a32:=Tryz.isAgg210
 z32:=Tryz.sizeOf210
 v32:=Tryz.zeroValue210
 t35:=Tryz.underlying294
 a35:=Tryz.isAgg294
 z35:=Tryz.sizeOf294
 v35:=Tryz.zeroValue294
 t36:=Tryz.underlying295
 a36:=Tryz.isAgg295
 z36:=Tryz.sizeOf295
 v36:=Tryz.zeroValue295
 t41:=Tryz.underlying127
 a41:=Tryz.isAgg127
 z41:=Tryz.sizeOf127
 v41:=Tryz.zeroValue127
 t44:=Tryz.underlying301
 a44:=Tryz.isAgg301
 z44:=Tryz.sizeOf301
 v44:=Tryz.zeroValue301
 t46:=Tryz.underlying292
 a46:=Tryz.isAgg292
 z46:=Tryz.sizeOf292
 v46:=Tryz.zeroValue292
 t53:=Tryz.underlying322
 a53:=Tryz.isAgg322
 z53:=Tryz.sizeOf322
 v53:=Tryz.zeroValue322
 t57:=Tryz.underlying183
 a57:=Tryz.isAgg183
 z57:=Tryz.sizeOf183
 v57:=Tryz.zeroValue183
 t63:=Tryz.underlying330
 a63:=Tryz.isAgg330
 z63:=Tryz.sizeOf330
 v63:=Tryz.zeroValue330
 t64:=Tryz.underlying331
 a64:=Tryz.isAgg331
 z64:=Tryz.sizeOf331
 v64:=Tryz.zeroValue331}
end Go.Proofs
namespace Go.Cs.Tryz
open Go Go.Cs Go.Proofs Go.RowKit Go.Maps Go.Sort Go.Shelf
open Go.WideElems (Fit rd rg rg_of)
theorem GlR:GdX Go.Proofs.Tryz.prog 137:=
 ⟨fun blk off cap zs w hH hblk hsz=>AnyM.slices_Sort_int Go.Proofs.Tryz.sortA blk off cap zs w hH hblk oM,fun p cap w=>AnyM.slices_Sort_int_none Go.Proofs.Tryz.sortA p cap w⟩
theorem GiZ(m:Nat):AnyZI.SortsIn Go.Proofs.Tryz.prog Go.Proofs.Tryz.sortedA_ren Fence.wide m:=
 ⟨fun blk off cap ss W hH hblk hsz=>callsIn_wide.2 (AnyM.slices_Sort_int Go.Proofs.Tryz.sortA blk off cap ss W hH hblk hsz),
  fun p cap W=>callsIn_wide.2 (AnyM.slices_Sort_int_none Go.Proofs.Tryz.sortA p cap W)⟩
def R3:Value→Option (DataW Unit×List MemPlace):=fun _=>some (.lit (.bool true),[])
theorem Gke{n:Int}(h:Hg n=true):keyOf Go.Proofs.Tryz.prog 3 (.int .i64 n)=some (.int .i64 n):=by
 have hw:(Lit.int .i64 n).wf=true:=h
 simp[keyOf,hw,show Go.Proofs.Tryz.prog.underlying 3=some (.int .i64)from by kernel_rfl,mapKey]
theorem GkT:GeB Go.Proofs.Tryz.prog 45 138:=by
 intro w Bm b es cl ks hcell hb hst hkeys hlen hrange hBm
 have hsz:es.size=ks.length:=by have:=congrArg List.length hkeys;simpa using this
 have hmem:∀x∈es.toList,∃n,n∈ks∧x.key=.int .i64 n:=by
  intro x hx
  have:x.key∈ks.map (Value.int .i64):=by rw[←hkeys];exact List.mem_map_of_mem hx
  obtain⟨n,hn,e⟩:=YX.1 this
  exact⟨n,hn,e.symm⟩
 have hin:∀n∈ks,Hg n=true:=fun n hn=>List.all_eq_true.1 hrange n hn
 have hrd:∀(x:MapEntry)(n:Int),n∈ks→x.key=.int .i64 n→rd Go.Proofs.Tryz.prog 3 R3 x=some (.int .i64 n,.lit (.bool true)):=by
  intro x n hn hx
  simp[Go.WideElems.rd,hx,Gke (hin n hn),R3]
 have hown:w.ownsMap Go.Proofs.Tryz.prog 3 R3 b es.size (.map ((es.toList.map (rg Go.Proofs.Tryz.prog 3 R3)).foldr DataW.insert [])):=
  ⟨es,cl,hb,⟨by rw[hsz];exact Jr hlen dE,hst,fun x hx=>by obtain⟨n,hn,e⟩:=hmem x hx;exact⟨_,hrd x n hn e⟩⟩,Nat.le_refl _,rfl⟩
 generalize hD:(DataW.map ((es.toList.map (rg Go.Proofs.Tryz.prog 3 R3)).foldr DataW.insert []):DataW Unit)=D0 at hown
 have hsize:Maps.size D0=es.size:=by rw[←hD];simp[Maps.size,length_sorted]
 have hperm:(intKeys D0).Perm ks:=by
  rw[←hD]
  have h1:(((es.toList.map (rg Go.Proofs.Tryz.prog 3 R3)).foldr DataW.insert []).map fun p=>intOf p.1).Perm ((es.toList.map (rg Go.Proofs.Tryz.prog 3 R3)).map fun p=>intOf p.1):=(WideShapes.sorted_perm _).map _
  refine h1.trans ?_
  have h2:(es.toList.map (rg Go.Proofs.Tryz.prog 3 R3)).map (fun p=>intOf p.1)=ks:=by
   have h3:∀(l:List MapEntry)(k:List Int),(∀n∈k,n∈ks)→l.map (·.key)=k.map (Value.int .i64)→(l.map (rg Go.Proofs.Tryz.prog 3 R3)).map (fun p=>intOf p.1)=k:=by
    intro l
    induction l with
    |nil=>intro k _ hk;cases k with
     |nil=>rfl
     |cons a k=>simp at hk
    |cons x l ih=>
     intro k hin2 hk
     cases k with
     |nil=>simp at hk
     |cons a k=>
      simp only[List.map_cons,List.cons.injEq]at hk
      simp only[List.map_cons,List.cons.injEq]
      exact⟨by rw[rg_of (hrd x a (hin2 a NC) hk.1)];rfl,ih k (fun n hn=>hin2 n (Um _ hn)) hk.2⟩
   exact h3 _ _ (fun _ h=>h) hkeys
  rw[h2]
 have hseq:SeqGives Fence.wide 2 Go.Proofs.Tryz.prog 138 #[.pointer (some ⟨Bm,0,none⟩)] encZ (fun ss=>ss.Perm (intKeys D0)) (Maps.size D0) w:=
  AnyZI.keys_gives (ρ:=Go.Proofs.Tryz.keysA_ren) {Go.Proofs.Tryz.keysA with} Fence.wide _ trivial rfl oM Bm b es.size D0 w hBm hcell hown
 have cS:=AnyZI.sorted_in Go.Proofs.Tryz.sortedA Fence.wide 5 trivial trivial trivial trivial rfl oM (GiZ _) (enters_of Go.Proofs.Tryz.func137 (by kernel_rfl) rfl) 138 #[.pointer (some ⟨Bm,0,none⟩)] trivial (enters_of Go.Proofs.Tryz.func138 (by kernel_rfl) rfl) _ _ (by rw[hsize,hsz];exact Jr hlen dE) (by rw[hsize,hsz];omega) w hseq
 change CallsIn _ _ Go.Proofs.Tryz.prog 45 _ _ _ at cS
 refine(callsIn_wide.1 cS).mono ?_
 rintro e w' ⟨v,ss,rfl,hS,hrow,hnil,hbel⟩
 have hp:ss.Perm ks:=hS.trans hperm
 have hsort:ss.mergeSort (fun x y=>decide (x≤y))=ks.mergeSort (fun x y=>decide (x≤y)):=by
  rw[Qh,Qh]
  exact DU ((QW ss).trans hp) (U2 ss)
 refine⟨v,rfl,hbel,?_⟩
 have hl:ss.length=ks.length:=hp.length_eq
 rcases hrow.2 with⟨rfl,h0⟩|⟨g,cap,cur,rfl,h1,h2,h3,h4,h5,h6⟩
 ·exact .inl ⟨Bo oM,rfl⟩
 ·refine .inr ⟨fun e=>?_,g,cap,cur,_,by rw[hl],h1,h2,oM,by rw[h5,Nat.mul_one],?_⟩
  ·have:ss=[]:=Bo (by rw[hl,e];rfl)
   have:=hnil.2 this
   cases this
  ·rw[←hl,←Nat.mul_one ss.length,h6,hsort]
theorem GgG:D6 Go.Proofs.Tryz.prog:=by
 intro f fn hfn
 have hall:((List.range Go.Proofs.Tryz.prog.funcs.size).all fun i=>match Go.Proofs.Tryz.prog.funcs[i]? with|some fn=>(!isSort fn||i==137)&&(!isSorted fn||i==45)|none=>true)=true:=by kernel_rfl
 have hf:f<Go.Proofs.Tryz.prog.funcs.size:=(N7.1 hfn).1
 have h1:=List.all_eq_true.1 hall f (List.mem_range.2 hf)
 rw[hfn]at h1
 simp only[JQ,Bool.or_eq_true,Bool.not_eq_true',beq_iff_eq]at h1
 refine⟨fun h=>?_,fun h g hg=>?_⟩
 ·rcases h1.1 with h2|rfl
  ·rw[h]at h2;cases h2
  ·exact GlR
 ·rcases h1.2 with h2|rfl
  ·rw[h]at h2;cases h2
  ·have hk:Xg Go.Proofs.Tryz.prog=some 138:=by kernel_rfl
   rw[hk]at hg
   simp only[Gx]at hg
   subst hg
   exact GkT
end Go.Cs.Tryz
namespace Go.Proofs.YthpfmihkegbbgaaGreatDoor
open Go Go.Cs
def TU:List (String×DataW Unit):=[("dustcart/weak.headShape",Rows.laid_dustcart_weak_headShape),("dustcart/weak.entryShape",Rows.laid_dustcart_weak_entryShape)]
def Gdv(P:Program)(t:TypeId):Bool:=match P.underlying t with
 |some (.struct fs)=>decide (P.cellsOf t=fs.size)&&fs.toList.zipIdx.all fun x=>decide (x.1.offset=x.2)&&decide (P.cellsOf x.1.type=1)&&(match P.underlying x.1.type with|some (.int .i64)=>true|_=>false)
 |_=>false
theorem OU{H:Type}{enc:TypeId×Value→H}{P:Program}{w:World}{base:Nat}{spare:Nat→Bool}{held:Bool}{fuel:Nat}{t:TypeId}{cs:List Value}{zs:List Int}{p:List MemPlace}
  (hB:Gdv P t=true)(h:DataW.trod enc P w base spare held fuel t cs=some (.agg (zs.map fun z=>.lit (.int .i64 z)),p)):cs=zs.map (Value.int .i64):=by
 unfold Gdv at hB
 split at hB
 case h_2=>cases hB
 rename_i fs ht
 rw[JQ,decide_eq_true_eq]at hB
 obtain⟨hc,hf⟩:=hB
 obtain⟨xs,n,rfl,hx,hl,hxl,hE⟩:=DataW.trod_struct ht h
 simp only[Prod.mk.injEq,DataW.agg.injEq]at hx
 have hz:=hx.1
 have hzl:zs.length=fs.size:=by
  have:=congrArg List.length hz
  simp at this;omega
 refine List.ext_getElem? fun i=>?_
 by_cases hi:i<fs.size
 ·have e:=List.all_eq_true.1 hf (fs[i],i) (by
   rw[List.mem_iff_getElem]
   exact⟨i,by simpa using hi,sM⟩)
  simp only[JQ,decide_eq_true_eq]at e
  obtain⟨⟨e1,e2⟩,e3⟩:=e
  have h1:=hE i fs[i] (O1 hi)
  have hxi:xs[i]?=some xs[i]:=J9 oM
  rw[hxi]at h1
  split at e3
  case h_2=>cases e3
  rename_i hu
  obtain⟨m,q1,q2,-⟩:=DataW.trod_int hu h1
  rw[e1,e2]at q1
  have g1:cs[i]?=some (.int .i64 m):=by
   have:((cs.drop i).take 1)[0]?=some (Value.int .i64 m):=by rw[q1];rfl
   rw[Ze,if_pos oM,Yo]at this
   simpa using this
  have g2:(zs.map fun z=>(DataW.lit (.int .i64 z):DataW H))[i]?=some (.lit (.int .i64 m)):=by
   rw[hz,Ke,hxi,q2];rfl
  rw[Ke,GR]at g2
  obtain⟨z,g3,g4⟩:=g2
  simp only[DataW.lit.injEq,Lit.int.injEq,true_and]at g4
  rw[g1,Ke,g3,g4];rfl
 ·rw[En oM,En (by simp;omega)]
theorem GlY:Tryz.prog.globalNamed "dustcart/weak.headShape" =some 0:=by kernel_rfl
theorem Gje:Tryz.prog.globalNamed "dustcart/weak.entryShape" =some 1:=by kernel_rfl
theorem Gk8:(Tryz.prog.globals[0]?).map (·.type)=some 69:=by kernel_rfl
theorem GiC:(Tryz.prog.globals[1]?).map (·.type)=some 69:=by kernel_rfl
theorem Gdz:Gdv Tryz.prog 69=true:=by kernel_rfl
theorem Gd5:((List.range Tryz.prog.globals.size).filter fun g=>(ZW Tryz.prog g).isSome)=[0,1]:=by kernel_rfl
theorem gl0:ZW Tryz.prog 0=some [8,1,3]:=by kernel_rfl
theorem gl1:ZW Tryz.prog 1=some [3,1,2]:=by kernel_rfl
theorem Wz{P:Program}{w:World}{n:String}{g:Nat}{cs:Array Value}(hg:P.globalNamed n=some g)(h:w.var? P n=some cs):∃T fz,w.heap[g]?=some (.cells cs T fz):=by
 simp only[World.var?,hg,Option.bind_some]at h
 split at h
 ·rename_i cs' T fz hh
  simp only[Gx]at h
  subst h
  exact⟨_,_,hh⟩
 ·cases h
theorem PX{W:World}(h:laidMetH Tryz.prog TU W):Z0 Tryz.prog W:=by
 rw[MakeChecks.laidMetH_plain _ _ _ (by kernel_rfl)]at h
 obtain⟨ps,⟨g0,t0,cs0,f0,p0,q0,hg0,ht0,hv0,hd0,⟨g1,t1,cs1,f1,p1,q1,hg1,ht1,hv1,hd1,_,_⟩,_⟩,_,_⟩:=h
 obtain rfl:=Option.some.inj (GlY.symm.trans hg0)
 obtain rfl:=Option.some.inj (Gje.symm.trans hg1)
 obtain rfl:=Option.some.inj (Gk8.symm.trans ht0)
 obtain rfl:=Option.some.inj (GiC.symm.trans ht1)
 have c0:=OU (zs:=[8,1,3]) Gdz hd0
 have c1:=OU (zs:=[3,1,2]) Gdz hd1
 obtain⟨T0,z0,k0⟩:=Wz hg0 hv0
 obtain⟨T1,z1,k1⟩:=Wz hg1 hv1
 intro g zs hz
 have hm:g∈((List.range Tryz.prog.globals.size).filter fun g=>(ZW Tryz.prog g).isSome):=by
  refine List.mem_filter.2 ⟨List.mem_range.2 ?_,by rw[hz];rfl⟩
  unfold ZW at hz
  rw[Jt]at hz
  obtain⟨x,hx,-⟩:=hz
  exact(N7.1 hx).1
 rw[Gd5]at hm
 simp only[List.mem_cons,List.not_mem_nil,or_false]at hm
 rcases hm with rfl|rfl
 ·rw[gl0]at hz
  simp only[Gx]at hz
  subst hz
  exact⟨T0,z0,by rw[k0,←c0]⟩
 ·rw[gl1]at hz
  simp only[Gx]at hz
  subst hz
  exact⟨T1,z1,by rw[k1,←c1]⟩
theorem GfX(os:Os)(args:Array Value):laidMetH Tryz.prog TU ((World.doorLaid Tryz.prog 400 os).forCall (fun _ _=>0) ⟨#[],args,[]⟩).memory:=
 laidMetH_of_parts3 (fuel:=8) (laidMet_of_run' 8 (by kernel_rfl) (by kernel_rfl)) (by kernel_rfl) (by kernel_rfl)
end Go.Proofs.YthpfmihkegbbgaaGreatDoor
namespace Go.Proofs.YthpfmihkegbbgaaGreatDoor.weakTwo
open Go Go.Cs Go.ChangeShapes Go.WideShapes Go.ChangeAt Go.RowKit
set_option linter.unusedVariables false
theorem own:ownKnob Tryz.prog.godebug=none:=by kernel_rfl
theorem laidOut:laidOutB Tryz.prog=true:=by kernel_rfl
theorem follows:Tryz.prog.follows .mixedOrders=true:=by kernel_rfl
set_option maxRecDepth 100000 in
theorem lifted(os:Os)(started:os.Started)(H:Type)(enc:TypeId×Value→H):
  ReturnsInHanded {} Tryz.checked os 5 .any (fun w args=>(Rows.weakTwoSpec.pre enc Tryz.prog Tryz.f5 [] false w args∧laidMetH Tryz.prog TU w)∧sizedMet enc Tryz.prog Tryz.f5 (OpenSpec.ofChange Rows.weakTwoSpec) false w args) (Rows.weakTwoSpec.post enc Tryz.prog Tryz.f5 false true false false):=by
 refine returnsInHanded_of_change_and (C:=Tryz.checked) (X:=fun w _=>laidMetH Tryz.prog TU w) (fun _ _ _ hh h=>h.of_heap hh) own started (by kernel_rfl) Tryz.func5
  (ChangeSpec.witness_shaped (enc:=enc) (C:=Tryz.checked) (os:=os) (X:=fun w _=>laidMetH Tryz.prog TU w) false (World.doorLaid Tryz.prog 400 os) #[.agg #[.int .u8 0,.int .u8 0,.slice none 0 0,.slice none 0 0,.slice none 0 0,.slice none 0 0,.slice none 0 0]] 8 rfl (World.shaped_of_RefB (by kernel_rfl) (by kernel_rfl)) (by kernel_rfl) (by kernel_rfl) (by kernel_rfl) (GfX os _)) ?_
 intro W base args ds gs before hval0 hW hcnd hsz0 hL _
 have hval:∀(j:Nat) t v,Tryz.f5.params[j]?=some t→args[j]?=some v→Value.okWide Tryz.prog W .any base t v:=hval0
 have hW':=hW
 obtain⟨p,q,hA0,hV,rfl,hfz,hnd⟩:=hW
 have hA:DataW.TrodAll enc Tryz.prog W 0 (fun _=>true) true Tryz.f5.params.toList args.toList ds p:=hA0
 rw[Tryz.params5]at hA hval
 clear hA0 hval0 hsz0 hcnd
 obtain⟨v0,vs0,d0,ds0,p0,q0,hargs,rfl,rfl,h0,r0⟩:=trodAll_cons hA
 obtain⟨rfl,rfl,rfl⟩:=trodAll_nil r0
 obtain rfl:args=#[v0]:=by cases args;simp_all
 obtain⟨rfl,rfl⟩:=trodVars_none hV
 have lt0:∀x∈p0,x.block<W.heap.size:=by obtain⟨m,hm⟩:=h0;exact DataW.trod_lt m _ _ _ hm
 obtain⟨bl0,mu0,x0,bs0,tg0,ge0,bk0,vx0,bg0⟩:=Go.Cs.Tryz.XT (hval 0 27 v0 rfl rfl) h0
 obtain⟨H1,hrun⟩:∃H1,run (Kn Tryz.prog) 5 [.agg [.int .u8 bl0,.int .u8 mu0,x0 2,x0 3,x0 4,x0 5,x0 6]] bs0=some (.bool true,H1):=Go.Cs.Tryz.two bg0
 have hb:∀b blk,bs0[b]?=some blk→GaU W blk (tg0.getD b none):=bk0
 refine(GcG follows Go.Cs.Tryz.GgG (PX hL) dE (tgs:=tg0) (W:=W) (args':=#[v0]) ge0 hb hrun ?_).mono fun e W' he=>?_
 ·simp only[VL]
  exact⟨_,_,rfl,vx0,rfl⟩
 obtain⟨⟨ν,v',rfl,hv'⟩,bel⟩:=he
 simp only[V]at hv'
 subst hv'
 exact⟨_,rfl,_,_,_,[],_,[],hW',trodAll_mk1 (shut_bool (show Tryz.prog.underlying 4=some .bool from by kernel_rfl) _),(trodAll_cons_mk (Below.trod laidOut (by kernel_rfl) (of_decide_eq_true (by kernel_rfl)) h0 bel lt0) trodAll_mk0),rfl,bel.frame _,fun h=>by cases h⟩
theorem Ga6:Tryz.f5.isWrapper Tryz.pinned.checked.prog Rows.weakTwoRow.wrapper Rows.weakTwoRow.mainSum:=by
 unfold Func.isWrapper
 first|(rw[if_pos dK];kernel_rfl)|(rw[if_neg dK];exact⟨rfl,rfl⟩)
theorem GjE:Tryz.pinned.checked.prog.funcNamed Rows.weakTwoRow.func=some 5:=by kernel_rfl
theorem Gg4:joinedFacts Tryz.pinned.checked.prog 5 Tryz.f5 Rows.weakTwoSpec Rows.weakTwoRow=true:=by kernel_rfl
theorem Glo:Tryz.f5.isInstance Tryz.pinned.checked.prog Rows.weakTwoRow.origin Rows.weakTwoRow.targs:=of_decide_eq_true (by kernel_rfl)
set_option maxHeartbeats 2000000 in
theorem over:Rows.weakTwoRow.holds Tryz.pinned (OpenSpec.ofChange Rows.weakTwoSpec):=
 OpenClaim.holds_of_wide 5 Tryz.f5 rfl rfl rfl rfl rfl rfl rfl ⟨rfl,rfl,rfl,rfl,rfl⟩ rfl rfl rfl rfl rfl GjE Tryz.func5 Gg4 Glo Ga6
  (fun os started H enc _=>lifted os started H enc)
end Go.Proofs.YthpfmihkegbbgaaGreatDoor.weakTwo
namespace Go.Proofs.YthpfmihkegbbgaaGreatDoor
theorem weakTwo_row_holds:Rows.WeakTwoSaid:=weakTwo.over
theorem weakTwo_holds:Rows.WeakTwoCardSaid:=
 Claim7.holds_tied_plain_at .later [] [.data,.data] true (true, "c152f6d82ca194ae67d6b1058f2e90d96c76bfdf0a07b3ef32761bb776b3354e") false
  weakTwo_row_holds (fun _ h=>by cases h) (by as_aux_lemma=>kernel_rfl) (fun _ h=>by cases h) weakTwo_row_tie rfl ⟨rfl,rfl⟩ (by as_aux_lemma=>kernel_rfl) rfl
  (fun f fn hf hfn=>by
   obtain rfl:f=5:=Option.some.inj ((show Tryz.prog.funcNamed "dustcart/dustcartlaw19.WeakTwo" =some 5 by as_aux_lemma=>kernel_rfl).symm.trans hf) |>.symm
   obtain rfl:fn=Tryz.f5:=(Option.some.inj (Tryz.func5.symm.trans hfn)).symm
   exact⟨by as_aux_lemma=>kernel_rfl,fun j t ht=>by
    rw[Tryz.params5]at ht
    have hm:t∈[27]:=by simpa using Array.mem_of_getElem? ht
    have hall:([27].all fun u=>!Tryz.prog.wantsStandIn u)=true:=by as_aux_lemma=>kernel_rfl
    exact(show Tryz.prog.wantsStandIn t=false by simpa using List.all_eq_true.1 hall t hm)⟩)
  (by as_aux_lemma=>kernel_rfl)
#print axioms weakTwo_holds
end Go.Proofs.YthpfmihkegbbgaaGreatDoor
