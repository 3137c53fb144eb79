/- A part of the proof: WeakTwo returns true for every input: Kept and Waiting return the kept objects of the document; after Clear with these no weak reference of a kept object leads to one that is not kept, and a second Clear has no effect (P19.1, P19.2) Conditions: none. -/
import Derived.Test.YthpfmihkegbbgaaGreatDoorWeakTwo1
import Derived.Test.YthpfmihkegbbgaaGreatDoorProg
import Derived.KernelRfl
set_option linter.unusedVariables false
set_option linter.unusedSimpArgs false
set_option linter.defProp false
set_option maxRecDepth 100000
namespace Go.Cs
open Go
def QM(f:Nat→Bool):Nat→Nat→List Nat
 |0,_=>[]
 |k+1,j=>if f j=true then j::QM f k (j+1)else QM f k (j+1)
theorem IJ(f:Nat→Bool):∀(k j n:Nat),n=j+k→QM f k j=match OC f k j with|some i=>i::QM f (n-(i+1)) (i+1)|none=>[]
 |0,j,n,_=>rfl
 |k+1,j,n,h=>by
  simp only[QM,OC]
  by_cases hf:f j=true
  ·rw[if_pos hf,if_pos hf]
   have:n-(j+1)=k:=by omega
   simp only[this]
  ·rw[if_neg hf,if_neg hf]
   exact IJ f k (j+1) n oM
theorem Pb(f:Nat→Bool):∀(k j i:Nat),OC f k j=some i→j≤i∧i<j+k∧f i=true
 |0,j,i,h=>by cases h
 |k+1,j,i,h=>by
  simp only[OC]at h
  by_cases hf:f j=true
  ·rw[if_pos hf]at h
   simp only[Gx]at h
   subst h
   exact⟨oM,oM,hf⟩
  ·rw[if_neg hf]at h
   have:=Pb f k (j+1) i h
   exact⟨oM,oM,this.2.2⟩
theorem U5(f:Nat→Bool):∀(k j:Nat)(l:List Nat),l.Pairwise (·<·)→(∀i∈l,j≤i∧i<j+k)→(∀i,j≤i→i<j+k→(f i=true↔i∈l))→QM f k j=l
 |0,j,l,_,h,_=>by
  cases l with
  |nil=>rfl
  |cons x l=>have:=h x NC;omega
 |k+1,j,l,hs,h,hf=>by
  simp only[QM]
  by_cases hj:f j=true
  ·rw[if_pos hj]
   have hm:=(hf j oM oM).1 hj
   cases l with
   |nil=>cases hm
   |cons x l=>
    rw[List.pairwise_cons]at hs
    have hx:x=j:=by
     rcases List.mem_cons.1 hm with e|e
     ·exact e.symm
     ·have:=hs.1 j e
      have:=h x NC
      omega
    subst hx
    congr 1
    refine U5 f k (x+1) l hs.2 (fun i hi=>?_) (fun i h1 h2=>?_)
    ·have:=hs.1 i hi
     have:=h i (Um _ hi)
     omega
    ·rw[hf i oM oM,List.mem_cons]
     constructor
     ·rintro (e|e)
      ·omega
      ·exact e
     ·exact .inr
  ·rw[if_neg hj]
   refine U5 f k (j+1) l hs (fun i hi=>?_) (fun i h1 h2=>hf i oM oM)
   have h1:=h i hi
   have:i≠j:=by rintro rfl;exact hj ((hf i oM oM).2 hi)
   omega
def Hp.all(s:Hp):List Int:=s.objs.map fun o=>(o.addr:Int)
theorem Hp.Ok.LQ{s:Hp}(k:s.Ok):QM s.starts (32*s.blk.length) 0=s.objs.map fun o=>o.addr/2:=by
 refine U5 _ _ _ _ ?_ ?_ ?_
 ·rw[List.pairwise_map]
  refine List.Pairwise.imp_of_mem (fun{a b} ha hb h=>?_) k.apart
  have h1:=(k.ob a ha).even
  have h2:=(k.ob b hb).even
  have h3:=a.size_pos
  omega
 ·intro i hi
  rw[YX]at hi
  obtain⟨o,ho,rfl⟩:=hi
  have h1:=(k.ob o ho).fits
  have h2:=o.size_pos
  unfold Hp.nw at h1
  omega
 ·intro i _ _
  unfold Hp.starts
  rw[List.any_eq_true,YX]
  constructor
  ·rintro ⟨o,ho,h⟩
   have h1:o.addr=2*i:=by simpa using h
   exact⟨o,ho,oM⟩
  ·rintro ⟨o,ho,h⟩
   have h1:=(k.ob o ho).even
   exact⟨o,ho,by simp;omega⟩
theorem Hp.Ok.few{s:Hp}(k:s.Ok):s.objs.length≤2048:=by
 have h:∀(k j:Nat)(f:Nat→Bool),(QM f k j).length≤k:=by
  intro k
  induction k with
  |zero=>intro j f;simp[QM]
  |succ k ih=>intro j f;simp only[QM];have:=ih (j+1) f;split<;>simp<;>omega
 have h1:=h (32*s.blk.length) 0 s.starts
 rw[k.LQ,Wu]at h1
 have:=k.nb
 omega
theorem At.keeps{k:Nat}{o:Tags}{t:Tag}{H H':Gb}{v:CV}{n:Nat}{cs:List CV}(h:At o t H v k n cs)(a:Gr H H'):At o t H' v k n cs:=by
 rcases h with h|⟨b,tl,rfl,h1,h2,h3⟩
 ·exact .inl h
 ·exact .inr ⟨b,tl,rfl,h1,a.get h2,h3⟩
abbrev IL(k:Nat)(H:Gb)(v:CV)(l:List Int):Prop:=At (Loc k) z3 H v 1 l.length (ints l)
theorem IL.nil{k:Nat}{H:Gb}:IL k H .Gf []:=.inl ⟨rfl,rfl,.inl rfl⟩
theorem IL.cat{k:Nat}{H:Gb}{v:CV}{l l2:List Int}(h:IL k H v l)(hk:k≤H.length)(hm:l.length+l2.length≤16777216):
  ∃v' H',Jv H 1 v l2.length (ints l2)=some (v',H')∧IL k H' v' (l++l2)∧Keeps H H' (fun c=>k≤c):=by
 by_cases h2:l2=[]
 ·subst h2
  refine⟨v,H,?_,by simpa using h,Keeps.refl _ _⟩
  rcases h with⟨_,_,rfl|⟨b,f,rfl⟩⟩|⟨b,tl,rfl,h1,h2,h3⟩<;>rfl
 ·have hp:0<l2.length:=BQ.2 h2
  obtain⟨H',a1,a2,a3,a4⟩:=At.append (k:=l2.length) (new:=ints l2) h hp hm (EK _) (by simp[Aa])
  refine⟨_,H',a1,.inr ⟨H.length,true,sM,Gn.2 ⟨hk,rfl⟩,by rw[a3,UZ],by simp[Aa]⟩,⟨oM,fun c hc hk'=>a4 c oM (fun h=>by have:=(Gn.1 h).1;exact hk' this)⟩⟩
theorem IL.push{k:Nat}{H:Gb}{v:CV}{l:List Int}(h:IL k H v l)(hk:k≤H.length)(hm:l.length+1≤16777216)(x:Int):
  ∃v' H',Jv (H++[⟨[.i x],.rw,1⟩]) 1 v 1 [.i x]=some (v',H')∧IL k H' v' (l++[x])∧Keeps H H' (fun c=>k≤c):=by
 obtain⟨v',H',a,b,c⟩:=IL.cat (l2:=[x]) (h.keeps (.app H [⟨[.i x],.rw,1⟩])) (by simp;omega) hm
 exact⟨v',H',a,b,(Keeps.app H _ _).trans c⟩
theorem Gr.news{H0 H H':Gb}(a:Gr H0 H)(b:Keeps H H' (fun c=>H0.length≤c)):Gr H0 H':=
 ⟨Jr a.len b.len,fun c hc _=>by rw[b.keep c (JH hc a.len) oM,a.keep c hc fun h=>h]⟩
theorem IL.sl{k:Nat}{H:Gb}{v:CV}{l:List Int}(h:IL k H v l):W_ H v l:=by
 rcases h with⟨h1,h2,rfl|⟨b,f,rfl⟩⟩|⟨b,tl,rfl,h1,h2,h3⟩
 ·exact .inl ⟨by simp[Vx,Bo h1],.inl rfl⟩
 ·exact .inl ⟨by simp[Vx,Bo h1],.inr ⟨b,f,0,false,rfl⟩⟩
 ·refine .inr ⟨b,0,l.length,tl,_,by simp[Vx],h2,.inl rfl,fun i r hi=>?_⟩
  simp only[Vx,Ke,GR]at hi
  obtain⟨x,hx,rfl⟩:=hi
  have hc:(ints l)[i]?=some (.i x):=by rw[ZX,hx];rfl
  refine⟨?_,rfl⟩
  rw[Nat.zero_add,Nat.mul_one]
  have hl:=Gd hc
  rw[List.drop_eq_getElem_cons hl,List.take_succ_cons,List.take_zero]
  rw[J9 hl]at hc
  simp only[Gx]at hc
  rw[hc]
theorem JW{cs:List CV}{e n:Nat}(h:cs.length=n):EZ (some ⟨cs,.rw,e⟩) 0 n=some cs:=by
 rw[Ug,if_pos oM];simp[←h]
end Go.Cs
namespace Go.Cs.Tryz
open Go Go.Cs
section
variable {H : Gb} {hb : Nat} {s : Hp} {L : GD}
theorem GbJ(p:PH H hb s L)(k:s.Ok){to:Int}(hto:to≤4096){E0:Env}(h0:E0 0=.ptr hb 0)(h2:E0 2=.i to)(h7:E0 7=.Gf){j0:Nat}(hj:j0≤32*s.blk.length)(h8:.Ju [E0 8,E0 9]=Ns (OC s.starts (32*s.blk.length-j0) j0))
  {r:Option (CX×Env×Gb)}(hr:den P (.loop BP) E0 H=r):
  ∃E' H',r=some (.exit 0,E',H')∧Gr H H'∧IL H.length H' (E' 7) (((QM s.starts (32*s.blk.length-j0) j0).map fun i=>((2*i:Nat):Int)).takeWhile fun a=>decide (a<to)):=by
 have hnb:=k.nb
 obtain⟨x',E',H',e,-,⟨rfl,g,hnew⟩,fr⟩:=Gy (p:=P) (c:=BP) (E0:=E0) (H0:=H)
  (fun m E H'=>Gr H H'∧∃(j:Nat)(l:List Int),j≤32*s.blk.length∧m=32*s.blk.length+1-j∧l.length≤j∧.Ju [E 8,E 9]=Ns (OC s.starts (32*s.blk.length-j) j)∧IL H.length H' (E 7) l∧
   l++(((QM s.starts (32*s.blk.length-j) j).map fun i=>((2*i:Nat):Int)).takeWhile fun a=>decide (a<to))=(((QM s.starts (32*s.blk.length-j0) j0).map fun i=>((2*i:Nat):Int)).takeWhile fun a=>decide (a<to)))
  (fun x E' H'=>x=.exit 0∧Gr H H'∧IL H.length H' (E' 7) (((QM s.starts (32*s.blk.length-j0) j0).map fun i=>((2*i:Nat):Int)).takeWhile fun a=>decide (a<to))) (by
   rintro m E H' hE ⟨g,j,l,hj,rfl,hlj,e8,hn,hd⟩
   have e0:=(hE 0 dK).trans h0
   have e2:=(hE 2 dK).trans h2
   have pt:=(p.gr g).top
   rw[IJ s.starts _ _ (32*s.blk.length) oM]at hd
   cases hu:OC s.starts (32*s.blk.length-j) j with
   |none=>
    rw[hu]at hd e8
    simp only[Ns,CV.Ju.injEq,List.cons.injEq,and_true]at e8
    simp only[List.map_nil,List.takeWhile_nil,List.append_nil]at hd
    apply Gl (x:=.exit 0)
    ·simp(disch:=first|exact dz|fail) only[simprocAttr,Gc,↓reduceIte,BP,e0,e2,e8.1,e8.2,show((4:Int)==0)=false from rfl,Bool.false_eq_true]
     rfl
    ·simp
    ·exact⟨rfl,g,by rw[←hd];simpa[Gg]using hn⟩
   |some i=>
    rw[hu]at hd e8
    simp only[Ns,CV.Ju.injEq,List.cons.injEq,and_true]at e8
    obtain⟨b1,b2,b3⟩:=Pb _ _ _ _ hu
    have w1:IntKind.i64.wrap (2*(i:Int))=((2*i:Nat):Int):=Gh oM
    have w2:IntKind.i64.wrap ((i:Int)+1)=((i+1:Nat):Int):=Gh oM
    simp only[List.map_cons]at hd
    by_cases c:((2*i:Nat):Int)<to
    ·rw[List.takeWhile_cons_of_pos (by simpa using c)]at hd
     have hlen:l.length+1≤16777216:=by omega
     obtain⟨v',H1,a1,a2,a3⟩:=IL.push hn g.len hlen ((2*i:Nat):Int)
     have g1:=g.news a3
     have c':decide (((2*i:Nat):Int)<to)=true:=GK c
     have pt1:=(p.gr g1).top
     have hnx:=P7 (p.gr g1).sta (i+1)
     have hel:elems (H'++[⟨[.i ((2*i:Nat):Int)],.rw,1⟩]) 1 (.slice H'.length 0 1 1 1 false)=some (1,[.i ((2*i:Nat):Int)]):=by
      rw[JC oM]
      simp(disch:=first|exact dz|fail) only[simprocAttr,Gc,↓reduceIte,JW]
     obtain⟨u1,u2,hu2⟩:∃u1 u2,Ns (OC s.starts (32*s.blk.length-(i+1)) (i+1))=.Ju [u1,u2]:=by
      cases OC s.starts (32*s.blk.length-(i+1)) (i+1)with
      |none=>exact⟨_,_,rfl⟩
      |some q=>exact⟨_,_,rfl⟩
     rw[hu2]at hnx
     apply Gt (k':=32*s.blk.length+1-(i+1))
     ·simp(disch:=first|exact dz|fail) only[simprocAttr,Gc,↓reduceIte,BP,e0,e2,e8.1,e8.2,show((0:Int)==0)=true from rfl,w1,w2,c',hel,Ja,a1,pt1,hnx]
      rfl
     ·omega
     ·refine⟨g1,i+1,l++[((2*i:Nat):Int)],oM,rfl,by simp;omega,?_,?_,?_⟩
      ·rw[hu2];simp[Gg]
      ·simpa[Gg]using a2
      ·rw[←hd,List.append_assoc];rfl
    ·rw[List.takeWhile_cons_of_neg (by simpa using c),List.append_nil]at hd
     have c':decide (((2*i:Nat):Int)<to)=false:=GC c
     apply Gl (x:=.exit 0)
     ·simp(disch:=first|exact dz|fail) only[simprocAttr,Gc,↓reduceIte,BP,e0,e2,e8.1,e8.2,show((0:Int)==0)=true from rfl,w1,c']
      rfl
     ·simp
     ·exact⟨rfl,g,by rw[←hd];simpa[Gg]using hn⟩) _ ⟨Keeps.refl H _,j0,[],hj,rfl,sM,h8,by rw[h7];exact IL.nil,sM⟩
 exact⟨E',H',hr.symm.trans e,g,hnew⟩
theorem Dn(p:PH H hb s L)(k:s.Ok){f:Nat}(hf:f≤s.nw){to:Int}(hto:to≤4096):
  ∃v H',run P 170 [.ptr hb 0,.i f,.i to] H=some (v,H')∧Gr H H'∧IL H.length H' v (((QM s.starts (32*s.blk.length-f/2) (f/2)).map fun i=>((2*i:Nat):Int)).takeWhile fun a=>decide (a<to)):=by
 have hnb:=k.nb
 unfold Hp.nw at hf
 have hnx:=P7 p.sta (f/2)
 obtain⟨u1,u2,hu2⟩:∃u1 u2,Ns (OC s.starts (32*s.blk.length-f/2) (f/2))=.Ju [u1,u2]:=by
  cases OC s.starts (32*s.blk.length-f/2) (f/2)with
  |none=>exact⟨_,_,rfl⟩
  |some q=>exact⟨_,_,rfl⟩
 rw[hu2]at hnx
 have hd:(f:Int).tdiv 2=((f/2:Nat):Int):=KT f 2
 have hw:IntKind.i64.wrap ((f/2:Nat):Int)=((f/2:Nat):Int):=Gh oM
 have pt:=p.top
 rw[Gi GnI _ _ sM]
 simp(disch:=first|exact dz|fail) only[simprocAttr,Gc,↓reduceIte,G8,pt,hd,hw,hnx,GH]
 generalize hr:den P (.loop BP) _ _=r
 obtain⟨E',H',rfl,g,hn⟩:=GbJ p k hto (j0:=f/2) uA uA uA oM (by rw[hu2];simp[Gg]) hr
 refine⟨E' 7,H',?_,g,hn⟩
 simp(disch:=first|exact dz|fail) only[simprocAttr,Gc,↓reduceIte]
theorem Bc{α:Type}{p:α→Bool}:∀{l:List α},(∀x∈l,p x=true)→l.takeWhile p=l
 |[],_=>rfl
 |x::l,h=>by rw[List.takeWhile_cons_of_pos (h x NC),Bc fun y hy=>h y (Um _ hy)]
theorem LM(p:PH H hb s L)(k:s.Ok):∃v H',run P 73 [.ptr hb 0] H=some (v,H')∧Gr H H'∧IL H.length H' v s.all:=by
 have hnb:=k.nb
 obtain⟨v,H',h1,g,h2⟩:=Dn p k (f:=0) oM (to:=(s.nw:Int)) (by unfold Hp.nw;omega)
 have h1':run P 170 [.ptr hb 0,.i 0,.i s.nw] H=some (v,H'):=h1
 have h3:=Nj p k
 have pt:=p.top
 refine⟨v,H',?_,g,?_⟩
 ·rw[Gi c73 _ _ sM]
  simp(disch:=first|exact dz|fail) only[simprocAttr,Gc,↓reduceIte,Gv,pt,h3,Bool.not_true,KA,h1']
 ·rw[show 32*s.blk.length-0/2=32*s.blk.length from rfl,show 0/2=0 from rfl,k.LQ,List.map_map]at h2
  have e:(s.objs.map ((fun i=>((2*i:Nat):Int))∘fun o=>o.addr/2))=s.all:=by
   unfold Hp.all
   refine List.map_congr_left fun o ho=>?_
   have:=(k.ob o ho).even
   simp only[Function.comp_apply]
   omega
  rw[e,Bc]at h2
  ·exact h2
  ·intro x hx
   simp only[Hp.all,YX]at hx
   obtain⟨o,ho,rfl⟩:=hx
   have:=(k.ob o ho).fits
   have:=o.size_pos
   simp;omega
end
end Go.Cs.Tryz
namespace Go.Cs.Tryz
open Go Go.Cs A
def Gq_:Gm:=⟨48,0,T [n 4 0,n 5 0] (S (T [m 8 0,q1 9 95 8,no 10 9] (I 10 (Q [n 4 0,n 5 5]))) (S (T [m 11 1,bk 12 .lss 11 0,m 13 12,gf 13 (m 14 1),gf 13 (m 15 0),gf 13 (z 16 15),gf 13 (f 17 1 16),gf 13 (l 18 1 17),gf 13 (le 19 18),gf 13 (b 20 .geq 14 19),or 21 13 20] (I 21 (Q [n 4 0,n 5 4]))) (T [m 23 0,z 24 23,f 25 2 24,l 26 1 25,m 27 1,bk 28 .quo 27 2,bk 29 .add 28 1,ca 30 261 [t 26,t 29,k 1],m 22 30,ex 31 22 0,ex 32 22 1,m 6 31,m 7 32] (S (T [m 33 7,bk 34 .neq 33 0,m 35 34,gf 35 (m 36 1),gf 35 (m 37 6),gf 35 (e 38 (.bin .mul (k 2) (t 37))),gf 35 (m 39 0),gf 35 (m 40 6),gf 35 (e 41 (.bin .mul (k 2) (t 40))),gf 35 (q2 42 155 39 41),gf 35 (b 43 .add 38 42),gf 35 (b 44 .geq 36 43),or 45 35 44] (I 45 (Q [n 4 0,n 5 4]))) (Q [m 46 6,e 47 (.bin .mul (k 2) (t 46)),m 4 47,n 5 0]))))),[r 4,r 5]⟩
theorem c203:P 203=some Gq_:=by kernel_rfl
def Ag:Gu:=S (T [m 6 0,z 7 6,f 8 0 7,l 9 1 8,m 10 1,x 11 2 9 10,f 12 0 11,l 13 1 12,bk 14 .eql 13 2,m 15 14,gt 15 (m 16 1),gt 15 (m 17 5),gt 15 (b 18 .add 16 17),gt 15 (m 19 0),gt 15 (z 20 19),gt 15 (f 21 0 20),gt 15 (l 22 1 21),gt 15 (le 23 22),gt 15 (b 24 .lss 18 23),an 25 15 24,m 26 25,gt 26 (m 27 0),gt 26 (z 28 27),gt 26 (f 29 0 28),gt 26 (l 30 1 29),gt 26 (m 31 1),gt 26 (m 32 5),gt 26 (b 33 .add 31 32),gt 26 (x 34 2 30 33),gt 26 (f 35 0 34),gt 26 (l 36 1 35),gt 26 (bk 37 .eql 36 3),an 38 26 37] (J 38 (X 0))) (B 1 (R [m 39 5,bk 40 .add 39 1,m 5 40]))
def GpL:Gm:=⟨42,0,T [n 4 0] (T [n 5 1] (S (B 0 (W Ag)) (Q [m 41 5,m 4 41]))),[r 4]⟩
theorem Gr9:P 220=some GpL:=by kernel_rfl
end Go.Cs.Tryz
namespace Go.Cs
open Go
def Hp.findAt(s:Hp)(a:Int):Int×Int:=if 0≤a∧a<(s.nw:Int)then(match s.owner a.toNat with|some o=>((o.addr:Int),0)|none=>(0,4))else(0,4)
theorem L8{f:Nat→Bool}:∀{j i:Nat},Ur f j=some i→i<j∧f i=true∧∀m,i<m→m<j→f m=false
 |0,_,h=>by cases h
 |j+1,i,h=>by
  simp only[Ur]at h
  by_cases hf:f j=true
  ·rw[if_pos hf]at h
   simp only[Gx]at h
   subst h
   exact⟨oM,hf,fun m h1 h2=>by omega⟩
  ·rw[if_neg hf]at h
   obtain⟨h1,h2,h3⟩:=L8 h
   refine⟨oM,h2,fun m h4 h5=>?_⟩
   by_cases e:m=j
   ·subst e;simpa using hf
   ·exact h3 m h4 oM
theorem MP{f:Nat→Bool}:∀{j:Nat},Ur f j=none→∀m,m<j→f m=false
 |0,_,m,h=>by omega
 |j+1,h,m,hm=>by
  simp only[Ur]at h
  by_cases hf:f j=true
  ·rw[if_pos hf]at h;cases h
  ·rw[if_neg hf]at h
   by_cases e:m=j
   ·subst e;simpa using hf
   ·exact MP h m oM
theorem Hp.Tt{s:Hp}{o:Ob}(k:s.Ok)(ho:o∈s.objs):s.starts (o.addr/2)=true:=by
 unfold Hp.starts
 rw[List.any_eq_true]
 have:=(k.ob o ho).even
 exact⟨o,ho,by simp;omega⟩
theorem Hp.Gf7{s:Hp}{i:Nat}(h:s.starts i=true):∃o∈s.objs,o.addr=2*i:=by
 unfold Hp.starts at h
 rw[List.any_eq_true]at h
 obtain⟨o,ho,e⟩:=h
 exact⟨o,ho,by simpa using e⟩
theorem Hp.Ok.Gay{s:Hp}(k:s.Ok)(w:Nat):
  (∃o,Ur s.starts (w/2+1)=some (o.addr/2)∧o∈s.objs∧o.addr≤w∧s.owner w=if w<o.addr+o.size then some o else none)∨(Ur s.starts (w/2+1)=none∧s.owner w=none):=by
 have hnone:∀{P:Prop},(∀o∈s.objs,¬(o.addr≤w∧w<o.addr+o.size))→s.owner w=none:=fun{_} h=>by
  unfold Hp.owner
  rw[List.find?_eq_none]
  intro o ho;simpa using h o ho
 cases hd:Ur s.starts (w/2+1)with
 |none=>
  refine .inr ⟨rfl,hnone (P:=True) fun o ho h=>?_⟩
  have:=MP hd (o.addr/2) oM
  rw[Hp.Tt k ho]at this
  cases this
 |some i=>
  obtain⟨h1,h2,h3⟩:=L8 hd
  obtain⟨o,ho,e⟩:=Hp.Gf7 h2
  refine .inl ⟨o,by rw[e];congr 1;omega,ho,oM,?_⟩
  by_cases c:w<o.addr+o.size
  ·rw[if_pos c]
   exact AB ho (by simp;omega) fun b hb hh=>k.same hb ho (w:=w) (by simpa using hh) ⟨oM,c⟩
  ·rw[if_neg c]
   refine hnone (P:=True) fun b hb hh=>?_
   have hbe:=(k.ob b hb).even
   by_cases c2:b.addr/2≤i
   ·rcases QI k.apart hb ho with e2|e2|e2
    ·rw[e2]at hh;exact c hh.2
    ·omega
    ·have:=o.size_pos;omega
   ·have:=h3 (b.addr/2) oM oM
    rw[Hp.Tt k hb]at this
    cases this
def tails(l:List (Nat×Nat)):Nat:=(l.takeWhile fun x=>x.1==3).length
def Hp.span(s:Hp)(b:Nat):Nat:=if(s.blk.getD b (0,0)).1=2 then 1+tails (s.blk.drop (b+1))else 1
theorem LV{l:List (Nat×Nat)}{j:Nat}{x:Nat×Nat}(h:l[j]?=some x):tails (l.drop j)=if x.1=3 then 1+tails (l.drop (j+1))else 0:=by
 unfold tails
 rw[drop_cons h]
 by_cases c:x.1=3
 ·rw[if_pos c,List.takeWhile_cons_of_pos (by simpa using c),List.length_cons];omega
 ·rw[if_neg c,List.takeWhile_cons_of_neg (by simpa using c)];rfl
theorem Pj{l:List (Nat×Nat)}{j:Nat}(h:l.length≤j):tails (l.drop j)=0:=by
 unfold tails
 rw[List.drop_eq_nil_of_le h];rfl
end Go.Cs
namespace Go.Cs.Tryz
open Go Go.Cs
section
variable {H : Gb} {hb : Nat} {s : Hp} {L : GD}
theorem Gcx(p:PH H hb s L)(k:s.Ok)(a:Int):∃H',run P 203 [.ptr hb 0,.i a] H=some (Uj (s.findAt a),H')∧Gr H H':=by
 have h1:=Nj p k
 have pt:=p.top
 have hnb:=k.nb
 unfold Hp.findAt Uj
 by_cases c0:a<0
 ·refine⟨H,?_,Keeps.refl _ _⟩
  rw[if_neg oM,Gi c203 _ _ sM]
  simp(disch:=first|exact dz|fail) only[simprocAttr,Gc,↓reduceIte,Gj,h1,Bool.not_true,c0,decide_true]
 ·by_cases c1:(s.nw:Int)≤a
  ·refine⟨H,?_,Keeps.refl _ _⟩
   rw[if_neg oM,Gi c203 _ _ sM]
   simp(disch:=first|exact dz|fail) only[simprocAttr,Gc,↓reduceIte,Gj,h1,pt,Bool.not_true,c0,c1,KA,decide_true,decide_false]
  ·obtain⟨w,rfl⟩:∃w:Nat,a=w:=⟨a.toNat,oM⟩
   have hwn:w<64*s.blk.length:=by unfold Hp.nw at c1;omega
   rw[if_pos oM,K6]
   have hd:(w:Int).tdiv 2=((w/2:Nat):Int):=KT w 2
   have hw:IntKind.i64.wrap ((w/2:Nat):Int)=((w/2:Nat):Int):=Gh oM
   have hw1:IntKind.i64.wrap (((w/2:Nat):Int)+1)=((w/2+1:Nat):Int):=Gh oM
   have hl:=Gct p.sta (j:=w/2+1) oM
   rcases k.Gay w with⟨o,e1,ho,e2,e3⟩|⟨e1,e3⟩
   ·rw[e1]at hl
    unfold Ns at hl
    have hev:=(k.ob o ho).even
    have hf:=(k.ob o ho).fits
    have hsz:=Ob.size_le (k.ob o ho)
    unfold Hp.nw at hf
    have hm:IntKind.i64.wrap (2*((o.addr/2:Nat):Int))=(o.addr:Int):=by rw[Gh oM];omega
    obtain⟨H',q1,g⟩:=OY p k ho
    have hs:IntKind.i64.wrap ((o.addr:Int)+(o.size:Int))=(o.addr:Int)+(o.size:Int):=Gh oM
    refine⟨H',?_,g⟩
    rw[e3,Gi c203 _ _ sM]
    by_cases c2:w<o.addr+o.size
    ·rw[if_pos c2]
     have c3:¬((o.addr:Int)+(o.size:Int)≤(w:Int)):=by omega
     simp(disch:=first|exact dz|fail) only[simprocAttr,Gc,↓reduceIte,Gj,h1,pt,Bool.not_true,c0,c1,KA,decide_false,GH,hd,hw,hw1,hl,hm,q1,hs,c3]
    ·rw[if_neg c2]
     have c3:((o.addr:Int)+(o.size:Int)≤(w:Int)):=by omega
     simp(disch:=first|exact dz|fail) only[simprocAttr,Gc,↓reduceIte,Gj,h1,pt,Bool.not_true,c0,c1,KA,decide_false,decide_true,GH,hd,hw,hw1,hl,hm,q1,hs,c3]
   ·rw[e1]at hl
    unfold Ns at hl
    refine⟨H,?_,Keeps.refl _ _⟩
    rw[e3,Gi c203 _ _ sM]
    simp(disch:=first|exact dz|fail) only[simprocAttr,Gc,↓reduceIte,Gj,h1,pt,Bool.not_true,c0,c1,KA,decide_false,GH,hd,hw,hw1,hl]
theorem D_(p:PH H hb s L){b:Nat}{x:Nat×Nat}(h:s.blk[b]?=some x):ld H[L.bb]? (b*2)=some (.i x.1)∧ld H[L.bb]? (b*2+1)=some (.i x.2)∧((0:Int)≤(b:Int)∧(b:Int)<(s.blk.length:Int)):=by
 obtain⟨q1,q2⟩:=Kr s.blk b x h
 have:=Gd h
 rw[p.blk,Vt,Vt]
 exact⟨q1,q2,oM⟩
theorem GjQ(p:PH H hb s L)(k:s.Ok){b:Nat}{x:Nat×Nat}(hx:s.blk[b]?=some x)
  {E0:Env} (h0:E0 0=.ptr hb 0) (h1:E0 1=.i b) (h5:E0 5=.i 1) {r:Option (CX×Env×Gb)} (hr:den P (.loop Ag) E0 H=r):
  ∃E',r=some (.exit 0,E',H)∧E' 5=.i (s.span b):=by
 have hnb:=k.nb
 have hlt:=Gd hx
 have hgd:s.blk.getD b (0,0)=x:=by rw[Qc,hx];rfl
 obtain⟨x',E',H',e,-,⟨rfl,rfl,hf⟩,fr⟩:=Gy (p:=P) (c:=Ag) (E0:=E0) (H0:=H)
  (fun m E H'=>H'=H∧∃n:Nat,E 5=.i n∧1≤n∧n≤s.blk.length∧m=s.blk.length-n∧(if x.1=2 then n+tails (s.blk.drop (b+n))else 1)=s.span b∧(x.1≠2→n=1))
  (fun x' E' H'=>x'=.exit 0∧H'=H∧E' 5=.i (s.span b)) (by
   rintro m E H' hE ⟨rfl,n,e5,hn1,hn2,rfl,hd,hne⟩
   have e0:=(hE 0 dK).trans h0
   have e1:=(hE 1 dK).trans h1
   have pt:=p.top
   obtain⟨q1,q2,q3⟩:=D_ p hx
   by_cases c:x.1=2
   ·rw[if_pos c]at hd
    rw[c]at q1
    have w1:IntKind.i64.wrap ((b:Int)+(n:Int))=((b+n:Nat):Int):=Gh oM
    by_cases c2:b+n<s.blk.length
    ·have hy:s.blk[b+n]?=some s.blk[b+n]:=J9 c2
     obtain⟨r1,r2,r3⟩:=D_ p hy
     have c2':decide (((b+n:Nat):Int)<(s.blk.length:Int))=true:=GK oM
     rw[LV hy]at hd
     by_cases c3:s.blk[b+n].1=3
     ·rw[if_pos c3]at hd
      rw[c3]at r1
      have w2:IntKind.i64.wrap ((n:Int)+1)=((n+1:Nat):Int):=Gh oM
      apply Gt (k':=s.blk.length-(n+1))
      ·simp(disch:=first|exact dz|fail) only[simprocAttr,Gc,↓reduceIte,Ag,e0,e1,e5,pt,q3,Jm q1,w1,r3,Jm r1,c2',KA,w2,show(((2:Nat):Int)==2)=true from rfl,show(((3:Nat):Int)==3)=true from rfl]
       rfl
      ·omega
      ·exact⟨rfl,n+1,uA,oM,oM,rfl,by rw[if_pos c,←hd];rw[show b+(n+1)=b+n+1 from rfl];omega,fun h=>absurd c h⟩
     ·rw[if_neg c3]at hd
      have c4:(((s.blk[b+n].1:Nat):Int)==3)=false:=by simp;omega
      apply Gl (x:=.exit 0)
      ·simp(disch:=first|exact dz|fail) only[simprocAttr,Gc,↓reduceIte,Ag,e0,e1,e5,pt,q3,Jm q1,w1,r3,Jm r1,c2',KA,show(((2:Nat):Int)==2)=true from rfl,c4]
       rfl
      ·simp
      ·exact⟨rfl,rfl,by rw[←hd];simp[Gg,e5]⟩
    ·have c2':decide (((b+n:Nat):Int)<(s.blk.length:Int))=false:=GC oM
     rw[Pj oM]at hd
     apply Gl (x:=.exit 0)
     ·simp(disch:=first|exact dz|fail) only[simprocAttr,Gc,↓reduceIte,Ag,e0,e1,e5,pt,q3,Jm q1,w1,c2',KA,show(((2:Nat):Int)==2)=true from rfl]
      rfl
     ·simp
     ·exact⟨rfl,rfl,by rw[←hd];simp[Gg,e5]⟩
   ·rw[if_neg c]at hd
    have hn:=hne c
    subst hn
    have c4:(((x.1:Nat):Int)==2)=false:=by simp;omega
    apply Gl (x:=.exit 0)
    ·simp(disch:=first|exact dz|fail) only[simprocAttr,Gc,↓reduceIte,Ag,e0,e1,e5,pt,q3,Jm q1,c4]
     rfl
    ·simp
    ·exact⟨rfl,rfl,by rw[←hd];simp[Gg,e5]⟩) _ ⟨rfl,1,h5,oM,oM,rfl,by unfold Hp.span;rw[hgd],fun _=>rfl⟩
 exact⟨E',hr.symm.trans e,hf⟩
theorem Gdg(p:PH H hb s L)(k:s.Ok){b:Nat}(hb':b<s.blk.length):run P 220 [.ptr hb 0,.i b] H=some (.i (s.span b),H):=by
 rw[Gi Gr9 _ _ sM]
 simp(disch:=first|exact dz|fail) only[simprocAttr,Gc,↓reduceIte,Gj]
 generalize hr:den P (.loop Ag) _ _=r
 obtain⟨E',rfl,h⟩:=GjQ p k (b:=b) (J9 hb') uA uA uA hr
 simp(disch:=first|exact dz|fail) only[simprocAttr,Gc,↓reduceIte,h]
end
end Go.Cs.Tryz
namespace Go.Cs.Tryz
open Go Go.Cs A
def V9:Gu:=S (T [m 76 10,m 77 1,m 78 2,b 79 .add 77 78,b 80 .lss 76 79] (J 80 (X 0))) (S (B 1 (T [m 84 0,m 85 10,q2 86 203 84 85,m 83 86,ex 87 83 0,ex 88 83 1,m 11 87,m 12 88] (T [m 89 12,bk 90 .eql 89 0,m 91 90,gt 91 (m 92 11),gt 91 (m 93 3),gt 91 (b 94 .neq 92 93),an 95 91 94] (I 95 (Q [n 8 8]))))) (R [m 81 10,bk 82 .add 81 2,m 10 82]))
def Gpj:Gm:=⟨96,0,T [n 8 0] (S (T [m 13 1,bk 14 .lss 13 0,m 15 14,gf 15 (m 16 1),gf 15 (m 17 0),gf 15 (z 18 17),gf 15 (f 19 1 18),gf 15 (l 20 1 19),gf 15 (le 21 20),gf 15 (b 22 .geq 16 21),or 23 15 22,m 24 23,gf 24 (m 25 1),gf 24 (bk 26 .rem 25 2),gf 24 (bk 27 .neq 26 0),or 28 24 27] (I 28 (Q [n 8 1]))) (T [m 29 1,bk 30 .quo 29 64,m 9 30] (S (T [m 31 2,bk 32 .leq 31 32] (C 32 (T [m 33 0,z 34 33,f 35 0 34,l 36 1 35,m 37 9,x 38 2 36 37,f 39 0 38,l 40 1 39,bk 41 .neq 40 1,m 42 41,gf 42 (m 43 1),gf 42 (m 44 2),gf 42 (b 45 .add 43 44),gf 42 (bk 46 .sub 45 1),gf 42 (bk 47 .quo 46 64),gf 42 (m 48 9),gf 42 (b 49 .neq 47 48),or 50 42 49] (I 50 (Q [n 8 5]))) (T [m 51 0,z 52 51,f 53 0 52,l 54 1 53,m 55 9,x 56 2 54 55,f 57 0 56,l 58 1 57,bk 59 .neq 58 2,m 60 59,gf 60 (m 61 1),gf 60 (bk 62 .rem 61 64),gf 60 (bk 63 .neq 62 0),or 64 60 63,m 65 64,gf 65 (m 66 0),gf 65 (m 67 9),gf 65 (q2 68 220 66 67),gf 65 (m 69 2),gf 65 (bk 70 .add 69 64),gf 65 (bk 71 .sub 70 1),gf 65 (bk 72 .quo 71 64),gf 65 (b 73 .neq 68 72),or 74 65 73] (I 74 (Q [n 8 5]))))) (S (T [m 75 1,m 10 75] (B 0 (W V9))) (Q [n 8 0]))))),[r 8]⟩
theorem Oz:P 126=some Gpj:=by kernel_rfl
end Go.Cs.Tryz
namespace Go.Cs
open Go
def Hp.taken(s:Hp)(a n:Nat)(but:Int):Bool:=s.objs.any fun o=>(o.addr:Int) != but&&(decide (o.addr<a+n)&&decide (a<o.addr+o.size))
def Hp.GI(s:Hp)(b:Nat):Nat:=(s.blk.getD b (0,0)).1
def Hp.fits(s:Hp)(a:Int)(n:Nat)(but:Int):Int:=
 if a<0∨(s.nw:Int)≤a∨a.toNat % 2≠0 then 1
 else if n≤32 then(if s.GI (a.toNat/64)≠1∨(a.toNat+n-1)/64≠a.toNat/64 then 5 else if s.taken a.toNat n but then 8 else 0)
 else(if s.GI (a.toNat/64)≠2∨a.toNat % 64≠0∨s.span (a.toNat/64)≠(n+63)/64 then 5 else if s.taken a.toNat n but then 8 else 0)
theorem Hp.Ok.Pk{s:Hp}(k:s.Ok){a n:Nat}{but:Int}(ha:a % 2=0)(hn:n % 2=0)(hn0:0<n):s.taken a n but=true↔∃j o,2*j<n∧s.owner (a+2*j)=some o∧(o.addr:Int)≠but:=by
 unfold Hp.taken
 rw[List.any_eq_true]
 constructor
 ·rintro ⟨o,ho,h⟩
  simp only[JQ,bne_iff_ne,ne_eq,decide_eq_true_eq]at h
  have h1:=(k.ob o ho).even
  have h2:=o.Gb7
  have h3:=o.size_pos
  by_cases c:a≤o.addr
  ·refine⟨(o.addr-a)/2,o,oM,?_,h.1⟩
   have e:a+2*((o.addr-a)/2)=o.addr:=by omega
   rw[e]
   exact AB ho (by simp;omega) fun b hb hh=>k.same hb ho (w:=o.addr) (by simpa using hh) ⟨oM,oM⟩
  ·refine⟨0,o,oM,?_,h.1⟩
   exact AB ho (by simp;omega) fun b hb hh=>k.same hb ho (w:=a) (by simpa using hh) ⟨oM,oM⟩
 ·rintro ⟨j,o,h1,h2,h3⟩
  have hm:=List.mem_of_find?_eq_some h2
  have hp:=OL h2
  simp only[decide_eq_true_eq]at hp
  exact⟨o,hm,by simp only[JQ,bne_iff_ne,ne_eq,decide_eq_true_eq];exact⟨h3,oM,oM⟩⟩
end Go.Cs
namespace Go.Cs.Tryz
open Go Go.Cs
section
variable {H : Gb} {hb : Nat} {s : Hp} {L : GD}
theorem GfT(p:PH H hb s L)(k:s.Ok){a n:Nat}{but:Int}(ha:a % 2=0)(hn:n % 2=0)(hn0:0<n)(hn2:n≤300)(ha2:(a:Int)<s.nw)
  {E0:Env}(h0:E0 0=.ptr hb 0)(h1:E0 1=.i a)(h2:E0 2=.i n)(h3:E0 3=.i but)(h10:E0 10=.i a){r:Option (CX×Env×Gb)}(hr:den P (.loop V9) E0 H=r):
  ∃x E' H',r=some (x,E',H')∧Gr H H'∧((x=.ret∧E' 8=.i 8∧s.taken a n but=true)∨(x=.exit 0∧s.taken a n but=false)):=by
 have hnb:=k.nb
 have ha3:a<4096:=by unfold Hp.nw at ha2;omega
 obtain⟨x',E',H',e,-,⟨g,hf⟩,fr⟩:=Gy (p:=P) (c:=V9) (E0:=E0) (H0:=H)
  (fun m E H'=>Gr H H'∧∃j:Nat,E 10=.i ((a+2*j:Nat):Int)∧2*j≤n∧m=n-2*j∧∀i o,i<j→s.owner (a+2*i)=some o→(o.addr:Int)=but)
  (fun x E' H'=>Gr H H'∧((x=.ret∧E' 8=.i 8∧s.taken a n but=true)∨(x=.exit 0∧s.taken a n but=false))) (by
   rintro m E H' hE ⟨g,j,e10,hj,rfl,hd⟩
   have e0:=(hE 0 dK).trans h0
   have e1:=(hE 1 dK).trans h1
   have e2:=(hE 2 dK).trans h2
   have e3:=(hE 3 dK).trans h3
   have w1:IntKind.i64.wrap ((a:Int)+(n:Int))=((a+n:Nat):Int):=Gh oM
   by_cases c:2*j<n
   ·have c':decide (((a+2*j:Nat):Int)<((a+n:Nat):Int))=true:=GK oM
    have w2:IntKind.i64.wrap (((a+2*j:Nat):Int)+2)=((a+2*(j+1):Nat):Int):=Gh oM
    obtain⟨H1,q1,g1⟩:=Gcx (p.gr g) k ((a+2*j:Nat):Int)
    have g2:Gr H H1:=g.trans g1
    unfold Uj Hp.findAt at q1
    rw[K6]at q1
    have go:∀u v:Int,run P 203 [.ptr hb 0,.i ((a+2*j:Nat):Int)] H'=some (.Ju [.i u,.i v],H1)→((v==0)=true→(u != but)=false)→(∀o,s.owner (a+2*j)=some o→(o.addr:Int)=but)→
      ∃x E' GiI,den P V9 E H'=some (x,E',GiI)∧((x=CX.normal∧∃k',k'<n-2*j∧Gr H GiI∧∃j:Nat,E' 10=.i ((a+2*j:Nat):Int)∧2*j≤n∧k'=n-2*j∧∀i o,i<j→s.owner (a+2*i)=some o→(o.addr:Int)=but)∨
       x≠CX.normal∧Gr H GiI∧((x=.ret∧E' 8=.i 8∧s.taken a n but=true)∨(x=.exit 0∧s.taken a n but=false))):=by
     intro u v q1 huv ho
     by_cases cv:(v==0)=true
     ·apply Gt (k':=n-2*(j+1))
      ·simp(disch:=first|exact dz|fail) only[simprocAttr,Gc,↓reduceIte,V9,e0,e1,e2,e3,e10,w1,c',q1,cv,huv cv,w2]
       rfl
      ·omega
      ·refine⟨g2,j+1,uA,oM,rfl,fun i o hi ho'=>?_⟩
       by_cases ei:i=j
       ·subst ei;exact ho o ho'
       ·exact hd i o oM ho'
     ·have cv':(v==0)=false:=by simpa using cv
      apply Gt (k':=n-2*(j+1))
      ·simp(disch:=first|exact dz|fail) only[simprocAttr,Gc,↓reduceIte,V9,e0,e1,e2,e3,e10,w1,c',q1,cv',w2]
       rfl
      ·omega
      ·refine⟨g2,j+1,uA,oM,rfl,fun i o hi ho'=>?_⟩
       by_cases ei:i=j
       ·subst ei;exact ho o ho'
       ·exact hd i o oM ho'
    by_cases cw:(0:Int)≤((a+2*j:Nat):Int)∧((a+2*j:Nat):Int)<(s.nw:Int)
    ·rw[if_pos cw]at q1
     cases ho:s.owner (a+2*j)with
     |none=>
      rw[ho]at q1
      exact go _ _ q1 (fun h=>by cases h) (fun o h=>by rw[ho]at h;cases h)
     |some o=>
      rw[ho]at q1
      dsimp only at q1
      by_cases cb:(o.addr:Int)=but
      ·exact go _ _ q1 (fun _=>by simp[cb]) (fun o' h=>by rw[ho]at h;simp only[Gx]at h;rw[←h];exact cb)
      ·have cb':((o.addr:Int) != but)=true:=by simpa using cb
       apply Gl (x:=.ret)
       ·simp(disch:=first|exact dz|fail) only[simprocAttr,Gc,↓reduceIte,V9,e0,e1,e2,e3,e10,w1,c',q1,show((0:Int)==0)=true from rfl,cb']
        rfl
       ·simp
       ·exact⟨g2,.inl ⟨rfl,uA,(k.Pk ha hn hn0).2 ⟨j,o,c,ho,cb⟩⟩⟩
    ·rw[if_neg cw]at q1
     refine go _ _ q1 (fun h=>by cases h) (fun o h=>?_)
     have hm:=List.mem_of_find?_eq_some h
     have hp:=OL h
     simp only[decide_eq_true_eq]at hp
     have:=(k.ob o hm).fits
     omega
   ·have c':decide (((a+2*j:Nat):Int)<((a+n:Nat):Int))=false:=GC oM
    apply Gl (x:=.exit 0)
    ·simp(disch:=first|exact dz|fail) only[simprocAttr,Gc,↓reduceIte,V9,e0,e1,e2,e3,e10,w1,c']
     rfl
    ·simp
    ·refine⟨g,.inr ⟨rfl,?_⟩⟩
     rw[←Bool.not_eq_true,k.Pk ha hn hn0]
     rintro ⟨i,o,h1,h2,h3⟩
     exact h3 (hd i o oM h2)) _ ⟨Keeps.refl _ _,0,by rw[h10];rfl,oM,rfl,fun i o h=>by omega⟩
 exact⟨x',E',H',hr.symm.trans e,g,hf⟩
theorem GcK(p:PH H hb s L)(k:s.Ok)(a:Int){n:Nat}(but:Int)(hn:n % 2=0)(hn0:0<n)(hn2:n≤300):∃H',run P 126 [.ptr hb 0,.i a,.i n,.i but] H=some (.i (s.fits a n but),H')∧Gr H H':=by
 have pt:=p.top
 have hnb:=k.nb
 unfold Hp.fits
 by_cases c0:a<0
 ·refine⟨H,?_,Keeps.refl _ _⟩
  rw[if_pos (.inl c0),Gi Oz _ _ sM]
  simp(disch:=first|exact dz|fail) only[simprocAttr,Gc,↓reduceIte,GJ,c0,decide_true]
 obtain⟨m,rfl⟩:∃m:Nat,a=m:=⟨a.toNat,oM⟩
 rw[K6]
 by_cases c1:(s.nw:Int)≤(m:Int)
 ·refine⟨H,?_,Keeps.refl _ _⟩
  rw[if_pos (.inr (.inl c1)),Gi Oz _ _ sM]
  simp(disch:=first|exact dz|fail) only[simprocAttr,Gc,↓reduceIte,GJ,pt,c0,c1,KA,decide_true,decide_false]
 have hm2:(m:Int).tmod 2=((m % 2:Nat):Int):=U1 m 2
 by_cases c2:m % 2=0
 rotate_left
 ·refine⟨H,?_,Keeps.refl _ _⟩
  have c2':(((m % 2:Nat):Int) != 0)=true:=by simp;omega
  rw[if_pos (.inr (.inr c2)),Gi Oz _ _ sM]
  simp(disch:=first|exact dz|fail) only[simprocAttr,Gc,↓reduceIte,GJ,pt,c0,c1,KA,decide_false,GA,hm2,c2']
 have c2':(((m % 2:Nat):Int) != 0)=false:=by rw[c2];rfl
 rw[if_neg (by rintro (h|h|h);exact c0 h;exact c1 h;exact h c2)]
 have hnw:s.nw=64*s.blk.length:=rfl
 have hmb:m/64<s.blk.length:=by omega
 have hx:s.blk[m/64]?=some s.blk[m/64]:=J9 hmb
 obtain⟨q1,q2,q3⟩:=D_ p hx
 have hst:s.GI (m/64)=s.blk[m/64].1:=by unfold Hp.GI;rw[Qc,hx];rfl
 have hd:(m:Int).tdiv 64=((m/64:Nat):Int):=KT m 64
 have hw:IntKind.i64.wrap ((m/64:Nat):Int)=((m/64:Nat):Int):=Gh oM
 by_cases c3:n≤32
 ·rw[if_pos c3]
  have c3':decide ((n:Int)≤32)=true:=GK oM
  have w1:IntKind.i64.wrap ((m:Int)+(n:Int))=((m+n:Nat):Int):=Gh oM
  have w2:IntKind.i64.wrap (((m+n:Nat):Int)-1)=((m+n-1:Nat):Int):=by rw[Gh oM];omega
  have hd2:((m+n-1:Nat):Int).tdiv 64=(((m+n-1)/64:Nat):Int):=KT _ 64
  have w3:IntKind.i64.wrap (((m+n-1)/64:Nat):Int)=(((m+n-1)/64:Nat):Int):=Gh oM
  by_cases c4:s.blk[m/64].1=1
  ·have c4':(((s.blk[m/64].1:Nat):Int) != 1)=false:=by rw[c4];rfl
   by_cases c5:(m+n-1)/64=m/64
   ·have c5':((((m+n-1)/64:Nat):Int) != ((m/64:Nat):Int))=false:=by rw[c5];simp
    rw[if_neg (by rw[hst];rintro (h|h);exact h c4;exact h c5)]
    rw[Gi Oz _ _ sM]
    simp(disch:=first|exact dz|fail) only[simprocAttr,Gc,↓reduceIte,GJ,pt,c0,c1,KA,decide_false,GA,GH,hm2,c2',hd,hw,c3',q3,Jm q1,c4',w1,w2,hd2,w3,c5']
    generalize hr:den P (.loop V9) _ _=r
    obtain⟨x,E',H',rfl,g,h⟩:=GfT p k (a:=m) (n:=n) (but:=but) c2 hn hn0 hn2 oM uA uA uA uA uA hr
    refine⟨H',?_,g⟩
    rcases h with⟨rfl,h1,h2⟩|⟨rfl,h2⟩
    ·rw[h2]
     simp(disch:=first|exact dz|fail) only[simprocAttr,Gc,↓reduceIte,h1]
    ·rw[h2]
     simp(disch:=first|exact dz|fail) only[simprocAttr,Gc,↓reduceIte,Bool.false_eq_true]
   ·have c5':((((m+n-1)/64:Nat):Int) != ((m/64:Nat):Int))=true:=by simp;omega
    refine⟨H,?_,Keeps.refl _ _⟩
    rw[if_pos (.inr c5),Gi Oz _ _ sM]
    simp(disch:=first|exact dz|fail) only[simprocAttr,Gc,↓reduceIte,GJ,pt,c0,c1,KA,decide_false,GA,GH,hm2,c2',hd,hw,c3',q3,Jm q1,c4',w1,w2,hd2,w3,c5']
  ·have c4':(((s.blk[m/64].1:Nat):Int) != 1)=true:=by simp;omega
   refine⟨H,?_,Keeps.refl _ _⟩
   rw[if_pos (.inl (by rw[hst];exact c4)),Gi Oz _ _ sM]
   simp(disch:=first|exact dz|fail) only[simprocAttr,Gc,↓reduceIte,GJ,pt,c0,c1,KA,decide_false,GA,GH,hm2,c2',hd,hw,c3',q3,Jm q1,c4']
 ·rw[if_neg c3]
  have c3':decide ((n:Int)≤32)=false:=GC oM
  have WH:(m:Int).tmod 64=((m % 64:Nat):Int):=U1 m 64
  have w1:IntKind.i64.wrap ((n:Int)+64)=((n+64:Nat):Int):=Gh oM
  have w2:IntKind.i64.wrap (((n+64:Nat):Int)-1)=((n+63:Nat):Int):=by rw[Gh oM];omega
  have hd2:((n+63:Nat):Int).tdiv 64=(((n+63)/64:Nat):Int):=KT _ 64
  have w3:IntKind.i64.wrap (((n+63)/64:Nat):Int)=(((n+63)/64:Nat):Int):=Gh oM
  have hsp:=Gdg p k hmb
  by_cases c4:s.blk[m/64].1=2
  ·have c4':(((s.blk[m/64].1:Nat):Int) != 2)=false:=by rw[c4];rfl
   by_cases c5:m % 64=0
   ·have c5':(((m % 64:Nat):Int) != 0)=false:=by rw[c5];rfl
    by_cases c6:s.span (m/64)=(n+63)/64
    ·have c6':(((s.span (m/64):Nat):Int) != (((n+63)/64:Nat):Int))=false:=by rw[c6];simp
     rw[if_neg (by rw[hst];rintro (h|h|h);exact h c4;exact h c5;exact h c6)]
     rw[Gi Oz _ _ sM]
     simp(disch:=first|exact dz|fail) only[simprocAttr,Gc,↓reduceIte,GJ,pt,c0,c1,KA,decide_false,GA,GH,hm2,WH,c2',hd,hw,c3',q3,Jm q1,c4',w1,w2,hd2,w3,c5',hsp,c6']
     generalize hr:den P (.loop V9) _ _=r
     obtain⟨x,E',H',rfl,g,h⟩:=GfT p k (a:=m) (n:=n) (but:=but) c2 hn hn0 hn2 oM uA uA uA uA uA hr
     refine⟨H',?_,g⟩
     rcases h with⟨rfl,h1,h2⟩|⟨rfl,h2⟩
     ·rw[h2]
      simp(disch:=first|exact dz|fail) only[simprocAttr,Gc,↓reduceIte,h1]
     ·rw[h2]
      simp(disch:=first|exact dz|fail) only[simprocAttr,Gc,↓reduceIte,Bool.false_eq_true]
    ·have c6':(((s.span (m/64):Nat):Int) != (((n+63)/64:Nat):Int))=true:=by simp;omega
     refine⟨H,?_,Keeps.refl _ _⟩
     rw[if_pos (.inr (.inr c6)),Gi Oz _ _ sM]
     simp(disch:=first|exact dz|fail) only[simprocAttr,Gc,↓reduceIte,GJ,pt,c0,c1,KA,decide_false,GA,GH,hm2,WH,c2',hd,hw,c3',q3,Jm q1,c4',w1,w2,hd2,w3,c5',hsp,c6']
   ·have c5':(((m % 64:Nat):Int) != 0)=true:=by simp;omega
    refine⟨H,?_,Keeps.refl _ _⟩
    rw[if_pos (.inr (.inl c5)),Gi Oz _ _ sM]
    simp(disch:=first|exact dz|fail) only[simprocAttr,Gc,↓reduceIte,GJ,pt,c0,c1,KA,decide_false,GA,GH,hm2,WH,c2',hd,hw,c3',q3,Jm q1,c4',c5']
  ·have c4':(((s.blk[m/64].1:Nat):Int) != 2)=true:=by simp;omega
   refine⟨H,?_,Keeps.refl _ _⟩
   rw[if_pos (.inl (by rw[hst];exact c4)),Gi Oz _ _ sM]
   simp(disch:=first|exact dz|fail) only[simprocAttr,Gc,↓reduceIte,GJ,pt,c0,c1,KA,decide_false,GA,GH,hm2,c2',hd,hw,c3',q3,Jm q1,c4']
end
end Go.Cs.Tryz
namespace Go.Cs.Tryz
open Go Go.Cs A
def C66:Gm:=⟨8,0,T [n 4 0] (Q [m 5 0,m 6 1,ca 7 162 [t 5,t 6,k 1],m 4 7]),[r 4]⟩
theorem c66:P 66=some C66:=by kernel_rfl
def C91:Gm:=⟨28,0,T [n 8 0] (T [m 12 0,m 13 1,m 14 2,ca 15 172 [t 12,t 13,t 14,c (.bool true)],m 11 15,ex 16 11 0,ex 17 11 1,m 9 16,m 10 17] (S (T [m 18 10,bk 19 .neq 18 0] (I 19 (Q [m 20 10,m 8 20]))) (T [m 21 0,z 22 21,f 23 1 22,l 24 1 23,m 25 9,m 26 3,x 27 1 24 25,st 1 27 26] (Q [n 8 0])))),[r 8]⟩
theorem c91:P 91=some C91:=by kernel_rfl
def GpP:Gm:=⟨36,0,T [n 8 0] (T [m 12 0,m 13 1,m 14 2,ca 15 172 [t 12,t 13,t 14,c (.bool false)],m 11 15,ex 16 11 0,ex 17 11 1,m 9 16,m 10 17] (S (T [m 18 10,bk 19 .neq 18 0] (I 19 (Q [m 20 10,m 8 20]))) (S (T [m 21 3,bk 22 .neq 21 0,m 23 22,gt 23 (m 24 0),gt 23 (m 25 3),gt 23 (q2 26 50 24 25),gt 23 (no 27 26),an 28 23 27] (I 28 (Q [n 8 1]))) (T [m 29 0,z 30 29,f 31 1 30,l 32 1 31,m 33 9,m 34 3,x 35 1 32 33,st 1 35 34] (Q [n 8 0]))))),[r 8]⟩
theorem Gql:P 122=some GpP:=by kernel_rfl
def Gn2:Gm:=⟨22,0,T [n 6 0] (S (T [m 8 0,m 9 1,q2 10 120 8 9,m 7 10] (T [m 11 7,bk 12 .neq 11 0] (I 12 (Q [m 13 7,m 6 13])))) (T [m 14 0,z 15 14,f 16 3 15,l 17 1 16,m 18 1,bk 19 .quo 18 2,m 20 2,q3 21 129 17 19 20] (Q [n 6 0]))),[r 6]⟩
theorem c162:P 162=some Gn2:=by kernel_rfl
end Go.Cs.Tryz
namespace Go.Cs
open Go
def Hp.upd(s:Hp)(a:Nat)(f:Ob→Ob):Hp:={s with objs:=s.objs.map fun x=>if x.addr=a then f x else x}
structure Np(f:Ob→Ob)(x:Ob):Prop where
 addr:(f x).addr=x.addr
 id:(f x).id=x.id
 kd:(f x).kd=x.kd
 nr:(f x).refs.length=x.refs.length
 nd:(f x).data.length=x.data.length
def KR(a:Nat)(f:Ob→Ob)(x:Ob):Ob:=if x.addr=a then f x else x
theorem Np.pick{f:Ob→Ob}{a:Nat}{x:Ob}(t:x.addr=a→Np f x):Np (KR a f) x:=by
 unfold KR
 by_cases c:x.addr=a
 ·have:=t c
  exact⟨by rw[if_pos c,this.addr],by rw[if_pos c,this.id],by rw[if_pos c,this.kd],by rw[if_pos c,this.nr],by rw[if_pos c,this.nd]⟩
 ·exact⟨by rw[if_neg c],by rw[if_neg c],by rw[if_neg c],by rw[if_neg c],by rw[if_neg c]⟩
theorem Np.size{f:Ob→Ob}{x:Ob}(t:Np f x):(f x).size=x.size:=by unfold Ob.size;rw[t.nr,t.nd]
theorem Z9{α:Type}{p:α→Bool}{g:α→α}:∀{l:List α},(∀x∈l,p (g x)=p x)→(l.map g).find? p=(l.find? p).map g
 |[],_=>rfl
 |x::l,h=>by
  rw[List.map_cons,List.find?_cons,List.find?_cons,h x NC]
  cases p x with
  |true=>rfl
  |false=>exact Z9 fun y hy=>h y (Um _ hy)
section
variable {s : Hp} {a : Nat} {f : Ob → Ob}
theorem Hp.Pw(t:∀x∈s.objs,x.addr=a→Np f x)(w:Nat):(s.upd a f).owner w=(s.owner w).map (KR a f):=
 Z9 fun x hx=>by
  have e:=Np.pick (f:=f) (t x hx)
  show decide ((KR a f x).addr≤w∧w<(KR a f x).addr+(KR a f x).size)=_
  rw[e.addr,e.size]
theorem Hp.Sc(t:∀x∈s.objs,x.addr=a→Np f x)(b:Int):(s.upd a f).obj b=(s.obj b).map (KR a f):=
 Z9 fun x hx=>by
  have e:=Np.pick (f:=f) (t x hx)
  show((((KR a f x).addr:Nat):Int)==b)=_
  rw[e.addr]
theorem Br{α:Type}{p:α→Bool}{g:α→α}{l:List α}(h:∀x∈l,p (g x)=p x):(l.map g).any p=l.any p:=by
 induction l with
 |nil=>rfl
 |cons x l ih=>rw[List.map_cons,List.any_cons,List.any_cons,h x NC,ih fun y hy=>h y (Um _ hy)]
theorem Hp.Db(t:∀x∈s.objs,x.addr=a→Np f x):(s.upd a f).starts=s.starts:=by
 funext i
 exact Br fun x hx=>by
  have e:=Np.pick (f:=f) (t x hx)
  show((KR a f x).addr==2*i)=_
  rw[e.addr]
theorem Hp.Gbu(t:∀x∈s.objs,x.addr=a→Np f x)(b:Int):(s.upd a f).has b=s.has b:=
 Br fun x hx=>by
  have e:=Np.pick (f:=f) (t x hx)
  show((((KR a f x).addr:Nat):Int)==b)=_
  rw[e.addr]
theorem Hp.Rv(t:∀x∈s.objs,x.addr=a→Np f x)(k v:Int):(∃o∈(s.upd a f).objs,k=o.id∧v=o.addr)↔∃o∈s.objs,k=o.id∧v=o.addr:=by
 simp only[Hp.upd,YX]
 constructor
 ·rintro ⟨_,⟨x,hx,rfl⟩,h1,h2⟩
  have e:=Np.pick (f:=f) (t x hx)
  exact⟨x,hx,by rw[h1];exact congrArg _ e.id,by rw[h2];exact congrArg _ e.addr⟩
 ·rintro ⟨x,hx,h1,h2⟩
  have e:=Np.pick (f:=f) (t x hx)
  exact⟨_,⟨x,hx,rfl⟩,by rw[h1];exact congrArg _ e.id.symm,by rw[h2];exact congrArg _ e.addr.symm⟩
theorem Hp.Ok.upd(k:s.Ok)(t:∀x∈s.objs,x.addr=a→Np f x):(s.upd a f).Ok where
 nb:=k.nb
 st:=k.st
 ob:=fun o ho=>by
  simp only[Hp.upd,YX]at ho
  obtain⟨x,hx,rfl⟩:=ho
  have e:=Np.pick (f:=f) (t x hx)
  have q:=k.ob x hx
  show(KR a f x).Ok _ _
  exact⟨by rw[e.addr];exact q.even,by rw[e.nr];exact q.nr,by rw[e.nd];exact q.nd,by rw[e.kd,e.nr];exact q.kd,by rw[e.id];exact q.id,by rw[e.addr,e.size];exact q.fits⟩
 apart:=by
  show(s.objs.map (KR a f)).Pairwise _
  rw[List.pairwise_map]
  refine List.Pairwise.imp_of_mem (fun{x y} hx hy h=>?_) k.apart
  have e:=Np.pick (f:=f) (t x hx)
  have e':=Np.pick (f:=f) (t y hy)
  rw[e.addr,e.size,e'.addr];exact h
 ids:=by
  show(s.objs.map (KR a f)).Pairwise _
  rw[List.pairwise_map]
  refine List.Pairwise.imp_of_mem (fun{x y} hx hy h=>?_) k.ids
  have e:=Np.pick (f:=f) (t x hx)
  have e':=Np.pick (f:=f) (t y hy)
  rw[e.id,e'.id];exact h
 born:=k.born
end
theorem Hp.Ok.TR{s:Hp}(k:s.Ok){o:Ob}(ho:o∈s.objs){f:Ob→Ob}(t:Np f o){j:Nat}(hj:j<o.size){v:Int}(hc:∀m,m<o.size→(f o).cell m=if m=j then v else o.cell m)(w:Nat):
  (s.upd o.addr f).word w=if w=o.addr+j then v else s.word w:=by
 have tt:∀x∈s.objs,x.addr=o.addr→Np f x:=fun x hx e=>by
  have h1:=x.size_pos
  have h2:=o.size_pos
  rw[k.same hx ho (w:=o.addr) oM oM];exact t
 unfold Hp.word
 rw[Hp.Pw tt]
 cases hw:s.owner w with
 |none=>
  rw[if_neg]
  ·rfl
  rintro rfl
  have:s.owner (o.addr+j)=some o:=AB ho (by simp;omega) fun b hb e=>k.same hb ho (w:=o.addr+j) (by simpa using e) oM
  rw[this]at hw;cases hw
 |some x=>
  have hx:=List.mem_of_find?_eq_some hw
  have hp:=OL hw
  simp only[decide_eq_true_eq]at hp
  show(KR o.addr f x).cell (w-(KR o.addr f x).addr)=_
  have e:=Np.pick (f:=f) (tt x hx)
  rw[e.addr]
  unfold KR
  by_cases c:x.addr=o.addr
  ·have h1:=x.size_pos
   have h2:=o.size_pos
   have hxo:=k.same hx ho (w:=o.addr) oM oM
   subst hxo
   rw[if_pos rfl,hc _ oM]
   by_cases c2:w=x.addr+j
   ·rw[if_pos c2,if_pos oM]
   ·rw[if_neg c2,if_neg oM]
  ·rw[if_neg c,if_neg]
   rintro rfl
   exact c (by rw[k.same hx ho (w:=o.addr+j) hp oM])
theorem Gbm{s s':Hp}{w:Nat}{v:Int}(hn:s'.nw=s.nw)(hw:∀x,s'.word x=if x=w then v else s.word x):(List.range s'.nw).map (fun x=>CV.i (s'.word x))=((List.range s.nw).map (fun x=>CV.i (s.word x))).set w (.i v):=by
 refine List.ext_getElem? fun i=>?_
 rw[hn,Lu,Ke,Ke]
 by_cases hi:i<s.nw
 ·rw[ZG hi]
  by_cases e:w=i
  ·subst e
   rw[if_pos rfl,if_pos (by simpa using hi)]
   simp[hw]
  ·rw[if_neg e]
   simp[hw,show¬i=w from fun h=>e h.symm]
 ·rw[En (by simpa using hi)]
  by_cases e:w=i
  ·subst e
   rw[if_pos rfl,if_neg (by simpa using hi)];rfl
  ·rw[if_neg e];rfl
theorem Ob.WA{o:Ob}{i:Nat}(h:i<o.refs.length)(v:Int)(m:Nat):({o with refs:=o.refs.set i v}:Ob).cell m=if m=2+i then v else o.cell m:=by
 unfold Ob.cell Ob.cells Ob.num
 rw[List.length_set]
 match m with
 |0=>rw[if_neg oM];rfl
 |1=>rw[if_neg oM];rfl
 |m+2=>
  simp only[List.getD_cons_succ]
  rw[Qc,Qc,GbG,GbG,List.length_set,Lu]
  by_cases c:m<o.refs.length
  ·rw[if_pos c,if_pos c]
   by_cases e:i=m
   ·subst e;rw[if_pos rfl,if_pos h,if_pos oM];rfl
   ·rw[if_neg e,if_neg oM]
  ·rw[if_neg c,if_neg c,if_neg oM]
theorem Ob.R9{o:Ob}{i:Nat}(h:i<o.data.length)(v:Int)(m:Nat):({o with data:=o.data.set i v}:Ob).cell m=if m=2+o.refs.length+i then v else o.cell m:=by
 unfold Ob.cell Ob.cells Ob.num
 rw[List.length_set]
 match m with
 |0=>rw[if_neg oM];rfl
 |1=>rw[if_neg oM];rfl
 |m+2=>
  simp only[List.getD_cons_succ]
  rw[Qc,Qc,GbG,GbG]
  by_cases c:m<o.refs.length
  ·rw[if_pos c,if_pos c,if_neg oM]
  ·rw[if_neg c,if_neg c,Lu]
   by_cases e:i=m-o.refs.length
   ·rw[if_pos e,if_pos h,if_pos oM];rfl
   ·rw[if_neg e,if_neg oM]
theorem PH.wrote{H H':Gb}{hb:Nat}{s s':Hp}{L:GD}(p:PH H hb s L)(h1:s'.blk=s.blk)(h2:s'.born=s.born)(h3:s'.fwd=s.fwd)(h4:s'.starts=s.starts)(h5:s'.pins=s.pins)
  (h6:∀k v:Int,(∃o∈s'.objs,k=o.id∧v=o.addr)↔∃o∈s.objs,k=o.id∧v=o.addr)(hw:H'[L.wb]?=some ⟨(List.range s'.nw).map (fun w=>CV.i (s'.word w)),.rw,1⟩) (hk:∀c∈L.all hb,c≠L.wb→H'[c]?=H[c]?):PH H' hb s' L:=by
 have nd:=p.nod
 simp only[GD.all,List.nodup_cons,List.mem_cons,List.not_mem_nil,or_false,not_or]at nd
 obtain⟨⟨n1,n2,n3,n4,n5,n6,n7,n8⟩,⟨n9,-⟩,⟨m1,m2,m3,m4,m5,m6⟩,-⟩:=nd
 have hn:s'.nw=s.nw:=by unfold Hp.nw;rw[h1]
 refine⟨?_,?_,hw,?_,?_,?_,?_,p.nod⟩
 ·rw[hk _ (by simp[GD.all]) n2,p.top,h1,h2,hn]
 ·rw[hk _ (by simp[GD.all]) n9,p.blk,h1]
 ·rw[h1,h4];exact p.sta.frame (hk _ (by simp[GD.all]) (Ne.symm m1)) (hk _ (by simp[GD.all]) (Ne.symm m2))
 ·rw[h1,h5];exact p.pin.frame (hk _ (by simp[GD.all]) (Ne.symm m3)) (hk _ (by simp[GD.all]) (Ne.symm m4))
 ·obtain⟨l,q1,q2,q3⟩:=p.Qg
  exact⟨l,by rw[hk _ (by simp[GD.all]) (Ne.symm m5),q1],q2,fun k v=>(q3 k v).trans (h6 k v).symm⟩
 ·rw[h3];exact p.fwd.frame (hk _ (by simp[GD.all]) (Ne.symm m6))
end Go.Cs
namespace Go.Cs
open Go
def Hp.setRef(s:Hp)(a i to:Int):Hp×Int:=match s.obj a with
 |some o=>if 0≤i∧i<(o.refs.length:Int)then(if to=0∨s.has to=true then(s.upd o.addr fun o=>{o with refs:=o.refs.set i.toNat to},0)else(s,1))else(s,1)
 |none=>(s,4)
def Hp.KW(s:Hp)(a i v:Int):Hp×Int:=match s.obj a with
 |some o=>if 0≤i∧i<(o.data.length:Int)then(s.upd o.addr fun o=>{o with data:=o.data.set i.toNat v},0)else(s,1)
 |none=>(s,4)
def Hp.Ka(s:Hp)(a:Int)(x:Bool):Hp×Int:=match s.obj a with
 |some o=>(s.upd o.addr fun o=>{o with pin:=x},0)
 |none=>(s,4)
theorem A7(i:Nat)(v:Int)(o:Ob):Np (fun o=>{o with refs:=o.refs.set i v}) o:=⟨rfl,rfl,rfl,sM,rfl⟩
theorem Ey(i:Nat)(v:Int)(o:Ob):Np (fun o=>{o with data:=o.data.set i v}) o:=⟨rfl,rfl,rfl,rfl,sM⟩
theorem Gfu(x:Bool)(o:Ob):Np (fun o=>{o with pin:=x}) o:=⟨rfl,rfl,rfl,rfl,rfl⟩
theorem Hp.Wl{s:Hp}{a:Nat}{f:Ob→Ob}(t:∀x∈s.objs,x.addr=a→Np f x)(h:∀x,(f x).pin=x.pin):(s.upd a f).pins=s.pins:=by
 funext i
 refine Br fun x hx=>?_
 have e:=Np.pick (f:=f) (t x hx)
 show((KR a f x).addr==2*i&&(KR a f x).pin)=_
 rw[e.addr]
 unfold KR
 split
 ·rw[h]
 ·rfl
theorem Hp.Ok.setRef{s:Hp}(k:s.Ok)(a i to:Int):(s.setRef a i to).1.Ok:=by
 unfold Hp.setRef
 cases s.obj a with
 |none=>exact k
 |some o=>
  dsimp only
  split
  ·split
   ·exact k.upd fun x _ _=>A7 _ _ x
   ·exact k
  ·exact k
theorem Hp.Ok.KW{s:Hp}(k:s.Ok)(a i v:Int):(s.KW a i v).1.Ok:=by
 unfold Hp.KW
 cases s.obj a with
 |none=>exact k
 |some o=>
  dsimp only
  split
  ·exact k.upd fun x _ _=>Ey _ _ x
  ·exact k
def Did(H:Gb)(hb:Nat)(L:GD)(s':Hp)(v:CV)(r:Option (CV×Gb)):Prop:=∃H',r=some (v,H')∧Keeps H H' (·∈L.all hb)∧PH H' hb s' L
end Go.Cs
namespace Go.Cs.Tryz
open Go Go.Cs
section
variable {H : Gb} {hb : Nat} {s : Hp} {L : GD}
theorem NI(p:PH H hb s L)(k:s.Ok)(a i to:Int)(ha:a≤9223372036854775807)(hto:to≤9223372036854775807):Did H hb L (s.setRef a i to).1 (.i (s.setRef a i to).2) (run P 122 [.ptr hb 0,.i a,.i i,.i to] H):=by
 obtain⟨H',h1,g⟩:=Yw p k a i false ha
 have p':=p.gr g
 have hh:=QA p' k to hto
 have kg:Keeps H H' (·∈L.all hb):=g.weaken fun _ h=>h.elim
 unfold Hp.fieldAt Uj at h1
 unfold Hp.setRef
 rw[Gi Gql _ _ sM]
 cases e:s.obj a with
 |none=>
  rw[e]at h1
  refine⟨H',?_,kg,p'⟩
  simp(disch:=first|exact dz|fail) only[simprocAttr,Gc,↓reduceIte,GJ,h1]
 |some o=>
  rw[e]at h1
  dsimp only at h1⊢
  obtain⟨ho,rfl⟩:=Hp.Jy e
  have hif:(if false=true then o.data.length else o.refs.length)=o.refs.length:=rfl
  have Gaq:(if false=true then o.refs.length else 0)=0:=rfl
  rw[hif,Gaq]at h1
  by_cases c:0≤i∧i<(o.refs.length:Int)
  rotate_left
  ·rw[if_neg c]at h1⊢
   refine⟨H',?_,kg,p'⟩
   simp(disch:=first|exact dz|fail) only[simprocAttr,Gc,↓reduceIte,GJ,h1]
  rw[if_pos c]at h1⊢
  obtain⟨n,rfl⟩:∃n:Nat,i=n:=⟨i.toNat,oM⟩
  have hsz:2+n<o.size:=by unfold Ob.size G7;omega
  obtain⟨q1,q2,q3⟩:=Uk p' k ho (j:=2+n) hsz
  have pt:=p'.top
  have pw:=p'.wrd
  have e2:(o.addr:Int)+2+((0:Nat):Int)+(n:Int)=((o.addr+(2+n):Nat):Int):=by omega
  rw[e2]at h1
  have hlen:o.addr+(2+n)<((List.range s.nw).map (fun w=>CV.i (s.word w))).length:=by simp;omega
  have fin:Did H hb L (s.upd o.addr fun o=>{o with refs:=o.refs.set n to}) (.i 0) (some (.i 0,H'.set L.wb ⟨((List.range s.nw).map (fun w=>CV.i (s.word w))).set (o.addr+(2+n)) (.i to),.rw,1⟩)):=by
   have tt:∀x∈s.objs,x.addr=o.addr→Np (fun o=>{o with refs:=o.refs.set n to}) x:=fun x _ _=>A7 _ _ x
   refine⟨_,rfl,kg.set (.inl (by simp[GD.all])) _,p'.wrote rfl rfl rfl (Hp.Db tt) (Hp.Wl tt fun _=>rfl) (Hp.Rv tt) ?_ fun c _ hc=>by rw[JU (Ne.symm hc)]⟩
   have hn':n<o.refs.length:=by omega
   rw[Gbm (s':=s.upd o.addr fun o=>{o with refs:=o.refs.set n to}) (s:=s) (w:=o.addr+(2+n)) (v:=to) rfl fun w=>k.TR ho (A7 n to o) hsz (fun m _=>Ob.WA hn' to m) w]
   rw[KI (Gd pw)]
  rw[K6]
  by_cases c0:to=0
  ·subst c0
   rw[if_pos (.inl rfl)]
   obtain⟨H2,r1,r2,r3⟩:=fin
   refine⟨H2,?_,r2,r3⟩
   rw[←r1]
   simp(disch:=first|exact dz|fail) only[simprocAttr,Gc,↓reduceIte,GJ,h1,pt,pw,q2,Nn Gq hlen]
  ·have c0':(to != 0)=true:=by simpa using c0
   cases ch:s.has to with
   |true=>
    rw[ch]at hh
    rw[if_pos (.inr rfl)]
    obtain⟨H2,r1,r2,r3⟩:=fin
    refine⟨H2,?_,r2,r3⟩
    rw[←r1]
    simp(disch:=first|exact dz|fail) only[simprocAttr,Gc,↓reduceIte,GJ,h1,pt,pw,q2,Nn Gq hlen,c0',hh,Bool.not_true]
   |false=>
    rw[ch]at hh
    rw[if_neg (by rintro (h|h);exact c0 h;cases h)]
    refine⟨H',?_,kg,p'⟩
    simp(disch:=first|exact dz|fail) only[simprocAttr,Gc,↓reduceIte,GJ,h1,pt,q2,c0',hh,Bool.not_false]
theorem YP(p:PH H hb s L)(k:s.Ok)(a i v:Int)(ha:a≤9223372036854775807):Did H hb L (s.KW a i v).1 (.i (s.KW a i v).2) (run P 91 [.ptr hb 0,.i a,.i i,.i v] H):=by
 obtain⟨H',h1,g⟩:=Yw p k a i true ha
 have p':=p.gr g
 have kg:Keeps H H' (·∈L.all hb):=g.weaken fun _ h=>h.elim
 unfold Hp.fieldAt Uj at h1
 unfold Hp.KW
 rw[Gi c91 _ _ sM]
 cases e:s.obj a with
 |none=>
  rw[e]at h1
  refine⟨H',?_,kg,p'⟩
  simp(disch:=first|exact dz|fail) only[simprocAttr,Gc,↓reduceIte,GJ,h1]
 |some o=>
  rw[e]at h1
  dsimp only at h1⊢
  obtain⟨ho,rfl⟩:=Hp.Jy e
  have hif:(if true=true then o.data.length else o.refs.length)=o.data.length:=rfl
  have Gaq:(if true=true then o.refs.length else 0)=o.refs.length:=rfl
  rw[hif,Gaq]at h1
  by_cases c:0≤i∧i<(o.data.length:Int)
  rotate_left
  ·rw[if_neg c]at h1⊢
   refine⟨H',?_,kg,p'⟩
   simp(disch:=first|exact dz|fail) only[simprocAttr,Gc,↓reduceIte,GJ,h1]
  rw[if_pos c]at h1⊢
  obtain⟨n,rfl⟩:∃n:Nat,i=n:=⟨i.toNat,oM⟩
  have hsz:2+o.refs.length+n<o.size:=by unfold Ob.size G7;omega
  obtain⟨q1,q2,q3⟩:=Uk p' k ho (j:=2+o.refs.length+n) hsz
  have pt:=p'.top
  have pw:=p'.wrd
  have e2:(o.addr:Int)+2+(o.refs.length:Int)+(n:Int)=((o.addr+(2+o.refs.length+n):Nat):Int):=by omega
  rw[e2]at h1
  have hlen:o.addr+(2+o.refs.length+n)<((List.range s.nw).map (fun w=>CV.i (s.word w))).length:=by simp;omega
  rw[K6]
  have tt:∀x∈s.objs,x.addr=o.addr→Np (fun o=>{o with data:=o.data.set n v}) x:=fun x _ _=>Ey _ _ x
  have hn':n<o.data.length:=by omega
  refine⟨H'.set L.wb ⟨((List.range s.nw).map (fun w=>CV.i (s.word w))).set (o.addr+(2+o.refs.length+n)) (.i v),.rw,1⟩,?_,kg.set (.inl (by simp[GD.all])) _,p'.wrote rfl rfl rfl (Hp.Db tt) (Hp.Wl tt fun _=>rfl) (Hp.Rv tt) ?_ fun c _ hc=>by rw[JU (Ne.symm hc)]⟩
  ·simp(disch:=first|exact dz|fail) only[simprocAttr,Gc,↓reduceIte,GJ,h1,pt,pw,q2,Nn Gq hlen]
  ·rw[Gbm (s':=s.upd o.addr fun o=>{o with data:=o.data.set n v}) (s:=s) (w:=o.addr+(2+o.refs.length+n)) (v:=v) rfl fun w=>k.TR ho (Ey n v o) hsz (fun m _=>Ob.R9 hn' v m) w]
   rw[KI (Gd pw)]
theorem GfM(p:PH H hb s L)(k:s.Ok)(a:Int)(x:Bool)(ha:a≤9223372036854775807):Did H hb L (s.Ka a x).1 (.i (s.Ka a x).2) (run P 162 [.ptr hb 0,.i a,.i (Ep x)] H):=by
 have h1:=Un p k a ha
 unfold Hp.Ka
 rw[Gi c162 _ _ sM]
 cases e:s.obj a with
 |none=>
  rw[Hp.Nl.2 e]at h1
  refine⟨H,?_,Keeps.refl _ _,p⟩
  simp(disch:=first|exact dz|fail) only[simprocAttr,Gc,↓reduceIte,G8,h1,Bool.false_eq_true]
 |some o=>
  rw[Hp.J8.2 ⟨o,e⟩]at h1
  dsimp only
  obtain⟨ho,rfl⟩:=Hp.Jy e
  have pt:=p.top
  have hf:=(k.ob o ho).fits
  have he:=(k.ob o ho).even
  have hz:=o.size_pos
  have hn:=k.nb
  unfold Hp.nw at hf
  have hd:(o.addr:Int).tdiv 2=((o.addr/2:Nat):Int):=KT o.addr 2
  have hw:IntKind.i64.wrap ((o.addr/2:Nat):Int)=((o.addr/2:Nat):Int):=Gh oM
  obtain⟨H',q1,q2,q3⟩:=DF p.pin (i:=o.addr/2) oM x
  have nd:=p.nod
  simp only[GD.all,List.nodup_cons,List.mem_cons,List.not_mem_nil,or_false,not_or]at nd
  have tt:∀y∈s.objs,y.addr=o.addr→Np (fun o=>{o with pin:=x}) y:=fun y _ _=>Gfu _ y
  have hk:∀c∈L.all hb,c≠L.pw→H'[c]?=H[c]?:=fun c hc hne=>q2.keep c (p.lt c hc) hne
  have hwd:(s.upd o.addr fun o=>{o with pin:=x}).word=s.word:=by
   funext w
   unfold Hp.word
   rw[Hp.Pw tt]
   cases s.owner w with
   |none=>rfl
   |some y=>
    show(KR o.addr _ y).cell (w-(KR o.addr _ y).addr)=_
    unfold KR
    split<;>rfl
  have GlJ:(s.upd o.addr fun o=>{o with pin:=x}).pins=fun i=>if i=o.addr/2 then x else s.pins i:=by
   funext i
   rw[Bool.eq_iff_iff]
   simp only[Hp.pins,Hp.upd,List.any_map,List.any_eq_true,Function.comp_apply,JQ,beq_iff_eq]
   by_cases ei:i=o.addr/2
   ·rw[if_pos ei]
    constructor
    ·rintro ⟨y,hy,h1,h2⟩
     by_cases c:y.addr=o.addr
     ·rw[if_pos c]at h2;exact h2
     ·rw[if_neg c]at h1
      have:=(k.ob y hy).even
      omega
    ·intro hx
     exact⟨o,ho,by rw[if_pos rfl];show o.addr=_;omega,by rw[if_pos rfl];exact hx⟩
   ·rw[if_neg ei,List.any_eq_true]
    constructor
    ·rintro ⟨y,hy,h1,h2⟩
     by_cases c:y.addr=o.addr
     ·rw[if_pos c]at h1
      have h1':y.addr=2*i:=h1
      omega
     ·rw[if_neg c]at h1 h2
      exact⟨y,hy,by simp only[JQ,beq_iff_eq];exact⟨h1,h2⟩⟩
    ·rintro ⟨y,hy,h1⟩
     simp only[JQ,beq_iff_eq]at h1
     have c:¬y.addr=o.addr:=by omega
     exact⟨y,hy,by rw[if_neg c];exact h1.1,by rw[if_neg c];exact h1.2⟩
  refine⟨H',?_,q2.weaken fun c hc=>by rw[hc];simp[GD.all],?_⟩
  ·simp(disch:=first|exact dz|fail) only[simprocAttr,Gc,↓reduceIte,G8,h1,pt,hd,hw,q1,GH]
  ·obtain⟨⟨n1,n2,n3,n4,n5,n6,n7,n8⟩,⟨a1,a2,a3,a4,a5,a6,a7⟩,⟨m1,m2,m3,m4,m5,m6⟩,⟨r1,r2,r3,r4,r5⟩,⟨t1,t2,t3,t4⟩,⟨u1,u2,u3⟩,⟨v1,v2⟩,-⟩:=nd
   refine⟨?_,?_,?_,?_,?_,?_,?_,p.nod⟩
   ·exact(hk _ (by simp[GD.all]) n6).trans p.top
   ·exact(hk _ (by simp[GD.all]) a5).trans p.blk
   ·rw[hwd];exact(hk _ (by simp[GD.all]) m4).trans p.wrd
   ·rw[Hp.Db tt];exact p.sta.frame (hk _ (by simp[GD.all]) r3) (hk _ (by simp[GD.all]) t2)
   ·rw[GlJ];exact q3
   ·obtain⟨l,w1,w2,w3⟩:=p.Qg
    exact⟨l,(hk _ (by simp[GD.all]) (Ne.symm v1)).trans w1,w2,fun k v=>(w3 k v).trans (Hp.Rv tt k v).symm⟩
   ·exact p.fwd.frame (hk _ (by simp[GD.all]) (Ne.symm v2))
theorem Gd6(p:PH H hb s L)(k:s.Ok)(a:Int)(ha:a≤9223372036854775807):Did H hb L (s.Ka a true).1 (.i (s.Ka a true).2) (run P 66 [.ptr hb 0,.i a] H):=by
 obtain⟨H',h1,h2,h3⟩:=GfM p k a true ha
 have h1':run P 162 [.ptr hb 0,.i a,.i 1] H=some (.i (s.Ka a true).2,H'):=h1
 refine⟨H',?_,h2,h3⟩
 rw[Gi c66 _ _ sM]
 simp(disch:=first|exact dz|fail) only[simprocAttr,Gc,↓reduceIte,Gj,h1']
end
end Go.Cs.Tryz
namespace Go.Cs
open Go
section
variable {F : Jp} {E : Env} {H : Gb}
theorem GcH:GL .Vg E H=some (some ⟨[],.map,0⟩,fun k=>.GU k):=rfl
theorem BX:K3 F .Vg E H=some (.GU H.length,H++[⟨[],.map,0⟩]):=rfl
def U4(k:IntKind)(m x v:CV)(H:Gb):Option (CV×Gb):=(Q6 H k m x v).map fun H'=>(.undef,H')
def Vn(k:IntKind)(m x:CV)(H:Gb):Option (CV×Gb):=(Qf H k m x).map fun H'=>(.Ju [],H')
def AA(ok:Bool)(k:IntKind)(z m x:CV)(H:Gb):Option (CV×Gb):=(Q5 H ok k z m x).map fun v=>(v,H)
theorem Ue{k:IntKind}{m x v:J7}:K3 F (.QY k m x v) E H=U4 k (E.ev m) (E.ev x) (E.ev v) H:=rfl
theorem IW{k:IntKind}{m x:J7}:K3 F (.VE k m x) E H=Vn k (E.ev m) (E.ev x) H:=rfl
theorem JA{ok:Bool}{k:IntKind}{z:CV}{m x:J7}:K3 F (.Qo ok k z m x) E H=AA ok k z (E.ev m) (E.ev x) H:=by
 simp only[K3,Vu,GL,AA]
 cases Q5 H ok k z (E.ev m) (E.ev x)<;>rfl
end
theorem Yc{α β:Type}(f:α→β):∀(l:List α)(j:Nat),(l.map f).eraseIdx j=(l.eraseIdx j).map f
 |[],j=>by simp
 |x::l,0=>rfl
 |x::l,j+1=>by simp only[List.map_cons,List.eraseIdx_cons_succ,Yc f l j]
theorem U9(l:List (Int×Int)):Qy (Ky l)=Ky l∧VY (Ky l)=false:=by
 match l with
 |[]=>exact⟨rfl,rfl⟩
 |[x]=>exact⟨rfl,rfl⟩
 |x::y::r=>exact⟨rfl,rfl⟩
theorem ZR{n:Int}:∀{l:List (Int×Int)}{i:Nat},(∀v,(n,v)∉l)→Uu .i64 n (Ky l) i=some none
 |[],i,_=>rfl
 |(k,w)::l,i,h=>by
  have hk:(n==k)=false:=by
   rw[←Bool.not_eq_true,beq_iff_eq]
   rintro rfl
   exact h w NC
  show(if IntKind.i64=IntKind.i64 then(if(n==k)=true then some (some (i,CV.i w))else Uu .i64 n (Ky l) (i+1))else none)=_
  rw[if_pos rfl,hk]
  exact ZR fun v hv=>h v (Um _ hv)
theorem F9{n:Int}:∀{l:List (Int×Int)}{i:Nat}{v:Int},(l.map (·.1)).Nodup→(n,v)∈l→∃j,l[j]?=some (n,v)∧Uu .i64 n (Ky l) i=some (some (i+j,.i v))
 |(k,w)::l,i,v,hn,h=>by
  rw[List.map_cons,List.nodup_cons]at hn
  show∃j,_∧(if IntKind.i64=IntKind.i64 then(if(n==k)=true then some (some (i,CV.i w))else Uu .i64 n (Ky l) (i+1))else none)=_
  rw[if_pos rfl]
  by_cases hk:n=k
  ·subst hk
   have hv:v=w:=by
    rcases List.mem_cons.1 h with e|e
    ·simp only[Prod.mk.injEq,true_and]at e;exact e
    ·exact absurd (List.mem_map_of_mem (f:=(·.1)) e) hn.1
   subst hv
   exact⟨0,rfl,sM⟩
  ·have hk':(n==k)=false:=by simpa using hk
   rw[hk']
   have h':(n,v)∈l:=by
    rcases List.mem_cons.1 h with e|e
    ·simp only[Prod.mk.injEq]at e;exact absurd e.1 hk
    ·exact e
   obtain⟨j,q1,q2⟩:=F9 (i:=i+1) hn.2 h'
   refine⟨j+1,q1,?_⟩
   rw[show i+(j+1)=i+1+j from by omega]
   exact q2
section
variable {H : Gb} {b : Nat} {r : Int → Int → Prop}
theorem V6.entries(m:V6 H b r):∃l,H[b]?=some ⟨Ky l,.map,0⟩∧entriesOf H (.GU b)=some (Ky l)∧(l.map (·.1)).Nodup∧∀k v,(k,v)∈l↔r k v:=by
 obtain⟨l,h1,h2,h3⟩:=m
 refine⟨l,h1,?_,h2,h3⟩
 unfold entriesOf
 dsimp only
 rw[h1]
 dsimp only
 rw[if_pos ⟨rfl,rfl⟩,(U9 l).1]
theorem V6.add(m:V6 H b r){n v:Int}(hn:∀w,¬r n w):∃H',(∀H0,H0=H→U4 .i64 (.GU b) (.i n) (.i v) H0=some (.undef,H'))∧Keeps H H' (·=b)∧V6 H' b fun k w=>r k w∨(k=n∧w=v):=by
 obtain⟨l,h1,h0,h2,h3⟩:=m.entries
 have hf:=ZR (n:=n) (l:=l) (i:=0) fun w hw=>hn w ((h3 n w).1 hw)
 refine⟨H.set b ⟨Ky (l++[(n,v)]),.map,0⟩,?_,Keeps.set (w:=fun c=>c=b) (Keeps.refl H _) (.inl rfl) _,l++[(n,v)],by rw[KI (Gd h1)],?_,fun k w=>?_⟩
 ·rintro _ rfl
  unfold U4 Q6
  dsimp only
  rw[if_pos ⟨rfl,rfl⟩,h0,Option.bind_some,hf,Option.bind_some]
  dsimp only
  unfold J2
  rw[h1]
  dsimp only
  rw[if_pos ⟨rfl,rfl,(U9 l).2⟩]
  simp[Ky]
 ·rw[XE,List.nodup_append]
  refine⟨h2,sM,?_⟩
  rintro x hx y hy rfl
  simp only[List.map_cons,List.map_nil,Uy]at hy
  subst hy
  rw[YX]at hx
  obtain⟨⟨k,w⟩,hq,e⟩:=hx
  simp only at e
  subst e
  exact hn w ((h3 k w).1 hq)
 ·rw[NG,h3,Uy,Prod.mk.injEq]
theorem V6.del(m:V6 H b r)(n:Int):∃H',(∀H0,H0=H→Vn .i64 (.GU b) (.i n) H0=some (.Ju [],H'))∧Keeps H H' (·=b)∧V6 H' b fun k w=>r k w∧k≠n:=by
 obtain⟨l,h1,h0,h2,h3⟩:=m.entries
 by_cases c:∃v,(n,v)∈l
 ·obtain⟨v,hv⟩:=c
  obtain⟨j,q1,q2⟩:=F9 (i:=0) h2 hv
  rw[Nat.zero_add]at q2
  refine⟨H.set b ⟨Ky (l.eraseIdx j),.map,0⟩,?_,Keeps.set (w:=fun c=>c=b) (Keeps.refl H _) (.inl rfl) _,l.eraseIdx j,by rw[KI (Gd h1)],?_,fun k w=>?_⟩
  ·rintro _ rfl
   unfold Vn Qf
   dsimp only
   rw[if_pos rfl,h0,Option.bind_some,q2,Option.bind_some]
   dsimp only
   unfold J2
   rw[h1]
   dsimp only
   rw[if_pos ⟨rfl,rfl,(U9 l).2⟩]
   simp[Ky,Yc]
  ·rw[←Yc]
   exact h2.sublist (List.eraseIdx_sublist _ _)
  ·have hj:=Gd q1
   rw[List.mem_eraseIdx_iff_getElem?]
   constructor
   ·rintro ⟨i,hi,e⟩
    refine⟨(h3 k w).1 (JX e),?_⟩
    rintro rfl
    have e1:(l.map (·.1))[i]?=some k:=by rw[Ke,e];rfl
    have e2:(l.map (·.1))[j]?=some k:=by rw[Ke,q1];rfl
    exact hi ((List.getElem?_inj (by simpa using Gd e) h2).1 (e1.trans e2.symm))
   ·rintro ⟨h4,h5⟩
    obtain⟨i,hi⟩:=List.mem_iff_getElem?.1 ((h3 k w).2 h4)
    refine⟨i,?_,hi⟩
    rintro rfl
    rw[q1]at hi
    simp only[Gx,Prod.mk.injEq]at hi
    exact h5 hi.1.symm
 ·have hno:∀v,(n,v)∉l:=fun v hv=>c ⟨v,hv⟩
  have hf:=ZR (n:=n) (l:=l) (i:=0) hno
  refine⟨H.set b ⟨Ky l,.map,0⟩,?_,Keeps.set (w:=fun c=>c=b) (Keeps.refl H _) (.inl rfl) _,l,by rw[KI (Gd h1)],h2,fun k w=>?_⟩
  ·rintro _ rfl
   unfold Vn Qf
   dsimp only
   rw[if_pos rfl,h0,Option.bind_some,hf,Option.bind_some]
   dsimp only
   unfold J2
   rw[h1]
   dsimp only
   rw[if_pos ⟨rfl,rfl,(U9 l).2⟩]
   rfl
  ·rw[h3]
   refine⟨fun h=>⟨h,?_⟩,fun h=>h.1⟩
   rintro rfl
   exact hno w ((h3 k w).2 h)
end
end Go.Cs
namespace Go.Cs
open Go
def Qt(o:Ob):List Ob→List Ob
 |[]=>[o]
 |x::l=>if x.addr<o.addr then x::Qt o l else o::x::l
def Nb(a id r d k:Nat):Ob:=⟨a,id,List.replicate r 0,List.replicate d 0,k,false⟩
def Hp.Va(s:Hp)(a r d k:Nat):Hp:={s with objs:=Qt (Nb a (s.born+1) r d k) s.objs,born:=s.born+1}
def Hp.place(s:Hp)(a r d k:Int):Hp×Int×Int:=
 if JJ r d k=true then
  if s.fits a (G7 r.toNat d.toNat) (-1)=0 then(s.Va a.toNat r.toNat d.toNat k.toNat,((s.born+1:Nat):Int),0)else(s,0,s.fits a (G7 r.toNat d.toNat) (-1))
 else(s,0,2)
theorem JL{o x:Ob}:∀{l:List Ob},x∈Qt o l↔x=o∨x∈l
 |[]=>by simp[Qt]
 |y::l=>by
  unfold Qt
  split
  ·rw[List.mem_cons,List.mem_cons,JL]
   constructor
   ·rintro (h|h|h)
    ·exact .inr (.inl h)
    ·exact .inl h
    ·exact .inr (.inr h)
   ·rintro (h|h|h)
    ·exact .inr (.inl h)
    ·exact .inl h
    ·exact .inr (.inr h)
  ·simp only[List.mem_cons]
theorem F8{o:Ob}:∀{l:List Ob},l.Pairwise (fun a b=>a.addr+a.size≤b.addr)→(∀x∈l,o.addr+o.size≤x.addr∨x.addr+x.size≤o.addr)→(Qt o l).Pairwise fun a b=>a.addr+a.size≤b.addr
 |[],_,_=>by simp[Qt]
 |y::l,h,hx=>by
  have h0:=hx y NC
  have hp:=o.size_pos
  have hp2:=y.size_pos
  rw[List.pairwise_cons]at h
  unfold Qt
  split
  ·rename_i hlt
   rw[List.pairwise_cons]
   refine⟨fun b hb=>?_,F8 h.2 fun x hx'=>hx x (Um _ hx')⟩
   rcases JL.1 hb with rfl|hb
   ·omega
   ·exact h.1 b hb
  ·rename_i hge
   rw[List.pairwise_cons,List.pairwise_cons]
   refine⟨fun b hb=>?_,h.1,h.2⟩
   rcases List.mem_cons.1 hb with rfl|hb
   ·omega
   ·have:=h.1 b hb;omega
theorem OW{o:Ob}:∀{l:List Ob},l.Pairwise (fun a b=>a.id≠b.id)→(∀x∈l,x.id≠o.id)→(Qt o l).Pairwise fun a b=>a.id≠b.id
 |[],_,_=>by simp[Qt]
 |y::l,h,hx=>by
  have h0:=hx y NC
  rw[List.pairwise_cons]at h
  unfold Qt
  split
  ·rw[List.pairwise_cons]
   refine⟨fun b hb=>?_,OW h.2 fun x hx'=>hx x (Um _ hx')⟩
   rcases JL.1 hb with rfl|hb
   ·exact h0
   ·exact h.1 b hb
  ·rw[List.pairwise_cons,List.pairwise_cons]
   refine⟨fun b hb=>?_,h.1,h.2⟩
   exact(hx b hb).symm
theorem Ge6(l:List (Nat×Nat)):tails l≤l.length:=(List.takeWhile_sublist _).length_le
theorem Hp.GgP{s:Hp}{b:Nat}(hb:b<s.blk.length):b+s.span b≤s.blk.length:=by
 unfold Hp.span
 split
 ·have:=Ge6 (s.blk.drop (b+1))
  rw[List.length_drop]at this
  omega
 ·omega
theorem Hp.Ok.RI{s:Hp}(k:s.Ok){a:Int}{n:Nat}(hn:0<n)(h:s.fits a n (-1)=0):∃m:Nat,a=m∧m % 2=0∧m+n≤s.nw∧∀o∈s.objs,m+n≤o.addr∨o.addr+o.size≤m:=by
 unfold Hp.fits at h
 split at h
 ·cases h
 rename_i c
 obtain⟨m,rfl⟩:∃m:Nat,a=m:=⟨a.toNat,oM⟩
 rw[K6]at h c
 have hnw:s.nw=64*s.blk.length:=rfl
 have htk:s.taken m n (-1)=false→∀o∈s.objs,m+n≤o.addr∨o.addr+o.size≤m:=by
  intro ht o ho
  rw[←Bool.not_eq_true]at ht
  unfold Hp.taken at ht
  rw[List.any_eq_true]at ht
  have hz:¬(o.addr<m+n∧m<o.addr+o.size):=fun hh=>ht ⟨o,ho,by simp only[JQ,bne_iff_ne,ne_eq,decide_eq_true_eq];exact⟨oM,hh⟩⟩
  omega
 refine⟨m,rfl,oM,?_⟩
 split at h
 ·split at h
  ·cases h
  ·rename_i c2
   split at h
   ·cases h
   ·rename_i c3
    exact⟨oM,htk (by simpa using c3)⟩
 ·split at h
  ·cases h
  ·rename_i c2
   split at h
   ·cases h
   ·rename_i c3
    have hs:=Hp.GgP (s:=s) (b:=m/64) oM
    exact⟨oM,htk (by simpa using c3)⟩
theorem YU(a id r d k:Nat):(Nb a id r d k).size=G7 r d:=by simp[Ob.size,Nb]
theorem Gas(a id r d k m:Nat):(Nb a id r d k).cell m=if m=0 then(id:Int)else if m=1 then((r+16*d+4096*k:Nat):Int)else 0:=by
 unfold Ob.cell Ob.cells Ob.num Nb
 simp only[List.length_replicate]
 match m with
 |0=>rfl
 |1=>rfl
 |m+2=>
  rw[if_neg oM,if_neg oM,List.getD_cons_succ,List.getD_cons_succ,Qc]
  cases h:(List.replicate r (0:Int)++List.replicate d 0)[m]? with
  |none=>rfl
  |some x=>
   have:=JX h
   simp only[NG,List.mem_replicate]at this
   rcases this with h|h<;>exact h.2
section
variable {s : Hp} {m r d k : Nat}
theorem Hp.Ok.Va(o:s.Ok)(hv:JJ r d k=true)(h1:m % 2=0)(h2:m+G7 r d≤s.nw)(h3:∀x∈s.objs,m+G7 r d≤x.addr∨x.addr+x.size≤m)(hb:s.born<1000000000000):(s.Va m r d k).Ok where
 nb:=o.nb
 st:=o.st
 ob:=fun x hx=>by
  have hv':=Qu hv
  rcases JL.1 hx with rfl|hx
  ·exact⟨h1,by simp[Nb];omega,by simp[Nb];omega,by simp[Nb];omega,by simp[Nb,Hp.Va],by rw[YU];exact h2⟩
  ·have q:=o.ob x hx
   exact⟨q.even,q.nr,q.nd,q.kd,⟨q.id.1,Nat.le_succ_of_le q.id.2⟩,q.fits⟩
 apart:=F8 o.apart fun x hx=>by rw[YU];exact h3 x hx
 ids:=OW o.ids fun x hx=>by have:=(o.ob x hx).id;simp only[Nb];omega
 born:=by show s.born+1≤_;omega
theorem Hp.Ok.Gaw(o:s.Ok)(o':(s.Va m r d k).Ok)(h3:∀x∈s.objs,m+G7 r d≤x.addr∨x.addr+x.size≤m)(w:Nat):
  (s.Va m r d k).word w=if w=m then((s.born+1:Nat):Int)else if w=m+1 then((r+16*d+4096*k:Nat):Int)else s.word w:=by
 have hz:2≤G7 r d:=by unfold G7;omega
 by_cases c:m≤w∧w<m+G7 r d
 ·have hm:Nb m (s.born+1) r d k∈(s.Va m r d k).objs:=JL.2 (.inl rfl)
  have h:=o'.word hm (k:=w-m) (by rw[YU];omega)
  have e:(Nb m (s.born+1) r d k).addr+(w-m)=w:=by simp only[Nb];omega
  rw[e,Gas]at h
  rw[h]
  have hs:s.word w=0:=by
   have:s.owner w=none:=by
    unfold Hp.owner
    rw[List.find?_eq_none]
    intro x hx
    have:=h3 x hx
    simp only[decide_eq_true_eq]
    omega
   unfold Hp.word
   rw[this]
  by_cases c1:w=m
  ·rw[if_pos oM,if_pos c1]
  ·rw[if_neg oM,if_neg c1]
   by_cases c2:w=m+1
   ·rw[if_pos oM,if_pos c2]
   ·rw[if_neg oM,if_neg c2,hs]
 ·rw[if_neg oM,if_neg oM]
  cases hw:s.owner w with
  |some x=>
   have hx:=List.mem_of_find?_eq_some hw
   have hp:=OL hw
   simp only[decide_eq_true_eq]at hp
   have q1:=o.word hx (k:=w-x.addr) oM
   have q2:=o'.word (JL.2 (.inr hx)) (k:=w-x.addr) oM
   have e:x.addr+(w-x.addr)=w:=by omega
   rw[e]at q1 q2
   rw[q1,q2]
  |none=>
   have:(s.Va m r d k).owner w=none:=by
    unfold Hp.owner
    rw[List.find?_eq_none]
    intro x hx
    rcases JL.1 hx with rfl|hx
    ·rw[YU];rw[decide_eq_true_eq];exact c
    ·unfold Hp.owner at hw
     rw[List.find?_eq_none]at hw
     exact hw x hx
   unfold Hp.word
   rw[this,hw]
theorem Gbl{o:Ob}{p:Ob→Bool}:∀{l:List Ob},(Qt o l).any p=(p o||l.any p):=by
 intro l
 rw[Bool.eq_iff_iff,Bool.or_eq_true,List.any_eq_true,List.any_eq_true]
 constructor
 ·rintro ⟨x,hx,h⟩
  rcases JL.1 hx with rfl|hx
  ·exact .inl h
  ·exact .inr ⟨x,hx,h⟩
 ·rintro (h|⟨x,hx,h⟩)
  ·exact⟨o,JL.2 (.inl rfl),h⟩
  ·exact⟨x,JL.2 (.inr hx),h⟩
theorem Hp.Rx(h1:m % 2=0):(s.Va m r d k).starts=fun i=>if i=m/2 then true else s.starts i:=by
 funext i
 show(Qt _ s.objs).any _=_
 rw[Gbl]
 simp only[Nb]
 by_cases c:i=m/2
 ·rw[if_pos c]
  have:(m==2*i)=true:=by simp;omega
  rw[this];rfl
 ·rw[if_neg c]
  have:(m==2*i)=false:=by simp;omega
  rw[this];rfl
theorem Hp.XW:(s.Va m r d k).pins=s.pins:=by
 funext i
 show(Qt _ s.objs).any _=_
 rw[Gbl]
 simp only[Nb,Bool.and_false,Bool.false_or]
 rfl
theorem Hp.Gc_(q v:Int):(∃o∈(s.Va m r d k).objs,q=o.id∧v=o.addr)↔((∃o∈s.objs,q=o.id∧v=o.addr)∨(q=((s.born+1:Nat):Int)∧v=(m:Int))):=by
 constructor
 ·rintro ⟨o,ho,h⟩
  rcases JL.1 ho with rfl|ho
  ·exact .inr h
  ·exact .inl ⟨o,ho,h⟩
 ·rintro (⟨o,ho,h⟩|h)
  ·exact⟨o,JL.2 (.inr ho),h⟩
  ·exact⟨_,JL.2 (.inl rfl),h⟩
end
end Go.Cs
namespace Go.Cs.Tryz
open Go Go.Cs A
def C40:Gm:=⟨71,0,T [bo 5 2,n 6 0,n 7 0] (S (B 0 (T [m 10 0,q1 11 95 10,no 12 11,m 9 12] (C 9 (Q [n 6 0,n 7 5]) (T [lg 14 3 5,q1 15 125 14,no 16 15,m 13 16] (I 13 (Q [n 6 0,n 7 2])))))) (S (T [m 17 0,m 18 1,lg 19 3 5,q1 20 127 19,ca 21 126 [t 17,t 18,t 20,k (-1)],m 8 21] (T [m 22 8,bk 23 .neq 22 0] (I 23 (Q [m 24 8,n 6 0,m 7 24])))) (T [m 25 0,z 26 25,f 27 6 26,l 28 1 27,bk 29 .add 28 1,z 30 25,f 31 6 30,st 1 31 29] (S (D [⟨lg 47 3 5,15,1,0⟩,⟨q1 48 128 47,16,3,0⟩,⟨m 32 0,0,0,0⟩,⟨z 33 32,1,0,0⟩,⟨f 34 1 33,2,0,0⟩,⟨l 35 1 34,3,1,0⟩,⟨m 36 1,4,0,0⟩,⟨m 37 0,5,0,0⟩,⟨z 38 37,6,0,0⟩,⟨f 39 1 38,7,0,0⟩,⟨l 40 1 39,8,1,0⟩,⟨m 43 0,11,0,0⟩,⟨z 44 43,12,0,0⟩,⟨f 45 6 44,13,0,0⟩,⟨l 46 1 45,14,1,0⟩,⟨x 49 1 35 36,17,0,1⟩,⟨st 1 49 46,18,3,1⟩,⟨m 41 1,9,0,0⟩,⟨bk 42 .add 41 1,10,0,0⟩,⟨x 50 1 40 42,19,0,2⟩,⟨st 1 50 48,20,3,2⟩]) (T [m 51 0,z 52 51,f 53 2 52,l 54 1 53,m 55 1,bk 56 .quo 55 2,ca 57 129 [t 54,t 56,k 1]] (S (D [⟨m 58 0,0,0,0⟩,⟨z 59 58,1,0,0⟩,⟨f 60 4 59,2,0,0⟩,⟨l 61 1 60,3,1,0⟩,⟨m 62 0,4,0,0⟩,⟨z 63 62,5,0,0⟩,⟨f 64 6 63,6,0,0⟩,⟨l 65 1 64,7,1,0⟩,⟨m 66 1,8,0,0⟩,⟨u (.QY .i64 (t 61) (t 65) (t 66)),9,3,0⟩]) (Q [m 67 0,z 68 67,f 69 6 68,l 70 1 69,m 6 70,n 7 0]))))))),[r 6,r 7]⟩
theorem c40:P 40=some C40:=by kernel_rfl
end Go.Cs.Tryz
namespace Go.Cs.Tryz
open Go Go.Cs
section
variable {H : Gb} {hb : Nat} {s : Hp} {L : GD}
theorem Bv(p:PH H hb s L)(o:s.Ok)(hborn:s.born<1000000000000)(a r d k:Int):Did H hb L (s.place a r d k).1 (Uj (s.place a r d k).2) (run P 40 [.ptr hb 0,.i a,.agg (Je r d k)] H):=by
 have p1:=p.app [⟨Je r d k,.rw,0⟩]
 have h1:=Nj p1 o
 have h2:=Bn (H:=H++[⟨Je r d k,.rw,0⟩]) r d k
 have hkA:∀{X:Gb},Gr H X→Keeps H X (·∈L.all hb):=fun g=>g.weaken fun _ h=>h.elim
 have gA:Gr H (H++[⟨Je r d k,.rw,0⟩]++[⟨Je r d k,.rw,0⟩]):=(Gr.app H _).app' _
 unfold Hp.place Uj
 rw[Gi c40 _ _ sM]
 by_cases cv:JJ r d k=true
 rotate_left
 ·rw[if_neg cv]
  have cv':JJ r d k=false:=by simpa using cv
  rw[cv']at h2
  refine⟨_,?_,hkA gA,p.gr gA⟩
  unfold Je at h1 h2⊢
  simp(disch:=first|exact dz|fail) only[simprocAttr,Gc,↓reduceIte,G8,h1,h2,Bool.not_true,Bool.not_false]
 rw[if_pos cv]
 rw[cv]at h2
 have hvv:=Qu cv
 have h3:=Yn (H:=H++[⟨Je r d k,.rw,0⟩]++[⟨Je r d k,.rw,0⟩]) r d k
 have hwI:G5 r d k=((G7 r.toNat d.toNat:Nat):Int):=by unfold G5;rw[if_pos cv]
 rw[hwI]at h3
 have hn0:0<G7 r.toNat d.toNat:=by unfold G7;omega
 have hn2:G7 r.toNat d.toNat≤300:=by unfold G7;omega
 have hne:G7 r.toNat d.toNat % 2=0:=by unfold G7;omega
 have gB:Gr H (H++[⟨Je r d k,.rw,0⟩]++[⟨Je r d k,.rw,0⟩]++[⟨Je r d k,.rw,0⟩]++[⟨Je r d k,.rw,0⟩]):=(gA.app' _).app' _
 obtain⟨H4,h4,g4⟩:=GcK (p.gr gB) o a (-1) hne hn0 hn2
 have g:Gr H H4:=gB.trans g4
 have p4:=p.gr g
 have hsh:H4[H.length]?=some ⟨Je r d k,.rw,0⟩:=g4.get sM
 by_cases cf:s.fits a (G7 r.toNat d.toNat) (-1)=0
 rotate_left
 ·rw[if_neg cf]
  have cf':(s.fits a (G7 r.toNat d.toNat) (-1) != 0)=true:=by simpa using cf
  refine⟨H4,?_,hkA g,p4⟩
  unfold Je at h1 h2 h3 h4⊢
  simp(disch:=first|exact dz|fail) only[simprocAttr,Gc,↓reduceIte,G8,h1,h2,h3,h4,Bool.not_true,cf']
 rw[if_pos cf]
 rw[cf]at h4
 obtain⟨m,rfl,e1,e2,e3⟩:=o.RI hn0 cf
 have o':=o.Va (m:=m) (r:=r.toNat) (d:=d.toNat) (k:=k.toNat) (by rw[show((r.toNat:Nat):Int)=r from by omega,show((d.toNat:Nat):Int)=d from by omega,show((k.toNat:Nat):Int)=k from by omega];exact cv) e1 e2 e3 hborn
 have t4:=p4.top
 have w4:=p4.wrd
 have hnb:=o.nb
 have hnw:s.nw=64*s.blk.length:=rfl
 have wb1:IntKind.i64.wrap ((s.born:Int)+1)=((s.born+1:Nat):Int):=Gh oM
 have nd:=p.nod
 simp only[GD.all,List.nodup_cons,List.mem_cons,List.not_mem_nil,or_false,not_or]at nd
 obtain⟨⟨n1,n2,n3,n4,n5,n6,n7,n8⟩,⟨a1,a2,a3,a4,a5,a6,a7⟩,⟨m1,m2,m3,m4,m5,m6⟩,⟨r1,r2,r3,r4,r5⟩,⟨t1,t2,t3,t5⟩,⟨u1,u2,u3⟩,⟨v1,v2⟩,v3,-⟩:=nd
 have hlt:=p.lt
 have hl4:=Gd t4
 have hlw:=Gd w4
 have hwb:L.wb≠hb:=fun e=>n2 e.symm
 have hHb:H.length≠hb:=fun e=>by have:=hlt hb (by simp[GD.all]);omega
 unfold Je at h1 h2 h3 h4 hsh⊢
 have Gl8:=fun X:Gb=>WV (H:=X) r d k cv
 unfold Je at Gl8
 have q2:(0:Int)≤(m:Int)∧(m:Int)<(s.nw:Int):=by omega
 have q3:(0:Int)≤((m+1:Nat):Int)∧((m+1:Nat):Int)<(s.nw:Int):=by unfold G7 at e2;omega
 have wm1:IntKind.i64.wrap ((m:Int)+1)=((m+1:Nat):Int):=Gh oM
 have hm0:m<((List.range s.nw).map (fun w=>CV.i (s.word w))).length:=by simp;omega
 have hm1:m+1<(((List.range s.nw).map (fun w=>CV.i (s.word w))).set m (.int .i64 ((s.born+1:Nat):Int))).length:=by simp;omega
 obtain⟨T,hT⟩:∃T:JI,T=⟨[CV.slice L.bb 0 s.blk.length s.blk.length 2 false,CV.slice L.wb 0 s.nw s.nw 1 false,CV.ptr L.sb 0,CV.ptr L.pb 0,CV.GU L.mb,CV.GU L.fb,CV.int .i64 ((s.born+1:Nat):Int)],.rw,0⟩:=⟨_,rfl⟩
 obtain⟨H8,hH8⟩:∃X:Gb,X=((H4.set hb ⟨[CV.slice L.bb 0 s.blk.length s.blk.length 2 false,CV.slice L.wb 0 s.nw s.nw 1 false,CV.ptr L.sb 0,CV.ptr L.pb 0,CV.GU L.mb,CV.GU L.fb,CV.int .i64 ((s.born+1:Nat):Int)],.rw,0⟩).set L.wb ⟨((List.range s.nw).map (fun w=>CV.i (s.word w))).set m (.int .i64 ((s.born+1:Nat):Int)),.rw,1⟩).set L.wb ⟨(((List.range s.nw).map (fun w=>CV.i (s.word w))).set m (.int .i64 ((s.born+1:Nat):Int))).set (m+1) (.int .i64 (r+16*d+4096*k)),.rw,1⟩++[⟨[CV.i r,CV.i d,CV.i k],.rw,0⟩]:=⟨_,rfl⟩
 have hl8:H4.length≤H8.length:=by rw[hH8];simp
 have Gi9:∀c,c<H4.length→c≠hb→c≠L.wb→H8[c]?=H4[c]?:=fun c hc h1 h2=>by
  rw[hH8,QN (by simpa using hc),JU (Ne.symm h2),JU (Ne.symm h2),JU (Ne.symm h1)]
 have GjZ:H8[hb]?=some T:=by
  rw[hH8,QN (by simpa using hl4),JU hwb,JU hwb,KI hl4,hT]
 have Gn0:H8[L.wb]?=some ⟨(((List.range s.nw).map (fun w=>CV.i (s.word w))).set m (.int .i64 ((s.born+1:Nat):Int))).set (m+1) (.int .i64 (r+16*d+4096*k)),.rw,1⟩:=by
  rw[hH8,QN (by simpa using hlw),KI (by simpa using hlw)]
 have lt4:∀c∈L.all hb,c<H4.length:=p4.lt
 have s8:Side H8 L.sb L.sw (32*s.blk.length) s.starts:=p4.sta.frame (Gi9 _ (lt4 _ (by simp[GD.all])) (Ne.symm n3) (Ne.symm m1)) (Gi9 _ (lt4 _ (by simp[GD.all])) (Ne.symm n4) (Ne.symm m2))
 obtain⟨H9,h9,k9,s9⟩:=DF s8 (i:=m/2) oM true
 have h9':run P 129 [.ptr L.sb 0,.i ((m/2:Nat):Int),.int .i64 1] H8=some (.i 0,H9):=h9
 have Glt:∀c,c<H4.length→c≠hb→c≠L.wb→c≠L.sw→H9[c]?=H4[c]?:=fun c hc h1 h2 h3=>(k9.keep c oM h3).trans (Gi9 c hc h1 h2)
 have GjJ:H9[hb]?=some T:=(k9.keep hb oM n4).trans GjZ
 have m9:V6 H9 L.mb fun k v=>∃o∈s.objs,k=o.id∧v=o.addr:=p4.Qg.frame (Glt _ (lt4 _ (by simp[GD.all])) (Ne.symm n7) (Ne.symm m5) (Ne.symm t3))
 obtain⟨H10,h10,k10,m10⟩:=m9.add (n:=((s.born+1:Nat):Int)) (v:=(m:Int)) (by
  rintro w ⟨x,hx,e,-⟩
  have:=(o.ob x hx).id
  omega)
 have GdL:H10[hb]?=some T:=(k10.keep hb (by have:=k9.len;omega) n7).trans GjJ
 have WM:∀c,c<H4.length→c≠hb→c≠L.wb→c≠L.sw→c≠L.mb→H10[c]?=H4[c]?:=fun c hc h1 h2 h3 h4=>(k10.keep c (by have:=k9.len;omega) h4).trans (Glt c hc h1 h2 h3)
 have GkB:H10[L.wb]?=H8[L.wb]?:=(k10.keep _ (by have:=k9.len;omega) m5).trans (k9.keep _ oM m2)
 have hset:=h10 H9 rfl
 have hd2:(m:Int).tdiv 2=((m/2:Nat):Int):=KT m 2
 have wd2:IntKind.i64.wrap ((m/2:Nat):Int)=((m/2:Nat):Int):=Gh oM
 refine⟨H10,?_,?_,?_⟩
 ·simp(disch:=first|exact dz|fail) only[simprocAttr,Gc,↓reduceIte,G8,h1,h2,h3,h4,Bool.not_true,Nn Gq hm0,Nn Gq hm1,t4,wb1,w4,Gl8,q2,q3,wm1,hsh,hHb,n2,hwb]
  rw[←hH8]
  rw[hT]at GjZ GjJ GdL
  simp(disch:=first|exact dz|fail) only[simprocAttr,Gc,↓reduceIte,GjZ,GjJ,GdL,GH,hd2,wd2,h9',Ue,hset]
 ·refine⟨by have:=g.len;have:=k9.len;have:=k10.len;omega,fun c hc hn=>?_⟩
  have hc4:c<H4.length:=JH hc g.len
  simp only[GD.all,List.mem_cons,List.not_mem_nil,or_false,not_or]at hn
  rw[WM c hc4 hn.1 hn.2.2.1 hn.2.2.2.2.1 hn.2.2.2.2.2.2.2.1,g.keep c hc fun h=>h]
 ·show PH H10 hb (s.Va m r.toNat d.toNat k.toNat) L
  have hn:(s.Va m r.toNat d.toNat k.toNat).nw=s.nw:=rfl
  refine⟨?_,?_,?_,?_,?_,?_,?_,p.nod⟩
  ·rw[GdL,hT];rfl
  ·exact(WM _ (lt4 _ (by simp[GD.all])) (Ne.symm n1) a1 a3 a6).trans p4.blk
  ·rw[GkB,Gn0]
   congr 2
   have e0:r+16*d+4096*k=((r.toNat+16*d.toNat+4096*k.toNat:Nat):Int):=by omega
   rw[e0]
   refine List.ext_getElem? fun i=>?_
   rw[hn,Lu,Lu,Ke,Ke]
   have hw:=o.Gaw o' e3 i
   have hmm:m+1<s.nw:=by omega
   by_cases hi:i<s.nw
   ·rw[ZG hi]
    simp only[Option.map_some,hw,List.length_set,Wu,List.length_range]
    by_cases c1:m+1=i
    ·subst c1
     rw[if_pos rfl,if_pos hi,if_neg oM,if_pos rfl]
    ·rw[if_neg c1]
     by_cases c2:m=i
     ·subst c2
      rw[if_pos rfl,if_pos hi,if_pos rfl]
     ·rw[if_neg c2,if_neg (fun h=>c2 h.symm),if_neg (fun h=>c1 h.symm)]
   ·rw[En (by simpa using hi),if_neg oM,if_neg oM]
    rfl
  ·rw[Hp.Rx e1]
   have:=s9.frame (H':=H10) (k10.keep _ (by have:=k9.len;have:=lt4 L.sb (by simp[GD.all]);omega) r4) (k10.keep _ (by have:=k9.len;have:=lt4 L.sw (by simp[GD.all]);omega) t3)
   exact this
  ·rw[Hp.XW]
   exact p4.pin.frame (WM _ (lt4 _ (by simp[GD.all])) (Ne.symm n5) (Ne.symm m3) (Ne.symm t1) u2) (WM _ (lt4 _ (by simp[GD.all])) (Ne.symm n6) (Ne.symm m4) (Ne.symm t2) v1)
  ·obtain⟨l,x1,x2,x3⟩:=m10
   exact⟨l,x1,x2,fun k v=>(x3 k v).trans (Hp.Gc_ k v).symm⟩
  ·exact p4.fwd.frame (WM _ (lt4 _ (by simp[GD.all])) (Ne.symm n8) (Ne.symm m6) (Ne.symm t5) (Ne.symm v3))
end
end Go.Cs.Tryz
namespace Go.Cs.Tryz
open Go Go.Cs A
def Gmz:Gm:=⟨20,0,T [nb 4 false] (Q [m 5 0,q1 6 95 5,m 7 6,gt 7 (m 8 1),gt 7 (bk 9 .geq 8 1),an 10 7 9,m 11 10,gt 11 (m 12 1),gt 11 (m 13 0),gt 11 (z 14 13),gt 11 (f 15 0 14),gt 11 (l 16 1 15),gt 11 (le 17 16),gt 11 (b 18 .lss 12 17),an 19 11 18,m 4 19]),[r 4]⟩
theorem GmR:P 285=some Gmz:=by kernel_rfl
def GqM:Gm:=⟨9,0,T [nb 2 false] (Q [m 3 0,bk 4 .geq 3 0,m 5 4,gt 5 (m 6 0),gt 5 (bk 7 .lss 6 8),an 8 5 7,m 2 8]),[r 2]⟩
theorem Gnf:P 286=some GqM:=by kernel_rfl
def Go5:Gm:=⟨9,0,T [nb 4 false] (Q [m 5 0,m 6 1,q2 7 309 5 6,bk 8 .geq 7 0,m 4 8]),[r 4]⟩
theorem Gru:P 287=some Go5:=by kernel_rfl
def BJ:Gu:=T [b 9 .lss 8 7] (S (J 9 (X 0)) (S (B 1 (T [m 10 8,m 5 10] (T [m 11 1,m 12 0,m 13 5,x 14 2 12 13,lg 15 2 14,e 16 (.Nz (t 11) [t 15] [(304,"dustcart/alloc.place",335),(305,"dustcart/alloc.place",340),(306,"dustcart/alloc.place",348),(307,"dustcart/alloc.place",349),(308,"dustcart/alloc.place",353)])] (I 16 (Q [m 17 5,m 4 17]))))) (R [bk 18 .add 8 1,m 8 18])))
def Gnl:Gm:=⟨19,0,T [n 4 0] (S (T [m 6 0,le 7 6,n 8 0] (B 0 (W BJ))) (Q [n 4 (-1)])),[r 4]⟩
theorem Gm_:P 309=some Gnl:=by kernel_rfl
end Go.Cs.Tryz
namespace Go.Cs.Tryz
open Go Go.Cs
section
variable {H : Gb} {v : CV}
theorem Gk1{H H':Gb}{v:CV}{e:Nat}{rs:List (List CV)}(h:Sl H v e rs)(g:Gr H H'):Sl H' v e rs:=h.mono fun b k hb _ _=>g.get hb
theorem GjK{l:List (List CV)}(hs:Sl H v 2 l){fn:Nat}(hfn:fn<1000000){caps:List CV}{p:List CV→Bool}
  (hp:∀r∈l,∀H',Gr H H'→∃Eo,run P fn (.agg r::caps) H'=some (.bool (p r),Eo)∧Gr H' Eo)(hl:l.length≤1000000)
  {E0:Env}(h0:E0 0=v)(h1:E0 1=.func fn caps)(h7:E0 7=.i l.length)(h8:E0 8=.i 0){r:Option (CX×Env×Gb)}(hr:den P (.loop BJ) E0 H=r):
  ∃x E' H',r=some (x,E',H')∧Gr H H'∧((x=.ret∧E' 4=.i (KJ p l 0))∨(x=.exit 0∧KJ p l 0= -1)):=by
 obtain⟨x',E',H',e,-,⟨g,h⟩,fr⟩:=Gy (p:=P) (c:=BJ) (E0:=E0) (H0:=H) (fun k E H'=>Gr H H'∧∃j:Nat,E 8=.i j∧j≤l.length∧k=l.length-j∧KJ p (l.drop j) j=KJ p l 0)
  (fun x E' H'=>Gr H H'∧((x=.ret∧E' 4=.i (KJ p l 0))∨(x=.exit 0∧KJ p l 0= -1))) (by
   rintro k E H' hE ⟨g,j,e8,hj,rfl,hd⟩
   have e0:=(hE 0 dK).trans h0
   have e1:=(hE 1 dK).trans h1
   have e7:=(hE 7 dK).trans h7
   by_cases c:j<l.length
   ·have hx:l[j]?=some l[j]:=J9 c
    obtain⟨b,o,q1,q2⟩:=Sl.atN (Gk1 hs g) oM hx
    obtain⟨H2,hq,g2⟩:=hp l[j] (List.getElem_mem c) H' g
    have q3:Pv true 2 H' (.ptr b o)=some (.agg l[j],H'):=by rw[GaT,JV,q2];rfl
    rw[drop_cons hx]at hd
    simp only[KJ]at hd
    by_cases hf:p l[j]=true
    ·rw[if_pos hf]at hd
     rw[hf]at hq
     apply Gl (x:=.ret)
     ·simp(disch:=first|exact dz|fail) only[simprocAttr,Gc,↓reduceIte,BJ,e0,e1,e7,e8,c,q1,q3,Jd,JF hfn,hq]
      rfl
     ·simp
     ·exact⟨g.trans g2,.inl ⟨rfl,by rw[←hd];simp[Gg]⟩⟩
    ·rw[if_neg hf]at hd
     have hf':p l[j]=false:=by simpa using hf
     rw[hf']at hq
     have hw:IntKind.i64.wrap ((j:Int)+1)=((j+1:Nat):Int):=Gh oM
     apply Gt (k':=l.length-(j+1))
     ·simp(disch:=first|exact dz|fail) only[simprocAttr,Gc,↓reduceIte,BJ,e0,e1,e7,e8,c,q1,q3,Jd,JF hfn,hq,hw]
      rfl
     ·omega
     ·exact⟨g.trans g2,j+1,uA,oM,rfl,by rw[←hd];push_cast;rfl⟩
   ·have hk:l.drop j=[]:=List.drop_eq_nil_of_le oM
    rw[hk]at hd
    simp only[KJ]at hd
    apply Gl (x:=.exit 0)
    ·simp(disch:=first|exact dz|fail) only[simprocAttr,Gc,↓reduceIte,BJ,e0,e1,e7,e8,c]
     rfl
    ·simp
    ·exact⟨g,.inr ⟨rfl,hd.symm⟩⟩) l.length ⟨Keeps.refl _ _,0,h8,oM,rfl,rfl⟩
 exact⟨x',E',H',hr.symm.trans e,g,h⟩
theorem Ia{l:List (List CV)}(hs:Sl H v 2 l){fn:Nat}(hfn:fn<1000000){caps:List CV}{p:List CV→Bool}
  (hp:∀r∈l,∀H',Gr H H'→∃Eo,run P fn (.agg r::caps) H'=some (.bool (p r),Eo)∧Gr H' Eo)(hl:l.length≤1000000):
  ∃H',run P 287 [v,.func fn caps] H=some (.bool (l.any p),H')∧Gr H H':=by
 have hi:∃H',run P 309 [v,.func fn caps] H=some (.i (KJ p l 0),H')∧Gr H H':=by
  have hlen:=Sl.len hs H
  rw[Gi Gm_ _ _ sM]
  simp(disch:=first|exact dz|fail) only[simprocAttr,Gc,↓reduceIte,Gj,hlen]
  generalize hr:den P (.loop BJ) _ _=r
  obtain⟨x,E',H',rfl,g,hq⟩:=GjK hs hfn hp hl uA uA uA uA hr
  refine⟨H',?_,g⟩
  rcases hq with⟨rfl,h1⟩|⟨rfl,h1⟩
  ·simp(disch:=first|exact dz|fail) only[simprocAttr,Gc,↓reduceIte,h1]
  ·simp(disch:=first|exact dz|fail) only[simprocAttr,Gc,↓reduceIte,h1]
 obtain⟨H',h,g⟩:=hi
 have hd:=DZ p l 0 oM
 refine⟨H',?_,g⟩
 rw[Gi Gru _ _ sM]
 simp(disch:=first|exact dz|fail) only[simprocAttr,Gc,↓reduceIte,Gj,h,hd]
theorem Oi{hb:Nat}{s:Hp}{L:GD}(p:PH H hb s L)(k:s.Ok)(b:Int):run P 285 [.ptr hb 0,.i b] H=some (.bool (decide (1≤b)&&decide (b<(s.blk.length:Int))),H):=by
 have h1:=Nj p k
 have pt:=p.top
 rw[Gi GmR _ _ sM]
 by_cases c:1≤b
 ·simp(disch:=first|exact dz|fail) only[simprocAttr,Gc,↓reduceIte,Gj,h1,pt,c,KA,decide_true,Bool.true_and]
 ·simp(disch:=first|exact dz|fail) only[simprocAttr,Gc,↓reduceIte,Gj,h1,pt,c,decide_false,Bool.false_and]
theorem Tz(n:Int):run P 286 [.i n] H=some (.bool (decide (0≤n)&&decide (n<8)),H):=by
 rw[Gi Gnf _ _ sM]
 by_cases c:0≤n
 ·simp(disch:=first|exact dz|fail) only[simprocAttr,Gc,↓reduceIte,Gv,c,decide_true,Bool.true_and]
 ·simp(disch:=first|exact dz|fail) only[simprocAttr,Gc,↓reduceIte,Gv,c,decide_false,Bool.false_and]
end
end Go.Cs.Tryz
namespace Go.Cs.Tryz
open Go Go.Cs A
def Gqx:Gm:=⟨17,0,T [n 8 0] (Q [m 9 0,m 10 1,m 11 2,m 12 3,e 13 (.build [i 0,i 0] [(0,1,k 2),(1,1,t 12)]),m 14 3,e 15 (.build [i 0,i 0] [(0,1,k 3),(1,1,t 14)]),q5 16 239 9 10 11 13 15,m 8 16]),[r 8]⟩
theorem GoT:P 147=some Gqx:=by kernel_rfl
def GnB:Gm:=⟨13,0,T [n 6 0] (Q [m 7 0,m 8 1,m 9 2,e 10 (.build [i 0,i 0] [(0,1,k 1),(1,1,t 9)]),e 11 (.build [i 0,i 0] []),ca 12 239 [t 7,t 8,k 1,t 10,t 11],m 6 12]),[r 6]⟩
theorem GqD:P 149=some GnB:=by kernel_rfl
def Bl:Gu:=T [b 55 .lss 54 53] (S (J 55 (X 1)) (S (B 2 (T [m 56 54,m 11 56] (D [⟨m 57 0,0,0,0⟩,⟨z 58 57,1,0,0⟩,⟨f 59 0 58,2,0,0⟩,⟨l 60 1 59,3,1,0⟩,⟨m 61 1,4,0,0⟩,⟨m 62 11,5,0,0⟩,⟨b 63 .add 61 62,6,0,0⟩,⟨lg 64 2 9,7,1,0⟩,⟨x 65 2 60 63,8,0,0⟩,⟨st 2 65 64,9,3,0⟩]))) (R [bk 66 .add 54 1,m 54 66])))
def Gne:Gm:=⟨74,0,T [bo 8 3,bo 9 4,n 10 0] (S (B 0 (T [m 13 0,q1 14 95 13,no 15 14,m 12 15] (C 12 (Q [n 10 5]) (T [m 17 0,m 18 1,q2 19 285 17 18,no 20 19,m 21 20,gf 21 (m 22 2),gf 21 (bk 23 .lss 22 1),or 24 21 23,m 25 24,gf 25 (m 26 2),gf 25 (m 27 0),gf 25 (z 28 27),gf 25 (f 29 0 28),gf 25 (l 30 1 29),gf 25 (le 31 30),gf 25 (m 32 1),gf 25 (b 33 .sub 31 32),gf 25 (b 34 .gtr 26 33),or 35 25 34,m 36 35,gf 36 (f 37 1 8),gf 36 (l 38 1 37),gf 36 (q1 39 286 38),gf 36 (no 40 39),or 41 36 40,m 16 41] (C 16 (Q [n 10 1]) (T [m 43 0,z 44 43,f 45 0 44,l 46 1 45,m 47 1,m 48 1,m 49 2,b 50 .add 48 49,e 51 (.slice 2 (t 46) (some (t 47)) (some (t 50)) none),ca 52 287 [t 51,c (.func 288 [])],m 42 52] (I 42 (Q [n 10 8])))))))) (S (T [m 53 2,n 54 0] (B 1 (W Bl))) (S (D [⟨m 67 0,0,0,0⟩,⟨z 68 67,1,0,0⟩,⟨f 69 0 68,2,0,0⟩,⟨l 70 1 69,3,1,0⟩,⟨m 71 1,4,0,0⟩,⟨lg 72 2 8,5,1,0⟩,⟨x 73 2 70 71,6,0,0⟩,⟨st 2 73 72,7,3,0⟩]) (Q [n 10 0])))),[r 10]⟩
theorem GmS:P 239=some Gne:=by kernel_rfl
def Gm5:Gm:=⟨6,0,T [bo 1 0,nb 2 false] (Q [lg 3 2 1,e 4 (.build [i 0,i 0] []),e 5 (.eqs true 2 (t 3) (t 4)),m 2 5]),[r 2]⟩
theorem Gqq:P 288=some Gm5:=by kernel_rfl
end Go.Cs.Tryz
namespace Go.Cs
open Go
theorem Yl:∀(l:List (Nat×Nat))(b:Nat)(x:Nat×Nat),b<l.length→splice (G6 l) (b*2) [.i x.1,.i x.2]=G6 (l.set b x)
 |y::l,0,x,_=>by simp[splice,G6]
 |y::l,b+1,x,h=>by
  have ih:=Yl l b x (by simpa using h)
  have e:G6 (y::l)=.i y.1::.i y.2::G6 l:=rfl
  have e2:G6 ((y::l).set (b+1) x)=.i y.1::.i y.2::G6 (l.set b x):=rfl
  rw[e,e2,←ih]
  have e3:(b+1)*2=b*2+1+1:=by omega
  rw[e3]
  simp[splice,List.take_succ_cons,List.drop_succ_cons,Nat.add_right_comm]
def Kz(l:List (Nat×Nat))(b:Nat)(m:Nat×Nat):Nat→List (Nat×Nat)
 |0=>l
 |k+1=>(Kz l b m k).set (b+k) m
theorem UJ(l:List (Nat×Nat))(b:Nat)(m:Nat×Nat)(k:Nat):(Kz l b m k).length=l.length:=by
 induction k with
 |zero=>rfl
 |succ k ih=>simp[Kz,ih]
theorem PH.Gbx{H H':Gb}{hb:Nat}{s:Hp}{L:GD}(p:PH H hb s L){l:List (Nat×Nat)}(hl:l.length=s.blk.length)(hw:H'[L.bb]?=some ⟨G6 l,.rw,2⟩) (hk:∀c∈L.all hb,c≠L.bb→H'[c]?=H[c]?):PH H' hb {s with blk:=l} L:=by
 have nd:=p.nod
 simp only[GD.all,List.nodup_cons,List.mem_cons,List.not_mem_nil,or_false,not_or]at nd
 obtain⟨⟨n1,-⟩,⟨a1,a2,a3,a4,a5,a6,a7⟩,-⟩:=nd
 have hn:({s with blk:=l}:Hp).nw=s.nw:=by unfold Hp.nw;rw[hl]
 refine⟨?_,hw,?_,?_,?_,?_,?_,p.nod⟩
 ·rw[hk _ (by simp[GD.all]) n1,p.top,hn];simp only[hl]
 ·rw[hk _ (by simp[GD.all]) (Ne.symm a1),p.wrd,hn];rfl
 ·show Side H' L.sb L.sw (32*l.length) s.starts
  rw[hl];exact p.sta.frame (hk _ (by simp[GD.all]) (Ne.symm a2)) (hk _ (by simp[GD.all]) (Ne.symm a3))
 ·show Side H' L.pb L.pw (32*l.length) s.pins
  rw[hl];exact p.pin.frame (hk _ (by simp[GD.all]) (Ne.symm a4)) (hk _ (by simp[GD.all]) (Ne.symm a5))
 ·exact p.Qg.frame (hk _ (by simp[GD.all]) (Ne.symm a6))
 ·exact p.fwd.frame (hk _ (by simp[GD.all]) (Ne.symm a7))
def Hp.claim(s:Hp)(b n:Int)(fst:Nat)(sp:Int)(Ed:Nat)(Dj:Int):Hp×Int:=
 if 1≤b∧b<(s.blk.length:Int)∧1≤n∧n≤(s.blk.length:Int)-b∧0≤sp∧sp<8 then
  if((s.blk.drop b.toNat).take n.toNat).any (fun x=>x.1 != 0||x.2 != 0)=true then(s,8)
  else({s with blk:=(Kz s.blk b.toNat (Ed,Dj.toNat) n.toNat).set b.toNat (fst,sp.toNat)},0)
 else(s,1)
theorem PH.IX{H:Gb}{hb:Nat}{s:Hp}{L:GD}(p:PH H hb s L){b:Nat}{x:Nat×Nat}(h:b<s.blk.length):
  OT H L.bb H[L.bb]? (b*2) [.i x.1,.i x.2]=some (H.set L.bb ⟨G6 (s.blk.set b x),.rw,2⟩)∧PH (H.set L.bb ⟨G6 (s.blk.set b x),.rw,2⟩) hb {s with blk:=s.blk.set b x} L:=by
 refine⟨?_,p.Gbx sM (by rw[KI (Gd p.blk)]) fun c _ hc=>by rw[JU (Ne.symm hc)]⟩
 rw[p.blk,GV (by rw[KE];simp;omega) rfl,Yl _ _ _ h]
end Go.Cs
namespace Go.Cs.Tryz
open Go Go.Cs
section
variable {H : Gb} {hb : Nat} {s : Hp} {L : GD}
theorem GhC(p:PH H hb s L)(k:s.Ok){b n:Nat}(hbn:b+n≤s.blk.length){m:Nat×Nat}{c9:Nat}(h9:H[c9]?=some ⟨[.i m.1,.i m.2],.rw,0⟩) (hc9:c9∉L.all hb)
  {E0:Env} (h0:E0 0=.ptr hb 0) (h1:E0 1=.i b) (e9:E0 9=.ptr c9 0) (h53:E0 53=.i n) (h54:E0 54=.i 0) {r:Option (CX×Env×Gb)} (hr:den P (.loop Bl) E0 H=r):
  ∃E' H',r=some (.exit 1,E',H')∧Keeps H H' (·=L.bb)∧PH H' hb {s with blk:=Kz s.blk b m n} L∧∀t,t∉wr Bl→E' t=E0 t:=by
 have hnb:=k.nb
 have hbb:c9≠L.bb:=fun e=>hc9 (by rw[e];simp[GD.all])
 obtain⟨x',E',H',e,-,⟨rfl,g,hf⟩,fr⟩:=Gy (p:=P) (c:=Bl) (E0:=E0) (H0:=H)
  (fun q E H'=>Keeps H H' (·=L.bb)∧∃j:Nat,E 54=.i j∧j≤n∧q=n-j∧PH H' hb {s with blk:=Kz s.blk b m j} L)
  (fun x E' H'=>x=.exit 1∧Keeps H H' (·=L.bb)∧PH H' hb {s with blk:=Kz s.blk b m n} L) (by
   rintro q E H' hE ⟨g,j,e54,hj,rfl,pj⟩
   have e0:=(hE 0 dK).trans h0
   have e1:=(hE 1 dK).trans h1
   have e9':=(hE 9 dK).trans e9
   have e53:=(hE 53 dK).trans h53
   have pt:=pj.top
   have hl:=UJ s.blk b m j
   have h9':H'[c9]?=some ⟨[.i m.1,.i m.2],.rw,0⟩:=by rw[g.keep c9 (Gd h9) hbb,h9]
   dsimp only at pt
   rw[hl]at pt
   by_cases c:j<n
   ·have c':decide ((j:Int)<(n:Int))=true:=GK oM
    have w1:IntKind.i64.wrap ((b:Int)+(j:Int))=((b+j:Nat):Int):=Gh oM
    have w2:IntKind.i64.wrap ((j:Int)+1)=((j+1:Nat):Int):=Gh oM
    have q2:(0:Int)≤((b+j:Nat):Int)∧((b+j:Nat):Int)<(s.blk.length:Int):=by omega
    obtain⟨st,pn⟩:=pj.IX (b:=b+j) (x:=m) (by dsimp only;rw[hl];omega)
    apply Gt (k':=n-(j+1))
    ·simp(disch:=first|exact dz|fail) only[simprocAttr,Gc,↓reduceIte,Bl,e0,e1,e9',e53,e54,c',pt,w1,w2,q2,h9',st]
     rfl
    ·omega
    ·exact⟨g.set (.inl rfl) _,j+1,uA,oM,rfl,pn⟩
   ·have c':decide ((j:Int)<(n:Int))=false:=GC oM
    have ej:j=n:=by omega
    subst ej
    apply Gl (x:=.exit 1)
    ·simp(disch:=first|exact dz|fail) only[simprocAttr,Gc,↓reduceIte,Bl,e53,e54,c']
     rfl
    ·simp
    ·exact⟨rfl,g,pj⟩) _ ⟨Keeps.refl _ _,0,by rw[h54];rfl,oM,rfl,p⟩
 exact⟨E',H',hr.symm.trans e,g,hf,fr⟩
theorem GdS(x:Nat×Nat):∃H',run P 288 [.agg [.i x.1,.i x.2]] H=some (.bool (x.1 != 0||x.2 != 0),H')∧Gr H H':=by
 refine⟨H++[⟨[.i x.1,.i x.2],.rw,0⟩],?_,Gr.app H _⟩
 rw[Gi Gqq _ _ sM]
 have e:OE true 2 (.agg [.i x.1,.i x.2]) (.agg [.i 0,.i 0]) (H++[⟨[.i x.1,.i x.2],.rw,0⟩])=some (.bool (x.1 != 0||x.2 != 0),H++[⟨[.i x.1,.i x.2],.rw,0⟩]):=by
  obtain⟨a,b⟩:=x
  have e1:∀n:Nat,((n:Int)==0)=!(n != 0):=fun n=>by rw[Bool.eq_iff_iff];simp
  simp only[OE,Nv,List.length_cons,List.length_nil,if_true,Option.map_some,e1,Bool.and_true]
  cases (a != 0)<;>cases (b != 0)<;>rfl
 simp(disch:=first|exact dz|fail) only[simprocAttr,Gc,↓reduceIte,Gv,fill,splice,and_self,e]
theorem Gcu(p:PH H hb s L){b n:Nat}(h:b+n≤s.blk.length):∃v,NZ 2 (.slice L.bb 0 s.blk.length s.blk.length 2 false) (some (.i b)) (some (.i ((b+n:Nat):Int))) none=some v∧Sl H v 2 (((s.blk.drop b).take n).map fun x=>[.i x.1,.i x.2]):=by
 have h1:(b:Int)≤((b+n:Nat):Int):=by omega
 have h2:((b+n:Nat):Int)≤(s.blk.length:Int):=by omega
 have hs:NZ 2 (.slice L.bb 0 s.blk.length s.blk.length 2 false) (some (.i b)) (some (.i ((b+n:Nat):Int))) none=some (.slice L.bb (0+b*2) (b+n-b) (s.blk.length-b) 2 (false&&(none:Option CV).isNone)):=by
  simp only[NZ,Qm,Vw,ED,Option.isSome_none,Bool.false_eq_true,false_and,if_false,Option.bind_some]
  have c1:(0:Int)≤((b+n:Nat):Int)∧((b+n:Nat):Int)≤(s.blk.length:Int):=by omega
  have c2:(0:Int)≤(b:Int)∧(b:Int)≤((((b+n:Nat):Int).toNat:Nat):Int):=by omega
  rw[if_pos c1,Option.bind_some,if_pos c2]
  simp
  omega
 refine⟨_,hs,?_⟩
 have e:b+n-b=(((s.blk.drop b).take n).map fun x=>[CV.i x.1,CV.i x.2]).length:=by simp;omega
 refine .inr ⟨L.bb,0+b*2,s.blk.length-b,_,_,by rw[e],p.blk,.inl rfl,fun i r hi=>?_⟩
 rw[Ke,GR]at hi
 obtain⟨x,hx,rfl⟩:=hi
 have hin:i<n:=by have:=Gd hx;simp at this;omega
 rw[Ze,if_pos hin,Yo]at hx
 obtain⟨q1,q2⟩:=Kr s.blk (b+i) x hx
 refine⟨?_,rfl⟩
 dsimp only
 have e2:0+b*2+i*2=(b+i)*2:=by omega
 rw[e2,drop_cons q1,drop_cons q2]
 rfl
def pB:List CV→Bool
 |[.int _ a,.int _ b]=>a != 0||b != 0
 |_=>false
theorem IK(p:PH H hb s L)(k:s.Ok)(b n:Int)(fst:Nat)(sp:Int)(Ed:Nat)(Dj:Int)(hm:Dj=0∨Dj=sp):
  Did H hb L (s.claim b n fst sp Ed Dj).1 (.i (s.claim b n fst sp Ed Dj).2) (run P 239 [.ptr hb 0,.i b,.i n,.agg [.i fst,.i sp],.agg [.i Ed,.i Dj]] H):=by
 have p2:=(p.app [⟨[.i fst,.i sp],.rw,0⟩]).app [⟨[.i Ed,.i Dj],.rw,0⟩]
 have g2:Gr H (H++[⟨[.i fst,.i sp],.rw,0⟩]++[⟨[.i Ed,.i Dj],.rw,0⟩]):=(Gr.app H _).app' _
 have kg:Keeps H (H++[⟨[.i fst,.i sp],.rw,0⟩]++[⟨[.i Ed,.i Dj],.rw,0⟩]) (·∈L.all hb):=g2.weaken fun _ h=>h.elim
 have h1:=Nj p2 k
 have h2:=Oi p2 k b
 have h3:=Tz (H:=H++[⟨[.i fst,.i sp],.rw,0⟩]++[⟨[.i Ed,.i Dj],.rw,0⟩]) sp
 have pt:=p2.top
 have hnb:=k.nb
 unfold Hp.claim
 rw[Gi GmS _ _ sM]
 by_cases c1:1≤b∧b<(s.blk.length:Int)
 rotate_left
 ·have e:(decide (1≤b)&&decide (b<(s.blk.length:Int)))=false:=by simp;omega
  rw[e]at h2
  rw[if_neg oM]
  refine⟨_,?_,kg,p2⟩
  simp(disch:=first|exact dz|fail) only[simprocAttr,Gc,↓reduceIte,Vr,h1,h2,Bool.not_true,Bool.not_false]
 have e1:(decide (1≤b)&&decide (b<(s.blk.length:Int)))=true:=by simp;omega
 rw[e1]at h2
 by_cases c2:n<1
 ·rw[if_neg oM]
  refine⟨_,?_,kg,p2⟩
  simp(disch:=first|exact dz|fail) only[simprocAttr,Gc,↓reduceIte,Vr,h1,h2,Bool.not_true,Bool.not_false,c2,decide_true]
 have w1:IntKind.i64.wrap ((s.blk.length:Int)-b)=(s.blk.length:Int)-b:=Gh oM
 by_cases c3:(s.blk.length:Int)-b<n
 ·rw[if_neg oM]
  refine⟨_,?_,kg,p2⟩
  simp(disch:=first|exact dz|fail) only[simprocAttr,Gc,↓reduceIte,Vr,h1,h2,pt,Bool.not_true,Bool.not_false,c2,c3,w1,KA,decide_true,decide_false]
 by_cases c4:0≤sp∧sp<8
 rotate_left
 ·have e:(decide (0≤sp)&&decide (sp<8))=false:=by simp;omega
  rw[e]at h3
  rw[if_neg oM]
  refine⟨_,?_,kg,p2⟩
  simp(disch:=first|exact dz|fail) only[simprocAttr,Gc,↓reduceIte,Vr,h1,h2,h3,pt,Bool.not_true,Bool.not_false,c2,c3,w1,KA,decide_false]
 have e4:(decide (0≤sp)&&decide (sp<8))=true:=by simp;omega
 rw[e4]at h3
 rw[if_pos oM]
 obtain⟨b,rfl⟩:∃q:Nat,b=q:=⟨b.toNat,oM⟩
 obtain⟨n,rfl⟩:∃q:Nat,n=q:=⟨n.toNat,oM⟩
 obtain⟨sp,rfl⟩:∃q:Nat,sp=q:=⟨sp.toNat,oM⟩
 obtain⟨mp,rfl⟩:∃q:Nat,Dj=q:=⟨Dj.toNat,oM⟩
 simp only[K6]
 obtain⟨v,hv,hs⟩:=Gcu p2 (b:=b) (n:=n) oM
 obtain⟨H4,h4,g4⟩:=Ia hs (fn:=288) oM (caps:=[]) (p:=pB) (fun r hr H' _=>by
  rw[YX]at hr
  obtain⟨x,-,rfl⟩:=hr
  obtain⟨Eo,q1,q2⟩:=GdS (H:=H') x
  refine⟨Eo,?_,q2⟩
  have e1:∀n:Nat,((n:Int) != 0)=(n != 0):=fun n=>by rw[Bool.eq_iff_iff];simp
  simp only[pB,e1]
  exact q1) (by simp;omega)
 have ea:((((s.blk.drop b).take n).map fun x=>[CV.i (x.1:Int),CV.i (x.2:Int)]).any pB)=((s.blk.drop b).take n).any (fun x=>x.1 != 0||x.2 != 0):=by
  have e1:∀n:Nat,((n:Int) != 0)=(n != 0):=fun n=>by rw[Bool.eq_iff_iff];simp
  rw[List.any_map]
  simp only[Function.comp_def,pB,e1]
 rw[ea]at h4
 have p4:=p2.gr g4
 have k4:Keeps H H4 (·∈L.all hb):=kg.trans (g4.weaken fun _ h=>h.elim)
 have w2:IntKind.i64.wrap ((b:Int)+(n:Int))=((b+n:Nat):Int):=Gh oM
 have lt:=p.lt
 by_cases ca:((s.blk.drop b).take n).any (fun x=>x.1 != 0||x.2 != 0)=true
 ·rw[if_pos ca]
  rw[ca]at h4
  refine⟨H4,?_,k4,p4⟩
  simp(disch:=first|exact dz|fail) only[simprocAttr,Gc,↓reduceIte,Vr,h1,h2,h3,pt,Bool.not_true,Bool.not_false,c2,c3,w1,w2,KA,decide_false,hv,h4]
 rw[if_neg ca]
 have R6:((s.blk.drop b).take n).any (fun x=>x.1 != 0||x.2 != 0)=false:=by simpa using ca
 rw[R6]at h4
 have b8:H4[H.length]?=some ⟨[.i (fst:Int),.i (sp:Int)],.rw,0⟩:=g4.get sM
 have b9:H4[H.length+1]?=some ⟨[.i (Ed:Int),.i (mp:Int)],.rw,0⟩:=g4.get sM
 have hc8:H.length∉L.all hb:=fun h=>by have:=lt _ h;omega
 have hc9:H.length+1∉L.all hb:=fun h=>by have:=lt _ h;omega
 simp(disch:=first|exact dz|fail) only[simprocAttr,Gc,↓reduceIte,Vr,h1,h2,h3,pt,Bool.not_true,Bool.not_false,c2,c3,w1,w2,KA,decide_false,hv,h4]
 generalize hr:den P (.loop Bl) _ _=r
 obtain⟨E',H5,rfl,k5,p5,fr⟩:=GhC p4 k (b:=b) (n:=n) oM (m:=(Ed,mp)) b9 hc9 uA uA uA uA uA hr
 have f0:=fr 0 dK
 have f1:=fr 1 dK
 have f8:=fr 8 dK
 simp only[Gg,Nat.reduceEqDiff,↓reduceIte]at f0 f1 f8
 have hbb:L.bb∈L.all hb:=by simp[GD.all]
 have b8':H5[H.length]?=some ⟨[.i (fst:Int),.i (sp:Int)],.rw,0⟩:=by rw[k5.keep _ (Gd b8) (fun e=>hc8 (by rw[e];exact hbb)),b8]
 have hl:=UJ s.blk b (Ed,mp) n
 have pt5:=p5.top
 dsimp only at pt5
 rw[hl]at pt5
 obtain⟨st,pn⟩:=p5.IX (b:=b) (x:=(fst,sp)) (by dsimp only;rw[hl];omega)
 have q2:(0:Int)≤(b:Int)∧(b:Int)<(s.blk.length:Int):=by omega
 refine⟨_,?_,(k4.trans (k5.weaken fun c hc=>by rw[hc];exact hbb)).set (.inl hbb) _,pn⟩
 simp(disch:=first|exact dz|fail) only[simprocAttr,Gc,↓reduceIte,f0,f1,f8,pt5,q2,b8',st]
theorem Ms(p:PH H hb s L)(k:s.Ok)(b sp:Int):Did H hb L (s.claim b 1 1 sp 0 0).1 (.i (s.claim b 1 1 sp 0 0).2) (run P 149 [.ptr hb 0,.i b,.i sp] H):=by
 obtain⟨H',h1,h2,h3⟩:=IK p k b 1 1 sp 0 0 (.inl rfl)
 have h1':run P 239 [.ptr hb 0,.i b,.int .i64 1,.agg [.int .i64 1,.i sp],.agg [.int .i64 0,.int .i64 0]] H=some (.i (s.claim b 1 1 sp 0 0).2,H'):=h1
 refine⟨H',?_,h2,h3⟩
 rw[Gi GqD _ _ sM]
 simp(disch:=first|exact dz|fail) only[simprocAttr,Gc,↓reduceIte,G8,fill,splice,and_self,h1']
theorem Hy(p:PH H hb s L)(k:s.Ok)(b n sp:Int):Did H hb L (s.claim b n 2 sp 3 sp).1 (.i (s.claim b n 2 sp 3 sp).2) (run P 147 [.ptr hb 0,.i b,.i n,.i sp] H):=by
 obtain⟨H',h1,h2,h3⟩:=IK p k b n 2 sp 3 sp (.inr rfl)
 have h1':run P 239 [.ptr hb 0,.i b,.i n,.agg [.int .i64 2,.i sp],.agg [.int .i64 3,.i sp]] H=some (.i (s.claim b n 2 sp 3 sp).2,H'):=h1
 refine⟨H',?_,h2,h3⟩
 rw[Gi GoT _ _ sM]
 simp(disch:=first|exact dz|fail) only[simprocAttr,Gc,↓reduceIte,GJ,fill,splice,and_self,h1']
end
end Go.Cs.Tryz
namespace Go.Cs
open Go
def Hp.without(s:Hp)(a:Nat):Hp:={s with objs:=s.objs.filter fun x=>x.addr != a}
def Hp.kill(s:Hp)(a:Int):Hp×Int:=match s.obj a with
 |some o=>(s.without o.addr,0)
 |none=>(s,4)
section
variable {s : Hp}
theorem Hp.J5{a:Nat}{x:Ob}:x∈(s.without a).objs↔x∈s.objs∧x.addr≠a:=by
 simp[Hp.without,List.mem_filter]
theorem Hp.Ok.without(k:s.Ok)(a:Nat):(s.without a).Ok where
 nb:=k.nb
 st:=k.st
 ob:=fun x hx=>k.ob x (Hp.J5.1 hx).1
 apart:=k.apart.filter _
 ids:=k.ids.filter _
 born:=k.born
theorem Hp.Ok.kill(k:s.Ok)(a:Int):(s.kill a).1.Ok:=by
 unfold Hp.kill
 cases s.obj a with
 |none=>exact k
 |some o=>exact k.without _
theorem Hp.Ok.Rp(k:s.Ok){o:Ob}(ho:o∈s.objs)(w:Nat):(s.without o.addr).word w=if o.addr≤w∧w<o.addr+o.size then 0 else s.word w:=by
 have k':=k.without o.addr
 have GlU:(∀x∈(s.without o.addr).objs,¬(x.addr≤w∧w<x.addr+x.size))→(s.without o.addr).word w=0:=fun h=>by
  have:(s.without o.addr).owner w=none:=by
   unfold Hp.owner
   rw[List.find?_eq_none]
   intro x hx;simpa using h x hx
  unfold Hp.word
  rw[this]
 by_cases c:o.addr≤w∧w<o.addr+o.size
 ·rw[if_pos c]
  refine GlU fun x hx hh=>?_
  obtain⟨h1,h2⟩:=Hp.J5.1 hx
  exact h2 (by rw[k.same h1 ho (w:=w) hh c])
 ·rw[if_neg c]
  cases hw:s.owner w with
  |none=>
   rw[GlU]
   ·unfold Hp.word;rw[hw]
   ·intro x hx hh
    unfold Hp.owner at hw
    rw[List.find?_eq_none]at hw
    exact hw x (Hp.J5.1 hx).1 (by simpa using hh)
  |some x=>
   have hx:=List.mem_of_find?_eq_some hw
   have hp:=OL hw
   simp only[decide_eq_true_eq]at hp
   have hne:x.addr≠o.addr:=fun e=>by
    have h1:=x.size_pos
    have h2:=o.size_pos
    have:=k.same hx ho (w:=o.addr) oM oM
    rw[this]at hp;exact c hp
   have q1:=k.word hx (k:=w-x.addr) oM
   have q2:=k'.word (Hp.J5.2 ⟨hx,hne⟩) (k:=w-x.addr) oM
   have e:x.addr+(w-x.addr)=w:=by omega
   rw[e]at q1 q2
   rw[q1,q2]
theorem Hp.Ok.Li(k:s.Ok){o:Ob}(ho:o∈s.objs):(s.without o.addr).starts=fun i=>if i=o.addr/2 then false else s.starts i:=by
 have he:=(k.ob o ho).even
 funext i
 rw[Bool.eq_iff_iff]
 unfold Hp.starts
 rw[List.any_eq_true]
 by_cases c:i=o.addr/2
 ·rw[if_pos c]
  constructor
  ·rintro ⟨x,hx,h⟩
   obtain⟨h1,h2⟩:=Hp.J5.1 hx
   have:x.addr=2*i:=by simpa using h
   omega
  ·intro h;cases h
 ·rw[if_neg c,List.any_eq_true]
  constructor
  ·rintro ⟨x,hx,h⟩
   exact⟨x,(Hp.J5.1 hx).1,h⟩
  ·rintro ⟨x,hx,h⟩
   have:x.addr=2*i:=by simpa using h
   exact⟨x,Hp.J5.2 ⟨hx,oM⟩,h⟩
theorem Hp.Ok.RA(k:s.Ok){o:Ob}(ho:o∈s.objs):(s.without o.addr).pins=fun i=>if i=o.addr/2 then false else s.pins i:=by
 have he:=(k.ob o ho).even
 funext i
 rw[Bool.eq_iff_iff]
 unfold Hp.pins
 rw[List.any_eq_true]
 by_cases c:i=o.addr/2
 ·rw[if_pos c]
  constructor
  ·rintro ⟨x,hx,h⟩
   obtain⟨h1,h2⟩:=Hp.J5.1 hx
   simp only[JQ,beq_iff_eq]at h
   omega
  ·intro h;cases h
 ·rw[if_neg c,List.any_eq_true]
  constructor
  ·rintro ⟨x,hx,h⟩
   exact⟨x,(Hp.J5.1 hx).1,h⟩
  ·rintro ⟨x,hx,h⟩
   have h':=h
   simp only[JQ,beq_iff_eq]at h'
   exact⟨x,Hp.J5.2 ⟨hx,oM⟩,h⟩
theorem Hp.Ok.Tp(k:s.Ok){o:Ob}(ho:o∈s.objs)(q v:Int):(∃x∈(s.without o.addr).objs,q=x.id∧v=x.addr)↔(∃x∈s.objs,q=x.id∧v=x.addr)∧q≠(o.id:Int):=by
 constructor
 ·rintro ⟨x,hx,h1,h2⟩
  obtain⟨h3,h4⟩:=Hp.J5.1 hx
  refine⟨⟨x,h3,h1,h2⟩,fun e=>?_⟩
  rcases QI k.ids h3 ho with e2|e2|e2
  ·exact h4 (by rw[e2])
  ·exact e2 oM
  ·exact e2 oM
 ·rintro ⟨⟨x,hx,h1,h2⟩,h3⟩
  refine⟨x,Hp.J5.2 ⟨hx,fun e=>?_⟩,h1,h2⟩
  have z1:=x.size_pos
  have z2:=o.size_pos
  have:=k.same hx ho (w:=o.addr) oM oM
  rw[this]at h1;exact h3 h1
end
end Go.Cs
namespace Go.Cs.Tryz
open Go Go.Cs A
def C61:Gm:=⟨43,0,T [n 4 0] (S (T [m 6 0,m 7 1,q2 8 120 6 7,m 5 8] (T [m 9 5,bk 10 .neq 9 0] (I 10 (Q [m 11 5,m 4 11])))) (S (D [⟨m 12 0,0,0,0⟩,⟨z 13 12,1,0,0⟩,⟨f 14 4 13,2,0,0⟩,⟨l 15 1 14,3,1,0⟩,⟨m 16 0,4,0,0⟩,⟨z 17 16,5,0,0⟩,⟨f 18 1 17,6,0,0⟩,⟨l 19 1 18,7,1,0⟩,⟨m 20 1,8,0,0⟩,⟨x 21 1 19 20,9,0,0⟩,⟨l 22 1 21,10,1,0⟩,⟨u (.VE .i64 (t 15) (t 22)),11,3,0⟩]) (T [m 23 0,z 24 23,f 25 2 24,l 26 1 25,m 27 1,bk 28 .quo 27 2,ca 29 129 [t 26,t 28,k 0]] (T [m 30 0,z 31 30,f 32 3 31,l 33 1 32,m 34 1,bk 35 .quo 34 2,ca 36 129 [t 33,t 35,k 0]] (T [m 37 0,m 38 1,m 39 0,m 40 1,q2 41 155 39 40,q3 42 154 37 38 41] (Q [n 4 0])))))),[r 4]⟩
theorem c61:P 61=some C61:=by kernel_rfl
def GoM:Gm:=⟨15,0,R [m 6 0,z 7 6,f 8 1 7,l 9 1 8,m 10 1,m 11 1,m 12 2,b 13 .add 11 12,e 14 (.slice 1 (t 9) (some (t 10)) (some (t 13)) none),u (.clear [i 0] (t 14))],[]⟩
theorem c154:P 154=some GoM:=by kernel_rfl
end Go.Cs.Tryz
namespace Go.Cs.Tryz
open Go Go.Cs
section
variable {H : Gb} {hb : Nat} {s : Hp} {L : GD}
theorem GcY{row:List CV}{W:List CV}(pt:H[hb]?=some ⟨W,.rw,0⟩) (h1:W[1]?=some (.slice L.wb 0 s.nw s.nw 1 false)) (hw:H[L.wb]?=some ⟨row,.rw,1⟩) (hl:row.length=s.nw) (hnw:s.nw≤4096) {a n:Nat} (hn:0<n) (h:a+n≤s.nw):
  run P 154 [.ptr hb 0,.i a,.i n] H=some (.Ju [],H.set L.wb ⟨splice row a (List.replicate n (.i 0)),.rw,1⟩):=by
 have w2:IntKind.i64.wrap ((a:Int)+(n:Int))=((a+n:Nat):Int):=Gh oM
 have hs:NZ 1 (.slice L.wb 0 s.nw s.nw 1 false) (some (.i a)) (some (.i ((a+n:Nat):Int))) none=some (.slice L.wb (0+a*1) (a+n-a) (s.nw-a) 1 (false&&(none:Option CV).isNone)):=by
  simp only[NZ,Qm,Vw,ED,Option.isSome_none,Bool.false_eq_true,false_and,if_false,Option.bind_some]
  have c1:(0:Int)≤((a+n:Nat):Int)∧((a+n:Nat):Int)≤(s.nw:Int):=by omega
  have c2:(0:Int)≤(a:Int)∧(a:Int)≤((((a+n:Nat):Int).toNat:Nat):Int):=by omega
  rw[if_pos c1,Option.bind_some,if_pos c2]
  simp
  omega
 have e1:0+a*1=a:=by omega
 have e2:a+n-a=n:=by omega
 rw[e1,e2]at hs
 have hfl:(List.replicate n [CV.int .i64 0]).flatten=List.replicate n (.i 0):=by
  induction n with
  |zero=>rfl
  |succ n ih=>simp[List.replicate_succ]
 have hst:OT H L.wb (some ⟨row,.rw,1⟩) a (List.replicate n (.i 0))=some (H.set L.wb ⟨splice row a (List.replicate n (.i 0)),.rw,1⟩):=GV (by simp;omega) (by rw[List.all_eq_true];intro x hx;rw[(List.mem_replicate.1 hx).2];rfl)
 rw[Gi c154 _ _ sM]
 simp(disch:=first|exact dz|fail) only[simprocAttr,Gc,↓reduceIte,G8,pt,h1,w2,hs,Pq,Ww hn,hfl,hw,hst]
theorem PU(k:s.Ok){o:Ob}(ho:o∈s.objs){W:List CV}(pt:H[hb]?=some ⟨W,.rw,0⟩) (h1:W[1]?=some (.slice L.wb 0 s.nw s.nw 1 false)) (q1:ld H[L.wb]? (o.addr+1)=some (.i (o.num:Int))):
  ∃H',run P 155 [.ptr hb 0,.i o.addr] H=some (.i o.size,H')∧Gr H H':=by
 obtain⟨e1,e2,e3,e4⟩:=(k.ob o ho).shape
 have hf:=(k.ob o ho).fits
 have hz:=o.size_pos
 have hn:=k.nb
 have hnw:s.nw=64*s.blk.length:=rfl
 have q2:(0:Int)≤((o.addr+1:Nat):Int)∧((o.addr+1:Nat):Int)<(s.nw:Int):=by omega
 have hs:=YK (H:=H) o.num oM
 rw[e1,e2,e3]at hs
 have hw:=Yn (H:=H++[⟨Je o.refs.length o.data.length o.kd,.rw,0⟩]) o.refs.length o.data.length o.kd
 have hv:G5 o.refs.length o.data.length o.kd=(o.size:Int):=by
  unfold G5
  rw[if_pos (k.ob o ho).valid]
  rfl
 rw[hv]at hw
 have w1:IntKind.i64.wrap ((o.addr:Int)+1)=((o.addr+1:Nat):Int):=Gh oM
 refine⟨_,?_,(((Gr.app H [⟨Je o.refs.length o.data.length o.kd,.rw,0⟩]).app' [⟨Je o.refs.length o.data.length o.kd,.rw,0⟩]).app' [⟨Je o.refs.length o.data.length o.kd,.rw,0⟩])⟩
 rw[Gi Gl9 _ _ sM]
 simp(disch:=first|exact dz|fail) only[simprocAttr,Gc,↓reduceIte,Gj,pt,h1,w1,q2,Jm q1,hs,hw,Nat.zero_add]
theorem GbU(p:PH H hb s L)(k:s.Ok)(a:Int)(ha:a≤9223372036854775807):Did H hb L (s.kill a).1 (.i (s.kill a).2) (run P 61 [.ptr hb 0,.i a] H):=by
 have h1:=Un p k a ha
 unfold Hp.kill
 rw[Gi c61 _ _ sM]
 cases e:s.obj a with
 |none=>
  rw[Hp.Nl.2 e]at h1
  refine⟨H,?_,Keeps.refl _ _,p⟩
  simp(disch:=first|exact dz|fail) only[simprocAttr,Gc,↓reduceIte,Gj,h1,Bool.false_eq_true]
 |some o=>
  rw[Hp.J8.2 ⟨o,e⟩]at h1
  dsimp only
  obtain⟨ho,rfl⟩:=Hp.Jy e
  have pt:=p.top
  have hf:=(k.ob o ho).fits
  have he:=(k.ob o ho).even
  have hz:=o.size_pos
  have hn:=k.nb
  have hnw:s.nw=64*s.blk.length:=rfl
  obtain⟨q1,q2,q3⟩:=Uk p k ho (j:=0) oM
  have q4:o.cell 0=(o.id:Int):=rfl
  rw[q4]at q1
  rw[Nat.add_zero]at q1 q2
  have hd:(o.addr:Int).tdiv 2=((o.addr/2:Nat):Int):=KT o.addr 2
  have hw:IntKind.i64.wrap ((o.addr/2:Nat):Int)=((o.addr/2:Nat):Int):=Gh oM
  have nd:=p.nod
  simp only[GD.all,List.nodup_cons,List.mem_cons,List.not_mem_nil,or_false,not_or]at nd
  obtain⟨⟨n1,n2,n3,n4,n5,n6,n7,n8⟩,⟨a1,a2,a3,a4,a5,a6,a7⟩,⟨m1,m2,m3,m4,m5,m6⟩,⟨r1,r2,r3,r4,r5⟩,⟨t1,t2,t3,t5⟩,⟨u1,u2,u3⟩,⟨v1,v2⟩,v3,-⟩:=nd
  have lt:=p.lt
  obtain⟨H1,d1,k1,M1⟩:=p.Qg.del (o.id:Int)
  have d1':=d1 H rfl
  have al:∀c∈L.all hb,c<H1.length:=fun c hc=>JH (lt c hc) k1.len
  have s1:Side H1 L.sb L.sw (32*s.blk.length) s.starts:=p.sta.frame (k1.keep _ (lt _ (by simp[GD.all])) r4) (k1.keep _ (lt _ (by simp[GD.all])) t3)
  obtain⟨H2,d2,k2,S2⟩:=DF s1 (i:=o.addr/2) oM false
  have d2':run P 129 [.ptr L.sb 0,.i ((o.addr/2:Nat):Int),.int .i64 0] H1=some (.i 0,H2):=d2
  have p1:Side H1 L.pb L.pw (32*s.blk.length) s.pins:=p.pin.frame (k1.keep _ (lt _ (by simp[GD.all])) u2) (k1.keep _ (lt _ (by simp[GD.all])) v1)
  have p2:Side H2 L.pb L.pw (32*s.blk.length) s.pins:=p1.frame (k2.keep _ (al _ (by simp[GD.all])) (Ne.symm t1)) (k2.keep _ (al _ (by simp[GD.all])) (Ne.symm t2))
  obtain⟨H3,d3,k3,S3⟩:=DF p2 (i:=o.addr/2) oM false
  have d3':run P 129 [.ptr L.pb 0,.i ((o.addr/2:Nat):Int),.int .i64 0] H2=some (.i 0,H3):=d3
  have al2:∀c∈L.all hb,c<H2.length:=fun c hc=>JH (al c hc) k2.len
  have GkD:H1[hb]?=H[hb]?:=k1.keep _ (lt _ (by simp[GD.all])) n7
  have Gk6:H2[hb]?=H[hb]?:=(k2.keep _ (al _ (by simp[GD.all])) n4).trans GkD
  have Gqo:H3[hb]?=H[hb]?:=(k3.keep _ (al2 _ (by simp[GD.all])) n6).trans Gk6
  have GlC:H3[L.wb]?=H[L.wb]?:=(k3.keep _ (al2 _ (by simp[GD.all])) m4).trans ((k2.keep _ (al _ (by simp[GD.all])) m2).trans (k1.keep _ (lt _ (by simp[GD.all])) m5))
  have pt3:=Gqo.trans pt
  obtain⟨z1,-,-⟩:=Uk p k ho (j:=1) oM
  have z2:o.cell 1=(o.num:Int):=rfl
  rw[z2,←GlC]at z1
  obtain⟨H4,d4,g4⟩:=PU (L:=L) k ho pt3 rfl z1
  have pt4:=g4.get pt3
  have wr4:=g4.get (GlC.trans p.wrd)
  have d5:=GcY (H:=H4) (s:=s) (L:=L) pt4 rfl wr4 sM oM (a:=o.addr) (n:=o.size) oM hf
  have pt1:=GkD.trans pt
  have pt2:=Gk6.trans pt
  have kk:∀c∈L.all hb,c≠L.mb→c≠L.sw→c≠L.pw→H4[c]?=H[c]?:=fun c hc x1 x2 x3=>
   (g4.keep c (JH (al2 c hc) k3.len) (fun h=>h)).trans ((k3.keep c (al2 c hc) x3).trans ((k2.keep c (al c hc) x2).trans (k1.keep c (lt c hc) x1)))
  have kw:Keeps H H4 (·∈L.all hb):=(((k1.weaken fun c h=>by rw[h];simp[GD.all]).trans (k2.weaken fun c h=>by rw[h];simp[GD.all])).trans (k3.weaken fun c h=>by rw[h];simp[GD.all])).trans (g4.weaken fun _ h=>h.elim)
  have M4:=M1.frame (H':=H4) ((g4.keep _ (JH (al2 _ (by simp[GD.all])) k3.len) (fun h=>h)).trans ((k3.keep _ (al2 _ (by simp[GD.all])) (Ne.symm v1)).trans (k2.keep _ (al _ (by simp[GD.all])) (Ne.symm t3))))
  have S4:=(S2.frame (H':=H3) (k3.keep _ (al2 _ (by simp[GD.all])) r3) (k3.keep _ (al2 _ (by simp[GD.all])) t2)).frame (H':=H4) (g4.keep _ (JH (al2 _ (by simp[GD.all])) k3.len) (fun h=>h)) (g4.keep _ (JH (al2 _ (by simp[GD.all])) k3.len) (fun h=>h))
  have T4:=S3.frame (H':=H4) (g4.keep _ (JH (al2 _ (by simp[GD.all])) k3.len) (fun h=>h)) (g4.keep _ (JH (al2 _ (by simp[GD.all])) k3.len) (fun h=>h))
  refine⟨H4.set L.wb ⟨splice ((List.range s.nw).map (fun w=>CV.i (s.word w))) o.addr (List.replicate o.size (.i 0)),.rw,1⟩,?_,kw.set (.inl (by simp[GD.all])) _,?_⟩
  ·simp(disch:=first|exact dz|fail) only[simprocAttr,Gc,↓reduceIte,Gj,h1,pt,pt1,pt2,pt3,q2,q1,hd,hw,GH,IW,d1',d2',d3',d4,d5]
  ·have nb:∀c,c≠L.wb→(H4.set L.wb ⟨splice ((List.range s.nw).map (fun w=>CV.i (s.word w))) o.addr (List.replicate o.size (.i 0)),.rw,1⟩)[c]?=H4[c]?:=fun c hc=>by rw[JU (Ne.symm hc)]
   refine⟨?_,?_,?_,?_,?_,?_,?_,p.nod⟩
   ·exact(nb _ n2).trans pt4
   ·exact(nb _ a1).trans ((kk _ (by simp[GD.all]) a6 a3 a5).trans p.blk)
   ·have hsp:splice ((List.range s.nw).map (fun w=>CV.i (s.word w))) o.addr (List.replicate o.size (.i 0))=(List.range s.nw).map (fun w=>CV.i ((s.without o.addr).word w)):=by
     unfold splice
     refine List.ext_getElem? fun i=>?_
     rw[List.length_replicate,Ke]
     have hwd:=k.Rp ho i
     have lt1:(((List.range s.nw).map (fun w=>CV.i (s.word w))).take o.addr).length=o.addr:=by simp;omega
     by_cases hi:i<s.nw
     ·rw[ZG hi,Option.map_some,hwd]
      by_cases x1:i<o.addr
      ·rw[if_neg oM,List.append_assoc,QN oM,Ze,if_pos x1,Ke,ZG hi];rfl
      ·by_cases x2:i<o.addr+o.size
       ·rw[if_pos ⟨oM,x2⟩,QN (by simp;omega),M_ oM,List.getElem?_replicate,if_pos oM]
       ·rw[if_neg oM,M_ (by simp;omega),Yo,Nq,lt1,List.length_replicate,show o.addr+o.size+(i-(o.addr+o.size))=i from by omega,Ke,ZG hi];rfl
     ·rw[En (by simp;omega),En (by simpa using hi)];rfl
    rw[hsp,KI (Gd wr4)];rfl
   ·rw[k.Li ho];exact S4.frame (nb _ (Ne.symm m1)) (nb _ (Ne.symm m2))
   ·rw[k.RA ho];exact T4.frame (nb _ (Ne.symm m3)) (nb _ (Ne.symm m4))
   ·obtain⟨l,x1,x2,x3⟩:=M4
    exact⟨l,(nb _ (Ne.symm m5)).trans x1,x2,fun q v=>(x3 q v).trans (k.Tp ho q v).symm⟩
   ·exact(p.fwd.frame (kk _ (by simp[GD.all]) (Ne.symm v3) (Ne.symm t5) (Ne.symm v2))).frame (nb _ (Ne.symm m6))
end
end Go.Cs.Tryz
namespace Go.Cs.Tryz
open Go Go.Cs
end Go.Cs.Tryz
namespace Go.Cs
open Go
end Go.Cs
namespace Go.Cs.Tryz
open Go Go.Cs
section
variable {H : Gb} {hb : Nat} {s : Hp} {L : GD}
end
end Go.Cs.Tryz
namespace Go.Cs.Tryz
open Go Go.Cs A
def C11:Gm:=⟨47,0,T [e 2 (.K7 (c .nilPtr)),n 3 0] (S (T [m 5 0,bk 6 .lss 5 2,m 7 6,gf 7 (m 8 0),gf 7 (bk 9 .gtr 8 64),or 10 7 9] (I 10 (Q [e 2 (.K7 (c .nilPtr)),n 3 1]))) (S (D [⟨m 11 0,0,0,0⟩,⟨e 12 (.makeSlice 2 [i 0,i 0] (t 11) (t 11)),1,0,0⟩,⟨m 13 0,2,0,0⟩,⟨bk 14 .mul 13 64,3,0,0⟩,⟨e 15 (.makeSlice 1 [i 0] (t 14) (t 14)),4,0,0⟩,⟨e 16 .Vg,5,0,0⟩,⟨e 17 .Vg,6,0,0⟩,⟨e 18 (.build [.Gf,.Gf,.nilPtr,.nilPtr,.Uz,.Uz,i 0] [(0,1,t 12),(1,1,t 15),(4,1,t 16),(5,1,t 17)]),7,0,0⟩,⟨bo 19 18,8,0,0⟩,⟨m 4 19,9,0,0⟩]) (T [m 21 4,m 22 4,z 23 22,f 24 1 23,l 25 1 24,le 26 25,bk 27 .quo 26 2,ca 28 41 [t 27,k 1],m 20 28,ex 29 20 0,ex 30 20 1,z 31 21,f 32 2 31,st 1 32 29] (T [m 34 4,m 35 4,z 36 35,f 37 1 36,l 38 1 37,le 39 38,bk 40 .quo 39 2,ca 41 41 [t 40,k 1],m 33 41,ex 42 33 0,ex 43 33 1,z 44 34,f 45 3 44,st 1 45 42] (Q [m 46 4,m 2 46,n 3 0]))))),[r 2,r 3]⟩
theorem c11:P 11=some C11:=by kernel_rfl
def C41:Gm:=⟨29,0,T [e 4 (.K7 (c .nilPtr)),n 5 0] (S (T [m 6 0,bk 7 .lss 6 1,m 8 7,gf 8 (m 9 0),gf 8 (bk 10 .gtr 9 4096),or 11 8 10,m 12 11,gf 12 (e 13 (.buildSlice 1 [i 0,i 0,i 0,i 0] 4 [(0,1,k 1),(1,1,k 2),(2,1,k 4),(3,1,k 8)])),gf 12 (m 14 1),gf 12 (q2 15 108 13 14),gf 12 (no 16 15),or 17 12 16] (I 17 (Q [e 4 (.K7 (c .nilPtr)),n 5 1]))) (Q [m 18 0,m 19 1,m 20 0,m 21 1,b 22 .mul 20 21,bk 23 .add 22 64,bk 24 .sub 23 1,bk 25 .quo 24 64,e 26 (.makeSlice 1 [.int .u64 0] (t 25) (t 25)),e 27 (.build [i 0,i 0,.Gf] [(0,1,t 18),(1,1,t 19),(2,1,t 26)]),bo 28 27,m 4 28,n 5 0])),[r 4,r 5]⟩
theorem c41:P 41=some C41:=by kernel_rfl
end Go.Cs.Tryz
namespace Go.Cs
open Go
def Hp.new(n:Nat):Hp:=⟨List.replicate n (0,0),[],0,[]⟩
theorem Hp.BI{n:Nat}(h:2≤n∧n≤64):(Hp.new n).Ok where
 nb:=by simpa[Hp.new]using h
 st:=fun x hx=>by rw[(List.mem_replicate.1 hx).2];decide
 ob:=fun o ho=>by cases ho
 apart:=.nil
 ids:=.nil
 born:=by simp[Hp.new]
theorem Y0:∀n:Nat,(List.replicate n [CV.int .i64 0,CV.int .i64 0]).flatten=G6 (List.replicate n (0,0))
 |0=>rfl
 |n+1=>by
  rw[List.replicate_succ,List.flatten_cons,Y0 n,List.replicate_succ];rfl
theorem GcW:∀n:Nat,(List.replicate n [CV.int .i64 0]).flatten=(List.range n).map (fun _=>CV.i 0):=fun n=>by
 have h1:(List.replicate n [CV.int .i64 0]).flatten=List.replicate n (CV.i 0):=by
  induction n with
  |zero=>rfl
  |succ n ih=>rw[List.replicate_succ,List.flatten_cons,ih];rfl
 rw[h1]
 refine List.ext_getElem? fun i=>?_
 rw[List.getElem?_replicate,Ke]
 by_cases hi:i<n
 ·rw[if_pos hi,ZG hi];rfl
 ·rw[if_neg hi,En (by simpa using hi)];rfl
end Go.Cs
namespace Go.Cs.Tryz
open Go Go.Cs
section
variable {H : Gb}
theorem Tn{n:Nat}(h0:0<n)(h1:n≤4096):∃b wb H',run P 41 [.i n,.i 1] H=some (.Ju [.ptr b 0,.i 0],H')∧Gr H H'∧H.length≤b∧H.length≤wb∧b≠wb∧Side H' b wb n fun _=>false:=by
 have c0:¬((n:Int)<1):=by omega
 have c1:¬((4096:Int)<(n:Int)):=by omega
 have hs:W_ (H++[⟨[.i 1,.i 2,.i 4,.i 8],.rw,1⟩]) (.slice H.length 0 4 4 1 false) [1,2,4,8]:=
  .inr ⟨H.length,0,4,false,⟨[.i 1,.i 2,.i 4,.i 8],.rw,1⟩,rfl,sM,.inl rfl,fun i r h=>by
   match i,h with
   |0,h=>simp[Vx]at h;subst h;simp
   |1,h=>simp[Vx]at h;subst h;simp
   |2,h=>simp[Vx]at h;subst h;simp
   |3,h=>simp[Vx]at h;subst h;simp
   |i+4,h=>simp[Vx]at h⟩
 have hc:=contains hs 1 sM
 have ec:([1,2,4,8].any fun x=>(1:Int)==x)=true:=rfl
 rw[ec]at hc
 have w1:IntKind.i64.wrap ((n:Int))=(n:Int):=wrapN oM
 have w2:IntKind.i64.wrap ((n:Int)+64)=((n+64:Nat):Int):=Gh oM
 have w3:IntKind.i64.wrap (((n+64:Nat):Int)-1)=((n+63:Nat):Int):=by rw[Gh oM];omega
 have e1:((n+63:Nat):Int).tdiv 64=((UU n:Nat):Int):=KT _ 64
 have hwl:UU n≤100:=by unfold UU;omega
 have w4:IntKind.i64.wrap ((UU n:Nat):Int)=((UU n:Nat):Int):=Gh oM
 have hfl:∀m:Nat,(List.replicate m [CV.int .u64 0]).flatten=(List.replicate m 0).map (fun(m:Nat)=>CV.int .u64 m):=fun m=>by
  induction m with
  |zero=>rfl
  |succ m ih=>simp[List.replicate_succ]at ih⊢
 have hmk:=ZH (H:=H++[⟨[.i 1,.i 2,.i 4,.i 8],.rw,1⟩]) (Jf:=1) (z:=[.int .u64 0]) (l:=((UU n:Nat):Int)) (c:=((UU n:Nat):Int)) oM
 rw[K6,hfl]at hmk
 refine⟨H.length+2,H.length+1,H++[⟨[.i 1,.i 2,.i 4,.i 8],.rw,1⟩]++[⟨(List.replicate (UU n) 0).map (fun(m:Nat)=>CV.int .u64 m),.rw,1⟩]++[⟨[.i n,.i 1,.slice (H.length+1) 0 (UU n) (UU n) 1 false],.rw,0⟩],?_,((Gr.app H _).app' _).app' _,oM,oM,oM,⟨sM,⟨List.replicate (UU n) 0,sM,?_,sM,?_⟩,h0,h1⟩⟩
 ·rw[Gi c41 _ _ sM]
  simp(disch:=first|exact dz|fail) only[simprocAttr,Gc,↓reduceIte,Gj,c0,c1,decide_false,fill,splice,and_self,hc,Bool.not_true,Int.mul_one,w1,w2,w3,e1,w4,GH,hmk]
 ·intro w hw
  rw[(List.mem_replicate.1 hw).2];decide
 ·intro i hi
  rw[Qc,List.getElem?_replicate]
  split<;>simp
theorem Wo(n:Int)(h:2≤n∧n≤64):∃hb H' L,run P 11 [.i n] H=some (.Ju [.ptr hb 0,.i 0],H')∧Gr H H'∧PH H' hb (Hp.new n.toNat) L∧∀c∈L.all hb,H.length≤c:=by
 obtain⟨n,rfl⟩:∃q:Nat,n=q:=⟨n.toNat,oM⟩
 have c0:¬((n:Int)<2):=by omega
 have c1:¬((64:Int)<(n:Int)):=by omega
 have w1:IntKind.i64.wrap ((n:Int)*64)=((64*n:Nat):Int):=by rw[Gh oM];omega
 have m1:=Uv (Jf:=2) (z:=[CV.int .i64 0,CV.int .i64 0]) (l:=(n:Int)) (c:=(n:Int)) oM
 have m2:=Uv (Jf:=1) (z:=[CV.int .i64 0]) (l:=((64*n:Nat):Int)) (c:=((64*n:Nat):Int)) oM
 rw[K6]at m1 m2
 rw[Y0]at m1
 rw[GcW]at m2
 rw[Gi c11 _ _ sM]
 have w2:IntKind.i64.wrap ((32*n:Nat):Int)=((32*n:Nat):Int):=Gh oM
 have e2:((64*n:Nat):Int).tdiv 2=((32*n:Nat):Int):=by have:=KT (64*n) 2;rw[show((2:Nat):Int)=2 from rfl]at this;rw[this];congr 1;omega
 obtain⟨X,hX⟩:∃X:Gb,X=H++[⟨G6 (List.replicate n (0,0)),.rw,2⟩]++[⟨(List.range (64*n)).map (fun _=>CV.i 0),.rw,1⟩]++[⟨[],.map,0⟩]++[⟨[],.map,0⟩]++[⟨[.slice H.length 0 n n 2 false,.slice (H.length+1) 0 (64*n) (64*n) 1 false,.nilPtr,.nilPtr,.GU (H.length+1+1),.GU (H.length+1+1+1),.int .i64 0],.rw,0⟩]:=⟨_,rfl⟩
 have lX:X.length=H.length+5:=by rw[hX];simp
 have gX:Gr H X:=by rw[hX];exact((((Gr.app H _).app' _).app' _).app' _).app' _
 have tX:X[H.length+4]?=some ⟨[.slice H.length 0 n n 2 false,.slice (H.length+1) 0 (64*n) (64*n) 1 false,.nilPtr,.nilPtr,.GU (H.length+1+1),.GU (H.length+1+1+1),.int .i64 0],.rw,0⟩:=by rw[hX];simp
 have x0:X[H.length]?=some ⟨G6 (List.replicate n (0,0)),.rw,2⟩:=by rw[hX];simp
 have x1:X[H.length+1]?=some ⟨(List.range (64*n)).map (fun _=>CV.i 0),.rw,1⟩:=by rw[hX];simp
 have x2:X[H.length+2]?=some ⟨[],.map,0⟩:=by rw[hX];simp
 have x3:X[H.length+3]?=some ⟨[],.map,0⟩:=by rw[hX];simp
 obtain⟨b1,wb1,H1,r1,g1,l1,l2,ne1,s1⟩:=Tn (H:=X) (n:=32*n) oM oM
 have t1:=g1.get tX
 obtain⟨Y,hY⟩:∃Y:Gb,Y=H1.set (H.length+4) ⟨[.slice H.length 0 n n 2 false,.slice (H.length+1) 0 (64*n) (64*n) 1 false,.ptr b1 0,.nilPtr,.GU (H.length+1+1),.GU (H.length+1+1+1),.int .i64 0],.rw,0⟩:=⟨_,rfl⟩
 have kY:Keeps X Y (·=H.length+4):=by rw[hY];exact Keeps.set (w:=fun c=>c=H.length+4) (g1.weaken fun c h=>h.elim) (.inl rfl) _
 have lY:Y.length=H1.length:=by rw[hY];simp
 have tY:Y[H.length+4]?=some ⟨[.slice H.length 0 n n 2 false,.slice (H.length+1) 0 (64*n) (64*n) 1 false,.ptr b1 0,.nilPtr,.GU (H.length+1+1),.GU (H.length+1+1+1),.int .i64 0],.rw,0⟩:=by rw[hY,KI (Gd t1)]
 obtain⟨w1',-,-,e1',-⟩:=s1.ws
 have lb1:=Gd s1.st
 have lw1:=Gd e1'
 have s1Y:Side Y b1 wb1 (32*n) fun _=>false:=s1.frame (by rw[hY,JU oM]) (by rw[hY,JU oM])
 obtain⟨b2,wb2,H2,r2,g2,l3,l4,ne2,s2⟩:=Tn (H:=Y) (n:=32*n) oM oM
 have t2:=g2.get tY
 have kXY:=g1.len
 obtain⟨Z,hZ⟩:∃Z:Gb,Z=H2.set (H.length+4) ⟨[.slice H.length 0 n n 2 false,.slice (H.length+1) 0 (64*n) (64*n) 1 false,.ptr b1 0,.ptr b2 0,.GU (H.length+1+1),.GU (H.length+1+1+1),.int .i64 0],.rw,0⟩:=⟨_,rfl⟩
 have kZ:Keeps Y Z (·=H.length+4):=by rw[hZ];exact Keeps.set (w:=fun c=>c=H.length+4) (g2.weaken fun c h=>h.elim) (.inl rfl) _
 have kXZ:Keeps X Z (·=H.length+4):=kY.trans kZ
 have tZ:Z[H.length+4]?=some ⟨[.slice H.length 0 n n 2 false,.slice (H.length+1) 0 (64*n) (64*n) 1 false,.ptr b1 0,.ptr b2 0,.GU (H.length+1+1),.GU (H.length+1+1+1),.int .i64 0],.rw,0⟩:=by rw[hZ,KI (Gd t2)]
 have s1Z:Side Z b1 wb1 (32*n) fun _=>false:=s1Y.frame (kZ.keep _ oM oM) (kZ.keep _ oM oM)
 have s2Z:Side Z b2 wb2 (32*n) fun _=>false:=s2.frame (by rw[hZ,JU oM]) (by rw[hZ,JU oM])
 refine⟨H.length+4,Z,⟨H.length,H.length+1,b1,wb1,b2,wb2,H.length+2,H.length+3⟩,?_,?_,?_,?_⟩
 ·simp(disch:=first|exact dz|fail) only[simprocAttr,Gc,↓reduceIte,Gv,c0,c1,decide_false,Oh,w1,m1,m2,GcH,Gb9,show∀b,cellsOf (.GU b)=[.GU b]from fun _=>rfl,fill,splice,and_self]
  rw[←hX]
  have hl4:H.length+1+1+1+1=H.length+4:=rfl
  rw[hl4]
  rw[hY]at tY r2
  rw[hZ]at tZ
  simp(disch:=first|exact dz|fail) only[simprocAttr,Gc,↓reduceIte,tX,t1,tY,t2,tZ,GH,e2,w2,KA,r1,r2,←hZ]
 ·exact gX.news (kXZ.weaken fun c h=>by omega)
 ·have zero:∀w,(Hp.new n).word w=0:=fun w=>rfl
  have hbl:(Hp.new n).blk.length=n:=by simp[Hp.new]
  have hnw:(Hp.new n).nw=64*n:=by unfold Hp.nw;rw[hbl]
  have kk:∀c,c<H.length+4→Z[c]?=X[c]?:=fun c h=>kXZ.keep c oM oM
  rw[K6]
  refine⟨?_,?_,?_,?_,?_,?_,?_,?_⟩
  ·rw[hbl,hnw];exact tZ
  ·exact(kk H.length oM).trans x0
  ·rw[hnw];exact(kk (H.length+1) oM).trans x1
  ·rw[hbl];exact s1Z
  ·rw[hbl];exact s2Z
  ·exact⟨[],(kk (H.length+2) oM).trans x2,sM,fun k v=>by simp[Hp.new]⟩
  ·exact⟨[],(kk (H.length+3) oM).trans x3,sM,fun k v=>by simp[Hp.new]⟩
  ·simp only[GD.all,List.nodup_cons,List.mem_cons,List.not_mem_nil,or_false,not_or,not_false_eq_true,and_true,List.nodup_nil]
   obtain⟨w2',-,-,e2',-⟩:=s1Y.ws
   have q1:=Gd s1Y.st
   have q2:=Gd e2'
   omega
 ·intro c hc
  simp only[GD.all,List.mem_cons,List.not_mem_nil,or_false]at hc
  omega
end
end Go.Cs.Tryz
namespace Go.Cs.Tryz
open Go Go.Cs A
def L9:Gu:=S (T [m 9 5,m 10 0,z 11 10,f 12 1 11,l 13 1 12,le 14 13,b 15 .lss 9 14] (J 15 (X 0))) (S (B 1 (T [m 18 0,z 19 18,f 20 1 19,l 21 1 20,m 22 5,x 23 8 21 22,f 24 0 23,l 25 1 24,m 26 1,b 27 .eql 25 26] (I 27 (Q [m 28 5,m 4 28])))) (R [m 16 5,bk 17 .add 16 1,m 5 17]))
def C22:Gm:=⟨29,0,T [n 4 0] (S (T [m 6 0,q1 7 78 6,no 8 7] (I 8 (Q [n 4 (-1)]))) (S (T [n 5 0] (B 0 (W L9))) (Q [n 4 (-1)]))),[r 4]⟩
theorem c22:P 22=some C22:=by kernel_rfl
def C62:Gm:=⟨24,0,T [e 4 (.new [i 0,i 0,i 0]),n 5 0] (S (T [m 7 0,m 8 1,q2 9 152 7 8,m 6 9] (T [m 10 6,bk 11 .neq 10 0] (I 11 (Q [e 12 (.build [i 0,i 0,i 0] []),m 13 6,st 3 4 12,m 5 13])))) (S (D [⟨m 18 0,4,0,0⟩,⟨m 19 1,5,0,0⟩,⟨q2 20 22 18 19,6,3,0⟩,⟨m 14 0,0,0,0⟩,⟨z 15 14,1,0,0⟩,⟨f 16 1 15,2,0,0⟩,⟨l 17 1 16,3,1,0⟩,⟨x 21 8 17 20,7,0,1⟩,⟨f 22 2 21,8,0,1⟩,⟨lg 23 3 22,9,1,1⟩,⟨st 3 4 23,10,3,1⟩,⟨n 5 0,11,0,2⟩]) .ret)),[.cell 4 true 3,r 5]⟩
theorem c62:P 62=some C62:=by kernel_rfl
def C78:Gm:=⟨13,0,T [nb 2 false] (Q [m 3 0,e 4 (.eqv true 1 (t 3) (c .nilPtr)),m 5 4,gt 5 (m 6 0),gt 5 (z 7 6),gt 5 (f 8 0 7),gt 5 (l 9 1 8),gt 5 (le 10 9),gt 5 (bk 11 .gtr 10 0),an 12 5 11,m 2 12]),[r 2]⟩
theorem c78:P 78=some C78:=by kernel_rfl
def Gr0:Gm:=⟨12,0,T [n 4 0] (S (T [m 5 0,q1 6 78 5,no 7 6] (I 7 (Q [n 4 5]))) (S (T [m 8 0,m 9 1,q2 10 22 8 9,bk 11 .lss 10 0] (I 11 (Q [n 4 4]))) (Q [n 4 0]))),[r 4]⟩
theorem c152:P 152=some Gr0:=by kernel_rfl
def Gpn:Gm:=⟨9,0,T [nb 4 false] (Q [m 5 0,m 6 1,q2 7 22 5 6,bk 8 .geq 7 0,m 4 8]),[r 4]⟩
theorem Gp_:P 176=some Gpn:=by kernel_rfl
end Go.Cs.Tryz
namespace Go.Cs
open Go
structure N_ where
 bv:CV
 ov:CV
 fv:CV
 hv:Nat→CV×CV
def GN(hv:Nat→CV×CV)(o:Ob):List CV:=[.i o.addr,.i o.id,.i o.refs.length,.i o.data.length,.i o.kd,(hv o.id).1,(hv o.id).2,.bool o.pin]
def Gz(hv:Nat→CV×CV)(l:List Ob):List CV:=l.flatMap (GN hv)
theorem Jg{hv:Nat→CV×CV}{o:Ob}{l:List Ob}:Gz hv (o::l)=GN hv o++Gz hv l:=rfl
theorem Yy{hv:Nat→CV×CV}{l k:List Ob}:Gz hv (l++k)=Gz hv l++Gz hv k:=by simp[Gz]
theorem KZ(hv:Nat→CV×CV)(l:List Ob):(Gz hv l).length=l.length*8:=by
 induction l with
 |nil=>rfl
 |cons x l ih=>rw[Jg,Nq,ih,List.length_cons];simp[GN];omega
theorem Ul(hv:Nat→CV×CV):∀(l:List Ob)(j:Nat)(x:Ob),l[j]?=some x→(Gz hv l).drop (j*8)=GN hv x++(Gz hv l).drop ((j+1)*8)
 |[],j,x,h=>by simp at h
 |y::l,0,x,h=>by
  simp only[List.getElem?_cons_zero,Gx]at h
  subst h;rfl
 |y::l,j+1,x,h=>by
  simp only[List.getElem?_cons_succ]at h
  have ih:=Ul hv l j x h
  have e1:(j+1)*8=8+j*8:=by omega
  have e2:(j+1+1)*8=8+(j+1)*8:=by omega
  have e3:∀i,(Gz hv (y::l)).drop (8+i)=(Gz hv l).drop i:=fun i=>by rw[←List.drop_drop];rfl
  rw[e2,e3,e1,e3,←e1]
  exact ih
theorem Qe{hv:Nat→CV×CV}{l:List Ob}{j:Nat}{x:Ob}(h:l[j]?=some x) {i:Nat} {v:CV} (hi:(GN hv x)[i]?=some v):(Gz hv l)[j*8+i]?=some v:=by
 have:=congrArg (fun r=>r[i]?) (Ul hv l j x h)
 simp only[Yo]at this
 rw[this,QN (Gd hi),hi]
theorem YN{hv:Nat→CV×CV}{l:List Ob}{j:Nat}{x:Ob}(h:l[j]?=some x):((Gz hv l).drop (j*8)).take 8=GN hv x:=by
 rw[Ul hv l j x h];simp[GN]
structure JO(o:Tags)(H:Gb)(rb:Nat)(s:Hp)(L:N_):Prop where
 dom:∀c t,o c=some t→c<H.length
 top:o rb=some (0,0,0)
 cells:H[rb]?=some ⟨[L.bv,L.ov,L.fv,.i s.born],.rw,0⟩
 fv:leaf L.fv=true
 blk:At o (0,1,0) H L.bv 2 s.blk.length (G6 s.blk)
 objs:At o (0,2,0) H L.ov 8 s.objs.length (Gz L.hv s.objs)
 refs:∀x∈s.objs,At o (0,3,x.id) H (L.hv x.id).1 1 x.refs.length (ints x.refs)∧At o (0,4,x.id) H (L.hv x.id).2 1 x.data.length (ints x.data)
theorem JO.frame{o o':Tags}{H H':Gb}{rb:Nat}{s:Hp}{L:N_}(m:JO o H rb s L)(hd:∀c t,o' c=some t→c<H'.length)(ho:∀c t,o c=some t→o' c=some t)(hf:∀c t,o c=some t→H'[c]?=H[c]?):JO o' H' rb s L where
 dom:=hd
 top:=ho _ _ m.top
 cells:=by rw[hf _ _ m.top,m.cells]
 fv:=m.fv
 blk:=m.blk.frame (fun c=>ho c _) (fun c=>hf c _)
 objs:=m.objs.frame (fun c=>ho c _) (fun c=>hf c _)
 refs:=fun x h=>⟨(m.refs x h).1.frame (fun c=>ho c _) (fun c=>hf c _),(m.refs x h).2.frame (fun c=>ho c _) (fun c=>hf c _)⟩
theorem JO.gr{o:Tags}{H H':Gb}{rb:Nat}{s:Hp}{L:N_}(m:JO o H rb s L)(g:Gr H H'):JO o H' rb s L:=
 m.frame (fun c t h=>JH (m.dom c t h) g.len) (fun _ _ h=>h) (fun c t h=>g.keep c (m.dom c t h) fun h=>h)
structure K_(o:Tags)(H:Gb)(o':Tags)(H':Gb):Prop where
 len:H.length≤H'.length
 tag:∀c,c<H.length→o' c=o c
 keep:∀c,c<H.length→o c=none→H'[c]?=H[c]?
theorem K_.trans{o o' o'':Tags}{H H' Eo:Gb}(a:K_ o H o' H')(b:K_ o' H' o'' Eo):K_ o H o'' Eo where
 len:=Jr a.len b.len
 tag:=fun c h=>by rw[b.tag c (JH h a.len),a.tag c h]
 keep:=fun c h hn=>by rw[b.keep c (JH h a.len) (by rw[a.tag c h,hn]),a.keep c h hn]
theorem K_.gr{o:Tags}{H H':Gb}(g:Gr H H'):K_ o H o H':=⟨g.len,fun _ _=>rfl,fun c h _=>g.keep c h fun h=>h⟩
def Zm(o:Tags)(H:Gb)(rb:Nat)(s':Hp)(v:CV)(r:Option (CV×Gb)):Prop:=
 ∃H' o' L',r=some (v,H')∧JO o' H' rb s' L'∧K_ o H o' H'
def Hp.idx(s:Hp)(a:Int):Nat:=s.objs.findIdx fun o=>(o.addr:Int)==a
def Hp.KJ(s:Hp)(a:Int):Int:=if s.has a then s.idx a else -1
theorem Hp.YM{s:Hp}{a:Int}{x:Ob}(h:s.obj a=some x):s.objs[s.idx a]?=some x:=by
 unfold Hp.obj at h
 unfold Hp.idx
 generalize s.objs=l at h⊢
 induction l with
 |nil=>cases h
 |cons y l ih=>
  rw[List.find?_cons]at h
  rw[List.findIdx_cons]
  by_cases e:((y.addr:Int)==a)=true
  ·rw[e]at h⊢
   simpa using h
  ·have e':((y.addr:Int)==a)=false:=by simpa using e
   rw[e']at h⊢
   simpa using ih h
end Go.Cs
namespace Go.Cs.Tryz
open Go Go.Cs
section
variable {H : Gb} {o : Tags} {rb : Nat} {s : Hp} {L : N_}
theorem QH(m:JO o H rb s L)(k:s.Ok):run P 78 [.ptr rb 0] H=some (.bool true,H):=by
 have h:=m.cells
 have hl:=m.blk.len H
 have hp:(0:Int)<(s.blk.length:Int):=by have:=k.nb;omega
 rw[Gi c78 _ _ sM]
 simp(disch:=first|exact dz|fail) only[simprocAttr,Gc,↓reduceIte,Gv,h,hl,hp,EC,Bool.not_false,decide_true]
theorem JO.row(m:JO o H rb s L){j:Nat}{x:Ob}(h:s.objs[j]?=some x):
  ∃b n tl,L.ov=.slice b 0 n n 8 tl∧n=s.objs.length∧H[b]?=some ⟨Gz L.hv s.objs,.rw,8⟩∧o b=some (0,2,0)∧((0:Int)≤(j:Int)∧(j:Int)<(n:Int))∧j*8+8≤(Gz L.hv s.objs).length:=by
 have hj:=Gd h
 obtain⟨tl,e1,e2,e3,e4⟩:=m.objs.pos oM
 exact⟨_,_,tl,e1,rfl,e3,e2,oM,by rw[KZ];omega⟩
theorem GhM(m:JO o H rb s L){a:Int}(hf:s.objs.length≤100000){E0:Env}(h0:E0 0=.ptr rb 0)(h1:E0 1=.i a)(h5:E0 5=.i 0){r:Option (CX×Env×Gb)}(hr:den P (.loop L9) E0 H=r):
  ∃x E',r=some (x,E',H)∧((x=.ret∧E' 4=.i (s.idx a)∧s.has a=true)∨(x=.exit 0∧s.has a=false)):=by
 have hc:=m.cells
 obtain⟨x',E',H',e,-,⟨rfl,h⟩,fr⟩:=Gy (p:=P) (c:=L9) (E0:=E0) (H0:=H)
  (fun q E H'=>H'=H∧∃j:Nat,E 5=.i j∧j≤s.objs.length∧q=s.objs.length-j∧∀i y,i<j→s.objs[i]?=some y→(y.addr:Int)≠a)
  (fun x E' H'=>H'=H∧((x=.ret∧E' 4=.i (s.idx a)∧s.has a=true)∨(x=.exit 0∧s.has a=false))) (by
   rintro q E H' hE ⟨rfl,j,e5,hj,rfl,hn⟩
   have e0:=(hE 0 dK).trans h0
   have e1:=(hE 1 dK).trans h1
   have hl:=m.objs.len H'
   by_cases c:j<s.objs.length
   ·have hx:s.objs[j]?=some s.objs[j]:=J9 c
    have c':decide ((j:Int)<(s.objs.length:Int))=true:=GK oM
    have w1:IntKind.i64.wrap ((j:Int)+1)=((j+1:Nat):Int):=Gh oM
    obtain⟨b,n,tl,q1,q2,q3,q4,q5,q6⟩:=JO.row m hx
    have q7:=Qe (hv:=L.hv) hx (i:=0) (v:=.i (s.objs[j]).addr) rfl
    rw[Nat.add_zero]at q7
    rw[q1]at hc hl
    by_cases ha:((s.objs[j]).addr:Int)=a
    ·apply Gl (x:=.ret)
     ·simp(disch:=first|exact dz|fail) only[simprocAttr,Gc,↓reduceIte,L9,e0,e1,e5,hc,hl,c',q3,q5,q7,Giu ha]
      rfl
     ·simp
     ·refine⟨rfl,.inl ⟨rfl,?_,?_⟩⟩
      ·have:s.idx a=j:=by
        unfold Hp.idx
        rw[List.findIdx_eq c]
        refine⟨by simp[ha],fun i hi=>?_⟩
        have:=hn i _ hi (J9 oM)
        simpa using this
       rw[this]
       simp[Gg]
      ·unfold Hp.has
       rw[List.any_eq_true]
       exact⟨_,List.getElem_mem c,by simp[ha]⟩
    ·apply Gt (k':=s.objs.length-(j+1))
     ·simp(disch:=first|exact dz|fail) only[simprocAttr,Gc,↓reduceIte,L9,e0,e1,e5,hc,hl,c',q3,q5,q7,Gib ha,w1]
      rfl
     ·omega
     ·refine⟨rfl,j+1,uA,oM,rfl,fun i y hi hy=>?_⟩
      by_cases e:i=j
      ·subst e
       rw[hx]at hy
       simp only[Gx]at hy
       rw[←hy];exact ha
      ·exact hn i y oM hy
   ·have c':decide ((j:Int)<(s.objs.length:Int))=false:=GC oM
    apply Gl (x:=.exit 0)
    ·simp(disch:=first|exact dz|fail) only[simprocAttr,Gc,↓reduceIte,L9,e0,e1,e5,hc,hl,c']
     rfl
    ·simp
    ·refine⟨rfl,.inr ⟨rfl,?_⟩⟩
     rw[←Bool.not_eq_true]
     unfold Hp.has
     rw[List.any_eq_true]
     rintro ⟨y,hy,hh⟩
     obtain⟨i,hi,rfl⟩:=List.getElem_of_mem hy
     exact hn i _ oM (J9 hi) (by simpa using hh)) _ ⟨rfl,0,h5,oM,rfl,fun i y hi=>by omega⟩
 exact⟨x',E',hr.symm.trans e,h⟩
theorem NU(m:JO o H rb s L)(k:s.Ok)(a:Int):run P 22 [.ptr rb 0,.i a] H=some (.i (s.KJ a),H):=by
 have h1:=QH m k
 have hf:=k.few
 rw[Gi c22 _ _ sM]
 simp(disch:=first|exact dz|fail) only[simprocAttr,Gc,↓reduceIte,Gj,h1,Bool.not_true]
 generalize hr:den P (.loop L9) _ _=r
 obtain⟨x,E',rfl,hp⟩:=GhM m (a:=a) oM uA uA uA hr
 unfold Hp.KJ
 rcases hp with⟨rfl,h2,h3⟩|⟨rfl,h3⟩
 ·simp(disch:=first|exact dz|fail) only[simprocAttr,Gc,↓reduceIte,h2,h3]
 ·simp(disch:=first|exact dz|fail) only[simprocAttr,Gc,↓reduceIte,h3,Bool.false_eq_true]
theorem Gbj(m:JO o H rb s L)(k:s.Ok)(a:Int):run P 176 [.ptr rb 0,.i a] H=some (.bool (s.has a),H):=by
 have h1:=NU m k a
 rw[Gi Gp_ _ _ sM]
 unfold Hp.KJ at h1
 cases h:s.has a with
 |true=>
  rw[h,if_pos rfl]at h1
  have c:decide ((0:Int)≤(s.idx a:Int))=true:=GK oM
  simp(disch:=first|exact dz|fail) only[simprocAttr,Gc,↓reduceIte,Gj,h1,c]
 |false=>
  rw[h,if_neg sM]at h1
  simp(disch:=first|exact dz|fail) only[simprocAttr,Gc,↓reduceIte,Gj,h1]
theorem A8(m:JO o H rb s L)(k:s.Ok)(a:Int):run P 152 [.ptr rb 0,.i a] H=some (.i (if s.has a then 0 else 4),H):=by
 have h0:=QH m k
 have h1:=NU m k a
 rw[Gi c152 _ _ sM]
 unfold Hp.KJ at h1
 cases h:s.has a with
 |true=>
  rw[h,if_pos rfl]at h1
  have c:decide ((s.idx a:Int)<0)=false:=GC oM
  simp(disch:=first|exact dz|fail) only[simprocAttr,Gc,↓reduceIte,Gj,h0,h1,c,Bool.not_true]
 |false=>
  rw[h,if_neg sM]at h1
  simp(disch:=first|exact dz|fail) only[simprocAttr,Gc,↓reduceIte,Gj,h0,h1,Bool.not_true,Bool.false_eq_true]
theorem Gcq(m:JO o H rb s L)(k:s.Ok)(a:Int):∃H',run P 62 [.ptr rb 0,.i a] H=some (.Ju [.agg (s.JR a).1,.i (s.JR a).2],H')∧Gr H H':=by
 have m':=m.gr (Gr.app H [⟨Je 0 0 0,.rw,0⟩])
 have h0:=A8 m' k a
 have h1:=NU m' k a
 have hc:=m'.cells
 unfold Hp.KJ at h1
 unfold Hp.JR
 cases e:s.obj a with
 |none=>
  have h:=Hp.Nl.2 e
  rw[h]at h0
  refine⟨H++[⟨Je 0 0 0,.rw,0⟩],?_,Gr.app H _⟩
  rw[Gi c62 _ _ sM]
  unfold Je at h0⊢
  simp(disch:=first|exact dz|fail) only[simprocAttr,Gc,↓reduceIte,Gj,h0,fill,splice,and_self,Bool.false_eq_true]
 |some x=>
  have h:=Hp.J8.2 ⟨x,e⟩
  rw[h]at h0 h1
  rw[if_pos rfl]at h1
  have hx:=Hp.YM e
  obtain⟨b,n,tl,q1,q2,q3,q4,q5,q6⟩:=JO.row m' hx
  have q7:EZ (some ⟨Gz L.hv s.objs,.rw,8⟩) (s.idx a*8+2) 3=some (Je x.refs.length x.data.length x.kd):=by
   rw[Ug,if_pos oM]
   rw[←List.drop_drop,Ul L.hv s.objs _ x hx];rfl
  rw[q1]at hc
  refine⟨H++[⟨Je x.refs.length x.data.length x.kd,.rw,0⟩],?_,Gr.app H _⟩
  rw[Gi c62 _ _ sM]
  unfold Je at h0 h1 hc q3 q7⊢
  simp(disch:=first|exact dz|fail) only[simprocAttr,Gc,↓reduceIte,Gj,h0,h1,hc,q3,q5,q7,fill,splice,and_self]
end
end Go.Cs.Tryz
namespace Go.Cs.Tryz
open Go Go.Cs A
def Grk:Gm:=⟨36,0,T [n 6 0] (S (T [m 7 0,q1 8 78 7,no 9 8] (I 9 (Q [n 6 5]))) (S (T [m 10 0,m 11 1,q2 12 281 10 11,no 13 12,m 14 13,gf 14 (m 15 2),gf 14 (q1 16 282 15),gf 14 (no 17 16),or 18 14 17] (I 18 (Q [n 6 1]))) (S (T [m 19 0,z 20 19,f 21 0 20,l 22 1 21,m 23 1,x 24 2 22 23,f 25 0 24,l 26 1 25,bk 27 .neq 26 0] (I 27 (Q [n 6 8]))) (T [m 28 0,z 29 28,f 30 0 29,l 31 1 30,m 32 1,m 33 2,e 34 (.build [i 0,i 0] [(0,1,k 1),(1,1,t 33)]),x 35 2 31 32,st 2 35 34] (Q [n 6 0]))))),[r 6]⟩
theorem Ggq:P 237=some Grk:=by kernel_rfl
def GmQ:Gm:=⟨11,0,T [n 2 0] (S (T [m 3 0,q1 4 78 3,no 5 4] (I 5 (Q [n 2 0]))) (Q [m 6 0,z 7 6,f 8 0 7,l 9 1 8,le 10 9,m 2 10])),[r 2]⟩
theorem Gov:P 279=some GmQ:=by kernel_rfl
def GoC:Gm:=⟨29,0,T [n 4 0] (S (T [m 5 0,q1 6 78 5,no 7 6,m 8 7,gf 8 (m 9 1),gf 8 (bk 10 .lss 9 0),or 11 8 10,m 12 11,gf 12 (m 13 1),gf 12 (m 14 0),gf 12 (z 15 14),gf 12 (f 16 0 15),gf 12 (l 17 1 16),gf 12 (le 18 17),gf 12 (b 19 .geq 13 18),or 20 12 19] (I 20 (Q [n 4 (-1)]))) (Q [m 21 0,z 22 21,f 23 0 22,l 24 1 23,m 25 1,x 26 2 24 25,f 27 0 26,l 28 1 27,m 4 28])),[r 4]⟩
theorem Gnj:P 280=some GoC:=by kernel_rfl
def Go3:Gm:=⟨16,0,T [nb 4 false] (Q [m 5 1,bk 6 .geq 5 1,m 7 6,gt 7 (m 8 1),gt 7 (m 9 0),gt 7 (z 10 9),gt 7 (f 11 0 10),gt 7 (l 12 1 11),gt 7 (le 13 12),gt 7 (b 14 .lss 8 13),an 15 7 14,m 4 15]),[r 4]⟩
theorem Grp:P 281=some Go3:=by kernel_rfl
def GoH:Gm:=⟨9,0,T [nb 2 false] (Q [m 3 0,bk 4 .geq 3 0,m 5 4,gt 5 (m 6 0),gt 5 (bk 7 .lss 6 8),an 8 5 7,m 2 8]),[r 2]⟩
theorem Gof:P 282=some GoH:=by kernel_rfl
def GrB:Gm:=⟨29,0,T [n 4 0] (S (T [m 5 0,q1 6 78 5,no 7 6,m 8 7,gf 8 (m 9 1),gf 8 (bk 10 .lss 9 0),or 11 8 10,m 12 11,gf 12 (m 13 1),gf 12 (m 14 0),gf 12 (z 15 14),gf 12 (f 16 0 15),gf 12 (l 17 1 16),gf 12 (le 18 17),gf 12 (b 19 .geq 13 18),or 20 12 19] (I 20 (Q [n 4 (-1)]))) (Q [m 21 0,z 22 21,f 23 0 22,l 24 1 23,m 25 1,x 26 2 24 25,f 27 1 26,l 28 1 27,m 4 28])),[r 4]⟩
theorem Gr7:P 283=some GrB:=by kernel_rfl
end Go.Cs.Tryz
namespace Go.Cs
open Go
def Hp.Fz(s:Hp):Prop:=∀x∈s.blk,x.1=0→x.2=0
theorem Hp.Fz.any{s:Hp}(f:s.Fz)(i n:Nat):((s.blk.drop i).take n).any (fun x=>x.1 != 0||x.2 != 0)=((s.blk.drop i).take n).any (fun x=>x.1 != 0):=by
 rw[Bool.eq_iff_iff,List.any_eq_true,List.any_eq_true]
 constructor
 ·rintro ⟨x,hx,h⟩
  refine⟨x,hx,?_⟩
  have hm:x∈s.blk:=List.mem_of_mem_drop (List.mem_of_mem_take hx)
  simp only[Bool.or_eq_true,bne_iff_ne]at h⊢
  intro h0
  have:=f x hm h0
  omega
 ·rintro ⟨x,hx,h⟩
  exact⟨x,hx,by simp only[Bool.or_eq_true];exact .inl h⟩
theorem E_{l:List (Nat×Nat)}{b:Nat}{m x:Nat×Nat}:∀{k:Nat},x∈Kz l b m k→x∈l∨x=m
 |0,h=>.inl h
 |k+1,h=>by
  rcases List.mem_or_eq_of_mem_set h with h|h
  ·exact E_ h
  ·exact .inr h
theorem Hp.Fz.claim{s:Hp}(f:s.Fz)(b n:Int){fst Ed:Nat}(sp:Int)(h1:fst≠0)(h2:Ed≠0∨n=1)(Dj:Int):(s.claim b n fst sp Ed Dj).1.Fz:=by
 unfold Hp.claim
 split
 ·rename_i hc
  split
  ·exact f
  ·intro x hx h0
   dsimp only at hx
   rcases h2 with h2|h2
   ·rcases List.mem_or_eq_of_mem_set hx with h|h
    ·rcases E_ h with h|h
     ·exact f x h h0
     ·subst h;exact absurd h0 h2
    ·subst h;exact absurd h0 h1
   ·subst h2
    have e:(Kz s.blk b.toNat (Ed,Dj.toNat) (Int.toNat 1)).set b.toNat (fst,sp.toNat)=s.blk.set b.toNat (fst,sp.toNat):=by
     simp[Kz]
    rw[e]at hx
    rcases List.mem_or_eq_of_mem_set hx with h|h
    ·exact f x h h0
    ·subst h;exact absurd h0 h1
 ·exact f
theorem Hp.Ok.claim{s:Hp}(k:s.Ok)(b n:Int){fst Ed:Nat}(sp Dj:Int)(h1:fst≤3)(h2:Ed≤3)(h3:Dj=0∨Dj=sp):(s.claim b n fst sp Ed Dj).1.Ok:=by
 unfold Hp.claim
 split
 ·rename_i hc
  split
  ·exact k
  ·refine⟨by simp[UJ,k.nb],fun x hx=>?_,?_,k.apart,k.ids,k.born⟩
   ·rcases List.mem_or_eq_of_mem_set hx with h|h
    ·rcases E_ h with h|h
     ·exact k.st x h
     ·subst h;exact⟨h2,by simp only;omega⟩
    ·subst h;exact⟨h1,by simp only;omega⟩
   ·intro o ho
    have e:({s with blk:=(Kz s.blk b.toNat (Ed,Dj.toNat) n.toNat).set b.toNat (fst,sp.toNat)}:Hp).nw=s.nw:=by simp[Hp.nw,UJ]
    rw[e]
    exact k.ob o ho
 ·exact k
theorem JO.bv{o:Tags}{H:Gb}{rb:Nat}{s:Hp}{L:N_}(m:JO o H rb s L)(hn:0<s.blk.length):
  ∃b tl,L.bv=.slice b 0 s.blk.length s.blk.length 2 tl∧o b=some (0,1,0)∧H[b]?=some ⟨G6 s.blk,.rw,2⟩:=by
 obtain⟨tl,e1,e2,e3,e4⟩:=m.blk.pos hn
 exact⟨_,tl,e1,e2,e3⟩
theorem JO.Gbx{o:Tags}{H H':Gb}{rb:Nat}{s:Hp}{L:N_}(m:JO o H rb s L){b:Nat}{tl:Bool}(hv:L.bv=.slice b 0 s.blk.length s.blk.length 2 tl)(Vj:o b=some (0,1,0)){l:List (Nat×Nat)}(hl:l.length=s.blk.length)
  (hlen:H.length≤H'.length)(hw:H'[b]?=some ⟨G6 l,.rw,2⟩) (hk:∀c,c<H.length→c≠b→H'[c]?=H[c]?):JO o H' rb {s with blk:=l} L:=by
 have old:∀c t,o c=some t→t≠(0,1,0)→H'[c]?=H[c]?:=fun c t h hn=>hk c (m.dom c t h) (by rintro rfl;rw[Vj]at h;simp only[Gx]at h;exact hn h.symm)
 refine⟨fun c t h=>JH (m.dom c t h) hlen,m.top,?_,m.fv,?_,?_,?_⟩
 ·rw[old _ _ m.top sM,m.cells]
 ·exact .inr ⟨b,tl,by rw[hv];simp only[hl],Vj,hw,by have:=KE l;simp only;omega⟩
 ·exact m.objs.frame (fun c h=>h) fun c h=>old c _ h sM
 ·exact fun x hx=>⟨(m.refs x hx).1.frame (fun c h=>h) fun c h=>old c _ h sM,(m.refs x hx).2.frame (fun c h=>h) fun c h=>old c _ h sM⟩
theorem JO.IX{o:Tags}{H:Gb}{rb:Nat}{s:Hp}{L:N_}(m:JO o H rb s L){b:Nat}{x:Nat×Nat}(h:b<s.blk.length){bb:Nat}{tl:Bool}(hv:L.bv=.slice bb 0 s.blk.length s.blk.length 2 tl)(Vj:o bb=some (0,1,0))(hbb:H[bb]?=some ⟨G6 s.blk,.rw,2⟩):
  OT H bb (some ⟨G6 s.blk,.rw,2⟩) (b*2) [.i x.1,.i x.2]=some (H.set bb ⟨G6 (s.blk.set b x),.rw,2⟩)∧JO o (H.set bb ⟨G6 (s.blk.set b x),.rw,2⟩) rb {s with blk:=s.blk.set b x} L:=by
 refine⟨?_,m.Gbx hv Vj sM sM (by rw[KI (Gd hbb)]) fun c _ hc=>by rw[JU (Ne.symm hc)]⟩
 rw[GV (by rw[KE];simp;omega) rfl,Yl _ _ _ h]
theorem K_.set1{o:Tags}{H H':Gb}(g:K_ o H o H'){b:Nat}{t:Tag}(h:o b=some t)(k:JI):K_ o H o (H'.set b k):=
 ⟨by simpa using g.len,g.tag,fun c hc hn=>by rw[JU,g.keep c hc hn];rintro rfl;rw[h]at hn;cases hn⟩
theorem K_.refl{o:Tags}(H:Gb):K_ o H o H:=⟨Nat.le_refl _,fun _ _=>rfl,fun _ _ _=>rfl⟩
end Go.Cs
namespace Go.Cs.Tryz
open Go Go.Cs
section
variable {H : Gb} {o : Tags} {rb : Nat} {s : Hp} {L : N_}
theorem Iu(m:JO o H rb s L)(k:s.Ok):run P 279 [.ptr rb 0] H=some (.i s.blk.length,H):=by
 have h:=m.cells
 have h1:=QH m k
 have hl:=m.blk.len H
 rw[Gi Gov _ _ sM]
 simp(disch:=first|exact dz|fail) only[simprocAttr,Gc,↓reduceIte,Gv,h,h1,hl,Bool.not_true]
theorem EN(m:JO o H rb s L)(k:s.Ok)(b:Int):run P 280 [.ptr rb 0,.i b] H=some (.i (Hp.state s b),H):=by
 have h:=m.cells
 have h1:=QH m k
 have hl:=m.blk.len H
 obtain⟨bb,tl,e1,e2,e3⟩:=m.bv (by have:=k.nb;omega)
 rw[e1]at h hl
 rw[Gi Gnj _ _ sM]
 unfold Hp.state
 by_cases h0:0≤b
 ·rw[if_pos h0]
  obtain⟨n,rfl⟩:∃n:Nat,b=n:=⟨b.toNat,oM⟩
  by_cases hn:n<s.blk.length
  ·have hx:s.blk[n]?=some s.blk[n]:=J9 hn
   obtain⟨q1,q2⟩:=Kr s.blk n _ hx
   have c1:(0:Int)≤(n:Int)∧(n:Int)<(s.blk.length:Int):=by omega
   have c2:¬((n:Int)<0):=by omega
   have c3:¬((s.blk.length:Int)≤(n:Int)):=by omega
   simp(disch:=first|exact dz|fail) only[simprocAttr,Gc,↓reduceIte,Gj,h,h1,hl,c1,c2,c3,e3,q1,hx,decide_false,Bool.not_true]
  ·have hx:s.blk[n]?=none:=En oM
   have c2:¬((n:Int)<0):=by omega
   have c3:(s.blk.length:Int)≤(n:Int):=by omega
   simp(disch:=first|exact dz|fail) only[simprocAttr,Gc,↓reduceIte,Gj,h,h1,hl,c2,c3,hx,decide_false,decide_true,Bool.not_true]
 ·rw[if_neg h0]
  have c2:b<0:=by omega
  simp(disch:=first|exact dz|fail) only[simprocAttr,Gc,↓reduceIte,Gj,h,h1,c2,decide_true,Bool.not_true]
theorem Gdf(m:JO o H rb s L)(k:s.Ok)(b:Int):run P 283 [.ptr rb 0,.i b] H=some (.i (Hp.space s b),H):=by
 have h:=m.cells
 have h1:=QH m k
 have hl:=m.blk.len H
 obtain⟨bb,tl,e1,e2,e3⟩:=m.bv (by have:=k.nb;omega)
 rw[e1]at h hl
 rw[Gi Gr7 _ _ sM]
 unfold Hp.space
 by_cases h0:0≤b
 ·rw[if_pos h0]
  obtain⟨n,rfl⟩:∃n:Nat,b=n:=⟨b.toNat,oM⟩
  by_cases hn:n<s.blk.length
  ·have hx:s.blk[n]?=some s.blk[n]:=J9 hn
   obtain⟨q1,q2⟩:=Kr s.blk n _ hx
   have c1:(0:Int)≤(n:Int)∧(n:Int)<(s.blk.length:Int):=by omega
   have c2:¬((n:Int)<0):=by omega
   have c3:¬((s.blk.length:Int)≤(n:Int)):=by omega
   simp(disch:=first|exact dz|fail) only[simprocAttr,Gc,↓reduceIte,Gj,h,h1,hl,c1,c2,c3,e3,q2,hx,decide_false,Bool.not_true]
  ·have hx:s.blk[n]?=none:=En oM
   have c2:¬((n:Int)<0):=by omega
   have c3:(s.blk.length:Int)≤(n:Int):=by omega
   simp(disch:=first|exact dz|fail) only[simprocAttr,Gc,↓reduceIte,Gj,h,h1,hl,c2,c3,hx,decide_false,decide_true,Bool.not_true]
 ·rw[if_neg h0]
  have c2:b<0:=by omega
  simp(disch:=first|exact dz|fail) only[simprocAttr,Gc,↓reduceIte,Gj,h,h1,c2,decide_true,Bool.not_true]
theorem PI(m:JO o H rb s L)(b:Int):run P 281 [.ptr rb 0,.i b] H=some (.bool (decide (1≤b∧b<(s.blk.length:Int))),H):=by
 have h:=m.cells
 have hl:=m.blk.len H
 rw[Gi Grp _ _ sM]
 by_cases c:1≤b
 ·simp(disch:=first|exact dz|fail) only[simprocAttr,Gc,↓reduceIte,Gj,h,hl,c,decide_true]
  simp[c]
 ·simp(disch:=first|exact dz|fail) only[simprocAttr,Gc,↓reduceIte,Gj,h,hl,c,decide_false]
  simp[c]
theorem Py(n:Int):run P 282 [.i n] H=some (.bool (decide (0≤n∧n<8)),H):=by
 rw[Gi Gof _ _ sM]
 by_cases c:0≤n
 ·simp(disch:=first|exact dz|fail) only[simprocAttr,Gc,↓reduceIte,Gv,c,decide_true]
  simp[c]
 ·simp(disch:=first|exact dz|fail) only[simprocAttr,Gc,↓reduceIte,Gv,c,decide_false]
  simp[c]
theorem GbS(m:JO o H rb s L)(k:s.Ok)(f:s.Fz)(b sp:Int):Zm o H rb (s.claim b 1 1 sp 0 0).1 (.i (s.claim b 1 1 sp 0 0).2) (run P 237 [.ptr rb 0,.i b,.i sp] H):=by
 have h:=m.cells
 have h1:=QH m k
 have h2:=PI m b
 have h3:=Py (H:=H) sp
 obtain⟨bb,tl,e1,e2,e3⟩:=m.bv (by have:=k.nb;omega)
 rw[e1]at h
 unfold Hp.claim
 by_cases c:1≤b∧b<(s.blk.length:Int)
 ·rw[GK c]at h2
  by_cases c2:0≤sp∧sp<8
  ·rw[GK c2]at h3
   rw[if_pos oM]
   obtain⟨n,rfl⟩:∃n:Nat,b=n:=⟨b.toNat,oM⟩
   obtain⟨q,rfl⟩:∃n:Nat,sp=n:=⟨sp.toNat,oM⟩
   have hx:s.blk[n]?=some s.blk[n]:=J9 oM
   obtain⟨q1,q2⟩:=Kr s.blk n _ hx
   have c1:(0:Int)≤(n:Int)∧(n:Int)<(s.blk.length:Int):=by omega
   have hany:(((s.blk.drop ((n:Int)).toNat).take (1:Int).toNat).any fun x=>x.1 != 0||x.2 != 0)=((s.blk[n]'oM).1 != 0):=by
    rw[K6,show(1:Int).toNat=1 from rfl,f.any,drop_cons hx,List.take_succ_cons,List.take_zero,List.any_cons,List.any_nil,Bool.or_false]
   rw[hany]
   by_cases c3:(s.blk[n]'oM).1=0
   ·have c4:((((s.blk[n]'oM).1:Nat):Int) != 0)=false:=by rw[c3];rfl
    rw[if_neg (by simp[c3])]
    obtain⟨st,mn⟩:=m.IX (b:=n) (x:=(1,q)) oM e1 e2 e3
    refine⟨_,o,L,?_,?_,(K_.refl H).set1 e2 ⟨G6 (s.blk.set n (1,q)),.rw,2⟩⟩
    ·rw[Gi Ggq _ _ sM]
     simp(disch:=first|exact dz|fail) only[simprocAttr,Gc,↓reduceIte,G8,h,h1,h2,h3,Bool.not_true,c1,e3,q1,c4,fill,splice,and_self,show OT H bb (some ⟨G6 s.blk,.rw,2⟩) (n*2) [.int .i64 1,.int .i64 (q:Int)]=_ from st]
    ·have e:(Kz s.blk ((n:Int)).toNat (0,(0:Int).toNat) (1:Int).toNat).set ((n:Int)).toNat (1,((q:Int)).toNat)=s.blk.set n (1,q):=by simp[Kz]
     rw[e];exact mn
   ·have c4:((((s.blk[n]'oM).1:Nat):Int) != 0)=true:=by simp;exact c3
    rw[if_pos (by simp[c3])]
    refine⟨H,o,L,?_,m,K_.refl H⟩
    rw[Gi Ggq _ _ sM]
    simp(disch:=first|exact dz|fail) only[simprocAttr,Gc,↓reduceIte,G8,h,h1,h2,h3,Bool.not_true,c1,e3,q1,c4]
  ·rw[GC c2]at h3
   rw[if_neg oM]
   refine⟨H,o,L,?_,m,K_.refl H⟩
   rw[Gi Ggq _ _ sM]
   simp(disch:=first|exact dz|fail) only[simprocAttr,Gc,↓reduceIte,G8,h,h1,h2,h3,Bool.not_true,Bool.not_false]
 ·rw[GC c]at h2
  rw[if_neg oM]
  refine⟨H,o,L,?_,m,K_.refl H⟩
  rw[Gi Ggq _ _ sM]
  simp(disch:=first|exact dz|fail) only[simprocAttr,Gc,↓reduceIte,G8,h,h1,h2,Bool.not_true,Bool.not_false]
end
end Go.Cs.Tryz
namespace Go.Cs.Tryz
open Go Go.Cs A
def C65:Gm:=⟨8,0,T [n 4 0] (Q [m 5 0,m 6 1,ca 7 161 [t 5,t 6,c (.bool true)],m 4 7]),[r 4]⟩
theorem c65:P 65=some C65:=by kernel_rfl
def Gp9:Gm:=⟨6,0,T [bo 1 0,nb 2 false] (Q [lg 3 3 1,q1 4 238 3,bk 5 .gtr 4 32,m 2 5]),[r 2]⟩
theorem c146:P 146=some Gp9:=by kernel_rfl
def Go8:Gm:=⟨8,0,T [bo 1 0,n 2 0] (Q [lg 3 3 1,q1 4 238 3,bk 5 .add 4 64,bk 6 .sub 5 1,bk 7 .quo 6 64,m 2 7]),[r 2]⟩
theorem c148:P 148=some Go8:=by kernel_rfl
def GqT:Gm:=⟨56,0,T [n 8 0] (S (T [m 11 0,m 12 1,q2 13 152 11 12,m 9 13] (T [m 14 9,bk 15 .neq 14 0] (I 15 (Q [m 16 9,m 8 16])))) (T [m 17 0,m 18 1,q2 19 22 17 18,m 10 19] (S (T [m 20 2,bk 21 .lss 20 0,m 22 21,gf 22 (m 23 2),gf 22 (m 24 0),gf 22 (z 25 24),gf 22 (f 26 1 25),gf 22 (l 27 1 26),gf 22 (m 28 10),gf 22 (x 29 8 27 28),gf 22 (f 30 5 29),gf 22 (l 31 1 30),gf 22 (le 32 31),gf 22 (b 33 .geq 23 32),or 34 22 33,m 35 34,gf 35 (m 36 3),gf 35 (bk 37 .neq 36 0),gf 35 (m 38 37),gt 38 (m 39 0),gt 38 (m 40 3),gt 38 (q2 41 176 39 40),gt 38 (no 42 41),gf 35 (an 43 38 42),or 44 35 43] (I 44 (Q [n 8 1]))) (T [m 45 0,z 46 45,f 47 1 46,l 48 1 47,m 49 10,x 50 8 48 49,f 51 5 50,l 52 1 51,m 53 2,m 54 3,x 55 1 52 53,st 1 55 54] (Q [n 8 0]))))),[r 8]⟩
theorem c156:P 156=some GqT:=by kernel_rfl
def GmK:Gm:=⟨24,0,T [n 6 0] (S (T [m 8 0,m 9 1,q2 10 152 8 9,m 7 10] (T [m 11 7,bk 12 .neq 11 0] (I 12 (Q [m 13 7,m 6 13])))) (S (D [⟨m 18 0,4,0,0⟩,⟨m 19 1,5,0,0⟩,⟨q2 20 22 18 19,6,3,0⟩,⟨m 14 0,0,0,0⟩,⟨z 15 14,1,0,0⟩,⟨f 16 1 15,2,0,0⟩,⟨l 17 1 16,3,1,0⟩,⟨m 21 2,7,0,0⟩,⟨x 22 8 17 20,8,0,1⟩,⟨f 23 7 22,9,0,1⟩,⟨st 1 23 21,10,3,1⟩]) (Q [n 6 0]))),[r 6]⟩
theorem GlK:P 161=some GmK:=by kernel_rfl
def Goa:Gm:=⟨17,0,T [bo 1 0,n 2 0] (S (T [lg 4 3 1,q1 5 240 4,no 6 5] (I 6 (Q [n 2 0]))) (T [f 7 0 1,l 8 1 7,e 9 (.bin .add (k 2) (t 8)),f 10 1 1,l 11 1 10,b 12 .add 9 11,m 3 12] (Q [m 13 3,m 14 3,bk 15 .rem 14 2,b 16 .add 13 15,m 2 16]))),[r 2]⟩
theorem Gq2:P 238=some Goa:=by kernel_rfl
def Gr6:Gm:=⟨36,0,T [bo 1 0,nb 2 false] (S (T [f 3 0 1,l 4 1 3,bk 5 .lss 4 0,m 6 5,gf 6 (f 7 0 1),gf 6 (l 8 1 7),gf 6 (bk 9 .gtr 8 15),or 10 6 9,m 11 10,gf 11 (f 12 1 1),gf 11 (l 13 1 12),gf 11 (bk 14 .lss 13 0),or 15 11 14,m 16 15,gf 16 (f 17 1 1),gf 16 (l 18 1 17),gf 16 (bk 19 .gtr 18 200),or 20 16 19] (I 20 (Q [nb 2 false]))) (S (T [f 21 2 1,l 22 1 21] (B 0 (S (T [bk 24 .eql 22 0,m 23 24] (J 23 (R [bk 25 .eql 22 3,m 23 25]))) (C 23 (Q [nb 2 true]) (T [bk 27 .eql 22 1,m 26 27] (C 26 (Q [f 28 0 1,l 29 1 28,bk 30 .geq 29 1,m 2 30]) (T [bk 32 .eql 22 2,m 31 32] (I 31 (Q [f 33 0 1,l 34 1 33,bk 35 .geq 34 2,m 2 35]))))))))) (Q [nb 2 false]))),[r 2]⟩
theorem Gr1:P 240=some Gr6:=by kernel_rfl
def Bw:Gu:=S (T [m 24 1,m 25 5,b 26 .add 24 25,m 27 0,z 28 27,f 29 0 28,l 30 1 29,le 31 30,b 32 .lss 26 31,m 33 32,gt 33 (m 34 0),gt 33 (z 35 34),gt 33 (f 36 0 35),gt 33 (l 37 1 36),gt 33 (m 38 1),gt 33 (m 39 5),gt 33 (b 40 .add 38 39),gt 33 (x 41 2 37 40),gt 33 (f 42 0 41),gt 33 (l 43 1 42),gt 33 (bk 44 .eql 43 3),an 45 33 44] (J 45 (X 0))) (B 1 (R [m 46 5,bk 47 .add 46 1,m 5 47]))
def Gpf:Gm:=⟨49,0,T [n 4 0] (S (T [m 6 0,z 7 6,f 8 0 7,l 9 1 8,m 10 1,x 11 2 9 10,f 12 0 11,l 13 1 12,bk 14 .eql 13 1] (I 14 (Q [n 4 1]))) (S (T [m 15 0,z 16 15,f 17 0 16,l 18 1 17,m 19 1,x 20 2 18 19,f 21 0 20,l 22 1 21,bk 23 .neq 22 2] (I 23 (Q [n 4 0]))) (T [n 5 1] (S (B 0 (W Bw)) (Q [m 48 5,m 4 48]))))),[r 4]⟩
theorem GpX:P 289=some Gpf:=by kernel_rfl
end Go.Cs.Tryz
namespace Go.Cs
open Go
def Hp.whole(s:Hp)(b:Nat):Nat:=if s.GI b=1 then 1 else if s.GI b=2 then s.span b else 0
theorem DX{hv:Nat→CV×CV}:∀{l:List Ob}{j:Nat}{x y:Ob}{i:Nat}{v:CV},l[j]?=some x→i<8→(GN hv x).set i v=GN hv y→(Gz hv l).set (j*8+i) v=Gz hv (l.set j y)
 |[],j,x,y,i,v,h,_,_=>by simp at h
 |z::l,0,x,y,i,v,h,hi,e=>by
  simp only[List.getElem?_cons_zero,Gx]at h
  subst h
  rw[List.set_cons_zero,Jg,Jg,Nat.zero_mul,Nat.zero_add,List.set_append_left _ _ (by simpa[GN]using hi),e]
 |z::l,j+1,x,y,i,v,h,hi,e=>by
  simp only[List.getElem?_cons_succ]at h
  rw[List.set_cons_succ,Jg,Jg,List.set_append_right _ _ (by simp[GN];omega)]
  have e2:(j+1)*8+i-(GN hv z).length=j*8+i:=by simp[GN];omega
  rw[e2,DX h hi e]
theorem Hp.Ok.Geq{s:Hp}(k:s.Ok){x y:Ob}(hx:x∈s.objs)(hy:y∈s.objs)(e:x.addr=y.addr):x=y:=by
 have h1:=x.size_pos
 have h2:=y.size_pos
 exact k.same hx hy (w:=x.addr) oM oM
theorem KV{α:Type}{r:α→α→Prop}:∀{l:List α}{i j:Nat}{a b:α},l.Pairwise r→i<j→l[i]?=some a→l[j]?=some b→r a b
 |[],i,j,a,b,_,_,h,_=>by simp at h
 |x::l,0,j+1,a,b,hp,_,h1,h2=>by
  simp only[List.getElem?_cons_zero,Gx,List.getElem?_cons_succ]at h1 h2
  rw[List.pairwise_cons]at hp
  subst h1
  exact hp.1 b (JX h2)
 |x::l,i+1,j+1,a,b,hp,hij,h1,h2=>by
  simp only[List.getElem?_cons_succ]at h1 h2
  rw[List.pairwise_cons]at hp
  exact KV hp.2 oM h1 h2
theorem Hp.Ok.GaO{s:Hp}(k:s.Ok){i j:Nat}{x y:Ob}(hx:s.objs[i]?=some x) (hy:s.objs[j]?=some y) (e:x.addr=y.addr):i=j:=by
 rcases Nat.lt_trichotomy i j with h|h|h
 ·have:=KV k.apart h hx hy
  have:=x.size_pos
  omega
 ·exact h
 ·have:=KV k.apart h hy hx
  have:=y.size_pos
  omega
theorem Hp.Ok.GhK{s:Hp}(k:s.Ok){j:Nat}{x:Ob}(hx:s.objs[j]?=some x) (f:Ob→Ob):(s.upd x.addr f).objs=s.objs.set j (f x):=by
 refine List.ext_getElem? fun i=>?_
 show(s.objs.map _)[i]?=_
 rw[Ke,Lu]
 by_cases e:j=i
 ·subst e
  rw[if_pos rfl,if_pos (Gd hx),hx]
  simp
 ·rw[if_neg e]
  cases h:s.objs[i]? with
  |none=>rfl
  |some y=>
   have:y.addr≠x.addr:=fun h2=>e (k.GaO hx h h2.symm)
   simp[this]
theorem OA{hv:Nat→CV×CV}{l:List Ob}{g:Ob→Ob}(h:∀x∈l,GN hv (g x)=GN hv x):Gz hv (l.map g)=Gz hv l:=by
 induction l with
 |nil=>rfl
 |cons x l ih=>rw[List.map_cons,Jg,Jg,h x NC,ih fun y hy=>h y (Um _ hy)]
section
variable {H : Gb} {o : Tags} {rb : Nat} {s : Hp} {L : N_}
theorem JO.rv(m:JO o H rb s L){x:Ob}(hx:x∈s.objs)(hn:0<x.refs.length):
  ∃b tl,(L.hv x.id).1=.slice b 0 x.refs.length x.refs.length 1 tl∧o b=some (0,3,x.id)∧H[b]?=some ⟨ints x.refs,.rw,1⟩:=by
 obtain⟨tl,e1,e2,e3,e4⟩:=(m.refs x hx).1.pos hn
 exact⟨_,tl,e1,e2,e3⟩
theorem JO.GgQ(m:JO o H rb s L)(k:s.Ok){x:Ob}(hx:x∈s.objs){b:Nat}{tl:Bool}(hv:(L.hv x.id).1=.slice b 0 x.refs.length x.refs.length 1 tl)(Vj:o b=some (0,3,x.id))(hb:b<H.length)(i:Nat)(v:Int):
  JO o (H.set b ⟨ints (x.refs.set i v),.rw,1⟩) rb (s.upd x.addr fun o=>{o with refs:=o.refs.set i v}) L:=by
 have old:∀c t,o c=some t→t≠(0,3,x.id)→(H.set b ⟨ints (x.refs.set i v),.rw,1⟩)[c]?=H[c]?:=fun c t h hn=>by
  rw[JU];rintro rfl;rw[Vj]at h;simp only[Gx]at h;exact hn h.symm
 have hlen:(s.upd x.addr fun o=>{o with refs:=o.refs.set i v}).objs.length=s.objs.length:=by simp[Hp.upd]
 refine⟨fun c t h=>by rw[List.length_set];exact m.dom c t h,m.top,?_,m.fv,m.blk.frame (fun c h=>h) fun c h=>old c _ h sM,?_,?_⟩
 ·rw[old _ _ m.top sM,m.cells];rfl
 ·have:=m.objs.frame (o':=o) (H':=H.set b ⟨ints (x.refs.set i v),.rw,1⟩) (fun c h=>h) fun c h=>old c _ h sM
  rw[hlen]
  have e:Gz L.hv (s.upd x.addr fun o=>{o with refs:=o.refs.set i v}).objs=Gz L.hv s.objs:=OA fun y hy=>by
   split
   ·simp[GN]
   ·rfl
  rw[e];exact this
 ·intro y hy
  simp only[Hp.upd,YX]at hy
  obtain⟨z,hz,rfl⟩:=hy
  by_cases c:z.addr=x.addr
  ·have:=k.Geq hz hx c
   subst this
   rw[if_pos rfl]
   refine⟨.inr ⟨b,tl,by rw[hv];simp,Vj,by rw[KI hb],by simp[ints]⟩,?_⟩
   exact(m.refs z hz).2.frame (fun c h=>h) fun c h=>old c _ h sM
  ·rw[if_neg c]
   have hid:z.id≠x.id:=by
    rcases QI k.ids hz hx with e|e|e
    ·exact absurd (by rw[e]) c
    ·exact e
    ·exact e.symm
   exact⟨(m.refs z hz).1.frame (fun c h=>h) fun c h=>old c _ h (by simp[hid]),(m.refs z hz).2.frame (fun c h=>h) fun c h=>old c _ h sM⟩
theorem JO.Ka(m:JO o H rb s L)(k:s.Ok){j:Nat}{x:Ob}(hx:s.objs[j]?=some x) {b n:Nat} {tl:Bool} (hv:L.ov=.slice b 0 n n 8 tl) (hn:n=s.objs.length) (Vj:o b=some (0,2,0)) (hb:b<H.length) (v:Bool):
  JO o (H.set b ⟨(Gz L.hv s.objs).set (j*8+7) (.bool v),.rw,8⟩) rb (s.upd x.addr fun o=>{o with pin:=v}) L:=by
 obtain⟨cs,hcs⟩:∃cs,cs=(Gz L.hv s.objs).set (j*8+7) (.bool v):=⟨_,rfl⟩
 have old:∀c t,o c=some t→t≠(0,2,0)→(H.set b ⟨cs,.rw,8⟩)[c]?=H[c]?:=fun c t h hn=>by
  rw[JU];rintro rfl;rw[Vj]at h;simp only[Gx]at h;exact hn h.symm
 rw[←hcs]
 have hlen:(s.upd x.addr fun o=>{o with pin:=v}).objs.length=s.objs.length:=by simp[Hp.upd]
 refine⟨fun c t h=>by rw[List.length_set];exact m.dom c t h,m.top,?_,m.fv,m.blk.frame (fun c h=>h) fun c h=>old c _ h sM,?_,?_⟩
 ·rw[old _ _ m.top sM,m.cells];rfl
 ·refine .inr ⟨b,tl,by rw[hv,hlen,hn],Vj,?_,by rw[KZ]⟩
  rw[KI hb,hcs,k.GhK hx,DX hx oM (y:={x with pin:=v}) rfl]
 ·intro y hy
  simp only[Hp.upd,YX]at hy
  obtain⟨z,hz,rfl⟩:=hy
  have:=m.refs z hz
  split
  ·exact⟨this.1.frame (fun c h=>h) fun c h=>old c _ h sM,this.2.frame (fun c h=>h) fun c h=>old c _ h sM⟩
  ·exact⟨this.1.frame (fun c h=>h) fun c h=>old c _ h sM,this.2.frame (fun c h=>h) fun c h=>old c _ h sM⟩
end
end Go.Cs
namespace Go.Cs.Tryz
open Go Go.Cs
section
variable {H : Gb} {o : Tags} {rb : Nat} {s : Hp} {L : N_}
theorem PE(r d k:Int):run P 240 [.agg (Je r d k)] H=some (.bool (JJ r d k),H++[⟨Je r d k,.rw,0⟩]):=by
 rw[Gi Gr1 _ _ sM]
 unfold Je
 have key:∀b,JJ r d k=b↔(b=true↔(0≤r∧r≤15)∧(0≤d∧d≤200)∧(0≤k∧k≤3)∧(k≠1∨1≤r)∧(k≠2∨2≤r)):=fun b=>by
  rw[Bool.eq_iff_iff,NR]
  exact⟨fun h=>h.symm,fun h=>h.symm⟩
 have fin:∀b:Bool,(b=true↔(0≤r∧r≤15)∧(0≤d∧d≤200)∧(0≤k∧k≤3)∧(k≠1∨1≤r)∧(k≠2∨2≤r))→b=JJ r d k:=fun b h=>((key b).2 h).symm
 by_cases c1:r<0
 ·simp(disch:=first|exact dz|fail) only[simprocAttr,Gc,↓reduceIte,Gv,c1,decide_true,decide_false,←fin false (by simp;omega)]
 by_cases c2:15<r
 ·simp(disch:=first|exact dz|fail) only[simprocAttr,Gc,↓reduceIte,Gv,c1,c2,decide_true,decide_false,←fin false (by simp;omega)]
 by_cases c3:d<0
 ·simp(disch:=first|exact dz|fail) only[simprocAttr,Gc,↓reduceIte,Gv,c1,c2,c3,decide_true,decide_false,←fin false (by simp;omega)]
 by_cases c4:200<d
 ·simp(disch:=first|exact dz|fail) only[simprocAttr,Gc,↓reduceIte,Gv,c1,c2,c3,c4,decide_true,decide_false,←fin false (by simp;omega)]
 by_cases d0:k=0
 ·have e0:(k==0)=true:=by simp[d0]
  simp(disch:=first|exact dz|fail) only[simprocAttr,Gc,↓reduceIte,Gv,c1,c2,c3,c4,e0,decide_true,decide_false,←fin true (by simp;omega)]
 have e0:(k==0)=false:=by simp[d0]
 by_cases d3:k=3
 ·have e3:(k==3)=true:=by simp[d3]
  simp(disch:=first|exact dz|fail) only[simprocAttr,Gc,↓reduceIte,Gv,c1,c2,c3,c4,e0,e3,decide_true,decide_false,←fin true (by simp;omega)]
 have e3:(k==3)=false:=by simp[d3]
 by_cases d1:k=1
 ·have e1:(k==1)=true:=by simp[d1]
  simp(disch:=first|exact dz|fail) only[simprocAttr,Gc,↓reduceIte,Gv,c1,c2,c3,c4,e0,e3,e1,decide_true,decide_false,←fin (decide (1≤r)) (by simp;omega)]
 have e1:(k==1)=false:=by simp[d1]
 by_cases d2:k=2
 ·have e2:(k==2)=true:=by simp[d2]
  simp(disch:=first|exact dz|fail) only[simprocAttr,Gc,↓reduceIte,Gv,c1,c2,c3,c4,e0,e3,e1,e2,decide_true,decide_false,←fin (decide (2≤r)) (by simp;omega)]
 have e2:(k==2)=false:=by simp[d2]
 simp(disch:=first|exact dz|fail) only[simprocAttr,Gc,↓reduceIte,Gv,c1,c2,c3,c4,e0,e3,e1,e2,decide_true,decide_false,←fin false (by simp;omega)]
theorem Qs(r d k:Int):∃H',run P 238 [.agg (Je r d k)] H=some (.i (G5 r d k),H')∧Gr H H':=by
 have hv:=PE (H:=H++[⟨Je r d k,.rw,0⟩]) r d k
 refine⟨H++[⟨Je r d k,.rw,0⟩]++[⟨Je r d k,.rw,0⟩],?_,(Gr.app H _).app' _⟩
 rw[Gi Gq2 _ _ sM]
 unfold G5
 by_cases c:JJ r d k=true
 ·have hb:=Qu c
  rw[c]at hv
  rw[if_pos c]
  unfold Je at hv⊢
  have w1:IntKind.i64.wrap (2+r)=2+r:=Gh oM
  have w2:IntKind.i64.wrap (2+r+d)=2+r+d:=Gh oM
  have e:(2+r+d).tmod 2=(2+r+d) % 2:=Int.tmod_eq_emod_of_nonneg oM
  have w5:IntKind.i64.wrap (2+r+d+(2+r+d) % 2)=((G7 r.toNat d.toNat:Nat):Int):=by
   rw[Gh oM];unfold G7;omega
  simp(disch:=first|exact dz|fail) only[simprocAttr,Gc,↓reduceIte,Gv,hv,Bool.not_true,w1,w2,e,w5,GA]
 ·have c':JJ r d k=false:=by simpa using c
  rw[c']at hv⊢
  unfold Je at hv⊢
  simp(disch:=first|exact dz|fail) only[simprocAttr,Gc,↓reduceIte,Gv,hv,Bool.not_false,Bool.false_eq_true]
theorem QJ(r d k:Int):0≤G5 r d k∧G5 r d k≤218:=by
 unfold G5
 split
 ·rename_i c
  have:=Qu c
  unfold G7;omega
 ·omega
theorem Ao(r d k:Int):∃H',run P 146 [.agg (Je r d k)] H=some (.bool (decide (32<G5 r d k)),H')∧Gr H H':=by
 obtain⟨H',h1,g⟩:=Qs (H:=H++[⟨Je r d k,.rw,0⟩]) r d k
 refine⟨H',?_,(Gr.app H _).trans g⟩
 rw[Gi c146 _ _ sM]
 unfold Je at h1⊢
 simp(disch:=first|exact dz|fail) only[simprocAttr,Gc,↓reduceIte,Gv,h1]
theorem I4(r d k:Int):∃H',run P 148 [.agg (Je r d k)] H=some (.i ((G5 r d k+63)/64),H')∧Gr H H':=by
 obtain⟨H',h1,g⟩:=Qs (H:=H++[⟨Je r d k,.rw,0⟩]) r d k
 have hb:=QJ r d k
 refine⟨H',?_,(Gr.app H _).trans g⟩
 rw[Gi c148 _ _ sM]
 have w1:IntKind.i64.wrap (G5 r d k+64)=G5 r d k+64:=Gh oM
 have w2:IntKind.i64.wrap (G5 r d k+64-1)=G5 r d k+63:=by rw[Gh oM];omega
 have e:(G5 r d k+63).tdiv 64=(G5 r d k+63)/64:=Int.tdiv_eq_ediv_of_nonneg oM
 have w3:IntKind.i64.wrap ((G5 r d k+63)/64)=(G5 r d k+63)/64:=Gh oM
 unfold Je at h1⊢
 simp(disch:=first|exact dz|fail) only[simprocAttr,Gc,↓reduceIte,Gv,h1,w1,w2,e,w3,GH]
theorem AJ(m:JO o H rb s L){b:Nat}{x:Nat×Nat}(h:s.blk[b]?=some x):∃bb tl,L.bv=.slice bb 0 s.blk.length s.blk.length 2 tl∧o bb=some (0,1,0)∧H[bb]?=some ⟨G6 s.blk,.rw,2⟩∧(G6 s.blk)[b*2]?=some (.i x.1)∧((0:Int)≤(b:Int)∧(b:Int)<(s.blk.length:Int)):=by
 obtain⟨q1,q2⟩:=Kr s.blk b x h
 have:=Gd h
 obtain⟨bb,tl,e1,e2,e3⟩:=m.bv oM
 exact⟨bb,tl,e1,e2,e3,q1,oM⟩
theorem Ggj(m:JO o H rb s L)(k:s.Ok){b:Nat}(hb:b<s.blk.length)(h2:s.GI b=2)
  {E0:Env}(h0:E0 0=.ptr rb 0)(h1:E0 1=.i b)(h5:E0 5=.i 1){r:Option (CX×Env×Gb)}(hr:den P (.loop Bw) E0 H=r):
  ∃E',r=some (.exit 0,E',H)∧E' 5=.i (s.span b):=by
 have hnb:=k.nb
 obtain⟨x',E',H',e,-,⟨rfl,rfl,hf⟩,fr⟩:=Gy (p:=P) (c:=Bw) (E0:=E0) (H0:=H)
  (fun q E H'=>H'=H∧∃n:Nat,E 5=.i n∧1≤n∧n≤s.blk.length∧q=s.blk.length-n∧n+tails (s.blk.drop (b+n))=s.span b)
  (fun x' E' H'=>x'=.exit 0∧H'=H∧E' 5=.i (s.span b)) (by
   rintro q E H' hE ⟨rfl,n,e5,hn1,hn2,rfl,hd⟩
   have e0:=(hE 0 dK).trans h0
   have e1:=(hE 1 dK).trans h1
   have hc:=m.cells
   have hl:=m.blk.len H'
   have w1:IntKind.i64.wrap ((b:Int)+(n:Int))=((b+n:Nat):Int):=Gh oM
   by_cases c2:b+n<s.blk.length
   ·have hy:s.blk[b+n]?=some s.blk[b+n]:=J9 c2
    obtain⟨bb,tl,p1,p2,p3,p4,p5⟩:=AJ m hy
    rw[p1]at hc hl
    have c2':decide (((b+n:Nat):Int)<(s.blk.length:Int))=true:=GK oM
    rw[LV hy]at hd
    by_cases c3:s.blk[b+n].1=3
    ·rw[if_pos c3]at hd
     rw[c3]at p4
     have w2:IntKind.i64.wrap ((n:Int)+1)=((n+1:Nat):Int):=Gh oM
     apply Gt (k':=s.blk.length-(n+1))
     ·simp(disch:=first|exact dz|fail) only[simprocAttr,Gc,↓reduceIte,Bw,e0,e1,e5,hc,hl,w1,p3,p4,p5,c2',w2,show(((3:Nat):Int)==3)=true from rfl]
      rfl
     ·omega
     ·exact⟨rfl,n+1,uA,oM,oM,rfl,by rw[←hd];rw[show b+(n+1)=b+n+1 from rfl];omega⟩
    ·rw[if_neg c3]at hd
     have c4:(((s.blk[b+n].1:Nat):Int)==3)=false:=by simp;omega
     apply Gl (x:=.exit 0)
     ·simp(disch:=first|exact dz|fail) only[simprocAttr,Gc,↓reduceIte,Bw,e0,e1,e5,hc,hl,w1,p3,p4,p5,c2',c4]
      rfl
     ·simp
     ·exact⟨rfl,rfl,by rw[←hd];simp[Gg,e5]⟩
   ·have c2':decide (((b+n:Nat):Int)<(s.blk.length:Int))=false:=GC oM
    rw[Pj oM]at hd
    apply Gl (x:=.exit 0)
    ·simp(disch:=first|exact dz|fail) only[simprocAttr,Gc,↓reduceIte,Bw,e0,e1,e5,hc,hl,w1,c2']
     rfl
    ·simp
    ·exact⟨rfl,rfl,by rw[←hd];simp[Gg,e5]⟩) _ ⟨rfl,1,h5,oM,oM,rfl,by unfold Hp.span;unfold Hp.GI at h2;rw[if_pos h2]⟩
 exact⟨E',hr.symm.trans e,hf⟩
theorem GcQ(m:JO o H rb s L)(k:s.Ok){b:Nat}(hb:b<s.blk.length):run P 289 [.ptr rb 0,.i b] H=some (.i (s.whole b),H):=by
 have hx:s.blk[b]?=some s.blk[b]:=J9 hb
 have hst:s.GI b=(s.blk[b]).1:=by unfold Hp.GI;rw[Qc,hx];rfl
 obtain⟨bb,tl,p1,p2,p3,p4,p5⟩:=AJ m hx
 have hc:=m.cells
 rw[←hst]at p4
 rw[Gi GpX _ _ sM]
 have hc':=hc
 rw[p1]at hc'
 unfold Hp.whole
 by_cases c1:s.GI b=1
 ·rw[if_pos c1]
  rw[c1]at p4
  simp(disch:=first|exact dz|fail) only[simprocAttr,Gc,↓reduceIte,Gj,hc',p3,p4,p5,show(((1:Nat):Int)==1)=true from rfl]
  try rfl
 ·rw[if_neg c1]
  have e1:(((s.GI b:Nat):Int)==1)=false:=by simp;omega
  by_cases c2:s.GI b=2
  ·rw[if_pos c2]
   rw[c2]at p4 e1
   simp(disch:=first|exact dz|fail) only[simprocAttr,Gc,↓reduceIte,Gj,hc',p3,p4,p5,e1,show(((2:Nat):Int) != 2)=false from rfl]
   generalize hr:den P (.loop Bw) _ _=r
   obtain⟨E',rfl,h⟩:=Ggj m k (b:=b) hb c2 uA uA uA hr
   simp(disch:=first|exact dz|fail) only[simprocAttr,Gc,↓reduceIte,h]
  ·rw[if_neg c2]
   have e2:(((s.GI b:Nat):Int) != 2)=true:=by simp;omega
   simp(disch:=first|exact dz|fail) only[simprocAttr,Gc,↓reduceIte,Gj,hc',p3,p4,p5,e1,e2]
   try rfl
theorem XB(m:JO o H rb s L)(k:s.Ok)(a i to:Int):Zm o H rb (s.setRef a i to).1 (.i (s.setRef a i to).2) (run P 156 [.ptr rb 0,.i a,.i i,.i to] H):=by
 have h0:=A8 m k a
 have h1:=NU m k a
 have h2:=Gbj m k to
 have hc:=m.cells
 unfold Hp.KJ at h1
 unfold Hp.setRef
 cases e:s.obj a with
 |none=>
  have h:=Hp.Nl.2 e
  rw[h]at h0
  refine⟨H,o,L,?_,m,K_.refl H⟩
  rw[Gi c156 _ _ sM]
  simp(disch:=first|exact dz|fail) only[simprocAttr,Gc,↓reduceIte,GJ,h0,Bool.false_eq_true]
 |some x=>
  have h:=Hp.J8.2 ⟨x,e⟩
  rw[h]at h0 h1
  rw[if_pos rfl]at h1
  have hx:=Hp.YM e
  have hxm:=(Hp.Jy e).1
  obtain⟨b,n,tl,q1,q2,q3,q4,q5,q6⟩:=JO.row m hx
  have q7:=Qe (hv:=L.hv) hx (i:=5) (v:=(L.hv x.id).1) rfl
  rw[q1]at hc
  have hl:=(m.refs x hxm).1.len H
  dsimp only
  by_cases c:0≤i∧i<(x.refs.length:Int)
  ·rw[if_pos c]
   obtain⟨j,rfl⟩:∃j:Nat,i=j:=⟨i.toNat,oM⟩
   have c1:decide ((j:Int)<0)=false:=GC oM
   have c2:decide ((x.refs.length:Int)≤(j:Int))=false:=GC oM
   obtain⟨b2,tl2,r1,r2,r3⟩:=m.rv hxm oM
   have st:j<(ints x.refs).length:=by rw[Aa];omega
   rw[r1]at hl q7
   have mn:=m.GgQ k hxm r1 r2 (Gd r3) j to
   rw[ints_set]at mn
   by_cases c3:to=0
   ·rw[if_pos (.inl c3)]
    have e3:(to != 0)=false:=by simp[c3]
    refine⟨_,o,L,?_,mn,(K_.refl H).set1 r2 _⟩
    rw[Gi c156 _ _ sM]
    simp(disch:=first|exact dz|fail) only[simprocAttr,Gc,↓reduceIte,GJ,h0,h1,hc,q3,q5,q7,hl,c1,c2,e3,r3,c,Nn Gq st]
   ·have e3:(to != 0)=true:=by simp[c3]
    by_cases c4:s.has to=true
    ·rw[if_pos (.inr c4)]
     rw[c4]at h2
     refine⟨_,o,L,?_,mn,(K_.refl H).set1 r2 _⟩
     rw[Gi c156 _ _ sM]
     simp(disch:=first|exact dz|fail) only[simprocAttr,Gc,↓reduceIte,GJ,h0,h1,h2,hc,q3,q5,q7,hl,c1,c2,e3,r3,c,Bool.not_true,Nn Gq st]
    ·rw[if_neg (fun h=>h.elim c3 c4)]
     have c4':s.has to=false:=by simpa using c4
     rw[c4']at h2
     refine⟨H,o,L,?_,m,K_.refl H⟩
     rw[Gi c156 _ _ sM]
     simp(disch:=first|exact dz|fail) only[simprocAttr,Gc,↓reduceIte,GJ,h0,h1,h2,hc,q3,q5,q7,hl,c1,c2,e3,Bool.not_false]
  ·rw[if_neg c]
   refine⟨H,o,L,?_,m,K_.refl H⟩
   rw[Gi c156 _ _ sM]
   by_cases c1:i<0
   ·simp(disch:=first|exact dz|fail) only[simprocAttr,Gc,↓reduceIte,GJ,h0,h1,c1,decide_true]
   ·have c2:(x.refs.length:Int)≤i:=by omega
    simp(disch:=first|exact dz|fail) only[simprocAttr,Gc,↓reduceIte,GJ,h0,h1,hc,q3,q5,q7,hl,c1,c2,decide_true,decide_false]
theorem GgV(m:JO o H rb s L)(k:s.Ok)(a:Int)(v:Bool):Zm o H rb (s.Ka a v).1 (.i (s.Ka a v).2) (run P 161 [.ptr rb 0,.i a,.bool v] H):=by
 have h0:=A8 m k a
 have h1:=NU m k a
 have hc:=m.cells
 unfold Hp.KJ at h1
 unfold Hp.Ka
 cases e:s.obj a with
 |none=>
  have h:=Hp.Nl.2 e
  rw[h]at h0
  refine⟨H,o,L,?_,m,K_.refl H⟩
  rw[Gi GlK _ _ sM]
  simp(disch:=first|exact dz|fail) only[simprocAttr,Gc,↓reduceIte,G8,h0,Bool.false_eq_true]
 |some x=>
  have h:=Hp.J8.2 ⟨x,e⟩
  rw[h]at h0 h1
  rw[if_pos rfl]at h1
  have hx:=Hp.YM e
  obtain⟨b,n,tl,q1,q2,q3,q4,q5,q6⟩:=JO.row m hx
  have mn:=m.Ka k hx q1 q2 q4 (Gd q3) v
  rw[q1]at hc
  have st:s.idx a*8+7<(Gz L.hv s.objs).length:=by omega
  refine⟨_,o,L,?_,mn,(K_.refl H).set1 q4 _⟩
  rw[Gi GlK _ _ sM]
  simp(disch:=first|exact dz|fail) only[simprocAttr,Gc,↓reduceIte,G8,h0,h1,hc,q3,q5,Nn JM st]
theorem GhE(m:JO o H rb s L)(k:s.Ok)(a:Int):Zm o H rb (s.Ka a true).1 (.i (s.Ka a true).2) (run P 65 [.ptr rb 0,.i a] H):=by
 obtain⟨H',o',L',h1,h2,h3⟩:=GgV m k a true
 refine⟨H',o',L',?_,h2,h3⟩
 rw[Gi c65 _ _ sM]
 simp(disch:=first|exact dz|fail) only[simprocAttr,Gc,↓reduceIte,Gj,h1]
end
end Go.Cs.Tryz
namespace Go.Cs.Tryz
open Go Go.Cs A
def ZB:Gu:=S (S (D [⟨m 6 4,0,0,0⟩,⟨m 7 0,1,0,0⟩,⟨z 8 7,2,0,0⟩,⟨f 9 1 8,3,0,0⟩,⟨l 10 1 9,4,1,0⟩,⟨le 11 10,5,0,0⟩,⟨b 12 .lss 6 11,6,0,0⟩,⟨m 13 12,7,0,0⟩,⟨gt 13 (m 14 0),8,0,0⟩,⟨gt 13 (z 15 14),9,0,0⟩,⟨gt 13 (f 16 1 15),10,0,0⟩,⟨gt 13 (l 17 1 16),11,1,0⟩,⟨gt 13 (m 18 4),12,0,0⟩,⟨gt 13 (x 19 8 17 18),13,0,0⟩,⟨gt 13 (f 20 0 19),14,0,0⟩,⟨gt 13 (l 21 1 20),15,1,0⟩,⟨gt 13 (f 22 0 3),16,0,0⟩,⟨gt 13 (l 23 1 22),17,1,0⟩,⟨gt 13 (b 24 .lss 21 23),18,0,0⟩,⟨an 25 13 24,19,0,0⟩]) (J 25 (X 0))) (B 1 (R [m 26 4,bk 27 .add 26 1,m 4 27]))
def Gm4:Gm:=⟨51,0,T [bo 3 1] (T [n 4 0] (S (B 0 (W ZB)) (T [e 5 (.K7 (c .Gf))] (T [m 28 5,m 29 0,z 30 29,f 31 1 30,l 32 1 31,m 33 4,e 34 (.slice 8 (t 32) none (some (t 33)) none),ap 35 8 28 34,m 5 35] (T [m 36 5,lg 37 8 3,e 38 (.buildSlice 8 [i 0,i 0,i 0,i 0,i 0,.Gf,.Gf,.bool false] 1 [(0,8,t 37)]),ap 39 8 36 38,m 5 39] (R [m 40 0,m 41 5,m 42 0,z 43 42,f 44 1 43,l 45 1 44,m 46 4,e 47 (.slice 8 (t 45) (some (t 46)) none none),ap 48 8 41 47,z 49 40,f 50 1 49,st 1 50 48])))))),[]⟩
theorem Gnz:P 242=some Gm4:=by kernel_rfl
end Go.Cs.Tryz
namespace Go.Cs
open Go
theorem LL.cat{k e n q:Nat}{H:Gb}{v:CV}{cs new:List CV}(h:At (Loc k) z3 H v e n cs)(hk:k≤H.length)(hm:n+q≤16777216)(hl:new.all leaf=true)(hnew:new.length=q*e):
  ∃v' H',Jv H e v q new=some (v',H')∧At (Loc k) z3 H' v' e (n+q) (cs++new)∧Keeps H H' (fun c=>k≤c):=by
 by_cases hq:q=0
 ·subst hq
  rw[Nat.zero_mul]at hnew
  have:new=[]:=Bo hnew
  subst this
  refine⟨v,H,?_,by simpa using h,Keeps.refl _ _⟩
  rcases h with⟨_,_,rfl|⟨b,f,rfl⟩⟩|⟨b,tl,rfl,h1,h2,h3⟩<;>rfl
 ·have hp:0<q:=by omega
  obtain⟨H',a1,a2,a3,a4⟩:=At.append h hp hm hl hnew
  refine⟨_,H',a1,.inr ⟨H.length,true,rfl,Gn.2 ⟨hk,rfl⟩,a3,?_⟩,⟨oM,fun c hc hk'=>a4 c oM (fun h=>by have:=(Gn.1 h).1;exact hk' this)⟩⟩
  have hc:cs.length=n*e:=by
   rcases h with⟨rfl,rfl,-⟩|⟨b,tl,rfl,h1,h2,h3⟩
   ·simp
   ·exact h3
  rw[Nq,hc,hnew,Nat.add_mul]
theorem LL.nil{k e:Nat}{H:Gb}:At (Loc k) z3 H .Gf e 0 []:=.inl ⟨rfl,rfl,.inl rfl⟩
theorem GcC{b f n e l h:Nat}{tl:Bool}(h1:l≤h)(h2:h≤n):NZ e (.slice b f n n e tl) (some (.i l)) (some (.i h)) none=some (.slice b (f+l*e) (h-l) (n-l) e tl):=by
 simp only[NZ,Qm,Vw,ED,Option.isSome_none,Bool.false_eq_true,false_and,if_false,Option.bind_some]
 have c1:(0:Int)≤(h:Int)∧(h:Int)≤(n:Int):=by omega
 have c2:(0:Int)≤(l:Int)∧(l:Int)≤((((h:Nat):Int).toNat:Nat):Int):=by omega
 rw[if_pos c1,Option.bind_some,if_pos c2]
 simp
theorem Sy{b f n e h:Nat}{tl:Bool}(h2:h≤n):NZ e (.slice b f n n e tl) none (some (.i h)) none=some (.slice b f h n e tl):=by
 simp only[NZ,Qm,Vw,ED,Option.isSome_none,Bool.false_eq_true,false_and,if_false,Option.bind_some]
 have c1:(0:Int)≤(h:Int)∧(h:Int)≤(n:Int):=by omega
 rw[if_pos c1]
 simp
theorem SB{b f n e l:Nat}{tl:Bool}(h1:l≤n):NZ e (.slice b f n n e tl) (some (.i l)) none none=some (.slice b (f+l*e) (n-l) (n-l) e tl):=by
 simp only[NZ,Qm,Vw,ED,Option.isSome_none,Bool.false_eq_true,false_and,if_false,Option.bind_some]
 have c2:(0:Int)≤(l:Int)∧(l:Int)≤(n:Int):=by omega
 rw[if_pos c2]
 simp
theorem Pe{H:Gb}{b f m c e z:Nat}{tl:Bool}{cells:List CV}(h:H[b]?=some ⟨cells,.rw,z⟩) (hl:f+m*e≤cells.length):elems H e (.slice b f m c e tl)=some (m,(cells.drop f).take (m*e)):=by
 unfold elems
 dsimp only
 by_cases hm:m=0
 ·subst hm;simp
 ·rw[if_neg hm,JV,h,Ug,if_pos hl];rfl
theorem At.lo{o:Tags}{t:Tag}{H:Gb}{v:CV}{e n j:Nat}{cs:List CV}(h:At o t H v e n cs)(hj:j≤n):
  ∃w,NZ e v none (some (.i j)) none=some w∧∀H':Gb,(∀c,o c=some t→H'[c]?=H[c]?)→Go.Cs.elems H' e w=some (j,cs.take (j*e)):=by
 rcases h with⟨rfl,rfl,rfl|⟨b,f,rfl⟩⟩|⟨b,tl,rfl,h1,h2,h3⟩
 ·have:j=0:=by omega
  subst this
  exact⟨.Gf,rfl,fun H' _=>by simp[Go.Cs.elems]⟩
 ·have:j=0:=by omega
  subst this
  exact⟨_,Sy oM,fun H' _=>by simp[Go.Cs.elems]⟩
 ·refine⟨_,Sy hj,fun H' hf=>?_⟩
  rw[Pe (by rw[hf b h1,h2]) (by rw[h3,Nat.zero_add];exact Nat.mul_le_mul_right e hj)]
  simp
theorem At.hi{o:Tags}{t:Tag}{H:Gb}{v:CV}{e n j:Nat}{cs:List CV}(h:At o t H v e n cs)(hj:j≤n):
  ∃w,NZ e v (some (.i j)) none none=some w∧∀H':Gb,(∀c,o c=some t→H'[c]?=H[c]?)→Go.Cs.elems H' e w=some (n-j,cs.drop (j*e)):=by
 rcases h with⟨rfl,rfl,rfl|⟨b,f,rfl⟩⟩|⟨b,tl,rfl,h1,h2,h3⟩
 ·have:j=0:=by omega
  subst this
  exact⟨.Gf,rfl,fun H' _=>by simp[Go.Cs.elems]⟩
 ·have:j=0:=by omega
  subst this
  exact⟨_,SB oM,fun H' _=>by simp[Go.Cs.elems]⟩
 ·refine⟨_,SB hj,fun H' hf=>?_⟩
  have hm:0+j*e+(n-j)*e=n*e:=by rw[Nat.zero_add,←Nat.add_mul];congr 1;omega
  rw[Pe (by rw[hf b h1,h2]) (by rw[h3,hm];exact Nat.le_refl _),Nat.zero_add]
  rw[NW]
  rw[List.length_drop,h3,←Nat.sub_mul];exact Nat.le_refl _
def ZA(a:Nat)(l:List Ob):Nat:=(l.takeWhile fun y=>decide (y.addr<a)).length
theorem Ge4(a:Nat)(l:List Ob):ZA a l≤l.length:=(List.takeWhile_sublist _).length_le
theorem IE{a:Nat}:∀{l:List Ob}{j:Nat},j≤l.length→(∀i y,i<j→l[i]?=some y→y.addr<a)→(∀y,l[j]?=some y→a≤y.addr)→ZA a l=j
 |[],j,hj,_,_=>by simp only[List.length_nil]at hj;unfold ZA;simp;omega
 |x::l,0,_,_,h2=>by
  have:=h2 x rfl
  unfold ZA
  rw[List.takeWhile_cons_of_neg (by simpa using this)];rfl
 |x::l,j+1,hj,h1,h2=>by
  have:=h1 0 x oM rfl
  have ih:=IE (a:=a) (l:=l) (j:=j) (by simpa using hj) (fun i y hi hy=>h1 (i+1) y oM (by simpa using hy)) (fun y hy=>h2 y (by simpa using hy))
  unfold ZA at ih⊢
  rw[List.takeWhile_cons_of_pos (by simpa using this),List.length_cons,ih]
theorem Mh(x:Ob):∀l:List Ob,Qt x l=l.take (ZA x.addr l)++x::l.drop (ZA x.addr l)
 |[]=>rfl
 |y::l=>by
  unfold Qt ZA
  split
  ·rename_i h
   rw[List.takeWhile_cons_of_pos (by simpa using h),List.length_cons,List.take_succ_cons,List.drop_succ_cons,List.cons_append,Mh x l];rfl
  ·rename_i h
   rw[List.takeWhile_cons_of_neg (by simpa using h)];rfl
theorem VG{hv:Nat→CV×CV}:∀{l:List Ob}{j:Nat},(Gz hv l).take (j*8)=Gz hv (l.take j)
 |[],j=>by simp[Gz]
 |x::l,0=>by simp[Gz]
 |x::l,j+1=>by
  rw[List.take_succ_cons,Jg,Jg,List.take_append,←VG (l:=l) (j:=j)]
  rw[NW (by simp[GN];omega)]
  have:(j+1)*8-(GN hv x).length=j*8:=by simp[GN];omega
  rw[this]
theorem VI{hv:Nat→CV×CV}:∀{l:List Ob}{j:Nat},(Gz hv l).drop (j*8)=Gz hv (l.drop j)
 |[],j=>by simp[Gz]
 |x::l,0=>by simp
 |x::l,j+1=>by
  rw[List.drop_succ_cons,Jg,List.drop_append,←VI (l:=l) (j:=j)]
  rw[Ghq (by simp[GN];omega),List.nil_append]
  have:(j+1)*8-(GN hv x).length=j*8:=by simp[GN];omega
  rw[this]
theorem JO.leaves{o:Tags}{H:Gb}{rb:Nat}{s:Hp}{L:N_}(m:JO o H rb s L):∀l:List Ob,(∀x∈l,x∈s.objs)→(Gz L.hv l).all leaf=true
 |[],_=>rfl
 |x::l,h=>by
  have hx:=m.refs x (h x NC)
  rw[Jg,List.all_append,m.leaves l fun y hy=>h y (Um _ hy)]
  simp only[GN,List.all_cons,List.all_nil,hx.1.leaf,hx.2.leaf,Gq,JM,Bool.and_true]
theorem JO.Gez{o:Tags}{H Hf:Gb}{rb:Nat}{s:Hp}{L:N_}(m:JO o H rb s L){l:List Ob}{hv:Nat→CV×CV}{v:CV}{born:Nat}(h:At (Loc H.length) z3 Hf v 8 l.length (Gz hv l))(hl:H.length≤Hf.length)
  (hb:Hf[rb]?=some ⟨[L.bv,v,L.fv,.i born],.rw,0⟩) (hf:∀d,d<H.length→d≠rb→Hf[d]?=H[d]?)
  (hr:∀x∈l,At o (0,3,x.id) H (hv x.id).1 1 x.refs.length (ints x.refs)∧At o (0,4,x.id) H (hv x.id).2 1 x.data.length (ints x.data)):
  ∃o' L',JO o' Hf rb {s with objs:=l,born:=born} L'∧K_ o H o' Hf∧L'.hv=hv:=by
 obtain⟨o',h1,h2,h3⟩:=h.adopt (o:=o) (t:=(0,2,0)) m.dom
 have ho:∀c t,o c=some t→o' c=some t:=fun c t h=>by rw[h1 c (m.dom c _ h),h]
 have old:∀c t,o c=some t→t≠(0,0,0)→Hf[c]?=H[c]?:=fun c t h hn=>hf c (m.dom c _ h) (by rintro rfl;rw[m.top]at h;simp only[Gx]at h;exact hn h.symm)
 refine⟨o',{L with ov:=v,hv:=hv},⟨?_,ho _ _ m.top,hb,m.fv,m.blk.frame (fun c=>ho c _) fun c h=>old c _ h sM,h3,fun x hx=>?_⟩,⟨hl,h1,fun c hc hn=>hf c hc ?_⟩,rfl⟩
 ·intro c t h
  by_cases hc:c<H.length
  ·omega
  ·exact(h2 c t h oM).2
 ·exact⟨(hr x hx).1.frame (fun c=>ho c _) fun c h=>old c _ h sM,(hr x hx).2.frame (fun c=>ho c _) fun c h=>old c _ h sM⟩
 ·rintro rfl;rw[m.top]at hn;cases hn
end Go.Cs
namespace Go.Cs.Tryz
open Go Go.Cs
section
variable {H : Gb} {o : Tags} {rb : Nat} {s : Hp} {L : N_}
theorem GkH(m:JO o H rb s L)(few:s.objs.length≤2048){q:Nat}{a:Nat}{cs:List CV}(hq:H[q]?=some ⟨.i a::cs,.rw,0⟩)
  {E0:Env} (h0:E0 0=.ptr rb 0) (h3:E0 3=.ptr q 0) (h4:E0 4=.i 0) {r:Option (CX×Env×Gb)} (hr:den P (.loop ZB) E0 H=r):
  ∃E',r=some (.exit 0,E',H)∧E' 4=.i (ZA a s.objs)∧∀t,t∉wr ZB→E' t=E0 t:=by
 obtain⟨x',E',H',e,-,⟨rfl,rfl,hf⟩,fr⟩:=Gy (p:=P) (c:=ZB) (E0:=E0) (H0:=H)
  (fun q E H'=>H'=H∧∃j:Nat,E 4=.i j∧j≤s.objs.length∧q=s.objs.length-j∧∀i y,i<j→s.objs[i]?=some y→y.addr<a)
  (fun x' E' H'=>x'=.exit 0∧H'=H∧E' 4=.i (ZA a s.objs)) (by
   rintro q' E H' hE ⟨rfl,j,e4,hj,rfl,hd⟩
   have e0:=(hE 0 dK).trans h0
   have e3:=(hE 3 dK).trans h3
   have hc:=m.cells
   have hl:=m.objs.len H'
   have hml:=Ee (v:=L.ov) (n:=(s.objs.length:Int)) fun H=>m.objs.len H
   by_cases c:j<s.objs.length
   ·have hx:s.objs[j]?=some s.objs[j]:=J9 c
    have c':decide ((j:Int)<(s.objs.length:Int))=true:=GK oM
    obtain⟨b,n,tl,q1,q2,q3,q4,q5,q6⟩:=JO.row m hx
    have q7:=Qe (hv:=L.hv) hx (i:=0) (v:=.i (s.objs[j]).addr) rfl
    rw[Nat.add_zero]at q7
    rw[q1]at hc hl hml
    have w1:IntKind.i64.wrap ((j:Int)+1)=((j+1:Nat):Int):=Gh oM
    by_cases ha:(s.objs[j]).addr<a
    ·have c2:decide (((s.objs[j]).addr:Int)<(a:Int))=true:=GK oM
     apply Gt (k':=s.objs.length-(j+1))
     ·simp(disch:=first|exact dz|fail) only[simprocAttr,Gc,↓reduceIte,ZB,e0,e3,e4,hc,hl,hml,c',q3,q5,q7,hq,c2,w1]
      rfl
     ·omega
     ·refine⟨rfl,j+1,uA,oM,rfl,fun i y hi hy=>?_⟩
      by_cases e:i=j
      ·subst e
       rw[hx]at hy
       simp only[Gx]at hy
       rw[←hy];exact ha
      ·exact hd i y oM hy
    ·have c2:decide (((s.objs[j]).addr:Int)<(a:Int))=false:=GC oM
     apply Gl (x:=.exit 0)
     ·simp(disch:=first|exact dz|fail) only[simprocAttr,Gc,↓reduceIte,ZB,e0,e3,e4,hc,hl,hml,c',q3,q5,q7,hq,c2]
      rfl
     ·simp
     ·refine⟨rfl,rfl,?_⟩
      rw[IE hj hd fun y hy=>by rw[hx]at hy;simp only[Gx]at hy;subst hy;omega]
      simp[Gg,e4]
   ·have c':decide ((j:Int)<(s.objs.length:Int))=false:=GC oM
    apply Gl (x:=.exit 0)
    ·simp(disch:=first|exact dz|fail) only[simprocAttr,Gc,↓reduceIte,ZB,e0,e3,e4,hc,hl,hml,c']
     rfl
    ·simp
    ·refine⟨rfl,rfl,?_⟩
     rw[IE hj hd fun y hy=>by have:=Gd hy;omega]
     simp[Gg,e4]) _ ⟨rfl,0,h4,oM,rfl,fun i y hi=>by omega⟩
 exact⟨E',hr.symm.trans e,hf,fr⟩
theorem Ggv(m:JO o H rb s L)(few:s.objs.length≤2048){x:Ob}{v1 v2:CV}{born:Nat}{fv:CV}(hid:∀y∈s.objs,y.id≠x.id)
  (h1:At o (0,3,x.id) H v1 1 x.refs.length (ints x.refs))(h2:At o (0,4,x.id) H v2 1 x.data.length (ints x.data)):
  Zm o H rb {s with objs:=Qt x s.objs} (.Ju []) (run P 242 [.ptr rb 0,.agg [.i x.addr,.i x.id,.i x.refs.length,.i x.data.length,.i x.kd,v1,v2,.bool x.pin]] H):=by
 have lv1:=h1.leaf
 have lv2:=h2.leaf
 obtain⟨B,hB⟩:∃B:JI,B=⟨[.i x.addr,.i x.id,.i x.refs.length,.i x.data.length,.i x.kd,v1,v2,.bool x.pin],.rw,0⟩:=⟨_,rfl⟩
 have g1:Gr H (H++[B]):=Gr.app H _
 have m1:=m.gr g1
 have hq:(H++[B])[H.length]?=some B:=by simp
 rw[Gi Gnz _ _ sM]
 simp(disch:=first|exact dz|fail) only[simprocAttr,Gc,↓reduceIte,Gj]
 rw[←hB]
 generalize hr:den P (.loop ZB) _ _=r
 obtain⟨E',rfl,hix,fr⟩:=GkH m1 few (q:=H.length) (a:=x.addr) (by rw[hq,hB]) uA uA uA hr
 have f0:=fr 0 dK
 have f3:=fr 3 dK
 simp only[Gg,Nat.reduceEqDiff,↓reduceIte]at f0 f3
 have hile:=Ge4 x.addr s.objs
 generalize hj:ZA x.addr s.objs=j at hix hile
 obtain⟨X,hX⟩:∃X:Gb,X=H++[B]:=⟨_,rfl⟩
 rw[←hX]at m1 hq g1⊢
 have hk:X.length=H.length+1:=by rw[hX];simp
 have hkd:∀c t,o c=some t→c<X.length:=m1.dom
 have hbd:∀Y:Gb,Keeps X Y (fun c=>X.length≤c)→∀c t,o c=some t→Y[c]?=X[c]?:=fun Y kY c t h=>kY.keep c (hkd c t h) (by have:=hkd c t h;omega)
 obtain⟨w1,sl1,el1⟩:=m1.objs.lo hile
 obtain⟨w2,sl2,el2⟩:=m1.objs.hi hile
 have e1:=el1 X fun c h=>rfl
 rw[VG]at e1
 obtain⟨u1,X1,a1,b1,k1⟩:=LL.cat (k:=X.length) (e:=8) (n:=0) (q:=j) (H:=X) LL.nil (Nat.le_refl _) oM (m.leaves (s.objs.take j) fun y hy=>List.mem_of_mem_take hy) (by rw[KZ,List.length_take];omega)
 have k1':Keeps X (X1++[⟨B.cells,.rw,8⟩]) (fun c=>X.length≤c):=k1.app' _
 have q1:X1[H.length]?=some B:=(k1.keep _ oM oM).trans hq
 have hBl:B.cells.all leaf=true:=by rw[hB];simp only[List.all_cons,List.all_nil,Gq,JM,lv1,lv2,Bool.and_true]
 have hBn:B.cells.length=8:=by rw[hB];rfl
 obtain⟨u2,X2,a2,b2,k2⟩:=LL.cat (k:=X.length) (q:=1) (new:=B.cells) (b1.keeps (.app X1 [⟨B.cells,.rw,8⟩])) (by have:=k1'.len;omega) oM hBl (by rw[hBn])
 have k2':=k1'.trans k2
 have e2:=el2 X2 fun c h=>hbd X2 k2' c _ h
 rw[VI]at e2
 obtain⟨u3,X3,a3,b3,k3⟩:=LL.cat (k:=X.length) (q:=s.objs.length-j) (new:=Gz L.hv (s.objs.drop j)) b2 (by have:=k2'.len;omega) oM (m.leaves (s.objs.drop j) fun y hy=>List.mem_of_mem_drop hy) (by rw[KZ,List.length_drop])
 have k3':=k2'.trans k3
 have t0:=m1.cells
 have t2:X2[rb]?=_:=(hbd X2 k2' _ _ m1.top).trans t0
 have t3:X3[rb]?=_:=(hbd X3 k3' _ _ m1.top).trans t0
 have lv3:leaf u3=true:=b3.leaf
 obtain⟨o',L',r1,r2,r3⟩:=JO.Gez (Hf:=X3.set rb ⟨[L.bv,u3,L.fv,.i s.born],.rw,0⟩) m1 (l:=Qt x s.objs) (hv:=fun i=>if i=x.id then(v1,v2)else L.hv i) (v:=u3) (born:=s.born)
  (by
   have e:Gz (fun i=>if i=x.id then(v1,v2)else L.hv i) (Qt x s.objs)=[]++Gz L.hv (s.objs.take j)++B.cells++Gz L.hv (s.objs.drop j):=by
    have same:∀l:List Ob,(∀y∈l,y∈s.objs)→Gz (fun i=>if i=x.id then(v1,v2)else L.hv i) l=Gz L.hv l:=fun l=>by
     induction l with
     |nil=>intro _;rfl
     |cons y l ih=>
      intro h
      rw[Jg,Jg,ih fun z hz=>h z (Um _ hz)]
      have:=hid y (h y NC)
      simp[GN,this]
    rw[Mh,hj,Yy,Jg,same _ fun y hy=>List.mem_of_mem_take hy,same _ fun y hy=>List.mem_of_mem_drop hy,hB]
    simp[GN]
   have en:(Qt x s.objs).length=0+j+1+(s.objs.length-j):=by rw[Mh,hj];simp;omega
   rw[e,en]
   exact b3.frame (fun c h=>h) fun c h=>by
    rw[JU]
    rintro rfl
    have:=(Gn.1 h).1
    have:=hkd _ _ m1.top
    omega)
  (by rw[List.length_set];exact k3'.len) (by rw[KI (Gd t3)]) (fun d hd hn=>by rw[JU (Ne.symm hn)];exact k3'.keep d hd oM)
  (fun y hy=>by
   rcases JL.1 hy with rfl|hy
   ·rw[if_pos rfl];exact⟨h1.keeps g1,h2.keeps g1⟩
   ·rw[if_neg (hid y hy)];exact m1.refs y hy)
 refine⟨_,o',L',?_,r1,(K_.gr g1).trans r2⟩
 have hld:EZ X1[H.length]? 0 8=some B.cells:=by rw[q1,hB];rfl
 have hel:elems (X1++[⟨B.cells,.rw,8⟩]) 8 (.slice X1.length 0 1 1 8 false)=some (1,B.cells):=by
  rw[JC oM,M_ (Nat.le_refl _)]
  simp[EZ,hBn,NW]
 have GfV:fill [.int .i64 0,.int .i64 0,.int .i64 0,.int .i64 0,.int .i64 0,.Gf,.Gf,.bool false] [(0,8,.agg B.cells)]=some B.cells:=by
  rw[hB];rfl
 simp(disch:=first|exact dz|fail) only[simprocAttr,Gc,↓reduceIte,hix,f0,f3,t0,t2,t3,sl1,e1,a1,hld,GfV,hel,a2,sl2,e2,a3,Nn lv3]
end
end Go.Cs.Tryz
namespace Go.Cs.Tryz
open Go Go.Cs A
def C60:Gm:=⟨17,0,T [n 4 0] (S (T [m 6 0,m 7 1,q2 8 152 6 7,m 5 8] (T [m 9 5,bk 10 .neq 9 0] (I 10 (Q [m 11 5,m 4 11])))) (T [m 12 0,m 13 0,m 14 1,q2 15 22 13 14,q2 16 153 12 15] (Q [n 4 0]))),[r 4]⟩
theorem c60:P 60=some C60:=by kernel_rfl
def GoN:Gm:=⟨25,0,T [e 4 (.K7 (c .Gf))] (T [m 5 4,m 6 0,z 7 6,f 8 1 7,l 9 1 8,m 10 1,e 11 (.slice 8 (t 9) none (some (t 10)) none),ap 12 8 5 11,m 4 12] (R [m 13 0,m 14 4,m 15 0,z 16 15,f 17 1 16,l 18 1 17,m 19 1,bk 20 .add 19 1,e 21 (.slice 8 (t 18) (some (t 20)) none none),ap 22 8 14 21,z 23 13,f 24 1 23,st 1 24 22])),[]⟩
theorem GmM:P 153=some GoN:=by kernel_rfl
def VK:Gu:=S (T [m 74 10,m 75 0,z 76 75,f 77 1 76,l 78 1 77,le 79 78,b 80 .lss 74 79] (J 80 (X 0))) (S (B 1 (T [m 83 0,z 84 83,f 85 1 84,l 86 1 85,m 87 10,x 88 8 86 87,lg 89 8 88,e 11 (.new [i 0,i 0,i 0,i 0,i 0,.Gf,.Gf,.bool false]),st 8 11 89] (S (D [⟨f 90 1 11,0,0,0⟩,⟨l 91 1 90,1,1,0⟩,⟨m 92 3,2,0,0⟩,⟨b 93 .neq 91 92,3,0,0⟩,⟨m 94 93,4,0,0⟩,⟨gt 94 (lg 98 3 6),8,1,0⟩,⟨gt 94 (q1 99 238 98),9,3,0⟩,⟨gt 94 (f 95 0 11),5,0,0⟩,⟨gt 94 (l 96 1 95),6,1,0⟩,⟨gt 94 (m 97 1),7,0,0⟩,⟨gt 94 (b 100 .add 97 99),10,0,1⟩,⟨gt 94 (b 101 .lss 96 100),11,0,1⟩,⟨an 102 94 101,12,0,1⟩,⟨m 103 102,13,0,1⟩,⟨gt 103 (f 107 2 11),17,0,1⟩,⟨gt 103 (lg 108 3 107),18,1,1⟩,⟨gt 103 (q1 109 238 108),19,3,1⟩,⟨gt 103 (m 104 1),14,0,1⟩,⟨gt 103 (f 105 0 11),15,0,1⟩,⟨gt 103 (l 106 1 105),16,1,1⟩,⟨gt 103 (b 110 .add 106 109),20,0,2⟩,⟨gt 103 (b 111 .lss 104 110),21,0,2⟩,⟨an 112 103 111,22,0,2⟩]) (I 112 (Q [n 8 8]))))) (R [m 81 10,bk 82 .add 81 1,m 10 82]))
def Gox:Gm:=⟨113,0,T [bo 6 2,n 8 0] (S (T [m 12 1,bk 13 .lss 12 0,m 14 13,gf 14 (m 15 1),gf 14 (bk 16 .rem 15 2),gf 14 (bk 17 .neq 16 0),or 18 14 17,m 19 18,gf 19 (m 20 1),gf 19 (m 21 0),gf 19 (z 22 21),gf 19 (f 23 0 22),gf 19 (l 24 1 23),gf 19 (le 25 24),gf 19 (bk 26 .mul 25 64),gf 19 (b 27 .geq 20 26),or 28 19 27] (I 28 (Q [n 8 1]))) (T [m 29 1,bk 30 .quo 29 64,m 9 30] (S (T [lg 31 3 6,q1 32 146 31] (C 32 (S (D [⟨m 33 1,0,0,0⟩,⟨bk 34 .rem 33 64,1,0,0⟩,⟨bk 35 .neq 34 0,2,0,0⟩,⟨m 36 35,3,0,0⟩,⟨gf 36 (m 37 0),4,0,0⟩,⟨gf 36 (z 38 37),5,0,0⟩,⟨gf 36 (f 39 0 38),6,0,0⟩,⟨gf 36 (l 40 1 39),7,1,0⟩,⟨gf 36 (m 41 9),8,0,0⟩,⟨gf 36 (x 42 2 40 41),9,0,0⟩,⟨gf 36 (f 43 0 42),10,0,0⟩,⟨gf 36 (l 44 1 43),11,1,0⟩,⟨gf 36 (bk 45 .neq 44 2),12,0,0⟩,⟨or 46 36 45,13,0,0⟩,⟨m 47 46,14,0,0⟩,⟨gf 47 (m 48 0),15,0,0⟩,⟨gf 47 (m 49 9),16,0,0⟩,⟨gf 47 (q2 50 289 48 49),17,3,0⟩,⟨gf 47 (lg 51 3 6),18,1,0⟩,⟨gf 47 (q1 52 148 51),19,3,1⟩,⟨gf 47 (b 53 .neq 50 52),20,0,2⟩,⟨or 54 47 53,21,0,2⟩]) (I 54 (Q [n 8 5]))) (T [m 55 0,z 56 55,f 57 0 56,l 58 1 57,m 59 9,x 60 2 58 59,f 61 0 60,l 62 1 61,bk 63 .neq 62 1,m 64 63,gf 64 (m 65 1),gf 64 (lg 66 3 6),gf 64 (q1 67 238 66),gf 64 (b 68 .add 65 67),gf 64 (bk 69 .sub 68 1),gf 64 (bk 70 .quo 69 64),gf 64 (m 71 9),gf 64 (b 72 .neq 70 71),or 73 64 72] (I 73 (Q [n 8 5]))))) (S (T [n 10 0] (B 0 (W VK))) (Q [n 8 0]))))),[r 8]⟩
theorem GlL:P 241=some Gox:=by kernel_rfl
end Go.Cs.Tryz
namespace Go.Cs
open Go
def Hp.QG(s:Hp)(a n:Nat)(but:Int):Bool:=s.objs.any fun o=>(o.id:Int) != but&&(decide (o.addr<a+n)&&decide (a<o.addr+o.size))
theorem Hp.Ok.QG{s:Hp}(k:s.Ok)(a n:Nat):s.QG a n 0=s.taken a n (-1):=by
 unfold Hp.QG Hp.taken
 rw[Bool.eq_iff_iff,List.any_eq_true,List.any_eq_true]
 constructor
 ·rintro ⟨x,hx,h⟩
  refine⟨x,hx,?_⟩
  simp only[JQ,bne_iff_ne]at h⊢
  exact⟨oM,h.2⟩
 ·rintro ⟨x,hx,h⟩
  refine⟨x,hx,?_⟩
  have:=(k.ob x hx).id
  simp only[JQ,bne_iff_ne]at h⊢
  exact⟨oM,h.2⟩
def Hp.ZQ(s:Hp)(a:Int)(n:Nat)(but:Int):Int:=
 if a<0∨(s.nw:Int)≤a∨a.toNat % 2≠0 then 1
 else if n≤32 then(if s.GI (a.toNat/64)≠1∨(a.toNat+n-1)/64≠a.toNat/64 then 5 else if s.QG a.toNat n but then 8 else 0)
 else(if s.GI (a.toNat/64)≠2∨a.toNat % 64≠0∨s.span (a.toNat/64)≠(n+63)/64 then 5 else if s.QG a.toNat n but then 8 else 0)
theorem Hp.Ok.ZQ{s:Hp}(k:s.Ok)(a:Int)(n:Nat):s.ZQ a n 0=s.fits a n (-1):=by
 unfold Hp.ZQ Hp.fits
 rw[k.QG]
theorem Hp.PS{s:Hp}(k:s.Ok){j:Nat}{x:Ob}(hx:s.objs[j]?=some x):(s.without x.addr).objs=s.objs.take j++s.objs.drop (j+1):=by
 have key:∀(l:List Ob)(j:Nat),l[j]?=some x→(∀i y,l[i]?=some y→y.addr=x.addr→i=j)→(l.filter fun y=>y.addr != x.addr)=l.take j++l.drop (j+1):=by
  intro l
  induction l with
  |nil=>intro j h;simp at h
  |cons y l ih=>
   intro j h hu
   cases j with
   |zero=>
    simp only[List.getElem?_cons_zero,Gx]at h
    subst h
    rw[List.filter_cons_of_neg sM,List.take_zero,List.nil_append,List.drop_succ_cons,List.drop_zero]
    rw[List.filter_eq_self]
    intro z hz
    obtain⟨i,hi,rfl⟩:=List.getElem_of_mem hz
    simp only[bne_iff_ne]
    intro e
    have:=hu (i+1) _ (by simp[hi]) e
    omega
   |succ j=>
    simp only[List.getElem?_cons_succ]at h
    have hy:y.addr≠x.addr:=fun e=>by have:=hu 0 y rfl e;omega
    rw[List.filter_cons_of_pos (by simpa using hy),List.take_succ_cons,List.drop_succ_cons,List.cons_append,ih j h fun i z hz e=>by have:=hu (i+1) z (by simpa using hz) e;omega]
 exact key s.objs j hx fun i y hy e=>k.GaO hy hx e
end Go.Cs
namespace Go.Cs.Tryz
open Go Go.Cs
section
variable {H : Gb} {o : Tags} {rb : Nat} {s : Hp} {L : N_}
theorem Gg7(m:JO o H rb s L)(k:s.Ok){j:Nat}{x:Ob}(hx:s.objs[j]?=some x):
  Zm o H rb (s.without x.addr) (.Ju []) (run P 153 [.ptr rb 0,.i j] H):=by
 have few:=k.few
 have hj:=Gd hx
 have hkd:∀c t,o c=some t→c<H.length:=m.dom
 have hbd:∀Y:Gb,Keeps H Y (fun c=>H.length≤c)→∀c t,o c=some t→Y[c]?=H[c]?:=fun Y kY c t h=>kY.keep c (hkd c t h) (by have:=hkd c t h;omega)
 obtain⟨w1,sl1,el1⟩:=m.objs.lo (j:=j) oM
 obtain⟨w2,sl2,el2⟩:=m.objs.hi (j:=j+1) oM
 have e1:=el1 H fun c h=>rfl
 rw[VG]at e1
 obtain⟨u1,X1,a1,b1,k1⟩:=LL.cat (k:=H.length) (e:=8) (n:=0) (q:=j) (H:=H) LL.nil (Nat.le_refl _) oM (m.leaves (s.objs.take j) fun y hy=>List.mem_of_mem_take hy) (by rw[KZ,List.length_take];omega)
 have e2:=el2 X1 fun c h=>hbd X1 k1 c _ h
 rw[VI]at e2
 obtain⟨u2,X2,a2,b2,k2⟩:=LL.cat (k:=H.length) (q:=s.objs.length-(j+1)) (new:=Gz L.hv (s.objs.drop (j+1))) b1 k1.len oM (m.leaves (s.objs.drop (j+1)) fun y hy=>List.mem_of_mem_drop hy) (by rw[KZ,List.length_drop])
 have k2':=k1.trans k2
 have t0:=m.cells
 have t1:X1[rb]?=_:=(hbd X1 k1 _ _ m.top).trans t0
 have t2:X2[rb]?=_:=(hbd X2 k2' _ _ m.top).trans t0
 have lv2:leaf u2=true:=b2.leaf
 have GkF:=s.PS k hx
 obtain⟨o',L',r1,r2,r3⟩:=JO.Gez (Hf:=X2.set rb ⟨[L.bv,u2,L.fv,.i s.born],.rw,0⟩) m (l:=(s.without x.addr).objs) (hv:=L.hv) (v:=u2) (born:=s.born)
  (by
   have e:Gz L.hv (s.without x.addr).objs=[]++Gz L.hv (s.objs.take j)++Gz L.hv (s.objs.drop (j+1)):=by
    rw[GkF,Yy];rfl
   have en:(s.without x.addr).objs.length=0+j+(s.objs.length-(j+1)):=by rw[GkF];simp;omega
   rw[e,en]
   exact b2.frame (fun c h=>h) fun c h=>by
    rw[JU]
    rintro rfl
    have:=(Gn.1 h).1
    have:=hkd _ _ m.top
    omega)
  (by rw[List.length_set];exact k2'.len) (by rw[KI (Gd t2)]) (fun d hd hn=>by rw[JU (Ne.symm hn)];exact k2'.keep d hd oM)
  (fun y hy=>m.refs y (s.J5.1 hy).1)
 refine⟨_,o',L',?_,r1,r2⟩
 have w:IntKind.i64.wrap ((j:Int)+1)=((j+1:Nat):Int):=Gh oM
 rw[Gi GmM _ _ sM]
 simp(disch:=first|exact dz|fail) only[simprocAttr,Gc,↓reduceIte,Gj,t0,t1,t2,sl1,e1,a1,w,sl2,e2,a2,Nn lv2]
theorem GfH(m:JO o H rb s L)(k:s.Ok)(a:Int):Zm o H rb (s.kill a).1 (.i (s.kill a).2) (run P 60 [.ptr rb 0,.i a] H):=by
 have h0:=A8 m k a
 have h1:=NU m k a
 unfold Hp.KJ at h1
 unfold Hp.kill
 cases e:s.obj a with
 |none=>
  have h:=Hp.Nl.2 e
  rw[h]at h0
  refine⟨H,o,L,?_,m,K_.refl H⟩
  rw[Gi c60 _ _ sM]
  simp(disch:=first|exact dz|fail) only[simprocAttr,Gc,↓reduceIte,Gj,h0,Bool.false_eq_true]
 |some x=>
  have h:=Hp.J8.2 ⟨x,e⟩
  rw[h]at h0 h1
  rw[if_pos rfl]at h1
  obtain⟨H',o',L',q1,q2,q3⟩:=Gg7 m k (Hp.YM e)
  refine⟨H',o',L',?_,q2,q3⟩
  rw[Gi c60 _ _ sM]
  simp(disch:=first|exact dz|fail) only[simprocAttr,Gc,↓reduceIte,Gj,h0,h1,q1]
theorem GaZ(m:JO o H rb s L)(k:s.Ok){a:Nat}{but r d kd:Int}{q:Nat}(hq:H[q]?=some ⟨Je r d kd,.rw,0⟩) (hv:JJ r d kd=true) (ha:a≤100000)
  {E0:Env} (h0:E0 0=.ptr rb 0) (h1:E0 1=.i a) (h3:E0 3=.i but) (h6:E0 6=.ptr q 0) (h10:E0 10=.i 0) {r':Option (CX×Env×Gb)} (hr:den P (.loop VK) E0 H=r'):
  ∃x E' H',r'=some (x,E',H')∧Gr H H'∧((x=.ret∧E' 8=.i 8∧s.QG a (G7 r.toNat d.toNat) but=true)∨(x=.exit 0∧s.QG a (G7 r.toNat d.toNat) but=false)):=by
 have few:=k.few
 have hw:G5 r d kd=((G7 r.toNat d.toNat:Nat):Int):=by unfold G5;rw[if_pos hv]
 have hwb:=QJ r d kd
 rw[hw]at hwb
 obtain⟨x',E',H',e,-,⟨g,hf⟩,fr⟩:=Gy (p:=P) (c:=VK) (E0:=E0) (H0:=H)
  (fun q E H'=>Gr H H'∧∃j:Nat,E 10=.i j∧j≤s.objs.length∧q=s.objs.length-j∧∀i y,i<j→s.objs[i]?=some y→((y.id:Int) != but&&(decide (y.addr<a+G7 r.toNat d.toNat)&&decide (a<y.addr+y.size)))=false)
  (fun x E' H'=>Gr H H'∧((x=.ret∧E' 8=.i 8∧s.QG a (G7 r.toNat d.toNat) but=true)∨(x=.exit 0∧s.QG a (G7 r.toNat d.toNat) but=false))) (by
   rintro q' E H' hE ⟨g,j,e10,hj,rfl,hd⟩
   have e0:=(hE 0 dK).trans h0
   have e1:=(hE 1 dK).trans h1
   have e3:=(hE 3 dK).trans h3
   have e6:=(hE 6 dK).trans h6
   have m':=m.gr g
   have hc:=m'.cells
   have hl:=m'.objs.len H'
   by_cases c:j<s.objs.length
   ·have hx:s.objs[j]?=some s.objs[j]:=J9 c
    obtain⟨x,hxe⟩:∃x,x=s.objs[j]:=⟨_,rfl⟩
    rw[←hxe]at hx
    have hxm:x∈s.objs:=JX hx
    have hok:=k.ob x hxm
    have c':decide ((j:Int)<(s.objs.length:Int))=true:=GK oM
    obtain⟨b,n,tl,q1,q2,q3,q4,q5,q6⟩:=JO.row m' hx
    have q7:EZ (some ⟨Gz L.hv s.objs,.rw,8⟩) (j*8) 8=some (GN L.hv x):=by
     rw[Ug,if_pos oM,YN hx]
    rw[q1]at hc hl
    obtain⟨Y,hY⟩:∃Y:Gb,Y=H'++[⟨GN L.hv x,.rw,0⟩]:=⟨_,rfl⟩
    have gY:Gr H' Y:=by rw[hY];exact Gr.app _ _
    have lY:Y[H'.length]?=some ⟨GN L.hv x,.rw,0⟩:=by rw[hY];simp
    have qY:=Gr.get (g.trans gY) hq
    obtain⟨Y1,y1,g1⟩:=Qs (H:=Y) r d kd
    rw[hw]at y1
    have lY1:=g1.get lY
    have hsz:=Ob.size_le hok
    have hnw:=hok.fits
    have hws:G5 x.refs.length x.data.length x.kd=(x.size:Int):=by unfold G5;rw[if_pos hok.valid];rfl
    obtain⟨Y2,y2,g2⟩:=Qs (H:=Y1) x.refs.length x.data.length x.kd
    rw[hws]at y2
    have lY2:=g2.get lY1
    have hnb:=k.nb
    have hsn:s.nw=64*s.blk.length:=rfl
    have wA:IntKind.i64.wrap ((a:Int)+((G7 r.toNat d.toNat:Nat):Int))=(a:Int)+((G7 r.toNat d.toNat:Nat):Int):=Gh oM
    have wB:IntKind.i64.wrap ((x.addr:Int)+(x.size:Int))=(x.addr:Int)+(x.size:Int):=Gh oM
    have w1:IntKind.i64.wrap ((j:Int)+1)=((j+1:Nat):Int):=Gh oM
    have Rj:OT (H'++[⟨[.int .i64 0,.int .i64 0,.int .i64 0,.int .i64 0,.int .i64 0,.Gf,.Gf,.bool false],.rw,0⟩]) H'.length (some ⟨[.int .i64 0,.int .i64 0,.int .i64 0,.int .i64 0,.int .i64 0,.Gf,.Gf,.bool false],.rw,0⟩) 0 (GN L.hv x)=some Y:=by
     rw[GV (by simp[GN]) (by simp[GN,Gq,JM,(m.refs x hxm).1.leaf,(m.refs x hxm).2.leaf]),hY]
     congr 1
     rw[List.set_append_right _ _ (Nat.le_refl _)]
     simp[splice,GN]
    have qY1:=g1.get qY
    unfold GN at lY lY1 lY2 Rj q7
    unfold Je at y1 y2 qY qY1
    have go:∀(Z:Gb),Gr H' Z→((x.id:Int) != but&&(decide (x.addr<a+G7 r.toNat d.toNat)&&decide (a<x.addr+x.size)))=false→
      ∀i y,i<j+1→s.objs[i]?=some y→((y.id:Int) != but&&(decide (y.addr<a+G7 r.toNat d.toNat)&&decide (a<y.addr+y.size)))=false:=fun Z _ hz i y hi hy=>by
     by_cases e:i=j
     ·subst e
      rw[hx]at hy
      simp only[Gx]at hy
      rw[←hy];exact hz
     ·exact hd i y oM hy
    by_cases ci:(x.id:Int)=but
    ·have ci':((x.id:Int) != but)=false:=by simp[ci]
     apply Gt (k':=s.objs.length-(j+1))
     ·simp(disch:=first|exact dz|fail) only[simprocAttr,Gc,↓reduceIte,VK,e0,e1,e3,e6,e10,hc,hl,c',q3,q5,q7,Rj,lY,ci',w1]
      rfl
     ·omega
     ·exact⟨g.trans gY,j+1,uA,oM,rfl,go Y gY (by rw[ci'];rfl)⟩
    ·have ci':((x.id:Int) != but)=true:=by simp[ci]
     by_cases cA:x.addr<a+G7 r.toNat d.toNat
     ·have cA':decide ((x.addr:Int)<(a:Int)+((G7 r.toNat d.toNat:Nat):Int))=true:=GK oM
      by_cases cB:a<x.addr+x.size
      ·have cB':decide ((a:Int)<(x.addr:Int)+(x.size:Int))=true:=GK oM
       apply Gl (x:=.ret)
       ·simp(disch:=first|exact dz|fail) only[simprocAttr,Gc,↓reduceIte,VK,e0,e1,e3,e6,e10,hc,hl,c',q3,q5,q7,Rj,lY,lY1,lY2,qY,qY1,ci',y1,y2,wA,wB,cA',cB']
        rfl
       ·simp
       ·refine⟨(g.trans gY).trans (g1.trans g2),.inl ⟨rfl,uA,?_⟩⟩
        unfold Hp.QG
        rw[List.any_eq_true]
        exact⟨x,hxm,by rw[ci'];simp[cA,cB]⟩
      ·have cB':decide ((a:Int)<(x.addr:Int)+(x.size:Int))=false:=GC oM
       apply Gt (k':=s.objs.length-(j+1))
       ·simp(disch:=first|exact dz|fail) only[simprocAttr,Gc,↓reduceIte,VK,e0,e1,e3,e6,e10,hc,hl,c',q3,q5,q7,Rj,lY,lY1,lY2,qY,qY1,ci',y1,y2,wA,wB,cA',cB',w1]
        rfl
       ·omega
       ·exact⟨(g.trans gY).trans (g1.trans g2),j+1,uA,oM,rfl,go Y gY (by simp[cB])⟩
     ·have cA':decide ((x.addr:Int)<(a:Int)+((G7 r.toNat d.toNat:Nat):Int))=false:=GC oM
      apply Gt (k':=s.objs.length-(j+1))
      ·simp(disch:=first|exact dz|fail) only[simprocAttr,Gc,↓reduceIte,VK,e0,e1,e3,e6,e10,hc,hl,c',q3,q5,q7,Rj,lY,lY1,qY,qY1,ci',y1,wA,cA',w1]
       rfl
      ·omega
      ·exact⟨(g.trans gY).trans g1,j+1,uA,oM,rfl,go Y gY (by simp[cA])⟩
   ·have c':decide ((j:Int)<(s.objs.length:Int))=false:=GC oM
    apply Gl (x:=.exit 0)
    ·simp(disch:=first|exact dz|fail) only[simprocAttr,Gc,↓reduceIte,VK,e0,e1,e10,hc,hl,c']
     rfl
    ·simp
    ·refine⟨g,.inr ⟨rfl,?_⟩⟩
     rw[←Bool.not_eq_true]
     unfold Hp.QG
     rw[List.any_eq_true]
     rintro ⟨y,hy,hh⟩
     obtain⟨i,hi,rfl⟩:=List.getElem_of_mem hy
     rw[hd i _ oM (J9 hi)]at hh
     cases hh) _ ⟨Keeps.refl H _,0,h10,oM,rfl,fun i y hi=>by omega⟩
 exact⟨x',E',H',hr.symm.trans e,g,hf⟩
end
end Go.Cs.Tryz

namespace Go.Cs
open Go
theorem Hp.GfC{s:Hp}{a:Int}{n:Nat}{but:Int}(h:¬(a<0∨(s.nw:Int)≤a∨a.toNat % 2≠0))(hn:¬n≤32):
  s.ZQ a n but=if s.GI (a.toNat/64)≠2∨a.toNat % 64≠0∨s.span (a.toNat/64)≠(n+63)/64 then 5 else if s.QG a.toNat n but then 8 else 0:=by
 unfold Hp.ZQ
 rw[if_neg h,if_neg hn]
theorem Hp.Gav{s:Hp}{a:Int}{n:Nat}{but:Int}(h:¬(a<0∨(s.nw:Int)≤a∨a.toNat % 2≠0))(hn:n≤32):
  s.ZQ a n but=if s.GI (a.toNat/64)≠1∨(a.toNat+n-1)/64≠a.toNat/64 then 5 else if s.QG a.toNat n but then 8 else 0:=by
 unfold Hp.ZQ
 rw[if_neg h,if_pos hn]
theorem Ae(r d:Nat):2≤G7 r d:=by unfold G7;omega
end Go.Cs
namespace Go.Cs.Tryz
open Go Go.Cs
section
variable {H : Gb} {o : Tags} {rb : Nat} {s : Hp} {L : N_}
theorem GfE(m:JO o H rb s L)(k:s.Ok)(a:Int){r d kd:Int}(but:Int)(hv:JJ r d kd=true):
  ∃H',run P 241 [.ptr rb 0,.i a,.agg (Je r d kd),.i but] H=some (.i (s.ZQ a (G7 r.toNat d.toNat) but),H')∧Gr H H':=by
 obtain⟨n,hn⟩:∃n,n=G7 r.toNat d.toNat:=⟨_,rfl⟩
 have hw:G5 r d kd=((n:Nat):Int):=by unfold G5;rw[if_pos hv,hn]
 have hwb:=QJ r d kd
 rw[hw]at hwb
 have hn2:=Ae r.toNat d.toNat
 rw[←hn]at hn2⊢
 have hnb:=k.nb
 have hsn:s.nw=64*s.blk.length:=rfl
 have wl:IntKind.i64.wrap ((s.blk.length:Int)*64)=(s.nw:Int):=by rw[hsn,Gh oM];omega
 obtain⟨Y,hY⟩:∃Y:Gb,Y=H++[⟨Je r d kd,.rw,0⟩]:=⟨_,rfl⟩
 have gY:Gr H Y:=by rw[hY];exact Gr.app _ _
 have lY:Y[H.length]?=some ⟨Je r d kd,.rw,0⟩:=by rw[hY];simp
 have m':=m.gr gY
 have hc:=m'.cells
 have hl:=m'.blk.len Y
 have hg:∀h:¬(a<0∨(s.nw:Int)≤a∨a.toNat % 2≠0),∃q:Nat,a=q∧q<s.nw∧q % 2=0:=fun h=>⟨a.toNat,oM,oM,oM⟩
 by_cases c0:a<0∨(s.nw:Int)≤a∨a.toNat % 2≠0
 ·have e:s.ZQ a n but=1:=by unfold Hp.ZQ;rw[if_pos c0]
  rw[e]
  refine⟨Y,?_,gY⟩
  rw[Gi GlL _ _ sM]
  unfold Je at hY
  by_cases c1:a<0
  ·simp(disch:=first|exact dz|fail) only[simprocAttr,Gc,↓reduceIte,GJ,c1,decide_true,Je]
   rw[←hY]
  ·obtain⟨q,rfl⟩:∃q:Nat,a=q:=⟨a.toNat,oM⟩
   have hm:(q:Int).tmod 2=((q % 2:Nat):Int):=U1 q 2
   by_cases c2:q % 2=0
   ·have e2:(((q % 2:Nat):Int) != 0)=false:=by rw[c2];rfl
    have c3:(s.nw:Int)≤(q:Int):=by omega
    simp(disch:=first|exact dz|fail) only[simprocAttr,Gc,↓reduceIte,GJ,c1,decide_false,decide_true,Je,GA,hm,e2]
    rw[←hY]
    simp(disch:=first|exact dz|fail) only[simprocAttr,Gc,↓reduceIte,hc,hl,wl,c3]
   ·have e2:(((q % 2:Nat):Int) != 0)=true:=by simp;omega
    simp(disch:=first|exact dz|fail) only[simprocAttr,Gc,↓reduceIte,GJ,c1,decide_false,decide_true,Je,GA,hm,e2]
    rw[←hY]
 ·obtain⟨q,rfl,hq1,hq2⟩:=hg c0
  have hm:(q:Int).tmod 2=((q % 2:Nat):Int):=U1 q 2
  have e2:(((q % 2:Nat):Int) != 0)=false:=by rw[hq2];rfl
  have c1:decide ((q:Int)<0)=false:=GC oM
  have c3:decide ((s.nw:Int)≤(q:Int))=false:=GC oM
  have Ga7:(q:Int).tdiv 64=((q/64:Nat):Int):=KT q 64
  have WH:(q:Int).tmod 64=((q % 64:Nat):Int):=U1 q 64
  have wd:IntKind.i64.wrap ((q/64:Nat):Int)=((q/64:Nat):Int):=Gh oM
  have hqb:q/64<s.blk.length:=by omega
  have hx:s.blk[q/64]?=some s.blk[q/64]:=J9 hqb
  have hst:s.GI (q/64)=(s.blk[q/64]).1:=by unfold Hp.GI;rw[Qc,hx];rfl
  obtain⟨Y1,y1,g1⟩:=Ao (H:=Y) r d kd
  rw[hw]at y1
  have m1:=m'.gr g1
  have gY1:=Gr.get g1 lY
  obtain⟨bb,tl,p1,p2,p3,p4,p5⟩:=AJ m1 hx
  have hc1:=m1.cells
  rw[p1]at hc hl hc1
  rw[←hst]at p4
  rw[Gi GlL _ _ sM]
  unfold Je at hY lY y1 gY1
  by_cases cn:n≤32
  ·rw[Hp.Gav c0 cn,K6]
   have cn':decide ((32:Int)<(n:Int))=false:=GC oM
   rw[cn']at y1
   obtain⟨Y2,y2,g2⟩:=Qs (H:=Y1) r d kd
   rw[hw]at y2
   have m2:=m1.gr g2
   have gY2:=Gr.get g2 gY1
   unfold Je at y2
   have wA:IntKind.i64.wrap ((q:Int)+(n:Int))=((q+n:Nat):Int):=Gh oM
   have wB:IntKind.i64.wrap (((q+n:Nat):Int)-1)=((q+n-1:Nat):Int):=by rw[Gh oM];omega
   have wC:((q+n-1:Nat):Int).tdiv 64=(((q+n-1)/64:Nat):Int):=KT _ 64
   have wD:IntKind.i64.wrap (((q+n-1)/64:Nat):Int)=(((q+n-1)/64:Nat):Int):=Gh oM
   by_cases s1:s.GI (q/64)=1
   ·have e3:(((s.GI (q/64):Nat):Int) != 1)=false:=by rw[s1];rfl
    by_cases s2:(q+n-1)/64=q/64
    ·rw[if_neg oM]
     have e4:((((q+n-1)/64:Nat):Int) != ((q/64:Nat):Int))=false:=by rw[s2];simp
     simp(disch:=first|exact dz|fail) only[simprocAttr,Gc,↓reduceIte,GJ,Je,c1,GA,GH,hm,e2]
     rw[←hY]
     simp(disch:=first|exact dz|fail) only[simprocAttr,Gc,↓reduceIte,hc,hl,wl,c3,Ga7,wd,lY,y1,hc1,p3,p4,p5,e3,gY1,y2,wA,wB,wC,wD,e4,GH]
     generalize hr:den P (.loop VK) _ _=rr
     obtain⟨x,E',H',rfl,g3,hh⟩:=GaZ m2 k (a:=q) (but:=but) (q:=H.length) gY2 hv oM uA uA uA uA uA hr
     rw[←hn]at hh
     refine⟨H',?_,((gY.trans g1).trans g2).trans g3⟩
     rcases hh with⟨rfl,h8,ht⟩|⟨rfl,ht⟩
     ·rw[if_pos ht]
      simp(disch:=first|exact dz|fail) only[simprocAttr,Gc,↓reduceIte,h8]
     ·rw[if_neg (by rw[ht];simp)]
      simp(disch:=first|exact dz|fail) only[simprocAttr,Gc,↓reduceIte]
    ·rw[if_pos oM]
     have e4:((((q+n-1)/64:Nat):Int) != ((q/64:Nat):Int))=true:=by simp;omega
     refine⟨Y2,?_,(gY.trans g1).trans g2⟩
     simp(disch:=first|exact dz|fail) only[simprocAttr,Gc,↓reduceIte,GJ,Je,c1,GA,GH,hm,e2]
     rw[←hY]
     simp(disch:=first|exact dz|fail) only[simprocAttr,Gc,↓reduceIte,hc,hl,wl,c3,Ga7,wd,lY,y1,hc1,p3,p4,p5,e3,gY1,y2,wA,wB,wC,wD,e4,GH]
   ·rw[if_pos oM]
    have e3:(((s.GI (q/64):Nat):Int) != 1)=true:=by simp;omega
    refine⟨Y1,?_,gY.trans g1⟩
    simp(disch:=first|exact dz|fail) only[simprocAttr,Gc,↓reduceIte,GJ,Je,c1,GA,GH,hm,e2]
    rw[←hY]
    simp(disch:=first|exact dz|fail) only[simprocAttr,Gc,↓reduceIte,hc,hl,wl,c3,Ga7,wd,lY,y1,hc1,p3,p4,p5,e3,GH]
  ·rw[Hp.GfC c0 cn,K6]
   have cn':decide ((32:Int)<(n:Int))=true:=GK oM
   rw[cn']at y1
   have hwh:=GcQ m1 k hqb
   obtain⟨Y2,y2,g2⟩:=I4 (H:=Y1) r d kd
   rw[hw]at y2
   have hne:((n:Int)+63)/64=(((n+63)/64:Nat):Int):=by omega
   rw[hne]at y2
   have m2:=m1.gr g2
   have gY2:=Gr.get g2 gY1
   unfold Je at y2
   by_cases t1:q % 64=0
   ·have e3:(((q % 64:Nat):Int) != 0)=false:=by rw[t1];rfl
    by_cases t2:s.GI (q/64)=2
    ·have e4:(((s.GI (q/64):Nat):Int) != 2)=false:=by rw[t2];rfl
     have Gra:s.whole (q/64)=s.span (q/64):=by unfold Hp.whole;rw[if_neg oM,if_pos t2]
     rw[Gra]at hwh
     by_cases t3:s.span (q/64)=(n+63)/64
     ·rw[if_neg oM]
      have e5:((s.span (q/64):Int) != (((n+63)/64:Nat):Int))=false:=by rw[t3];simp
      simp(disch:=first|exact dz|fail) only[simprocAttr,Gc,↓reduceIte,GJ,Je,c1,GA,GH,hm,e2]
      rw[←hY]
      simp(disch:=first|exact dz|fail) only[simprocAttr,Gc,↓reduceIte,hc,hl,wl,c3,Ga7,wd,lY,y1,hc1,p3,p4,p5,WH,e3,e4,hwh,gY1,y2,e5,GA,GH,N9]
      generalize hr:den P (.loop VK) _ _=rr
      obtain⟨x,E',H',rfl,g3,hh⟩:=GaZ m2 k (a:=q) (but:=but) (q:=H.length) gY2 hv oM uA uA uA uA uA hr
      rw[←hn]at hh
      refine⟨H',?_,((gY.trans g1).trans g2).trans g3⟩
      rcases hh with⟨rfl,h8,ht⟩|⟨rfl,ht⟩
      ·rw[if_pos ht]
       simp(disch:=first|exact dz|fail) only[simprocAttr,Gc,↓reduceIte,h8]
      ·rw[if_neg (by rw[ht];simp)]
       simp(disch:=first|exact dz|fail) only[simprocAttr,Gc,↓reduceIte]
     ·rw[if_pos oM]
      have e5:((s.span (q/64):Int) != (((n+63)/64:Nat):Int))=true:=by simp;omega
      refine⟨Y2,?_,(gY.trans g1).trans g2⟩
      simp(disch:=first|exact dz|fail) only[simprocAttr,Gc,↓reduceIte,GJ,Je,c1,GA,GH,hm,e2]
      rw[←hY]
      simp(disch:=first|exact dz|fail) only[simprocAttr,Gc,↓reduceIte,hc,hl,wl,c3,Ga7,wd,lY,y1,hc1,p3,p4,p5,WH,e3,e4,hwh,gY1,y2,e5,GA,GH,N9]
    ·rw[if_pos oM]
     have e4:(((s.GI (q/64):Nat):Int) != 2)=true:=by simp;omega
     refine⟨Y1,?_,gY.trans g1⟩
     simp(disch:=first|exact dz|fail) only[simprocAttr,Gc,↓reduceIte,GJ,Je,c1,GA,GH,hm,e2]
     rw[←hY]
     simp(disch:=first|exact dz|fail) only[simprocAttr,Gc,↓reduceIte,hc,hl,wl,c3,Ga7,wd,lY,y1,hc1,p3,p4,p5,WH,e3,e4,GA,GH,N9]
   ·rw[if_pos oM]
    have e3:(((q % 64:Nat):Int) != 0)=true:=by simp;omega
    refine⟨Y1,?_,gY.trans g1⟩
    simp(disch:=first|exact dz|fail) only[simprocAttr,Gc,↓reduceIte,GJ,Je,c1,GA,GH,hm,e2]
    rw[←hY]
    simp(disch:=first|exact dz|fail) only[simprocAttr,Gc,↓reduceIte,hc,hl,wl,c3,Ga7,wd,lY,y1,hc1,p3,p4,p5,WH,e3,GA,GH,N9]
end
end Go.Cs.Tryz
namespace Go.Cs.Tryz
open Go Go.Cs A
def GnJ:Gm:=⟨48,0,T [bo 5 2,n 6 0,n 7 0] (S (T [m 9 0,q1 10 78 9,no 11 10] (I 11 (Q [n 6 0,n 7 5]))) (S (T [lg 12 3 5,q1 13 240 12,no 14 13] (I 14 (Q [n 6 0,n 7 2]))) (S (T [m 15 0,m 16 1,lg 17 3 5,ca 18 241 [t 15,t 16,t 17,k 0],m 8 18] (T [m 19 8,bk 20 .neq 19 0] (I 20 (Q [m 21 8,n 6 0,m 7 21])))) (T [m 22 0,z 23 22,f 24 3 23,l 25 1 24,bk 26 .add 25 1,z 27 22,f 28 3 27,st 1 28 26] (S (D [⟨m 29 0,0,0,0⟩,⟨m 30 1,1,0,0⟩,⟨m 31 0,2,0,0⟩,⟨z 32 31,3,0,0⟩,⟨f 33 3 32,4,0,0⟩,⟨l 34 1 33,5,1,0⟩,⟨lg 35 3 5,6,1,0⟩,⟨f 36 0 5,7,0,0⟩,⟨l 37 1 36,8,1,0⟩,⟨e 38 (.makeSlice 1 [i 0] (t 37) (t 37)),9,0,0⟩,⟨f 39 1 5,10,0,0⟩,⟨l 40 1 39,11,1,0⟩,⟨e 41 (.makeSlice 1 [i 0] (t 40) (t 40)),12,0,0⟩,⟨e 42 (.build [i 0,i 0,i 0,i 0,i 0,.Gf,.Gf,.bool false] [(0,1,t 30),(1,1,t 34),(2,3,t 35),(5,1,t 38),(6,1,t 41)]),13,0,0⟩,⟨q2 43 242 29 42,14,3,0⟩]) (Q [m 44 0,z 45 44,f 46 3 45,l 47 1 46,m 6 47,n 7 0])))))),[r 6,r 7]⟩
theorem Gjh:P 150=some GnJ:=by kernel_rfl
end Go.Cs.Tryz
namespace Go.Cs
open Go
theorem VQ:∀n:Nat,(List.replicate n [CV.int .i64 0]).flatten=ints (List.replicate n 0)
 |0=>rfl
 |n+1=>by rw[List.replicate_succ,List.flatten_cons,VQ n,List.replicate_succ];rfl
theorem JO.Ri{o:Tags}{H:Gb}{rb:Nat}{s:Hp}{L:N_}(m:JO o H rb s L)(n:Nat):JO o (H.set rb ⟨[L.bv,L.ov,L.fv,.i n],.rw,0⟩) rb {s with born:=n} L:=by
 have old:∀c t,o c=some t→t≠(0,0,0)→(H.set rb ⟨[L.bv,L.ov,L.fv,.i n],.rw,0⟩)[c]?=H[c]?:=fun c t h hn=>by
  rw[JU];rintro rfl;rw[m.top]at h;simp only[Gx]at h;exact hn h.symm
 exact⟨fun c t h=>by rw[List.length_set];exact m.dom c t h,m.top,by rw[KI (m.dom _ _ m.top)],m.fv,m.blk.frame (fun c h=>h) fun c h=>old c _ h sM,
  m.objs.frame (fun c h=>h) fun c h=>old c _ h sM,fun x hx=>⟨(m.refs x hx).1.frame (fun c h=>h) fun c h=>old c _ h sM,(m.refs x hx).2.frame (fun c h=>h) fun c h=>old c _ h sM⟩⟩
theorem Hp.Ok.Ri{s:Hp}(k:s.Ok){n:Nat}(h:s.born≤n)(h2:n≤1000000000000):({s with born:=n}:Hp).Ok where
 nb:=k.nb
 st:=k.st
 ob:=fun x hx=>by
  have q:=k.ob x hx
  exact⟨q.even,q.nr,q.nd,q.kd,⟨q.id.1,Jr q.id.2 h⟩,q.fits⟩
 apart:=k.apart
 ids:=k.ids
 born:=h2
end Go.Cs
namespace Go.Cs.Tryz
open Go Go.Cs
section
variable {H : Gb} {o : Tags} {rb : Nat} {s : Hp} {L : N_}
theorem GbP(m:JO o H rb s L)(k:s.Ok)(hborn:s.born<1000000000000)(a r d kd:Int):Zm o H rb (s.place a r d kd).1 (Uj (s.place a r d kd).2) (run P 150 [.ptr rb 0,.i a,.agg (Je r d kd)] H):=by
 obtain⟨X,hX⟩:∃X:Gb,X=H++[⟨Je r d kd,.rw,0⟩]:=⟨_,rfl⟩
 have gX:Gr H X:=by rw[hX];exact Gr.app _ _
 have lX:X[H.length]?=some ⟨Je r d kd,.rw,0⟩:=by rw[hX];simp
 have mX:=m.gr gX
 have hm:=QH mX k
 have hvv:=PE (H:=X) r d kd
 have gX1:Gr X (X++[⟨Je r d kd,.rw,0⟩]):=Gr.app _ _
 have mX1:=mX.gr gX1
 unfold Hp.place
 by_cases hv:JJ r d kd=true
 ·rw[if_pos hv]
  rw[hv]at hvv
  obtain⟨X2,f1,g2⟩:=GfE mX1 k a 0 hv
  rw[k.ZQ]at f1
  have m2:=mX1.gr g2
  have GR:=Gr.get gX1 lX
  have Jt:=Gr.get g2 GR
  by_cases hf:s.fits a (G7 r.toNat d.toNat) (-1)=0
  ·rw[if_pos hf]
   rw[hf]at f1
   obtain⟨q,rfl,e1,e2,e3⟩:=k.RI (by have:=Ae r.toNat d.toNat;omega) hf
   have vb:=Qu hv
   obtain⟨r,rfl⟩:∃n:Nat,r=n:=⟨r.toNat,oM⟩
   obtain⟨d,rfl⟩:∃n:Nat,d=n:=⟨d.toNat,oM⟩
   obtain⟨kd,rfl⟩:∃n:Nat,kd=n:=⟨kd.toNat,oM⟩
   simp only[K6]at e1 e2 e3 f1⊢
   have t2:=m2.cells
   obtain⟨X3,Bd⟩:∃X3:Gb,X3=X2.set rb ⟨[L.bv,L.ov,L.fv,.i ((s.born+1:Nat):Int)],.rw,0⟩:=⟨_,rfl⟩
   have m3:=m2.Ri (s.born+1)
   rw[←Bd]at m3
   have k3:({s with born:=s.born+1}:Hp).Ok:=k.Ri oM oM
   have l3:X3.length=X2.length:=by rw[Bd];simp
   have hrb:H.length≠rb:=by have:=m.dom _ _ m.top;omega
   have J9:X3[H.length]?=some ⟨Je r d kd,.rw,0⟩:=by rw[Bd,JU (Ne.symm hrb),Jt]
   have t3:=m3.cells
   obtain⟨X4,DL⟩:∃X4:Gb,X4=X3++[⟨ints (List.replicate r 0),.rw,1⟩]++[⟨ints (List.replicate d 0),.rw,1⟩]:=⟨_,rfl⟩
   have g4:Gr X3 X4:=by rw[DL];exact(Gr.app _ _).app' _
   have x0:X4[X3.length]?=some ⟨ints (List.replicate r 0),.rw,1⟩:=by rw[DL];simp
   have x1:X4[X3.length+1]?=some ⟨ints (List.replicate d 0),.rw,1⟩:=by rw[DL];simp
   have m4:JO ((o.put X3.length (0,3,s.born+1)).put (X3.length+1) (0,4,s.born+1)) X4 rb {s with born:=s.born+1} L:=m3.frame
    (fun c t h=>by
     by_cases e:c=X3.length+1
     ·subst e;exact Gd x1
     ·rw[Tags.GY e]at h
      by_cases e:c=X3.length
      ·subst e;exact Gd x0
      ·rw[Tags.GY e]at h
       exact JH (m3.dom c t h) g4.len)
    (fun c t h=>by have:=m3.dom c t h;rw[Tags.GY oM,Tags.GY oM,h])
    (fun c t h=>g4.keep c (m3.dom c t h) fun h=>h)
   have few:s.objs.length≤2048:=k.few
   obtain⟨H',o',L',h1,h2,h3⟩:=Ggv m4 few (x:=Nb q (s.born+1) r d kd) (v1:=.slice X3.length 0 r r 1 false) (v2:=.slice (X3.length+1) 0 d d 1 false)
    (fun y hy=>by have:=(k.ob y hy).id;simp only[Nb];omega)
    (.inr ⟨_,false,by simp[Nb],by rw[Tags.GY oM,Tags.put_eq];rfl,x0,by simp[Nb,ints]⟩)
    (.inr ⟨_,false,by simp[Nb],by rw[Tags.put_eq];rfl,x1,by simp[Nb,ints]⟩) (born:=0) (fv:=.Gf)
   have h1':run P 242 [.ptr rb 0,.agg [.i q,.i ((s.born+1:Nat):Int),.i r,.i d,.i kd,.slice X3.length 0 r r 1 false,.slice (X3.length+1) 0 d d 1 false,.bool false]] X4=some (.Ju [],H'):=by
    simpa[Nb]using h1
   have tf:=h2.cells
   have g02:Gr H X2:=(gX.trans gX1).trans g2
   refine⟨H',o',L',?_,h2,?_⟩
   ·have wb1:IntKind.i64.wrap ((s.born:Int)+1)=((s.born+1:Nat):Int):=by rw[Gh oM];omega
    have m1':=Uv (Jf:=1) (z:=[CV.int .i64 0]) (l:=(r:Int)) (c:=(r:Int)) oM
    have m2':=Uv (Jf:=1) (z:=[CV.int .i64 0]) (l:=(d:Int)) (c:=(d:Int)) oM
    rw[K6,VQ]at m1' m2'
    rw[Gi Gjh _ _ sM]
    unfold Je at hX lX hvv GR Jt J9 f1⊢
    simp(disch:=first|exact dz|fail) only[simprocAttr,Gc,↓reduceIte,G8]
    rw[←hX]
    simp(disch:=first|exact dz|fail) only[simprocAttr,Gc,↓reduceIte,hm,lX,hvv,Bool.not_true,GR,f1,t2,wb1]
    rw[←Bd]
    have hlt:=Gd J9
    simp(disch:=first|exact dz|fail) only[simprocAttr,Gc,↓reduceIte,t3,J9,m1',m2',fill,splice,and_self]
    rw[←DL]
    simp(disch:=first|exact dz|fail) only[simprocAttr,Gc,↓reduceIte,h1',tf,Uj]
   ·refine(K_.gr g02).trans (K_.trans (o':=o) (H':=X3) ?_ (K_.trans ?_ h3))
    ·rw[Bd];exact(K_.refl X2).set1 m.top _
    ·refine⟨g4.len,fun c hc=>by rw[Tags.GY oM,Tags.GY oM],fun c hc _=>g4.keep c hc fun h=>h⟩
  ·rw[if_neg hf]
   have e5:(s.fits a (G7 r.toNat d.toNat) (-1) != 0)=true:=by simpa using hf
   refine⟨X2,o,L,?_,m2,K_.gr ((gX.trans gX1).trans g2)⟩
   rw[Gi Gjh _ _ sM]
   unfold Je at hX lX hvv GR f1⊢
   simp(disch:=first|exact dz|fail) only[simprocAttr,Gc,↓reduceIte,G8]
   rw[←hX]
   simp(disch:=first|exact dz|fail) only[simprocAttr,Gc,↓reduceIte,hm,lX,hvv,Bool.not_true,GR,f1,e5,Uj]
 ·rw[if_neg hv]
  have hv':JJ r d kd=false:=by simpa using hv
  rw[hv']at hvv
  refine⟨X++[⟨Je r d kd,.rw,0⟩],o,L,?_,mX1,K_.gr (gX.trans gX1)⟩
  rw[Gi Gjh _ _ sM]
  unfold Je at hX lX hvv⊢
  simp(disch:=first|exact dz|fail) only[simprocAttr,Gc,↓reduceIte,G8]
  rw[←hX]
  simp(disch:=first|exact dz|fail) only[simprocAttr,Gc,↓reduceIte,hm,lX,hvv,Bool.not_true,Bool.not_false,Uj]
end
end Go.Cs.Tryz
namespace Go.Cs.Tryz
open Go Go.Cs A
def C55:Gm:=⟨14,0,T [e 2 (.K7 (c .nilPtr)),n 3 0] (S (T [m 4 0,bk 5 .lss 4 2,m 6 5,gf 6 (m 7 0),gf 6 (bk 8 .gtr 7 64),or 9 6 8] (I 9 (Q [e 2 (.K7 (c .nilPtr)),n 3 1]))) (Q [m 10 0,e 11 (.makeSlice 2 [i 0,i 0] (t 10) (t 10)),e 12 (.build [.Gf,.Gf,.Gf,i 0] [(0,1,t 11)]),bo 13 12,m 2 13,n 3 0])),[r 2,r 3]⟩
theorem c55:P 55=some C55:=by kernel_rfl
def BZ:Gu:=S (T [m 56 10,m 57 1,m 58 2,b 59 .add 57 58,b 60 .lss 56 59] (J 60 (X 2))) (S (B 3 (R [m 63 0,z 64 63,f 65 0 64,l 66 1 65,m 67 10,m 68 3,e 69 (.build [i 0,i 0] [(0,1,k 3),(1,1,t 68)]),x 70 2 66 67,st 2 70 69])) (R [m 61 10,bk 62 .add 61 1,m 10 62]))
def Zn:Gu:=S (T [m 39 9,m 40 1,m 41 2,b 42 .add 40 41,b 43 .lss 39 42] (J 43 (X 0))) (S (B 1 (T [m 46 0,z 47 46,f 48 0 47,l 49 1 48,m 50 9,x 51 2 49 50,f 52 0 51,l 53 1 52,bk 54 .neq 53 0] (I 54 (Q [n 8 8])))) (R [m 44 9,bk 45 .add 44 1,m 9 45]))
def Gnd:Gm:=⟨78,0,T [n 8 0] (S (T [m 11 0,q1 12 78 11,no 13 12] (I 13 (Q [n 8 5]))) (S (T [m 14 0,m 15 1,q2 16 281 14 15,no 17 16,m 18 17,gf 18 (m 19 2),gf 18 (bk 20 .lss 19 1),or 21 18 20,m 22 21,gf 22 (m 23 2),gf 22 (m 24 0),gf 22 (z 25 24),gf 22 (f 26 0 25),gf 22 (l 27 1 26),gf 22 (le 28 27),gf 22 (m 29 1),gf 22 (b 30 .sub 28 29),gf 22 (b 31 .gtr 23 30),or 32 22 31,m 33 32,gf 33 (m 34 3),gf 33 (q1 35 282 34),gf 33 (no 36 35),or 37 33 36] (I 37 (Q [n 8 1]))) (S (T [m 38 1,m 9 38] (B 0 (W Zn))) (S (T [m 55 1,m 10 55] (B 2 (W BZ))) (T [m 71 0,z 72 71,f 73 0 72,l 74 1 73,m 75 1,x 76 2 74 75,f 77 0 76,u (.store 1 (t 77) (k 2))] (Q [n 8 0])))))),[r 8]⟩
theorem Gep:P 235=some Gnd:=by kernel_rfl
end Go.Cs.Tryz
namespace Go.Cs
open Go
theorem AV:∀{l:List (Nat×Nat)}{b:Nat}{x y x':Nat},l[b]?=some (x,y)→(G6 l).set (b*2) (.i x')=G6 (l.set b (x',y))
 |[],b,x,y,x',h=>by simp at h
 |z::l,0,x,y,x',h=>by
  simp only[List.getElem?_cons_zero,Gx]at h
  subst h;rfl
 |z::l,b+1,x,y,x',h=>by
  simp only[List.getElem?_cons_succ]at h
  have ih:=AV (x':=x') h
  have e3:(b+1)*2=b*2+1+1:=by omega
  have e:G6 (z::l)=.i z.1::.i z.2::G6 l:=rfl
  have e2:G6 ((z::l).set (b+1) (x',y))=.i z.1::.i z.2::G6 (l.set b (x',y)):=rfl
  rw[e,e2,←ih,e3];rfl
theorem TN{l:List (Nat×Nat)}{b:Nat}{m:Nat×Nat}(hb:b<l.length):∀{k:Nat},1≤k→(Kz l b m k)[b]?=some m
 |1,_=>by simp[Kz,hb]
 |k+2,_=>by
  show((Kz l b m (k+1)).set (b+(k+1)) m)[b]?=some m
  rw[JU oM]
  exact TN hb oM
def Hp.Jh(s:Hp)(b:Nat):List Ob:=s.objs.filter fun o=>o.addr/64==b
def Js(e:Nat):Nat→List Ob→List (Nat×Nat)
 |at',[]=>if at'<e then [(at',e-at')]else []
 |at',o::l=>(if at'<o.addr then [(at',o.addr-at')]else [])++Js e (o.addr+o.size) l
def Hp.gaps(s:Hp)(b:Nat):List (Nat×Nat):=if s.GI b=1 then Js (64*(b+1)) (64*b) (s.Jh b)else []
theorem Fv{b:Nat}:∀{l:List Ob}{a:Nat},64*b≤a→(∀o∈l,64*b≤o.addr∧o.addr<64*(b+1))→∀x∈Js (64*(b+1)) a l,64*b≤x.1∧x.1<64*(b+1)
 |[],a,ha,_,x,hx=>by
  unfold Js at hx
  split at hx
  ·simp only[Uy]at hx;subst hx;exact⟨ha,by assumption⟩
  ·cases hx
 |o::l,a,ha,hl,x,hx=>by
  have ho:=hl o NC
  unfold Js at hx
  rcases NG.1 hx with h|h
  ·split at h
   ·simp only[Uy]at h;subst h;exact⟨ha,by simp only;omega⟩
   ·cases h
  ·exact Fv oM (fun y hy=>hl y (Um _ hy)) x h
theorem Hp.RD{s:Hp}{b:Nat}{x:Nat×Nat}(h:x∈s.gaps b):s.GI b=1∧64*b≤x.1∧x.1<64*(b+1):=by
 unfold Hp.gaps at h
 split at h
 ·rename_i hs
  refine⟨hs,Fv (Nat.le_refl _) (fun o ho=>?_) x h⟩
  simp only[Hp.Jh,List.mem_filter,beq_iff_eq]at ho
  omega
 ·cases h
abbrev PL(k:Nat)(H:Gb)(v:CV)(l:List (Nat×Nat)):Prop:=At (Loc k) z3 H v 2 l.length (G6 l)
theorem YD(l k:List (Nat×Nat)):G6 (l++k)=G6 l++G6 k:=by simp[G6]
theorem PL.push{k:Nat}{H:Gb}{v:CV}{l:List (Nat×Nat)}(h:PL k H v l)(hk:k≤H.length)(hm:l.length+1≤16777216)(x:Nat×Nat):
  ∃v' H',Jv (H++[⟨[.i x.1,.i x.2],.rw,2⟩]) 2 v 1 [.i x.1,.i x.2]=some (v',H')∧PL k H' v' (l++[x])∧Keeps H H' (fun c=>k≤c):=by
 obtain⟨v',H',a,b,c⟩:=LL.cat (q:=1) (new:=[.i x.1,.i x.2]) (h.keeps (.app H [⟨[.i x.1,.i x.2],.rw,2⟩])) (by simp;omega) hm (by simp[Gq]) rfl
 refine⟨v',H',a,?_,(Keeps.app H _ _).trans c⟩
 show At (Loc k) z3 H' v' 2 (l++[x]).length (G6 (l++[x]))
 rw[YD,Nq];exact b
theorem IL.at{k:Nat}{H:Gb}{v:CV}{l:List Int}(h:IL k H v l){i:Nat}{x:Int}(hi:l[i]?=some x):∃b o,(∀H',Kb 1 v (.i i) H'=some (.ptr b o,H'))∧ZP 1 v (.i i)=okV (.ptr b o)∧ld H[b]? o=some (.i x)∧k≤b:=by
 have hl:=Gd hi
 rcases h with⟨h1,-⟩|⟨b,tl,rfl,h1,h2,h3⟩
 ·omega
 ·refine⟨b,i,fun H'=>?_,?_,?_,(Gn.1 h1).1⟩
  ·rw[UF oM];simp
  ·rw[Al oM];simp
  ·rw[h2,Vt,ZX,hi];rfl
theorem IL.leaf{k:Nat}{H:Gb}{v:CV}{l:List Int}(h:IL k H v l):Go.Cs.leaf v=true:=At.leaf h
end Go.Cs
namespace Go.Cs.Tryz
open Go Go.Cs
section
variable {H : Gb} {o : Tags} {rb : Nat} {s : Hp} {L : N_}
theorem GbO(m:JO o H rb s L)(k:s.Ok){b n:Nat}(hbn:b+n≤s.blk.length)
  {E0:Env}(h0:E0 0=.ptr rb 0)(h1:E0 1=.i b)(h2:E0 2=.i n)(h9:E0 9=.i b){r:Option (CX×Env×Gb)}(hr:den P (.loop Zn) E0 H=r):
  ∃x E',r=some (x,E',H)∧((x=.ret∧E' 8=.i 8∧((s.blk.drop b).take n).any (fun x=>x.1 != 0)=true)∨(x=.exit 0∧((s.blk.drop b).take n).any (fun x=>x.1 != 0)=false))∧∀t,t∉wr Zn→E' t=E0 t:=by
 have hnb:=k.nb
 obtain⟨x',E',H',e,-,⟨rfl,hf⟩,fr⟩:=Gy (p:=P) (c:=Zn) (E0:=E0) (H0:=H)
  (fun q E H'=>H'=H∧∃j:Nat,E 9=.i ((b+j:Nat):Int)∧j≤n∧q=n-j∧((s.blk.drop b).take n).any (fun x=>x.1 != 0)=((s.blk.drop (b+j)).take (n-j)).any (fun x=>x.1 != 0))
  (fun x E' H'=>H'=H∧((x=.ret∧E' 8=.i 8∧((s.blk.drop b).take n).any (fun x=>x.1 != 0)=true)∨(x=.exit 0∧((s.blk.drop b).take n).any (fun x=>x.1 != 0)=false))) (by
   rintro q E H' hE ⟨rfl,j,e9,hj,rfl,hd⟩
   have e0:=(hE 0 dK).trans h0
   have e1:=(hE 1 dK).trans h1
   have e2:=(hE 2 dK).trans h2
   have hc:=m.cells
   have w1:IntKind.i64.wrap ((b:Int)+(n:Int))=((b+n:Nat):Int):=Gh oM
   by_cases c:j<n
   ·have c':decide (((b+j:Nat):Int)<((b+n:Nat):Int))=true:=GK oM
    have hx:s.blk[b+j]?=some s.blk[b+j]:=J9 oM
    obtain⟨bb,tl,p1,p2,p3,p4,p5⟩:=AJ m hx
    rw[p1]at hc
    have hstep:((s.blk.drop (b+j)).take (n-j)).any (fun x=>x.1 != 0)=((s.blk[b+j].1 != 0)||((s.blk.drop (b+(j+1))).take (n-(j+1))).any (fun x=>x.1 != 0)):=by
     rw[drop_cons hx,show n-j=(n-(j+1))+1 by omega,List.take_succ_cons,List.any_cons];rfl
    rw[hstep]at hd
    by_cases c2:s.blk[b+j].1=0
    ·have e3:(((s.blk[b+j].1:Nat):Int) != 0)=false:=by rw[c2];rfl
     have w2:IntKind.i64.wrap (((b+j:Nat):Int)+1)=((b+(j+1):Nat):Int):=Gh oM
     apply Gt (k':=n-(j+1))
     ·simp(disch:=first|exact dz|fail) only[simprocAttr,Gc,↓reduceIte,Zn,e0,e1,e2,e9,hc,w1,c',p3,p4,p5,e3,w2]
      rfl
     ·omega
     ·refine⟨rfl,j+1,uA,oM,rfl,?_⟩
      rw[hd,c2];rfl
    ·have e3:(((s.blk[b+j].1:Nat):Int) != 0)=true:=by simp;omega
     apply Gl (x:=.ret)
     ·simp(disch:=first|exact dz|fail) only[simprocAttr,Gc,↓reduceIte,Zn,e0,e1,e2,e9,hc,w1,c',p3,p4,p5,e3]
      rfl
     ·simp
     ·refine⟨rfl,.inl ⟨rfl,uA,?_⟩⟩
      rw[hd];simp[c2]
   ·have c':decide (((b+j:Nat):Int)<((b+n:Nat):Int))=false:=GC oM
    have ej:n-j=0:=by omega
    apply Gl (x:=.exit 0)
    ·simp(disch:=first|exact dz|fail) only[simprocAttr,Gc,↓reduceIte,Zn,e0,e1,e2,e9,w1,c']
     rfl
    ·simp
    ·refine⟨rfl,.inr ⟨rfl,?_⟩⟩
     rw[hd,ej];simp) _ ⟨rfl,0,by rw[h9];rfl,oM,rfl,sM⟩
 exact⟨x',E',hr.symm.trans e,hf,fr⟩
theorem GbC(m:JO o H rb s L)(k:s.Ok){b n sp:Nat}(hbn:b+n≤s.blk.length)
  {E0:Env}(h0:E0 0=.ptr rb 0)(h1:E0 1=.i b)(h2:E0 2=.i n)(h3:E0 3=.i sp)(h10:E0 10=.i b){r:Option (CX×Env×Gb)}(hr:den P (.loop BZ) E0 H=r):
  ∃E' H',r=some (.exit 2,E',H')∧K_ o H o H'∧JO o H' rb {s with blk:=Kz s.blk b (3,sp) n} L∧∀t,t∉wr BZ→E' t=E0 t:=by
 have hnb:=k.nb
 obtain⟨x',E',H',e,-,⟨rfl,g,hf⟩,fr⟩:=Gy (p:=P) (c:=BZ) (E0:=E0) (H0:=H)
  (fun q E H'=>K_ o H o H'∧∃j:Nat,E 10=.i ((b+j:Nat):Int)∧j≤n∧q=n-j∧JO o H' rb {s with blk:=Kz s.blk b (3,sp) j} L)
  (fun x E' H'=>x=.exit 2∧K_ o H o H'∧JO o H' rb {s with blk:=Kz s.blk b (3,sp) n} L) (by
   rintro q E H' hE ⟨g,j,e10,hj,rfl,mj⟩
   have e0:=(hE 0 dK).trans h0
   have e1:=(hE 1 dK).trans h1
   have e2:=(hE 2 dK).trans h2
   have e3:=(hE 3 dK).trans h3
   have hc:=mj.cells
   have hl:=UJ s.blk b (3,sp) j
   have w1:IntKind.i64.wrap ((b:Int)+(n:Int))=((b+n:Nat):Int):=Gh oM
   by_cases c:j<n
   ·have c':decide (((b+j:Nat):Int)<((b+n:Nat):Int))=true:=GK oM
    obtain⟨bb,tl,p1,p2,p3⟩:=mj.bv (by show 0<(Kz s.blk b (3,sp) j).length;omega)
    dsimp only at p1 p3 hc
    rw[p1]at hc
    have p5:(0:Int)≤((b+j:Nat):Int)∧((b+j:Nat):Int)<((Kz s.blk b (3,sp) j).length:Int):=by omega
    obtain⟨st,mn⟩:=mj.IX (b:=b+j) (x:=(3,sp)) (by show b+j<(Kz s.blk b (3,sp) j).length;omega) p1 p2 p3
    have w2:IntKind.i64.wrap (((b+j:Nat):Int)+1)=((b+(j+1):Nat):Int):=Gh oM
    have st':OT H' bb (some ⟨G6 (Kz s.blk b (3,sp) j),.rw,2⟩) ((b+j)*2) [.int .i64 3,.int .i64 (sp:Int)]=_:=st
    apply Gt (k':=n-(j+1))
    ·simp(disch:=first|exact dz|fail) only[simprocAttr,Gc,↓reduceIte,BZ,e0,e1,e2,e3,e10,hc,w1,c',p3,p5,fill,splice,and_self,st',w2]
     rfl
    ·omega
    ·exact⟨g.set1 p2 _,j+1,uA,oM,rfl,mn⟩
   ·have c':decide (((b+j:Nat):Int)<((b+n:Nat):Int))=false:=GC oM
    have ej:j=n:=by omega
    subst ej
    apply Gl (x:=.exit 2)
    ·simp(disch:=first|exact dz|fail) only[simprocAttr,Gc,↓reduceIte,BZ,e0,e1,e2,e10,w1,c']
     rfl
    ·simp
    ·exact⟨rfl,g,mj⟩) _ ⟨K_.refl H,0,by rw[h10];rfl,oM,rfl,m⟩
 exact⟨E',H',hr.symm.trans e,g,hf,fr⟩
theorem LH(m:JO o H rb s L)(k:s.Ok)(f:s.Fz)(b n sp:Int)(hn: -9223372036854775808≤n∧n≤9223372036854775807):Zm o H rb (s.claim b n 2 sp 3 sp).1 (.i (s.claim b n 2 sp 3 sp).2) (run P 235 [.ptr rb 0,.i b,.i n,.i sp] H):=by
 have hc:=m.cells
 have hm:=QH m k
 have h2:=PI m b
 have h3:=Py (H:=H) sp
 have hnb:=k.nb
 have hl:=m.blk.len H
 unfold Hp.claim
 by_cases c1:1≤b∧b<(s.blk.length:Int)
 ·rw[GK c1]at h2
  obtain⟨b,rfl⟩:∃q:Nat,b=q:=⟨b.toNat,oM⟩
  have w0:IntKind.i64.wrap ((s.blk.length:Int)-(b:Int))=(s.blk.length:Int)-(b:Int):=Gh oM
  by_cases c2:n<1
  ·rw[if_neg oM]
   refine⟨H,o,L,?_,m,K_.refl H⟩
   rw[Gi Gep _ _ sM]
   simp(disch:=first|exact dz|fail) only[simprocAttr,Gc,↓reduceIte,GJ,hm,h2,Bool.not_true,c2,decide_true]
  by_cases c3:(s.blk.length:Int)-(b:Int)<n
  ·rw[if_neg oM]
   refine⟨H,o,L,?_,m,K_.refl H⟩
   rw[Gi Gep _ _ sM]
   simp(disch:=first|exact dz|fail) only[simprocAttr,Gc,↓reduceIte,GJ,hm,h2,Bool.not_true,c2,c3,decide_true,decide_false,hc,hl,w0]
  obtain⟨n,rfl⟩:∃q:Nat,n=q:=⟨n.toNat,oM⟩
  by_cases c4:0≤sp∧sp<8
  ·rw[GK c4]at h3
   obtain⟨sp,rfl⟩:∃q:Nat,sp=q:=⟨sp.toNat,oM⟩
   rw[if_pos oM,K6,K6,K6,f.any]
   rw[Gi Gep _ _ sM]
   simp(disch:=first|exact dz|fail) only[simprocAttr,Gc,↓reduceIte,GJ,hm,h2,h3,Bool.not_true,c2,c3,decide_true,decide_false,hc,hl,w0]
   generalize hr:den P (.loop Zn) _ _=r
   obtain⟨x,E',rfl,hx,fr⟩:=GbO m k (b:=b) (n:=n) oM uA uA uA uA hr
   rcases hx with⟨rfl,h8,ha⟩|⟨rfl,ha⟩
   ·rw[if_pos ha]
    exact⟨H,o,L,by simp(disch:=first|exact dz|fail) only[simprocAttr,Gc,↓reduceIte,h8],m,K_.refl H⟩
   ·rw[if_neg (by rw[ha];simp)]
    have f0:=fr 0 dK
    have f1:=fr 1 dK
    have f2:=fr 2 dK
    have f3:=fr 3 dK
    simp only[Gg,Nat.reduceEqDiff,↓reduceIte]at f0 f1 f2 f3
    simp(disch:=first|exact dz|fail) only[simprocAttr,Gc,↓reduceIte,f0,f1,f2,f3]
    generalize hr:den P (.loop BZ) _ _=r
    obtain⟨E2,H2,rfl,g2,m2,fr2⟩:=GbC m k (b:=b) (n:=n) (sp:=sp) oM (by simp[Gg,f0]) (by simp[Gg,f1]) (by simp[Gg,f2]) (by simp[Gg,f3]) uA hr
    have f0':=fr2 0 dK
    have f1':=fr2 1 dK
    simp only[Gg,Nat.reduceEqDiff,↓reduceIte,f0,f1]at f0' f1'
    have hl2:=UJ s.blk b (3,sp) n
    obtain⟨bb,tl,p1,p2,p3⟩:=m2.bv (by show 0<(Kz s.blk b (3,sp) n).length;omega)
    dsimp only at p1 p3
    have hc2:=m2.cells
    rw[p1]at hc2
    have p5:(0:Int)≤(b:Int)∧(b:Int)<((Kz s.blk b (3,sp) n).length:Int):=by omega
    have hat:=TN (l:=s.blk) (m:=(3,sp)) (b:=b) oM (k:=n) oM
    have hst:b*2<(G6 (Kz s.blk b (3,sp) n)).length:=by rw[KE];omega
    have hset:=AV (x':=2) hat
    refine⟨_,o,L,?_,m2.Gbx (l:=(Kz s.blk b (3,sp) n).set b (2,sp)) p1 p2 sM (H':=H2.set bb ⟨G6 ((Kz s.blk b (3,sp) n).set b (2,sp)),.rw,2⟩) sM (by rw[KI (Gd p3)]) fun c _ hcb=>by rw[JU (Ne.symm hcb)],g2.set1 p2 _⟩
    rw[←hset]
    simp(disch:=first|exact dz|fail) only[simprocAttr,Gc,↓reduceIte,f0',f1',hc2,p3,p5,Nn Gq hst]
    try rfl
  ·rw[GC c4]at h3
   rw[if_neg oM]
   refine⟨H,o,L,?_,m,K_.refl H⟩
   rw[Gi Gep _ _ sM]
   simp(disch:=first|exact dz|fail) only[simprocAttr,Gc,↓reduceIte,GJ,hm,h2,h3,Bool.not_true,Bool.not_false,c2,c3,decide_true,decide_false,hc,hl,w0]
 ·rw[GC c1]at h2
  rw[if_neg oM]
  refine⟨H,o,L,?_,m,K_.refl H⟩
  rw[Gi Gep _ _ sM]
  simp(disch:=first|exact dz|fail) only[simprocAttr,Gc,↓reduceIte,GJ,hm,h2,Bool.not_true,Bool.not_false]
theorem Ghr(n:Int)(h:2≤n∧n≤64):∃rb H' o L,run P 55 [.i n] H=some (.Ju [.ptr rb 0,.i 0],H')∧Gr H H'∧JO o H' rb (Hp.new n.toNat) L∧∀c t,o c=some t→H.length≤c:=by
 obtain⟨n,rfl⟩:∃q:Nat,n=q:=⟨n.toNat,oM⟩
 have c0:¬((n:Int)<2):=by omega
 have c1:¬((64:Int)<(n:Int)):=by omega
 have m1:=ZH (H:=H) (Jf:=2) (z:=[CV.int .i64 0,CV.int .i64 0]) (l:=(n:Int)) (c:=(n:Int)) oM
 rw[K6,Y0]at m1
 rw[K6]
 refine⟨H.length+1,H++[⟨G6 (List.replicate n (0,0)),.rw,2⟩]++[⟨[.slice H.length 0 n n 2 false,.Gf,.Gf,.int .i64 0],.rw,0⟩],(Tags.put (fun _=>none) H.length (0,1,0)).put (H.length+1) (0,0,0),⟨.slice H.length 0 n n 2 false,.Gf,.Gf,fun _=>(.Gf,.Gf)⟩,?_,(Gr.app H _).app' _,?_,?_⟩
 ·rw[Gi c55 _ _ sM]
  simp(disch:=first|exact dz|fail) only[simprocAttr,Gc,↓reduceIte,Gv,c0,c1,decide_false,m1,fill,splice,and_self]
 ·have hb:(Hp.new n).blk.length=n:=by simp[Hp.new]
  refine⟨fun c t hc=>?_,Tags.put_eq,by simp[Hp.new],rfl,?_,.inl ⟨rfl,rfl,.inl rfl⟩,fun x hx=>by cases hx⟩
  ·by_cases e:c=H.length+1
   ·subst e;simp
   ·rw[Tags.GY e]at hc
    by_cases e2:c=H.length
    ·subst e2;simp
    ·rw[Tags.GY e2]at hc;cases hc
  ·rw[hb]
   exact .inr ⟨H.length,false,rfl,by rw[Tags.GY oM,Tags.put_eq],by simp[Hp.new],by rw[KE];simp[Hp.new];omega⟩
 ·intro c t hc
  by_cases e:c=H.length+1
  ·omega
  ·rw[Tags.GY e]at hc
   by_cases e2:c=H.length
   ·omega
   ·rw[Tags.GY e2]at hc;cases hc
end
end Go.Cs.Tryz
namespace Go.Cs.Tryz
open Go Go.Cs A
def YH:Gu:=S (T [m 15 6,m 16 1,b 17 .lss 15 16,m 18 17,gt 18 (m 19 0),gt 18 (m 20 5),gt 18 (m 21 6),gt 18 (b 22 .add 20 21),gt 18 (q2 23 280 19 22),gt 18 (bk 24 .eql 23 0),an 25 18 24] (J 25 (X 2))) (B 3 (R [m 26 6,bk 27 .add 26 1,m 6 27]))
def YA:Gu:=S (T [m 7 5,m 8 1,b 9 .add 7 8,m 10 0,q1 11 279 10,b 12 .leq 9 11] (J 12 (X 0))) (S (B 1 (T [n 6 0] (S (B 2 (W YH)) (T [m 28 6,m 29 1,b 30 .eql 28 29] (I 30 (Q [m 31 5,m 4 31])))))) (R [m 13 5,bk 14 .add 13 1,m 5 14]))
def Gqb:Gm:=⟨32,0,T [n 4 0] (S (T [n 5 1] (B 0 (W YA))) (Q [n 4 0])),[r 4]⟩
theorem c234:P 234=some Gqb:=by kernel_rfl
def BR:Gu:=S (T [m 7 0,q1 8 78 7,m 9 8,gt 9 (m 10 6),gt 9 (m 11 0),gt 9 (z 12 11),gt 9 (f 13 1 12),gt 9 (l 14 1 13),gt 9 (le 15 14),gt 9 (b 16 .lss 10 15),an 17 9 16] (J 17 (X 0))) (S (B 1 (T [m 20 0,z 21 20,f 22 1 21,l 23 1 22,m 24 6,x 25 8 23 24,f 26 0 25,l 27 1 26,bk 28 .quo 27 64,m 29 1,b 30 .eql 28 29] (I 30 (R [m 31 5,m 32 0,z 33 32,f 34 1 33,l 35 1 34,m 36 6,x 37 8 35 36,f 38 0 37,l 39 1 38,e 40 (.buildSlice 1 [i 0] 1 [(0,1,t 39)]),ap 41 1 31 40,m 5 41])))) (R [m 18 6,bk 19 .add 18 1,m 6 19]))
def GnG:Gm:=⟨43,0,T [e 4 (.K7 (c .Gf))] (T [e 5 (.K7 (c .Gf))] (S (T [n 6 0] (B 0 (W BR))) (Q [m 42 5,m 4 42]))),[r 4]⟩
theorem Gqv:P 308=some GnG:=by kernel_rfl
end Go.Cs.Tryz
namespace Go.Cs
open Go
def K8(l:List Ob):List Int:=l.map fun o=>(o.addr:Int)
theorem Hp.PG{s:Hp}{b:Nat}{x:Ob}(h:x∈s.Jh b):x∈s.objs∧x.addr/64=b:=by
 simpa[Hp.Jh,List.mem_filter]using h
def Hp.UA(s:Hp)(b n:Nat):Bool:=((s.blk.drop b).take n).all fun x=>x.1==0
def Hp.FH(s:Hp)(n:Nat):Nat→Nat→Nat
 |0,_=>0
 |k+1,b=>if b+n≤s.blk.length then(if s.UA b n=true then b else s.FH n k (b+1))else 0
def Hp.free(s:Hp)(n:Nat):Nat:=s.FH n s.blk.length 1
theorem Hp.M0{s:Hp}{n:Nat}:∀{k b:Nat},s.FH n k b≤s.blk.length
 |0,b=>Nat.zero_le _
 |k+1,b=>by
  unfold Hp.FH
  split
  ·split
   ·omega
   ·exact Hp.M0
  ·omega
theorem Ic{α:Type}{l:List α}{b j n:Nat}(hj:j≤n)(hb:b+n≤l.length):(l.drop b).take n=(l.drop b).take j++(l.drop (b+j)).take (n-j):=by
 have:n=j+(n-j):=by omega
 rw[this,List.take_add,List.drop_drop]
 simp
end Go.Cs
namespace Go.Cs.Tryz
open Go Go.Cs
section
variable {H : Gb} {o : Tags} {rb : Nat} {s : Hp} {L : N_}
theorem Gc6(m:JO o H rb s L)(k:s.Ok){b:Nat}{E0:Env}(h0:E0 0=.ptr rb 0)(h1:E0 1=.i b)(h5:E0 5=.Gf)(h6:E0 6=.i 0){r:Option (CX×Env×Gb)}(hr:den P (.loop BR) E0 H=r):
  ∃E' H',r=some (.exit 0,E',H')∧Gr H H'∧IL H.length H' (E' 5) (K8 (s.Jh b)):=by
 have few:=k.few
 obtain⟨x',E',H',e,-,⟨rfl,g,hnew⟩,fr⟩:=Gy (p:=P) (c:=BR) (E0:=E0) (H0:=H)
  (fun q E H'=>Gr H H'∧∃j:Nat,E 6=.i j∧j≤s.objs.length∧q=s.objs.length-j∧IL H.length H' (E 5) (K8 ((s.objs.take j).filter fun o=>o.addr/64==b)))
  (fun x E' H'=>x=.exit 0∧Gr H H'∧IL H.length H' (E' 5) (K8 (s.Jh b))) (by
   rintro q E H' hE ⟨g,j,e6,hj,rfl,hn⟩
   have e0:=(hE 0 dK).trans h0
   have e1:=(hE 1 dK).trans h1
   have m':=m.gr g
   have hc:=m'.cells
   have hm:=QH m' k
   have hl:=m'.objs.len H'
   by_cases c:j<s.objs.length
   ·have c':decide ((j:Int)<(s.objs.length:Int))=true:=GK oM
    have hx:s.objs[j]?=some s.objs[j]:=J9 c
    obtain⟨x,hxe⟩:∃x,x=s.objs[j]:=⟨_,rfl⟩
    have htk:s.objs.take (j+1)=s.objs.take j++[x]:=by rw[QL,hx,hxe];rfl
    rw[←hxe]at hx
    have hok:=k.ob x (JX hx)
    obtain⟨bb,n,tl,q1,q2,q3,q4,q5,q6⟩:=JO.row m' hx
    have q7:=Qe (hv:=L.hv) hx (i:=0) (v:=.i x.addr) rfl
    rw[Nat.add_zero]at q7
    rw[q1]at hc hl
    have hnw:=hok.fits
    have hnb:=k.nb
    have hsn:s.nw=64*s.blk.length:=rfl
    have hd:(x.addr:Int).tdiv 64=((x.addr/64:Nat):Int):=KT x.addr 64
    have wd:IntKind.i64.wrap ((x.addr/64:Nat):Int)=((x.addr/64:Nat):Int):=Gh oM
    have w1:IntKind.i64.wrap ((j:Int)+1)=((j+1:Nat):Int):=Gh oM
    have hlen:(K8 ((s.objs.take j).filter fun o=>o.addr/64==b)).length≤2048:=by
     unfold K8
     rw[Wu]
     have:=List.length_filter_le (fun o=>o.addr/64==b) (s.objs.take j)
     rw[List.length_take]at this
     omega
    by_cases ca:x.addr/64=b
    ·have R6:(((x.addr/64:Nat):Int)==(b:Int))=true:=by simp[ca]
     obtain⟨v',H1,a1,a2,a3⟩:=IL.push hn g.len oM (x.addr:Int)
     have hel:elems (H'++[⟨[.i (x.addr:Int)],.rw,1⟩]) 1 (.slice H'.length 0 1 1 1 false)=some (1,[.i (x.addr:Int)]):=by
      rw[JC oM]
      simp(disch:=first|exact dz|fail) only[simprocAttr,Gc,↓reduceIte,JW]
     apply Gt (k':=s.objs.length-(j+1))
     ·simp(disch:=first|exact dz|fail) only[simprocAttr,Gc,↓reduceIte,BR,e0,e1,e6,hc,hl,hm,c',q3,q5,q7,hd,wd,GH,R6,fill,splice,and_self,hel,Ja,a1,w1]
      rfl
     ·omega
     ·refine⟨g.news a3,j+1,uA,oM,rfl,?_⟩
      rw[htk,List.filter_append]
      have e:[x].filter (fun o=>o.addr/64==b)=[x]:=by simp[ca]
      rw[e]
      show IL _ _ _ (K8 (_++[x]))
      unfold K8 at a2⊢
      rw[XE]
      simpa[Gg]using a2
    ·have R6:(((x.addr/64:Nat):Int)==(b:Int))=false:=by simp;omega
     apply Gt (k':=s.objs.length-(j+1))
     ·simp(disch:=first|exact dz|fail) only[simprocAttr,Gc,↓reduceIte,BR,e0,e1,e6,hc,hl,hm,c',q3,q5,q7,hd,wd,GH,R6,w1]
      rfl
     ·omega
     ·refine⟨g,j+1,uA,oM,rfl,?_⟩
      rw[htk,List.filter_append]
      have e:[x].filter (fun o=>o.addr/64==b)=[]:=by simp[ca]
      rw[e,List.append_nil]
      simpa[Gg]using hn
   ·have c':decide ((j:Int)<(s.objs.length:Int))=false:=GC oM
    rw[NW oM]at hn
    apply Gl (x:=.exit 0)
    ·simp(disch:=first|exact dz|fail) only[simprocAttr,Gc,↓reduceIte,BR,e0,e1,e6,hc,hl,hm,c']
     rfl
    ·simp
    ·exact⟨rfl,g,by unfold Hp.Jh;simpa[Gg]using hn⟩) _ ⟨Keeps.refl H _,0,h6,oM,rfl,by rw[h5];exact IL.nil⟩
 exact⟨E',H',hr.symm.trans e,g,hnew⟩
theorem SH(m:JO o H rb s L)(k:s.Ok)(b:Nat):∃v H',run P 308 [.ptr rb 0,.i b] H=some (v,H')∧Gr H H'∧IL H.length H' v (K8 (s.Jh b)):=by
 rw[Gi Gqv _ _ sM]
 simp(disch:=first|exact dz|fail) only[simprocAttr,Gc,↓reduceIte,Gj]
 generalize hr:den P (.loop BR) _ _=r
 obtain⟨E',H',rfl,g,hn⟩:=Gc6 m k (b:=b) uA uA uA uA hr
 refine⟨E' 5,H',?_,g,hn⟩
 simp(disch:=first|exact dz|fail) only[simprocAttr,Gc,↓reduceIte]
theorem Gbd(m:JO o H rb s L)(k:s.Ok){b n:Nat}(hbn:b+n≤s.blk.length)
  {E0:Env}(h0:E0 0=.ptr rb 0)(h1:E0 1=.i n)(h5:E0 5=.i b)(h6:E0 6=.i 0){r:Option (CX×Env×Gb)}(hr:den P (.loop YH) E0 H=r):
  ∃E',r=some (.exit 2,E',H)∧(∃j:Nat,E' 6=.i j∧j≤n∧(j=n↔s.UA b n=true))∧∀t,t∉wr YH→E' t=E0 t:=by
 have hnb:=k.nb
 obtain⟨x',E',H',e,-,⟨rfl,rfl,hf⟩,fr⟩:=Gy (p:=P) (c:=YH) (E0:=E0) (H0:=H)
  (fun q E H'=>H'=H∧∃j:Nat,E 6=.i j∧j≤n∧q=n-j∧s.UA b j=true)
  (fun x E' H'=>x=.exit 2∧H'=H∧∃j:Nat,E' 6=.i j∧j≤n∧(j=n↔s.UA b n=true)) (by
   rintro q E H' hE ⟨rfl,j,e6,hj,rfl,hd⟩
   have e0:=(hE 0 dK).trans h0
   have e1:=(hE 1 dK).trans h1
   have e5:=(hE 5 dK).trans h5
   by_cases c:j<n
   ·have c':decide ((j:Int)<(n:Int))=true:=GK oM
    have w1:IntKind.i64.wrap ((b:Int)+(j:Int))=((b+j:Nat):Int):=Gh oM
    have hx:s.blk[b+j]?=some s.blk[b+j]:=J9 oM
    have hst:=EN m k ((b+j:Nat):Int)
    have hsv:Hp.state s ((b+j:Nat):Int)=(s.blk[b+j].1:Int):=by
     unfold Hp.state
     rw[if_pos oM,K6,hx]
    rw[hsv]at hst
    have hsp:∀i,j+i≤n→s.UA b (j+i)=(s.UA b j&&((s.blk.drop (b+j)).take i).all fun x=>x.1==0):=fun i hi=>by
     unfold Hp.UA
     rw[Ic (j:=j) oM oM,List.all_append]
     congr 2
     rw[show j+i-j=i by omega]
    by_cases c2:s.blk[b+j].1=0
    ·have e3:(((s.blk[b+j].1:Nat):Int)==0)=true:=by rw[c2];rfl
     have w2:IntKind.i64.wrap ((j:Int)+1)=((j+1:Nat):Int):=Gh oM
     apply Gt (k':=n-(j+1))
     ·simp(disch:=first|exact dz|fail) only[simprocAttr,Gc,↓reduceIte,YH,e0,e1,e5,e6,w1,c',hst,e3,w2]
      rfl
     ·omega
     ·refine⟨rfl,j+1,uA,oM,rfl,?_⟩
      rw[hsp 1 oM,hd,drop_cons hx,List.take_succ_cons,List.take_zero,List.all_cons,List.all_nil,c2];rfl
    ·have e3:(((s.blk[b+j].1:Nat):Int)==0)=false:=by simp;omega
     apply Gl (x:=.exit 2)
     ·simp(disch:=first|exact dz|fail) only[simprocAttr,Gc,↓reduceIte,YH,e0,e1,e5,e6,w1,c',hst,e3]
      rfl
     ·simp
     ·refine⟨rfl,rfl,j,by simp[Gg,e6],oM,oM,fun h=>?_⟩
      exfalso
      have e:n=j+(n-j):=by omega
      rw[e,hsp (n-j) oM,drop_cons hx,show n-j=(n-(j+1))+1 by omega,List.take_succ_cons,List.all_cons]at h
      simp only[JQ,beq_iff_eq]at h
      exact c2 h.2.1
   ·have c':decide ((j:Int)<(n:Int))=false:=GC oM
    have:j=n:=by omega
    subst this
    apply Gl (x:=.exit 2)
    ·simp(disch:=first|exact dz|fail) only[simprocAttr,Gc,↓reduceIte,YH,e0,e1,e5,e6,c']
     rfl
    ·simp
    ·exact⟨rfl,rfl,j,by simp[Gg,e6],oM,fun _=>hd,fun _=>rfl⟩) _ ⟨rfl,0,h6,oM,rfl,by simp[Hp.UA]⟩
 exact⟨E',hr.symm.trans e,hf,fr⟩
theorem Ghh(m:JO o H rb s L)(k:s.Ok){n:Nat}(hn:n≤1000)
  {E0:Env}(h0:E0 0=.ptr rb 0)(h1:E0 1=.i n)(h5:E0 5=.i 1){r:Option (CX×Env×Gb)}(hr:den P (.loop YA) E0 H=r):
  ∃x E',r=some (x,E',H)∧((x=.ret∧E' 4=.i (s.free n))∨(x=.exit 0∧s.free n=0)):=by
 have hnb:=k.nb
 obtain⟨x',E',H',e,-,⟨rfl,hf⟩,fr⟩:=Gy (p:=P) (c:=YA) (E0:=E0) (H0:=H)
  (fun q E H'=>H'=H∧∃b:Nat,E 5=.i b∧1≤b∧b≤s.blk.length+1∧q=s.blk.length+1-b∧s.FH n (s.blk.length+1-b) b=s.free n)
  (fun x E' H'=>H'=H∧((x=.ret∧E' 4=.i (s.free n))∨(x=.exit 0∧s.free n=0))) (by
   rintro q E H' hE ⟨rfl,b,e5,hb1,hb2,rfl,hd⟩
   have e0:=(hE 0 dK).trans h0
   have e1:=(hE 1 dK).trans h1
   have hbl:=Iu m k
   have w1:IntKind.i64.wrap ((b:Int)+(n:Int))=((b+n:Nat):Int):=Gh oM
   by_cases c:b+n≤s.blk.length
   ·have c':decide (((b+n:Nat):Int)≤(s.blk.length:Int))=true:=GK oM
    have hk:s.blk.length+1-b=(s.blk.length+1-(b+1))+1:=by omega
    rw[hk]at hd
    unfold Hp.FH at hd
    rw[if_pos c]at hd
    by_cases ca:s.UA b n=true
    ·rw[if_pos ca]at hd
     suffices h:∃E',den P YA E H'=some (.ret,E',H')∧E' 4=.i (s.free n)by
      obtain⟨E',h1,h2⟩:=h
      exact Gl h1 sM ⟨rfl,.inl ⟨rfl,h2⟩⟩
     simp(disch:=first|exact dz|fail) only[simprocAttr,Gc,↓reduceIte,YA,e0,e1,e5,hbl,w1,c']
     generalize hr:den P (.loop YH) _ _=r
     obtain⟨E',rfl,⟨j,h6,hj1,hj2⟩,fr⟩:=Gbd m k (b:=b) (n:=n) c (by simp[Gg,e0]) (by simp[Gg,e1]) (by simp[Gg,e5]) uA hr
     have f1:=fr 1 dK
     have f5:=fr 5 dK
     simp only[Gg,Nat.reduceEqDiff,↓reduceIte,e1,e5]at f1 f5
     have ej:j=n:=hj2.2 ca
     subst ej
     have ce:((j:Int)==(j:Int))=true:=by simp
     simp(disch:=first|exact dz|fail) only[simprocAttr,Gc,↓reduceIte,h6,f1,f5,ce]
     exact⟨_,rfl,by simp[Gg,←hd]⟩
    ·rw[if_neg ca]at hd
     suffices h:∃E',den P YA E H'=some (.normal,E',H')∧E' 5=.i ((b+1:Nat):Int)by
      obtain⟨E',h1,h2⟩:=h
      exact Gt h1 (k':=s.blk.length+1-(b+1)) oM ⟨rfl,b+1,h2,oM,oM,rfl,hd⟩
     simp(disch:=first|exact dz|fail) only[simprocAttr,Gc,↓reduceIte,YA,e0,e1,e5,hbl,w1,c']
     generalize hr:den P (.loop YH) _ _=r
     obtain⟨E',rfl,⟨j,h6,hj1,hj2⟩,fr⟩:=Gbd m k (b:=b) (n:=n) c (by simp[Gg,e0]) (by simp[Gg,e1]) (by simp[Gg,e5]) uA hr
     have f1:=fr 1 dK
     have f5:=fr 5 dK
     simp only[Gg,Nat.reduceEqDiff,↓reduceIte,e1,e5]at f1 f5
     have ej:j≠n:=fun h=>ca (hj2.1 h)
     have ce:((j:Int)==(n:Int))=false:=by simp;omega
     have w2:IntKind.i64.wrap ((b:Int)+1)=((b+1:Nat):Int):=Gh oM
     simp(disch:=first|exact dz|fail) only[simprocAttr,Gc,↓reduceIte,h6,f1,f5,ce,w2]
     exact⟨_,rfl,uA⟩
   ·have c':decide (((b+n:Nat):Int)≤(s.blk.length:Int))=false:=GC oM
    have hz:s.FH n (s.blk.length+1-b) b=0:=by
     cases s.blk.length+1-b with
     |zero=>rfl
     |succ q=>unfold Hp.FH;rw[if_neg c]
    apply Gl (x:=.exit 0)
    ·simp(disch:=first|exact dz|fail) only[simprocAttr,Gc,↓reduceIte,YA,e0,e1,e5,hbl,w1,c']
     rfl
    ·simp
    ·exact⟨rfl,.inr ⟨rfl,by rw[←hd];exact hz⟩⟩) _ ⟨rfl,1,h5,oM,oM,rfl,by rw[Nat.add_sub_cancel];rfl⟩
 exact⟨x',E',hr.symm.trans e,hf⟩
theorem Tm(m:JO o H rb s L)(k:s.Ok){n:Nat}(hn:n≤1000):run P 234 [.ptr rb 0,.i n] H=some (.i (s.free n),H):=by
 rw[Gi c234 _ _ sM]
 simp(disch:=first|exact dz|fail) only[simprocAttr,Gc,↓reduceIte,Gj]
 generalize hr:den P (.loop YA) _ _=r
 obtain⟨x,E',rfl,h⟩:=Ghh m k hn uA uA uA hr
 rcases h with⟨rfl,h⟩|⟨rfl,h⟩
 ·simp(disch:=first|exact dz|fail) only[simprocAttr,Gc,↓reduceIte,h]
 ·rw[h]
  simp(disch:=first|exact dz|fail) only[simprocAttr,Gc,↓reduceIte]
  try rfl
end
end Go.Cs.Tryz
namespace Go.Cs.Tryz
open Go Go.Cs A
def Gqj:Gm:=⟨50,0,T [bo 4 1,n 6 0,nb 7 false] (S (T [lg 13 3 4,q1 14 146 13] (I 14 (T [lg 15 3 4,q1 16 148 15,m 8 16] (T [m 17 0,m 18 8,q2 19 234 17 18,m 9 19] (S (T [m 20 9,bk 21 .eql 20 0] (I 21 (Q [n 6 0,nb 7 false]))) (Q [m 22 9,bk 23 .mul 22 64,m 24 0,m 25 9,m 26 8,m 27 2,q4 28 235 24 25 26 27,bk 29 .eql 28 0,m 6 23,m 7 29])))))) (S (T [m 31 0,lg 32 3 4,m 33 2,q3 34 236 31 32 33,m 30 34,ex 35 30 0,ex 36 30 1,m 10 35,m 11 36] (T [m 37 11] (I 37 (Q [m 38 10,m 6 38,nb 7 true])))) (T [m 39 0,ca 40 234 [t 39,k 1],m 12 40] (S (T [m 41 12,bk 42 .eql 41 0] (I 42 (Q [n 6 0,nb 7 false]))) (Q [m 43 12,bk 44 .mul 43 64,m 45 0,m 46 12,m 47 2,q3 48 237 45 46 47,bk 49 .eql 48 0,m 6 44,m 7 49]))))),[r 6,r 7]⟩
theorem c145:P 145=some Gqj:=by kernel_rfl
def YL:Gu:=S (T [m 31 10,m 32 9,le 33 32,b 34 .lss 31 33] (J 34 (X 2))) (S (B 3 (S (D [⟨lg 42 3 4,5,1,0⟩,⟨q1 43 238 42,6,3,0⟩,⟨m 37 9,0,0,0⟩,⟨m 38 10,1,0,0⟩,⟨x 39 2 37 38,2,0,0⟩,⟨f 40 1 39,3,0,0⟩,⟨l 41 1 40,4,1,0⟩,⟨b 44 .geq 41 43,7,0,1⟩]) (I 44 (Q [m 45 9,m 46 10,x 47 2 45 46,f 48 0 47,l 49 1 48,m 6 49,nb 7 true])))) (R [m 35 10,bk 36 .add 35 1,m 10 36]))
def UW:Gu:=S (T [m 11 8,m 12 0,q1 13 279 12,b 14 .lss 11 13] (J 14 (X 0))) (S (B 1 (S (T [m 17 0,m 18 8,q2 19 280 17 18,bk 20 .neq 19 1,m 21 20,gf 21 (m 22 0),gf 21 (m 23 8),gf 21 (q2 24 283 22 23),gf 21 (m 25 2),gf 21 (b 26 .neq 24 25),or 27 21 26] (I 27 (X 1))) (T [m 28 0,m 29 8,q2 30 284 28 29,m 9 30] (T [n 10 0] (B 2 (W YL)))))) (R [m 15 8,bk 16 .add 15 1,m 8 16]))
def GqF:Gm:=⟨50,0,T [bo 4 1,n 6 0,nb 7 false] (S (T [n 8 1] (B 0 (W UW))) (Q [n 6 0,nb 7 false])),[r 6,r 7]⟩
theorem c236:P 236=some GqF:=by kernel_rfl
def Zt:Gu:=S (T [m 20 8,m 21 7,le 22 21,b 23 .lss 20 22] (J 23 (X 0))) (S (B 1 (S (T [m 26 7,m 27 8,x 28 1 26 27,l 29 1 28,m 30 6,b 31 .gtr 29 30] (I 31 (R [m 32 5,m 33 6,m 34 7,m 35 8,x 36 1 34 35,l 37 1 36,m 38 6,b 39 .sub 37 38,e 40 (.build [i 0,i 0] [(0,1,t 33),(1,1,t 39)]),e 41 (.buildSlice 2 [i 0,i 0] 1 [(0,2,t 40)]),ap 42 2 32 41,m 5 42]))) (D [⟨m 51 0,8,0,0⟩,⟨m 52 7,9,0,0⟩,⟨m 53 8,10,0,0⟩,⟨x 54 1 52 53,11,0,0⟩,⟨l 55 1 54,12,1,0⟩,⟨q2 56 22 51 55,13,3,0⟩,⟨m 47 0,4,0,0⟩,⟨z 48 47,5,0,0⟩,⟨f 49 1 48,6,0,0⟩,⟨l 50 1 49,7,1,0⟩,⟨x 57 8 50 56,14,0,1⟩,⟨f 58 2 57,15,0,1⟩,⟨lg 59 3 58,16,1,1⟩,⟨q1 60 238 59,17,3,1⟩,⟨m 43 7,0,0,0⟩,⟨m 44 8,1,0,0⟩,⟨x 45 1 43 44,2,0,0⟩,⟨l 46 1 45,3,1,0⟩,⟨b 61 .add 46 60,18,0,2⟩,⟨m 6 61,19,0,2⟩]))) (R [m 24 8,bk 25 .add 24 1,m 8 25]))
def GnZ:Gm:=⟨77,0,T [e 4 (.K7 (c .Gf))] (T [e 5 (.K7 (c .Gf))] (S (T [m 10 0,m 11 1,q2 12 280 10 11,bk 13 .neq 12 1] (I 13 (Q [m 14 5,m 4 14]))) (T [m 15 1,bk 16 .mul 15 64,m 6 16] (T [m 17 0,m 18 1,q2 19 308 17 18,m 7 19] (S (T [n 8 0] (B 0 (W Zt))) (S (T [m 62 1,bk 63 .add 62 1,bk 64 .mul 63 64,m 9 64] (T [m 65 6,m 66 9,b 67 .lss 65 66] (I 67 (R [m 68 5,m 69 6,m 70 9,m 71 6,b 72 .sub 70 71,e 73 (.build [i 0,i 0] [(0,1,t 69),(1,1,t 72)]),e 74 (.buildSlice 2 [i 0,i 0] 1 [(0,2,t 73)]),ap 75 2 68 74,m 5 75])))) (Q [m 76 5,m 4 76]))))))),[r 4]⟩
theorem Gps:P 284=some GnZ:=by kernel_rfl
end Go.Cs.Tryz
namespace Go.Cs
open Go
def DN(w:Int)(l:List (Nat×Nat)):Option (Nat×Nat):=l.find? fun x=>decide (w≤(x.2:Int))
def Hp.Nu(s:Hp)(b:Nat):Nat:=(s.blk.getD b (0,0)).2
def Hp.GaK(s:Hp)(w sp:Int):Nat→Nat→Option (Nat×Nat)
 |0,_=>none
 |k+1,b=>if s.GI b=1∧(s.Nu b:Int)=sp then(match DN w (s.gaps b)with|some x=>some x|none=>s.GaK w sp k (b+1))else s.GaK w sp k (b+1)
def Hp.gap(s:Hp)(w sp:Int):Option (Nat×Nat):=s.GaK w sp (s.blk.length-1) 1
theorem Hp.RF{s:Hp}{w sp:Int}{x:Nat×Nat}:∀{k b:Nat},s.GaK w sp k b=some x→s.GI (x.1/64)=1∧x.1/64<b+k∧b≤x.1/64
 |0,b,h=>by cases h
 |k+1,b,h=>by
  unfold Hp.GaK at h
  split at h
  ·split at h
   ·rename_i y hy
    simp only[Gx]at h
    subst h
    have hm:=List.mem_of_find?_eq_some hy
    obtain⟨h1,h2,h3⟩:=Hp.RD hm
    have:y.1/64=b:=by omega
    rw[this]
    exact⟨h1,oM,Nat.le_refl _⟩
   ·obtain⟨h1,h2,h3⟩:=Hp.RF h
    exact⟨h1,oM,oM⟩
  ·obtain⟨h1,h2,h3⟩:=Hp.RF h
   exact⟨h1,oM,oM⟩
theorem Yg{e:Nat}:∀{l:List Ob}{a:Nat},(Js e a l).length≤l.length+1
 |[],a=>by unfold Js;split<;>simp
 |o::l,a=>by
  unfold Js
  have:=Yg (e:=e) (l:=l) (a:=o.addr+o.size)
  split<;>simp<;>omega
theorem PL.len{k:Nat}{H:Gb}{v:CV}{l:List (Nat×Nat)}(h:PL k H v l)(H':Gb):KA v H'=some (.i l.length,H'):=At.len h H'
theorem PL.leaf{k:Nat}{H:Gb}{v:CV}{l:List (Nat×Nat)}(h:PL k H v l):Go.Cs.leaf v=true:=At.leaf h
theorem PL.at{k:Nat}{H:Gb}{v:CV}{l:List (Nat×Nat)}(h:PL k H v l){i:Nat}{x:Nat×Nat}(hi:l[i]?=some x):
  ∃b,(∀H',Kb 2 v (.i i) H'=some (.ptr b (i*2),H'))∧ZP 2 v (.i i)=okV (.ptr b (i*2))∧H[b]?=some ⟨G6 l,.rw,2⟩∧(G6 l)[i*2]?=some (.i x.1)∧(G6 l)[i*2+1]?=some (.i x.2)∧k≤b:=by
 have hl:=Gd hi
 obtain⟨q1,q2⟩:=Kr l i x hi
 rcases h with⟨h1,-⟩|⟨b,tl,rfl,h1,h2,h3⟩
 ·omega
 ·refine⟨b,fun H'=>?_,?_,h2,q1,q2,(Gn.1 h1).1⟩
  ·rw[UF oM];simp
  ·rw[Al oM];simp
def Hp.first(s:Hp)(r d kd sp:Int):Hp×Int×Bool:=
 if 32<G5 r d kd then
  if s.free ((G5 r d kd+63)/64).toNat=0 then(s,0,false)
  else((s.claim (s.free ((G5 r d kd+63)/64).toNat) ((G5 r d kd+63)/64) 2 sp 3 sp).1,64*(s.free ((G5 r d kd+63)/64).toNat:Int),(s.claim (s.free ((G5 r d kd+63)/64).toNat) ((G5 r d kd+63)/64) 2 sp 3 sp).2==0)
 else match s.gap (G5 r d kd) sp with
  |some x=>(s,x.1,true)
  |none=>if s.free 1=0 then(s,0,false)else((s.claim (s.free 1) 1 1 sp 0 0).1,64*(s.free 1:Int),(s.claim (s.free 1) 1 1 sp 0 0).2==0)
end Go.Cs
namespace Go.Cs.Tryz
open Go Go.Cs
section
variable {H : Gb} {o : Tags} {rb : Nat} {s : Hp} {L : N_}
theorem Gjj(m:JO o H rb s L)(k:s.Ok){b:Nat}(hb:b<s.blk.length){v7:CV}(hv7:IL 0 H v7 (K8 (s.Jh b)))
  {E0:Env}(h0:E0 0=.ptr rb 0)(h5:E0 5=.Gf)(h6:E0 6=.i ((64*b:Nat):Int))(h7:E0 7=v7)(h8:E0 8=.i 0){r:Option (CX×Env×Gb)}(hr:den P (.loop Zt) E0 H=r):
  ∃E' H' a l,r=some (.exit 0,E',H')∧Gr H H'∧PL H.length H' (E' 5) l∧E' 6=.i ((a:Nat):Int)∧a≤10000∧l.length≤2048∧l++Js (64*(b+1)) a []=Js (64*(b+1)) (64*b) (s.Jh b)∧∀t,t∉wr Zt→E' t=E0 t:=by
 have few:=k.few
 have hnb:=k.nb
 have hfl:(s.Jh b).length≤2048:=Jr (List.length_filter_le _ _) few
 obtain⟨x',E',H',e,-,⟨rfl,g,hf⟩,fr⟩:=Gy (p:=P) (c:=Zt) (E0:=E0) (H0:=H)
  (fun q E H'=>Gr H H'∧∃(j a:Nat)(l:List (Nat×Nat)),E 8=.i j∧j≤(s.Jh b).length∧q=(s.Jh b).length-j∧E 6=.i (a:Int)∧a≤10000∧l.length≤j∧PL H.length H' (E 5) l∧
   l++Js (64*(b+1)) a ((s.Jh b).drop j)=Js (64*(b+1)) (64*b) (s.Jh b))
  (fun x' E' H'=>x'=.exit 0∧Gr H H'∧∃(a:Nat)(l:List (Nat×Nat)),PL H.length H' (E' 5) l∧E' 6=.i ((a:Nat):Int)∧a≤10000∧l.length≤2048∧l++Js (64*(b+1)) a []=Js (64*(b+1)) (64*b) (s.Jh b)) (by
   rintro q E H' hE ⟨g,j,a,l,e8,hj,rfl,e6,ha,hl,hn,hd⟩
   have e0:=(hE 0 dK).trans h0
   have e7:=(hE 7 dK).trans h7
   have m':=m.gr g
   have hc:=m'.cells
   have hv:IL 0 H' v7 (K8 (s.Jh b)):=hv7.keeps g
   have hlen:(K8 (s.Jh b)).length=(s.Jh b).length:=by simp[K8]
   have hvl:=hv.len H'
   rw[hlen]at hvl
   by_cases c:j<(s.Jh b).length
   ·have c':decide ((j:Int)<((s.Jh b).length:Int))=true:=GK oM
    have hx:(s.Jh b)[j]?=some (s.Jh b)[j]:=J9 c
    obtain⟨x,hxe⟩:∃x,x=(s.Jh b)[j]:=⟨_,rfl⟩
    rw[←hxe]at hx
    obtain⟨hxm,hxb⟩:=Hp.PG (JX hx)
    have hok:=k.ob x hxm
    have hsz:=Ob.size_le hok
    have hxa:(K8 (s.Jh b))[j]?=some (x.addr:Int):=by simp[K8,hx]
    obtain⟨vb,vo,i1,i2,i3,-⟩:=IL.at hv7 hxa
    have hvb:vb<H.length:=by
     cases e:H[vb]? with
     |none=>rw[e]at i3;cases i3
     |some q=>exact Gd e
    have i3Y:∀Y,Gr H Y→ld Y[vb]? vo=some (.i (x.addr:Int)):=fun Y gY=>by rw[gY.keep vb hvb fun h=>h];exact i3
    rw[drop_cons hx]at hd
    have hd':Js (64*(b+1)) a (x::(s.Jh b).drop (j+1))=(if a<x.addr then [(a,x.addr-a)]else [])++Js (64*(b+1)) (x.addr+x.size) ((s.Jh b).drop (j+1)):=rfl
    rw[hd']at hd
    have w1:IntKind.i64.wrap ((j:Int)+1)=((j+1:Nat):Int):=Gh oM
    have hnw:=hok.fits
    have hsn:s.nw=64*s.blk.length:=rfl
    have wB:IntKind.i64.wrap ((x.addr:Int)+(x.size:Int))=((x.addr+x.size:Nat):Int):=Gh oM
    have Vm:=k.obj hxm
    have hws:G5 x.refs.length x.data.length x.kd=(x.size:Int):=by unfold G5;rw[if_pos hok.valid];rfl
    obtain⟨bb,n,tl,r2,r3,r4,r5⟩:∃bb n tl,L.ov=.slice bb 0 n n 8 tl∧(∀Y,Gr H Y→Y[bb]?=some ⟨Gz L.hv s.objs,.rw,8⟩)∧((0:Int)≤(s.idx x.addr:Int)∧(s.idx x.addr:Int)<(n:Int))∧EZ (some ⟨Gz L.hv s.objs,.rw,8⟩) (s.idx x.addr*8+2) 3=some (Je x.refs.length x.data.length x.kd):=by
     have hxi:=Hp.YM Vm
     obtain⟨bb,n,tl,q1,q2,q3,q4,q5,q6⟩:=JO.row m hxi
     refine⟨bb,n,tl,q1,fun Y gY=>gY.get q3,q5,?_⟩
     rw[Ug,if_pos oM,←List.drop_drop,Ul L.hv s.objs _ x hxi];rfl
    have hidx:∀Y,Gr H Y→run P 22 [.ptr rb 0,.i x.addr] Y=some (.i (s.idx x.addr),Y):=fun Y gY=>by
     have h1:=NU (m.gr gY) k x.addr
     unfold Hp.KJ at h1
     rw[Hp.J8.2 ⟨x,Vm⟩,if_pos rfl]at h1
     exact h1
    by_cases ca:a<x.addr
    ·rw[if_pos ca]at hd
     have R6:decide ((a:Int)<(x.addr:Int))=true:=GK oM
     have wS:IntKind.i64.wrap ((x.addr:Int)-(a:Int))=((x.addr-a:Nat):Int):=by rw[Gh oM];omega
     obtain⟨v',H1,a1,a2,a3⟩:=PL.push hn g.len oM (a,x.addr-a)
     have g1:Gr H H1:=g.news a3
     have hel:elems (H'++[⟨[.i (a:Int),.i ((x.addr-a:Nat):Int)],.rw,2⟩]) 2 (.slice H'.length 0 1 1 2 false)=some (1,[.i (a:Int),.i ((x.addr-a:Nat):Int)]):=by
      rw[JC oM]
      simp(disch:=first|exact dz|fail) only[simprocAttr,Gc,↓reduceIte,JW]
     have hc1:=(m.gr g1).cells
     have hi1:=i3Y H1 g1
     have hi0:=i3Y H' g
     have r1:=hidx H1 g1
     obtain⟨Y,y1,gY⟩:=Qs (H:=H1) x.refs.length x.data.length x.kd
     have hiY:=i3Y Y (g1.trans gY)
     have r3':=r3 H1 g1
     rw[hws]at y1
     rw[r2]at hc1
     dsimp only at a1
     unfold Je at r5 y1
     apply Gt (k':=(s.Jh b).length-(j+1))
     ·simp(disch:=first|exact dz|fail) only[simprocAttr,Gc,↓reduceIte,Zt,e0,e6,e7,e8,hvl,c',i1,i2,hi0,hi1,hiY,R6,wS,fill,splice,and_self,hel,Ja,a1,r1,hc1,r3',r4,r5,y1,wB,w1]
      rfl
     ·omega
     ·refine⟨g1.trans gY,j+1,x.addr+x.size,l++[(a,x.addr-a)],uA,oM,rfl,uA,oM,by simp;omega,by simp only[Gg,Nat.reduceEqDiff,↓reduceIte];exact a2.keeps gY,?_⟩
      rw[List.append_assoc];exact hd
    ·rw[if_neg ca,List.nil_append]at hd
     have R6:decide ((a:Int)<(x.addr:Int))=false:=GC oM
     have hi0:=i3Y H' g
     have r1:=hidx H' g
     have r3':=r3 H' g
     obtain⟨Y,y1,gY⟩:=Qs (H:=H') x.refs.length x.data.length x.kd
     have hiY:=i3Y Y (g.trans gY)
     rw[hws]at y1
     rw[r2]at hc
     unfold Je at r5 y1
     apply Gt (k':=(s.Jh b).length-(j+1))
     ·simp(disch:=first|exact dz|fail) only[simprocAttr,Gc,↓reduceIte,Zt,e0,e6,e7,e8,hvl,c',i1,i2,hi0,hiY,R6,r1,hc,r3',r4,r5,y1,wB,w1]
      rfl
     ·omega
     ·exact⟨g.trans gY,j+1,x.addr+x.size,l,uA,oM,rfl,uA,oM,oM,by simpa[Gg]using hn.keeps gY,hd⟩
   ·have c':decide ((j:Int)<((s.Jh b).length:Int))=false:=GC oM
    rw[Ghq oM]at hd
    apply Gl (x:=.exit 0)
    ·simp(disch:=first|exact dz|fail) only[simprocAttr,Gc,↓reduceIte,Zt,e0,e6,e7,e8,hvl,c']
     rfl
    ·simp
    ·exact⟨rfl,g,a,l,by simpa[Gg]using hn,by simp[Gg,e6],ha,oM,hd⟩) _ ⟨Keeps.refl H _,0,64*b,[],h8,oM,rfl,h6,oM,sM,by rw[h5];exact .inl ⟨rfl,rfl,.inl rfl⟩,sM⟩
 obtain⟨a,l,h1,h2,h3,h4,h5'⟩:=hf
 exact⟨E',H',a,l,hr.symm.trans e,g,h1,h2,h3,h4,h5',fr⟩
theorem Gef(m:JO o H rb s L)(k:s.Ok){b:Nat}(hb:b<s.blk.length):∃v H',run P 284 [.ptr rb 0,.i b] H=some (v,H')∧Gr H H'∧PL H.length H' v (s.gaps b):=by
 have hnb:=k.nb
 have hst:=EN m k b
 have hx:s.blk[b]?=some s.blk[b]:=J9 hb
 have hsn:s.GI b=(s.blk[b]).1:=by unfold Hp.GI;rw[Qc,hx];rfl
 have hsv:Hp.state s (b:Int)=(s.GI b:Int):=by
  unfold Hp.state
  rw[if_pos oM,K6,hx,hsn]
 rw[hsv]at hst
 rw[Gi Gps _ _ sM]
 unfold Hp.gaps
 by_cases c:s.GI b=1
 ·rw[if_pos c]
  rw[c]at hst
  have w0:IntKind.i64.wrap ((b:Int)*64)=((64*b:Nat):Int):=by rw[Gh oM];omega
  obtain⟨v7,H1,h1,g1,h7⟩:=SH m k b
  have h7':IL 0 H1 v7 (K8 (s.Jh b)):=h7.frame (fun c h=>Gn.2 ⟨Nat.zero_le _,(Gn.1 h).2⟩) fun c h=>rfl
  simp(disch:=first|exact dz|fail) only[simprocAttr,Gc,↓reduceIte,Gj,hst,show(((1:Nat):Int) != 1)=false from rfl,w0,h1]
  generalize hr:den P (.loop Zt) _ _=r
  obtain⟨E',H2,a,l,rfl,g2,hp,h6,ha,hl,hd,fr⟩:=Gjj (m.gr g1) k hb h7' uA uA uA uA uA hr
  have f1:=fr 1 dK
  simp only[Gg,Nat.reduceEqDiff,↓reduceIte]at f1
  have w1:IntKind.i64.wrap ((b:Int)+1)=((b+1:Nat):Int):=Gh oM
  have w2:IntKind.i64.wrap (((b+1:Nat):Int)*64)=((64*(b+1):Nat):Int):=by rw[Gh oM];omega
  have hg0:Js (64*(b+1)) a []=if a<64*(b+1)then [(a,64*(b+1)-a)]else []:=rfl
  rw[hg0]at hd
  by_cases ca:a<64*(b+1)
  ·rw[if_pos ca]at hd
   have R6:decide ((a:Int)<((64*(b+1):Nat):Int))=true:=GK oM
   have wS:IntKind.i64.wrap (((64*(b+1):Nat):Int)-(a:Int))=((64*(b+1)-a:Nat):Int):=by rw[Gh oM];omega
   obtain⟨v',H3,a1,a2,a3⟩:=PL.push hp g2.len oM (a,64*(b+1)-a)
   have hel:elems (H2++[⟨[.i (a:Int),.i ((64*(b+1)-a:Nat):Int)],.rw,2⟩]) 2 (.slice H2.length 0 1 1 2 false)=some (1,[.i (a:Int),.i ((64*(b+1)-a:Nat):Int)]):=by
    rw[JC oM]
    simp(disch:=first|exact dz|fail) only[simprocAttr,Gc,↓reduceIte,JW]
   dsimp only at a1
   refine⟨v',H3,?_,g1.trans (g2.news a3),?_⟩
   ·simp(disch:=first|exact dz|fail) only[simprocAttr,Gc,↓reduceIte,f1,h6,w1,w2,R6,wS,fill,splice,and_self,hel,Ja,a1]
   ·rw[←hd]
    exact a2.frame (fun c h=>Gn.2 ⟨Jr g1.len (Gn.1 h).1,(Gn.1 h).2⟩) fun c h=>rfl
  ·rw[if_neg ca,List.append_nil]at hd
   have R6:decide ((a:Int)<((64*(b+1):Nat):Int))=false:=GC oM
   refine⟨E' 5,H2,?_,g1.trans g2,?_⟩
   ·simp(disch:=first|exact dz|fail) only[simprocAttr,Gc,↓reduceIte,f1,h6,w1,w2,R6]
   ·rw[←hd]
    exact hp.frame (fun c h=>Gn.2 ⟨Jr g1.len (Gn.1 h).1,(Gn.1 h).2⟩) fun c h=>rfl
 ·rw[if_neg c]
  have e:(((s.GI b:Nat):Int) != 1)=true:=by simp;omega
  refine⟨.Gf,H,?_,Keeps.refl _ _,.inl ⟨rfl,rfl,.inl rfl⟩⟩
  simp(disch:=first|exact dz|fail) only[simprocAttr,Gc,↓reduceIte,Gj,hst,e]
theorem Gfx{r d kd:Int}{l:List (Nat×Nat)}(hl:l.length≤5000){v9:CV}(h9l:PL 0 H v9 l){q:Nat}(hq:H[q]?=some ⟨Je r d kd,.rw,0⟩)
  {E0:Env} (h4:E0 4=.ptr q 0) (h9:E0 9=v9) (h10:E0 10=.i 0) {r':Option (CX×Env×Gb)} (hr:den P (.loop YL) E0 H=r'):
  ∃x E' H',r'=some (x,E',H')∧Gr H H'∧((∃y,x=.ret∧DN (G5 r d kd) l=some y∧E' 6=.i y.1∧E' 7=.bool true)∨(x=.exit 2∧DN (G5 r d kd) l=none))∧∀t,t∉wr YL→E' t=E0 t:=by
 obtain⟨x',E',H',e,-,⟨g,hf⟩,fr⟩:=Gy (p:=P) (c:=YL) (E0:=E0) (H0:=H)
  (fun q E H'=>Gr H H'∧∃j:Nat,E 10=.i j∧j≤l.length∧q=l.length-j∧DN (G5 r d kd) (l.drop j)=DN (G5 r d kd) l)
  (fun x E' H'=>Gr H H'∧((∃y,x=.ret∧DN (G5 r d kd) l=some y∧E' 6=.i y.1∧E' 7=.bool true)∨(x=.exit 2∧DN (G5 r d kd) l=none))) (by
   rintro q' E H' hE ⟨g,j,e10,hj,rfl,hd⟩
   have e4:=(hE 4 dK).trans h4
   have e9:=(hE 9 dK).trans h9
   have hv:PL 0 H' v9 l:=h9l.keeps g
   have hvl:=hv.len H'
   by_cases c:j<l.length
   ·have c':decide ((j:Int)<(l.length:Int))=true:=GK oM
    have hx:l[j]?=some l[j]:=J9 c
    obtain⟨x,hxe⟩:∃x,x=l[j]:=⟨_,rfl⟩
    rw[←hxe]at hx
    obtain⟨b,i1,i2,i3,i4,i5,-⟩:=PL.at hv hx
    have hq':=Gr.get g hq
    obtain⟨Y,y1,gY⟩:=Qs (H:=H') r d kd
    have i3Y:=gY.get i3
    unfold Je at hq' y1
    rw[drop_cons hx]at hd
    unfold DN at hd
    rw[List.find?_cons]at hd
    by_cases ca:G5 r d kd≤(x.2:Int)
    ·have R6:decide (G5 r d kd≤(x.2:Int))=true:=GK ca
     rw[R6]at hd
     apply Gl (x:=.ret)
     ·simp(disch:=first|exact dz|fail) only[simprocAttr,Gc,↓reduceIte,YL,e4,e9,e10,hvl,c',hq',y1,i1,i2,i3,i3Y,i4,i5,R6]
      rfl
     ·simp
     ·exact⟨g.trans gY,.inl ⟨x,rfl,hd.symm,uA,uA⟩⟩
    ·have R6:decide (G5 r d kd≤(x.2:Int))=false:=GC ca
     rw[R6]at hd
     have w1:IntKind.i64.wrap ((j:Int)+1)=((j+1:Nat):Int):=Gh oM
     apply Gt (k':=l.length-(j+1))
     ·simp(disch:=first|exact dz|fail) only[simprocAttr,Gc,↓reduceIte,YL,e4,e9,e10,hvl,c',hq',y1,i1,i2,i3,i3Y,i4,i5,R6,w1]
      rfl
     ·omega
     ·exact⟨g.trans gY,j+1,uA,oM,rfl,hd⟩
   ·have c':decide ((j:Int)<(l.length:Int))=false:=GC oM
    rw[Ghq oM]at hd
    apply Gl (x:=.exit 2)
    ·simp(disch:=first|exact dz|fail) only[simprocAttr,Gc,↓reduceIte,YL,e4,e9,e10,hvl,c']
     rfl
    ·simp
    ·exact⟨g,.inr ⟨rfl,hd.symm⟩⟩) _ ⟨Keeps.refl _ _,0,h10,oM,rfl,rfl⟩
 exact⟨x',E',H',hr.symm.trans e,g,hf,fr⟩
theorem Xy(m:JO o H rb s L)(k:s.Ok){b:Nat}(hb:b<s.blk.length):run P 280 [.ptr rb 0,.i b] H=some (.i (s.GI b),H)∧run P 283 [.ptr rb 0,.i b] H=some (.i (s.Nu b),H):=by
 have h1:=EN m k b
 have h2:=Gdf m k b
 have hx:s.blk[b]?=some s.blk[b]:=J9 hb
 have e1:Hp.state s (b:Int)=(s.GI b:Int):=by
  unfold Hp.state Hp.GI
  rw[if_pos oM,K6,Qc,hx];rfl
 have e2:Hp.space s (b:Int)=(s.Nu b:Int):=by
  unfold Hp.space Hp.Nu
  rw[if_pos oM,K6,Qc,hx];rfl
 rw[e1]at h1
 rw[e2]at h2
 exact⟨h1,h2⟩
theorem Gjb(m:JO o H rb s L)(k:s.Ok){r d kd sp:Int}{q:Nat}(hq:H[q]?=some ⟨Je r d kd,.rw,0⟩)
  {E0:Env} (h0:E0 0=.ptr rb 0) (h2:E0 2=.i sp) (h4:E0 4=.ptr q 0) (h8:E0 8=.i 1) {r':Option (CX×Env×Gb)} (hr:den P (.loop UW) E0 H=r'):
  ∃x E' H',r'=some (x,E',H')∧Gr H H'∧((∃y,x=.ret∧s.gap (G5 r d kd) sp=some y∧E' 6=.i y.1∧E' 7=.bool true)∨(x=.exit 0∧s.gap (G5 r d kd) sp=none)):=by
 have hnb:=k.nb
 have few:=k.few
 obtain⟨x',E',H',e,-,⟨g,hf⟩,fr⟩:=Gy (p:=P) (c:=UW) (E0:=E0) (H0:=H)
  (fun q E H'=>Gr H H'∧∃b:Nat,E 8=.i b∧1≤b∧b≤s.blk.length∧q=s.blk.length-b∧s.GaK (G5 r d kd) sp (s.blk.length-b) b=s.gap (G5 r d kd) sp)
  (fun x E' H'=>Gr H H'∧((∃y,x=.ret∧s.gap (G5 r d kd) sp=some y∧E' 6=.i y.1∧E' 7=.bool true)∨(x=.exit 0∧s.gap (G5 r d kd) sp=none))) (by
   rintro q' E H' hE ⟨g,b,e8,hb1,hb2,rfl,hd⟩
   have e0:=(hE 0 dK).trans h0
   have e2:=(hE 2 dK).trans h2
   have e4:=(hE 4 dK).trans h4
   have m':=m.gr g
   have hbl:=Iu m' k
   by_cases c:b<s.blk.length
   ·have c':decide ((b:Int)<(s.blk.length:Int))=true:=GK oM
    obtain⟨s1,s2⟩:=Xy m' k c
    have w1:IntKind.i64.wrap ((b:Int)+1)=((b+1:Nat):Int):=Gh oM
    rw[show s.blk.length-b=(s.blk.length-(b+1))+1 by omega]at hd
    unfold Hp.GaK at hd
    by_cases cc:s.GI b=1∧(s.Nu b:Int)=sp
    ·rw[if_pos cc]at hd
     have c1:(((s.GI b:Nat):Int) != 1)=false:=by rw[cc.1];rfl
     have c2:(((s.Nu b:Nat):Int) != sp)=false:=by rw[cc.2];simp
     obtain⟨v9,H1,a1,g1,h9⟩:=Gef m' k c
     have h9':PL 0 H1 v9 (s.gaps b):=h9.frame (fun c h=>Gn.2 ⟨Nat.zero_le _,(Gn.1 h).2⟩) fun c h=>rfl
     have hgl:(s.gaps b).length≤5000:=by
      unfold Hp.gaps
      split
      ·have:=Yg (e:=64*(b+1)) (l:=s.Jh b) (a:=64*b)
       have:(s.Jh b).length≤s.objs.length:=List.length_filter_le _ _
       omega
      ·simp
     have hq1:=Gr.get (g.trans g1) hq
     cases hgi:DN (G5 r d kd) (s.gaps b)with
     |some y=>
      rw[hgi]at hd
      suffices h:∃E' H2,den P UW E H'=some (.ret,E',H2)∧Gr H1 H2∧E' 6=.i y.1∧E' 7=.bool true by
       obtain⟨E',H2,h1,h2,h3,h4⟩:=h
       exact Gl h1 sM ⟨(g.trans g1).trans h2,.inl ⟨y,rfl,hd.symm,h3,h4⟩⟩
      simp(disch:=first|exact dz|fail) only[simprocAttr,Gc,↓reduceIte,UW,e0,e2,e4,e8,hbl,c',s1,s2,c1,c2,a1]
      generalize hr:den P (.loop YL) _ _=rr
      obtain⟨x,E',H2,rfl,g2,hh,fr⟩:=Gfx (r:=r) (d:=d) (kd:=kd) hgl h9' hq1 (by simp[Gg,e4]) uA uA hr
      rcases hh with⟨z,rfl,hz,h6,h7⟩|⟨rfl,hz⟩
      ·rw[hgi]at hz
       simp only[Gx]at hz
       subst hz
       simp(disch:=first|exact dz|fail) only[simprocAttr,Gc,↓reduceIte]
       exact⟨_,_,rfl,g2,h6,h7⟩
      ·rw[hgi]at hz;cases hz
     |none=>
      rw[hgi]at hd
      suffices h:∃E' H2,den P UW E H'=some (.normal,E',H2)∧Gr H1 H2∧E' 8=.i ((b+1:Nat):Int)by
       obtain⟨E',H2,h1,h2,h3⟩:=h
       exact Gt h1 (k':=s.blk.length-(b+1)) oM ⟨(g.trans g1).trans h2,b+1,h3,oM,oM,rfl,hd⟩
      simp(disch:=first|exact dz|fail) only[simprocAttr,Gc,↓reduceIte,UW,e0,e2,e4,e8,hbl,c',s1,s2,c1,c2,a1]
      generalize hr:den P (.loop YL) _ _=rr
      obtain⟨x,E',H2,rfl,g2,hh,fr⟩:=Gfx (r:=r) (d:=d) (kd:=kd) hgl h9' hq1 (by simp[Gg,e4]) uA uA hr
      rcases hh with⟨z,rfl,hz,h6,h7⟩|⟨rfl,hz⟩
      ·rw[hgi]at hz;cases hz
      ·have f8:=fr 8 dK
       simp only[Gg,Nat.reduceEqDiff,↓reduceIte,e8]at f8
       simp(disch:=first|exact dz|fail) only[simprocAttr,Gc,↓reduceIte,f8,w1]
       exact⟨_,_,rfl,g2,uA⟩
    ·rw[if_neg cc]at hd
     by_cases c1:s.GI b=1
     ·have c1':(((s.GI b:Nat):Int) != 1)=false:=by rw[c1];rfl
      have c2:(((s.Nu b:Nat):Int) != sp)=true:=by
       rw[bne_iff_ne];exact fun h=>cc ⟨c1,h⟩
      apply Gt (k':=s.blk.length-(b+1))
      ·simp(disch:=first|exact dz|fail) only[simprocAttr,Gc,↓reduceIte,UW,e0,e2,e4,e8,hbl,c',s1,s2,c1',c2,w1]
       rfl
      ·omega
      ·exact⟨g,b+1,uA,oM,oM,rfl,hd⟩
     ·have c1':(((s.GI b:Nat):Int) != 1)=true:=by simp;omega
      apply Gt (k':=s.blk.length-(b+1))
      ·simp(disch:=first|exact dz|fail) only[simprocAttr,Gc,↓reduceIte,UW,e0,e2,e4,e8,hbl,c',s1,s2,c1',w1]
       rfl
      ·omega
      ·exact⟨g,b+1,uA,oM,oM,rfl,hd⟩
   ·have c':decide ((b:Int)<(s.blk.length:Int))=false:=GC oM
    rw[show s.blk.length-b=0 by omega]at hd
    apply Gl (x:=.exit 0)
    ·simp(disch:=first|exact dz|fail) only[simprocAttr,Gc,↓reduceIte,UW,e0,e8,hbl,c']
     rfl
    ·simp
    ·exact⟨g,.inr ⟨rfl,hd.symm⟩⟩) _ ⟨Keeps.refl _ _,1,h8,oM,oM,rfl,rfl⟩
 exact⟨x',E',H',hr.symm.trans e,g,hf⟩
theorem Gh0(m:JO o H rb s L)(k:s.Ok)(r d kd sp:Int):∃H',run P 236 [.ptr rb 0,.agg (Je r d kd),.i sp] H=some (match s.gap (G5 r d kd) sp with|some y=>.Ju [.i y.1,.bool true]|none=>.Ju [.i 0,.bool false],H')∧Gr H H':=by
 obtain⟨X,hX⟩:∃X:Gb,X=H++[⟨Je r d kd,.rw,0⟩]:=⟨_,rfl⟩
 have gX:Gr H X:=by rw[hX];exact Gr.app _ _
 have lX:X[H.length]?=some ⟨Je r d kd,.rw,0⟩:=by rw[hX];simp
 rw[Gi c236 _ _ sM]
 simp(disch:=first|exact dz|fail) only[simprocAttr,Gc,↓reduceIte,G8]
 rw[←hX]
 generalize hr:den P (.loop UW) _ _=rr
 obtain⟨x,E',H',rfl,g,h⟩:=Gjb (m.gr gX) k (r:=r) (d:=d) (kd:=kd) (sp:=sp) lX uA uA uA uA hr
 refine⟨H',?_,gX.trans g⟩
 rcases h with⟨y,rfl,h1,h2,h3⟩|⟨rfl,h1⟩
 ·rw[h1]
  simp(disch:=first|exact dz|fail) only[simprocAttr,Gc,↓reduceIte,h2,h3]
 ·rw[h1]
  simp(disch:=first|exact dz|fail) only[simprocAttr,Gc,↓reduceIte]
theorem Gc9(m:JO o H rb s L)(k:s.Ok)(f:s.Fz)(r d kd sp:Int):
  Zm o H rb (s.first r d kd sp).1 (.Ju [.i (s.first r d kd sp).2.1,.bool (s.first r d kd sp).2.2]) (run P 145 [.ptr rb 0,.agg (Je r d kd),.i sp] H):=by
 have hnb:=k.nb
 have hwb:=QJ r d kd
 obtain⟨X,hX⟩:∃X:Gb,X=H++[⟨Je r d kd,.rw,0⟩]:=⟨_,rfl⟩
 have gX:Gr H X:=by rw[hX];exact Gr.app _ _
 have lX:X[H.length]?=some ⟨Je r d kd,.rw,0⟩:=by rw[hX];simp
 obtain⟨X1,y1,g1⟩:=Ao (H:=X) r d kd
 have m1:=m.gr (gX.trans g1)
 have GR:=Gr.get g1 lX
 have frl:∀n,s.free n≤s.blk.length:=fun n=>Hp.M0
 rw[Gi c145 _ _ sM]
 unfold Je at hX lX y1 GR⊢
 simp(disch:=first|exact dz|fail) only[simprocAttr,Gc,↓reduceIte,G8]
 rw[←hX]
 unfold Hp.first
 by_cases cL:32<G5 r d kd
 ·rw[if_pos cL]
  rw[GK cL]at y1
  obtain⟨X2,y2,g2⟩:=I4 (H:=X1) r d kd
  have m2:=m1.gr g2
  obtain⟨n,hn⟩:∃n:Nat,(G5 r d kd+63)/64=n:=⟨((G5 r d kd+63)/64).toNat,oM⟩
  rw[hn]at y2⊢
  rw[K6]
  have hf:=Tm m2 k (n:=n) oM
  have hfl:=frl n
  unfold Je at y2
  by_cases c0:s.free n=0
  ·rw[if_pos c0]
   rw[c0]at hf
   refine⟨X2,o,L,?_,m2,K_.gr ((gX.trans g1).trans g2)⟩
   simp(disch:=first|exact dz|fail) only[simprocAttr,Gc,↓reduceIte,lX,y1,GR,y2,hf,show(((0:Nat):Int)==0)=true from rfl]
  ·rw[if_neg c0]
   have e0:((s.free n:Int)==0)=false:=by simp;omega
   have w1:IntKind.i64.wrap ((s.free n:Int)*64)=64*(s.free n:Int):=by rw[Gh oM];omega
   obtain⟨H',o',L',h1,h2,h3⟩:=LH m2 k f (s.free n) n sp oM
   refine⟨H',o',L',?_,h2,(K_.gr ((gX.trans g1).trans g2)).trans h3⟩
   simp(disch:=first|exact dz|fail) only[simprocAttr,Gc,↓reduceIte,lX,y1,GR,y2,hf,e0,w1,h1]
 ·rw[if_neg cL]
  rw[GC cL]at y1
  obtain⟨X2,y2,g2⟩:=Gh0 m1 k r d kd sp
  have m2:=m1.gr g2
  unfold Je at y2
  cases hg:s.gap (G5 r d kd) sp with
  |some y=>
   rw[hg]at y2
   refine⟨X2,o,L,?_,m2,K_.gr ((gX.trans g1).trans g2)⟩
   simp(disch:=first|exact dz|fail) only[simprocAttr,Gc,↓reduceIte,lX,y1,GR,y2]
  |none=>
   rw[hg]at y2
   have hf:run P 234 [.ptr rb 0,.int .i64 1] X2=_:=Tm m2 k (n:=1) oM
   have hfl:=frl 1
   dsimp only
   by_cases c0:s.free 1=0
   ·rw[if_pos c0]
    rw[c0]at hf
    refine⟨X2,o,L,?_,m2,K_.gr ((gX.trans g1).trans g2)⟩
    simp(disch:=first|exact dz|fail) only[simprocAttr,Gc,↓reduceIte,lX,y1,GR,y2,hf,show(((0:Nat):Int)==0)=true from rfl]
   ·rw[if_neg c0]
    have e0:((s.free 1:Int)==0)=false:=by simp;omega
    have w1:IntKind.i64.wrap ((s.free 1:Int)*64)=64*(s.free 1:Int):=by rw[Gh oM];omega
    obtain⟨H',o',L',h1,h2,h3⟩:=GbS m2 k f (s.free 1) sp
    refine⟨H',o',L',?_,h2,(K_.gr ((gX.trans g1).trans g2)).trans h3⟩
    simp(disch:=first|exact dz|fail) only[simprocAttr,Gc,↓reduceIte,lX,y1,GR,y2,hf,e0,w1,h1]
end
end Go.Cs.Tryz
namespace Go.Cs.Tryz
open Go Go.Cs A
def GqW:Gm:=⟨10,0,T [n 2 0] (S (T [m 3 0,q1 4 134 3,no 5 4] (I 5 (Q [n 2 0]))) (Q [m 6 0,z 7 6,f 8 0 7,l 9 1 8,m 2 9])),[r 2]⟩
theorem c130:P 130=some GqW:=by kernel_rfl
def Gnk:Gm:=⟨12,0,T [nb 2 false] (Q [m 3 0,e 4 (.eqv true 1 (t 3) (c .nilPtr)),m 5 4,gt 5 (m 6 0),gt 5 (z 7 6),gt 5 (f 8 0 7),gt 5 (l 9 1 8),gt 5 (bk 10 .gtr 9 0),an 11 5 10,m 2 11]),[r 2]⟩
theorem Gpz:P 134=some Gnk:=by kernel_rfl
def GpA:Gm:=⟨69,0,T [bo 3 1,e 4 (.K7 (c .nilPtr))] (T [e 6 (.NY 264 [t 3]),m 5 6] (S (B 0 (S (D [⟨f 8 0 3,0,0,0⟩,⟨l 9 1 8,1,1,0⟩,⟨bk 10 .eql 9 0,2,0,0⟩,⟨m 11 10,3,0,0⟩,⟨gt 11 (f 12 1 3),4,0,0⟩,⟨gt 11 (l 13 1 12),5,1,0⟩,⟨gt 11 (bk 14 .geq 13 0),6,0,0⟩,⟨an 15 11 14,7,0,0⟩,⟨m 16 15,8,0,0⟩,⟨gt 16 (f 17 1 3),9,0,0⟩,⟨gt 16 (l 18 1 17),10,1,0⟩,⟨gt 16 (m 19 0),11,0,0⟩,⟨gt 16 (z 20 19),12,0,0⟩,⟨gt 16 (f 21 0 20),13,0,0⟩,⟨gt 16 (l 22 1 21),14,1,0⟩,⟨gt 16 (b 23 .lss 18 22),15,0,0⟩,⟨an 24 16 23,16,0,0⟩,⟨m 7 24,17,0,0⟩]) (C 7 (S (D [⟨m 25 5,0,0,0⟩,⟨m 26 0,1,0,0⟩,⟨z 27 26,2,0,0⟩,⟨f 28 1 27,3,0,0⟩,⟨l 29 1 28,4,1,0⟩,⟨f 30 1 3,5,0,0⟩,⟨l 31 1 30,6,1,0⟩,⟨bk 32 .mul 31 16,7,0,0⟩,⟨f 33 1 3,8,0,0⟩,⟨l 34 1 33,9,1,0⟩,⟨bk 35 .add 34 1,10,0,0⟩,⟨bk 36 .mul 35 16,11,0,0⟩,⟨e 37 (.slice 1 (t 29) (some (t 32)) (some (t 36)) none),12,0,0⟩,⟨e 38 (.Nz (t 25) [t 37] [(304,"dustcart/alloc.place",335),(305,"dustcart/alloc.place",340),(306,"dustcart/alloc.place",348),(307,"dustcart/alloc.place",349),(308,"dustcart/alloc.place",353)]),13,3,0⟩,⟨m 4 38,14,0,1⟩]) .ret) (T [f 40 0 3,l 41 1 40,bk 42 .eql 41 1,m 43 42,gt 43 (f 44 1 3),gt 43 (l 45 1 44),gt 43 (bk 46 .eql 45 0),an 47 43 46,m 39 47] (C 39 (Q [m 48 5,m 49 0,z 50 49,f 51 2 50,l 52 1 51,e 53 (.Nz (t 48) [t 52] [(304,"dustcart/alloc.place",335),(305,"dustcart/alloc.place",340),(306,"dustcart/alloc.place",348),(307,"dustcart/alloc.place",349),(308,"dustcart/alloc.place",353)]),m 4 53]) (T [f 55 0 3,l 56 1 55,bk 57 .eql 56 2,m 58 57,gt 58 (f 59 1 3),gt 58 (l 60 1 59),gt 58 (bk 61 .eql 60 0),an 62 58 61,m 54 62] (I 54 (Q [m 63 5,m 64 0,z 65 64,f 66 3 65,l 67 1 66,e 68 (.Nz (t 63) [t 67] [(304,"dustcart/alloc.place",335),(305,"dustcart/alloc.place",340),(306,"dustcart/alloc.place",348),(307,"dustcart/alloc.place",349),(308,"dustcart/alloc.place",353)]),m 4 68])))))))) (Q [e 4 (.K7 (c .nilPtr))]))),[r 4]⟩
theorem Gq8:P 216=some GpA:=by kernel_rfl
def Grs:Gm:=⟨18,0,T [e 3 (.K7 (c .nilPtr))] (S (T [f 4 2 1,l 5 1 4,bk 6 .lss 5 0,m 7 6,gf 7 (f 8 2 1),gf 7 (l 9 1 8),gf 7 (m 10 0),gf 7 (le 11 10),gf 7 (b 12 .geq 9 11),or 13 7 12] (I 13 (Q [e 3 (.K7 (c .nilPtr))]))) (Q [m 14 0,f 15 2 1,l 16 1 15,x 17 1 14 16,m 3 17])),[r 3]⟩
theorem GoA:P 264=some Grs:=by kernel_rfl
end Go.Cs.Tryz
namespace Go.Cs
open Go
structure Rt where
 slots:List (List Int)
 glob:List Int
 queue:List Int
structure Rt.Ok(R:Rt):Prop where
 ns:1≤R.slots.length∧R.slots.length≤4
 s16:∀l∈R.slots,l.length=16
 g16:R.glob.length=16
 Xe:R.queue.length≤64
 vs:∀l∈R.slots,∀v∈l,0≤v∧v≤9223372036854775807
 vg:∀v∈R.glob,0≤v∧v≤9223372036854775807
 vq:∀v∈R.queue,0<v∧v≤9223372036854775807
def Rt.flat(R:Rt):List Int:=R.slots.flatten
theorem KG:∀{l:List (List Int)},(∀x∈l,x.length=16)→l.flatten.length=16*l.length
 |[],_=>rfl
 |x::l,h=>by
  rw[List.flatten_cons,Nq,KG fun y hy=>h y (Um _ hy),h x NC,List.length_cons];omega
theorem Rt.Ok.KG{R:Rt}(k:R.Ok):R.flat.length=16*R.slots.length:=Go.Cs.KG k.s16
theorem flat_get:∀{l:List (List Int)}{m i:Nat}{x:List Int},(∀x∈l,x.length=16)→l[m]?=some x→i<16→l.flatten[16*m+i]?=x[i]?
 |[],m,i,x,_,h,_=>by simp at h
 |y::l,0,i,x,h,e,hi=>by
  simp only[List.getElem?_cons_zero,Gx]at e
  subst e
  rw[List.flatten_cons,QN (by have:=h y NC;omega)]
  simp
 |y::l,m+1,i,x,h,e,hi=>by
  simp only[List.getElem?_cons_succ]at e
  have hy:=h y NC
  rw[List.flatten_cons,M_ oM,hy,show 16*(m+1)+i-16=16*m+i by omega]
  exact flat_get (fun z hz=>h z (Um _ hz)) e hi
theorem SX:∀{l:List (List Int)}{m i:Nat}{x:List Int}{v:Int},(∀x∈l,x.length=16)→l[m]?=some x→i<16→(l.set m (x.set i v)).flatten=l.flatten.set (16*m+i) v
 |[],m,i,x,v,_,h,_=>by simp at h
 |y::l,0,i,x,v,h,e,hi=>by
  simp only[List.getElem?_cons_zero,Gx]at e
  subst e
  have hy:=h y NC
  rw[List.set_cons_zero,List.flatten_cons,List.flatten_cons,List.set_append_left _ _ oM]
  simp
 |y::l,m+1,i,x,v,h,e,hi=>by
  simp only[List.getElem?_cons_succ]at e
  have hy:=h y NC
  rw[List.set_cons_succ,List.flatten_cons,List.flatten_cons,SX (fun z hz=>h z (Um _ hz)) e hi,List.set_append_right _ _ oM,hy,show 16*(m+1)+i-16=16*m+i by omega]
def Rt.loc(R:Rt)(kd mu ix:Int):Option (Nat×Nat):=
 if kd=0∧0≤mu∧mu<(R.slots.length:Int)then(if 0≤ix∧ix<16 then some (0,16*mu.toNat+ix.toNat)else none)
 else if kd=1∧mu=0 then(if 0≤ix∧ix<(R.glob.length:Int)then some (1,ix.toNat)else none)
 else if kd=2∧mu=0 then(if 0≤ix∧ix<(R.queue.length:Int)then some (2,ix.toNat)else none)
 else none
def Rt.li(R:Rt):Nat→List Int
 |0=>R.flat
 |1=>R.glob
 |_=>R.queue
def Rt.get(R:Rt)(kd mu ix:Int):Int×Int:=match R.loc kd mu ix with
 |some x=>((R.li x.1).getD x.2 0,0)
 |none=>(0,1)
def Rt.setAt(R:Rt)(x:Nat×Nat)(v:Int):Rt:=
 if x.1=0 then{R with slots:=R.slots.modify (x.2/16) fun l=>l.set (x.2 % 16) v}
 else if x.1=1 then{R with glob:=R.glob.set x.2 v}else{R with queue:=R.queue.set x.2 v}
def Rt.set(R:Rt)(kd mu ix v:Int):Rt×Int:=match R.loc kd mu ix with
 |some x=>if v<0∨(v=0∧kd=2)then(R,1)else(R.setAt x v,0)
 |none=>(R,1)
def Rt.push(R:Rt)(v:Int):Rt×Int:=if v≤0 then(R,1)else if R.queue.length=64 then(R,6)else({R with queue:=R.queue++[v]},0)
def Rt.new(n:Nat):Rt:=⟨List.replicate n (List.replicate 16 0),List.replicate 16 0,[]⟩
theorem Rt.BI{n:Nat}(h:1≤n∧n≤4):(Rt.new n).Ok where
 ns:=by simpa[Rt.new]using h
 s16:=fun l hl=>by rw[(List.mem_replicate.1 hl).2];simp
 g16:=by simp[Rt.new]
 Xe:=by simp[Rt.new]
 vs:=fun l hl v hv=>by rw[(List.mem_replicate.1 hl).2]at hv;rw[(List.mem_replicate.1 hv).2];omega
 vg:=fun v hv=>by rw[(List.mem_replicate.1 hv).2];omega
 vq:=fun v hv=>by cases hv
theorem Rt.Bg{R:Rt}(k:R.Ok){kd mu ix:Int}{x:Nat×Nat}(h:R.loc kd mu ix=some x):x.2<(R.li x.1).length∧x.1≤2∧(x.1=2↔kd=2)∧(x.1=0→x.2/16<R.slots.length):=by
 have hf:=k.KG
 unfold Rt.loc at h
 split at h
 ·split at h
  ·simp only[Gx]at h
   subst h
   refine⟨?_,by simp only;omega,by simp only;omega,fun _=>by simp only;omega⟩
   show _<R.flat.length
   simp only;omega
  ·cases h
 ·split at h
  ·split at h
   ·simp only[Gx]at h
    subst h
    refine⟨?_,by simp only;omega,by simp only;omega,fun e=>absurd e sM⟩
    show _<R.glob.length
    simp only;omega
   ·cases h
  ·split at h
   ·split at h
    ·simp only[Gx]at h
     subst h
     rename_i hc _
     refine⟨?_,by simp only;omega,⟨fun _=>hc.1,fun _=>rfl⟩,fun e=>absurd e sM⟩
     show _<R.queue.length
     simp only;omega
    ·cases h
   ·cases h
theorem Yq{α:Type}{f:α→α}:∀{l:List α}{i:Nat},l.modify i f=match l[i]? with|some x=>l.set i (f x)|none=>l
 |[],i=>by simp
 |x::l,0=>by simp
 |x::l,i+1=>by
  rw[List.modify_succ_cons,Yq (l:=l) (i:=i),List.getElem?_cons_succ]
  cases l[i]?<;>rfl
theorem Rt.LP{R:Rt}(k:R.Ok){x:Nat×Nat}(hx:x.1≤2)(h0:x.1=0→x.2/16<R.slots.length)(v:Int)(i:Nat)(hi:i≤2):(R.setAt x v).li i=if i=x.1 then(R.li i).set x.2 v else R.li i:=by
 obtain⟨a,j⟩:=x
 simp only at hx h0⊢
 match a,hx with
 |0,_=>
  have hl:=h0 rfl
  have e:(R.setAt (0,j) v).flat=R.flat.set j v:=by
   show(R.slots.modify (j/16) fun l=>l.set (j % 16) v).flatten=_
   rw[Yq,J9 hl]
   have hg:=J9 hl
   show(R.slots.set (j/16) (R.slots[j/16].set (j % 16) v)).flatten=_
   rw[SX k.s16 hg oM]
   show R.slots.flatten.set _ v=R.slots.flatten.set _ v
   congr 1
   omega
  match i,hi with
  |0,_=>rw[if_pos rfl];exact e
  |1,_=>rfl
  |2,_=>rfl
 |1,_=>match i,hi with
  |0,_=>rfl
  |1,_=>rfl
  |2,_=>rfl
 |2,_=>match i,hi with
  |0,_=>rfl
  |1,_=>rfl
  |2,_=>rfl
theorem BK{α:Type}{f:α→α}{l:List α}{i:Nat}:(l.modify i f).length=l.length:=List.length_modify ..
theorem Oc{α:Type}{f:α→α}{l:List α}{i:Nat}{y:α}(h:y∈l.modify i f):y∈l∨∃x∈l,y=f x:=by
 rw[Yq]at h
 cases e:l[i]? with
 |none=>rw[e]at h;exact .inl h
 |some x=>
  rw[e]at h
  rcases List.mem_or_eq_of_mem_set h with h|h
  ·exact .inl h
  ·exact .inr ⟨x,JX e,h⟩
theorem Rt.Ok.set{R:Rt}(k:R.Ok)(kd mu ix v:Int)(hv:v≤9223372036854775807):(R.set kd mu ix v).1.Ok:=by
 unfold Rt.set
 split
 ·rename_i x hx
  split
  ·exact k
  ·rename_i hc
   obtain⟨h1,h2,h3,h4⟩:=Rt.Bg k hx
   unfold Rt.setAt
   split
   ·refine⟨by rw[BK];exact k.ns,fun l hl=>?_,k.g16,k.Xe,fun l hl w hw=>?_,k.vg,k.vq⟩
    ·rcases Oc hl with h|⟨y,hy,rfl⟩
     ·exact k.s16 l h
     ·rw[List.length_set];exact k.s16 y hy
    ·rcases Oc hl with h|⟨y,hy,rfl⟩
     ·exact k.vs l h w hw
     ·rcases List.mem_or_eq_of_mem_set hw with h|h
      ·exact k.vs y hy w h
      ·subst h;omega
   ·split
    ·refine⟨k.ns,k.s16,by rw[List.length_set];exact k.g16,k.Xe,k.vs,fun w hw=>?_,k.vq⟩
     rcases List.mem_or_eq_of_mem_set hw with h|h
     ·exact k.vg w h
     ·subst h;omega
    ·refine⟨k.ns,k.s16,k.g16,by rw[List.length_set];exact k.Xe,k.vs,k.vg,fun w hw=>?_⟩
     rcases List.mem_or_eq_of_mem_set hw with h|h
     ·exact k.vq w h
     ·subst h
      have:kd=2:=h3.1 oM
      omega
 ·exact k
theorem Rt.Ok.push{R:Rt}(k:R.Ok)(v:Int)(hv:v≤9223372036854775807):(R.push v).1.Ok:=by
 unfold Rt.push
 split
 ·exact k
 ·split
  ·exact k
  ·rename_i h1 h2
   refine⟨k.ns,k.s16,k.g16,by have:=k.Xe;simp;omega,k.vs,k.vg,fun w hw=>?_⟩
   rcases NG.1 hw with h|h
   ·exact k.vq w h
   ·simp only[Uy]at h;subst h;omega
structure K9(o:Tags)(H:Gb)(rb:Nat)(R:Rt)(v:Nat→CV):Prop where
 dom:∀c t,o c=some t→c<H.length
 top:o rb=some (0,9,0)
 cells:H[rb]?=some ⟨[.i R.slots.length,v 0,v 1,v 2],.rw,0⟩
 li:∀i,i≤2→At o (0,i,0) H (v i) 1 (R.li i).length (ints (R.li i))
theorem K9.frame{o o':Tags}{H H':Gb}{rb:Nat}{R:Rt}{v:Nat→CV}(m:K9 o H rb R v)(hd:∀c t,o' c=some t→c<H'.length)(ho:∀c t,o c=some t→o' c=some t)(hf:∀c t,o c=some t→H'[c]?=H[c]?):K9 o' H' rb R v where
 dom:=hd
 top:=ho _ _ m.top
 cells:=by rw[hf _ _ m.top,m.cells]
 li:=fun i h=>(m.li i h).frame (fun c=>ho c _) (fun c=>hf c _)
theorem K9.gr{o:Tags}{H H':Gb}{rb:Nat}{R:Rt}{v:Nat→CV}(m:K9 o H rb R v)(g:Gr H H'):K9 o H' rb R v:=
 m.frame (fun c t h=>JH (m.dom c t h) g.len) (fun _ _ h=>h) (fun c t h=>g.keep c (m.dom c t h) fun h=>h)
def Gfr(o:Tags)(H:Gb)(rb:Nat)(R':Rt)(v:CV)(r:Option (CV×Gb)):Prop:=
 ∃H' o' w',r=some (v,H')∧K9 o' H' rb R' w'∧K_ o H o' H'
def Z4(v:Nat→CV)(x:Option (Nat×Nat)):CV:=match x with
 |some x=>.ptr (Gp (v x.1)) x.2
 |none=>.nilPtr
theorem K9.setAt{o:Tags}{H:Gb}{rb:Nat}{R:Rt}{v:Nat→CV}(m:K9 o H rb R v)(k:R.Ok){x:Nat×Nat}(h1:x.2<(R.li x.1).length)(h2:x.1≤2)(h0:x.1=0→x.2/16<R.slots.length)(w:Int):
  o (Gp (v x.1))=some (0,x.1,0)∧H[Gp (v x.1)]?=some ⟨ints (R.li x.1),.rw,1⟩∧K9 o (H.set (Gp (v x.1)) ⟨(ints (R.li x.1)).set x.2 (.i w),.rw,1⟩) rb (R.setAt x w) v:=by
 obtain⟨tl,e1,e2,e3,e4⟩:=(m.li x.1 h2).pos oM
 refine⟨e2,e3,?_⟩
 have hns:(R.setAt x w).slots.length=R.slots.length:=by
  unfold Rt.setAt
  split
  ·simp
  ·split<;>rfl
 have old:∀c t,o c=some t→t≠(0,x.1,0)→(H.set (Gp (v x.1)) ⟨(ints (R.li x.1)).set x.2 (.i w),.rw,1⟩)[c]?=H[c]?:=fun c t h hn=>by
  rw[JU]
  intro hc
  rw[hc,h]at e2
  simp only[Gx]at e2
  exact hn e2
 refine⟨fun c t h=>by rw[List.length_set];exact m.dom c t h,m.top,?_,fun i hi=>?_⟩
 ·rw[old _ _ m.top (by simp;omega),m.cells,hns]
 ·rw[Rt.LP k h2 h0 w i hi]
  by_cases c:i=x.1
  ·subst c
   rw[if_pos rfl,List.length_set,ints_set]
   exact .inr ⟨Gp (v x.1),tl,e1,e2,by rw[KI (Gd e3)],by simp[ints]⟩
  ·rw[if_neg c]
   exact(m.li i hi).frame (fun c h=>h) fun d h=>old d _ h (by simp[c])
end Go.Cs
namespace Go.Cs.Tryz
open Go Go.Cs
section
variable {H : Gb} {o : Tags} {rb : Nat} {R : Rt} {v : Nat → CV}
theorem QZ(m:K9 o H rb R v)(k:R.Ok):run P 134 [.ptr rb 0] H=some (.bool true,H):=by
 have h:=m.cells
 have hp:(0:Int)<(R.slots.length:Int):=by have:=k.ns;omega
 rw[Gi Gpz _ _ sM]
 simp(disch:=first|exact dz|fail) only[simprocAttr,Gc,↓reduceIte,Gv,h,hp,EC,Bool.not_false,decide_true]
theorem Zy(m:K9 o H rb R v)(k:R.Ok):run P 130 [.ptr rb 0] H=some (.i R.slots.length,H):=by
 have h:=m.cells
 have h1:=QZ m k
 rw[Gi c130 _ _ sM]
 simp(disch:=first|exact dz|fail) only[simprocAttr,Gc,↓reduceIte,Gv,h,h1,Bool.not_true]
theorem OQ{q:Nat}{kd mu ix:Int}(hq:H[q]?=some ⟨[.i kd,.i mu,.i ix],.rw,0⟩) {w:CV} {n b f:Nat} (hw:(n=0∧∀X,KA w X=some (.i 0,X))∨∃c t,w=.slice b f n c 1 t):
  run P 264 [w,.ptr q 0] H=some (if 0≤ix∧ix<(n:Int)then .ptr b (f+ix.toNat)else .nilPtr,H):=by
 have hl:KA w H=some (.i n,H):=by
  rcases hw with⟨rfl,h⟩|⟨c,t,rfl⟩
  ·exact h H
  ·rfl
 rw[Gi GoA _ _ sM]
 by_cases c1:ix<0
 ·rw[if_neg oM]
  simp(disch:=first|exact dz|fail) only[simprocAttr,Gc,↓reduceIte,Gj,hq,c1,decide_true]
 ·have c1':decide (ix<0)=false:=GC c1
  by_cases c2:(n:Int)≤ix
  ·rw[if_neg oM]
   simp(disch:=first|exact dz|fail) only[simprocAttr,Gc,↓reduceIte,Gj,hq,c1',c2,hl,decide_true]
  ·have c2':decide ((n:Int)≤ix)=false:=GC c2
   rw[if_pos oM]
   rcases hw with⟨rfl,h⟩|⟨c,t,rfl⟩
   ·omega
   ·have c3:0≤ix∧ix<(n:Int):=by omega
    simp(disch:=first|exact dz|fail) only[simprocAttr,Gc,↓reduceIte,Gj,hq,c1',c2',hl,c3]
theorem Gfo(m:K9 o H rb R v)(k:R.Ok)(kd mu ix:Int):∃H',run P 216 [.ptr rb 0,.agg [.i kd,.i mu,.i ix]] H=some (Z4 v (R.loc kd mu ix),H')∧Gr H H':=by
 obtain⟨X,hX⟩:∃X:Gb,X=H++[⟨[.i kd,.i mu,.i ix],.rw,0⟩]:=⟨_,rfl⟩
 have gX:Gr H X:=by rw[hX];exact Gr.app _ _
 have lX:X[H.length]?=some ⟨[.i kd,.i mu,.i ix],.rw,0⟩:=by rw[hX];simp
 have mX:=m.gr gX
 have hc:=mX.cells
 have hfl:=k.KG
 have hns:=k.ns
 refine⟨X,?_,gX⟩
 rw[Gi Gq8 _ _ sM]
 simp(disch:=first|exact dz|fail) only[simprocAttr,Gc,↓reduceIte,Gj]
 rw[←hX]
 have at':∀i,i≤2→(∃b f,((R.li i).length=0∧∀X,KA (v i) X=some (.i 0,X))∨∃c t,v i=.slice b f (R.li i).length c 1 t):=fun i hi=>by
  rcases mX.li i hi with⟨h1,-,h2⟩|⟨b,tl,h1,-⟩
  ·refine⟨0,0,.inl ⟨h1,fun Y=>?_⟩⟩
   rcases h2 with h2|⟨b,f,h2⟩<;>rw[h2]<;>rfl
  ·exact⟨b,0,.inr ⟨_,tl,h1⟩⟩
 unfold Rt.loc
 by_cases a0:kd=0∧0≤mu∧mu<(R.slots.length:Int)
 ·rw[if_pos a0]
  obtain⟨rfl,a1,a2⟩:=a0
  obtain⟨mu,rfl⟩:∃n:Nat,mu=n:=⟨mu.toNat,oM⟩
  rw[K6]
  have d1:decide ((0:Int)≤(mu:Int))=true:=GK a1
  have d2:decide ((mu:Int)<(R.slots.length:Int))=true:=GK a2
  obtain⟨tl,s1,s2,s3,s4⟩:=(mX.li 0 oM).pos (by show 0<R.flat.length;omega)
  have e0:R.li 0=R.flat:=rfl
  have w1:IntKind.i64.wrap ((mu:Int)*16)=((mu*16:Nat):Int):=by rw[Gh oM];omega
  have w2:IntKind.i64.wrap ((mu:Int)+1)=((mu+1:Nat):Int):=by rw[Gh oM];omega
  have w3:IntKind.i64.wrap (((mu+1:Nat):Int)*16)=(((mu+1)*16:Nat):Int):=by rw[Gh oM];omega
  have sl:=GcC (b:=Gp (v 0)) (f:=0) (n:=(R.li 0).length) (e:=1) (l:=mu*16) (h:=(mu+1)*16) (tl:=tl) oM (by rw[e0];omega)
  rw[←s1]at sl
  rw[show(mu+1)*16-mu*16=16 by omega,Nat.zero_add,Nat.mul_one]at sl
  have hat:=OQ (H:=X) lX (w:=.slice (Gp (v 0)) (mu*16) 16 ((R.li 0).length-mu*16) 1 tl) (n:=16) (b:=Gp (v 0)) (f:=mu*16) (.inr ⟨_,_,rfl⟩)
  simp(disch:=first|exact dz|fail) only[simprocAttr,Gc,↓reduceIte,lX,d1,d2,hc,w1,w2,w3,Oh,Jd,JF,show((0:Int)==0)=true from rfl,D7,A9,sl,Dx,hat]
  by_cases c:0≤ix∧ix<16
  ·rw[if_pos (by simpa using c),if_pos c]
   show some (CV.ptr _ _,X)=some (CV.ptr _ _,X)
   congr 3
   simp only;omega
  ·rw[if_neg (by simpa using c),if_neg c];rfl
 ·rw[if_neg a0]
  have hcond:∀(Z:Option (CV×Gb)),True:=fun _=>trivial
  have e0:R.li 0=R.flat:=rfl
  have finish:∀i,1≤i→i≤2→run P 264 [v i,.ptr H.length 0] X=some (if 0≤ix∧ix<((R.li i).length:Int)then .ptr (Gp (v i)) ix.toNat else .nilPtr,X):=fun i _ hi=>by
   obtain⟨b,f,h⟩:=at' i hi
   have h2:((R.li i).length=0∧∀X,KA (v i) X=some (.i 0,X))∨∃c t,v i=.slice (Gp (v i)) 0 (R.li i).length c 1 t:=by
    rcases mX.li i hi with⟨h1,-,h2⟩|⟨b,tl,h1,-⟩
    ·refine .inl ⟨h1,fun Y=>?_⟩
     rcases h2 with h2|⟨b,f,h2⟩<;>rw[h2]<;>rfl
    ·exact .inr ⟨_,tl,by rw[h1];rfl⟩
   have:=OQ (H:=X) lX (w:=v i) (n:=(R.li i).length) (b:=Gp (v i)) (f:=0) h2
   rw[Nat.zero_add]at this
   exact this
  by_cases k1:kd=1
  ·subst k1
   by_cases a1:mu=0
   ·subst a1
    rw[if_pos (show(1:Int)=1∧(0:Int)=0 from⟨rfl,rfl⟩)]
    have fi:=finish 1 oM oM
    by_cases c:0≤ix∧ix<(R.glob.length:Int)
    ·rw[if_pos c]
     rw[if_pos (show 0≤ix∧ix<((R.li 1).length:Int)from c)]at fi
     simp(disch:=first|exact dz|fail) only[simprocAttr,Gc,↓reduceIte,lX,hc,Jd,JF,show((1:Int)==0)=false from rfl,show((1:Int)==1)=true from rfl,show((0:Int)==0)=true from rfl,fi]
     rfl
    ·rw[if_neg c]
     rw[if_neg (show¬(0≤ix∧ix<((R.li 1).length:Int))from c)]at fi
     simp(disch:=first|exact dz|fail) only[simprocAttr,Gc,↓reduceIte,lX,hc,Jd,JF,show((1:Int)==0)=false from rfl,show((1:Int)==1)=true from rfl,show((0:Int)==0)=true from rfl,fi]
     rfl
   ·rw[if_neg (show¬((1:Int)=1∧mu=0)from fun h=>a1 h.2),if_neg (show¬((1:Int)=2∧mu=0)from by omega)]
    have a1':(mu==0)=false:=by simp[a1]
    simp(disch:=first|exact dz|fail) only[simprocAttr,Gc,↓reduceIte,lX,hc,show((1:Int)==0)=false from rfl,show((1:Int)==1)=true from rfl,show((1:Int)==2)=false from rfl,a1']
    rfl
  ·by_cases k2:kd=2
   ·subst k2
    rw[if_neg (show¬((2:Int)=1∧mu=0)from by omega)]
    by_cases a1:mu=0
    ·subst a1
     rw[if_pos (show(2:Int)=2∧(0:Int)=0 from⟨rfl,rfl⟩)]
     have fi:=finish 2 oM oM
     by_cases c:0≤ix∧ix<(R.queue.length:Int)
     ·rw[if_pos c]
      rw[if_pos (show 0≤ix∧ix<((R.li 2).length:Int)from c)]at fi
      simp(disch:=first|exact dz|fail) only[simprocAttr,Gc,↓reduceIte,lX,hc,Jd,JF,show((2:Int)==0)=false from rfl,show((2:Int)==1)=false from rfl,show((2:Int)==2)=true from rfl,show((0:Int)==0)=true from rfl,fi]
      rfl
     ·rw[if_neg c]
      rw[if_neg (show¬(0≤ix∧ix<((R.li 2).length:Int))from c)]at fi
      simp(disch:=first|exact dz|fail) only[simprocAttr,Gc,↓reduceIte,lX,hc,Jd,JF,show((2:Int)==0)=false from rfl,show((2:Int)==1)=false from rfl,show((2:Int)==2)=true from rfl,show((0:Int)==0)=true from rfl,fi]
      rfl
    ·rw[if_neg (show¬((2:Int)=2∧mu=0)from fun h=>a1 h.2)]
     have a1':(mu==0)=false:=by simp[a1]
     simp(disch:=first|exact dz|fail) only[simprocAttr,Gc,↓reduceIte,lX,hc,show((2:Int)==0)=false from rfl,show((2:Int)==1)=false from rfl,show((2:Int)==2)=true from rfl,a1']
     rfl
   ·rw[if_neg (show¬(kd=1∧mu=0)from fun h=>k1 h.1),if_neg (show¬(kd=2∧mu=0)from fun h=>k2 h.1)]
    have e1:(kd==1)=false:=by simp[k1]
    have e2:(kd==2)=false:=by simp[k2]
    by_cases k0:kd=0
    ·subst k0
     by_cases a1:0≤mu
     ·have a2:decide (mu<(R.slots.length:Int))=false:=GC oM
      have a1':decide (0≤mu)=true:=GK a1
      simp(disch:=first|exact dz|fail) only[simprocAttr,Gc,↓reduceIte,lX,hc,show((0:Int)==0)=true from rfl,show((0:Int)==1)=false from rfl,show((0:Int)==2)=false from rfl,a1',a2]
      rfl
     ·have a1':decide (0≤mu)=false:=GC a1
      simp(disch:=first|exact dz|fail) only[simprocAttr,Gc,↓reduceIte,lX,hc,show((0:Int)==0)=true from rfl,show((0:Int)==1)=false from rfl,show((0:Int)==2)=false from rfl,a1']
      rfl
    ·have e3:(kd==0)=false:=by simp[k0]
     simp(disch:=first|exact dz|fail) only[simprocAttr,Gc,↓reduceIte,lX,hc,e1,e2,e3]
     rfl
end
end Go.Cs.Tryz
namespace Go.Cs.Tryz
open Go Go.Cs A
def C12:Gm:=⟨17,0,T [e 2 (.K7 (c .nilPtr)),n 3 0] (S (T [m 4 0,bk 5 .lss 4 1,m 6 5,gf 6 (m 7 0),gf 6 (bk 8 .gtr 7 4),or 9 6 8] (I 9 (Q [e 2 (.K7 (c .nilPtr)),n 3 1]))) (S (D [⟨m 10 0,0,0,0⟩,⟨m 11 0,1,0,0⟩,⟨bk 12 .mul 11 16,2,0,0⟩,⟨e 13 (.makeSlice 1 [i 0] (t 12) (t 12)),3,0,0⟩,⟨e 14 (.makeSlice 1 [i 0] (k 16) (k 16)),4,0,0⟩,⟨e 15 (.build [i 0,.Gf,.Gf,.Gf] [(0,1,t 10),(1,1,t 13),(2,1,t 14),(3,1,c .Gf)]),5,0,0⟩,⟨bo 16 15,6,0,0⟩,⟨m 2 16,7,0,0⟩,⟨n 3 0,8,0,0⟩]) .ret)),[r 2,r 3]⟩
theorem c12:P 12=some C12:=by kernel_rfl
def C29:Gm:=⟨20,0,T [bo 3 1,n 4 0,n 5 0] (T [m 9 0,lg 10 3 3,q2 11 114 9 10,m 8 11,ex 12 8 0,ex 13 8 1,m 6 12,m 7 13] (S (T [m 14 7,bk 15 .neq 14 0] (I 15 (Q [m 16 7,n 4 0,m 5 16]))) (Q [m 17 6,z 18 17,l 19 1 18,m 4 19,n 5 0]))),[r 4,r 5]⟩
theorem c29:P 29=some C29:=by kernel_rfl
def C34:Gm:=⟨32,0,T [bo 4 1,n 6 0] (T [m 10 0,lg 11 3 4,q2 12 114 10 11,m 9 12,ex 13 9 0,ex 14 9 1,m 7 13,m 8 14] (S (T [m 15 8,bk 16 .neq 15 0] (I 16 (Q [m 17 8,m 6 17]))) (S (T [m 18 2,bk 19 .lss 18 0,m 20 19,gf 20 (m 21 2),gf 20 (bk 22 .eql 21 0),gf 20 (m 23 22),gt 23 (f 24 0 4),gt 23 (l 25 1 24),gt 23 (bk 26 .eql 25 2),gf 20 (an 27 23 26),or 28 20 27] (I 28 (Q [n 6 1]))) (T [m 29 7,m 30 2,z 31 29,st 1 31 30] (Q [n 6 0]))))),[r 6]⟩
theorem c34:P 34=some C34:=by kernel_rfl
def GpB:Gm:=⟨16,0,T [bo 3 1,e 4 (.K7 (c .nilPtr)),n 5 0] (S (T [m 7 0,q1 8 134 7,no 9 8] (I 9 (Q [e 4 (.K7 (c .nilPtr)),n 5 5]))) (T [m 10 0,lg 11 3 3,q2 12 216 10 11,m 6 12] (S (T [m 13 6,e 14 (.eqv false 1 (t 13) (c .nilPtr))] (I 14 (Q [e 4 (.K7 (c .nilPtr)),n 5 1]))) (Q [m 15 6,m 4 15,n 5 0])))),[r 4,r 5]⟩
theorem Gqh:P 114=some GpB:=by kernel_rfl
def GoK:Gm:=⟨29,0,T [n 4 0] (S (B 0 (T [m 6 0,q1 7 134 6,no 8 7,m 5 8] (C 5 (Q [n 4 5]) (T [m 10 1,bk 11 .leq 10 0,m 9 11] (C 9 (Q [n 4 1]) (T [m 13 0,z 14 13,f 15 3 14,l 16 1 15,le 17 16,bk 18 .eql 17 64,m 12 18] (I 12 (Q [n 4 6])))))))) (T [m 19 0,m 20 0,z 21 20,f 22 3 21,l 23 1 22,m 24 1,e 25 (.buildSlice 1 [i 0] 1 [(0,1,t 24)]),ap 26 1 23 25,z 27 19,f 28 3 27,st 1 28 26] (Q [n 4 0]))),[r 4]⟩
theorem c159:P 159=some GoK:=by kernel_rfl
end Go.Cs.Tryz
