/- A part of the proof: PinHeld returns true for every input: Mostly moves and frees no object that is held, moves none that is pinned, and leaves what is kept as it is, but for addresses (P18.1, P18.4) Conditions: none. -/
import Derived.Test.YthlemjiphedjgaaGreatPinHeld1
import Derived.Test.YthlemjiphedjgaaGreatProg
import Derived.KernelRfl
set_option linter.unusedVariables false
set_option linter.unusedSimpArgs false
set_option linter.defProp false
set_option maxRecDepth 100000
namespace Go.Cs
open Go
def NA(o:Ob):List Ob→List Ob
 |[]=>[o]
 |x::l=>if x.addr<o.addr then x::NA o l else o::x::l
def KF(a id r d k:Nat):Ob:=⟨a,id,List.replicate r 0,List.replicate d 0,k,false⟩
def Hp.Vj(s:Hp)(a r d k:Nat):Hp:={s with objs:=NA (KF a (s.born+1) r d k) s.objs,born:=s.born+1}
def Hp.place(s:Hp)(a r d k:Int):Hp×Int×Int:=
 if JQ r d k=true then
  if s.fits a (G6 r.toNat d.toNat) (-1)=0 then(s.Vj a.toNat r.toNat d.toNat k.toNat,((s.born+1:Nat):Int),0)else(s,0,s.fits a (G6 r.toNat d.toNat) (-1))
 else(s,0,2)
theorem GU{o x:Ob}:∀{l:List Ob},x∈NA o l↔x=o∨x∈l
 |[]=>by simp[NA]
 |y::l=>by
  unfold NA
  split
  ·rw[List.mem_cons,List.mem_cons,GU]
   grind
  ·simp only[List.mem_cons]
theorem ZY{o:Ob}:∀{l:List Ob},l.Pairwise (fun a b=>a.addr+a.size≤b.addr)→(∀x∈l,o.addr+o.size≤x.addr∨x.addr+x.size≤o.addr)→(NA o l).Pairwise fun a b=>a.addr+a.size≤b.addr
 |[],_,_=>by simp[NA]
 |y::l,h,hx=>by
  have h0:=hx y QT
  have hp:=o.size_pos
  have hp2:=y.size_pos
  rw[List.pairwise_cons]at h
  unfold NA
  split
  ·rename_i hlt
   rw[List.pairwise_cons]
   refine⟨fun b hb=>?_,ZY h.2 fun x hx'=>hx x (VA _ hx')⟩
   rcases GU.1 hb with rfl|hb
   ·omega
   ·exact h.1 b hb
  ·rename_i hge
   rw[List.pairwise_cons,List.pairwise_cons]
   grind
theorem Fa{o:Ob}:∀{l:List Ob},l.Pairwise (fun a b=>a.id≠b.id)→(∀x∈l,x.id≠o.id)→(NA o l).Pairwise fun a b=>a.id≠b.id
 |[],_,_=>by simp[NA]
 |y::l,h,hx=>by
  have h0:=hx y QT
  rw[List.pairwise_cons]at h
  unfold NA
  split
  ·rw[List.pairwise_cons]
   refine⟨fun b hb=>?_,Fa h.2 fun x hx'=>hx x (VA _ hx')⟩
   rcases GU.1 hb with rfl|hb
   ·exact h0
   ·exact h.1 b hb
  ·rw[List.pairwise_cons,List.pairwise_cons]
   grind
theorem Gf4(l:List (Nat×Nat)):tails l≤l.length:=(List.takeWhile_sublist _).length_le
theorem Hp.SV{s:Hp}{b:Nat}(hb:b<s.blk.length):b+s.span b≤s.blk.length:=by
 unfold Hp.span
 split
 ·have:=Gf4 (s.blk.drop (b+1))
  rw[List.length_drop]at this
  omega
 ·omega
theorem Hp.Ok.TY{s:Hp}(k:s.Ok){a:Int}{n:Nat}(hn:0<n)(h:s.fits a n (-1)=0):∃m:Nat,a=m∧m % 2=0∧m+n≤s.nw∧∀o∈s.objs,m+n≤o.addr∨o.addr+o.size≤m:=by
 unfold Hp.fits at h
 split at h
 ·cases h
 rename_i c
 obtain⟨m,rfl⟩:∃m:Nat,a=m:=⟨a.toNat,oM⟩
 rw[Kt]at h c
 have hnw:s.nw=64*s.blk.length:=rfl
 have htk:s.taken m n (-1)=false→∀o∈s.objs,m+n≤o.addr∨o.addr+o.size≤m:=by
  intro ht o ho
  rw[←Bool.not_eq_true]at ht
  unfold Hp.taken at ht
  grind
 refine⟨m,rfl,oM,?_⟩
 split at h
 ·grind
 ·split at h
  ·cases h
  ·rename_i c2
   split at h
   ·cases h
   ·rename_i c3
    have hs:=Hp.SV (s:=s) (b:=m/64) oM
    grind
theorem YR(a id r d k:Nat):(KF a id r d k).size=G6 r d:=by simp[Ob.size,KF]
theorem GbV(a id r d k m:Nat):(KF a id r d k).cell m=if m=0 then(id:Int)else if m=1 then((r+16*d+4096*k:Nat):Int)else 0:=by
 unfold Ob.cell Ob.cells Ob.num KF
 grind
section
variable {s : Hp} {m r d k : Nat}
theorem Hp.Ok.Vj(o:s.Ok)(hv:JQ r d k=true)(h1:m % 2=0)(h2:m+G6 r d≤s.nw)(h3:∀x∈s.objs,m+G6 r d≤x.addr∨x.addr+x.size≤m)(hb:s.born<1000000000000):(s.Vj m r d k).Ok where
 nb:=o.nb
 st:=o.st
 ob:=fun x hx=>by
  have hv':=QD hv
  rcases GU.1 hx with rfl|hx
  ·exact⟨h1,by simp[KF];omega,by simp[KF];omega,by simp[KF];omega,by simp[KF,Hp.Vj],by rw[YR];exact h2⟩
  ·have q:=o.ob x hx
   exact⟨q.even,q.nr,q.nd,q.kd,⟨q.id.1,Nat.le_succ_of_le q.id.2⟩,q.fits⟩
 apart:=ZY o.apart fun x hx=>by rw[YR];exact h3 x hx
 ids:=Fa o.ids fun x hx=>by have:=(o.ob x hx).id;simp only[KF];omega
 born:=by show s.born+1≤_;omega
theorem Hp.Ok.GbZ(o:s.Ok)(o':(s.Vj m r d k).Ok)(h3:∀x∈s.objs,m+G6 r d≤x.addr∨x.addr+x.size≤m)(w:Nat):
  (s.Vj m r d k).word w=if w=m then((s.born+1:Nat):Int)else if w=m+1 then((r+16*d+4096*k:Nat):Int)else s.word w:=by
 have hz:2≤G6 r d:=by unfold G6;omega
 by_cases c:m≤w∧w<m+G6 r d
 ·have hm:KF m (s.born+1) r d k∈(s.Vj m r d k).objs:=GU.2 (.inl rfl)
  have h:=o'.word hm (k:=w-m) (by rw[YR];omega)
  have e:(KF m (s.born+1) r d k).addr+(w-m)=w:=by simp only[KF];omega
  rw[e,GbV]at h
  rw[h]
  have hs:s.word w=0:=by
   have:s.owner w=none:=by
    unfold Hp.owner
    grind
   unfold Hp.word
   rw[this]
  omega
 ·rw[if_neg oM,if_neg oM]
  cases hw:s.owner w with
  |some x=>
   have hx:=List.mem_of_find?_eq_some hw
   have hp:=Lp hw
   simp only[decide_eq_true_eq]at hp
   have q1:=o.word hx (k:=w-x.addr) oM
   have q2:=o'.word (GU.2 (.inr hx)) (k:=w-x.addr) oM
   grind
  |none=>
   have:(s.Vj m r d k).owner w=none:=by
    unfold Hp.owner
    rw[List.find?_eq_none]
    intro x hx
    rcases GU.1 hx with rfl|hx
    ·rw[YR];rw[decide_eq_true_eq];exact c
    ·unfold Hp.owner at hw
     grind
   unfold Hp.word
   rw[this,hw]
theorem I7{o:Ob}{p:Ob→Bool}:∀{l:List Ob},(NA o l).any p=(p o||l.any p):=by
 intro l
 rw[Bool.eq_iff_iff,Bool.or_eq_true,List.any_eq_true,List.any_eq_true]
 constructor
 ·rintro ⟨x,hx,h⟩
  rcases GU.1 hx with rfl|hx
  ·exact .inl h
  ·exact .inr ⟨x,hx,h⟩
 ·rintro (h|⟨x,hx,h⟩)
  ·exact⟨o,GU.2 (.inl rfl),h⟩
  ·exact⟨x,GU.2 (.inr hx),h⟩
theorem Hp.Sn(h1:m % 2=0):(s.Vj m r d k).starts=fun i=>if i=m/2 then true else s.starts i:=by
 funext i
 show(NA _ s.objs).any _=_
 rw[I7]
 simp only[KF]
 by_cases c:i=m/2
 ·grind
 ·rw[if_neg c]
  have:(m==2*i)=false:=by simp;omega
  rw[this];rfl
theorem Hp.Gbz:(s.Vj m r d k).pins=s.pins:=by
 funext i
 show(NA _ s.objs).any _=_
 rw[I7]
 simp only[KF,Bool.and_false,Bool.false_or]
 rfl
theorem Hp.Ge6(q v:Int):(∃o∈(s.Vj m r d k).objs,q=o.id∧v=o.addr)↔((∃o∈s.objs,q=o.id∧v=o.addr)∨(q=((s.born+1:Nat):Int)∧v=(m:Int))):=by
 constructor
 ·rintro ⟨o,ho,h⟩
  rcases GU.1 ho with rfl|ho
  ·exact .inr h
  ·exact .inl ⟨o,ho,h⟩
 ·rintro (⟨o,ho,h⟩|h)
  ·exact⟨o,GU.2 (.inr ho),h⟩
  ·exact⟨_,GU.2 (.inl rfl),h⟩
end
end Go.Cs
namespace Go.Cs.Tryz
open Go Go.Cs A
def C75:Gj:=⟨71,0,T [bo 5 2,n 6 0,n 7 0] (S (B 0 (T [m 10 0,q1 11 106 10,no 12 11,m 9 12] (C 9 (Q [n 6 0,n 7 5]) (T [lg 14 3 5,q1 15 163 14,no 16 15,m 13 16] (I 13 (Q [n 6 0,n 7 2])))))) (S (T [m 17 0,m 18 1,lg 19 3 5,q1 20 165 19,ca 21 164 [t 17,t 18,t 20,k (-1)],m 8 21] (T [m 22 8,bk 23 .neq 22 0] (I 23 (Q [m 24 8,n 6 0,m 7 24])))) (T [m 25 0,z 26 25,f 27 6 26,l 28 1 27,bk 29 .add 28 1,z 30 25,f 31 6 30,st 1 31 29] (S (D [⟨lg 47 3 5,15,1,0⟩,⟨q1 48 166 47,16,3,0⟩,⟨m 32 0,0,0,0⟩,⟨z 33 32,1,0,0⟩,⟨f 34 1 33,2,0,0⟩,⟨l 35 1 34,3,1,0⟩,⟨m 36 1,4,0,0⟩,⟨m 37 0,5,0,0⟩,⟨z 38 37,6,0,0⟩,⟨f 39 1 38,7,0,0⟩,⟨l 40 1 39,8,1,0⟩,⟨m 43 0,11,0,0⟩,⟨z 44 43,12,0,0⟩,⟨f 45 6 44,13,0,0⟩,⟨l 46 1 45,14,1,0⟩,⟨x 49 1 35 36,17,0,1⟩,⟨st 1 49 46,18,3,1⟩,⟨m 41 1,9,0,0⟩,⟨bk 42 .add 41 1,10,0,0⟩,⟨x 50 1 40 42,19,0,2⟩,⟨st 1 50 48,20,3,2⟩]) (T [m 51 0,z 52 51,f 53 2 52,l 54 1 53,m 55 1,bk 56 .quo 55 2,ca 57 125 [t 54,t 56,k 1]] (S (D [⟨m 58 0,0,0,0⟩,⟨z 59 58,1,0,0⟩,⟨f 60 4 59,2,0,0⟩,⟨l 61 1 60,3,1,0⟩,⟨m 62 0,4,0,0⟩,⟨z 63 62,5,0,0⟩,⟨f 64 6 63,6,0,0⟩,⟨l 65 1 64,7,1,0⟩,⟨m 66 1,8,0,0⟩,⟨u (.QS .i64 (t 61) (t 65) (t 66)),9,3,0⟩]) (Q [m 67 0,z 68 67,f 69 6 68,l 70 1 69,m 6 70,n 7 0]))))))),[r 6,r 7]⟩
theorem c75:P 75=some C75:=by kernel_rfl
end Go.Cs.Tryz
namespace Go.Cs.Tryz
open Go Go.Cs
section
variable {H : Gb} {hb : Nat} {s : Hp} {L : G5}
theorem Bz(p:PH H hb s L)(o:s.Ok)(hborn:s.born<1000000000000)(a r d k:Int):Did H hb L (s.place a r d k).1 (UF (s.place a r d k).2) (run P 75 [.ptr hb 0,.i a,.agg (GX r d k)] H):=by
 have p1:=p.app [⟨GX r d k,.rw,0⟩]
 have h1:=KE p1 o
 have h2:=Oh (H:=H++[⟨GX r d k,.rw,0⟩]) r d k
 have hkA:∀{X:Gb},Gr H X→Keeps H X (·∈L.all hb):=fun g=>g.weaken fun _ h=>h.elim
 have gA:Gr H (H++[⟨GX r d k,.rw,0⟩]++[⟨GX r d k,.rw,0⟩]):=(Gr.app H _).app' _
 unfold Hp.place UF
 rw[Gh c75 _ _ sM]
 by_cases cv:JQ r d k=true
 rotate_left
 ·rw[if_neg cv]
  have cv':JQ r d k=false:=by simpa using cv
  rw[cv']at h2
  refine⟨_,?_,hkA gA,p.gr gA⟩
  unfold GX at h1 h2⊢
  exact W0
 rw[if_pos cv]
 rw[cv]at h2
 have hvv:=QD cv
 have h3:=Vk (H:=H++[⟨GX r d k,.rw,0⟩]++[⟨GX r d k,.rw,0⟩]) r d k
 have hwI:Gv r d k=((G6 r.toNat d.toNat:Nat):Int):=by unfold Gv;rw[if_pos cv]
 rw[hwI]at h3
 have hn0:0<G6 r.toNat d.toNat:=by unfold G6;omega
 have hn2:G6 r.toNat d.toNat≤300:=by unfold G6;omega
 have hne:G6 r.toNat d.toNat % 2=0:=by unfold G6;omega
 have gB:Gr H (H++[⟨GX r d k,.rw,0⟩]++[⟨GX r d k,.rw,0⟩]++[⟨GX r d k,.rw,0⟩]++[⟨GX r d k,.rw,0⟩]):=(gA.app' _).app' _
 obtain⟨H4,h4,g4⟩:=Rs (p.gr gB) o a (-1) hne hn0 hn2
 have g:Gr H H4:=gB.trans g4
 have p4:=p.gr g
 have hsh:H4[H.length]?=some ⟨GX r d k,.rw,0⟩:=g4.get sM
 by_cases cf:s.fits a (G6 r.toNat d.toNat) (-1)=0
 rotate_left
 ·rw[if_neg cf]
  have cf':(s.fits a (G6 r.toNat d.toNat) (-1) != 0)=true:=by simpa using cf
  refine⟨H4,?_,hkA g,p4⟩
  unfold GX at h1 h2 h3 h4⊢
  exact W0
 rw[if_pos cf]
 rw[cf]at h4
 obtain⟨m,rfl,e1,e2,e3⟩:=o.TY hn0 cf
 have o':=o.Vj (m:=m) (r:=r.toNat) (d:=d.toNat) (k:=k.toNat) (by grind) e1 e2 e3 hborn
 have t4:=p4.top
 have w4:=p4.wrd
 have hnb:=o.nb
 have hnw:s.nw=64*s.blk.length:=rfl
 have wb1:IntKind.i64.wrap ((s.born:Int)+1)=((s.born+1:Nat):Int):=Gg oM
 have nd:=p.nod
 simp only[G5.all,List.nodup_cons,List.mem_cons,List.not_mem_nil,or_false,not_or]at nd
 obtain⟨⟨n1,n2,n3,n4,n5,n6,n7,n8⟩,⟨a1,a2,a3,a4,a5,a6,a7⟩,⟨m1,m2,m3,m4,m5,m6⟩,⟨r1,r2,r3,r4,r5⟩,⟨t1,t2,t3,t5⟩,⟨u1,u2,u3⟩,⟨v1,v2⟩,v3,-⟩:=nd
 have hlt:=p.lt
 have hl4:=Gf t4
 have hlw:=Gf w4
 have hwb:L.wb≠hb:=fun e=>n2 e.symm
 have hHb:H.length≠hb:=fun e=>by have:=hlt hb (by simp[G5.all]);omega
 unfold GX at h1 h2 h3 h4 hsh⊢
 have Gp1:=fun X:Gb=>Xe (H:=X) r d k cv
 unfold GX at Gp1
 have q2:(0:Int)≤(m:Int)∧(m:Int)<(s.nw:Int):=by omega
 have q3:(0:Int)≤((m+1:Nat):Int)∧((m+1:Nat):Int)<(s.nw:Int):=by unfold G6 at e2;omega
 have wm1:IntKind.i64.wrap ((m:Int)+1)=((m+1:Nat):Int):=Gg oM
 have hm0:m<((List.range s.nw).map (fun w=>CV.i (s.word w))).length:=by simp;omega
 have hm1:m+1<(((List.range s.nw).map (fun w=>CV.i (s.word w))).set m (.int .i64 ((s.born+1:Nat):Int))).length:=by simp;omega
 obtain⟨T,hT⟩:∃T:JE,T=⟨[CV.slice L.bb 0 s.blk.length s.blk.length 2 false,CV.slice L.wb 0 s.nw s.nw 1 false,CV.ptr L.sb 0,CV.ptr L.pb 0,CV.GJ L.mb,CV.GJ L.fb,CV.int .i64 ((s.born+1:Nat):Int)],.rw,0⟩:=⟨_,rfl⟩
 obtain⟨H8,hH8⟩:∃X:Gb,X=((H4.set hb ⟨[CV.slice L.bb 0 s.blk.length s.blk.length 2 false,CV.slice L.wb 0 s.nw s.nw 1 false,CV.ptr L.sb 0,CV.ptr L.pb 0,CV.GJ L.mb,CV.GJ L.fb,CV.int .i64 ((s.born+1:Nat):Int)],.rw,0⟩).set L.wb ⟨((List.range s.nw).map (fun w=>CV.i (s.word w))).set m (.int .i64 ((s.born+1:Nat):Int)),.rw,1⟩).set L.wb ⟨(((List.range s.nw).map (fun w=>CV.i (s.word w))).set m (.int .i64 ((s.born+1:Nat):Int))).set (m+1) (.int .i64 (r+16*d+4096*k)),.rw,1⟩++[⟨[CV.i r,CV.i d,CV.i k],.rw,0⟩]:=⟨_,rfl⟩
 have hl8:H4.length≤H8.length:=by rw[hH8];simp
 have GlL:∀c,c<H4.length→c≠hb→c≠L.wb→H8[c]?=H4[c]?:=fun c hc h1 h2=>by
  grind
 have GnT:H8[hb]?=some T:=by
  grind
 have Gvf:H8[L.wb]?=some ⟨(((List.range s.nw).map (fun w=>CV.i (s.word w))).set m (.int .i64 ((s.born+1:Nat):Int))).set (m+1) (.int .i64 (r+16*d+4096*k)),.rw,1⟩:=by
  grind
 have Pk:∀c∈L.all hb,c<H4.length:=p4.lt
 have s8:Side H8 L.sb L.sw (32*s.blk.length) s.starts:=p4.Xk.frame (GlL _ (Pk _ (by simp[G5.all])) (Ne.symm n3) (Ne.symm m1)) (GlL _ (Pk _ (by simp[G5.all])) (Ne.symm n4) (Ne.symm m2))
 obtain⟨H9,h9,k9,s9⟩:=Uz s8 (i:=m/2) oM true
 have h9':run P 125 [.ptr L.sb 0,.i ((m/2:Nat):Int),.int .i64 1] H8=some (.i 0,H9):=h9
 have GnH:∀c,c<H4.length→c≠hb→c≠L.wb→c≠L.sw→H9[c]?=H4[c]?:=fun c hc h1 h2 h3=>(k9.keep c oM h3).trans (GlL c hc h1 h2)
 have Gm7:H9[hb]?=some T:=(k9.keep hb oM n4).trans GnT
 have m9:Q8 H9 L.mb fun k v=>∃o∈s.objs,k=o.id∧v=o.addr:=p4.N7.frame (GnH _ (Pk _ (by simp[G5.all])) (Ne.symm n7) (Ne.symm m5) (Ne.symm t3))
 obtain⟨H10,h10,k10,m10⟩:=m9.add (n:=((s.born+1:Nat):Int)) (v:=(m:Int)) (by
  rintro w ⟨x,hx,e,-⟩
  have:=(o.ob x hx).id
  omega)
 have GhT:H10[hb]?=some T:=(k10.keep hb (by have:=k9.len;omega) n7).trans Gm7
 have XF:∀c,c<H4.length→c≠hb→c≠L.wb→c≠L.sw→c≠L.mb→H10[c]?=H4[c]?:=fun c hc h1 h2 h3 h4=>(k10.keep c (by have:=k9.len;omega) h4).trans (GnH c hc h1 h2 h3)
 have GnM:H10[L.wb]?=H8[L.wb]?:=(k10.keep _ (by have:=k9.len;omega) m5).trans (k9.keep _ oM m2)
 have hset:=h10 H9 rfl
 have hd2:(m:Int).tdiv 2=((m/2:Nat):Int):=KN m 2
 have wd2:IntKind.i64.wrap ((m/2:Nat):Int)=((m/2:Nat):Int):=Gg oM
 refine⟨H10,?_,?_,?_⟩
 ·simp(disch:=first|exact dz|fail) only[simprocAttr,Gs,↓reduceIte,A9,h1,h2,h3,h4,Yb Jl hm0,Yb Jl hm1,t4,wb1,w4,Gp1,wm1,hsh]
  rw[←hH8]
  rw[hT]at GnT Gm7 GhT
  exact V8 Gm7 GhT @Ji hd2 wd2 h9' @Vg hset
 ·refine⟨by have:=g.len;have:=k9.len;have:=k10.len;omega,fun c hc hn=>?_⟩
  have hc4:c<H4.length:=J6 hc g.len
  simp only[G5.all,List.mem_cons,List.not_mem_nil,or_false,not_or]at hn
  rw[XF c hc4 hn.1 hn.2.2.1 hn.2.2.2.2.1 hn.2.2.2.2.2.2.2.1,g.keep c hc fun h=>h]
 ·show PH H10 hb (s.Vj m r.toNat d.toNat k.toNat) L
  have hn:(s.Vj m r.toNat d.toNat k.toNat).nw=s.nw:=rfl
  refine⟨?_,?_,?_,?_,?_,?_,?_,p.nod⟩
  ·rw[GhT,hT];rfl
  ·exact(XF _ (Pk _ (by simp[G5.all])) (Ne.symm n1) a1 a3 a6).trans p4.blk
  ·rw[GnM,Gvf]
   congr 2
   have e0:r+16*d+4096*k=((r.toNat+16*d.toNat+4096*k.toNat:Nat):Int):=by omega
   rw[e0]
   refine List.ext_getElem? fun i=>?_
   rw[hn,Ig,Ig,Kr,Kr]
   have hw:=o.GbZ o' e3 i
   grind
  ·rw[Hp.Sn e1]
   have:=s9.frame (H':=H10) (k10.keep _ (by have:=k9.len;have:=Pk L.sb (by simp[G5.all]);omega) r4) (k10.keep _ (by have:=k9.len;have:=Pk L.sw (by simp[G5.all]);omega) t3)
   exact this
  ·rw[Hp.Gbz]
   exact p4.pin.frame (XF _ (Pk _ (by simp[G5.all])) (Ne.symm n5) (Ne.symm m3) (Ne.symm t1) u2) (XF _ (Pk _ (by simp[G5.all])) (Ne.symm n6) (Ne.symm m4) (Ne.symm t2) v1)
  ·obtain⟨l,x1,x2,x3⟩:=m10
   exact⟨l,x1,x2,fun k v=>(x3 k v).trans (Hp.Ge6 k v).symm⟩
  ·exact p4.fwd.frame (XF _ (Pk _ (by simp[G5.all])) (Ne.symm n8) (Ne.symm m6) (Ne.symm t5) (Ne.symm v3))
end
end Go.Cs.Tryz
namespace Go.Cs.Tryz
open Go Go.Cs A
def Gs6:Gj:=⟨20,0,T [nb 4 false] (Q [m 5 0,q1 6 106 5,m 7 6,gt 7 (m 8 1),gt 7 (bk 9 .geq 8 1),an 10 7 9,m 11 10,gt 11 (m 12 1),gt 11 (m 13 0),gt 11 (z 14 13),gt 11 (f 15 0 14),gt 11 (l 16 1 15),gt 11 (le 17 16),gt 11 (b 18 .lss 12 17),an 19 11 18,m 4 19]),[r 4]⟩
theorem GvN:P 235=some Gs6:=by kernel_rfl
def Gvz:Gj:=⟨9,0,T [nb 2 false] (Q [m 3 0,bk 4 .geq 3 0,m 5 4,gt 5 (m 6 0),gt 5 (bk 7 .lss 6 8),an 8 5 7,m 2 8]),[r 2]⟩
theorem c236:P 236=some Gvz:=by kernel_rfl
def Gt7:Gj:=⟨9,0,T [nb 4 false] (Q [m 5 0,m 6 1,q2 7 288 5 6,bk 8 .geq 7 0,m 4 8]),[r 4]⟩
theorem Gv3:P 237=some Gt7:=by kernel_rfl
abbrev Es:Gn:=T [b 9 .lss 8 7] (S (J 9 (X 0)) (S (B 1 (T [m 10 8,m 5 10] (T [m 11 1,m 12 0,m 13 5,x 14 2 12 13,lg 15 2 14,e 16 (.KH (t 11) [t 15])] (I 16 (Q [m 17 5,m 4 17]))))) (R [bk 18 .add 8 1,m 8 18])))
def Guk:Gj:=⟨19,0,T [n 4 0] (S (T [m 6 0,le 7 6,n 8 0] (B 0 (W Es))) (Q [n 4 (-1)])),[r 4]⟩
theorem GsS:P 288=some Guk:=by kernel_rfl
end Go.Cs.Tryz
namespace Go.Cs.Tryz
open Go Go.Cs
section
variable {H : Gb} {v : CV}
theorem QA{H H':Gb}{v:CV}{e:Nat}{rs:List (List CV)}(h:Sl H v e rs)(g:Gr H H'):Sl H' v e rs:=h.mono fun b k hb _ _=>g.get hb
theorem Gl1{l:List (List CV)}(hs:Sl H v 2 l){fn:Nat}(hfn:fn<1000000){caps:List CV}{p:List CV→Bool}
  (hp:∀r∈l,∀H',Gr H H'→∃Da,run P fn (.agg r::caps) H'=some (.bool (p r),Da)∧Gr H' Da)(hl:l.length≤1000000)
  {E0:Env}(h0:E0 0=v)(h1:E0 1=.func fn caps)(h7:E0 7=.i l.length)(h8:E0 8=.i 0){r:Option (CX×Env×Gb)}(hr:den P (.loop Es) E0 H=r):
  ∃x E' H',r=some (x,E',H')∧Gr H H'∧((x=.ret∧E' 4=.i (KC p l 0))∨(x=.exit 0∧KC p l 0= -1)):=by
 obtain⟨x',E',H',e,-,⟨g,h⟩,fr⟩:=Gq (p:=P) (c:=Es) (E0:=E0) (H0:=H) (fun k E H'=>Gr H H'∧∃j:Nat,E 8=.i j∧j≤l.length∧k=l.length-j∧KC p (l.drop j) j=KC p l 0)
  (fun x E' H'=>Gr H H'∧((x=.ret∧E' 4=.i (KC p l 0))∨(x=.exit 0∧KC p l 0= -1))) (by
   rintro k E H' hE ⟨g,j,e8,hj,rfl,hd⟩
   have e0:=(hE 0 dK).trans h0
   have e1:=(hE 1 dK).trans h1
   have e7:=(hE 7 dK).trans h7
   by_cases c:j<l.length
   ·have hx:l[j]?=some l[j]:=Jr c
    obtain⟨b,o,q1,q2⟩:=Sl.atN (QA hs g) oM hx
    obtain⟨H2,hq,g2⟩:=hp l[j] (List.getElem_mem c) H' g
    have q3:PO true 2 H' (.ptr b o)=some (.agg l[j],H'):=by rw[GcW,Yl,q2];rfl
    rw[drop_cons hx]at hd
    simp only[KC]at hd
    by_cases hf:p l[j]=true
    ·rw[if_pos hf]at hd
     rw[hf]at hq
     apply Gi (x:=.ret)
     ·simp(disch:=first|exact dz|fail) only[simprocAttr,Gs,↓reduceIte,Es,e0,e1,e7,e8,q1,q3,Jo,JA hfn,hq]
      rfl
     ·simp
     ·exact⟨g.trans g2,.inl ⟨rfl,by rw[←hd];simp[Gc]⟩⟩
    ·rw[if_neg hf]at hd
     have hf':p l[j]=false:=by simpa using hf
     rw[hf']at hq
     have hw:IntKind.i64.wrap ((j:Int)+1)=((j+1:Nat):Int):=Gg oM
     apply Gm (k':=l.length-(j+1))
     ·simp(disch:=first|exact dz|fail) only[simprocAttr,Gs,↓reduceIte,Es,e0,e1,e7,e8,q1,q3,Jo,JA hfn,hq,hw]
      rfl
     ·omega
     ·exact⟨g.trans g2,j+1,uA,oM,rfl,by rw[←hd];push_cast;rfl⟩
   ·have hk:l.drop j=[]:=List.drop_eq_nil_of_le oM
    rw[hk]at hd
    simp only[KC]at hd
    apply Gi (x:=.exit 0)
    ·refine Jb ?_
     rfl
    ·simp
    grind) l.length ⟨Keeps.refl _ _,0,h8,oM,rfl,rfl⟩
 grind
theorem Il{l:List (List CV)}(hs:Sl H v 2 l){fn:Nat}(hfn:fn<1000000){caps:List CV}{p:List CV→Bool}
  (hp:∀r∈l,∀H',Gr H H'→∃Da,run P fn (.agg r::caps) H'=some (.bool (p r),Da)∧Gr H' Da)(hl:l.length≤1000000):
  ∃H',run P 237 [v,.func fn caps] H=some (.bool (l.any p),H')∧Gr H H':=by
 have hi:∃H',run P 288 [v,.func fn caps] H=some (.i (KC p l 0),H')∧Gr H H':=by
  have hlen:=Sl.len hs H
  rw[Gh GsS _ _ sM]
  refine Jb ?_
  generalize hr:den P (.loop Es) _ _=r
  obtain⟨x,E',H',rfl,g,hq⟩:=Gl1 hs hfn hp hl uA uA uA uA hr
  refine⟨H',?_,g⟩
  rcases hq with⟨rfl,h1⟩|⟨rfl,h1⟩
  ·exact W0
  ·exact W0
 obtain⟨H',h,g⟩:=hi
 have hd:=Dr p l 0 oM
 refine⟨H',?_,g⟩
 rw[Gh Gv3 _ _ sM]
 exact W0
theorem Bt{hb:Nat}{s:Hp}{L:G5}(p:PH H hb s L)(k:s.Ok)(b:Int):run P 235 [.ptr hb 0,.i b] H=some (.bool (decide (1≤b)&&decide (b<(s.blk.length:Int))),H):=by
 have h1:=KE p k
 have pt:=p.top
 rw[Gh GvN _ _ sM]
 by_cases c:1≤b
 ·exact W0
 ·exact W0
theorem Xv(n:Int):run P 236 [.i n] H=some (.bool (decide (0≤n)&&decide (n<8)),H):=by
 rw[Gh c236 _ _ sM]
 by_cases c:0≤n
 ·exact W0
 ·exact W0
end
end Go.Cs.Tryz
namespace Go.Cs.Tryz
open Go Go.Cs A
def C74:Gj:=⟨13,0,T [n 6 0] (Q [m 7 0,m 8 1,m 9 2,e 10 (.build [i 0,i 0] [(0,1,k 1),(1,1,t 9)]),e 11 (.build [i 0,i 0] []),ca 12 162 [t 7,t 8,k 1,t 10,t 11],m 6 12]),[r 6]⟩
theorem c74:P 74=some C74:=by kernel_rfl
def Gsx:Gj:=⟨17,0,T [n 8 0] (Q [m 9 0,m 10 1,m 11 2,m 12 3,e 13 (.build [i 0,i 0] [(0,1,k 2),(1,1,t 12)]),m 14 3,e 15 (.build [i 0,i 0] [(0,1,k 3),(1,1,t 14)]),q5 16 162 9 10 11 13 15,m 8 16]),[r 8]⟩
theorem Gus:P 118=some Gsx:=by kernel_rfl
abbrev O4:Gn:=T [b 55 .lss 54 53] (S (J 55 (X 1)) (S (B 2 (T [m 56 54,m 11 56] (D [⟨m 57 0,0,0,0⟩,⟨z 58 57,1,0,0⟩,⟨f 59 0 58,2,0,0⟩,⟨l 60 1 59,3,1,0⟩,⟨m 61 1,4,0,0⟩,⟨m 62 11,5,0,0⟩,⟨b 63 .add 61 62,6,0,0⟩,⟨lg 64 2 9,7,1,0⟩,⟨x 65 2 60 63,8,0,0⟩,⟨st 2 65 64,9,3,0⟩]))) (R [bk 66 .add 54 1,m 54 66])))
def Gs0:Gj:=⟨74,0,T [bo 8 3,bo 9 4,n 10 0] (S (B 0 (T [m 13 0,q1 14 106 13,no 15 14,m 12 15] (C 12 (Q [n 10 5]) (T [m 17 0,m 18 1,q2 19 235 17 18,no 20 19,m 21 20,gf 21 (m 22 2),gf 21 (bk 23 .lss 22 1),or 24 21 23,m 25 24,gf 25 (m 26 2),gf 25 (m 27 0),gf 25 (z 28 27),gf 25 (f 29 0 28),gf 25 (l 30 1 29),gf 25 (le 31 30),gf 25 (m 32 1),gf 25 (b 33 .sub 31 32),gf 25 (b 34 .gtr 26 33),or 35 25 34,m 36 35,gf 36 (f 37 1 8),gf 36 (l 38 1 37),gf 36 (q1 39 236 38),gf 36 (no 40 39),or 41 36 40,m 16 41] (C 16 (Q [n 10 1]) (T [m 43 0,z 44 43,f 45 0 44,l 46 1 45,m 47 1,m 48 1,m 49 2,b 50 .add 48 49,e 51 (.slice 2 (t 46) (some (t 47)) (some (t 50)) none),ca 52 237 [t 51,c (.func 238 [])],m 42 52] (I 42 (Q [n 10 8])))))))) (S (T [m 53 2,n 54 0] (B 1 (W O4))) (S (D [⟨m 67 0,0,0,0⟩,⟨z 68 67,1,0,0⟩,⟨f 69 0 68,2,0,0⟩,⟨l 70 1 69,3,1,0⟩,⟨m 71 1,4,0,0⟩,⟨lg 72 2 8,5,1,0⟩,⟨x 73 2 70 71,6,0,0⟩,⟨st 2 73 72,7,3,0⟩]) (Q [n 10 0])))),[r 10]⟩
theorem c162:P 162=some Gs0:=by kernel_rfl
def GqO:Gj:=⟨6,0,T [bo 1 0,nb 2 false] (Q [lg 3 2 1,e 4 (.build [i 0,i 0] []),e 5 (.eqs true 2 (t 3) (t 4)),m 2 5]),[r 2]⟩
theorem Gsa:P 238=some GqO:=by kernel_rfl
end Go.Cs.Tryz
namespace Go.Cs
open Go
theorem Zo:∀(l:List (Nat×Nat))(b:Nat)(x:Nat×Nat),b<l.length→splice (Gy l) (b*2) [.i x.1,.i x.2]=Gy (l.set b x)
 |y::l,0,x,_=>by simp[splice,Gy]
 |y::l,b+1,x,h=>by
  have ih:=Zo l b x (by simpa using h)
  have e:Gy (y::l)=.i y.1::.i y.2::Gy l:=rfl
  have e2:Gy ((y::l).set (b+1) x)=.i y.1::.i y.2::Gy (l.set b x):=rfl
  rw[e,e2,←ih]
  have e3:(b+1)*2=b*2+1+1:=by omega
  rw[e3]
  simp[splice,List.take_succ_cons,List.drop_succ_cons,Nat.add_right_comm]
def KA(l:List (Nat×Nat))(b:Nat)(m:Nat×Nat):Nat→List (Nat×Nat)
 |0=>l
 |k+1=>(KA l b m k).set (b+k) m
theorem Uj(l:List (Nat×Nat))(b:Nat)(m:Nat×Nat)(k:Nat):(KA l b m k).length=l.length:=by
 induction k with
 |zero=>rfl
 |succ k ih=>simp[KA,ih]
theorem PH.Gdd{H H':Gb}{hb:Nat}{s:Hp}{L:G5}(p:PH H hb s L){l:List (Nat×Nat)}(hl:l.length=s.blk.length)(hw:H'[L.bb]?=some ⟨Gy l,.rw,2⟩) (hk:∀c∈L.all hb,c≠L.bb→H'[c]?=H[c]?):PH H' hb {s with blk:=l} L:=by
 have nd:=p.nod
 simp only[G5.all,List.nodup_cons,List.mem_cons,List.not_mem_nil,or_false,not_or]at nd
 obtain⟨⟨n1,-⟩,⟨a1,a2,a3,a4,a5,a6,a7⟩,-⟩:=nd
 have hn:({s with blk:=l}:Hp).nw=s.nw:=by unfold Hp.nw;rw[hl]
 refine⟨?_,hw,?_,?_,?_,?_,?_,p.nod⟩
 ·rw[hk _ (by simp[G5.all]) n1,p.top,hn];simp only[hl]
 ·rw[hk _ (by simp[G5.all]) (Ne.symm a1),p.wrd,hn];rfl
 ·show Side H' L.sb L.sw (32*l.length) s.starts
  rw[hl];exact p.Xk.frame (hk _ (by simp[G5.all]) (Ne.symm a2)) (hk _ (by simp[G5.all]) (Ne.symm a3))
 ·show Side H' L.pb L.pw (32*l.length) s.pins
  rw[hl];exact p.pin.frame (hk _ (by simp[G5.all]) (Ne.symm a4)) (hk _ (by simp[G5.all]) (Ne.symm a5))
 ·exact p.N7.frame (hk _ (by simp[G5.all]) (Ne.symm a6))
 ·exact p.fwd.frame (hk _ (by simp[G5.all]) (Ne.symm a7))
def Hp.claim(s:Hp)(b n:Int)(fst:Nat)(sp:Int)(ZP:Nat)(Av:Int):Hp×Int:=
 if 1≤b∧b<(s.blk.length:Int)∧1≤n∧n≤(s.blk.length:Int)-b∧0≤sp∧sp<8 then
  if((s.blk.drop b.toNat).take n.toNat).any (fun x=>x.1 != 0||x.2 != 0)=true then(s,8)
  else({s with blk:=(KA s.blk b.toNat (ZP,Av.toNat) n.toNat).set b.toNat (fst,sp.toNat)},0)
 else(s,1)
theorem PH.EJ{H:Gb}{hb:Nat}{s:Hp}{L:G5}(p:PH H hb s L){b:Nat}{x:Nat×Nat}(h:b<s.blk.length):
  Hl H L.bb H[L.bb]? (b*2) [.i x.1,.i x.2]=some (H.set L.bb ⟨Gy (s.blk.set b x),.rw,2⟩)∧PH (H.set L.bb ⟨Gy (s.blk.set b x),.rw,2⟩) hb {s with blk:=s.blk.set b x} L:=by
 refine⟨?_,p.Gdd sM (by rw[Va (Gf p.blk)]) fun c _ hc=>by rw[KV (Ne.symm hc)]⟩
 rw[p.blk,UD (by rw[Qa];simp;omega) rfl,Zo _ _ _ h]
end Go.Cs
namespace Go.Cs.Tryz
open Go Go.Cs
section
variable {H : Gb} {hb : Nat} {s : Hp} {L : G5}
theorem GiZ(p:PH H hb s L)(k:s.Ok){b n:Nat}(hbn:b+n≤s.blk.length){m:Nat×Nat}{c9:Nat}(h9:H[c9]?=some ⟨[.i m.1,.i m.2],.rw,0⟩) (hc9:c9∉L.all hb)
  {E0:Env} (h0:E0 0=.ptr hb 0) (h1:E0 1=.i b) (e9:E0 9=.ptr c9 0) (h53:E0 53=.i n) (h54:E0 54=.i 0) {r:Option (CX×Env×Gb)} (hr:den P (.loop O4) E0 H=r):
  ∃E' H',r=some (.exit 1,E',H')∧Keeps H H' (·=L.bb)∧PH H' hb {s with blk:=KA s.blk b m n} L∧∀t,t∉wr O4→E' t=E0 t:=by
 have hnb:=k.nb
 have hbb:c9≠L.bb:=fun e=>hc9 (by rw[e];simp[G5.all])
 obtain⟨x',E',H',e,-,⟨rfl,g,hf⟩,fr⟩:=Gq (p:=P) (c:=O4) (E0:=E0) (H0:=H)
  (fun q E H'=>Keeps H H' (·=L.bb)∧∃j:Nat,E 54=.i j∧j≤n∧q=n-j∧PH H' hb {s with blk:=KA s.blk b m j} L)
  (fun x E' H'=>x=.exit 1∧Keeps H H' (·=L.bb)∧PH H' hb {s with blk:=KA s.blk b m n} L) (by
   rintro q E H' hE ⟨g,j,e54,hj,rfl,pj⟩
   have e0:=(hE 0 dK).trans h0
   have e1:=(hE 1 dK).trans h1
   have e9':=(hE 9 dK).trans e9
   have e53:=(hE 53 dK).trans h53
   have pt:=pj.top
   have hl:=Uj s.blk b m j
   have h9':H'[c9]?=some ⟨[.i m.1,.i m.2],.rw,0⟩:=by rw[g.keep c9 (Gf h9) hbb,h9]
   dsimp only at pt
   rw[hl]at pt
   by_cases c:j<n
   ·have c':decide ((j:Int)<(n:Int))=true:=Gz oM
    have w1:IntKind.i64.wrap ((b:Int)+(j:Int))=((b+j:Nat):Int):=Gg oM
    have w2:IntKind.i64.wrap ((j:Int)+1)=((j+1:Nat):Int):=Gg oM
    have q2:(0:Int)≤((b+j:Nat):Int)∧((b+j:Nat):Int)<(s.blk.length:Int):=by omega
    obtain⟨st,pn⟩:=pj.EJ (b:=b+j) (x:=m) (by dsimp only;rw[hl];omega)
    apply Gm (k':=n-(j+1))
    ·refine Jb ?_
     rfl
    ·omega
    ·exact⟨g.set (.inl rfl) _,j+1,uA,oM,rfl,pn⟩
   ·have c':decide ((j:Int)<(n:Int))=false:=Gw oM
    have ej:j=n:=by omega
    subst ej
    apply Gi (x:=.exit 1)
    ·refine Jb ?_
     rfl
    ·simp
    ·exact⟨rfl,g,pj⟩) _ ⟨Keeps.refl _ _,0,by rw[h54];rfl,oM,rfl,p⟩
 grind
theorem Gf9(x:Nat×Nat):∃H',run P 238 [.agg [.i x.1,.i x.2]] H=some (.bool (x.1 != 0||x.2 != 0),H')∧Gr H H':=by
 refine⟨H++[⟨[.i x.1,.i x.2],.rw,0⟩],?_,Gr.app H _⟩
 rw[Gh Gsa _ _ sM]
 have e:Gfi true 2 (.agg [.i x.1,.i x.2]) (.agg [.i 0,.i 0]) (H++[⟨[.i x.1,.i x.2],.rw,0⟩])=some (.bool (x.1 != 0||x.2 != 0),H++[⟨[.i x.1,.i x.2],.rw,0⟩]):=by
  obtain⟨a,b⟩:=x
  have e1:∀n:Nat,((n:Int)==0)=!(n != 0):=fun n=>by rw[Bool.eq_iff_iff];simp
  simp only[Gfi,Qn,List.length_cons,List.length_nil,if_true,Option.map_some,e1,Bool.and_true]
  grind
 exact W0
theorem Gdt(p:PH H hb s L){b n:Nat}(h:b+n≤s.blk.length):∃v,Ky 2 (.slice L.bb 0 s.blk.length s.blk.length 2 false) (some (.i b)) (some (.i ((b+n:Nat):Int))) none=some v∧Sl H v 2 (((s.blk.drop b).take n).map fun x=>[.i x.1,.i x.2]):=by
 have h1:(b:Int)≤((b+n:Nat):Int):=by omega
 have h2:((b+n:Nat):Int)≤(s.blk.length:Int):=by omega
 have hs:Ky 2 (.slice L.bb 0 s.blk.length s.blk.length 2 false) (some (.i b)) (some (.i ((b+n:Nat):Int))) none=some (.slice L.bb (0+b*2) (b+n-b) (s.blk.length-b) 2 (false&&(none:Option CV).isNone)):=by
  simp only[Ky,Nj,Us,ZJ,Option.isSome_none,Bool.false_eq_true,false_and,if_false,Option.bind_some]
  grind
 refine⟨_,hs,?_⟩
 have e:b+n-b=(((s.blk.drop b).take n).map fun x=>[CV.i x.1,CV.i x.2]).length:=by simp;omega
 refine .inr ⟨L.bb,0+b*2,s.blk.length-b,_,_,by rw[e],p.blk,.inl rfl,fun i r hi=>?_⟩
 rw[Kr,GD]at hi
 obtain⟨x,hx,rfl⟩:=hi
 have hin:i<n:=by grind
 rw[Zx,if_pos hin,Z7]at hx
 obtain⟨q1,q2⟩:=Kj s.blk (b+i) x hx
 refine⟨?_,rfl⟩
 dsimp only
 have e2:0+b*2+i*2=(b+i)*2:=by omega
 rw[e2,drop_cons q1,drop_cons q2]
 rfl
def pB:List CV→Bool
 |[.int _ a,.int _ b]=>a != 0||b != 0
 |_=>false
theorem Ox(p:PH H hb s L)(k:s.Ok)(b n:Int)(fst:Nat)(sp:Int)(ZP:Nat)(Av:Int)(hm:Av=0∨Av=sp):
  Did H hb L (s.claim b n fst sp ZP Av).1 (.i (s.claim b n fst sp ZP Av).2) (run P 162 [.ptr hb 0,.i b,.i n,.agg [.i fst,.i sp],.agg [.i ZP,.i Av]] H):=by
 have p2:=(p.app [⟨[.i fst,.i sp],.rw,0⟩]).app [⟨[.i ZP,.i Av],.rw,0⟩]
 have g2:Gr H (H++[⟨[.i fst,.i sp],.rw,0⟩]++[⟨[.i ZP,.i Av],.rw,0⟩]):=(Gr.app H _).app' _
 have kg:Keeps H (H++[⟨[.i fst,.i sp],.rw,0⟩]++[⟨[.i ZP,.i Av],.rw,0⟩]) (·∈L.all hb):=g2.weaken fun _ h=>h.elim
 have h1:=KE p2 k
 have h2:=Bt p2 k b
 have h3:=Xv (H:=H++[⟨[.i fst,.i sp],.rw,0⟩]++[⟨[.i ZP,.i Av],.rw,0⟩]) sp
 have pt:=p2.top
 have hnb:=k.nb
 unfold Hp.claim
 rw[Gh c162 _ _ sM]
 by_cases c1:1≤b∧b<(s.blk.length:Int)
 rotate_left
 ·have e:(decide (1≤b)&&decide (b<(s.blk.length:Int)))=false:=by simp;omega
  rw[e]at h2
  rw[if_neg oM]
  refine⟨_,?_,kg,p2⟩
  exact W0
 have e1:(decide (1≤b)&&decide (b<(s.blk.length:Int)))=true:=by simp;omega
 rw[e1]at h2
 by_cases c2:n<1
 ·rw[if_neg oM]
  refine⟨_,?_,kg,p2⟩
  exact W0
 have w1:IntKind.i64.wrap ((s.blk.length:Int)-b)=(s.blk.length:Int)-b:=Gg oM
 by_cases c3:(s.blk.length:Int)-b<n
 ·rw[if_neg oM]
  refine⟨_,?_,kg,p2⟩
  exact W0
 by_cases c4:0≤sp∧sp<8
 rotate_left
 ·have e:(decide (0≤sp)&&decide (sp<8))=false:=by simp;omega
  rw[e]at h3
  rw[if_neg oM]
  refine⟨_,?_,kg,p2⟩
  exact W0
 have e4:(decide (0≤sp)&&decide (sp<8))=true:=by simp;omega
 rw[e4]at h3
 rw[if_pos oM]
 obtain⟨b,rfl⟩:∃q:Nat,b=q:=⟨b.toNat,oM⟩
 obtain⟨n,rfl⟩:∃q:Nat,n=q:=⟨n.toNat,oM⟩
 obtain⟨sp,rfl⟩:∃q:Nat,sp=q:=⟨sp.toNat,oM⟩
 obtain⟨mp,rfl⟩:∃q:Nat,Av=q:=⟨Av.toNat,oM⟩
 simp only[Kt]
 obtain⟨v,hv,hs⟩:=Gdt p2 (b:=b) (n:=n) oM
 obtain⟨H4,h4,g4⟩:=Il hs (fn:=238) oM (caps:=[]) (p:=pB) (fun r hr H' _=>by
  rw[KI]at hr
  obtain⟨x,-,rfl⟩:=hr
  obtain⟨Da,q1,q2⟩:=Gf9 (H:=H') x
  refine⟨Da,?_,q2⟩
  have e1:∀n:Nat,((n:Int) != 0)=(n != 0):=fun n=>by rw[Bool.eq_iff_iff];simp
  simp only[pB,e1]
  exact q1) (by simp;omega)
 have ea:((((s.blk.drop b).take n).map fun x=>[CV.i (x.1:Int),CV.i (x.2:Int)]).any pB)=((s.blk.drop b).take n).any (fun x=>x.1 != 0||x.2 != 0):=by
  have e1:∀n:Nat,((n:Int) != 0)=(n != 0):=fun n=>by rw[Bool.eq_iff_iff];simp
  rw[List.any_map]
  simp only[Function.comp_def,pB,e1]
 rw[ea]at h4
 have p4:=p2.gr g4
 have k4:Keeps H H4 (·∈L.all hb):=kg.trans (g4.weaken fun _ h=>h.elim)
 have w2:IntKind.i64.wrap ((b:Int)+(n:Int))=((b+n:Nat):Int):=Gg oM
 have lt:=p.lt
 by_cases ca:((s.blk.drop b).take n).any (fun x=>x.1 != 0||x.2 != 0)=true
 ·rw[if_pos ca]
  rw[ca]at h4
  refine⟨H4,?_,k4,p4⟩
  exact W0
 rw[if_neg ca]
 have Pg:((s.blk.drop b).take n).any (fun x=>x.1 != 0||x.2 != 0)=false:=by simpa using ca
 rw[Pg]at h4
 have b8:H4[H.length]?=some ⟨[.i (fst:Int),.i (sp:Int)],.rw,0⟩:=g4.get sM
 have b9:H4[H.length+1]?=some ⟨[.i (ZP:Int),.i (mp:Int)],.rw,0⟩:=g4.get sM
 have hc8:H.length∉L.all hb:=fun h=>by have:=lt _ h;omega
 have hc9:H.length+1∉L.all hb:=fun h=>by have:=lt _ h;omega
 refine Jb ?_
 generalize hr:den P (.loop O4) _ _=r
 obtain⟨E',H5,rfl,k5,p5,fr⟩:=GiZ p4 k (b:=b) (n:=n) oM (m:=(ZP,mp)) b9 hc9 uA uA uA uA uA hr
 have f0:=fr 0 dK
 have f1:=fr 1 dK
 have f8:=fr 8 dK
 simp only[Gc,Nat.reduceEqDiff,↓reduceIte]at f0 f1 f8
 have hbb:L.bb∈L.all hb:=by simp[G5.all]
 have b8':H5[H.length]?=some ⟨[.i (fst:Int),.i (sp:Int)],.rw,0⟩:=by rw[k5.keep _ (Gf b8) (fun e=>hc8 (by rw[e];exact hbb)),b8]
 have hl:=Uj s.blk b (ZP,mp) n
 have pt5:=p5.top
 dsimp only at pt5
 rw[hl]at pt5
 obtain⟨st,pn⟩:=p5.EJ (b:=b) (x:=(fst,sp)) (by dsimp only;rw[hl];omega)
 have q2:(0:Int)≤(b:Int)∧(b:Int)<(s.blk.length:Int):=by omega
 refine⟨_,?_,(k4.trans (k5.weaken fun c hc=>by rw[hc];exact hbb)).set (.inl hbb) _,pn⟩
 exact W0
theorem BZ(p:PH H hb s L)(k:s.Ok)(b sp:Int):Did H hb L (s.claim b 1 1 sp 0 0).1 (.i (s.claim b 1 1 sp 0 0).2) (run P 74 [.ptr hb 0,.i b,.i sp] H):=by
 obtain⟨H',h1,h2,h3⟩:=Ox p k b 1 1 sp 0 0 (.inl rfl)
 have h1':run P 162 [.ptr hb 0,.i b,.int .i64 1,.agg [.int .i64 1,.i sp],.agg [.int .i64 0,.int .i64 0]] H=some (.i (s.claim b 1 1 sp 0 0).2,H'):=h1
 refine⟨H',?_,h2,h3⟩
 rw[Gh c74 _ _ sM]
 exact W0
theorem Ii(p:PH H hb s L)(k:s.Ok)(b n sp:Int):Did H hb L (s.claim b n 2 sp 3 sp).1 (.i (s.claim b n 2 sp 3 sp).2) (run P 118 [.ptr hb 0,.i b,.i n,.i sp] H):=by
 obtain⟨H',h1,h2,h3⟩:=Ox p k b n 2 sp 3 sp (.inr rfl)
 have h1':run P 162 [.ptr hb 0,.i b,.i n,.agg [.int .i64 2,.i sp],.agg [.int .i64 3,.i sp]] H=some (.i (s.claim b n 2 sp 3 sp).2,H'):=h1
 refine⟨H',?_,h2,h3⟩
 rw[Gh Gus _ _ sM]
 exact W0
end
end Go.Cs.Tryz
namespace Go.Cs
open Go
def Hp.without(s:Hp)(a:Nat):Hp:={s with objs:=s.objs.filter fun x=>x.addr != a}
def Hp.kill(s:Hp)(a:Int):Hp×Int:=match s.obj a with
 |some o=>(s.without o.addr,0)
 |none=>(s,4)
section
variable {s : Hp}
theorem Hp.GV{a:Nat}{x:Ob}:x∈(s.without a).objs↔x∈s.objs∧x.addr≠a:=by
 simp[Hp.without,List.mem_filter]
theorem Hp.Ok.without(k:s.Ok)(a:Nat):(s.without a).Ok where
 nb:=k.nb
 st:=k.st
 ob:=fun x hx=>k.ob x (Hp.GV.1 hx).1
 apart:=k.apart.filter _
 ids:=k.ids.filter _
 born:=k.born
theorem Hp.Ok.kill(k:s.Ok)(a:Int):(s.kill a).1.Ok:=by
 unfold Hp.kill
 cases s.obj a with
 |none=>exact k
 |some o=>exact k.without _
theorem Hp.Ok.Df(k:s.Ok){o:Ob}(ho:o∈s.objs)(w:Nat):(s.without o.addr).word w=if o.addr≤w∧w<o.addr+o.size then 0 else s.word w:=by
 have k':=k.without o.addr
 have Gpw:(∀x∈(s.without o.addr).objs,¬(x.addr≤w∧w<x.addr+x.size))→(s.without o.addr).word w=0:=fun h=>by
  have:(s.without o.addr).owner w=none:=by
   unfold Hp.owner
   grind
  unfold Hp.word
  rw[this]
 by_cases c:o.addr≤w∧w<o.addr+o.size
 ·rw[if_pos c]
  refine Gpw fun x hx hh=>?_
  obtain⟨h1,h2⟩:=Hp.GV.1 hx
  exact h2 (by rw[k.same h1 ho (w:=w) hh c])
 ·rw[if_neg c]
  cases hw:s.owner w with
  |none=>
   rw[Gpw]
   ·unfold Hp.word;rw[hw]
   ·intro x hx hh
    unfold Hp.owner at hw
    rw[List.find?_eq_none]at hw
    exact hw x (Hp.GV.1 hx).1 (by simpa using hh)
  |some x=>
   have hx:=List.mem_of_find?_eq_some hw
   have hp:=Lp hw
   simp only[decide_eq_true_eq]at hp
   have hne:x.addr≠o.addr:=fun e=>by
    have h1:=x.size_pos
    have h2:=o.size_pos
    have:=k.same hx ho (w:=o.addr) oM oM
    rw[this]at hp;exact c hp
   have q1:=k.word hx (k:=w-x.addr) oM
   have q2:=k'.word (Hp.GV.2 ⟨hx,hne⟩) (k:=w-x.addr) oM
   grind
theorem Hp.Ok.Ak(k:s.Ok){o:Ob}(ho:o∈s.objs):(s.without o.addr).starts=fun i=>if i=o.addr/2 then false else s.starts i:=by
 have he:=(k.ob o ho).even
 funext i
 rw[Bool.eq_iff_iff]
 unfold Hp.starts
 rw[List.any_eq_true]
 by_cases c:i=o.addr/2
 ·rw[if_pos c]
  constructor
  ·rintro ⟨x,hx,h⟩
   obtain⟨h1,h2⟩:=Hp.GV.1 hx
   grind
  ·intro h;cases h
 ·rw[if_neg c,List.any_eq_true]
  constructor
  ·rintro ⟨x,hx,h⟩
   exact⟨x,(Hp.GV.1 hx).1,h⟩
  ·rintro ⟨x,hx,h⟩
   have:x.addr=2*i:=by simpa using h
   exact⟨x,Hp.GV.2 ⟨hx,oM⟩,h⟩
theorem Hp.Ok.Ed(k:s.Ok){o:Ob}(ho:o∈s.objs):(s.without o.addr).pins=fun i=>if i=o.addr/2 then false else s.pins i:=by
 have he:=(k.ob o ho).even
 funext i
 rw[Bool.eq_iff_iff]
 unfold Hp.pins
 rw[List.any_eq_true]
 by_cases c:i=o.addr/2
 ·rw[if_pos c]
  constructor
  ·rintro ⟨x,hx,h⟩
   obtain⟨h1,h2⟩:=Hp.GV.1 hx
   grind
  ·intro h;cases h
 ·rw[if_neg c,List.any_eq_true]
  constructor
  ·rintro ⟨x,hx,h⟩
   exact⟨x,(Hp.GV.1 hx).1,h⟩
  ·rintro ⟨x,hx,h⟩
   have h':=h
   simp only[NH,beq_iff_eq]at h'
   exact⟨x,Hp.GV.2 ⟨hx,oM⟩,h⟩
theorem Hp.Ok.He(k:s.Ok){o:Ob}(ho:o∈s.objs)(q v:Int):(∃x∈(s.without o.addr).objs,q=x.id∧v=x.addr)↔(∃x∈s.objs,q=x.id∧v=x.addr)∧q≠(o.id:Int):=by
 constructor
 ·rintro ⟨x,hx,h1,h2⟩
  obtain⟨h3,h4⟩:=Hp.GV.1 hx
  refine⟨⟨x,h3,h1,h2⟩,fun e=>?_⟩
  rcases Ki k.ids h3 ho with e2|e2|e2
  ·exact h4 (by rw[e2])
  ·exact e2 oM
  ·exact e2 oM
 ·rintro ⟨⟨x,hx,h1,h2⟩,h3⟩
  refine⟨x,Hp.GV.2 ⟨hx,fun e=>?_⟩,h1,h2⟩
  have z1:=x.size_pos
  have z2:=o.size_pos
  have:=k.same hx ho (w:=o.addr) oM oM
  rw[this]at h1;exact h3 h1
end
end Go.Cs
namespace Go.Cs.Tryz
open Go Go.Cs A
def C40:Gj:=⟨43,0,T [n 4 0] (S (T [m 6 0,m 7 1,q2 8 124 6 7,m 5 8] (T [m 9 5,bk 10 .neq 9 0] (I 10 (Q [m 11 5,m 4 11])))) (S (D [⟨m 12 0,0,0,0⟩,⟨z 13 12,1,0,0⟩,⟨f 14 4 13,2,0,0⟩,⟨l 15 1 14,3,1,0⟩,⟨m 16 0,4,0,0⟩,⟨z 17 16,5,0,0⟩,⟨f 18 1 17,6,0,0⟩,⟨l 19 1 18,7,1,0⟩,⟨m 20 1,8,0,0⟩,⟨x 21 1 19 20,9,0,0⟩,⟨l 22 1 21,10,1,0⟩,⟨u (.YO .i64 (t 15) (t 22)),11,3,0⟩]) (T [m 23 0,z 24 23,f 25 2 24,l 26 1 25,m 27 1,bk 28 .quo 27 2,ca 29 125 [t 26,t 28,k 0]] (T [m 30 0,z 31 30,f 32 3 31,l 33 1 32,m 34 1,bk 35 .quo 34 2,ca 36 125 [t 33,t 35,k 0]] (T [m 37 0,m 38 1,m 39 0,m 40 1,q2 41 114 39 40,q3 42 126 37 38 41] (Q [n 4 0])))))),[r 4]⟩
theorem c40:P 40=some C40:=by kernel_rfl
def GvB:Gj:=⟨15,0,R [m 6 0,z 7 6,f 8 1 7,l 9 1 8,m 10 1,m 11 1,m 12 2,b 13 .add 11 12,e 14 (.slice 1 (t 9) (some (t 10)) (some (t 13)) none),u (.clear [i 0] (t 14))],[]⟩
theorem Gvk:P 126=some GvB:=by kernel_rfl
end Go.Cs.Tryz
namespace Go.Cs.Tryz
open Go Go.Cs
section
variable {H : Gb} {hb : Nat} {s : Hp} {L : G5}
theorem Rz{row:List CV}{W:List CV}(pt:H[hb]?=some ⟨W,.rw,0⟩) (h1:W[1]?=some (.slice L.wb 0 s.nw s.nw 1 false)) (hw:H[L.wb]?=some ⟨row,.rw,1⟩) (hl:row.length=s.nw) (hnw:s.nw≤4096) {a n:Nat} (hn:0<n) (h:a+n≤s.nw):
  run P 126 [.ptr hb 0,.i a,.i n] H=some (.Jj [],H.set L.wb ⟨splice row a (List.replicate n (.i 0)),.rw,1⟩):=by
 have w2:IntKind.i64.wrap ((a:Int)+(n:Int))=((a+n:Nat):Int):=Gg oM
 have hs:Ky 1 (.slice L.wb 0 s.nw s.nw 1 false) (some (.i a)) (some (.i ((a+n:Nat):Int))) none=some (.slice L.wb (0+a*1) (a+n-a) (s.nw-a) 1 (false&&(none:Option CV).isNone)):=by
  simp only[Ky,Nj,Us,ZJ,Option.isSome_none,Bool.false_eq_true,false_and,if_false,Option.bind_some]
  grind
 have e1:0+a*1=a:=by omega
 have e2:a+n-a=n:=by omega
 rw[e1,e2]at hs
 have hfl:(List.replicate n [CV.int .i64 0]).flatten=List.replicate n (.i 0):=by
  simp_all
 have hst:Hl H L.wb (some ⟨row,.rw,1⟩) a (List.replicate n (.i 0))=some (H.set L.wb ⟨splice row a (List.replicate n (.i 0)),.rw,1⟩):=UD (by simp;omega) (by rw[List.all_eq_true];intro x hx;rw[(List.mem_replicate.1 hx).2];rfl)
 rw[Gh Gvk _ _ sM]
 exact W0
theorem Dp(k:s.Ok){o:Ob}(ho:o∈s.objs){W:List CV}(pt:H[hb]?=some ⟨W,.rw,0⟩) (h1:W[1]?=some (.slice L.wb 0 s.nw s.nw 1 false)) (q1:ld H[L.wb]? (o.addr+1)=some (.i (o.num:Int))):
  ∃H',run P 114 [.ptr hb 0,.i o.addr] H=some (.i o.size,H')∧Gr H H':=by
 obtain⟨e1,e2,e3,e4⟩:=(k.ob o ho).shape
 have hf:=(k.ob o ho).fits
 have hz:=o.size_pos
 have hn:=k.nb
 have hnw:s.nw=64*s.blk.length:=rfl
 have q2:(0:Int)≤((o.addr+1:Nat):Int)∧((o.addr+1:Nat):Int)<(s.nw:Int):=by omega
 have hs:=Zj (H:=H) o.num oM
 rw[e1,e2,e3]at hs
 have hw:=Vk (H:=H++[⟨GX o.refs.length o.data.length o.kd,.rw,0⟩]) o.refs.length o.data.length o.kd
 have hv:Gv o.refs.length o.data.length o.kd=(o.size:Int):=by
  unfold Gv
  rw[if_pos (k.ob o ho).valid]
  rfl
 rw[hv]at hw
 have w1:IntKind.i64.wrap ((o.addr:Int)+1)=((o.addr+1:Nat):Int):=Gg oM
 refine⟨_,?_,(((Gr.app H [⟨GX o.refs.length o.data.length o.kd,.rw,0⟩]).app' [⟨GX o.refs.length o.data.length o.kd,.rw,0⟩]).app' [⟨GX o.refs.length o.data.length o.kd,.rw,0⟩])⟩
 rw[Gh GoC _ _ sM]
 exact W0
theorem PY(p:PH H hb s L)(k:s.Ok)(a:Int)(ha:a≤9223372036854775807):Did H hb L (s.kill a).1 (.i (s.kill a).2) (run P 40 [.ptr hb 0,.i a] H):=by
 have h1:=Qy p k a ha
 unfold Hp.kill
 rw[Gh c40 _ _ sM]
 cases e:s.obj a with
 |none=>
  rw[Hp.J_.2 e]at h1
  refine⟨H,?_,Keeps.refl _ _,p⟩
  exact W0
 |some o=>
  rw[Hp.J4.2 ⟨o,e⟩]at h1
  dsimp only
  obtain⟨ho,rfl⟩:=Hp.Jf e
  have pt:=p.top
  have hf:=(k.ob o ho).fits
  have he:=(k.ob o ho).even
  have hz:=o.size_pos
  have hn:=k.nb
  have hnw:s.nw=64*s.blk.length:=rfl
  obtain⟨q1,q2,q3⟩:=Ut p k ho (j:=0) oM
  have q4:o.cell 0=(o.id:Int):=rfl
  rw[q4]at q1
  rw[Nat.add_zero]at q1 q2
  have hd:(o.addr:Int).tdiv 2=((o.addr/2:Nat):Int):=KN o.addr 2
  have hw:IntKind.i64.wrap ((o.addr/2:Nat):Int)=((o.addr/2:Nat):Int):=Gg oM
  have nd:=p.nod
  simp only[G5.all,List.nodup_cons,List.mem_cons,List.not_mem_nil,or_false,not_or]at nd
  obtain⟨⟨n1,n2,n3,n4,n5,n6,n7,n8⟩,⟨a1,a2,a3,a4,a5,a6,a7⟩,⟨m1,m2,m3,m4,m5,m6⟩,⟨r1,r2,r3,r4,r5⟩,⟨t1,t2,t3,t5⟩,⟨u1,u2,u3⟩,⟨v1,v2⟩,v3,-⟩:=nd
  have lt:=p.lt
  obtain⟨H1,d1,k1,M1⟩:=p.N7.del (o.id:Int)
  have d1':=d1 H rfl
  have al:∀c∈L.all hb,c<H1.length:=fun c hc=>J6 (lt c hc) k1.len
  have s1:Side H1 L.sb L.sw (32*s.blk.length) s.starts:=p.Xk.frame (k1.keep _ (lt _ (by simp[G5.all])) r4) (k1.keep _ (lt _ (by simp[G5.all])) t3)
  obtain⟨H2,d2,k2,S2⟩:=Uz s1 (i:=o.addr/2) oM false
  have d2':run P 125 [.ptr L.sb 0,.i ((o.addr/2:Nat):Int),.int .i64 0] H1=some (.i 0,H2):=d2
  have p1:Side H1 L.pb L.pw (32*s.blk.length) s.pins:=p.pin.frame (k1.keep _ (lt _ (by simp[G5.all])) u2) (k1.keep _ (lt _ (by simp[G5.all])) v1)
  have p2:Side H2 L.pb L.pw (32*s.blk.length) s.pins:=p1.frame (k2.keep _ (al _ (by simp[G5.all])) (Ne.symm t1)) (k2.keep _ (al _ (by simp[G5.all])) (Ne.symm t2))
  obtain⟨H3,d3,k3,S3⟩:=Uz p2 (i:=o.addr/2) oM false
  have d3':run P 125 [.ptr L.pb 0,.i ((o.addr/2:Nat):Int),.int .i64 0] H2=some (.i 0,H3):=d3
  have al2:∀c∈L.all hb,c<H2.length:=fun c hc=>J6 (al c hc) k2.len
  have Go7:H1[hb]?=H[hb]?:=k1.keep _ (lt _ (by simp[G5.all])) n7
  have GoM:H2[hb]?=H[hb]?:=(k2.keep _ (al _ (by simp[G5.all])) n4).trans Go7
  have GvZ:H3[hb]?=H[hb]?:=(k3.keep _ (al2 _ (by simp[G5.all])) n6).trans GoM
  have GoZ:H3[L.wb]?=H[L.wb]?:=(k3.keep _ (al2 _ (by simp[G5.all])) m4).trans ((k2.keep _ (al _ (by simp[G5.all])) m2).trans (k1.keep _ (lt _ (by simp[G5.all])) m5))
  have pt3:=GvZ.trans pt
  obtain⟨z1,-,-⟩:=Ut p k ho (j:=1) oM
  have z2:o.cell 1=(o.num:Int):=rfl
  rw[z2,←GoZ]at z1
  obtain⟨H4,d4,g4⟩:=Dp (L:=L) k ho pt3 rfl z1
  have pt4:=g4.get pt3
  have wr4:=g4.get (GoZ.trans p.wrd)
  have d5:=Rz (H:=H4) (s:=s) (L:=L) pt4 rfl wr4 sM oM (a:=o.addr) (n:=o.size) oM hf
  have pt1:=Go7.trans pt
  have pt2:=GoM.trans pt
  have kk:∀c∈L.all hb,c≠L.mb→c≠L.sw→c≠L.pw→H4[c]?=H[c]?:=fun c hc x1 x2 x3=>
   (g4.keep c (J6 (al2 c hc) k3.len) (fun h=>h)).trans ((k3.keep c (al2 c hc) x3).trans ((k2.keep c (al c hc) x2).trans (k1.keep c (lt c hc) x1)))
  have kw:Keeps H H4 (·∈L.all hb):=(((k1.weaken fun c h=>by rw[h];simp[G5.all]).trans (k2.weaken fun c h=>by rw[h];simp[G5.all])).trans (k3.weaken fun c h=>by rw[h];simp[G5.all])).trans (g4.weaken fun _ h=>h.elim)
  have M4:=M1.frame (H':=H4) ((g4.keep _ (J6 (al2 _ (by simp[G5.all])) k3.len) (fun h=>h)).trans ((k3.keep _ (al2 _ (by simp[G5.all])) (Ne.symm v1)).trans (k2.keep _ (al _ (by simp[G5.all])) (Ne.symm t3))))
  have S4:=(S2.frame (H':=H3) (k3.keep _ (al2 _ (by simp[G5.all])) r3) (k3.keep _ (al2 _ (by simp[G5.all])) t2)).frame (H':=H4) (g4.keep _ (J6 (al2 _ (by simp[G5.all])) k3.len) (fun h=>h)) (g4.keep _ (J6 (al2 _ (by simp[G5.all])) k3.len) (fun h=>h))
  have T4:=S3.frame (H':=H4) (g4.keep _ (J6 (al2 _ (by simp[G5.all])) k3.len) (fun h=>h)) (g4.keep _ (J6 (al2 _ (by simp[G5.all])) k3.len) (fun h=>h))
  refine⟨H4.set L.wb ⟨splice ((List.range s.nw).map (fun w=>CV.i (s.word w))) o.addr (List.replicate o.size (.i 0)),.rw,1⟩,?_,kw.set (.inl (by simp[G5.all])) _,?_⟩
  ·exact V14 h1 pt pt1 pt2 q1 hd hw @Ji @Gbg d1' d2' d3' d4 d5
  ·have nb:∀c,c≠L.wb→(H4.set L.wb ⟨splice ((List.range s.nw).map (fun w=>CV.i (s.word w))) o.addr (List.replicate o.size (.i 0)),.rw,1⟩)[c]?=H4[c]?:=fun c hc=>by rw[KV (Ne.symm hc)]
   refine⟨?_,?_,?_,?_,?_,?_,?_,p.nod⟩
   ·exact(nb _ n2).trans pt4
   ·exact(nb _ a1).trans ((kk _ (by simp[G5.all]) a6 a3 a5).trans p.blk)
   ·have hsp:splice ((List.range s.nw).map (fun w=>CV.i (s.word w))) o.addr (List.replicate o.size (.i 0))=(List.range s.nw).map (fun w=>CV.i ((s.without o.addr).word w)):=by
     unfold splice
     refine List.ext_getElem? fun i=>?_
     rw[List.length_replicate,Kr]
     have hwd:=k.Df ho i
     have lt1:(((List.range s.nw).map (fun w=>CV.i (s.word w))).take o.addr).length=o.addr:=by simp;omega
     by_cases hi:i<s.nw
     ·rw[IX hi,Option.map_some,hwd]
      by_cases x1:i<o.addr
      ·grind
      ·by_cases x2:i<o.addr+o.size
       ·grind
       grind
     grind
    rw[hsp,Va (Gf wr4)];rfl
   ·rw[k.Ak ho];exact S4.frame (nb _ (Ne.symm m1)) (nb _ (Ne.symm m2))
   ·rw[k.Ed ho];exact T4.frame (nb _ (Ne.symm m3)) (nb _ (Ne.symm m4))
   ·obtain⟨l,x1,x2,x3⟩:=M4
    exact⟨l,(nb _ (Ne.symm m5)).trans x1,x2,fun q v=>(x3 q v).trans (k.He ho q v).symm⟩
   ·exact(p.fwd.frame (kk _ (by simp[G5.all]) (Ne.symm v3) (Ne.symm t5) (Ne.symm v2))).frame (nb _ (Ne.symm m6))
end
end Go.Cs.Tryz
namespace Go.Cs
open Go
def Ob.to(o:Ob)(a:Nat):Ob:={o with addr:=a}
def Hp.ins(s:Hp)(o:Ob):Hp:={s with objs:=NA o s.objs}
def Hp.moved(s:Hp)(o:Ob)(b:Nat):Hp:={(s.without o.addr).ins (o.to b)with fwd:=((o.addr:Int),(b:Int))::s.fwd.filter fun x=>x.1 != (o.addr:Int)}
def Hp.move(s:Hp)(a b:Int):Hp×Int:=match s.obj a with
 |some o=>if s.fits b o.size a=0 then(s.moved o b.toNat,0)else(s,s.fits b o.size a)
 |none=>(s,4)
section
variable {s : Hp} {o : Ob} {b : Nat}
theorem Hp.Ok.WY(k:s.Ok){a:Int}{n:Nat}{but:Int}(hn:0<n)(h:s.fits a n but=0):∃m:Nat,a=m∧m % 2=0∧m+n≤s.nw∧∀o∈s.objs,(o.addr:Int)≠but→m+n≤o.addr∨o.addr+o.size≤m:=by
 unfold Hp.fits at h
 split at h
 ·cases h
 rename_i c
 obtain⟨m,rfl⟩:∃m:Nat,a=m:=⟨a.toNat,oM⟩
 rw[Kt]at h c
 have hnw:s.nw=64*s.blk.length:=rfl
 have htk:s.taken m n but=false→∀o∈s.objs,(o.addr:Int)≠but→m+n≤o.addr∨o.addr+o.size≤m:=by
  intro ht o ho hb
  rw[←Bool.not_eq_true]at ht
  unfold Hp.taken at ht
  rw[List.any_eq_true]at ht
  have hz:¬(o.addr<m+n∧m<o.addr+o.size):=fun hh=>ht ⟨o,ho,by simp only[NH,bne_iff_ne,ne_eq,decide_eq_true_eq];exact⟨hb,hh⟩⟩
  omega
 refine⟨m,rfl,oM,?_⟩
 split at h<;>split at h
 ·cases h
 ·split at h
  ·cases h
  ·rename_i c3
   exact⟨oM,htk (by simpa using c3)⟩
 ·cases h
 ·split at h
  ·cases h
  ·rename_i c3
   have hs:=Hp.SV (s:=s) (b:=m/64) oM
   exact⟨oM,htk (by simpa using c3)⟩
theorem Hp.Ok.ins(k:s.Ok)(h:o.Ok s.nw s.born)(h1:∀x∈s.objs,o.addr+o.size≤x.addr∨x.addr+x.size≤o.addr)(h2:∀x∈s.objs,x.id≠o.id):(s.ins o).Ok where
 nb:=k.nb
 st:=k.st
 ob:=fun x hx=>by
  rcases GU.1 hx with rfl|hx
  ·exact h
  ·exact k.ob x hx
 apart:=ZY k.apart h1
 ids:=Fa k.ids h2
 born:=k.born
theorem Hp.Ok.Ggp(k:s.Ok)(k':(s.ins o).Ok)(h1:∀x∈s.objs,o.addr+o.size≤x.addr∨x.addr+x.size≤o.addr)(w:Nat):(s.ins o).word w=if o.addr≤w∧w<o.addr+o.size then o.cell (w-o.addr)else s.word w:=by
 by_cases c:o.addr≤w∧w<o.addr+o.size
 ·rw[if_pos c]
  have h:=k'.word (GU.2 (.inl rfl)) (k:=w-o.addr) oM
  rwa[show o.addr+(w-o.addr)=w by omega]at h
 ·rw[if_neg c]
  cases hw:s.owner w with
  |some x=>
   have hx:=List.mem_of_find?_eq_some hw
   have hp:=Lp hw
   simp only[decide_eq_true_eq]at hp
   have q1:=k.word hx (k:=w-x.addr) oM
   have q2:=k'.word (GU.2 (.inr hx)) (k:=w-x.addr) oM
   rw[show x.addr+(w-x.addr)=w by omega]at q1 q2
   rw[q1,q2]
  |none=>
   have:(s.ins o).owner w=none:=by
    unfold Hp.owner at hw⊢
    rw[List.find?_eq_none]at hw⊢
    intro x hx
    rcases GU.1 hx with rfl|hx
    ·rwa[decide_eq_true_eq]
    ·exact hw x hx
   unfold Hp.word
   rw[this,hw]
theorem Hp.Gbp(h:o.addr % 2=0):(s.ins o).starts=fun i=>if i=o.addr/2 then true else s.starts i:=by
 funext i
 show(NA _ s.objs).any _=_
 rw[I7]
 by_cases c:i=o.addr/2
 ·rw[if_pos c,show(o.addr==2*i)=true by simp;omega];rfl
 ·rw[if_neg c,show(o.addr==2*i)=false by simp;omega];rfl
theorem Hp.Gg2(h:o.addr % 2=0)(hs:s.starts (o.addr/2)=false):(s.ins o).pins=fun i=>if i=o.addr/2 then o.pin else s.pins i:=by
 funext i
 show(NA _ s.objs).any _=_
 rw[I7]
 by_cases c:i=o.addr/2
 ·rw[if_pos c,show(o.addr==2*i)=true by simp;omega,Bool.true_and]
  have:(s.objs.any fun x=>x.addr==2*i&&x.pin)=false:=by
   rw[←Bool.not_eq_true,List.any_eq_true]
   rintro ⟨x,hx,h1⟩
   rw[←Bool.not_eq_true]at hs
   unfold Hp.starts at hs
   rw[List.any_eq_true]at hs
   exact hs ⟨x,hx,by simp at h1⊢;omega⟩
  rw[this,Bool.or_false]
 ·rw[if_neg c,show(o.addr==2*i)=false by simp;omega];rfl
theorem Hp.GjI(q v:Int):(∃x∈(s.ins o).objs,q=x.id∧v=x.addr)↔((∃x∈s.objs,q=x.id∧v=x.addr)∨(q=o.id∧v=o.addr)):=by
 constructor
 ·rintro ⟨x,hx,h⟩
  rcases GU.1 hx with rfl|hx
  ·exact .inr h
  ·exact .inl ⟨x,hx,h⟩
 ·rintro (⟨x,hx,h⟩|h)
  ·exact⟨x,GU.2 (.inr hx),h⟩
  ·exact⟨_,GU.2 (.inl rfl),h⟩
theorem Ob.Gdo:(o.to b).size=o.size:=rfl
theorem Hp.Ok.GgI(k:s.Ok)(ho:o∈s.objs)(h1:b % 2=0)(h2:b+o.size≤s.nw)(h3:∀x∈s.objs,x.addr≠o.addr→b+o.size≤x.addr∨x.addr+x.size≤b):
  ((s.without o.addr).ins (o.to b)).Ok∧∀x∈(s.without o.addr).objs,(o.to b).addr+(o.to b).size≤x.addr∨x.addr+x.size≤(o.to b).addr:=by
 have q:=k.ob o ho
 have ap:∀x∈(s.without o.addr).objs,(o.to b).addr+(o.to b).size≤x.addr∨x.addr+x.size≤(o.to b).addr:=fun x hx=>by
  obtain⟨a1,a2⟩:=Hp.GV.1 hx
  exact h3 x a1 a2
 refine⟨(k.without _).ins ⟨h1,q.nr,q.nd,q.kd,q.id,h2⟩ ap fun x hx=>?_,ap⟩
 obtain⟨a1,a2⟩:=Hp.GV.1 hx
 rcases Ki k.ids a1 ho with e|e|e
 ·exact absurd (congrArg _ e) a2
 ·exact e
 ·exact Ne.symm e
theorem Hp.Ok.moved(k:s.Ok)(ho:o∈s.objs)(h1:b % 2=0)(h2:b+o.size≤s.nw)(h3:∀x∈s.objs,x.addr≠o.addr→b+o.size≤x.addr∨x.addr+x.size≤b):(s.moved o b).Ok:=by
 obtain⟨h,-⟩:=k.GgI ho h1 h2 h3
 exact⟨h.nb,h.st,h.ob,h.apart,h.ids,h.born⟩
end
theorem Q8.put{H:Gb}{b:Nat}{r:Int→Int→Prop}(m:Q8 H b r)(n v:Int):∃H',(∀H0,H0=H→UN .i64 (.GJ b) (.i n) (.i v) H0=some (.undef,H'))∧Keeps H H' (·=b)∧Q8 H' b fun k w=>(r k w∧k≠n)∨(k=n∧w=v):=by
 by_cases c:∃w,r n w
 ·obtain⟨w0,c⟩:=c
  obtain⟨l,h1,h0,h2,h3⟩:=m.entries
  obtain⟨j,q1,q2⟩:=V_ (i:=0) h2 ((h3 n w0).2 c)
  rw[Nat.zero_add]at q2
  have hj:=Gf q1
  have hm:(JB l).set j (.Jj [.i n,.i v])=JB (l.set j (n,v)):=by unfold JB;rw[List.map_set]
  refine⟨H.set b ⟨JB (l.set j (n,v)),.map,0⟩,?_,Keeps.set (w:=fun c=>c=b) (Keeps.refl H _) (.inl rfl) _,l.set j (n,v),by rw[Va (Gf h1)],?_,fun k w=>?_⟩
  ·rintro _ rfl
   unfold UN Qj
   dsimp only
   rw[if_pos ⟨rfl,rfl⟩,h0,Option.bind_some,q2,Option.bind_some]
   dsimp only
   unfold Jq
   rw[h1]
   dsimp only
   rw[if_pos ⟨rfl,rfl,(Na l).2⟩,hm]
   rfl
  ·rw[List.map_set]
   have:(l.map (·.1))[j]?=some n:=by rw[Kr,q1];rfl
   rw[show(l.map (·.1)).set j n=l.map (·.1)from List.ext_getElem? fun i=>by
    rw[Ig];split
    ·rename_i e;subst e;rw[if_pos (by simpa using hj),this]
    ·rfl]
   exact h2
  ·have hu:∀i k w,l[i]?=some (k,w)→(k=n↔i=j):=fun i k w hi=>by
    constructor
    ·rintro rfl
     exact(List.getElem?_inj (by simpa using Gf hi) h2).1 (by rw[Kr,Kr,hi,q1];rfl)
    ·rintro rfl
     rw[q1]at hi
     simp only[GA,Prod.mk.injEq]at hi
     exact hi.1.symm
   show _↔(r k w∧k≠n)∨(k=n∧w=v)
   rw[List.mem_iff_getElem?,←h3,List.mem_iff_getElem?]
   constructor
   ·rintro ⟨i,hi⟩
    rw[Ig]at hi
    split at hi
    ·simp only[GA,Prod.mk.injEq]at hi
     exact .inr ⟨hi.1.symm,hi.2.symm⟩
    ·rename_i e
     exact .inl ⟨⟨i,hi⟩,fun e2=>e ((hu i k w hi).1 e2).symm⟩
   ·rintro (⟨⟨i,hi⟩,hk⟩|⟨rfl,rfl⟩)
    ·refine⟨i,?_⟩
     rw[KV (fun e=>hk ((hu i k w hi).2 e.symm)),hi]
    ·exact⟨j,by rw[Va hj]⟩
 ·obtain⟨H',a,b',c'⟩:=m.add (n:=n) (v:=v) fun w hw=>c ⟨w,hw⟩
  obtain⟨l,x1,x2,x3⟩:=c'
  refine⟨H',a,b',l,x1,x2,fun k w=>(x3 k w).trans ?_⟩
  constructor
  ·rintro (h|h)
   ·exact .inl ⟨h,fun e=>c ⟨w,e▸h⟩⟩
   ·exact .inr h
  ·rintro (h|h)
   ·exact .inl h.1
   ·exact .inr h
end Go.Cs
namespace Go.Cs.Tryz
open Go Go.Cs A
def GtR:Gj:=⟨104,0,T [n 6 0] (S (T [m 12 0,m 13 1,q2 14 124 12 13,m 7 14] (T [m 15 7,bk 16 .neq 15 0] (I 16 (Q [m 17 7,m 6 17])))) (T [m 18 0,m 19 1,q2 20 114 18 19,m 8 20] (S (T [m 21 0,m 22 2,m 23 8,m 24 1,q4 25 164 21 22 23 24,m 9 25] (T [m 26 9,bk 27 .neq 26 0] (I 27 (Q [m 28 9,m 6 28])))) (T [m 29 0,z 30 29,f 31 3 30,l 32 1 31,m 33 1,bk 34 .quo 33 2,q2 35 154 32 34,m 10 35] (T [m 36 8,e 37 (.makeSlice 1 [i 0] (t 36) (t 36)),m 11 37] (T [m 38 11,m 39 0,z 40 39,f 41 1 40,l 42 1 41,m 43 1,m 44 1,m 45 8,b 46 .add 44 45,e 47 (.slice 1 (t 42) (some (t 43)) (some (t 46)) none),e 48 (.copy 1 (t 38) (t 47))] (T [m 49 0,z 50 49,f 51 2 50,l 52 1 51,m 53 1,bk 54 .quo 53 2,ca 55 125 [t 52,t 54,k 0]] (T [m 56 0,z 57 56,f 58 3 57,l 59 1 58,m 60 1,bk 61 .quo 60 2,ca 62 125 [t 59,t 61,k 0]] (T [m 63 0,m 64 1,m 65 8,q3 66 126 63 64 65] (T [m 67 0,z 68 67,f 69 1 68,l 70 1 69,m 71 2,e 72 (.slice 1 (t 70) (some (t 71)) none none),m 73 11,e 74 (.copy 1 (t 72) (t 73))] (T [m 75 0,z 76 75,f 77 2 76,l 78 1 77,m 79 2,bk 80 .quo 79 2,ca 81 125 [t 78,t 80,k 1]] (T [m 82 0,z 83 82,f 84 3 83,l 85 1 84,m 86 2,bk 87 .quo 86 2,m 88 10,q3 89 125 85 87 88] (S (D [⟨m 90 0,0,0,0⟩,⟨z 91 90,1,0,0⟩,⟨f 92 4 91,2,0,0⟩,⟨l 93 1 92,3,1,0⟩,⟨m 94 11,4,0,0⟩,⟨e 95 (.index 1 (t 94) (k 0)),5,0,0⟩,⟨l 96 1 95,6,1,0⟩,⟨m 97 2,7,0,0⟩,⟨u (.QS .i64 (t 93) (t 96) (t 97)),8,3,0⟩]) (T [m 98 0,z 99 98,f 100 5 99,l 101 1 100,m 102 1,m 103 2,u (.QS .i64 (t 101) (t 102) (t 103))] (Q [n 6 0]))))))))))))))),[r 6]⟩
theorem Gvl:P 147=some GtR:=by kernel_rfl
end Go.Cs.Tryz
namespace Go.Cs
open Go
section
variable {F : GQ} {E : Env} {H : Gb}
def Ro(GN:Nat)(d s:CV)(H:Gb):Option (CV×Gb):=match d,s with
 |.slice b o len _ _ _,.slice b' o' len' _ _ _=>
  if min len' len=0 then some (.i 0,H)else
  (JD H b' o' (min len' len*GN)).bind fun cs=>(Nh H b o cs).map fun H'=>(.i (min len' len:Nat),H')
 |.Gd,.slice .. =>some (.i 0,H)
 |.slice ..,.Gd=>some (.i 0,H)
 |.Gd,.Gd=>some (.i 0,H)
 |_,_=>none
theorem Gi2{GN:Nat}{d s:Jy}:JY F (.copy GN d s) E H=Ro GN (E.ev d) (E.ev s) H:=by
 simp only[JY,UZ,Ro]
 cases E.ev d<;>cases E.ev s<;>rfl
theorem GcU{GN b o len c e b' o' len' c' e' n:Nat}{t t':Bool}{cs:List CV}(h:min len' len=n)(h0:0<n)(hl:JD H b' o' (n*GN)=some cs):
  Ro GN (.slice b o len c e t) (.slice b' o' len' c' e' t') H=(Hl H b H[b]? o cs).map fun H'=>(.i n,H'):=by
 unfold Ro;dsimp only;rw[h,if_neg oM,hl];rfl
theorem Ges{b o len cap a m:Nat}{t:Bool}(h:a≤m)(h2:m≤cap)(hl:len≤cap):Ky 1 (.slice b o len cap 1 t) (some (.i a)) (some (.i m)) none=some (.slice b (o+a) (m-a) (cap-a) 1 t):=by
 have c1:(0:Int)≤(m:Int)∧(m:Int)≤(cap:Int):=by omega
 have c2:(0:Int)≤(a:Int)∧(a:Int)≤(m:Int):=by omega
 simp[Ky,Nj,Us,ZJ,hl,h,h2]
theorem Gh6{b o len cap a:Nat}{t:Bool}(h:a≤len)(hl:len≤cap):Ky 1 (.slice b o len cap 1 t) (some (.i a)) none none=some (.slice b (o+a) (len-a) (cap-a) 1 t):=by
 simp[Ky,Nj,Us,ZJ,hl,h]
end
theorem LW{H:Gb}{b o n:Nat}{cs row:List CV}{e:Nat}(h:H[b]?=some ⟨row,.rw,e⟩) (hn:o+n≤row.length) (hc:(row.drop o).take n=cs):JD H b o n=some cs:=by
 subst hc
 simp[JD,h,hn]
theorem OV{l vs:List CV}{o:Nat}(h:o+vs.length≤l.length)(i:Nat):(splice l o vs)[i]?=if i<o then l[i]? else if i<o+vs.length then vs[i-o]? else l[i]?:=by
 have lt:(l.take o).length=o:=by simp;omega
 unfold splice
 split
 ·rw[List.append_assoc,IJ oM,Zx,if_pos (by assumption)]
 ·split
  ·rw[IJ (by rw[Qi];omega),lX8 oM,lt]
  ·rw[lX8 (by rw[Qi];omega),Z7,Qi,lt,show o+vs.length+(i-(o+vs.length))=i by omega]
theorem Hp.Ok.GkH{s:Hp}(k:s.Ok){o:Ob}(ho:o∈s.objs):s.pins (o.addr/2)=o.pin:=by
 have he:=(k.ob o ho).even
 rw[Bool.eq_iff_iff]
 unfold Hp.pins
 rw[List.any_eq_true]
 constructor
 ·rintro ⟨x,hx,h⟩
  simp only[NH,beq_iff_eq]at h
  have h1:=x.size_pos
  have h2:=o.size_pos
  rw[←k.same hx ho (w:=o.addr) oM oM];exact h.2
 ·exact fun h=>⟨o,ho,by simp[h];omega⟩
end Go.Cs
namespace Go.Cs.Tryz
open Go Go.Cs
section
variable {H : Gb} {hb : Nat} {s : Hp} {L : G5}
theorem Gfj(p:PH H hb s L)(k:s.Ok)(a b:Int)(ha:a≤9223372036854775807):Did H hb L (s.move a b).1 (.i (s.move a b).2) (run P 147 [.ptr hb 0,.i a,.i b] H):=by
 have h1:=Qy p k a ha
 unfold Hp.move
 rw[Gh Gvl _ _ sM]
 cases e:s.obj a with
 |none=>
  rw[Hp.J_.2 e]at h1
  refine⟨H,?_,Keeps.refl _ _,p⟩
  exact W0
 |some o=>
  rw[Hp.J4.2 ⟨o,e⟩]at h1
  dsimp only
  obtain⟨ho,rfl⟩:=Hp.Jf e
  have ok:=k.ob o ho
  have hf:=ok.fits
  have he:=ok.even
  have hz:=o.size_pos
  have hsz:=o.R8
  have hs3:=o.size_le ok
  have hn:=k.nb
  have hnw:s.nw=64*s.blk.length:=rfl
  obtain⟨z1,-,-⟩:=Ut p k ho (j:=1) oM
  obtain⟨H1,d1,g1⟩:=Dp (L:=L) k ho p.top rfl z1
  obtain⟨H2,d2,g2⟩:=Rs (p.gr g1) k b o.addr hsz oM oM
  have g12:=g1.trans g2
  have p2:=p.gr g12
  by_cases cf:s.fits b o.size o.addr=0
  rotate_left
  ·rw[if_neg cf]
   have cf':(s.fits b o.size o.addr != 0)=true:=by simpa using cf
   refine⟨H2,?_,g12.weaken fun _ h=>h.elim,p2⟩
   exact W0
  rw[if_pos cf]
  rw[cf]at d2
  obtain⟨m,rfl,e1,e2,e3⟩:=k.WY oM cf
  have e3':∀x∈s.objs,x.addr≠o.addr→m+o.size≤x.addr∨x.addr+x.size≤m:=fun x hx hne=>e3 x hx oM
  obtain⟨ko,ap⟩:=k.GgI ho e1 e2 e3'
  rw[Kt]
  have nd:=p.nod
  simp only[G5.all,List.nodup_cons,List.mem_cons,List.not_mem_nil,or_false,not_or]at nd
  obtain⟨⟨n1,n2,n3,n4,n5,n6,n7,n8⟩,⟨a1,a2,a3,a4,a5,a6,a7⟩,⟨m1,m2,m3,m4,m5,m6⟩,⟨r1,r2,r3,r4,r5⟩,⟨t1,t2,t3,t5⟩,⟨u1,u2,u3⟩,⟨v1,v2⟩,v3,-⟩:=nd
  have hd:(o.addr:Int).tdiv 2=((o.addr/2:Nat):Int):=KN o.addr 2
  have hw:IntKind.i64.wrap ((o.addr/2:Nat):Int)=((o.addr/2:Nat):Int):=Gg oM
  have hdm:(m:Int).tdiv 2=((m/2:Nat):Int):=KN m 2
  have hwm:IntKind.i64.wrap ((m/2:Nat):Int)=((m/2:Nat):Int):=Gg oM
  have w2:IntKind.i64.wrap ((o.addr:Int)+(o.size:Int))=((o.addr+o.size:Nat):Int):=Gg oM
  have hg:=OG p2.pin ((o.addr/2:Nat):Int)
  rw[if_pos oM,Kt]at hg
  obtain⟨row,hrow⟩:∃row,row=((List.range s.nw).map (fun w=>CV.i (s.word w))):=⟨_,rfl⟩
  have hrl:row.length=s.nw:=by rw[hrow];simp
  have hri:∀i,i<s.nw→row[i]?=some (.i (s.word i)):=fun i hi=>by rw[hrow,Kr,IX hi];rfl
  have hwr2:H2[L.wb]?=some ⟨row,.rw,1⟩:=by rw[hrow];exact p2.wrd
  obtain⟨cs,hcs⟩:∃cs,cs=(row.drop o.addr).take o.size:=⟨_,rfl⟩
  have hcl:cs.length=o.size:=by rw[hcs,List.length_take,List.length_drop];omega
  have hci:∀i,i<o.size→cs[i]?=some (.i (o.cell i)):=fun i hi=>by
   rw[hcs,Zx,if_pos hi,Z7,hri _ oM,k.word ho hi]
  have hca:cs.all leaf=true:=by
   rw[List.all_eq_true]
   intro x hx
   obtain⟨i,hi⟩:=List.mem_iff_getElem?.1 hx
   rw[hci i (by rw[←hcl];exact Gf hi)]at hi
   cases hi;rfl
  obtain⟨H3,hH3⟩:∃X:Gb,X=H2++[⟨List.replicate o.size (.i 0),.rw,1⟩]:=⟨_,rfl⟩
  have hfl:(List.replicate o.size [CV.int .i64 0]).flatten=List.replicate o.size (.i 0):=by
   induction o.size with
   |zero=>rfl
   |succ n ih=>simp[List.replicate_succ]
  have g3:Gr H H3:=by rw[hH3];exact g12.app' _
  have hh3:H3[H2.length]?=some ⟨List.replicate o.size (.i 0),.rw,1⟩:=by rw[hH3];simp
  have p3:=p.gr g3
  have lt:=p.lt
  have l2:∀c∈L.all hb,c≠H2.length:=fun c hc e=>by have:=lt c hc;have:=g12.len;omega
  have Gpv:H3[L.wb]?=some ⟨row,.rw,1⟩:=by rw[hrow];exact p3.wrd
  have Gmy:Hl H3 H2.length (some ⟨List.replicate o.size (.i 0),.rw,1⟩) 0 cs=some (H3.set H2.length ⟨cs,.rw,1⟩):=by
   rw[UD (by simp[hcl]) hca]
   congr 3
   simp[splice,hcl]
  obtain⟨H4,hH4⟩:∃X:Gb,X=H3.set H2.length ⟨cs,.rw,1⟩:=⟨_,rfl⟩
  rw[←hH4]at Gmy
  have k4:Keeps H H4 (fun _=>False):=by
   refine⟨by rw[hH4,List.length_set];exact g3.len,fun c hc _=>?_⟩
   rw[hH4,KV (by have:=g12.len;omega)]
   exact g3.keep c hc fun h=>h
  have p4:=p.gr k4
  have hh4:H4[H2.length]?=some ⟨cs,.rw,1⟩:=by rw[hH4,Va (Gf hh3)]
  have lh4:=Gf hh4
  obtain⟨H5,d5,k5,S5⟩:=Uz p4.Xk (i:=o.addr/2) oM false
  have d5':run P 125 [.ptr L.sb 0,.i ((o.addr/2:Nat):Int),.int .i64 0] H4=some (.i 0,H5):=d5
  have mem:∀{c},c=hb∨c=L.bb∨c=L.wb∨c=L.sb∨c=L.sw∨c=L.pb∨c=L.pw∨c=L.mb∨c=L.fb→c∈L.all hb:=fun h=>by simpa[G5.all]using h
  have Pk:∀c∈L.all hb,c<H4.length:=p4.lt
  have lt5:∀c∈L.all hb,c<H5.length:=fun c hc=>J6 (Pk c hc) k5.len
  obtain⟨H6,d6,k6,S6⟩:=Uz (p4.pin.frame (k5.keep _ (Pk _ (mem sM)) (Ne.symm t1)) (k5.keep _ (Pk _ (mem sM)) (Ne.symm t2))) (i:=o.addr/2) oM false
  have d6':run P 125 [.ptr L.pb 0,.i ((o.addr/2:Nat):Int),.int .i64 0] H5=some (.i 0,H6):=d6
  have lt6:∀c∈L.all hb,c<H6.length:=fun c hc=>J6 (lt5 c hc) k6.len
  have o6:∀c,c<H4.length→c≠L.sw→c≠L.pw→H6[c]?=H4[c]?:=fun c hc x1 x2=>(k6.keep c (J6 hc k5.len) x2).trans (k5.keep c hc x1)
  have pt6:=(o6 _ (Pk _ (mem sM)) n4 n6).trans p4.top
  have wr6:H6[L.wb]?=some ⟨row,.rw,1⟩:=by rw[hrow];exact(o6 _ (Pk _ (mem sM)) m2 m4).trans p4.wrd
  have d7:=Rz (H:=H6) (s:=s) (L:=L) pt6 rfl wr6 hrl oM (a:=o.addr) (n:=o.size) oM hf
  obtain⟨Ggv,GgU⟩:∃r,r=splice row o.addr (List.replicate o.size (.i 0)):=⟨_,rfl⟩
  rw[←GgU]at d7
  have Gyn:Ggv.length=s.nw:=by rw[GgU];simp[splice];omega
  obtain⟨H7,hH7⟩:∃X:Gb,X=H6.set L.wb ⟨Ggv,.rw,1⟩:=⟨_,rfl⟩
  rw[←hH7]at d7
  have wr7:H7[L.wb]?=some ⟨Ggv,.rw,1⟩:=by rw[hH7,Va (lt6 _ (mem sM))]
  have o7:∀c,c≠L.wb→H7[c]?=H6[c]?:=fun c hc=>by rw[hH7,KV (Ne.symm hc)]
  have hh7:H7[H2.length]?=some ⟨cs,.rw,1⟩:=(o7 _ (Ne.symm (l2 _ (mem sM)))).trans ((o6 _ lh4 (Ne.symm (l2 _ (mem sM))) (Ne.symm (l2 _ (mem sM)))).trans hh4)
  obtain⟨Glw,hrow2⟩:∃r,r=splice Ggv m cs:=⟨_,rfl⟩
  have Gpz:Hl H7 L.wb (some ⟨Ggv,.rw,1⟩) m cs=some (H7.set L.wb ⟨Glw,.rw,1⟩):=by
   rw[hrow2];exact UD oM hca
  obtain⟨H8,hH8⟩:∃X:Gb,X=H7.set L.wb ⟨Glw,.rw,1⟩:=⟨_,rfl⟩
  rw[←hH8]at Gpz
  have o8:∀c,c≠L.wb→H8[c]?=H6[c]?:=fun c hc=>by rw[hH8,KV (Ne.symm hc),o7 c hc]
  have wr8:H8[L.wb]?=some ⟨Glw,.rw,1⟩:=by rw[hH8,Va (Gf wr7)]
  have len8:H8.length=H6.length:=by rw[hH8,hH7];simp
  have lt8:∀c∈L.all hb,c<H8.length:=fun c hc=>by rw[len8];exact lt6 c hc
  obtain⟨H9,d9,k9,S9⟩:=Uz (((S5.frame (H':=H6) (k6.keep _ (lt5 _ (mem sM)) r3) (k6.keep _ (lt5 _ (mem sM)) t2)).frame (H':=H8) (o8 _ (Ne.symm m1)) (o8 _ (Ne.symm m2)))) (i:=m/2) oM true
  have d9':run P 125 [.ptr L.sb 0,.i ((m/2:Nat):Int),.int .i64 1] H8=some (.i 0,H9):=d9
  have lt9:∀c∈L.all hb,c<H9.length:=fun c hc=>J6 (lt8 c hc) k9.len
  obtain⟨H10,d10,k10,S10⟩:=Uz ((S6.frame (H':=H8) (o8 _ (Ne.symm m3)) (o8 _ (Ne.symm m4))).frame (H':=H9) (k9.keep _ (lt8 _ (mem sM)) (Ne.symm t1)) (k9.keep _ (lt8 _ (mem sM)) (Ne.symm t2))) (i:=m/2) oM (s.pins (o.addr/2))
  have Sg:∀c∈L.all hb,c<H10.length:=fun c hc=>J6 (lt9 c hc) k10.len
  have o10:∀c,c<H8.length→c≠L.sw→c≠L.pw→H10[c]?=H8[c]?:=fun c hc x1 x2=>(k10.keep c (J6 hc k9.len) x2).trans (k9.keep c hc x1)
  have o4:∀c,c<H4.length→c≠L.sw→c≠L.pw→c≠L.wb→H10[c]?=H4[c]?:=fun c hc x1 x2 x3=>(o10 c (by rw[len8];have:=k5.len;have:=k6.len;omega) x1 x2).trans ((o8 c x3).trans (o6 c hc x1 x2))
  obtain⟨H11,d11,k11,M11⟩:=(p4.N7.frame (o4 _ (Pk _ (mem sM)) (Ne.symm t3) (Ne.symm v1) (Ne.symm m5))).put (o.id:Int) (m:Int)
  obtain⟨H12,d12,k12,M12⟩:=((p4.fwd.frame (o4 _ (Pk _ (mem sM)) (Ne.symm t5) (Ne.symm v2) (Ne.symm m6))).frame (H':=H11) (k11.keep _ (Sg _ (mem sM)) (Ne.symm v3))).put (o.addr:Int) (m:Int)
  have Gum:=d11 H10 rfl
  have Gsg:=d12 H11 rfl
  have GpG:∀c∈L.all hb,c<H11.length:=fun c hc=>J6 (Sg c hc) k11.len
  have o12:∀c,c<H10.length→c≠L.mb→c≠L.fb→H12[c]?=H10[c]?:=fun c hc x1 x2=>(k12.keep c (J6 hc k11.len) x2).trans (k11.keep c hc x1)
  have c8:∀c,c<H4.length→c<H8.length:=fun c hc=>by rw[len8];have:=k5.len;have:=k6.len;omega
  have hB:hb<H4.length:=Pk _ (mem sM)
  have t4:=p4.top
  have t5':=(k5.keep _ hB n4).trans t4
  have t7:=(o7 _ n2).trans pt6
  have t8:=(o8 _ n2).trans pt6
  have t9:=(k9.keep _ (c8 _ hB) n4).trans t8
  have t10:=(o10 _ (c8 _ hB) n4 n6).trans t8
  have t11:=(k11.keep _ (Sg _ (mem sM)) n7).trans t10
  have t12:=(k12.keep _ (GpG _ (mem sM)) n8).trans t11
  have Gty:H10[H2.length]?=some ⟨cs,.rw,1⟩:=(o4 _ lh4 (Ne.symm (l2 _ (mem sM))) (Ne.symm (l2 _ (mem sM))) (Ne.symm (l2 _ (mem sM)))).trans hh4
  have hc0:cs[0]?=some (.i o.id):=hci 0 oM
  have hsl:=Ges (b:=L.wb) (o:=0) (len:=s.nw) (cap:=s.nw) (a:=o.addr) (m:=o.addr+o.size) (t:=false) oM hf oM
  have hsl2:=Gh6 (b:=L.wb) (o:=0) (len:=s.nw) (cap:=s.nw) (a:=m) (t:=false) oM oM
  rw[Nat.zero_add,show o.addr+o.size-o.addr=o.size by omega]at hsl
  rw[Nat.zero_add]at hsl2
  have hcp1:Ro 1 (.slice H2.length 0 o.size o.size 1 false) (.slice L.wb o.addr o.size (s.nw-o.addr) 1 false) H3=some (.i o.size,H4):=by
   rw[GcU (n:=o.size) (cs:=cs) oM oM (LW Gpv (by rw[hrl];omega) (by rw[Nat.mul_one];exact hcs.symm)),hh3,Gmy];rfl
  have hcp2:Ro 1 (.slice L.wb m (s.nw-m) (s.nw-m) 1 false) (.slice H2.length 0 o.size o.size 1 false) H7=some (.i o.size,H8):=by
   rw[GcU (n:=o.size) (cs:=cs) oM oM (LW hh7 oM (by rw[Nat.mul_one,List.drop_zero,Qe oM])),wr7,Gpz];rfl
  have hM:(1000:Int)≤(J9:Int):=by decide
  have hn0:(0:Int)≤(o.size:Int)∧(o.size:Int)≤(o.size:Int)∧(o.size:Int)≤(J9:Int):=⟨oM,oM,oM⟩
  refine⟨H12,?_,?_,?_⟩
  ·simp(disch:=first|exact dz|fail) only[simprocAttr,Gs,↓reduceIte,A9,h1,d1,d2,p2.top,p3.top,w2,hg,hd,hw,hdm,hwm,Ji,hfl,hn0,←hH3,Gi2,Gpv,hsl,hcp1,t4,d5',t5',d6',d7,t7,hsl2,hcp2,t8,d9',t9,d10,t10,Gty,hc0,Vg,Gum,t11,Gsg]
  ·refine⟨by have:=k4.len;have:=k5.len;have:=k6.len;have:=k9.len;have:=k10.len;have:=k11.len;have:=k12.len;omega,fun c hc hn=>?_⟩
   simp only[G5.all,List.mem_cons,List.not_mem_nil,or_false,not_or]at hn
   have hc4:c<H4.length:=J6 hc k4.len
   rw[o12 c (by have:=c8 c hc4;have:=k9.len;have:=k10.len;omega) hn.2.2.2.2.2.2.2.1 hn.2.2.2.2.2.2.2.2,o4 c hc4 hn.2.2.2.2.1 hn.2.2.2.2.2.2.1 hn.2.2.1,k4.keep c hc fun h=>h]
  ·have Ghk:(s.without o.addr).starts (m/2)=false:=by
    rw[←Bool.not_eq_true]
    unfold Hp.starts
    rw[List.any_eq_true]
    rintro ⟨x,hx,h⟩
    have:=ap x hx
    have:=x.size_pos
    have:x.addr=2*(m/2):=by simpa using h
    have:(o.to m).addr=m:=rfl
    have:(o.to m).size=o.size:=rfl
    omega
   have l10:∀c∈L.all hb,c≠L.mb→c≠L.fb→c≠L.sw→c≠L.pw→c≠L.wb→H12[c]?=H4[c]?:=fun c hc x1 x2 x3 x4 x5=>(o12 c (Sg c hc) x1 x2).trans (o4 c (Pk c hc) x3 x4 x5)
   refine⟨t12,?_,?_,?_,?_,?_,?_,p.nod⟩
   ·exact(l10 _ (mem sM) a6 a7 a3 a5 a1).trans p4.blk
   ·rw[o12 _ (Sg _ (mem sM)) m5 m6,o10 _ (lt8 _ (mem sM)) m2 m4,wr8]
    congr 2
    refine List.ext_getElem? fun i=>?_
    have hwd:=(k.without o.addr).Ggp ko ap i
    rw[k.Df ho i,Ob.Gdo]at hwd
    change (s.moved o m).word i=if m≤i∧i<m+o.size then o.cell (i-m)else _ at hwd
    show _=((List.range s.nw).map fun w=>CV.i ((s.moved o m).word w))[i]?
    rw[Kr,hrow2,OV oM,GgU,OV (by rw[hrl,List.length_replicate];exact hf),hcl,List.length_replicate,List.getElem?_replicate]
    by_cases hi:i<s.nw
    ·have r1:=hri i hi
     have r2:=hci (i-m)
     rw[IX hi,Option.map_some,hwd]
     grind
    ·have hn0:row[i]?=none:=lX9 oM
     rw[lX9 (l:=List.range s.nw) (by simpa using hi)]
     grind
   ·have e:(s.moved o m).starts=fun i=>if i=m/2 then true else if i=o.addr/2 then false else s.starts i:=by
     show((s.without o.addr).ins (o.to m)).starts=_
     rw[Hp.Gbp e1,k.Ak ho];rfl
    rw[e]
    exact S9.frame (H':=H12) ((o12 _ (Sg _ (mem sM)) r4 r5).trans (k10.keep _ (lt9 _ (mem sM)) r3)) ((o12 _ (Sg _ (mem sM)) t3 t5).trans (k10.keep _ (lt9 _ (mem sM)) t2))
   ·have e:(s.moved o m).pins=fun i=>if i=m/2 then o.pin else if i=o.addr/2 then false else s.pins i:=by
     show((s.without o.addr).ins (o.to m)).pins=_
     rw[Hp.Gg2 e1 Ghk,k.Ed ho];rfl
    rw[e,←k.GkH ho]
    exact S10.frame (H':=H12) (o12 _ (Sg _ (mem sM)) u2 u3) (o12 _ (Sg _ (mem sM)) v1 v2)
   ·obtain⟨l,x1,x2,x3⟩:=M11
    refine⟨l,(k12.keep _ (GpG _ (mem sM)) v3).trans x1,x2,fun q v=>(x3 q v).trans ?_⟩
    show _↔∃x∈((s.without o.addr).ins (o.to m)).objs,q=x.id∧v=x.addr
    rw[Hp.GjI,k.He ho]
    rfl
   ·obtain⟨l,x1,x2,x3⟩:=M12
    refine⟨l,x1,x2,fun q v=>(x3 q v).trans ?_⟩
    show _↔(q,v)∈((o.addr:Int),(m:Int))::s.fwd.filter fun x=>x.1 != (o.addr:Int)
    rw[List.mem_cons,List.mem_filter,Prod.mk.injEq]
    simp only[bne_iff_ne,ne_eq]
    exact Or.comm
end
end Go.Cs.Tryz
namespace Go.Cs.Tryz
open Go Go.Cs A
def C32:Gj:=⟨47,0,T [e 2 (.Km (c .nilPtr)),n 3 0] (S (T [m 5 0,bk 6 .lss 5 2,m 7 6,gf 7 (m 8 0),gf 7 (bk 9 .gtr 8 64),or 10 7 9] (I 10 (Q [e 2 (.Km (c .nilPtr)),n 3 1]))) (S (D [⟨m 11 0,0,0,0⟩,⟨e 12 (.makeSlice 2 [i 0,i 0] (t 11) (t 11)),1,0,0⟩,⟨m 13 0,2,0,0⟩,⟨bk 14 .mul 13 64,3,0,0⟩,⟨e 15 (.makeSlice 1 [i 0] (t 14) (t 14)),4,0,0⟩,⟨e 16 .Yf,5,0,0⟩,⟨e 17 .Yf,6,0,0⟩,⟨e 18 (.build [.Gd,.Gd,.nilPtr,.nilPtr,.Uk,.Uk,i 0] [(0,1,t 12),(1,1,t 15),(4,1,t 16),(5,1,t 17)]),7,0,0⟩,⟨bo 19 18,8,0,0⟩,⟨m 4 19,9,0,0⟩]) (T [m 21 4,m 22 4,z 23 22,f 24 1 23,l 25 1 24,le 26 25,bk 27 .quo 26 2,ca 28 115 [t 27,k 1],m 20 28,ex 29 20 0,ex 30 20 1,z 31 21,f 32 2 31,st 1 32 29] (T [m 34 4,m 35 4,z 36 35,f 37 1 36,l 38 1 37,le 39 38,bk 40 .quo 39 2,ca 41 115 [t 40,k 1],m 33 41,ex 42 33 0,ex 43 33 1,z 44 34,f 45 3 44,st 1 45 42] (Q [m 46 4,m 2 46,n 3 0]))))),[r 2,r 3]⟩
theorem c32:P 32=some C32:=by kernel_rfl
def GuG:Gj:=⟨29,0,T [e 4 (.Km (c .nilPtr)),n 5 0] (S (T [m 6 0,bk 7 .lss 6 1,m 8 7,gf 8 (m 9 0),gf 8 (bk 10 .gtr 9 4096),or 11 8 10,m 12 11,gf 12 (e 13 (.buildSlice 1 [i 0,i 0,i 0,i 0] 4 [(0,1,k 1),(1,1,k 2),(2,1,k 4),(3,1,k 8)])),gf 12 (m 14 1),gf 12 (q2 15 54 13 14),gf 12 (no 16 15),or 17 12 16] (I 17 (Q [e 4 (.Km (c .nilPtr)),n 5 1]))) (Q [m 18 0,m 19 1,m 20 0,m 21 1,b 22 .mul 20 21,bk 23 .add 22 64,bk 24 .sub 23 1,bk 25 .quo 24 64,e 26 (.makeSlice 1 [.int .u64 0] (t 25) (t 25)),e 27 (.build [i 0,i 0,.Gd] [(0,1,t 18),(1,1,t 19),(2,1,t 26)]),bo 28 27,m 4 28,n 5 0])),[r 4,r 5]⟩
theorem Gsj:P 115=some GuG:=by kernel_rfl
end Go.Cs.Tryz
namespace Go.Cs
open Go
def Hp.new(n:Nat):Hp:=⟨List.replicate n (0,0),[],0,[]⟩
theorem Hp.EN{n:Nat}(h:2≤n∧n≤64):(Hp.new n).Ok where
 nb:=by simpa[Hp.new]using h
 st:=fun x hx=>by rw[(List.mem_replicate.1 hx).2];decide
 ob:=fun o ho=>by cases ho
 apart:=.nil
 ids:=.nil
 born:=by simp[Hp.new]
theorem Zp:∀n:Nat,(List.replicate n [CV.int .i64 0,CV.int .i64 0]).flatten=Gy (List.replicate n (0,0))
 |0=>rfl
 |n+1=>by
  rw[List.replicate_succ,List.flatten_cons,Zp n,List.replicate_succ];rfl
theorem Gef:∀n:Nat,(List.replicate n [CV.int .i64 0]).flatten=(List.range n).map (fun _=>CV.i 0):=fun n=>by
 have h1:(List.replicate n [CV.int .i64 0]).flatten=List.replicate n (CV.i 0):=by
  simp_all
 rw[h1]
 refine List.ext_getElem? fun i=>?_
 grind
end Go.Cs
namespace Go.Cs.Tryz
open Go Go.Cs
section
variable {H : Gb}
theorem Ga0{n:Nat}(h0:0<n)(h1:n≤4096):∃b wb H',run P 115 [.i n,.i 1] H=some (.Jj [.ptr b 0,.i 0],H')∧Gr H H'∧H.length≤b∧H.length≤wb∧b≠wb∧Side H' b wb n fun _=>false:=by
 have c0:¬((n:Int)<1):=by omega
 have c1:¬((4096:Int)<(n:Int)):=by omega
 have hs:Ur (H++[⟨[.i 1,.i 2,.i 4,.i 8],.rw,1⟩]) (.slice H.length 0 4 4 1 false) [1,2,4,8]:=
  .inr ⟨H.length,0,4,false,⟨[.i 1,.i 2,.i 4,.i 8],.rw,1⟩,rfl,sM,.inl rfl,fun i r h=>by
   match i,h with
   |0,h=>simp[KP]at h;subst h;simp
   |1,h=>simp[KP]at h;subst h;simp
   |2,h=>simp[KP]at h;subst h;simp
   |3,h=>simp[KP]at h;subst h;simp
   |i+4,h=>simp[KP]at h⟩
 have hc:=contains hs 1 sM
 have ec:([1,2,4,8].any fun x=>(1:Int)==x)=true:=rfl
 rw[ec]at hc
 have w1:IntKind.i64.wrap ((n:Int))=(n:Int):=wrapN oM
 have w2:IntKind.i64.wrap ((n:Int)+64)=((n+64:Nat):Int):=Gg oM
 have w3:IntKind.i64.wrap (((n+64:Nat):Int)-1)=((n+63:Nat):Int):=by rw[Gg oM];omega
 have e1:((n+63:Nat):Int).tdiv 64=((Vq n:Nat):Int):=KN _ 64
 have hwl:Vq n≤100:=by unfold Vq;omega
 have w4:IntKind.i64.wrap ((Vq n:Nat):Int)=((Vq n:Nat):Int):=Gg oM
 have hfl:∀m:Nat,(List.replicate m [CV.int .u64 0]).flatten=(List.replicate m 0).map (fun(m:Nat)=>CV.int .u64 m):=fun m=>by
  simp_all
 have hmk:=ZV (H:=H++[⟨[.i 1,.i 2,.i 4,.i 8],.rw,1⟩]) (GN:=1) (z:=[.int .u64 0]) (l:=((Vq n:Nat):Int)) (c:=((Vq n:Nat):Int)) oM
 rw[Kt,hfl]at hmk
 refine⟨H.length+2,H.length+1,H++[⟨[.i 1,.i 2,.i 4,.i 8],.rw,1⟩]++[⟨(List.replicate (Vq n) 0).map (fun(m:Nat)=>CV.int .u64 m),.rw,1⟩]++[⟨[.i n,.i 1,.slice (H.length+1) 0 (Vq n) (Vq n) 1 false],.rw,0⟩],?_,((Gr.app H _).app' _).app' _,oM,oM,oM,⟨sM,⟨List.replicate (Vq n) 0,sM,?_,sM,?_⟩,h0,h1⟩⟩
 ·rw[Gh Gsj _ _ sM]
  exact V13 c0 c1 @JO @Jc hc @Int.mul_one w1 w2 w3 e1 w4 @Ji hmk
 ·grind
 grind
theorem Xm(n:Int)(h:2≤n∧n≤64):∃hb H' L,run P 32 [.i n] H=some (.Jj [.ptr hb 0,.i 0],H')∧Gr H H'∧PH H' hb (Hp.new n.toNat) L∧∀c∈L.all hb,H.length≤c:=by
 obtain⟨n,rfl⟩:∃q:Nat,n=q:=⟨n.toNat,oM⟩
 have c0:¬((n:Int)<2):=by omega
 have c1:¬((64:Int)<(n:Int)):=by omega
 have w1:IntKind.i64.wrap ((n:Int)*64)=((64*n:Nat):Int):=by rw[Gg oM];omega
 have m1:=Uy (GN:=2) (z:=[CV.int .i64 0,CV.int .i64 0]) (l:=(n:Int)) (c:=(n:Int)) oM
 have m2:=Uy (GN:=1) (z:=[CV.int .i64 0]) (l:=((64*n:Nat):Int)) (c:=((64*n:Nat):Int)) oM
 rw[Kt]at m1 m2
 rw[Zp]at m1
 rw[Gef]at m2
 rw[Gh c32 _ _ sM]
 have w2:IntKind.i64.wrap ((32*n:Nat):Int)=((32*n:Nat):Int):=Gg oM
 have e2:((64*n:Nat):Int).tdiv 2=((32*n:Nat):Int):=by grind
 obtain⟨X,hX⟩:∃X:Gb,X=H++[⟨Gy (List.replicate n (0,0)),.rw,2⟩]++[⟨(List.range (64*n)).map (fun _=>CV.i 0),.rw,1⟩]++[⟨[],.map,0⟩]++[⟨[],.map,0⟩]++[⟨[.slice H.length 0 n n 2 false,.slice (H.length+1) 0 (64*n) (64*n) 1 false,.nilPtr,.nilPtr,.GJ (H.length+1+1),.GJ (H.length+1+1+1),.int .i64 0],.rw,0⟩]:=⟨_,rfl⟩
 have lX:X.length=H.length+5:=by rw[hX];simp
 have gX:Gr H X:=by rw[hX];exact((((Gr.app H _).app' _).app' _).app' _).app' _
 have tX:X[H.length+4]?=some ⟨[.slice H.length 0 n n 2 false,.slice (H.length+1) 0 (64*n) (64*n) 1 false,.nilPtr,.nilPtr,.GJ (H.length+1+1),.GJ (H.length+1+1+1),.int .i64 0],.rw,0⟩:=by rw[hX];simp
 have x0:X[H.length]?=some ⟨Gy (List.replicate n (0,0)),.rw,2⟩:=by rw[hX];simp
 have x1:X[H.length+1]?=some ⟨(List.range (64*n)).map (fun _=>CV.i 0),.rw,1⟩:=by rw[hX];simp
 have x2:X[H.length+2]?=some ⟨[],.map,0⟩:=by rw[hX];simp
 have x3:X[H.length+3]?=some ⟨[],.map,0⟩:=by rw[hX];simp
 obtain⟨b1,wb1,H1,r1,g1,l1,l2,ne1,s1⟩:=Ga0 (H:=X) (n:=32*n) oM oM
 have t1:=g1.get tX
 obtain⟨Y,hY⟩:∃Y:Gb,Y=H1.set (H.length+4) ⟨[.slice H.length 0 n n 2 false,.slice (H.length+1) 0 (64*n) (64*n) 1 false,.ptr b1 0,.nilPtr,.GJ (H.length+1+1),.GJ (H.length+1+1+1),.int .i64 0],.rw,0⟩:=⟨_,rfl⟩
 have kY:Keeps X Y (·=H.length+4):=by rw[hY];exact Keeps.set (w:=fun c=>c=H.length+4) (g1.weaken fun c h=>h.elim) (.inl rfl) _
 have lY:Y.length=H1.length:=by rw[hY];simp
 have tY:Y[H.length+4]?=some ⟨[.slice H.length 0 n n 2 false,.slice (H.length+1) 0 (64*n) (64*n) 1 false,.ptr b1 0,.nilPtr,.GJ (H.length+1+1),.GJ (H.length+1+1+1),.int .i64 0],.rw,0⟩:=by grind
 obtain⟨w1',-,-,e1',-⟩:=s1.ws
 have lb1:=Gf s1.st
 have lw1:=Gf e1'
 have s1Y:Side Y b1 wb1 (32*n) fun _=>false:=s1.frame (by rw[hY,KV oM]) (by rw[hY,KV oM])
 obtain⟨b2,wb2,H2,r2,g2,l3,l4,ne2,s2⟩:=Ga0 (H:=Y) (n:=32*n) oM oM
 have t2:=g2.get tY
 have kXY:=g1.len
 obtain⟨Z,hZ⟩:∃Z:Gb,Z=H2.set (H.length+4) ⟨[.slice H.length 0 n n 2 false,.slice (H.length+1) 0 (64*n) (64*n) 1 false,.ptr b1 0,.ptr b2 0,.GJ (H.length+1+1),.GJ (H.length+1+1+1),.int .i64 0],.rw,0⟩:=⟨_,rfl⟩
 have kZ:Keeps Y Z (·=H.length+4):=by rw[hZ];exact Keeps.set (w:=fun c=>c=H.length+4) (g2.weaken fun c h=>h.elim) (.inl rfl) _
 have kXZ:Keeps X Z (·=H.length+4):=kY.trans kZ
 have tZ:Z[H.length+4]?=some ⟨[.slice H.length 0 n n 2 false,.slice (H.length+1) 0 (64*n) (64*n) 1 false,.ptr b1 0,.ptr b2 0,.GJ (H.length+1+1),.GJ (H.length+1+1+1),.int .i64 0],.rw,0⟩:=by grind
 have s1Z:Side Z b1 wb1 (32*n) fun _=>false:=s1Y.frame (kZ.keep _ oM oM) (kZ.keep _ oM oM)
 have s2Z:Side Z b2 wb2 (32*n) fun _=>false:=s2.frame (by rw[hZ,KV oM]) (by rw[hZ,KV oM])
 refine⟨H.length+4,Z,⟨H.length,H.length+1,b1,wb1,b2,wb2,H.length+2,H.length+3⟩,?_,?_,?_,?_⟩
 ·refine W11 c0 c1 @O1 w1 m1 m2 @Gfd @Gdy (show∀b,cellsOf (.GJ b)=[.GJ b]from fun _=>rfl) @JO @Jc ?_
  rw[←hX]
  have hl4:H.length+1+1+1+1=H.length+4:=rfl
  rw[hl4]
  rw[hY]at tY r2
  rw[hZ]at tZ
  simp(disch:=first|exact dz|fail) only[simprocAttr,Gs,↓reduceIte,t1,tY,t2,Ji,e2,w2,UK,r1,r2,←hZ]
 ·exact gX.news (kXZ.weaken fun c h=>by omega)
 ·have zero:∀w,(Hp.new n).word w=0:=fun w=>rfl
  have hbl:(Hp.new n).blk.length=n:=by simp[Hp.new]
  have hnw:(Hp.new n).nw=64*n:=by unfold Hp.nw;rw[hbl]
  have kk:∀c,c<H.length+4→Z[c]?=X[c]?:=fun c h=>kXZ.keep c oM oM
  rw[Kt]
  refine⟨?_,?_,?_,?_,?_,?_,?_,?_⟩
  ·rw[hbl,hnw];exact tZ
  ·exact(kk H.length oM).trans x0
  ·simp_all
  ·rw[hbl];exact s1Z
  ·rw[hbl];exact s2Z
  ·exact⟨[],(kk (H.length+2) oM).trans x2,sM,fun k v=>by simp[Hp.new]⟩
  ·exact⟨[],(kk (H.length+3) oM).trans x3,sM,fun k v=>by simp[Hp.new]⟩
  ·simp only[G5.all,List.nodup_cons,List.mem_cons,List.not_mem_nil,or_false,not_or,not_false_eq_true,and_true,List.nodup_nil]
   omega
 ·intro c hc
  simp only[G5.all,List.mem_cons,List.not_mem_nil,or_false]at hc
  omega
end
end Go.Cs.Tryz
namespace Go.Cs.Tryz
open Go Go.Cs A
def C41:Gj:=⟨24,0,T [e 4 (.new [i 0,i 0,i 0]),n 5 0] (S (T [m 7 0,m 8 1,q2 9 122 7 8,m 6 9] (T [m 10 6,bk 11 .neq 10 0] (I 11 (Q [e 12 (.build [i 0,i 0,i 0] []),m 13 6,st 3 4 12,m 5 13])))) (S (D [⟨m 18 0,4,0,0⟩,⟨m 19 1,5,0,0⟩,⟨q2 20 87 18 19,6,3,0⟩,⟨m 14 0,0,0,0⟩,⟨z 15 14,1,0,0⟩,⟨f 16 1 15,2,0,0⟩,⟨l 17 1 16,3,1,0⟩,⟨x 21 8 17 20,7,0,1⟩,⟨f 22 2 21,8,0,1⟩,⟨lg 23 3 22,9,1,1⟩,⟨st 3 4 23,10,3,1⟩,⟨n 5 0,11,0,2⟩]) .ret)),[.cell 4 true 3,r 5]⟩
theorem c41:P 41=some C41:=by kernel_rfl
def C68:Gj:=⟨13,0,T [nb 2 false] (Q [m 3 0,e 4 (.eqv true 1 (t 3) (c .nilPtr)),m 5 4,gt 5 (m 6 0),gt 5 (z 7 6),gt 5 (f 8 0 7),gt 5 (l 9 1 8),gt 5 (le 10 9),gt 5 (bk 11 .gtr 10 0),an 12 5 11,m 2 12]),[r 2]⟩
theorem c68:P 68=some C68:=by kernel_rfl
abbrev Gdg:Gn:=S (T [m 9 5,m 10 0,z 11 10,f 12 1 11,l 13 1 12,le 14 13,b 15 .lss 9 14] (J 15 (X 0))) (S (B 1 (T [m 18 0,z 19 18,f 20 1 19,l 21 1 20,m 22 5,x 23 8 21 22,f 24 0 23,l 25 1 24,m 26 1,b 27 .eql 25 26] (I 27 (Q [m 28 5,m 4 28])))) (R [m 16 5,bk 17 .add 16 1,m 5 17]))
def C87:Gj:=⟨29,0,T [n 4 0] (S (T [m 6 0,q1 7 68 6,no 8 7] (I 8 (Q [n 4 (-1)]))) (S (T [n 5 0] (B 0 (W Gdg))) (Q [n 4 (-1)]))),[r 4]⟩
theorem c87:P 87=some C87:=by kernel_rfl
def GtJ:Gj:=⟨12,0,T [n 4 0] (S (T [m 5 0,q1 6 68 5,no 7 6] (I 7 (Q [n 4 5]))) (S (T [m 8 0,m 9 1,q2 10 87 8 9,bk 11 .lss 10 0] (I 11 (Q [n 4 4]))) (Q [n 4 0]))),[r 4]⟩
theorem GrG:P 122=some GtJ:=by kernel_rfl
def Grj:Gj:=⟨9,0,T [nb 4 false] (Q [m 5 0,m 6 1,q2 7 87 5 6,bk 8 .geq 7 0,m 4 8]),[r 4]⟩
theorem Gu1:P 179=some Grj:=by kernel_rfl
end Go.Cs.Tryz
namespace Go.Cs
open Go
structure NG where
 bv:CV
 ov:CV
 fv:CV
 hv:Nat→CV×CV
def Gt(hv:Nat→CV×CV)(o:Ob):List CV:=[.i o.addr,.i o.id,.i o.refs.length,.i o.data.length,.i o.kd,(hv o.id).1,(hv o.id).2,.bool o.pin]
def Gu(hv:Nat→CV×CV)(l:List Ob):List CV:=l.flatMap (Gt hv)
theorem GY{hv:Nat→CV×CV}{o:Ob}{l:List Ob}:Gu hv (o::l)=Gt hv o++Gu hv l:=rfl
theorem YV{hv:Nat→CV×CV}{l k:List Ob}:Gu hv (l++k)=Gu hv l++Gu hv k:=by simp[Gu]
theorem Qc(hv:Nat→CV×CV)(l:List Ob):(Gu hv l).length=l.length*8:=by
 induction l with
 |nil=>rfl
 |cons x l ih=>rw[GY,Qi,ih,List.length_cons];simp[Gt];omega
theorem U0(hv:Nat→CV×CV):∀(l:List Ob)(j:Nat)(x:Ob),l[j]?=some x→(Gu hv l).drop (j*8)=Gt hv x++(Gu hv l).drop ((j+1)*8)
 |[],j,x,h=>by simp at h
 |y::l,0,x,h=>by
  simp only[List.getElem?_cons_zero,GA]at h
  subst h;rfl
 |y::l,j+1,x,h=>by
  simp only[List.getElem?_cons_succ]at h
  have ih:=U0 hv l j x h
  have e1:(j+1)*8=8+j*8:=by omega
  have e2:(j+1+1)*8=8+(j+1)*8:=by omega
  have e3:∀i,(Gu hv (y::l)).drop (8+i)=(Gu hv l).drop i:=fun i=>by rw[←List.drop_drop];rfl
  grind
theorem JU{hv:Nat→CV×CV}{l:List Ob}{j:Nat}{x:Ob}(h:l[j]?=some x) {i:Nat} {v:CV} (hi:(Gt hv x)[i]?=some v):(Gu hv l)[j*8+i]?=some v:=by
 have:=congrArg (fun r=>r[i]?) (U0 hv l j x h)
 grind
theorem QH{hv:Nat→CV×CV}{l:List Ob}{j:Nat}{x:Ob}(h:l[j]?=some x):((Gu hv l).drop (j*8)).take 8=Gt hv x:=by
 rw[U0 hv l j x h];simp[Gt]
structure J3(o:Tags)(H:Gb)(rb:Nat)(s:Hp)(L:NG):Prop where
 dom:∀c t,o c=some t→c<H.length
 top:o rb=some (0,0,0)
 cells:H[rb]?=some ⟨[L.bv,L.ov,L.fv,.i s.born],.rw,0⟩
 fv:leaf L.fv=true
 blk:At o (0,1,0) H L.bv 2 s.blk.length (Gy s.blk)
 objs:At o (0,2,0) H L.ov 8 s.objs.length (Gu L.hv s.objs)
 refs:∀x∈s.objs,At o (0,3,x.id) H (L.hv x.id).1 1 x.refs.length (ints x.refs)∧At o (0,4,x.id) H (L.hv x.id).2 1 x.data.length (ints x.data)
theorem J3.frame{o o':Tags}{H H':Gb}{rb:Nat}{s:Hp}{L:NG}(m:J3 o H rb s L)(hd:∀c t,o' c=some t→c<H'.length)(ho:∀c t,o c=some t→o' c=some t)(hf:∀c t,o c=some t→H'[c]?=H[c]?):J3 o' H' rb s L where
 dom:=hd
 top:=ho _ _ m.top
 cells:=by rw[hf _ _ m.top,m.cells]
 fv:=m.fv
 blk:=m.blk.frame (fun c=>ho c _) (fun c=>hf c _)
 objs:=m.objs.frame (fun c=>ho c _) (fun c=>hf c _)
 refs:=fun x h=>⟨(m.refs x h).1.frame (fun c=>ho c _) (fun c=>hf c _),(m.refs x h).2.frame (fun c=>ho c _) (fun c=>hf c _)⟩
theorem J3.gr{o:Tags}{H H':Gb}{rb:Nat}{s:Hp}{L:NG}(m:J3 o H rb s L)(g:Gr H H'):J3 o H' rb s L:=
 m.frame (fun c t h=>J6 (m.dom c t h) g.len) (fun _ _ h=>h) (fun c t h=>g.keep c (m.dom c t h) fun h=>h)
structure KW(o:Tags)(H:Gb)(o':Tags)(H':Gb):Prop where
 len:H.length≤H'.length
 tag:∀c,c<H.length→o' c=o c
 keep:∀c,c<H.length→o c=none→H'[c]?=H[c]?
theorem KW.trans{o o' o'':Tags}{H H' Da:Gb}(a:KW o H o' H')(b:KW o' H' o'' Da):KW o H o'' Da where
 len:=J2 a.len b.len
 tag:=fun c h=>by rw[b.tag c (J6 h a.len),a.tag c h]
 keep:=fun c h hn=>by rw[b.keep c (J6 h a.len) (by rw[a.tag c h,hn]),a.keep c h hn]
theorem KW.gr{o:Tags}{H H':Gb}(g:Gr H H'):KW o H o H':=⟨g.len,fun _ _=>rfl,fun c h _=>g.keep c h fun h=>h⟩
theorem KW.keeps{o o':Tags}{H H':Gb}(a:KW o H o' H'):Keeps H H' (fun c=>o c≠none):=
 ⟨a.len,fun c h hn=>a.keep c h (by grind)⟩
def Am(o:Tags)(H:Gb)(rb:Nat)(s':Hp)(v:CV)(r:Option (CV×Gb)):Prop:=
 ∃H' o' L',r=some (v,H')∧J3 o' H' rb s' L'∧KW o H o' H'
def Hp.idx(s:Hp)(a:Int):Nat:=s.objs.findIdx fun o=>(o.addr:Int)==a
def Hp.KC(s:Hp)(a:Int):Int:=if s.has a then s.idx a else -1
theorem Hp.Q_{s:Hp}{a:Int}{x:Ob}(h:s.obj a=some x):s.objs[s.idx a]?=some x:=by
 unfold Hp.obj at h
 unfold Hp.idx
 generalize s.objs=l at h⊢
 induction l with
 |nil=>cases h
 |cons y l ih=>
  grind
end Go.Cs
namespace Go.Cs.Tryz
open Go Go.Cs
section
variable {H : Gb} {o : Tags} {rb : Nat} {s : Hp} {L : NG}
theorem Nt(m:J3 o H rb s L)(k:s.Ok):run P 68 [.ptr rb 0] H=some (.bool true,H):=by
 have h:=m.cells
 have hl:=m.blk.len H
 have hp:(0:Int)<(s.blk.length:Int):=by have:=k.nb;omega
 rw[Gh c68 _ _ sM]
 exact W0
theorem J3.row(m:J3 o H rb s L){j:Nat}{x:Ob}(h:s.objs[j]?=some x):
  ∃b n tl,L.ov=.slice b 0 n n 8 tl∧n=s.objs.length∧H[b]?=some ⟨Gu L.hv s.objs,.rw,8⟩∧o b=some (0,2,0)∧((0:Int)≤(j:Int)∧(j:Int)<(n:Int))∧j*8+8≤(Gu L.hv s.objs).length:=by
 have hj:=Gf h
 obtain⟨tl,e1,e2,e3,e4⟩:=m.objs.pos oM
 grind
theorem Gkz(m:J3 o H rb s L){a:Int}(hf:s.objs.length≤100000){E0:Env}(h0:E0 0=.ptr rb 0)(h1:E0 1=.i a)(h5:E0 5=.i 0){r:Option (CX×Env×Gb)}(hr:den P (.loop Gdg) E0 H=r):
  ∃x E',r=some (x,E',H)∧((x=.ret∧E' 4=.i (s.idx a)∧s.has a=true)∨(x=.exit 0∧s.has a=false)):=by
 have hc:=m.cells
 obtain⟨x',E',H',e,-,⟨rfl,h⟩,fr⟩:=Gq (p:=P) (c:=Gdg) (E0:=E0) (H0:=H)
  (fun q E H'=>H'=H∧∃j:Nat,E 5=.i j∧j≤s.objs.length∧q=s.objs.length-j∧∀i y,i<j→s.objs[i]?=some y→(y.addr:Int)≠a)
  (fun x E' H'=>H'=H∧((x=.ret∧E' 4=.i (s.idx a)∧s.has a=true)∨(x=.exit 0∧s.has a=false))) (by
   rintro q E H' hE ⟨rfl,j,e5,hj,rfl,hn⟩
   have e0:=(hE 0 dK).trans h0
   have e1:=(hE 1 dK).trans h1
   have hl:=m.objs.len H'
   by_cases c:j<s.objs.length
   ·have hx:s.objs[j]?=some s.objs[j]:=Jr c
    have c':decide ((j:Int)<(s.objs.length:Int))=true:=Gz oM
    have w1:IntKind.i64.wrap ((j:Int)+1)=((j+1:Nat):Int):=Gg oM
    obtain⟨b,n,tl,q1,q2,q3,q4,q5,q6⟩:=J3.row m hx
    have q7:=JU (hv:=L.hv) hx (i:=0) (v:=.i (s.objs[j]).addr) rfl
    rw[Nat.add_zero]at q7
    rw[q1]at hc hl
    by_cases ha:((s.objs[j]).addr:Int)=a
    ·apply Gi (x:=.ret)
     ·refine W9 e0 e1 e5 hc hl c' q3 q7 (Glc ha) ?_
      rfl
     ·simp
     ·refine⟨rfl,.inl ⟨rfl,?_,?_⟩⟩
      ·have:s.idx a=j:=by
        unfold Hp.idx
        rw[List.findIdx_eq c]
        grind
       rw[this]
       simp[Gc]
      ·unfold Hp.has
       grind
    ·apply Gm (k':=s.objs.length-(j+1))
     ·refine W10 e0 e1 e5 hc hl c' q3 q7 (GkR ha) w1 ?_
      rfl
     ·omega
     ·refine⟨rfl,j+1,uA,oM,rfl,fun i y hi hy=>?_⟩
      grind
   ·have c':decide ((j:Int)<(s.objs.length:Int))=false:=Gw oM
    apply Gi (x:=.exit 0)
    ·refine Jb ?_
     rfl
    ·simp
    ·refine⟨rfl,.inr ⟨rfl,?_⟩⟩
     rw[←Bool.not_eq_true]
     unfold Hp.has
     rw[List.any_eq_true]
     rintro ⟨y,hy,hh⟩
     obtain⟨i,hi,rfl⟩:=List.getElem_of_mem hy
     exact hn i _ oM (Jr hi) (by simpa using hh)) _ ⟨rfl,0,h5,oM,rfl,fun i y hi=>by omega⟩
 exact⟨x',E',hr.symm.trans e,h⟩
theorem KR(m:J3 o H rb s L)(k:s.Ok)(a:Int):run P 87 [.ptr rb 0,.i a] H=some (.i (s.KC a),H):=by
 have h1:=Nt m k
 have hf:=k.few
 rw[Gh c87 _ _ sM]
 refine Jb ?_
 generalize hr:den P (.loop Gdg) _ _=r
 obtain⟨x,E',rfl,hp⟩:=Gkz m (a:=a) oM uA uA uA hr
 unfold Hp.KC
 rcases hp with⟨rfl,h2,h3⟩|⟨rfl,h3⟩
 ·exact W0
 ·exact W0
theorem IB(m:J3 o H rb s L)(k:s.Ok)(a:Int):run P 179 [.ptr rb 0,.i a] H=some (.bool (s.has a),H):=by
 have h1:=KR m k a
 rw[Gh Gu1 _ _ sM]
 unfold Hp.KC at h1
 cases h:s.has a with
 |true=>
  rw[h,if_pos rfl]at h1
  have c:decide ((0:Int)≤(s.idx a:Int))=true:=Gz oM
  exact W0
 |false=>
  rw[h,if_neg sM]at h1
  exact W0
theorem Yw(m:J3 o H rb s L)(k:s.Ok)(a:Int):run P 122 [.ptr rb 0,.i a] H=some (.i (if s.has a then 0 else 4),H):=by
 have h0:=Nt m k
 have h1:=KR m k a
 rw[Gh GrG _ _ sM]
 unfold Hp.KC at h1
 cases h:s.has a with
 |true=>
  rw[h,if_pos rfl]at h1
  have c:decide ((s.idx a:Int)<0)=false:=Gw oM
  exact W0
 |false=>
  rw[h,if_neg sM]at h1
  exact W0
theorem GeC(m:J3 o H rb s L)(k:s.Ok)(a:Int):∃H',run P 41 [.ptr rb 0,.i a] H=some (.Jj [.agg (s.JI a).1,.i (s.JI a).2],H')∧Gr H H':=by
 have m':=m.gr (Gr.app H [⟨GX 0 0 0,.rw,0⟩])
 have h0:=Yw m' k a
 have h1:=KR m' k a
 have hc:=m'.cells
 unfold Hp.KC at h1
 unfold Hp.JI
 cases e:s.obj a with
 |none=>
  have h:=Hp.J_.2 e
  rw[h]at h0
  refine⟨H++[⟨GX 0 0 0,.rw,0⟩],?_,Gr.app H _⟩
  rw[Gh c41 _ _ sM]
  unfold GX at h0⊢
  exact W0
 |some x=>
  have h:=Hp.J4.2 ⟨x,e⟩
  rw[h]at h0 h1
  rw[if_pos rfl]at h1
  have hx:=Hp.Q_ e
  obtain⟨b,n,tl,q1,q2,q3,q4,q5,q6⟩:=J3.row m' hx
  have q7:Ba (some ⟨Gu L.hv s.objs,.rw,8⟩) (s.idx a*8+2) 3=some (GX x.refs.length x.data.length x.kd):=by
   rw[Qg,if_pos oM]
   rw[←List.drop_drop,U0 L.hv s.objs _ x hx];rfl
  rw[q1]at hc
  refine⟨H++[⟨GX x.refs.length x.data.length x.kd,.rw,0⟩],?_,Gr.app H _⟩
  rw[Gh c41 _ _ sM]
  unfold GX at h0 h1 hc q3 q7⊢
  exact W0
end
end Go.Cs.Tryz
namespace Go.Cs.Tryz
open Go Go.Cs A
def C13:Gj:=⟨29,0,T [n 4 0] (S (T [m 5 0,q1 6 68 5,no 7 6,m 8 7,gf 8 (m 9 1),gf 8 (bk 10 .lss 9 0),or 11 8 10,m 12 11,gf 12 (m 13 1),gf 12 (m 14 0),gf 12 (z 15 14),gf 12 (f 16 0 15),gf 12 (l 17 1 16),gf 12 (le 18 17),gf 12 (b 19 .geq 13 18),or 20 12 19] (I 20 (Q [n 4 (-1)]))) (Q [m 21 0,z 22 21,f 23 0 22,l 24 1 23,m 25 1,x 26 2 24 25,f 27 0 26,l 28 1 27,m 4 28])),[r 4]⟩
theorem c13:P 13=some C13:=by kernel_rfl
def C14:Gj:=⟨29,0,T [n 4 0] (S (T [m 5 0,q1 6 68 5,no 7 6,m 8 7,gf 8 (m 9 1),gf 8 (bk 10 .lss 9 0),or 11 8 10,m 12 11,gf 12 (m 13 1),gf 12 (m 14 0),gf 12 (z 15 14),gf 12 (f 16 0 15),gf 12 (l 17 1 16),gf 12 (le 18 17),gf 12 (b 19 .geq 13 18),or 20 12 19] (I 20 (Q [n 4 (-1)]))) (Q [m 21 0,z 22 21,f 23 0 22,l 24 1 23,m 25 1,x 26 2 24 25,f 27 1 26,l 28 1 27,m 4 28])),[r 4]⟩
theorem c14:P 14=some C14:=by kernel_rfl
def GrU:Gj:=⟨36,0,T [n 6 0] (S (T [m 7 0,q1 8 68 7,no 9 8] (I 9 (Q [n 6 5]))) (S (T [m 10 0,m 11 1,q2 12 259 10 11,no 13 12,m 14 13,gf 14 (m 15 2),gf 14 (q1 16 260 15),gf 14 (no 17 16),or 18 14 17] (I 18 (Q [n 6 1]))) (S (T [m 19 0,z 20 19,f 21 0 20,l 22 1 21,m 23 1,x 24 2 22 23,f 25 0 24,l 26 1 25,bk 27 .neq 26 0] (I 27 (Q [n 6 8]))) (T [m 28 0,z 29 28,f 30 0 29,l 31 1 30,m 32 1,m 33 2,e 34 (.build [i 0,i 0] [(0,1,k 1),(1,1,t 33)]),x 35 2 31 32,st 2 35 34] (Q [n 6 0]))))),[r 6]⟩
theorem GjS:P 214=some GrU:=by kernel_rfl
def Gwp:Gj:=⟨11,0,T [n 2 0] (S (T [m 3 0,q1 4 68 3,no 5 4] (I 5 (Q [n 2 0]))) (Q [m 6 0,z 7 6,f 8 0 7,l 9 1 8,le 10 9,m 2 10])),[r 2]⟩
theorem Grv:P 245=some Gwp:=by kernel_rfl
def Gt3:Gj:=⟨16,0,T [nb 4 false] (Q [m 5 1,bk 6 .geq 5 1,m 7 6,gt 7 (m 8 1),gt 7 (m 9 0),gt 7 (z 10 9),gt 7 (f 11 0 10),gt 7 (l 12 1 11),gt 7 (le 13 12),gt 7 (b 14 .lss 8 13),an 15 7 14,m 4 15]),[r 4]⟩
theorem Gvp:P 259=some Gt3:=by kernel_rfl
def Gwc:Gj:=⟨9,0,T [nb 2 false] (Q [m 3 0,bk 4 .geq 3 0,m 5 4,gt 5 (m 6 0),gt 5 (bk 7 .lss 6 8),an 8 5 7,m 2 8]),[r 2]⟩
theorem Gsu:P 260=some Gwc:=by kernel_rfl
end Go.Cs.Tryz
namespace Go.Cs
open Go
def Hp.Fz(s:Hp):Prop:=∀x∈s.blk,x.1=0→x.2=0
theorem Hp.Fz.any{s:Hp}(f:s.Fz)(i n:Nat):((s.blk.drop i).take n).any (fun x=>x.1 != 0||x.2 != 0)=((s.blk.drop i).take n).any (fun x=>x.1 != 0):=by
 rw[Bool.eq_iff_iff,List.any_eq_true,List.any_eq_true]
 constructor
 ·rintro ⟨x,hx,h⟩
  refine⟨x,hx,?_⟩
  have hm:x∈s.blk:=List.mem_of_mem_drop (List.mem_of_mem_take hx)
  simp only[Bool.or_eq_true,bne_iff_ne]at h⊢
  intro h0
  have:=f x hm h0
  omega
 grind
theorem E_{l:List (Nat×Nat)}{b:Nat}{m x:Nat×Nat}:∀{k:Nat},x∈KA l b m k→x∈l∨x=m
 |0,h=>.inl h
 |k+1,h=>by
  rcases List.mem_or_eq_of_mem_set h with h|h
  ·exact E_ h
  ·exact .inr h
theorem Hp.Fz.claim{s:Hp}(f:s.Fz)(b n:Int){fst ZP:Nat}(sp:Int)(h1:fst≠0)(h2:ZP≠0∨n=1)(Av:Int):(s.claim b n fst sp ZP Av).1.Fz:=by
 unfold Hp.claim
 split
 ·rename_i hc
  split
  ·exact f
  ·intro x hx h0
   dsimp only at hx
   rcases h2 with h2|h2
   ·rcases List.mem_or_eq_of_mem_set hx with h|h
    ·rcases E_ h with h|h
     ·exact f x h h0
     ·subst h;exact absurd h0 h2
    ·subst h;exact absurd h0 h1
   ·subst h2
    have e:(KA s.blk b.toNat (ZP,Av.toNat) (Int.toNat 1)).set b.toNat (fst,sp.toNat)=s.blk.set b.toNat (fst,sp.toNat):=by
     simp[KA]
    rw[e]at hx
    rcases List.mem_or_eq_of_mem_set hx with h|h
    ·exact f x h h0
    ·subst h;exact absurd h0 h1
 ·exact f
theorem Hp.Ok.claim{s:Hp}(k:s.Ok)(b n:Int){fst ZP:Nat}(sp Av:Int)(h1:fst≤3)(h2:ZP≤3)(h3:Av=0∨Av=sp):(s.claim b n fst sp ZP Av).1.Ok:=by
 unfold Hp.claim
 split
 ·rename_i hc
  split
  ·exact k
  ·refine⟨by simp[Uj,k.nb],fun x hx=>?_,?_,k.apart,k.ids,k.born⟩
   ·rcases List.mem_or_eq_of_mem_set hx with h|h
    ·rcases E_ h with h|h
     ·exact k.st x h
     grind
    grind
   ·intro o ho
    have e:({s with blk:=(KA s.blk b.toNat (ZP,Av.toNat) n.toNat).set b.toNat (fst,sp.toNat)}:Hp).nw=s.nw:=by simp[Hp.nw,Uj]
    rw[e]
    exact k.ob o ho
 ·exact k
theorem J3.bv{o:Tags}{H:Gb}{rb:Nat}{s:Hp}{L:NG}(m:J3 o H rb s L)(hn:0<s.blk.length):
  ∃b tl,L.bv=.slice b 0 s.blk.length s.blk.length 2 tl∧o b=some (0,1,0)∧H[b]?=some ⟨Gy s.blk,.rw,2⟩:=by
 obtain⟨tl,e1,e2,e3,e4⟩:=m.blk.pos hn
 exact⟨_,tl,e1,e2,e3⟩
theorem J3.Gdd{o:Tags}{H H':Gb}{rb:Nat}{s:Hp}{L:NG}(m:J3 o H rb s L){b:Nat}{tl:Bool}(hv:L.bv=.slice b 0 s.blk.length s.blk.length 2 tl)(Yi:o b=some (0,1,0)){l:List (Nat×Nat)}(hl:l.length=s.blk.length)
  (hlen:H.length≤H'.length)(hw:H'[b]?=some ⟨Gy l,.rw,2⟩) (hk:∀c,c<H.length→c≠b→H'[c]?=H[c]?):J3 o H' rb {s with blk:=l} L:=by
 have old:∀c t,o c=some t→t≠(0,1,0)→H'[c]?=H[c]?:=fun c t h hn=>hk c (m.dom c t h) (by grind)
 refine⟨fun c t h=>J6 (m.dom c t h) hlen,m.top,?_,m.fv,?_,?_,?_⟩
 ·rw[old _ _ m.top sM,m.cells]
 ·exact .inr ⟨b,tl,by rw[hv];simp only[hl],Yi,hw,by have:=Qa l;simp only;omega⟩
 ·exact m.objs.frame (fun c h=>h) fun c h=>old c _ h sM
 ·exact fun x hx=>⟨(m.refs x hx).1.frame (fun c h=>h) fun c h=>old c _ h sM,(m.refs x hx).2.frame (fun c h=>h) fun c h=>old c _ h sM⟩
theorem J3.EJ{o:Tags}{H:Gb}{rb:Nat}{s:Hp}{L:NG}(m:J3 o H rb s L){b:Nat}{x:Nat×Nat}(h:b<s.blk.length){bb:Nat}{tl:Bool}(hv:L.bv=.slice bb 0 s.blk.length s.blk.length 2 tl)(Yi:o bb=some (0,1,0))(hbb:H[bb]?=some ⟨Gy s.blk,.rw,2⟩):
  Hl H bb (some ⟨Gy s.blk,.rw,2⟩) (b*2) [.i x.1,.i x.2]=some (H.set bb ⟨Gy (s.blk.set b x),.rw,2⟩)∧J3 o (H.set bb ⟨Gy (s.blk.set b x),.rw,2⟩) rb {s with blk:=s.blk.set b x} L:=by
 refine⟨?_,m.Gdd hv Yi sM sM (by grind) fun c _ hc=>by rw[KV (Ne.symm hc)]⟩
 rw[UD (by rw[Qa];simp;omega) rfl,Zo _ _ _ h]
theorem KW.set1{o:Tags}{H H':Gb}(g:KW o H o H'){b:Nat}{t:Tag}(h:o b=some t)(k:JE):KW o H o (H'.set b k):=
 ⟨by simpa using g.len,g.tag,fun c hc hn=>by rw[KV,g.keep c hc hn];rintro rfl;rw[h]at hn;cases hn⟩
theorem KW.refl{o:Tags}(H:Gb):KW o H o H:=⟨Nat.le_refl _,fun _ _=>rfl,fun _ _ _=>rfl⟩
end Go.Cs
namespace Go.Cs.Tryz
open Go Go.Cs
section
variable {H : Gb} {o : Tags} {rb : Nat} {s : Hp} {L : NG}
theorem Lr(m:J3 o H rb s L)(k:s.Ok):run P 245 [.ptr rb 0] H=some (.i s.blk.length,H):=by
 have h:=m.cells
 have h1:=Nt m k
 have hl:=m.blk.len H
 rw[Gh Grv _ _ sM]
 exact W0
theorem EH(m:J3 o H rb s L)(k:s.Ok)(b:Int):run P 13 [.ptr rb 0,.i b] H=some (.i (Hp.state s b),H):=by
 have h:=m.cells
 have h1:=Nt m k
 have hl:=m.blk.len H
 obtain⟨bb,tl,e1,e2,e3⟩:=m.bv (by have:=k.nb;omega)
 rw[e1]at h hl
 rw[Gh c13 _ _ sM]
 unfold Hp.state
 by_cases h0:0≤b
 ·rw[if_pos h0]
  obtain⟨n,rfl⟩:∃n:Nat,b=n:=⟨b.toNat,oM⟩
  by_cases hn:n<s.blk.length
  ·have hx:s.blk[n]?=some s.blk[n]:=Jr hn
   obtain⟨q1,q2⟩:=Kj s.blk n _ hx
   have c1:(0:Int)≤(n:Int)∧(n:Int)<(s.blk.length:Int):=by omega
   have c2:¬((n:Int)<0):=by omega
   have c3:¬((s.blk.length:Int)≤(n:Int)):=by omega
   exact W0
  ·have hx:s.blk[n]?=none:=lX9 oM
   have c2:¬((n:Int)<0):=by omega
   have c3:(s.blk.length:Int)≤(n:Int):=by omega
   exact W0
 ·rw[if_neg h0]
  have c2:b<0:=by omega
  exact W0
theorem Gfk(m:J3 o H rb s L)(k:s.Ok)(b:Int):run P 14 [.ptr rb 0,.i b] H=some (.i (Hp.space s b),H):=by
 have h:=m.cells
 have h1:=Nt m k
 have hl:=m.blk.len H
 obtain⟨bb,tl,e1,e2,e3⟩:=m.bv (by have:=k.nb;omega)
 rw[e1]at h hl
 rw[Gh c14 _ _ sM]
 unfold Hp.space
 by_cases h0:0≤b
 ·rw[if_pos h0]
  obtain⟨n,rfl⟩:∃n:Nat,b=n:=⟨b.toNat,oM⟩
  by_cases hn:n<s.blk.length
  ·have hx:s.blk[n]?=some s.blk[n]:=Jr hn
   obtain⟨q1,q2⟩:=Kj s.blk n _ hx
   have c1:(0:Int)≤(n:Int)∧(n:Int)<(s.blk.length:Int):=by omega
   have c2:¬((n:Int)<0):=by omega
   have c3:¬((s.blk.length:Int)≤(n:Int)):=by omega
   exact W0
  ·have hx:s.blk[n]?=none:=lX9 oM
   have c2:¬((n:Int)<0):=by omega
   have c3:(s.blk.length:Int)≤(n:Int):=by omega
   exact W0
 ·rw[if_neg h0]
  have c2:b<0:=by omega
  exact W0
theorem Rq(m:J3 o H rb s L)(b:Int):run P 259 [.ptr rb 0,.i b] H=some (.bool (decide (1≤b∧b<(s.blk.length:Int))),H):=by
 have h:=m.cells
 have hl:=m.blk.len H
 rw[Gh Gvp _ _ sM]
 by_cases c:1≤b
 ·refine Jb ?_
  simp[c]
 ·refine Jb ?_
  simp[c]
theorem Rx(n:Int):run P 260 [.i n] H=some (.bool (decide (0≤n∧n<8)),H):=by
 rw[Gh Gsu _ _ sM]
 by_cases c:0≤n
 ·refine Jb ?_
  simp[c]
 ·refine Jb ?_
  simp[c]
theorem GdC(m:J3 o H rb s L)(k:s.Ok)(f:s.Fz)(b sp:Int):Am o H rb (s.claim b 1 1 sp 0 0).1 (.i (s.claim b 1 1 sp 0 0).2) (run P 214 [.ptr rb 0,.i b,.i sp] H):=by
 have h:=m.cells
 have h1:=Nt m k
 have h2:=Rq m b
 have h3:=Rx (H:=H) sp
 obtain⟨bb,tl,e1,e2,e3⟩:=m.bv (by have:=k.nb;omega)
 rw[e1]at h
 unfold Hp.claim
 by_cases c:1≤b∧b<(s.blk.length:Int)
 ·rw[Gz c]at h2
  by_cases c2:0≤sp∧sp<8
  ·rw[Gz c2]at h3
   rw[if_pos oM]
   obtain⟨n,rfl⟩:∃n:Nat,b=n:=⟨b.toNat,oM⟩
   obtain⟨q,rfl⟩:∃n:Nat,sp=n:=⟨sp.toNat,oM⟩
   have hx:s.blk[n]?=some s.blk[n]:=Jr oM
   obtain⟨q1,q2⟩:=Kj s.blk n _ hx
   have c1:(0:Int)≤(n:Int)∧(n:Int)<(s.blk.length:Int):=by omega
   have hany:(((s.blk.drop ((n:Int)).toNat).take (1:Int).toNat).any fun x=>x.1 != 0||x.2 != 0)=((s.blk[n]'oM).1 != 0):=by
    rw[Kt,show(1:Int).toNat=1 from rfl,f.any,drop_cons hx,List.take_succ_cons,List.take_zero,List.any_cons,List.any_nil,Bool.or_false]
   rw[hany]
   by_cases c3:(s.blk[n]'oM).1=0
   ·have c4:((((s.blk[n]'oM).1:Nat):Int) != 0)=false:=by rw[c3];rfl
    rw[if_neg (by simp[c3])]
    obtain⟨st,mn⟩:=m.EJ (b:=n) (x:=(1,q)) oM e1 e2 e3
    refine⟨_,o,L,?_,?_,(KW.refl H).set1 e2 ⟨Gy (s.blk.set n (1,q)),.rw,2⟩⟩
    ·rw[Gh GjS _ _ sM]
     have:=show Hl H bb (some ⟨Gy s.blk,.rw,2⟩) (n*2) [.int .i64 1,.int .i64 (q:Int)]=_ from st;exact W0
    ·have e:(KA s.blk ((n:Int)).toNat (0,(0:Int).toNat) (1:Int).toNat).set ((n:Int)).toNat (1,((q:Int)).toNat)=s.blk.set n (1,q):=by simp[KA]
     rw[e];exact mn
   ·have c4:((((s.blk[n]'oM).1:Nat):Int) != 0)=true:=by simp;exact c3
    rw[if_pos (by simp[c3])]
    refine⟨H,o,L,?_,m,KW.refl H⟩
    rw[Gh GjS _ _ sM]
    exact W0
  ·rw[Gw c2]at h3
   rw[if_neg oM]
   refine⟨H,o,L,?_,m,KW.refl H⟩
   rw[Gh GjS _ _ sM]
   exact W0
 ·rw[Gw c]at h2
  rw[if_neg oM]
  refine⟨H,o,L,?_,m,KW.refl H⟩
  rw[Gh GjS _ _ sM]
  exact W0
end
end Go.Cs.Tryz
namespace Go.Cs.Tryz
open Go Go.Cs A
def C44:Gj:=⟨8,0,T [n 4 0] (Q [m 5 0,m 6 1,ca 7 134 [t 5,t 6,c (.bool true)],m 4 7]),[r 4]⟩
theorem c44:P 44=some C44:=by kernel_rfl
def GrE:Gj:=⟨6,0,T [bo 1 0,nb 2 false] (Q [lg 3 3 1,q1 4 190 3,bk 5 .gtr 4 32,m 2 5]),[r 2]⟩
theorem c117:P 117=some GrE:=by kernel_rfl
def Gse:Gj:=⟨8,0,T [bo 1 0,n 2 0] (Q [lg 3 3 1,q1 4 190 3,bk 5 .add 4 64,bk 6 .sub 5 1,bk 7 .quo 6 64,m 2 7]),[r 2]⟩
theorem c119:P 119=some Gse:=by kernel_rfl
def Gsl:Gj:=⟨56,0,T [n 8 0] (S (T [m 11 0,m 12 1,q2 13 122 11 12,m 9 13] (T [m 14 9,bk 15 .neq 14 0] (I 15 (Q [m 16 9,m 8 16])))) (T [m 17 0,m 18 1,q2 19 87 17 18,m 10 19] (S (T [m 20 2,bk 21 .lss 20 0,m 22 21,gf 22 (m 23 2),gf 22 (m 24 0),gf 22 (z 25 24),gf 22 (f 26 1 25),gf 22 (l 27 1 26),gf 22 (m 28 10),gf 22 (x 29 8 27 28),gf 22 (f 30 5 29),gf 22 (l 31 1 30),gf 22 (le 32 31),gf 22 (b 33 .geq 23 32),or 34 22 33,m 35 34,gf 35 (m 36 3),gf 35 (bk 37 .neq 36 0),gf 35 (m 38 37),gt 38 (m 39 0),gt 38 (m 40 3),gt 38 (q2 41 179 39 40),gt 38 (no 42 41),gf 35 (an 43 38 42),or 44 35 43] (I 44 (Q [n 8 1]))) (T [m 45 0,z 46 45,f 47 1 46,l 48 1 47,m 49 10,x 50 8 48 49,f 51 5 50,l 52 1 51,m 53 2,m 54 3,x 55 1 52 53,st 1 55 54] (Q [n 8 0]))))),[r 8]⟩
theorem c127:P 127=some Gsl:=by kernel_rfl
def Gv7:Gj:=⟨24,0,T [n 6 0] (S (T [m 8 0,m 9 1,q2 10 122 8 9,m 7 10] (T [m 11 7,bk 12 .neq 11 0] (I 12 (Q [m 13 7,m 6 13])))) (S (D [⟨m 18 0,4,0,0⟩,⟨m 19 1,5,0,0⟩,⟨q2 20 87 18 19,6,3,0⟩,⟨m 14 0,0,0,0⟩,⟨z 15 14,1,0,0⟩,⟨f 16 1 15,2,0,0⟩,⟨l 17 1 16,3,1,0⟩,⟨m 21 2,7,0,0⟩,⟨x 22 8 17 20,8,0,1⟩,⟨f 23 7 22,9,0,1⟩,⟨st 1 23 21,10,3,1⟩]) (Q [n 6 0]))),[r 6]⟩
theorem GnA:P 134=some Gv7:=by kernel_rfl
def Gut:Gj:=⟨17,0,T [bo 1 0,n 2 0] (S (T [lg 4 3 1,q1 5 215 4,no 6 5] (I 6 (Q [n 2 0]))) (T [f 7 0 1,l 8 1 7,e 9 (.bin .add (k 2) (t 8)),f 10 1 1,l 11 1 10,b 12 .add 9 11,m 3 12] (Q [m 13 3,m 14 3,bk 15 .rem 14 2,b 16 .add 13 15,m 2 16]))),[r 2]⟩
theorem Guy:P 190=some Gut:=by kernel_rfl
def GqD:Gj:=⟨36,0,T [bo 1 0,nb 2 false] (S (T [f 3 0 1,l 4 1 3,bk 5 .lss 4 0,m 6 5,gf 6 (f 7 0 1),gf 6 (l 8 1 7),gf 6 (bk 9 .gtr 8 15),or 10 6 9,m 11 10,gf 11 (f 12 1 1),gf 11 (l 13 1 12),gf 11 (bk 14 .lss 13 0),or 15 11 14,m 16 15,gf 16 (f 17 1 1),gf 16 (l 18 1 17),gf 16 (bk 19 .gtr 18 200),or 20 16 19] (I 20 (Q [nb 2 false]))) (S (T [f 21 2 1,l 22 1 21] (B 0 (S (T [bk 24 .eql 22 0,m 23 24] (J 23 (R [bk 25 .eql 22 3,m 23 25]))) (C 23 (Q [nb 2 true]) (T [bk 27 .eql 22 1,m 26 27] (C 26 (Q [f 28 0 1,l 29 1 28,bk 30 .geq 29 1,m 2 30]) (T [bk 32 .eql 22 2,m 31 32] (I 31 (Q [f 33 0 1,l 34 1 33,bk 35 .geq 34 2,m 2 35]))))))))) (Q [nb 2 false]))),[r 2]⟩
theorem GuD:P 215=some GqD:=by kernel_rfl
abbrev TT:Gn:=S (T [m 24 1,m 25 5,b 26 .add 24 25,m 27 0,z 28 27,f 29 0 28,l 30 1 29,le 31 30,b 32 .lss 26 31,m 33 32,gt 33 (m 34 0),gt 33 (z 35 34),gt 33 (f 36 0 35),gt 33 (l 37 1 36),gt 33 (m 38 1),gt 33 (m 39 5),gt 33 (b 40 .add 38 39),gt 33 (x 41 2 37 40),gt 33 (f 42 0 41),gt 33 (l 43 1 42),gt 33 (bk 44 .eql 43 3),an 45 33 44] (J 45 (X 0))) (B 1 (R [m 46 5,bk 47 .add 46 1,m 5 47]))
def GtU:Gj:=⟨49,0,T [n 4 0] (S (T [m 6 0,z 7 6,f 8 0 7,l 9 1 8,m 10 1,x 11 2 9 10,f 12 0 11,l 13 1 12,bk 14 .eql 13 1] (I 14 (Q [n 4 1]))) (S (T [m 15 0,z 16 15,f 17 0 16,l 18 1 17,m 19 1,x 20 2 18 19,f 21 0 20,l 22 1 21,bk 23 .neq 22 2] (I 23 (Q [n 4 0]))) (T [n 5 1] (S (B 0 (W TT)) (Q [m 48 5,m 4 48]))))),[r 4]⟩
theorem Gva:P 262=some GtU:=by kernel_rfl
end Go.Cs.Tryz
namespace Go.Cs
open Go
def Hp.whole(s:Hp)(b:Nat):Nat:=if s.Gx b=1 then 1 else if s.Gx b=2 then s.span b else 0
theorem D7{hv:Nat→CV×CV}:∀{l:List Ob}{j:Nat}{x y:Ob}{i:Nat}{v:CV},l[j]?=some x→i<8→(Gt hv x).set i v=Gt hv y→(Gu hv l).set (j*8+i) v=Gu hv (l.set j y)
 |[],j,x,y,i,v,h,_,_=>by simp at h
 |z::l,0,x,y,i,v,h,hi,e=>by
  simp only[List.getElem?_cons_zero,GA]at h
  subst h
  rw[List.set_cons_zero,GY,GY,Nat.zero_mul,Nat.zero_add,List.set_append_left _ _ (by simpa[Gt]using hi),e]
 |z::l,j+1,x,y,i,v,h,hi,e=>by
  simp only[List.getElem?_cons_succ]at h
  rw[List.set_cons_succ,GY,GY,List.set_append_right _ _ (by simp[Gt];omega)]
  have e2:(j+1)*8+i-(Gt hv z).length=j*8+i:=by simp[Gt];omega
  rw[e2,D7 h hi e]
theorem Hp.Ok.U8{s:Hp}(k:s.Ok){x y:Ob}(hx:x∈s.objs)(hy:y∈s.objs)(e:x.addr=y.addr):x=y:=by
 have h1:=x.size_pos
 have h2:=y.size_pos
 exact k.same hx hy (w:=x.addr) oM oM
theorem Jg{α:Type}{r:α→α→Prop}:∀{l:List α}{i j:Nat}{a b:α},l.Pairwise r→i<j→l[i]?=some a→l[j]?=some b→r a b
 |[],i,j,a,b,_,_,h,_=>by simp at h
 |x::l,0,j+1,a,b,hp,_,h1,h2=>by
  simp only[List.getElem?_cons_zero,GA,List.getElem?_cons_succ]at h1 h2
  rw[List.pairwise_cons]at hp
  grind
 |x::l,i+1,j+1,a,b,hp,hij,h1,h2=>by
  simp only[List.getElem?_cons_succ]at h1 h2
  rw[List.pairwise_cons]at hp
  exact Jg hp.2 oM h1 h2
theorem Hp.Ok.Tm{s:Hp}(k:s.Ok){i j:Nat}{x y:Ob}(hx:s.objs[i]?=some x) (hy:s.objs[j]?=some y) (e:x.addr=y.addr):i=j:=by
 rcases Nat.lt_trichotomy i j with h|h|h
 ·have:=Jg k.apart h hx hy
  have:=x.size_pos
  omega
 ·exact h
 ·have:=Jg k.apart h hy hx
  have:=y.size_pos
  omega
theorem Hp.Ok.GjF{s:Hp}(k:s.Ok){j:Nat}{x:Ob}(hx:s.objs[j]?=some x) (f:Ob→Ob):(s.upd x.addr f).objs=s.objs.set j (f x):=by
 refine List.ext_getElem? fun i=>?_
 show(s.objs.map _)[i]?=_
 rw[Kr,Ig]
 by_cases e:j=i
 ·grind
 ·rw[if_neg e]
  cases h:s.objs[i]? with
  |none=>rfl
  |some y=>
   have:y.addr≠x.addr:=fun h2=>e (k.Tm hx h h2.symm)
   simp[this]
theorem Po{hv:Nat→CV×CV}{l:List Ob}{g:Ob→Ob}(h:∀x∈l,Gt hv (g x)=Gt hv x):Gu hv (l.map g)=Gu hv l:=by
 induction l with
 |nil=>rfl
 |cons x l ih=>rw[List.map_cons,GY,GY,h x QT,ih fun y hy=>h y (VA _ hy)]
section
variable {H : Gb} {o : Tags} {rb : Nat} {s : Hp} {L : NG}
theorem J3.rv(m:J3 o H rb s L){x:Ob}(hx:x∈s.objs)(hn:0<x.refs.length):
  ∃b tl,(L.hv x.id).1=.slice b 0 x.refs.length x.refs.length 1 tl∧o b=some (0,3,x.id)∧H[b]?=some ⟨ints x.refs,.rw,1⟩:=by
 obtain⟨tl,e1,e2,e3,e4⟩:=(m.refs x hx).1.pos hn
 exact⟨_,tl,e1,e2,e3⟩
theorem J3.Gk4(m:J3 o H rb s L)(k:s.Ok){x:Ob}(hx:x∈s.objs){b:Nat}{tl:Bool}(hv:(L.hv x.id).1=.slice b 0 x.refs.length x.refs.length 1 tl)(Yi:o b=some (0,3,x.id))(hb:b<H.length)(i:Nat)(v:Int):
  J3 o (H.set b ⟨ints (x.refs.set i v),.rw,1⟩) rb (s.upd x.addr fun o=>{o with refs:=o.refs.set i v}) L:=by
 have old:∀c t,o c=some t→t≠(0,3,x.id)→(H.set b ⟨ints (x.refs.set i v),.rw,1⟩)[c]?=H[c]?:=fun c t h hn=>by
  grind
 have hlen:(s.upd x.addr fun o=>{o with refs:=o.refs.set i v}).objs.length=s.objs.length:=by simp[Hp.upd]
 refine⟨fun c t h=>by rw[List.length_set];exact m.dom c t h,m.top,?_,m.fv,m.blk.frame (fun c h=>h) fun c h=>old c _ h sM,?_,?_⟩
 ·rw[old _ _ m.top sM,m.cells];rfl
 ·have:=m.objs.frame (o':=o) (H':=H.set b ⟨ints (x.refs.set i v),.rw,1⟩) (fun c h=>h) fun c h=>old c _ h sM
  rw[hlen]
  have e:Gu L.hv (s.upd x.addr fun o=>{o with refs:=o.refs.set i v}).objs=Gu L.hv s.objs:=Po fun y hy=>by
   split
   ·simp[Gt]
   ·rfl
  rw[e];exact this
 ·intro y hy
  simp only[Hp.upd,KI]at hy
  obtain⟨z,hz,rfl⟩:=hy
  by_cases c:z.addr=x.addr
  ·have:=k.U8 hz hx c
   subst this
   rw[if_pos rfl]
   refine⟨.inr ⟨b,tl,by rw[hv];simp,Yi,by rw[Va hb],by simp[ints]⟩,?_⟩
   exact(m.refs z hz).2.frame (fun c h=>h) fun c h=>old c _ h sM
  ·rw[if_neg c]
   have hid:z.id≠x.id:=by
    rcases Ki k.ids hz hx with e|e|e
    ·exact absurd (by rw[e]) c
    ·exact e
    ·exact e.symm
   exact⟨(m.refs z hz).1.frame (fun c h=>h) fun c h=>old c _ h (by simp[hid]),(m.refs z hz).2.frame (fun c h=>h) fun c h=>old c _ h sM⟩
theorem J3.J8(m:J3 o H rb s L)(k:s.Ok){j:Nat}{x:Ob}(hx:s.objs[j]?=some x) {b n:Nat} {tl:Bool} (hv:L.ov=.slice b 0 n n 8 tl) (hn:n=s.objs.length) (Yi:o b=some (0,2,0)) (hb:b<H.length) (v:Bool):
  J3 o (H.set b ⟨(Gu L.hv s.objs).set (j*8+7) (.bool v),.rw,8⟩) rb (s.upd x.addr fun o=>{o with pin:=v}) L:=by
 obtain⟨cs,hcs⟩:∃cs,cs=(Gu L.hv s.objs).set (j*8+7) (.bool v):=⟨_,rfl⟩
 have old:∀c t,o c=some t→t≠(0,2,0)→(H.set b ⟨cs,.rw,8⟩)[c]?=H[c]?:=fun c t h hn=>by
  grind
 rw[←hcs]
 have hlen:(s.upd x.addr fun o=>{o with pin:=v}).objs.length=s.objs.length:=by simp[Hp.upd]
 refine⟨fun c t h=>by rw[List.length_set];exact m.dom c t h,m.top,?_,m.fv,m.blk.frame (fun c h=>h) fun c h=>old c _ h sM,?_,?_⟩
 ·rw[old _ _ m.top sM,m.cells];rfl
 ·refine .inr ⟨b,tl,by rw[hv,hlen,hn],Yi,?_,by rw[Qc]⟩
  rw[Va hb,hcs,k.GjF hx,D7 hx oM (y:={x with pin:=v}) rfl]
 ·intro y hy
  simp only[Hp.upd,KI]at hy
  obtain⟨z,hz,rfl⟩:=hy
  have:=m.refs z hz
  split
  ·exact⟨this.1.frame (fun c h=>h) fun c h=>old c _ h sM,this.2.frame (fun c h=>h) fun c h=>old c _ h sM⟩
  ·exact⟨this.1.frame (fun c h=>h) fun c h=>old c _ h sM,this.2.frame (fun c h=>h) fun c h=>old c _ h sM⟩
end
end Go.Cs
namespace Go.Cs.Tryz
open Go Go.Cs
section
variable {H : Gb} {o : Tags} {rb : Nat} {s : Hp} {L : NG}
theorem Rk(r d k:Int):run P 215 [.agg (GX r d k)] H=some (.bool (JQ r d k),H++[⟨GX r d k,.rw,0⟩]):=by
 rw[Gh GuD _ _ sM]
 unfold GX
 have key:∀b,JQ r d k=b↔(b=true↔(0≤r∧r≤15)∧(0≤d∧d≤200)∧(0≤k∧k≤3)∧(k≠1∨1≤r)∧(k≠2∨2≤r)):=fun b=>by
  rw[Bool.eq_iff_iff,NS]
  grind
 have fin:∀b:Bool,(b=true↔(0≤r∧r≤15)∧(0≤d∧d≤200)∧(0≤k∧k≤3)∧(k≠1∨1≤r)∧(k≠2∨2≤r))→b=JQ r d k:=fun b h=>((key b).2 h).symm
 by_cases c1:r<0
 ·exact V2 c1 (fin false (by simp;omega)).symm
 by_cases c2:15<r
 ·exact V3 c1 c2 (fin false (by simp;omega)).symm
 by_cases c3:d<0
 ·exact V4 c1 c2 c3 (fin false (by simp;omega)).symm
 by_cases c4:200<d
 ·exact V5 c1 c2 c3 c4 (fin false (by simp;omega)).symm
 by_cases d0:k=0
 ·have e0:(k==0)=true:=by simp[d0]
  exact V6 c1 c2 c3 c4 e0 (fin true (by simp;omega)).symm
 have e0:(k==0)=false:=by simp[d0]
 by_cases d3:k=3
 ·have e3:(k==3)=true:=by simp[d3]
  exact V7 c1 c2 c3 c4 e0 e3 (fin true (by simp;omega)).symm
 have e3:(k==3)=false:=by simp[d3]
 by_cases d1:k=1
 ·have e1:(k==1)=true:=by simp[d1]
  exact V8 c1 c2 c3 c4 e0 e3 e1 (fin (decide (1≤r)) (by simp;omega)).symm
 have e1:(k==1)=false:=by simp[d1]
 by_cases d2:k=2
 ·have e2:(k==2)=true:=by simp[d2]
  exact V9 c1 c2 c3 c4 e0 e3 e1 e2 (fin (decide (2≤r)) (by simp;omega)).symm
 have e2:(k==2)=false:=by simp[d2]
 exact V9 c1 c2 c3 c4 e0 e3 e1 e2 (fin false (by simp;omega)).symm
theorem Qz(r d k:Int):∃H',run P 190 [.agg (GX r d k)] H=some (.i (Gv r d k),H')∧Gr H H':=by
 have hv:=Rk (H:=H++[⟨GX r d k,.rw,0⟩]) r d k
 refine⟨H++[⟨GX r d k,.rw,0⟩]++[⟨GX r d k,.rw,0⟩],?_,(Gr.app H _).app' _⟩
 rw[Gh Guy _ _ sM]
 unfold Gv
 by_cases c:JQ r d k=true
 ·have hb:=QD c
  rw[c]at hv
  rw[if_pos c]
  unfold GX at hv⊢
  have w1:IntKind.i64.wrap (2+r)=2+r:=Gg oM
  have w2:IntKind.i64.wrap (2+r+d)=2+r+d:=Gg oM
  have e:(2+r+d).tmod 2=(2+r+d) % 2:=Int.tmod_eq_emod_of_nonneg oM
  have w5:IntKind.i64.wrap (2+r+d+(2+r+d) % 2)=((G6 r.toNat d.toNat:Nat):Int):=by
   rw[Gg oM];unfold G6;omega
  exact Hz
 ·have c':JQ r d k=false:=by simpa using c
  rw[c']at hv⊢
  unfold GX at hv⊢
  exact W0
theorem QZ(r d k:Int):0≤Gv r d k∧Gv r d k≤218:=by
 unfold Gv
 split
 ·rename_i c
  have:=QD c
  unfold G6;omega
 ·omega
theorem AQ(r d k:Int):∃H',run P 117 [.agg (GX r d k)] H=some (.bool (decide (32<Gv r d k)),H')∧Gr H H':=by
 obtain⟨H',h1,g⟩:=Qz (H:=H++[⟨GX r d k,.rw,0⟩]) r d k
 refine⟨H',?_,(Gr.app H _).trans g⟩
 rw[Gh c117 _ _ sM]
 unfold GX at h1⊢
 exact W0
theorem Ol(r d k:Int):∃H',run P 119 [.agg (GX r d k)] H=some (.i ((Gv r d k+63)/64),H')∧Gr H H':=by
 obtain⟨H',h1,g⟩:=Qz (H:=H++[⟨GX r d k,.rw,0⟩]) r d k
 have hb:=QZ r d k
 refine⟨H',?_,(Gr.app H _).trans g⟩
 rw[Gh c119 _ _ sM]
 have w1:IntKind.i64.wrap (Gv r d k+64)=Gv r d k+64:=Gg oM
 have w2:IntKind.i64.wrap (Gv r d k+64-1)=Gv r d k+63:=by rw[Gg oM];omega
 have e:(Gv r d k+63).tdiv 64=(Gv r d k+63)/64:=Int.tdiv_eq_ediv_of_nonneg oM
 have w3:IntKind.i64.wrap ((Gv r d k+63)/64)=(Gv r d k+63)/64:=Gg oM
 unfold GX at h1⊢
 exact Hz
theorem AP(m:J3 o H rb s L){b:Nat}{x:Nat×Nat}(h:s.blk[b]?=some x):∃bb tl,L.bv=.slice bb 0 s.blk.length s.blk.length 2 tl∧o bb=some (0,1,0)∧H[bb]?=some ⟨Gy s.blk,.rw,2⟩∧(Gy s.blk)[b*2]?=some (.i x.1)∧((0:Int)≤(b:Int)∧(b:Int)<(s.blk.length:Int)):=by
 obtain⟨q1,q2⟩:=Kj s.blk b x h
 have:=Gf h
 obtain⟨bb,tl,e1,e2,e3⟩:=m.bv oM
 grind
theorem Gjl(m:J3 o H rb s L)(k:s.Ok){b:Nat}(hb:b<s.blk.length)(h2:s.Gx b=2)
  {E0:Env}(h0:E0 0=.ptr rb 0)(h1:E0 1=.i b)(h5:E0 5=.i 1){r:Option (CX×Env×Gb)}(hr:den P (.loop TT) E0 H=r):
  ∃E',r=some (.exit 0,E',H)∧E' 5=.i (s.span b):=by
 have hnb:=k.nb
 obtain⟨x',E',H',e,-,⟨rfl,rfl,hf⟩,fr⟩:=Gq (p:=P) (c:=TT) (E0:=E0) (H0:=H)
  (fun q E H'=>H'=H∧∃n:Nat,E 5=.i n∧1≤n∧n≤s.blk.length∧q=s.blk.length-n∧n+tails (s.blk.drop (b+n))=s.span b)
  (fun x' E' H'=>x'=.exit 0∧H'=H∧E' 5=.i (s.span b)) (by
   rintro q E H' hE ⟨rfl,n,e5,hn1,hn2,rfl,hd⟩
   have e0:=(hE 0 dK).trans h0
   have e1:=(hE 1 dK).trans h1
   have hc:=m.cells
   have hl:=m.blk.len H'
   have w1:IntKind.i64.wrap ((b:Int)+(n:Int))=((b+n:Nat):Int):=Gg oM
   by_cases c2:b+n<s.blk.length
   ·have hy:s.blk[b+n]?=some s.blk[b+n]:=Jr c2
    obtain⟨bb,tl,p1,p2,p3,p4,p5⟩:=AP m hy
    rw[p1]at hc hl
    have c2':decide (((b+n:Nat):Int)<(s.blk.length:Int))=true:=Gz oM
    rw[Mw hy]at hd
    by_cases c3:s.blk[b+n].1=3
    ·rw[if_pos c3]at hd
     rw[c3]at p4
     have w2:IntKind.i64.wrap ((n:Int)+1)=((n+1:Nat):Int):=Gg oM
     apply Gm (k':=s.blk.length-(n+1))
     ·refine Jb ?_
      rfl
     ·omega
     ·exact⟨rfl,n+1,uA,oM,oM,rfl,by grind⟩
    ·rw[if_neg c3]at hd
     have c4:(((s.blk[b+n].1:Nat):Int)==3)=false:=by simp;omega
     apply Gi (x:=.exit 0)
     ·refine Jb ?_
      rfl
     ·simp
     ·exact⟨rfl,rfl,by rw[←hd];simp[Gc,e5]⟩
   ·have c2':decide (((b+n:Nat):Int)<(s.blk.length:Int))=false:=Gw oM
    rw[P9 oM]at hd
    apply Gi (x:=.exit 0)
    ·refine Jb ?_
     rfl
    ·simp
    ·exact⟨rfl,rfl,by rw[←hd];simp[Gc,e5]⟩) _ ⟨rfl,1,h5,oM,oM,rfl,by unfold Hp.span;unfold Hp.Gx at h2;rw[if_pos h2]⟩
 exact⟨E',hr.symm.trans e,hf⟩
theorem Gek(m:J3 o H rb s L)(k:s.Ok){b:Nat}(hb:b<s.blk.length):run P 262 [.ptr rb 0,.i b] H=some (.i (s.whole b),H):=by
 have hx:s.blk[b]?=some s.blk[b]:=Jr hb
 have hst:s.Gx b=(s.blk[b]).1:=by unfold Hp.Gx;grind
 obtain⟨bb,tl,p1,p2,p3,p4,p5⟩:=AP m hx
 have hc:=m.cells
 rw[←hst]at p4
 rw[Gh Gva _ _ sM]
 have hc':=hc
 rw[p1]at hc'
 unfold Hp.whole
 by_cases c1:s.Gx b=1
 ·rw[if_pos c1]
  rw[c1]at p4
  exact W0
  try rfl
 ·rw[if_neg c1]
  have e1:(((s.Gx b:Nat):Int)==1)=false:=by simp;omega
  by_cases c2:s.Gx b=2
  ·rw[if_pos c2]
   rw[c2]at p4 e1
   refine Jb ?_
   generalize hr:den P (.loop TT) _ _=r
   obtain⟨E',rfl,h⟩:=Gjl m k (b:=b) hb c2 uA uA uA hr
   exact W0
  ·rw[if_neg c2]
   have e2:(((s.Gx b:Nat):Int) != 2)=true:=by simp;omega
   exact W0
   try rfl
theorem GbX(m:J3 o H rb s L)(k:s.Ok)(a i to:Int):Am o H rb (s.setRef a i to).1 (.i (s.setRef a i to).2) (run P 127 [.ptr rb 0,.i a,.i i,.i to] H):=by
 have h0:=Yw m k a
 have h1:=KR m k a
 have h2:=IB m k to
 have hc:=m.cells
 unfold Hp.KC at h1
 unfold Hp.setRef
 cases e:s.obj a with
 |none=>
  have h:=Hp.J_.2 e
  rw[h]at h0
  refine⟨H,o,L,?_,m,KW.refl H⟩
  rw[Gh c127 _ _ sM]
  exact W0
 |some x=>
  have h:=Hp.J4.2 ⟨x,e⟩
  rw[h]at h0 h1
  rw[if_pos rfl]at h1
  have hx:=Hp.Q_ e
  have hxm:=(Hp.Jf e).1
  obtain⟨b,n,tl,q1,q2,q3,q4,q5,q6⟩:=J3.row m hx
  have q7:=JU (hv:=L.hv) hx (i:=5) (v:=(L.hv x.id).1) rfl
  rw[q1]at hc
  have hl:=(m.refs x hxm).1.len H
  dsimp only
  by_cases c:0≤i∧i<(x.refs.length:Int)
  ·rw[if_pos c]
   obtain⟨j,rfl⟩:∃j:Nat,i=j:=⟨i.toNat,oM⟩
   have c1:decide ((j:Int)<0)=false:=Gw oM
   have c2:decide ((x.refs.length:Int)≤(j:Int))=false:=Gw oM
   obtain⟨b2,tl2,r1,r2,r3⟩:=m.rv hxm oM
   have st:j<(ints x.refs).length:=by rw[ZE];omega
   rw[r1]at hl q7
   have mn:=m.Gk4 k hxm r1 r2 (Gf r3) j to
   rw[ints_set]at mn
   by_cases c3:to=0
   ·rw[if_pos (.inl c3)]
    have e3:(to != 0)=false:=by simp[c3]
    refine⟨_,o,L,?_,mn,(KW.refl H).set1 r2 _⟩
    rw[Gh c127 _ _ sM]
    exact W0
   ·have e3:(to != 0)=true:=by simp[c3]
    by_cases c4:s.has to=true
    ·rw[if_pos (.inr c4)]
     rw[c4]at h2
     refine⟨_,o,L,?_,mn,(KW.refl H).set1 r2 _⟩
     rw[Gh c127 _ _ sM]
     exact W0
    ·rw[if_neg (fun h=>h.elim c3 c4)]
     have c4':s.has to=false:=by simpa using c4
     rw[c4']at h2
     refine⟨H,o,L,?_,m,KW.refl H⟩
     rw[Gh c127 _ _ sM]
     exact W0
  ·rw[if_neg c]
   refine⟨H,o,L,?_,m,KW.refl H⟩
   rw[Gh c127 _ _ sM]
   by_cases c1:i<0
   ·exact W0
   ·have c2:(x.refs.length:Int)≤i:=by omega
    exact W0
theorem Gjr(m:J3 o H rb s L)(k:s.Ok)(a:Int)(v:Bool):Am o H rb (s.J8 a v).1 (.i (s.J8 a v).2) (run P 134 [.ptr rb 0,.i a,.bool v] H):=by
 have h0:=Yw m k a
 have h1:=KR m k a
 have hc:=m.cells
 unfold Hp.KC at h1
 unfold Hp.J8
 cases e:s.obj a with
 |none=>
  have h:=Hp.J_.2 e
  rw[h]at h0
  refine⟨H,o,L,?_,m,KW.refl H⟩
  rw[Gh GnA _ _ sM]
  exact W0
 |some x=>
  have h:=Hp.J4.2 ⟨x,e⟩
  rw[h]at h0 h1
  rw[if_pos rfl]at h1
  have hx:=Hp.Q_ e
  obtain⟨b,n,tl,q1,q2,q3,q4,q5,q6⟩:=J3.row m hx
  have mn:=m.J8 k hx q1 q2 q4 (Gf q3) v
  rw[q1]at hc
  have st:s.idx a*8+7<(Gu L.hv s.objs).length:=by omega
  refine⟨_,o,L,?_,mn,(KW.refl H).set1 q4 _⟩
  rw[Gh GnA _ _ sM]
  exact W0
theorem GjK(m:J3 o H rb s L)(k:s.Ok)(a:Int):Am o H rb (s.J8 a true).1 (.i (s.J8 a true).2) (run P 44 [.ptr rb 0,.i a] H):=by
 obtain⟨H',o',L',h1,h2,h3⟩:=Gjr m k a true
 refine⟨H',o',L',?_,h2,h3⟩
 rw[Gh c44 _ _ sM]
 exact W0
end
end Go.Cs.Tryz
namespace Go.Cs.Tryz
open Go Go.Cs A
abbrev MV:Gn:=S (S (D [⟨m 6 4,0,0,0⟩,⟨m 7 0,1,0,0⟩,⟨z 8 7,2,0,0⟩,⟨f 9 1 8,3,0,0⟩,⟨l 10 1 9,4,1,0⟩,⟨le 11 10,5,0,0⟩,⟨b 12 .lss 6 11,6,0,0⟩,⟨m 13 12,7,0,0⟩,⟨gt 13 (m 14 0),8,0,0⟩,⟨gt 13 (z 15 14),9,0,0⟩,⟨gt 13 (f 16 1 15),10,0,0⟩,⟨gt 13 (l 17 1 16),11,1,0⟩,⟨gt 13 (m 18 4),12,0,0⟩,⟨gt 13 (x 19 8 17 18),13,0,0⟩,⟨gt 13 (f 20 0 19),14,0,0⟩,⟨gt 13 (l 21 1 20),15,1,0⟩,⟨gt 13 (f 22 0 3),16,0,0⟩,⟨gt 13 (l 23 1 22),17,1,0⟩,⟨gt 13 (b 24 .lss 21 23),18,0,0⟩,⟨an 25 13 24,19,0,0⟩]) (J 25 (X 0))) (B 1 (R [m 26 4,bk 27 .add 26 1,m 4 27]))
def Gq1:Gj:=⟨51,0,T [bo 3 1] (T [n 4 0] (S (B 0 (W MV)) (T [e 5 (.Km (c .Gd))] (T [m 28 5,m 29 0,z 30 29,f 31 1 30,l 32 1 31,m 33 4,e 34 (.slice 8 (t 32) none (some (t 33)) none),ap 35 8 28 34,m 5 35] (T [m 36 5,lg 37 8 3,e 38 (.buildSlice 8 [i 0,i 0,i 0,i 0,i 0,.Gd,.Gd,.bool false] 1 [(0,8,t 37)]),ap 39 8 36 38,m 5 39] (R [m 40 0,m 41 5,m 42 0,z 43 42,f 44 1 43,l 45 1 44,m 46 4,e 47 (.slice 8 (t 45) (some (t 46)) none none),ap 48 8 41 47,z 49 40,f 50 1 49,st 1 50 48])))))),[]⟩
theorem GrZ:P 217=some Gq1:=by kernel_rfl
end Go.Cs.Tryz
namespace Go.Cs
open Go
theorem LL.cat{k e n q:Nat}{H:Gb}{v:CV}{cs new:List CV}(h:At (Loc k) z3 H v e n cs)(hk:k≤H.length)(hm:n+q≤16777216)(hl:new.all leaf=true)(hnew:new.length=q*e):
  ∃v' H',Ju H e v q new=some (v',H')∧At (Loc k) z3 H' v' e (n+q) (cs++new)∧Keeps H H' (fun c=>k≤c):=by
 by_cases hq:q=0
 ·subst hq
  rw[Nat.zero_mul]at hnew
  have:new=[]:=AV hnew
  subst this
  refine⟨v,H,?_,by simpa using h,Keeps.refl _ _⟩
  rcases h with⟨_,_,rfl|⟨b,f,rfl⟩⟩|⟨b,tl,rfl,h1,h2,h3⟩<;>rfl
 ·have hp:0<q:=by omega
  obtain⟨H',a1,a2,a3,a4⟩:=At.append h hp hm hl hnew
  refine⟨_,H',a1,.inr ⟨H.length,true,rfl,Gl.2 ⟨hk,rfl⟩,a3,?_⟩,⟨oM,fun c hc hk'=>a4 c oM (fun h=>by have:=(Gl.1 h).1;exact hk' this)⟩⟩
  have hc:cs.length=n*e:=by
   rcases h with⟨rfl,rfl,-⟩|⟨b,tl,rfl,h1,h2,h3⟩
   ·simp
   ·exact h3
  grind
theorem LL.nil{k e:Nat}{H:Gb}:At (Loc k) z3 H .Gd e 0 []:=.inl ⟨rfl,rfl,.inl rfl⟩
theorem GdX{b f n e l h:Nat}{tl:Bool}(h1:l≤h)(h2:h≤n):Ky e (.slice b f n n e tl) (some (.i l)) (some (.i h)) none=some (.slice b (f+l*e) (h-l) (n-l) e tl):=by
 simp only[Ky,Nj,Us,ZJ,Option.isSome_none,Bool.false_eq_true,false_and,if_false,Option.bind_some]
 grind
theorem LZ{b f n e h:Nat}{tl:Bool}(h2:h≤n):Ky e (.slice b f n n e tl) none (some (.i h)) none=some (.slice b f h n e tl):=by
 simp only[Ky,Nj,Us,ZJ,Option.isSome_none,Bool.false_eq_true,false_and,if_false,Option.bind_some]
 grind
theorem DC{b f n e l:Nat}{tl:Bool}(h1:l≤n):Ky e (.slice b f n n e tl) (some (.i l)) none none=some (.slice b (f+l*e) (n-l) (n-l) e tl):=by
 simp only[Ky,Nj,Us,ZJ,Option.isSome_none,Bool.false_eq_true,false_and,if_false,Option.bind_some]
 grind
theorem PI{H:Gb}{b f m c e z:Nat}{tl:Bool}{cells:List CV}(h:H[b]?=some ⟨cells,.rw,z⟩) (hl:f+m*e≤cells.length):elems H e (.slice b f m c e tl)=some (m,(cells.drop f).take (m*e)):=by
 unfold elems
 dsimp only
 by_cases hm:m=0
 ·subst hm;simp
 ·rw[if_neg hm,Yl,h,Qg,if_pos hl];rfl
theorem At.lo{o:Tags}{t:Tag}{H:Gb}{v:CV}{e n j:Nat}{cs:List CV}(h:At o t H v e n cs)(hj:j≤n):
  ∃w,Ky e v none (some (.i j)) none=some w∧∀H':Gb,(∀c,o c=some t→H'[c]?=H[c]?)→Go.Cs.elems H' e w=some (j,cs.take (j*e)):=by
 rcases h with⟨rfl,rfl,rfl|⟨b,f,rfl⟩⟩|⟨b,tl,rfl,h1,h2,h3⟩
 ·have:j=0:=by omega
  subst this
  exact⟨.Gd,rfl,fun H' _=>by simp[Go.Cs.elems]⟩
 ·have:j=0:=by omega
  subst this
  exact⟨_,LZ oM,fun H' _=>by simp[Go.Cs.elems]⟩
 ·refine⟨_,LZ hj,fun H' hf=>?_⟩
  rw[PI (by rw[hf b h1,h2]) (by rw[h3,Nat.zero_add];exact Nat.mul_le_mul_right e hj)]
  simp
theorem At.hi{o:Tags}{t:Tag}{H:Gb}{v:CV}{e n j:Nat}{cs:List CV}(h:At o t H v e n cs)(hj:j≤n):
  ∃w,Ky e v (some (.i j)) none none=some w∧∀H':Gb,(∀c,o c=some t→H'[c]?=H[c]?)→Go.Cs.elems H' e w=some (n-j,cs.drop (j*e)):=by
 rcases h with⟨rfl,rfl,rfl|⟨b,f,rfl⟩⟩|⟨b,tl,rfl,h1,h2,h3⟩
 ·have:j=0:=by omega
  subst this
  exact⟨.Gd,rfl,fun H' _=>by simp[Go.Cs.elems]⟩
 ·have:j=0:=by omega
  subst this
  exact⟨_,DC oM,fun H' _=>by simp[Go.Cs.elems]⟩
 ·refine⟨_,DC hj,fun H' hf=>?_⟩
  have hm:0+j*e+(n-j)*e=n*e:=by rw[Nat.zero_add,←Nat.add_mul];congr 1;omega
  rw[PI (by rw[hf b h1,h2]) (by rw[h3,hm];exact Nat.le_refl _),Nat.zero_add]
  rw[Qe]
  grind
def Z_(a:Nat)(l:List Ob):Nat:=(l.takeWhile fun y=>decide (y.addr<a)).length
theorem Gic(a:Nat)(l:List Ob):Z_ a l≤l.length:=(List.takeWhile_sublist _).length_le
theorem Lu{a:Nat}:∀{l:List Ob}{j:Nat},j≤l.length→(∀i y,i<j→l[i]?=some y→y.addr<a)→(∀y,l[j]?=some y→a≤y.addr)→Z_ a l=j
 |[],j,hj,_,_=>by simp only[List.length_nil]at hj;unfold Z_;simp;omega
 |x::l,0,_,_,h2=>by
  have:=h2 x rfl
  unfold Z_
  simp_all
 |x::l,j+1,hj,h1,h2=>by
  have:=h1 0 x oM rfl
  have ih:=Lu (a:=a) (l:=l) (j:=j) (by simpa using hj) (fun i y hi hy=>h1 (i+1) y oM (by simpa using hy)) (fun y hy=>h2 y (by simpa using hy))
  unfold Z_ at ih⊢
  simp_all
theorem M0(x:Ob):∀l:List Ob,NA x l=l.take (Z_ x.addr l)++x::l.drop (Z_ x.addr l)
 |[]=>rfl
 |y::l=>by
  unfold NA Z_
  split
  ·rename_i h
   rw[List.takeWhile_cons_of_pos (by simpa using h),List.length_cons,List.take_succ_cons,List.drop_succ_cons,List.cons_append,M0 x l];rfl
  simp_all
theorem Yc{hv:Nat→CV×CV}:∀{l:List Ob}{j:Nat},(Gu hv l).take (j*8)=Gu hv (l.take j)
 |[],j=>by simp[Gu]
 |x::l,0=>by simp[Gu]
 |x::l,j+1=>by
  rw[List.take_succ_cons,GY,GY,List.take_append,←Yc (l:=l) (j:=j)]
  rw[Qe (by simp[Gt];omega)]
  have:(j+1)*8-(Gt hv x).length=j*8:=by simp[Gt];omega
  rw[this]
theorem Ye{hv:Nat→CV×CV}:∀{l:List Ob}{j:Nat},(Gu hv l).drop (j*8)=Gu hv (l.drop j)
 |[],j=>by simp[Gu]
 |x::l,0=>by simp
 |x::l,j+1=>by
  rw[List.drop_succ_cons,GY,List.drop_append,←Ye (l:=l) (j:=j)]
  rw[Ge2 (by simp[Gt];omega),List.nil_append]
  have:(j+1)*8-(Gt hv x).length=j*8:=by simp[Gt];omega
  rw[this]
theorem J3.leaves{o:Tags}{H:Gb}{rb:Nat}{s:Hp}{L:NG}(m:J3 o H rb s L):∀l:List Ob,(∀x∈l,x∈s.objs)→(Gu L.hv l).all leaf=true
 |[],_=>rfl
 |x::l,h=>by
  have hx:=m.refs x (h x QT)
  rw[GY,List.all_append,m.leaves l fun y hy=>h y (VA _ hy)]
  simp only[Gt,List.all_cons,List.all_nil,hx.1.leaf,hx.2.leaf,Jl,KU,Bool.and_true]
theorem J3.GfA{o:Tags}{H Hf:Gb}{rb:Nat}{s:Hp}{L:NG}(m:J3 o H rb s L){l:List Ob}{hv:Nat→CV×CV}{v:CV}{born:Nat}(h:At (Loc H.length) z3 Hf v 8 l.length (Gu hv l))(hl:H.length≤Hf.length)
  (hb:Hf[rb]?=some ⟨[L.bv,v,L.fv,.i born],.rw,0⟩) (hf:∀d,d<H.length→d≠rb→Hf[d]?=H[d]?)
  (hr:∀x∈l,At o (0,3,x.id) H (hv x.id).1 1 x.refs.length (ints x.refs)∧At o (0,4,x.id) H (hv x.id).2 1 x.data.length (ints x.data)):
  ∃o' L',J3 o' Hf rb {s with objs:=l,born:=born} L'∧KW o H o' Hf∧L'.hv=hv:=by
 obtain⟨o',h1,h2,h3⟩:=h.adopt (o:=o) (t:=(0,2,0)) m.dom
 have ho:∀c t,o c=some t→o' c=some t:=fun c t h=>by rw[h1 c (m.dom c _ h),h]
 have old:∀c t,o c=some t→t≠(0,0,0)→Hf[c]?=H[c]?:=fun c t h hn=>hf c (m.dom c _ h) (by rintro rfl;rw[m.top]at h;grind)
 refine⟨o',{L with ov:=v,hv:=hv},⟨?_,ho _ _ m.top,hb,m.fv,m.blk.frame (fun c=>ho c _) fun c h=>old c _ h sM,h3,fun x hx=>?_⟩,⟨hl,h1,fun c hc hn=>hf c hc ?_⟩,rfl⟩
 ·grind
 ·exact⟨(hr x hx).1.frame (fun c=>ho c _) fun c h=>old c _ h sM,(hr x hx).2.frame (fun c=>ho c _) fun c h=>old c _ h sM⟩
 ·rintro rfl;rw[m.top]at hn;cases hn
end Go.Cs
namespace Go.Cs.Tryz
open Go Go.Cs
section
variable {H : Gb} {o : Tags} {rb : Nat} {s : Hp} {L : NG}
theorem GoP(m:J3 o H rb s L)(few:s.objs.length≤2048){q:Nat}{a:Nat}{cs:List CV}(hq:H[q]?=some ⟨.i a::cs,.rw,0⟩)
  {E0:Env} (h0:E0 0=.ptr rb 0) (h3:E0 3=.ptr q 0) (h4:E0 4=.i 0) {r:Option (CX×Env×Gb)} (hr:den P (.loop MV) E0 H=r):
  ∃E',r=some (.exit 0,E',H)∧E' 4=.i (Z_ a s.objs)∧∀t,t∉wr MV→E' t=E0 t:=by
 obtain⟨x',E',H',e,-,⟨rfl,rfl,hf⟩,fr⟩:=Gq (p:=P) (c:=MV) (E0:=E0) (H0:=H)
  (fun q E H'=>H'=H∧∃j:Nat,E 4=.i j∧j≤s.objs.length∧q=s.objs.length-j∧∀i y,i<j→s.objs[i]?=some y→y.addr<a)
  (fun x' E' H'=>x'=.exit 0∧H'=H∧E' 4=.i (Z_ a s.objs)) (by
   rintro q' E H' hE ⟨rfl,j,e4,hj,rfl,hd⟩
   have e0:=(hE 0 dK).trans h0
   have e3:=(hE 3 dK).trans h3
   have hc:=m.cells
   have hl:=m.objs.len H'
   have hml:=VO (v:=L.ov) (n:=(s.objs.length:Int)) fun H=>m.objs.len H
   by_cases c:j<s.objs.length
   ·have hx:s.objs[j]?=some s.objs[j]:=Jr c
    have c':decide ((j:Int)<(s.objs.length:Int))=true:=Gz oM
    obtain⟨b,n,tl,q1,q2,q3,q4,q5,q6⟩:=J3.row m hx
    have q7:=JU (hv:=L.hv) hx (i:=0) (v:=.i (s.objs[j]).addr) rfl
    rw[Nat.add_zero]at q7
    rw[q1]at hc hl hml
    have w1:IntKind.i64.wrap ((j:Int)+1)=((j+1:Nat):Int):=Gg oM
    by_cases ha:(s.objs[j]).addr<a
    ·have c2:decide (((s.objs[j]).addr:Int)<(a:Int))=true:=Gz oM
     apply Gm (k':=s.objs.length-(j+1))
     ·refine W11 e0 e3 e4 hc hml c' q3 q7 hq c2 w1 ?_
      rfl
     ·omega
     ·refine⟨rfl,j+1,uA,oM,rfl,fun i y hi hy=>?_⟩
      grind
    ·have c2:decide (((s.objs[j]).addr:Int)<(a:Int))=false:=Gw oM
     apply Gi (x:=.exit 0)
     ·refine W10 e0 e3 e4 hc hml c' q3 q7 hq c2 ?_
      rfl
     ·simp
     ·refine⟨rfl,rfl,?_⟩
      rw[Lu hj hd fun y hy=>by grind]
      simp[Gc,e4]
   ·have c':decide ((j:Int)<(s.objs.length:Int))=false:=Gw oM
    apply Gi (x:=.exit 0)
    ·refine Jb ?_
     rfl
    ·simp
    ·refine⟨rfl,rfl,?_⟩
     rw[Lu hj hd fun y hy=>by have:=Gf hy;omega]
     simp[Gc,e4]) _ ⟨rfl,0,h4,oM,rfl,fun i y hi=>by omega⟩
 exact⟨E',hr.symm.trans e,hf,fr⟩
theorem GkD(m:J3 o H rb s L)(few:s.objs.length≤2048){x:Ob}{v1 v2:CV}{born:Nat}{fv:CV}(hid:∀y∈s.objs,y.id≠x.id)
  (h1:At o (0,3,x.id) H v1 1 x.refs.length (ints x.refs))(h2:At o (0,4,x.id) H v2 1 x.data.length (ints x.data)):
  Am o H rb {s with objs:=NA x s.objs} (.Jj []) (run P 217 [.ptr rb 0,.agg [.i x.addr,.i x.id,.i x.refs.length,.i x.data.length,.i x.kd,v1,v2,.bool x.pin]] H):=by
 have lv1:=h1.leaf
 have lv2:=h2.leaf
 obtain⟨B,hB⟩:∃B:JE,B=⟨[.i x.addr,.i x.id,.i x.refs.length,.i x.data.length,.i x.kd,v1,v2,.bool x.pin],.rw,0⟩:=⟨_,rfl⟩
 have g1:Gr H (H++[B]):=Gr.app H _
 have m1:=m.gr g1
 have hq:(H++[B])[H.length]?=some B:=by simp
 rw[Gh GrZ _ _ sM]
 refine Jb ?_
 rw[←hB]
 generalize hr:den P (.loop MV) _ _=r
 obtain⟨E',rfl,hix,fr⟩:=GoP m1 few (q:=H.length) (a:=x.addr) (by rw[hq,hB]) uA uA uA hr
 have f0:=fr 0 dK
 have f3:=fr 3 dK
 simp only[Gc,Nat.reduceEqDiff,↓reduceIte]at f0 f3
 have hile:=Gic x.addr s.objs
 generalize hj:Z_ x.addr s.objs=j at hix hile
 obtain⟨X,hX⟩:∃X:Gb,X=H++[B]:=⟨_,rfl⟩
 rw[←hX]at m1 hq g1⊢
 have hk:X.length=H.length+1:=by rw[hX];simp
 have hkd:∀c t,o c=some t→c<X.length:=m1.dom
 have hbd:∀Y:Gb,Keeps X Y (fun c=>X.length≤c)→∀c t,o c=some t→Y[c]?=X[c]?:=fun Y kY c t h=>kY.keep c (hkd c t h) (by have:=hkd c t h;omega)
 obtain⟨w1,sl1,el1⟩:=m1.objs.lo hile
 obtain⟨w2,sl2,el2⟩:=m1.objs.hi hile
 have e1:=el1 X fun c h=>rfl
 rw[Yc]at e1
 obtain⟨u1,X1,a1,b1,k1⟩:=LL.cat (k:=X.length) (e:=8) (n:=0) (q:=j) (H:=X) LL.nil (Nat.le_refl _) oM (m.leaves (s.objs.take j) fun y hy=>List.mem_of_mem_take hy) (by rw[Qc,List.length_take];omega)
 have k1':Keeps X (X1++[⟨B.cells,.rw,8⟩]) (fun c=>X.length≤c):=k1.app' _
 have q1:X1[H.length]?=some B:=(k1.keep _ oM oM).trans hq
 have hBl:B.cells.all leaf=true:=by rw[hB];simp only[List.all_cons,List.all_nil,Jl,KU,lv1,lv2,Bool.and_true]
 have hBn:B.cells.length=8:=by rw[hB];rfl
 obtain⟨u2,X2,a2,b2,k2⟩:=LL.cat (k:=X.length) (q:=1) (new:=B.cells) (b1.keeps (.app X1 [⟨B.cells,.rw,8⟩])) (by have:=k1'.len;omega) oM hBl (by rw[hBn])
 have k2':=k1'.trans k2
 have e2:=el2 X2 fun c h=>hbd X2 k2' c _ h
 rw[Ye]at e2
 obtain⟨u3,X3,a3,b3,k3⟩:=LL.cat (k:=X.length) (q:=s.objs.length-j) (new:=Gu L.hv (s.objs.drop j)) b2 (by have:=k2'.len;omega) oM (m.leaves (s.objs.drop j) fun y hy=>List.mem_of_mem_drop hy) (by rw[Qc,List.length_drop])
 have k3':=k2'.trans k3
 have t0:=m1.cells
 have t2:X2[rb]?=_:=(hbd X2 k2' _ _ m1.top).trans t0
 have t3:X3[rb]?=_:=(hbd X3 k3' _ _ m1.top).trans t0
 have lv3:leaf u3=true:=b3.leaf
 obtain⟨o',L',r1,r2,r3⟩:=J3.GfA (Hf:=X3.set rb ⟨[L.bv,u3,L.fv,.i s.born],.rw,0⟩) m1 (l:=NA x s.objs) (hv:=fun i=>if i=x.id then(v1,v2)else L.hv i) (v:=u3) (born:=s.born)
  (by
   have e:Gu (fun i=>if i=x.id then(v1,v2)else L.hv i) (NA x s.objs)=[]++Gu L.hv (s.objs.take j)++B.cells++Gu L.hv (s.objs.drop j):=by
    have same:∀l:List Ob,(∀y∈l,y∈s.objs)→Gu (fun i=>if i=x.id then(v1,v2)else L.hv i) l=Gu L.hv l:=fun l=>by
     induction l with
     |nil=>intro _;rfl
     |cons y l ih=>
      intro h
      rw[GY,GY,ih fun z hz=>h z (VA _ hz)]
      have:=hid y (h y QT)
      simp[Gt,this]
    rw[M0,hj,YV,GY,same _ fun y hy=>List.mem_of_mem_take hy,same _ fun y hy=>List.mem_of_mem_drop hy,hB]
    simp[Gt]
   have en:(NA x s.objs).length=0+j+1+(s.objs.length-j):=by rw[M0,hj];simp;omega
   rw[e,en]
   exact b3.frame (fun c h=>h) fun c h=>by
    rw[KV]
    rintro rfl
    have:=(Gl.1 h).1
    have:=hkd _ _ m1.top
    omega)
  (by rw[List.length_set];exact k3'.len) (by grind) (fun d hd hn=>by rw[KV (Ne.symm hn)];exact k3'.keep d hd oM)
  (fun y hy=>by
   rcases GU.1 hy with rfl|hy
   ·rw[if_pos rfl];exact⟨h1.keeps g1,h2.keeps g1⟩
   ·rw[if_neg (hid y hy)];exact m1.refs y hy)
 refine⟨_,o',L',?_,r1,(KW.gr g1).trans r2⟩
 have hld:Ba X1[H.length]? 0 8=some B.cells:=by rw[q1,hB];rfl
 have hel:elems (X1++[⟨B.cells,.rw,8⟩]) 8 (.slice X1.length 0 1 1 8 false)=some (1,B.cells):=by
  rw[JN oM,lX8 (Nat.le_refl _)]
  simp[Ba,hBn,Qe]
 have GfI:fill [.int .i64 0,.int .i64 0,.int .i64 0,.int .i64 0,.int .i64 0,.Gd,.Gd,.bool false] [(0,8,.agg B.cells)]=some B.cells:=by
  rw[hB];rfl
 simp(disch:=first|exact dz|fail) only[simprocAttr,Gs,↓reduceIte,hix,f0,f3,t0,t2,t3,sl1,e1,a1,hld,GfI,hel,a2,sl2,e2,a3,Yb lv3]
end
end Go.Cs.Tryz
namespace Go.Cs.Tryz
open Go Go.Cs A
def C39:Gj:=⟨17,0,T [n 4 0] (S (T [m 6 0,m 7 1,q2 8 122 6 7,m 5 8] (T [m 9 5,bk 10 .neq 9 0] (I 10 (Q [m 11 5,m 4 11])))) (T [m 12 0,m 13 0,m 14 1,q2 15 87 13 14,q2 16 123 12 15] (Q [n 4 0]))),[r 4]⟩
theorem c39:P 39=some C39:=by kernel_rfl
def GqH:Gj:=⟨25,0,T [e 4 (.Km (c .Gd))] (T [m 5 4,m 6 0,z 7 6,f 8 1 7,l 9 1 8,m 10 1,e 11 (.slice 8 (t 9) none (some (t 10)) none),ap 12 8 5 11,m 4 12] (R [m 13 0,m 14 4,m 15 0,z 16 15,f 17 1 16,l 18 1 17,m 19 1,bk 20 .add 19 1,e 21 (.slice 8 (t 18) (some (t 20)) none none),ap 22 8 14 21,z 23 13,f 24 1 23,st 1 24 22])),[]⟩
theorem Grm:P 123=some GqH:=by kernel_rfl
abbrev MH:Gn:=S (T [m 74 10,m 75 0,z 76 75,f 77 1 76,l 78 1 77,le 79 78,b 80 .lss 74 79] (J 80 (X 0))) (S (B 1 (T [m 83 0,z 84 83,f 85 1 84,l 86 1 85,m 87 10,x 88 8 86 87,lg 89 8 88,e 11 (.new [i 0,i 0,i 0,i 0,i 0,.Gd,.Gd,.bool false]),st 8 11 89] (S (D [⟨f 90 1 11,0,0,0⟩,⟨l 91 1 90,1,1,0⟩,⟨m 92 3,2,0,0⟩,⟨b 93 .neq 91 92,3,0,0⟩,⟨m 94 93,4,0,0⟩,⟨gt 94 (lg 98 3 6),8,1,0⟩,⟨gt 94 (q1 99 190 98),9,3,0⟩,⟨gt 94 (f 95 0 11),5,0,0⟩,⟨gt 94 (l 96 1 95),6,1,0⟩,⟨gt 94 (m 97 1),7,0,0⟩,⟨gt 94 (b 100 .add 97 99),10,0,1⟩,⟨gt 94 (b 101 .lss 96 100),11,0,1⟩,⟨an 102 94 101,12,0,1⟩,⟨m 103 102,13,0,1⟩,⟨gt 103 (f 107 2 11),17,0,1⟩,⟨gt 103 (lg 108 3 107),18,1,1⟩,⟨gt 103 (q1 109 190 108),19,3,1⟩,⟨gt 103 (m 104 1),14,0,1⟩,⟨gt 103 (f 105 0 11),15,0,1⟩,⟨gt 103 (l 106 1 105),16,1,1⟩,⟨gt 103 (b 110 .add 106 109),20,0,2⟩,⟨gt 103 (b 111 .lss 104 110),21,0,2⟩,⟨an 112 103 111,22,0,2⟩]) (I 112 (Q [n 8 8]))))) (R [m 81 10,bk 82 .add 81 1,m 10 82]))
def Gs_:Gj:=⟨113,0,T [bo 6 2,n 8 0] (S (T [m 12 1,bk 13 .lss 12 0,m 14 13,gf 14 (m 15 1),gf 14 (bk 16 .rem 15 2),gf 14 (bk 17 .neq 16 0),or 18 14 17,m 19 18,gf 19 (m 20 1),gf 19 (m 21 0),gf 19 (z 22 21),gf 19 (f 23 0 22),gf 19 (l 24 1 23),gf 19 (le 25 24),gf 19 (bk 26 .mul 25 64),gf 19 (b 27 .geq 20 26),or 28 19 27] (I 28 (Q [n 8 1]))) (T [m 29 1,bk 30 .quo 29 64,m 9 30] (S (T [lg 31 3 6,q1 32 117 31] (C 32 (S (D [⟨m 33 1,0,0,0⟩,⟨bk 34 .rem 33 64,1,0,0⟩,⟨bk 35 .neq 34 0,2,0,0⟩,⟨m 36 35,3,0,0⟩,⟨gf 36 (m 37 0),4,0,0⟩,⟨gf 36 (z 38 37),5,0,0⟩,⟨gf 36 (f 39 0 38),6,0,0⟩,⟨gf 36 (l 40 1 39),7,1,0⟩,⟨gf 36 (m 41 9),8,0,0⟩,⟨gf 36 (x 42 2 40 41),9,0,0⟩,⟨gf 36 (f 43 0 42),10,0,0⟩,⟨gf 36 (l 44 1 43),11,1,0⟩,⟨gf 36 (bk 45 .neq 44 2),12,0,0⟩,⟨or 46 36 45,13,0,0⟩,⟨m 47 46,14,0,0⟩,⟨gf 47 (m 48 0),15,0,0⟩,⟨gf 47 (m 49 9),16,0,0⟩,⟨gf 47 (q2 50 262 48 49),17,3,0⟩,⟨gf 47 (lg 51 3 6),18,1,0⟩,⟨gf 47 (q1 52 119 51),19,3,1⟩,⟨gf 47 (b 53 .neq 50 52),20,0,2⟩,⟨or 54 47 53,21,0,2⟩]) (I 54 (Q [n 8 5]))) (T [m 55 0,z 56 55,f 57 0 56,l 58 1 57,m 59 9,x 60 2 58 59,f 61 0 60,l 62 1 61,bk 63 .neq 62 1,m 64 63,gf 64 (m 65 1),gf 64 (lg 66 3 6),gf 64 (q1 67 190 66),gf 64 (b 68 .add 65 67),gf 64 (bk 69 .sub 68 1),gf 64 (bk 70 .quo 69 64),gf 64 (m 71 9),gf 64 (b 72 .neq 70 71),or 73 64 72] (I 73 (Q [n 8 5]))))) (S (T [n 10 0] (B 0 (W MH))) (Q [n 8 0]))))),[r 8]⟩
theorem God:P 216=some Gs_:=by kernel_rfl
end Go.Cs.Tryz
namespace Go.Cs
open Go
def Hp.QU(s:Hp)(a n:Nat)(but:Int):Bool:=s.objs.any fun o=>(o.id:Int) != but&&(decide (o.addr<a+n)&&decide (a<o.addr+o.size))
theorem Hp.Ok.QU{s:Hp}(k:s.Ok)(a n:Nat):s.QU a n 0=s.taken a n (-1):=by
 unfold Hp.QU Hp.taken
 rw[Bool.eq_iff_iff,List.any_eq_true,List.any_eq_true]
 constructor
 ·grind
 ·rintro ⟨x,hx,h⟩
  refine⟨x,hx,?_⟩
  have:=(k.ob x hx).id
  grind
def Hp.Ab(s:Hp)(a:Int)(n:Nat)(but:Int):Int:=
 if a<0∨(s.nw:Int)≤a∨a.toNat % 2≠0 then 1
 else if n≤32 then(if s.Gx (a.toNat/64)≠1∨(a.toNat+n-1)/64≠a.toNat/64 then 5 else if s.QU a.toNat n but then 8 else 0)
 else(if s.Gx (a.toNat/64)≠2∨a.toNat % 64≠0∨s.span (a.toNat/64)≠(n+63)/64 then 5 else if s.QU a.toNat n but then 8 else 0)
theorem Hp.Ok.Ab{s:Hp}(k:s.Ok)(a:Int)(n:Nat):s.Ab a n 0=s.fits a n (-1):=by
 unfold Hp.Ab Hp.fits
 rw[k.QU]
theorem Hp.SQ{s:Hp}(k:s.Ok){j:Nat}{x:Ob}(hx:s.objs[j]?=some x):(s.without x.addr).objs=s.objs.take j++s.objs.drop (j+1):=by
 have key:∀(l:List Ob)(j:Nat),l[j]?=some x→(∀i y,l[i]?=some y→y.addr=x.addr→i=j)→(l.filter fun y=>y.addr != x.addr)=l.take j++l.drop (j+1):=by
  intro l
  induction l with
  |nil=>intro j h;simp at h
  |cons y l ih=>
   intro j h hu
   cases j with
   |zero=>
    simp only[List.getElem?_cons_zero,GA]at h
    subst h
    rw[List.filter_cons_of_neg sM,List.take_zero,List.nil_append,List.drop_succ_cons,List.drop_zero]
    rw[List.filter_eq_self]
    intro z hz
    obtain⟨i,hi,rfl⟩:=List.getElem_of_mem hz
    simp only[bne_iff_ne]
    intro e
    have:=hu (i+1) _ (by simp[hi]) e
    omega
   |succ j=>
    simp only[List.getElem?_cons_succ]at h
    have hy:y.addr≠x.addr:=fun e=>by have:=hu 0 y rfl e;omega
    rw[List.filter_cons_of_pos (by simpa using hy),List.take_succ_cons,List.drop_succ_cons,List.cons_append,ih j h fun i z hz e=>by have:=hu (i+1) z (by simpa using hz) e;omega]
 exact key s.objs j hx fun i y hy e=>k.Tm hy hx e
end Go.Cs
namespace Go.Cs.Tryz
open Go Go.Cs
section
variable {H : Gb} {o : Tags} {rb : Nat} {s : Hp} {L : NG}
theorem GiY(m:J3 o H rb s L)(k:s.Ok){j:Nat}{x:Ob}(hx:s.objs[j]?=some x):
  Am o H rb (s.without x.addr) (.Jj []) (run P 123 [.ptr rb 0,.i j] H):=by
 have few:=k.few
 have hj:=Gf hx
 have hkd:∀c t,o c=some t→c<H.length:=m.dom
 have hbd:∀Y:Gb,Keeps H Y (fun c=>H.length≤c)→∀c t,o c=some t→Y[c]?=H[c]?:=fun Y kY c t h=>kY.keep c (hkd c t h) (by have:=hkd c t h;omega)
 obtain⟨w1,sl1,el1⟩:=m.objs.lo (j:=j) oM
 obtain⟨w2,sl2,el2⟩:=m.objs.hi (j:=j+1) oM
 have e1:=el1 H fun c h=>rfl
 rw[Yc]at e1
 obtain⟨u1,X1,a1,b1,k1⟩:=LL.cat (k:=H.length) (e:=8) (n:=0) (q:=j) (H:=H) LL.nil (Nat.le_refl _) oM (m.leaves (s.objs.take j) fun y hy=>List.mem_of_mem_take hy) (by rw[Qc,List.length_take];omega)
 have e2:=el2 X1 fun c h=>hbd X1 k1 c _ h
 rw[Ye]at e2
 obtain⟨u2,X2,a2,b2,k2⟩:=LL.cat (k:=H.length) (q:=s.objs.length-(j+1)) (new:=Gu L.hv (s.objs.drop (j+1))) b1 k1.len oM (m.leaves (s.objs.drop (j+1)) fun y hy=>List.mem_of_mem_drop hy) (by rw[Qc,List.length_drop])
 have k2':=k1.trans k2
 have t0:=m.cells
 have t1:X1[rb]?=_:=(hbd X1 k1 _ _ m.top).trans t0
 have t2:X2[rb]?=_:=(hbd X2 k2' _ _ m.top).trans t0
 have lv2:leaf u2=true:=b2.leaf
 have GnZ:=s.SQ k hx
 obtain⟨o',L',r1,r2,r3⟩:=J3.GfA (Hf:=X2.set rb ⟨[L.bv,u2,L.fv,.i s.born],.rw,0⟩) m (l:=(s.without x.addr).objs) (hv:=L.hv) (v:=u2) (born:=s.born)
  (by
   have e:Gu L.hv (s.without x.addr).objs=[]++Gu L.hv (s.objs.take j)++Gu L.hv (s.objs.drop (j+1)):=by
    rw[GnZ,YV];rfl
   have en:(s.without x.addr).objs.length=0+j+(s.objs.length-(j+1)):=by rw[GnZ];simp;omega
   rw[e,en]
   exact b2.frame (fun c h=>h) fun c h=>by
    rw[KV]
    rintro rfl
    have:=(Gl.1 h).1
    have:=hkd _ _ m.top
    omega)
  (by rw[List.length_set];exact k2'.len) (by grind) (fun d hd hn=>by rw[KV (Ne.symm hn)];exact k2'.keep d hd oM)
  (fun y hy=>m.refs y (s.GV.1 hy).1)
 refine⟨_,o',L',?_,r1,r2⟩
 have w:IntKind.i64.wrap ((j:Int)+1)=((j+1:Nat):Int):=Gg oM
 rw[Gh Grm _ _ sM]
 exact W0
theorem GhG(m:J3 o H rb s L)(k:s.Ok)(a:Int):Am o H rb (s.kill a).1 (.i (s.kill a).2) (run P 39 [.ptr rb 0,.i a] H):=by
 have h0:=Yw m k a
 have h1:=KR m k a
 unfold Hp.KC at h1
 unfold Hp.kill
 cases e:s.obj a with
 |none=>
  have h:=Hp.J_.2 e
  rw[h]at h0
  refine⟨H,o,L,?_,m,KW.refl H⟩
  rw[Gh c39 _ _ sM]
  exact W0
 |some x=>
  have h:=Hp.J4.2 ⟨x,e⟩
  rw[h]at h0 h1
  rw[if_pos rfl]at h1
  obtain⟨H',o',L',q1,q2,q3⟩:=GiY m k (Hp.Q_ e)
  refine⟨H',o',L',?_,q2,q3⟩
  rw[Gh c39 _ _ sM]
  exact W0
theorem Gcy(m:J3 o H rb s L)(k:s.Ok){a:Nat}{but r d kd:Int}{q:Nat}(hq:H[q]?=some ⟨GX r d kd,.rw,0⟩) (hv:JQ r d kd=true) (ha:a≤100000)
  {E0:Env} (h0:E0 0=.ptr rb 0) (h1:E0 1=.i a) (h3:E0 3=.i but) (h6:E0 6=.ptr q 0) (h10:E0 10=.i 0) {r':Option (CX×Env×Gb)} (hr:den P (.loop MH) E0 H=r'):
  ∃x E' H',r'=some (x,E',H')∧Gr H H'∧((x=.ret∧E' 8=.i 8∧s.QU a (G6 r.toNat d.toNat) but=true)∨(x=.exit 0∧s.QU a (G6 r.toNat d.toNat) but=false)):=by
 have few:=k.few
 have hw:Gv r d kd=((G6 r.toNat d.toNat:Nat):Int):=by unfold Gv;rw[if_pos hv]
 have hwb:=QZ r d kd
 rw[hw]at hwb
 obtain⟨x',E',H',e,-,⟨g,hf⟩,fr⟩:=Gq (p:=P) (c:=MH) (E0:=E0) (H0:=H)
  (fun q E H'=>Gr H H'∧∃j:Nat,E 10=.i j∧j≤s.objs.length∧q=s.objs.length-j∧∀i y,i<j→s.objs[i]?=some y→((y.id:Int) != but&&(decide (y.addr<a+G6 r.toNat d.toNat)&&decide (a<y.addr+y.size)))=false)
  (fun x E' H'=>Gr H H'∧((x=.ret∧E' 8=.i 8∧s.QU a (G6 r.toNat d.toNat) but=true)∨(x=.exit 0∧s.QU a (G6 r.toNat d.toNat) but=false))) (by
   rintro q' E H' hE ⟨g,j,e10,hj,rfl,hd⟩
   have e0:=(hE 0 dK).trans h0
   have e1:=(hE 1 dK).trans h1
   have e3:=(hE 3 dK).trans h3
   have e6:=(hE 6 dK).trans h6
   have m':=m.gr g
   have hc:=m'.cells
   have hl:=m'.objs.len H'
   by_cases c:j<s.objs.length
   ·have hx:s.objs[j]?=some s.objs[j]:=Jr c
    obtain⟨x,hxe⟩:∃x,x=s.objs[j]:=⟨_,rfl⟩
    rw[←hxe]at hx
    have hxm:x∈s.objs:=JV hx
    have hok:=k.ob x hxm
    have c':decide ((j:Int)<(s.objs.length:Int))=true:=Gz oM
    obtain⟨b,n,tl,q1,q2,q3,q4,q5,q6⟩:=J3.row m' hx
    have q7:Ba (some ⟨Gu L.hv s.objs,.rw,8⟩) (j*8) 8=some (Gt L.hv x):=by
     rw[Qg,if_pos oM,QH hx]
    rw[q1]at hc hl
    obtain⟨Y,hY⟩:∃Y:Gb,Y=H'++[⟨Gt L.hv x,.rw,0⟩]:=⟨_,rfl⟩
    have gY:Gr H' Y:=by rw[hY];exact Gr.app _ _
    have lY:Y[H'.length]?=some ⟨Gt L.hv x,.rw,0⟩:=by rw[hY];simp
    have qY:=Gr.get (g.trans gY) hq
    obtain⟨Y1,y1,g1⟩:=Qz (H:=Y) r d kd
    rw[hw]at y1
    have lY1:=g1.get lY
    have hsz:=Ob.size_le hok
    have hnw:=hok.fits
    have hws:Gv x.refs.length x.data.length x.kd=(x.size:Int):=by unfold Gv;rw[if_pos hok.valid];rfl
    obtain⟨Y2,y2,g2⟩:=Qz (H:=Y1) x.refs.length x.data.length x.kd
    rw[hws]at y2
    have lY2:=g2.get lY1
    have hnb:=k.nb
    have hsn:s.nw=64*s.blk.length:=rfl
    have wA:IntKind.i64.wrap ((a:Int)+((G6 r.toNat d.toNat:Nat):Int))=(a:Int)+((G6 r.toNat d.toNat:Nat):Int):=Gg oM
    have wB:IntKind.i64.wrap ((x.addr:Int)+(x.size:Int))=(x.addr:Int)+(x.size:Int):=Gg oM
    have w1:IntKind.i64.wrap ((j:Int)+1)=((j+1:Nat):Int):=Gg oM
    have RS:Hl (H'++[⟨[.int .i64 0,.int .i64 0,.int .i64 0,.int .i64 0,.int .i64 0,.Gd,.Gd,.bool false],.rw,0⟩]) H'.length (some ⟨[.int .i64 0,.int .i64 0,.int .i64 0,.int .i64 0,.int .i64 0,.Gd,.Gd,.bool false],.rw,0⟩) 0 (Gt L.hv x)=some Y:=by
     rw[UD (by simp[Gt]) (by simp[Gt,Jl,KU,(m.refs x hxm).1.leaf,(m.refs x hxm).2.leaf]),hY]
     congr 1
     rw[List.set_append_right _ _ (Nat.le_refl _)]
     simp[splice,Gt]
    have qY1:=g1.get qY
    unfold Gt at lY lY1 lY2 RS q7
    unfold GX at y1 y2 qY qY1
    have go:∀(Z:Gb),Gr H' Z→((x.id:Int) != but&&(decide (x.addr<a+G6 r.toNat d.toNat)&&decide (a<x.addr+x.size)))=false→
      ∀i y,i<j+1→s.objs[i]?=some y→((y.id:Int) != but&&(decide (y.addr<a+G6 r.toNat d.toNat)&&decide (a<y.addr+y.size)))=false:=fun Z _ hz i y hi hy=>by
     grind
    by_cases ci:(x.id:Int)=but
    ·have ci':((x.id:Int) != but)=false:=by simp[ci]
     apply Gm (k':=s.objs.length-(j+1))
     ·refine W12 e0 e3 e10 hc hl c' q3 q7 RS lY ci' w1 ?_
      rfl
     ·omega
     ·exact⟨g.trans gY,j+1,uA,oM,rfl,go Y gY (by rw[ci'];rfl)⟩
    ·have ci':((x.id:Int) != but)=true:=by simp[ci]
     by_cases cA:x.addr<a+G6 r.toNat d.toNat
     ·have cA':decide ((x.addr:Int)<(a:Int)+((G6 r.toNat d.toNat:Nat):Int))=true:=Gz oM
      by_cases cB:a<x.addr+x.size
      ·have cB':decide ((a:Int)<(x.addr:Int)+(x.size:Int))=true:=Gz oM
       apply Gi (x:=.ret)
       ·refine W22 e0 e1 e3 e6 e10 hc hl c' q3 q7 RS lY lY1 lY2 qY ci' y1 y2 wA wB cA' cB' ?_
        rfl
       ·simp
       ·refine⟨(g.trans gY).trans (g1.trans g2),.inl ⟨rfl,uA,?_⟩⟩
        unfold Hp.QU
        grind
      ·have cB':decide ((a:Int)<(x.addr:Int)+(x.size:Int))=false:=Gw oM
       apply Gm (k':=s.objs.length-(j+1))
       ·refine W23 e0 e1 e3 e6 e10 hc hl c' q3 q7 RS lY lY1 lY2 qY ci' y1 y2 wA wB cA' cB' w1 ?_
        rfl
       ·omega
       ·exact⟨(g.trans gY).trans (g1.trans g2),j+1,uA,oM,rfl,go Y gY (by simp[cB])⟩
     ·have cA':decide ((x.addr:Int)<(a:Int)+((G6 r.toNat d.toNat:Nat):Int))=false:=Gw oM
      apply Gm (k':=s.objs.length-(j+1))
      ·refine W19 e0 e1 e3 e6 e10 hc hl c' q3 q7 RS lY lY1 qY ci' y1 wA cA' w1 ?_
       rfl
      ·omega
      ·exact⟨(g.trans gY).trans g1,j+1,uA,oM,rfl,go Y gY (by simp[cA])⟩
   ·have c':decide ((j:Int)<(s.objs.length:Int))=false:=Gw oM
    apply Gi (x:=.exit 0)
    ·refine Jb ?_
     rfl
    ·simp
    ·refine⟨g,.inr ⟨rfl,?_⟩⟩
     rw[←Bool.not_eq_true]
     unfold Hp.QU
     rw[List.any_eq_true]
     rintro ⟨y,hy,hh⟩
     obtain⟨i,hi,rfl⟩:=List.getElem_of_mem hy
     rw[hd i _ oM (Jr hi)]at hh
     cases hh) _ ⟨Keeps.refl H _,0,h10,oM,rfl,fun i y hi=>by omega⟩
 grind
end
end Go.Cs.Tryz

namespace Go.Cs
open Go
theorem Hp.GfQ{s:Hp}{a:Int}{n:Nat}{but:Int}(h:¬(a<0∨(s.nw:Int)≤a∨a.toNat % 2≠0))(hn:¬n≤32):
  s.Ab a n but=if s.Gx (a.toNat/64)≠2∨a.toNat % 64≠0∨s.span (a.toNat/64)≠(n+63)/64 then 5 else if s.QU a.toNat n but then 8 else 0:=by
 unfold Hp.Ab
 rw[if_neg h,if_neg hn]
theorem Hp.GaQ{s:Hp}{a:Int}{n:Nat}{but:Int}(h:¬(a<0∨(s.nw:Int)≤a∨a.toNat % 2≠0))(hn:n≤32):
  s.Ab a n but=if s.Gx (a.toNat/64)≠1∨(a.toNat+n-1)/64≠a.toNat/64 then 5 else if s.QU a.toNat n but then 8 else 0:=by
 unfold Hp.Ab
 rw[if_neg h,if_pos hn]
theorem Af(r d:Nat):2≤G6 r d:=by unfold G6;omega
end Go.Cs
namespace Go.Cs.Tryz
open Go Go.Cs
section
variable {H : Gb} {o : Tags} {rb : Nat} {s : Hp} {L : NG}
theorem GfL(m:J3 o H rb s L)(k:s.Ok)(a:Int){r d kd:Int}(but:Int)(hv:JQ r d kd=true):
  ∃H',run P 216 [.ptr rb 0,.i a,.agg (GX r d kd),.i but] H=some (.i (s.Ab a (G6 r.toNat d.toNat) but),H')∧Gr H H':=by
 obtain⟨n,hn⟩:∃n,n=G6 r.toNat d.toNat:=⟨_,rfl⟩
 have hw:Gv r d kd=((n:Nat):Int):=by unfold Gv;rw[if_pos hv,hn]
 have hwb:=QZ r d kd
 rw[hw]at hwb
 have hn2:=Af r.toNat d.toNat
 rw[←hn]at hn2⊢
 have hnb:=k.nb
 have hsn:s.nw=64*s.blk.length:=rfl
 have wl:IntKind.i64.wrap ((s.blk.length:Int)*64)=(s.nw:Int):=by rw[hsn,Gg oM];omega
 obtain⟨Y,hY⟩:∃Y:Gb,Y=H++[⟨GX r d kd,.rw,0⟩]:=⟨_,rfl⟩
 have gY:Gr H Y:=by rw[hY];exact Gr.app _ _
 have lY:Y[H.length]?=some ⟨GX r d kd,.rw,0⟩:=by rw[hY];simp
 have m':=m.gr gY
 have hc:=m'.cells
 have hl:=m'.blk.len Y
 have hg:∀h:¬(a<0∨(s.nw:Int)≤a∨a.toNat % 2≠0),∃q:Nat,a=q∧q<s.nw∧q % 2=0:=fun h=>⟨a.toNat,oM,oM,oM⟩
 by_cases c0:a<0∨(s.nw:Int)≤a∨a.toNat % 2≠0
 ·have e:s.Ab a n but=1:=by unfold Hp.Ab;rw[if_pos c0]
  rw[e]
  refine⟨Y,?_,gY⟩
  rw[Gh God _ _ sM]
  unfold GX at hY
  by_cases c1:a<0
  ·simp(disch:=first|exact dz|fail) only[simprocAttr,Gs,↓reduceIte,NY,c1,GX]
   rw[←hY]
  ·obtain⟨q,rfl⟩:∃q:Nat,a=q:=⟨a.toNat,oM⟩
   have hm:(q:Int).tmod 2=((q % 2:Nat):Int):=VY q 2
   by_cases c2:q % 2=0
   ·have e2:(((q % 2:Nat):Int) != 0)=false:=by rw[c2];rfl
    have c3:(s.nw:Int)≤(q:Int):=by omega
    simp(disch:=first|exact dz|fail) only[simprocAttr,Gs,↓reduceIte,NY,c1,GX,Jw,hm,e2]
    rw[←hY]
    exact V4 hc hl wl c3
   ·have e2:(((q % 2:Nat):Int) != 0)=true:=by simp;omega
    simp(disch:=first|exact dz|fail) only[simprocAttr,Gs,↓reduceIte,NY,c1,GX,Jw,hm,e2]
    rw[←hY]
 ·obtain⟨q,rfl,hq1,hq2⟩:=hg c0
  have hm:(q:Int).tmod 2=((q % 2:Nat):Int):=VY q 2
  have e2:(((q % 2:Nat):Int) != 0)=false:=by rw[hq2];rfl
  have c1:decide ((q:Int)<0)=false:=Gw oM
  have c3:decide ((s.nw:Int)≤(q:Int))=false:=Gw oM
  have Gbd:(q:Int).tdiv 64=((q/64:Nat):Int):=KN q 64
  have GdA:(q:Int).tmod 64=((q % 64:Nat):Int):=VY q 64
  have wd:IntKind.i64.wrap ((q/64:Nat):Int)=((q/64:Nat):Int):=Gg oM
  have hqb:q/64<s.blk.length:=by omega
  have hx:s.blk[q/64]?=some s.blk[q/64]:=Jr hqb
  have hst:s.Gx (q/64)=(s.blk[q/64]).1:=by unfold Hp.Gx;grind
  obtain⟨Y1,y1,g1⟩:=AQ (H:=Y) r d kd
  rw[hw]at y1
  have m1:=m'.gr g1
  have gY1:=Gr.get g1 lY
  obtain⟨bb,tl,p1,p2,p3,p4,p5⟩:=AP m1 hx
  have hc1:=m1.cells
  rw[p1]at hc hl hc1
  rw[←hst]at p4
  rw[Gh God _ _ sM]
  unfold GX at hY lY y1 gY1
  by_cases cn:n≤32
  ·rw[Hp.GaQ c0 cn,Kt]
   have cn':decide ((32:Int)<(n:Int))=false:=Gw oM
   rw[cn']at y1
   obtain⟨Y2,y2,g2⟩:=Qz (H:=Y1) r d kd
   rw[hw]at y2
   have m2:=m1.gr g2
   have gY2:=Gr.get g2 gY1
   unfold GX at y2
   have wA:IntKind.i64.wrap ((q:Int)+(n:Int))=((q+n:Nat):Int):=Gg oM
   have wB:IntKind.i64.wrap (((q+n:Nat):Int)-1)=((q+n-1:Nat):Int):=by rw[Gg oM];omega
   have wC:((q+n-1:Nat):Int).tdiv 64=(((q+n-1)/64:Nat):Int):=KN _ 64
   have wD:IntKind.i64.wrap (((q+n-1)/64:Nat):Int)=(((q+n-1)/64:Nat):Int):=Gg oM
   by_cases s1:s.Gx (q/64)=1
   ·have e3:(((s.Gx (q/64):Nat):Int) != 1)=false:=by rw[s1];rfl
    by_cases s2:(q+n-1)/64=q/64
    ·rw[if_neg oM]
     have e4:((((q+n-1)/64:Nat):Int) != ((q/64:Nat):Int))=false:=by rw[s2];simp
     simp(disch:=first|exact dz|fail) only[simprocAttr,Gs,↓reduceIte,NY,GX,c1,Jw,hm,e2]
     rw[←hY]
     refine W20 hc hl wl c3 Gbd wd lY y1 hc1 p3 p4 e3 gY1 y2 wA wB wC wD e4 @Ji ?_
     generalize hr:den P (.loop MH) _ _=rr
     obtain⟨x,E',H',rfl,g3,hh⟩:=Gcy m2 k (a:=q) (but:=but) (q:=H.length) gY2 hv oM uA uA uA uA uA hr
     rw[←hn]at hh
     refine⟨H',?_,((gY.trans g1).trans g2).trans g3⟩
     rcases hh with⟨rfl,h8,ht⟩|⟨rfl,ht⟩
     ·rw[if_pos ht]
      exact W0
     ·rw[if_neg (by rw[ht];simp)]
      exact W0
    ·rw[if_pos oM]
     have e4:((((q+n-1)/64:Nat):Int) != ((q/64:Nat):Int))=true:=by simp;omega
     refine⟨Y2,?_,(gY.trans g1).trans g2⟩
     simp(disch:=first|exact dz|fail) only[simprocAttr,Gs,↓reduceIte,NY,GX,c1,Jw,hm,e2]
     rw[←hY]
     exact V20 hc hl wl c3 Gbd wd lY y1 hc1 p3 p4 e3 gY1 y2 wA wB wC wD e4 @Ji
   ·rw[if_pos oM]
    have e3:(((s.Gx (q/64):Nat):Int) != 1)=true:=by simp;omega
    refine⟨Y1,?_,gY.trans g1⟩
    simp(disch:=first|exact dz|fail) only[simprocAttr,Gs,↓reduceIte,NY,GX,c1,Jw,hm,e2]
    rw[←hY]
    exact V13 hc hl wl c3 Gbd wd lY y1 hc1 p3 p4 e3 @Ji
  ·rw[Hp.GfQ c0 cn,Kt]
   have cn':decide ((32:Int)<(n:Int))=true:=Gz oM
   rw[cn']at y1
   have hwh:=Gek m1 k hqb
   obtain⟨Y2,y2,g2⟩:=Ol (H:=Y1) r d kd
   rw[hw]at y2
   have hne:((n:Int)+63)/64=(((n+63)/64:Nat):Int):=by omega
   rw[hne]at y2
   have m2:=m1.gr g2
   have gY2:=Gr.get g2 gY1
   unfold GX at y2
   by_cases t1:q % 64=0
   ·have e3:(((q % 64:Nat):Int) != 0)=false:=by rw[t1];rfl
    by_cases t2:s.Gx (q/64)=2
    ·have e4:(((s.Gx (q/64):Nat):Int) != 2)=false:=by rw[t2];rfl
     have GtN:s.whole (q/64)=s.span (q/64):=by unfold Hp.whole;rw[if_neg oM,if_pos t2]
     rw[GtN]at hwh
     by_cases t3:s.span (q/64)=(n+63)/64
     ·rw[if_neg oM]
      have e5:((s.span (q/64):Int) != (((n+63)/64:Nat):Int))=false:=by rw[t3];simp
      simp(disch:=first|exact dz|fail) only[simprocAttr,Gs,↓reduceIte,NY,GX,c1,Jw,hm,e2]
      rw[←hY]
      refine W20 hc hl wl c3 Gbd wd lY y1 hc1 p3 p4 GdA e3 e4 hwh gY1 y2 e5 @Ji @Ns ?_
      generalize hr:den P (.loop MH) _ _=rr
      obtain⟨x,E',H',rfl,g3,hh⟩:=Gcy m2 k (a:=q) (but:=but) (q:=H.length) gY2 hv oM uA uA uA uA uA hr
      rw[←hn]at hh
      refine⟨H',?_,((gY.trans g1).trans g2).trans g3⟩
      rcases hh with⟨rfl,h8,ht⟩|⟨rfl,ht⟩
      ·rw[if_pos ht]
       exact W0
      ·rw[if_neg (by rw[ht];simp)]
       exact W0
     ·rw[if_pos oM]
      have e5:((s.span (q/64):Int) != (((n+63)/64:Nat):Int))=true:=by simp;omega
      refine⟨Y2,?_,(gY.trans g1).trans g2⟩
      simp(disch:=first|exact dz|fail) only[simprocAttr,Gs,↓reduceIte,NY,GX,c1,Jw,hm,e2]
      rw[←hY]
      exact V20 hc hl wl c3 Gbd wd lY y1 hc1 p3 p4 GdA e3 e4 hwh gY1 y2 e5 @Ji @Ns
    ·rw[if_pos oM]
     have e4:(((s.Gx (q/64):Nat):Int) != 2)=true:=by simp;omega
     refine⟨Y1,?_,gY.trans g1⟩
     simp(disch:=first|exact dz|fail) only[simprocAttr,Gs,↓reduceIte,NY,GX,c1,Jw,hm,e2]
     rw[←hY]
     exact V16 hc hl wl c3 Gbd wd lY y1 hc1 p3 p4 GdA e3 e4 @Ji @Ns
   ·rw[if_pos oM]
    have e3:(((q % 64:Nat):Int) != 0)=true:=by simp;omega
    refine⟨Y1,?_,gY.trans g1⟩
    simp(disch:=first|exact dz|fail) only[simprocAttr,Gs,↓reduceIte,NY,GX,c1,Jw,hm,e2]
    rw[←hY]
    exact V12 hc hl wl c3 Gbd wd lY y1 GdA e3 @Ji @Ns
end
end Go.Cs.Tryz
namespace Go.Cs.Tryz
open Go Go.Cs A
def GtM:Gj:=⟨48,0,T [bo 5 2,n 6 0,n 7 0] (S (T [m 9 0,q1 10 68 9,no 11 10] (I 11 (Q [n 6 0,n 7 5]))) (S (T [lg 12 3 5,q1 13 215 12,no 14 13] (I 14 (Q [n 6 0,n 7 2]))) (S (T [m 15 0,m 16 1,lg 17 3 5,ca 18 216 [t 15,t 16,t 17,k 0],m 8 18] (T [m 19 8,bk 20 .neq 19 0] (I 20 (Q [m 21 8,n 6 0,m 7 21])))) (T [m 22 0,z 23 22,f 24 3 23,l 25 1 24,bk 26 .add 25 1,z 27 22,f 28 3 27,st 1 28 26] (S (D [⟨m 29 0,0,0,0⟩,⟨m 30 1,1,0,0⟩,⟨m 31 0,2,0,0⟩,⟨z 32 31,3,0,0⟩,⟨f 33 3 32,4,0,0⟩,⟨l 34 1 33,5,1,0⟩,⟨lg 35 3 5,6,1,0⟩,⟨f 36 0 5,7,0,0⟩,⟨l 37 1 36,8,1,0⟩,⟨e 38 (.makeSlice 1 [i 0] (t 37) (t 37)),9,0,0⟩,⟨f 39 1 5,10,0,0⟩,⟨l 40 1 39,11,1,0⟩,⟨e 41 (.makeSlice 1 [i 0] (t 40) (t 40)),12,0,0⟩,⟨e 42 (.build [i 0,i 0,i 0,i 0,i 0,.Gd,.Gd,.bool false] [(0,1,t 30),(1,1,t 34),(2,3,t 35),(5,1,t 38),(6,1,t 41)]),13,0,0⟩,⟨q2 43 217 29 42,14,3,0⟩]) (Q [m 44 0,z 45 44,f 46 3 45,l 47 1 46,m 6 47,n 7 0])))))),[r 6,r 7]⟩
theorem Gm_:P 120=some GtM:=by kernel_rfl
end Go.Cs.Tryz
namespace Go.Cs
open Go
theorem Yz:∀n:Nat,(List.replicate n [CV.int .i64 0]).flatten=ints (List.replicate n 0)
 |0=>rfl
 |n+1=>by rw[List.replicate_succ,List.flatten_cons,Yz n,List.replicate_succ];rfl
theorem J3.Sm{o:Tags}{H:Gb}{rb:Nat}{s:Hp}{L:NG}(m:J3 o H rb s L)(n:Nat):J3 o (H.set rb ⟨[L.bv,L.ov,L.fv,.i n],.rw,0⟩) rb {s with born:=n} L:=by
 have old:∀c t,o c=some t→t≠(0,0,0)→(H.set rb ⟨[L.bv,L.ov,L.fv,.i n],.rw,0⟩)[c]?=H[c]?:=fun c t h hn=>by
  rw[KV];rintro rfl;rw[m.top]at h;grind
 exact⟨fun c t h=>by rw[List.length_set];exact m.dom c t h,m.top,by rw[Va (m.dom _ _ m.top)],m.fv,m.blk.frame (fun c h=>h) fun c h=>old c _ h sM,
  m.objs.frame (fun c h=>h) fun c h=>old c _ h sM,fun x hx=>⟨(m.refs x hx).1.frame (fun c h=>h) fun c h=>old c _ h sM,(m.refs x hx).2.frame (fun c h=>h) fun c h=>old c _ h sM⟩⟩
theorem Hp.Ok.Sm{s:Hp}(k:s.Ok){n:Nat}(h:s.born≤n)(h2:n≤1000000000000):({s with born:=n}:Hp).Ok where
 nb:=k.nb
 st:=k.st
 ob:=fun x hx=>by
  have q:=k.ob x hx
  exact⟨q.even,q.nr,q.nd,q.kd,⟨q.id.1,J2 q.id.2 h⟩,q.fits⟩
 apart:=k.apart
 ids:=k.ids
 born:=h2
end Go.Cs
namespace Go.Cs.Tryz
open Go Go.Cs
section
variable {H : Gb} {o : Tags} {rb : Nat} {s : Hp} {L : NG}
theorem Gfg(m:J3 o H rb s L)(k:s.Ok)(hborn:s.born<1000000000000)(a r d kd:Int):Am o H rb (s.place a r d kd).1 (UF (s.place a r d kd).2) (run P 120 [.ptr rb 0,.i a,.agg (GX r d kd)] H):=by
 obtain⟨X,hX⟩:∃X:Gb,X=H++[⟨GX r d kd,.rw,0⟩]:=⟨_,rfl⟩
 have gX:Gr H X:=by rw[hX];exact Gr.app _ _
 have lX:X[H.length]?=some ⟨GX r d kd,.rw,0⟩:=by rw[hX];simp
 have mX:=m.gr gX
 have hm:=Nt mX k
 have hvv:=Rk (H:=X) r d kd
 have gX1:Gr X (X++[⟨GX r d kd,.rw,0⟩]):=Gr.app _ _
 have mX1:=mX.gr gX1
 unfold Hp.place
 by_cases hv:JQ r d kd=true
 ·rw[if_pos hv]
  rw[hv]at hvv
  obtain⟨X2,f1,g2⟩:=GfL mX1 k a 0 hv
  rw[k.Ab]at f1
  have m2:=mX1.gr g2
  have GD:=Gr.get gX1 lX
  have Jk:=Gr.get g2 GD
  by_cases hf:s.fits a (G6 r.toNat d.toNat) (-1)=0
  ·rw[if_pos hf]
   rw[hf]at f1
   obtain⟨q,rfl,e1,e2,e3⟩:=k.TY (by have:=Af r.toNat d.toNat;omega) hf
   have vb:=QD hv
   obtain⟨r,rfl⟩:∃n:Nat,r=n:=⟨r.toNat,oM⟩
   obtain⟨d,rfl⟩:∃n:Nat,d=n:=⟨d.toNat,oM⟩
   obtain⟨kd,rfl⟩:∃n:Nat,kd=n:=⟨kd.toNat,oM⟩
   simp only[Kt]at e1 e2 e3 f1⊢
   have t2:=m2.cells
   obtain⟨X3,YC⟩:∃X3:Gb,X3=X2.set rb ⟨[L.bv,L.ov,L.fv,.i ((s.born+1:Nat):Int)],.rw,0⟩:=⟨_,rfl⟩
   have m3:=m2.Sm (s.born+1)
   rw[←YC]at m3
   have k3:({s with born:=s.born+1}:Hp).Ok:=k.Sm oM oM
   have l3:X3.length=X2.length:=by rw[YC];simp
   have hrb:H.length≠rb:=by have:=m.dom _ _ m.top;omega
   have Jr:X3[H.length]?=some ⟨GX r d kd,.rw,0⟩:=by grind
   have t3:=m3.cells
   obtain⟨X4,hX4⟩:∃X4:Gb,X4=X3++[⟨ints (List.replicate r 0),.rw,1⟩]++[⟨ints (List.replicate d 0),.rw,1⟩]:=⟨_,rfl⟩
   have g4:Gr X3 X4:=by rw[hX4];exact(Gr.app _ _).app' _
   have x0:X4[X3.length]?=some ⟨ints (List.replicate r 0),.rw,1⟩:=by rw[hX4];simp
   have x1:X4[X3.length+1]?=some ⟨ints (List.replicate d 0),.rw,1⟩:=by rw[hX4];simp
   have m4:J3 ((o.put X3.length (0,3,s.born+1)).put (X3.length+1) (0,4,s.born+1)) X4 rb {s with born:=s.born+1} L:=m3.frame
    (fun c t h=>by
     by_cases e:c=X3.length+1
     ·subst e;exact Gf x1
     ·rw[Tags.Jp e]at h
      by_cases e:c=X3.length
      ·subst e;exact Gf x0
      ·rw[Tags.Jp e]at h
       exact J6 (m3.dom c t h) g4.len)
    (fun c t h=>by have:=m3.dom c t h;rw[Tags.Jp oM,Tags.Jp oM,h])
    (fun c t h=>g4.keep c (m3.dom c t h) fun h=>h)
   have few:s.objs.length≤2048:=k.few
   obtain⟨H',o',L',h1,h2,h3⟩:=GkD m4 few (x:=KF q (s.born+1) r d kd) (v1:=.slice X3.length 0 r r 1 false) (v2:=.slice (X3.length+1) 0 d d 1 false)
    (fun y hy=>by have:=(k.ob y hy).id;simp only[KF];omega)
    (.inr ⟨_,false,by simp[KF],by rw[Tags.Jp oM,Tags.put_eq];rfl,x0,by simp[KF,ints]⟩)
    (.inr ⟨_,false,by simp[KF],by rw[Tags.put_eq];rfl,x1,by simp[KF,ints]⟩) (born:=0) (fv:=.Gd)
   have h1':run P 217 [.ptr rb 0,.agg [.i q,.i ((s.born+1:Nat):Int),.i r,.i d,.i kd,.slice X3.length 0 r r 1 false,.slice (X3.length+1) 0 d d 1 false,.bool false]] X4=some (.Jj [],H'):=by
    simpa[KF]using h1
   have tf:=h2.cells
   have g02:Gr H X2:=(gX.trans gX1).trans g2
   refine⟨H',o',L',?_,h2,?_⟩
   ·have wb1:IntKind.i64.wrap ((s.born:Int)+1)=((s.born+1:Nat):Int):=by rw[Gg oM];omega
    have m1':=Uy (GN:=1) (z:=[CV.int .i64 0]) (l:=(r:Int)) (c:=(r:Int)) oM
    have m2':=Uy (GN:=1) (z:=[CV.int .i64 0]) (l:=(d:Int)) (c:=(d:Int)) oM
    rw[Kt,Yz]at m1' m2'
    rw[Gh Gm_ _ _ sM]
    unfold GX at hX lX hvv GD Jk Jr f1⊢
    refine Jb ?_
    rw[←hX]
    refine W7 hm lX hvv GD f1 t2 wb1 ?_
    rw[←YC]
    have hlt:=Gf Jr
    refine W6 t3 Jr m1' m2' @JO @Jc ?_
    rw[←hX4]
    simp(disch:=first|exact dz|fail) only[simprocAttr,Gs,↓reduceIte,h1',tf,UF]
   ·refine(KW.gr g02).trans (KW.trans (o':=o) (H':=X3) ?_ (KW.trans ?_ h3))
    ·rw[YC];exact(KW.refl X2).set1 m.top _
    ·refine⟨g4.len,fun c hc=>by rw[Tags.Jp oM,Tags.Jp oM],fun c hc _=>g4.keep c hc fun h=>h⟩
  ·rw[if_neg hf]
   have e5:(s.fits a (G6 r.toNat d.toNat) (-1) != 0)=true:=by simpa using hf
   refine⟨X2,o,L,?_,m2,KW.gr ((gX.trans gX1).trans g2)⟩
   rw[Gh Gm_ _ _ sM]
   unfold GX at hX lX hvv GD f1⊢
   refine Jb ?_
   rw[←hX]
   simp(disch:=first|exact dz|fail) only[simprocAttr,Gs,↓reduceIte,hm,lX,hvv,GD,f1,e5,UF]
 ·rw[if_neg hv]
  have hv':JQ r d kd=false:=by simpa using hv
  rw[hv']at hvv
  refine⟨X++[⟨GX r d kd,.rw,0⟩],o,L,?_,mX1,KW.gr (gX.trans gX1)⟩
  rw[Gh Gm_ _ _ sM]
  unfold GX at hX lX hvv⊢
  simp(disch:=first|exact dz|fail) only[simprocAttr,Gs,↓reduceIte,A9]
  rw[←hX]
  simp(disch:=first|exact dz|fail) only[simprocAttr,Gs,↓reduceIte,hm,lX,hvv,UF]
end
end Go.Cs.Tryz
namespace Go.Cs.Tryz
open Go Go.Cs A
def C34:Gj:=⟨14,0,T [e 2 (.Km (c .nilPtr)),n 3 0] (S (T [m 4 0,bk 5 .lss 4 2,m 6 5,gf 6 (m 7 0),gf 6 (bk 8 .gtr 7 64),or 9 6 8] (I 9 (Q [e 2 (.Km (c .nilPtr)),n 3 1]))) (Q [m 10 0,e 11 (.makeSlice 2 [i 0,i 0] (t 10) (t 10)),e 12 (.build [.Gd,.Gd,.Gd,i 0] [(0,1,t 11)]),bo 13 12,m 2 13,n 3 0])),[r 2,r 3]⟩
theorem c34:P 34=some C34:=by kernel_rfl
abbrev Mv:Gn:=S (T [m 56 10,m 57 1,m 58 2,b 59 .add 57 58,b 60 .lss 56 59] (J 60 (X 2))) (S (B 3 (R [m 63 0,z 64 63,f 65 0 64,l 66 1 65,m 67 10,m 68 3,e 69 (.build [i 0,i 0] [(0,1,k 3),(1,1,t 68)]),x 70 2 66 67,st 2 70 69])) (R [m 61 10,bk 62 .add 61 1,m 10 62]))
abbrev MU:Gn:=S (T [m 39 9,m 40 1,m 41 2,b 42 .add 40 41,b 43 .lss 39 42] (J 43 (X 0))) (S (B 1 (T [m 46 0,z 47 46,f 48 0 47,l 49 1 48,m 50 9,x 51 2 49 50,f 52 0 51,l 53 1 52,bk 54 .neq 53 0] (I 54 (Q [n 8 8])))) (R [m 44 9,bk 45 .add 44 1,m 9 45]))
def Gqx:Gj:=⟨78,0,T [n 8 0] (S (T [m 11 0,q1 12 68 11,no 13 12] (I 13 (Q [n 8 5]))) (S (T [m 14 0,m 15 1,q2 16 259 14 15,no 17 16,m 18 17,gf 18 (m 19 2),gf 18 (bk 20 .lss 19 1),or 21 18 20,m 22 21,gf 22 (m 23 2),gf 22 (m 24 0),gf 22 (z 25 24),gf 22 (f 26 0 25),gf 22 (l 27 1 26),gf 22 (le 28 27),gf 22 (m 29 1),gf 22 (b 30 .sub 28 29),gf 22 (b 31 .gtr 23 30),or 32 22 31,m 33 32,gf 33 (m 34 3),gf 33 (q1 35 260 34),gf 33 (no 36 35),or 37 33 36] (I 37 (Q [n 8 1]))) (S (T [m 38 1,m 9 38] (B 0 (W MU))) (S (T [m 55 1,m 10 55] (B 2 (W Mv))) (T [m 71 0,z 72 71,f 73 0 72,l 74 1 73,m 75 1,x 76 2 74 75,f 77 0 76,u (.store 1 (t 77) (k 2))] (Q [n 8 0])))))),[r 8]⟩
theorem c212:P 212=some Gqx:=by kernel_rfl
end Go.Cs.Tryz
namespace Go.Cs
open Go
theorem Bb:∀{l:List (Nat×Nat)}{b:Nat}{x y x':Nat},l[b]?=some (x,y)→(Gy l).set (b*2) (.i x')=Gy (l.set b (x',y))
 |[],b,x,y,x',h=>by simp at h
 |z::l,0,x,y,x',h=>by
  simp only[List.getElem?_cons_zero,GA]at h
  subst h;rfl
 |z::l,b+1,x,y,x',h=>by
  simp only[List.getElem?_cons_succ]at h
  have ih:=Bb (x':=x') h
  have e3:(b+1)*2=b*2+1+1:=by omega
  have e:Gy (z::l)=.i z.1::.i z.2::Gy l:=rfl
  have e2:Gy ((z::l).set (b+1) (x',y))=.i z.1::.i z.2::Gy (l.set b (x',y)):=rfl
  rw[e,e2,←ih,e3];rfl
theorem Xu{l:List (Nat×Nat)}{b:Nat}{m:Nat×Nat}(hb:b<l.length):∀{k:Nat},1≤k→(KA l b m k)[b]?=some m
 |1,_=>by simp[KA,hb]
 |k+2,_=>by
  show((KA l b m (k+1)).set (b+(k+1)) m)[b]?=some m
  rw[KV oM]
  exact Xu hb oM
def Hp.GK(s:Hp)(b:Nat):List Ob:=s.objs.filter fun o=>o.addr/64==b
def Jm(e:Nat):Nat→List Ob→List (Nat×Nat)
 |at',[]=>if at'<e then [(at',e-at')]else []
 |at',o::l=>(if at'<o.addr then [(at',o.addr-at')]else [])++Jm e (o.addr+o.size) l
def Hp.gaps(s:Hp)(b:Nat):List (Nat×Nat):=if s.Gx b=1 then Jm (64*(b+1)) (64*b) (s.GK b)else []
theorem Hg{b:Nat}:∀{l:List Ob}{a:Nat},64*b≤a→(∀o∈l,64*b≤o.addr∧o.addr<64*(b+1))→∀x∈Jm (64*(b+1)) a l,64*b≤x.1∧x.1<64*(b+1)
 |[],a,ha,_,x,hx=>by
  unfold Jm at hx
  grind
 |o::l,a,ha,hl,x,hx=>by
  have ho:=hl o QT
  unfold Jm at hx
  rcases K_.1 hx with h|h
  ·grind
  ·exact Hg oM (fun y hy=>hl y (VA _ hy)) x h
theorem Hp.Gdr{s:Hp}{b:Nat}{x:Nat×Nat}(h:x∈s.gaps b):s.Gx b=1∧64*b≤x.1∧x.1<64*(b+1):=by
 unfold Hp.gaps at h
 split at h
 ·rename_i hs
  refine⟨hs,Hg (Nat.le_refl _) (fun o ho=>?_) x h⟩
  simp only[Hp.GK,List.mem_filter,beq_iff_eq]at ho
  omega
 ·cases h
abbrev PL(k:Nat)(H:Gb)(v:CV)(l:List (Nat×Nat)):Prop:=At (Loc k) z3 H v 2 l.length (Gy l)
theorem Dg(l k:List (Nat×Nat)):Gy (l++k)=Gy l++Gy k:=by simp[Gy]
theorem PL.push{k:Nat}{H:Gb}{v:CV}{l:List (Nat×Nat)}(h:PL k H v l)(hk:k≤H.length)(hm:l.length+1≤16777216)(x:Nat×Nat):
  ∃v' H',Ju (H++[⟨[.i x.1,.i x.2],.rw,2⟩]) 2 v 1 [.i x.1,.i x.2]=some (v',H')∧PL k H' v' (l++[x])∧Keeps H H' (fun c=>k≤c):=by
 obtain⟨v',H',a,b,c⟩:=LL.cat (q:=1) (new:=[.i x.1,.i x.2]) (h.keeps (.app H [⟨[.i x.1,.i x.2],.rw,2⟩])) (by simp;omega) hm (by simp[Jl]) rfl
 refine⟨v',H',a,?_,(Keeps.app H _ _).trans c⟩
 show At (Loc k) z3 H' v' 2 (l++[x]).length (Gy (l++[x]))
 rw[Dg,Qi];exact b
theorem IL.at{k:Nat}{H:Gb}{v:CV}{l:List Int}(h:IL k H v l){i:Nat}{x:Int}(hi:l[i]?=some x):∃b o,(∀H',JM 1 v (.i i) H'=some (.ptr b o,H'))∧Qh 1 v (.i i)=okV (.ptr b o)∧ld H[b]? o=some (.i x)∧k≤b:=by
 have hl:=Gf hi
 rcases h with⟨h1,-⟩|⟨b,tl,rfl,h1,h2,h3⟩
 ·omega
 ·refine⟨b,i,fun H'=>?_,?_,?_,(Gl.1 h1).1⟩
  ·rw[Qd oM];simp
  ·rw[Nv oM];simp
  ·rw[h2,Ym,Ai,hi];rfl
theorem IL.leaf{k:Nat}{H:Gb}{v:CV}{l:List Int}(h:IL k H v l):Go.Cs.leaf v=true:=At.leaf h
end Go.Cs
namespace Go.Cs.Tryz
open Go Go.Cs
section
variable {H : Gb} {o : Tags} {rb : Nat} {s : Hp} {L : NG}
theorem GeK(m:J3 o H rb s L)(k:s.Ok){b n:Nat}(hbn:b+n≤s.blk.length)
  {E0:Env}(h0:E0 0=.ptr rb 0)(h1:E0 1=.i b)(h2:E0 2=.i n)(h9:E0 9=.i b){r:Option (CX×Env×Gb)}(hr:den P (.loop MU) E0 H=r):
  ∃x E',r=some (x,E',H)∧((x=.ret∧E' 8=.i 8∧((s.blk.drop b).take n).any (fun x=>x.1 != 0)=true)∨(x=.exit 0∧((s.blk.drop b).take n).any (fun x=>x.1 != 0)=false))∧∀t,t∉wr MU→E' t=E0 t:=by
 have hnb:=k.nb
 obtain⟨x',E',H',e,-,⟨rfl,hf⟩,fr⟩:=Gq (p:=P) (c:=MU) (E0:=E0) (H0:=H)
  (fun q E H'=>H'=H∧∃j:Nat,E 9=.i ((b+j:Nat):Int)∧j≤n∧q=n-j∧((s.blk.drop b).take n).any (fun x=>x.1 != 0)=((s.blk.drop (b+j)).take (n-j)).any (fun x=>x.1 != 0))
  (fun x E' H'=>H'=H∧((x=.ret∧E' 8=.i 8∧((s.blk.drop b).take n).any (fun x=>x.1 != 0)=true)∨(x=.exit 0∧((s.blk.drop b).take n).any (fun x=>x.1 != 0)=false))) (by
   rintro q E H' hE ⟨rfl,j,e9,hj,rfl,hd⟩
   have e0:=(hE 0 dK).trans h0
   have e1:=(hE 1 dK).trans h1
   have e2:=(hE 2 dK).trans h2
   have hc:=m.cells
   have w1:IntKind.i64.wrap ((b:Int)+(n:Int))=((b+n:Nat):Int):=Gg oM
   by_cases c:j<n
   ·have c':decide (((b+j:Nat):Int)<((b+n:Nat):Int))=true:=Gz oM
    have hx:s.blk[b+j]?=some s.blk[b+j]:=Jr oM
    obtain⟨bb,tl,p1,p2,p3,p4,p5⟩:=AP m hx
    rw[p1]at hc
    have hstep:((s.blk.drop (b+j)).take (n-j)).any (fun x=>x.1 != 0)=((s.blk[b+j].1 != 0)||((s.blk.drop (b+(j+1))).take (n-(j+1))).any (fun x=>x.1 != 0)):=by
     rw[drop_cons hx,show n-j=(n-(j+1))+1 by omega,List.take_succ_cons,List.any_cons];rfl
    rw[hstep]at hd
    by_cases c2:s.blk[b+j].1=0
    ·have e3:(((s.blk[b+j].1:Nat):Int) != 0)=false:=by rw[c2];rfl
     have w2:IntKind.i64.wrap (((b+j:Nat):Int)+1)=((b+(j+1):Nat):Int):=Gg oM
     apply Gm (k':=n-(j+1))
     ·refine W11 e0 e1 e2 e9 hc w1 c' p3 p4 e3 w2 ?_
      rfl
     ·omega
     ·refine⟨rfl,j+1,uA,oM,rfl,?_⟩
      rw[hd,c2];rfl
    ·have e3:(((s.blk[b+j].1:Nat):Int) != 0)=true:=by simp;omega
     apply Gi (x:=.ret)
     ·refine Jb ?_
      rfl
     ·simp
     ·refine⟨rfl,.inl ⟨rfl,uA,?_⟩⟩
      rw[hd];simp[c2]
   ·have c':decide (((b+j:Nat):Int)<((b+n:Nat):Int))=false:=Gw oM
    have ej:n-j=0:=by omega
    apply Gi (x:=.exit 0)
    ·refine Jb ?_
     rfl
    ·simp
    grind) _ ⟨rfl,0,by rw[h9];rfl,oM,rfl,sM⟩
 grind
theorem Gez(m:J3 o H rb s L)(k:s.Ok){b n sp:Nat}(hbn:b+n≤s.blk.length)
  {E0:Env}(h0:E0 0=.ptr rb 0)(h1:E0 1=.i b)(h2:E0 2=.i n)(h3:E0 3=.i sp)(h10:E0 10=.i b){r:Option (CX×Env×Gb)}(hr:den P (.loop Mv) E0 H=r):
  ∃E' H',r=some (.exit 2,E',H')∧KW o H o H'∧J3 o H' rb {s with blk:=KA s.blk b (3,sp) n} L∧∀t,t∉wr Mv→E' t=E0 t:=by
 have hnb:=k.nb
 obtain⟨x',E',H',e,-,⟨rfl,g,hf⟩,fr⟩:=Gq (p:=P) (c:=Mv) (E0:=E0) (H0:=H)
  (fun q E H'=>KW o H o H'∧∃j:Nat,E 10=.i ((b+j:Nat):Int)∧j≤n∧q=n-j∧J3 o H' rb {s with blk:=KA s.blk b (3,sp) j} L)
  (fun x E' H'=>x=.exit 2∧KW o H o H'∧J3 o H' rb {s with blk:=KA s.blk b (3,sp) n} L) (by
   rintro q E H' hE ⟨g,j,e10,hj,rfl,mj⟩
   have e0:=(hE 0 dK).trans h0
   have e1:=(hE 1 dK).trans h1
   have e2:=(hE 2 dK).trans h2
   have e3:=(hE 3 dK).trans h3
   have hc:=mj.cells
   have hl:=Uj s.blk b (3,sp) j
   have w1:IntKind.i64.wrap ((b:Int)+(n:Int))=((b+n:Nat):Int):=Gg oM
   by_cases c:j<n
   ·have c':decide (((b+j:Nat):Int)<((b+n:Nat):Int))=true:=Gz oM
    obtain⟨bb,tl,p1,p2,p3⟩:=mj.bv (by grind)
    dsimp only at p1 p3 hc
    rw[p1]at hc
    have p5:(0:Int)≤((b+j:Nat):Int)∧((b+j:Nat):Int)<((KA s.blk b (3,sp) j).length:Int):=by omega
    obtain⟨st,mn⟩:=mj.EJ (b:=b+j) (x:=(3,sp)) (by grind) p1 p2 p3
    have w2:IntKind.i64.wrap (((b+j:Nat):Int)+1)=((b+(j+1):Nat):Int):=Gg oM
    have st':Hl H' bb (some ⟨Gy (KA s.blk b (3,sp) j),.rw,2⟩) ((b+j)*2) [.int .i64 3,.int .i64 (sp:Int)]=_:=st
    apply Gm (k':=n-(j+1))
    ·refine W13 e0 e1 e2 e3 e10 hc w1 c' p3 @JO @Jc st' w2 ?_
     rfl
    ·omega
    ·exact⟨g.set1 p2 _,j+1,uA,oM,rfl,mn⟩
   ·have c':decide (((b+j:Nat):Int)<((b+n:Nat):Int))=false:=Gw oM
    have ej:j=n:=by omega
    subst ej
    apply Gi (x:=.exit 2)
    ·refine Jb ?_
     rfl
    ·simp
    ·exact⟨rfl,g,mj⟩) _ ⟨KW.refl H,0,by rw[h10];rfl,oM,rfl,m⟩
 grind
theorem Ms(m:J3 o H rb s L)(k:s.Ok)(f:s.Fz)(b n sp:Int)(hn: -9223372036854775808≤n∧n≤9223372036854775807):Am o H rb (s.claim b n 2 sp 3 sp).1 (.i (s.claim b n 2 sp 3 sp).2) (run P 212 [.ptr rb 0,.i b,.i n,.i sp] H):=by
 have hc:=m.cells
 have hm:=Nt m k
 have h2:=Rq m b
 have h3:=Rx (H:=H) sp
 have hnb:=k.nb
 have hl:=m.blk.len H
 unfold Hp.claim
 by_cases c1:1≤b∧b<(s.blk.length:Int)
 ·rw[Gz c1]at h2
  obtain⟨b,rfl⟩:∃q:Nat,b=q:=⟨b.toNat,oM⟩
  have w0:IntKind.i64.wrap ((s.blk.length:Int)-(b:Int))=(s.blk.length:Int)-(b:Int):=Gg oM
  by_cases c2:n<1
  ·rw[if_neg oM]
   refine⟨H,o,L,?_,m,KW.refl H⟩
   rw[Gh c212 _ _ sM]
   exact W0
  by_cases c3:(s.blk.length:Int)-(b:Int)<n
  ·rw[if_neg oM]
   refine⟨H,o,L,?_,m,KW.refl H⟩
   rw[Gh c212 _ _ sM]
   exact W0
  obtain⟨n,rfl⟩:∃q:Nat,n=q:=⟨n.toNat,oM⟩
  by_cases c4:0≤sp∧sp<8
  ·rw[Gz c4]at h3
   obtain⟨sp,rfl⟩:∃q:Nat,sp=q:=⟨sp.toNat,oM⟩
   rw[if_pos oM,Kt,Kt,Kt,f.any]
   rw[Gh c212 _ _ sM]
   refine Jb ?_
   generalize hr:den P (.loop MU) _ _=r
   obtain⟨x,E',rfl,hx,fr⟩:=GeK m k (b:=b) (n:=n) oM uA uA uA uA hr
   rcases hx with⟨rfl,h8,ha⟩|⟨rfl,ha⟩
   ·rw[if_pos ha]
    exact⟨H,o,L,by exact W0,m,KW.refl H⟩
   ·rw[if_neg (by rw[ha];simp)]
    have f0:=fr 0 dK
    have f1:=fr 1 dK
    have f2:=fr 2 dK
    have f3:=fr 3 dK
    simp only[Gc,Nat.reduceEqDiff,↓reduceIte]at f0 f1 f2 f3
    refine Jb ?_
    generalize hr:den P (.loop Mv) _ _=r
    obtain⟨E2,H2,rfl,g2,m2,fr2⟩:=Gez m k (b:=b) (n:=n) (sp:=sp) oM (by simp[Gc,f0]) (by simp[Gc,f1]) (by simp[Gc,f2]) (by simp[Gc,f3]) uA hr
    have f0':=fr2 0 dK
    have f1':=fr2 1 dK
    simp only[Gc,Nat.reduceEqDiff,↓reduceIte,f0,f1]at f0' f1'
    have hl2:=Uj s.blk b (3,sp) n
    obtain⟨bb,tl,p1,p2,p3⟩:=m2.bv (by grind)
    dsimp only at p1 p3
    have hc2:=m2.cells
    rw[p1]at hc2
    have p5:(0:Int)≤(b:Int)∧(b:Int)<((KA s.blk b (3,sp) n).length:Int):=by omega
    have hat:=Xu (l:=s.blk) (m:=(3,sp)) (b:=b) oM (k:=n) oM
    have hst:b*2<(Gy (KA s.blk b (3,sp) n)).length:=by rw[Qa];omega
    have hset:=Bb (x':=2) hat
    refine⟨_,o,L,?_,m2.Gdd (l:=(KA s.blk b (3,sp) n).set b (2,sp)) p1 p2 sM (H':=H2.set bb ⟨Gy ((KA s.blk b (3,sp) n).set b (2,sp)),.rw,2⟩) sM (by grind) fun c _ hcb=>by rw[KV (Ne.symm hcb)],g2.set1 p2 _⟩
    rw[←hset]
    exact W0
    try rfl
  ·rw[Gw c4]at h3
   rw[if_neg oM]
   refine⟨H,o,L,?_,m,KW.refl H⟩
   rw[Gh c212 _ _ sM]
   exact W0
 ·rw[Gw c1]at h2
  rw[if_neg oM]
  refine⟨H,o,L,?_,m,KW.refl H⟩
  rw[Gh c212 _ _ sM]
  exact W0
theorem GjH(n:Int)(h:2≤n∧n≤64):∃rb H' o L,run P 34 [.i n] H=some (.Jj [.ptr rb 0,.i 0],H')∧Gr H H'∧J3 o H' rb (Hp.new n.toNat) L∧∀c t,o c=some t→H.length≤c:=by
 obtain⟨n,rfl⟩:∃q:Nat,n=q:=⟨n.toNat,oM⟩
 have c0:¬((n:Int)<2):=by omega
 have c1:¬((64:Int)<(n:Int)):=by omega
 have m1:=ZV (H:=H) (GN:=2) (z:=[CV.int .i64 0,CV.int .i64 0]) (l:=(n:Int)) (c:=(n:Int)) oM
 rw[Kt,Zp]at m1
 rw[Kt]
 refine⟨H.length+1,H++[⟨Gy (List.replicate n (0,0)),.rw,2⟩]++[⟨[.slice H.length 0 n n 2 false,.Gd,.Gd,.int .i64 0],.rw,0⟩],(Tags.put (fun _=>none) H.length (0,1,0)).put (H.length+1) (0,0,0),⟨.slice H.length 0 n n 2 false,.Gd,.Gd,fun _=>(.Gd,.Gd)⟩,?_,(Gr.app H _).app' _,?_,?_⟩
 ·rw[Gh c34 _ _ sM]
  exact W0
 ·have hb:(Hp.new n).blk.length=n:=by simp[Hp.new]
  refine⟨fun c t hc=>?_,Tags.put_eq,by simp[Hp.new],rfl,?_,.inl ⟨rfl,rfl,.inl rfl⟩,fun x hx=>by cases hx⟩
  ·by_cases e:c=H.length+1
   ·subst e;simp
   ·rw[Tags.Jp e]at hc
    by_cases e2:c=H.length
    ·subst e2;simp
    ·rw[Tags.Jp e2]at hc;cases hc
  ·rw[hb]
   exact .inr ⟨H.length,false,rfl,by rw[Tags.Jp oM,Tags.put_eq],by simp[Hp.new],by rw[Qa];simp[Hp.new];omega⟩
 ·intro c t hc
  by_cases e:c=H.length+1
  ·omega
  ·rw[Tags.Jp e]at hc
   by_cases e2:c=H.length
   ·omega
   ·rw[Tags.Jp e2]at hc;cases hc
end
end Go.Cs.Tryz
namespace Go.Cs.Tryz
open Go Go.Cs A
abbrev EO:Gn:=S (T [m 15 6,m 16 1,b 17 .lss 15 16,m 18 17,gt 18 (m 19 0),gt 18 (m 20 5),gt 18 (m 21 6),gt 18 (b 22 .add 20 21),gt 18 (q2 23 13 19 22),gt 18 (bk 24 .eql 23 0),an 25 18 24] (J 25 (X 2))) (B 3 (R [m 26 6,bk 27 .add 26 1,m 6 27]))
abbrev Er:Gn:=S (T [m 7 5,m 8 1,b 9 .add 7 8,m 10 0,q1 11 245 10,b 12 .leq 9 11] (J 12 (X 0))) (S (B 1 (T [n 6 0] (S (B 2 (W EO)) (T [m 28 6,m 29 1,b 30 .eql 28 29] (I 30 (Q [m 31 5,m 4 31])))))) (R [m 13 5,bk 14 .add 13 1,m 5 14]))
def Gwb:Gj:=⟨32,0,T [n 4 0] (S (T [n 5 1] (B 0 (W Er))) (Q [n 4 0])),[r 4]⟩
theorem Gwo:P 211=some Gwb:=by kernel_rfl
abbrev Tc:Gn:=S (T [m 7 0,q1 8 68 7,m 9 8,gt 9 (m 10 6),gt 9 (m 11 0),gt 9 (z 12 11),gt 9 (f 13 1 12),gt 9 (l 14 1 13),gt 9 (le 15 14),gt 9 (b 16 .lss 10 15),an 17 9 16] (J 17 (X 0))) (S (B 1 (T [m 20 0,z 21 20,f 22 1 21,l 23 1 22,m 24 6,x 25 8 23 24,f 26 0 25,l 27 1 26,bk 28 .quo 27 64,m 29 1,b 30 .eql 28 29] (I 30 (R [m 31 5,m 32 0,z 33 32,f 34 1 33,l 35 1 34,m 36 6,x 37 8 35 36,f 38 0 37,l 39 1 38,e 40 (.buildSlice 1 [i 0] 1 [(0,1,t 39)]),ap 41 1 31 40,m 5 41])))) (R [m 18 6,bk 19 .add 18 1,m 6 19]))
def Grq:Gj:=⟨43,0,T [e 4 (.Km (c .Gd))] (T [e 5 (.Km (c .Gd))] (S (T [n 6 0] (B 0 (W Tc))) (Q [m 42 5,m 4 42]))),[r 4]⟩
theorem Gtn:P 246=some Grq:=by kernel_rfl
end Go.Cs.Tryz
namespace Go.Cs
open Go
def Kn(l:List Ob):List Int:=l.map fun o=>(o.addr:Int)
theorem Hp.P6{s:Hp}{b:Nat}{x:Ob}(h:x∈s.GK b):x∈s.objs∧x.addr/64=b:=by
 simpa[Hp.GK,List.mem_filter]using h
def Hp.NZ(s:Hp)(b n:Nat):Bool:=((s.blk.drop b).take n).all fun x=>x.1==0
def Hp.Ue(s:Hp)(n:Nat):Nat→Nat→Nat
 |0,_=>0
 |k+1,b=>if b+n≤s.blk.length then(if s.NZ b n=true then b else s.Ue n k (b+1))else 0
def Hp.free(s:Hp)(n:Nat):Nat:=s.Ue n s.blk.length 1
theorem Hp.Ml{s:Hp}{n:Nat}:∀{k b:Nat},s.Ue n k b≤s.blk.length
 |0,b=>Nat.zero_le _
 |k+1,b=>by
  unfold Hp.Ue
  split
  ·split
   ·omega
   ·exact Hp.Ml
  ·omega
theorem Ir{α:Type}{l:List α}{b j n:Nat}(hj:j≤n)(hb:b+n≤l.length):(l.drop b).take n=(l.drop b).take j++(l.drop (b+j)).take (n-j):=by
 have:n=j+(n-j):=by omega
 rw[this,List.take_add,List.drop_drop]
 simp
end Go.Cs
namespace Go.Cs.Tryz
open Go Go.Cs
section
variable {H : Gb} {o : Tags} {rb : Nat} {s : Hp} {L : NG}
theorem Gdz(m:J3 o H rb s L)(k:s.Ok){b:Nat}{E0:Env}(h0:E0 0=.ptr rb 0)(h1:E0 1=.i b)(h5:E0 5=.Gd)(h6:E0 6=.i 0){r:Option (CX×Env×Gb)}(hr:den P (.loop Tc) E0 H=r):
  ∃E' H',r=some (.exit 0,E',H')∧Gr H H'∧IL H.length H' (E' 5) (Kn (s.GK b)):=by
 have few:=k.few
 obtain⟨x',E',H',e,-,⟨rfl,g,hnew⟩,fr⟩:=Gq (p:=P) (c:=Tc) (E0:=E0) (H0:=H)
  (fun q E H'=>Gr H H'∧∃j:Nat,E 6=.i j∧j≤s.objs.length∧q=s.objs.length-j∧IL H.length H' (E 5) (Kn ((s.objs.take j).filter fun o=>o.addr/64==b)))
  (fun x E' H'=>x=.exit 0∧Gr H H'∧IL H.length H' (E' 5) (Kn (s.GK b))) (by
   rintro q E H' hE ⟨g,j,e6,hj,rfl,hn⟩
   have e0:=(hE 0 dK).trans h0
   have e1:=(hE 1 dK).trans h1
   have m':=m.gr g
   have hc:=m'.cells
   have hm:=Nt m' k
   have hl:=m'.objs.len H'
   by_cases c:j<s.objs.length
   ·have c':decide ((j:Int)<(s.objs.length:Int))=true:=Gz oM
    have hx:s.objs[j]?=some s.objs[j]:=Jr c
    obtain⟨x,hxe⟩:∃x,x=s.objs[j]:=⟨_,rfl⟩
    have htk:s.objs.take (j+1)=s.objs.take j++[x]:=by rw[Nl,hx,hxe];rfl
    rw[←hxe]at hx
    have hok:=k.ob x (JV hx)
    obtain⟨bb,n,tl,q1,q2,q3,q4,q5,q6⟩:=J3.row m' hx
    have q7:=JU (hv:=L.hv) hx (i:=0) (v:=.i x.addr) rfl
    rw[Nat.add_zero]at q7
    rw[q1]at hc hl
    have hnw:=hok.fits
    have hnb:=k.nb
    have hsn:s.nw=64*s.blk.length:=rfl
    have hd:(x.addr:Int).tdiv 64=((x.addr/64:Nat):Int):=KN x.addr 64
    have wd:IntKind.i64.wrap ((x.addr/64:Nat):Int)=((x.addr/64:Nat):Int):=Gg oM
    have w1:IntKind.i64.wrap ((j:Int)+1)=((j+1:Nat):Int):=Gg oM
    have hlen:(Kn ((s.objs.take j).filter fun o=>o.addr/64==b)).length≤2048:=by
     unfold Kn
     grind
    by_cases ca:x.addr/64=b
    ·have Pg:(((x.addr/64:Nat):Int)==(b:Int))=true:=by simp[ca]
     obtain⟨v',H1,a1,a2,a3⟩:=IL.push hn g.len oM (x.addr:Int)
     have hel:elems (H'++[⟨[.i (x.addr:Int)],.rw,1⟩]) 1 (.slice H'.length 0 1 1 1 false)=some (1,[.i (x.addr:Int)]):=by
      rw[JN oM]
      exact W0
     apply Gm (k':=s.objs.length-(j+1))
     ·refine W18 e0 e1 e6 hc hl hm c' q3 q7 hd wd @Ji Pg @JO @Jc hel a1 w1 ?_
      rfl
     ·omega
     ·refine⟨g.news a3,j+1,uA,oM,rfl,?_⟩
      rw[htk,List.filter_append]
      have e:[x].filter (fun o=>o.addr/64==b)=[x]:=by simp[ca]
      rw[e]
      show IL _ _ _ (Kn (_++[x]))
      unfold Kn at a2⊢
      rw[Ij]
      simpa[Gc]using a2
    ·have Pg:(((x.addr/64:Nat):Int)==(b:Int))=false:=by simp;omega
     apply Gm (k':=s.objs.length-(j+1))
     ·refine W14 e0 e1 e6 hc hl hm c' q3 q7 hd wd @Ji Pg w1 ?_
      rfl
     ·omega
     ·refine⟨g,j+1,uA,oM,rfl,?_⟩
      rw[htk,List.filter_append]
      have e:[x].filter (fun o=>o.addr/64==b)=[]:=by simp[ca]
      rw[e,List.append_nil]
      simpa[Gc]using hn
   ·have c':decide ((j:Int)<(s.objs.length:Int))=false:=Gw oM
    rw[Qe oM]at hn
    apply Gi (x:=.exit 0)
    ·refine Jb ?_
     rfl
    ·simp
    ·exact⟨rfl,g,by unfold Hp.GK;simpa[Gc]using hn⟩) _ ⟨Keeps.refl H _,0,h6,oM,rfl,by rw[h5];exact IL.nil⟩
 grind
theorem GaE(m:J3 o H rb s L)(k:s.Ok)(b:Nat):∃v H',run P 246 [.ptr rb 0,.i b] H=some (v,H')∧Gr H H'∧IL H.length H' v (Kn (s.GK b)):=by
 rw[Gh Gtn _ _ sM]
 refine Jb ?_
 generalize hr:den P (.loop Tc) _ _=r
 obtain⟨E',H',rfl,g,hn⟩:=Gdz m k (b:=b) uA uA uA uA hr
 refine⟨E' 5,H',?_,g,hn⟩
 exact W0
theorem GcL(m:J3 o H rb s L)(k:s.Ok){b n:Nat}(hbn:b+n≤s.blk.length)
  {E0:Env}(h0:E0 0=.ptr rb 0)(h1:E0 1=.i n)(h5:E0 5=.i b)(h6:E0 6=.i 0){r:Option (CX×Env×Gb)}(hr:den P (.loop EO) E0 H=r):
  ∃E',r=some (.exit 2,E',H)∧(∃j:Nat,E' 6=.i j∧j≤n∧(j=n↔s.NZ b n=true))∧∀t,t∉wr EO→E' t=E0 t:=by
 have hnb:=k.nb
 obtain⟨x',E',H',e,-,⟨rfl,rfl,hf⟩,fr⟩:=Gq (p:=P) (c:=EO) (E0:=E0) (H0:=H)
  (fun q E H'=>H'=H∧∃j:Nat,E 6=.i j∧j≤n∧q=n-j∧s.NZ b j=true)
  (fun x E' H'=>x=.exit 2∧H'=H∧∃j:Nat,E' 6=.i j∧j≤n∧(j=n↔s.NZ b n=true)) (by
   rintro q E H' hE ⟨rfl,j,e6,hj,rfl,hd⟩
   have e0:=(hE 0 dK).trans h0
   have e1:=(hE 1 dK).trans h1
   have e5:=(hE 5 dK).trans h5
   by_cases c:j<n
   ·have c':decide ((j:Int)<(n:Int))=true:=Gz oM
    have w1:IntKind.i64.wrap ((b:Int)+(j:Int))=((b+j:Nat):Int):=Gg oM
    have hx:s.blk[b+j]?=some s.blk[b+j]:=Jr oM
    have hst:=EH m k ((b+j:Nat):Int)
    have hsv:Hp.state s ((b+j:Nat):Int)=(s.blk[b+j].1:Int):=by
     unfold Hp.state
     grind
    rw[hsv]at hst
    have hsp:∀i,j+i≤n→s.NZ b (j+i)=(s.NZ b j&&((s.blk.drop (b+j)).take i).all fun x=>x.1==0):=fun i hi=>by
     unfold Hp.NZ
     rw[Ir (j:=j) oM oM,List.all_append]
     grind
    by_cases c2:s.blk[b+j].1=0
    ·have e3:(((s.blk[b+j].1:Nat):Int)==0)=true:=by rw[c2];rfl
     have w2:IntKind.i64.wrap ((j:Int)+1)=((j+1:Nat):Int):=Gg oM
     apply Gm (k':=n-(j+1))
     ·refine W9 e0 e1 e5 e6 w1 c' hst e3 w2 ?_
      rfl
     ·omega
     ·refine⟨rfl,j+1,uA,oM,rfl,?_⟩
      rw[hsp 1 oM,hd,drop_cons hx,List.take_succ_cons,List.take_zero,List.all_cons,List.all_nil,c2];rfl
    ·have e3:(((s.blk[b+j].1:Nat):Int)==0)=false:=by simp;omega
     apply Gi (x:=.exit 2)
     ·refine Jb ?_
      rfl
     ·simp
     ·refine⟨rfl,rfl,j,by simp[Gc,e6],oM,oM,fun h=>?_⟩
      exfalso
      have e:n=j+(n-j):=by omega
      rw[e,hsp (n-j) oM,drop_cons hx,show n-j=(n-(j+1))+1 by omega,List.take_succ_cons,List.all_cons]at h
      grind
   ·have c':decide ((j:Int)<(n:Int))=false:=Gw oM
    have:j=n:=by omega
    subst this
    apply Gi (x:=.exit 2)
    ·refine Jb ?_
     rfl
    ·simp
    ·exact⟨rfl,rfl,j,by simp[Gc,e6],oM,fun _=>hd,fun _=>rfl⟩) _ ⟨rfl,0,h6,oM,rfl,by simp[Hp.NZ]⟩
 exact⟨E',hr.symm.trans e,hf,fr⟩
theorem Gjv(m:J3 o H rb s L)(k:s.Ok){n:Nat}(hn:n≤1000)
  {E0:Env}(h0:E0 0=.ptr rb 0)(h1:E0 1=.i n)(h5:E0 5=.i 1){r:Option (CX×Env×Gb)}(hr:den P (.loop Er) E0 H=r):
  ∃x E',r=some (x,E',H)∧((x=.ret∧E' 4=.i (s.free n))∨(x=.exit 0∧s.free n=0)):=by
 have hnb:=k.nb
 obtain⟨x',E',H',e,-,⟨rfl,hf⟩,fr⟩:=Gq (p:=P) (c:=Er) (E0:=E0) (H0:=H)
  (fun q E H'=>H'=H∧∃b:Nat,E 5=.i b∧1≤b∧b≤s.blk.length+1∧q=s.blk.length+1-b∧s.Ue n (s.blk.length+1-b) b=s.free n)
  (fun x E' H'=>H'=H∧((x=.ret∧E' 4=.i (s.free n))∨(x=.exit 0∧s.free n=0))) (by
   rintro q E H' hE ⟨rfl,b,e5,hb1,hb2,rfl,hd⟩
   have e0:=(hE 0 dK).trans h0
   have e1:=(hE 1 dK).trans h1
   have hbl:=Lr m k
   have w1:IntKind.i64.wrap ((b:Int)+(n:Int))=((b+n:Nat):Int):=Gg oM
   by_cases c:b+n≤s.blk.length
   ·have c':decide (((b+n:Nat):Int)≤(s.blk.length:Int))=true:=Gz oM
    have hk:s.blk.length+1-b=(s.blk.length+1-(b+1))+1:=by omega
    rw[hk]at hd
    unfold Hp.Ue at hd
    rw[if_pos c]at hd
    by_cases ca:s.NZ b n=true
    ·rw[if_pos ca]at hd
     suffices h:∃E',den P Er E H'=some (.ret,E',H')∧E' 4=.i (s.free n)by
      grind
     refine W6 e0 e1 e5 hbl w1 c' ?_
     generalize hr:den P (.loop EO) _ _=r
     obtain⟨E',rfl,⟨j,h6,hj1,hj2⟩,fr⟩:=GcL m k (b:=b) (n:=n) c (by simp[Gc,e0]) (by simp[Gc,e1]) (by simp[Gc,e5]) uA hr
     have f1:=fr 1 dK
     have f5:=fr 5 dK
     simp only[Gc,Nat.reduceEqDiff,↓reduceIte,e1,e5]at f1 f5
     have ej:j=n:=hj2.2 ca
     subst ej
     have ce:((j:Int)==(j:Int))=true:=by simp
     refine W4 h6 f1 f5 ce ?_
     exact⟨_,rfl,by simp[Gc,←hd]⟩
    ·rw[if_neg ca]at hd
     suffices h:∃E',den P Er E H'=some (.normal,E',H')∧E' 5=.i ((b+1:Nat):Int)by
      obtain⟨E',h1,h2⟩:=h
      exact Gm h1 (k':=s.blk.length+1-(b+1)) oM ⟨rfl,b+1,h2,oM,oM,rfl,hd⟩
     refine Jb ?_
     generalize hr:den P (.loop EO) _ _=r
     obtain⟨E',rfl,⟨j,h6,hj1,hj2⟩,fr⟩:=GcL m k (b:=b) (n:=n) c (by simp[Gc,e0]) (by simp[Gc,e1]) (by simp[Gc,e5]) uA hr
     have f1:=fr 1 dK
     have f5:=fr 5 dK
     simp only[Gc,Nat.reduceEqDiff,↓reduceIte,e1,e5]at f1 f5
     have ej:j≠n:=fun h=>ca (hj2.1 h)
     have ce:((j:Int)==(n:Int))=false:=by simp;omega
     have w2:IntKind.i64.wrap ((b:Int)+1)=((b+1:Nat):Int):=Gg oM
     refine Jb ?_
     exact⟨_,rfl,uA⟩
   ·have c':decide (((b+n:Nat):Int)≤(s.blk.length:Int))=false:=Gw oM
    have hz:s.Ue n (s.blk.length+1-b) b=0:=by
     cases s.blk.length+1-b with
     |zero=>rfl
     |succ q=>unfold Hp.Ue;rw[if_neg c]
    apply Gi (x:=.exit 0)
    ·refine Jb ?_
     rfl
    ·simp
    grind) _ ⟨rfl,1,h5,oM,oM,rfl,by rw[Nat.add_sub_cancel];rfl⟩
 exact⟨x',E',hr.symm.trans e,hf⟩
theorem Wp(m:J3 o H rb s L)(k:s.Ok){n:Nat}(hn:n≤1000):run P 211 [.ptr rb 0,.i n] H=some (.i (s.free n),H):=by
 rw[Gh Gwo _ _ sM]
 refine Jb ?_
 generalize hr:den P (.loop Er) _ _=r
 obtain⟨x,E',rfl,h⟩:=Gjv m k hn uA uA uA hr
 rcases h with⟨rfl,h⟩|⟨rfl,h⟩
 ·exact W0
 ·rw[h]
  exact W0
  try rfl
end
end Go.Cs.Tryz
namespace Go.Cs.Tryz
open Go Go.Cs A
def Gte:Gj:=⟨50,0,T [bo 4 1,n 6 0,nb 7 false] (S (T [lg 13 3 4,q1 14 117 13] (I 14 (T [lg 15 3 4,q1 16 119 15,m 8 16] (T [m 17 0,m 18 8,q2 19 211 17 18,m 9 19] (S (T [m 20 9,bk 21 .eql 20 0] (I 21 (Q [n 6 0,nb 7 false]))) (Q [m 22 9,bk 23 .mul 22 64,m 24 0,m 25 9,m 26 8,m 27 2,q4 28 212 24 25 26 27,bk 29 .eql 28 0,m 6 23,m 7 29])))))) (S (T [m 31 0,lg 32 3 4,m 33 2,q3 34 213 31 32 33,m 30 34,ex 35 30 0,ex 36 30 1,m 10 35,m 11 36] (T [m 37 11] (I 37 (Q [m 38 10,m 6 38,nb 7 true])))) (T [m 39 0,ca 40 211 [t 39,k 1],m 12 40] (S (T [m 41 12,bk 42 .eql 41 0] (I 42 (Q [n 6 0,nb 7 false]))) (Q [m 43 12,bk 44 .mul 43 64,m 45 0,m 46 12,m 47 2,q3 48 214 45 46 47,bk 49 .eql 48 0,m 6 44,m 7 49]))))),[r 6,r 7]⟩
theorem c116:P 116=some Gte:=by kernel_rfl
abbrev FC:Gn:=S (T [m 31 10,m 32 9,le 33 32,b 34 .lss 31 33] (J 34 (X 2))) (S (B 3 (S (D [⟨lg 42 3 4,5,1,0⟩,⟨q1 43 190 42,6,3,0⟩,⟨m 37 9,0,0,0⟩,⟨m 38 10,1,0,0⟩,⟨x 39 2 37 38,2,0,0⟩,⟨f 40 1 39,3,0,0⟩,⟨l 41 1 40,4,1,0⟩,⟨b 44 .geq 41 43,7,0,1⟩]) (I 44 (Q [m 45 9,m 46 10,x 47 2 45 46,f 48 0 47,l 49 1 48,m 6 49,nb 7 true])))) (R [m 35 10,bk 36 .add 35 1,m 10 36]))
abbrev EP:Gn:=S (T [m 11 8,m 12 0,q1 13 245 12,b 14 .lss 11 13] (J 14 (X 0))) (S (B 1 (S (T [m 17 0,m 18 8,q2 19 13 17 18,bk 20 .neq 19 1,m 21 20,gf 21 (m 22 0),gf 21 (m 23 8),gf 21 (q2 24 14 22 23),gf 21 (m 25 2),gf 21 (b 26 .neq 24 25),or 27 21 26] (I 27 (X 1))) (T [m 28 0,m 29 8,q2 30 261 28 29,m 9 30] (T [n 10 0] (B 2 (W FC)))))) (R [m 15 8,bk 16 .add 15 1,m 8 16]))
def GuY:Gj:=⟨50,0,T [bo 4 1,n 6 0,nb 7 false] (S (T [n 8 1] (B 0 (W EP))) (Q [n 6 0,nb 7 false])),[r 6,r 7]⟩
theorem c213:P 213=some GuY:=by kernel_rfl
abbrev OH:Gn:=S (T [m 20 8,m 21 7,le 22 21,b 23 .lss 20 22] (J 23 (X 0))) (S (B 1 (S (T [m 26 7,m 27 8,x 28 1 26 27,l 29 1 28,m 30 6,b 31 .gtr 29 30] (I 31 (R [m 32 5,m 33 6,m 34 7,m 35 8,x 36 1 34 35,l 37 1 36,m 38 6,b 39 .sub 37 38,e 40 (.build [i 0,i 0] [(0,1,t 33),(1,1,t 39)]),e 41 (.buildSlice 2 [i 0,i 0] 1 [(0,2,t 40)]),ap 42 2 32 41,m 5 42]))) (D [⟨m 51 0,8,0,0⟩,⟨m 52 7,9,0,0⟩,⟨m 53 8,10,0,0⟩,⟨x 54 1 52 53,11,0,0⟩,⟨l 55 1 54,12,1,0⟩,⟨q2 56 87 51 55,13,3,0⟩,⟨m 47 0,4,0,0⟩,⟨z 48 47,5,0,0⟩,⟨f 49 1 48,6,0,0⟩,⟨l 50 1 49,7,1,0⟩,⟨x 57 8 50 56,14,0,1⟩,⟨f 58 2 57,15,0,1⟩,⟨lg 59 3 58,16,1,1⟩,⟨q1 60 190 59,17,3,1⟩,⟨m 43 7,0,0,0⟩,⟨m 44 8,1,0,0⟩,⟨x 45 1 43 44,2,0,0⟩,⟨l 46 1 45,3,1,0⟩,⟨b 61 .add 46 60,18,0,2⟩,⟨m 6 61,19,0,2⟩]))) (R [m 24 8,bk 25 .add 24 1,m 8 25]))
def Gt1:Gj:=⟨77,0,T [e 4 (.Km (c .Gd))] (T [e 5 (.Km (c .Gd))] (S (T [m 10 0,m 11 1,q2 12 13 10 11,bk 13 .neq 12 1] (I 13 (Q [m 14 5,m 4 14]))) (T [m 15 1,bk 16 .mul 15 64,m 6 16] (T [m 17 0,m 18 1,q2 19 246 17 18,m 7 19] (S (T [n 8 0] (B 0 (W OH))) (S (T [m 62 1,bk 63 .add 62 1,bk 64 .mul 63 64,m 9 64] (T [m 65 6,m 66 9,b 67 .lss 65 66] (I 67 (R [m 68 5,m 69 6,m 70 9,m 71 6,b 72 .sub 70 71,e 73 (.build [i 0,i 0] [(0,1,t 69),(1,1,t 72)]),e 74 (.buildSlice 2 [i 0,i 0] 1 [(0,2,t 73)]),ap 75 2 68 74,m 5 75])))) (Q [m 76 5,m 4 76]))))))),[r 4]⟩
theorem Gub:P 261=some Gt1:=by kernel_rfl
end Go.Cs.Tryz
namespace Go.Cs
open Go
def QC(w:Int)(l:List (Nat×Nat)):Option (Nat×Nat):=l.find? fun x=>decide (w≤(x.2:Int))
def Hp.KD(s:Hp)(b:Nat):Nat:=(s.blk.getD b (0,0)).2
def Hp.F5(s:Hp)(w sp:Int):Nat→Nat→Option (Nat×Nat)
 |0,_=>none
 |k+1,b=>if s.Gx b=1∧(s.KD b:Int)=sp then(match QC w (s.gaps b)with|some x=>some x|none=>s.F5 w sp k (b+1))else s.F5 w sp k (b+1)
def Hp.gap(s:Hp)(w sp:Int):Option (Nat×Nat):=s.F5 w sp (s.blk.length-1) 1
theorem Hp.Iu{s:Hp}{w sp:Int}{x:Nat×Nat}:∀{k b:Nat},s.F5 w sp k b=some x→s.Gx (x.1/64)=1∧x.1/64<b+k∧b≤x.1/64
 |0,b,h=>by cases h
 |k+1,b,h=>by
  unfold Hp.F5 at h
  split at h
  ·split at h
   ·rename_i y hy
    simp only[GA]at h
    subst h
    have hm:=List.mem_of_find?_eq_some hy
    obtain⟨h1,h2,h3⟩:=Hp.Gdr hm
    grind
   ·obtain⟨h1,h2,h3⟩:=Hp.Iu h
    exact⟨h1,oM,oM⟩
  ·obtain⟨h1,h2,h3⟩:=Hp.Iu h
   exact⟨h1,oM,oM⟩
theorem Zk{e:Nat}:∀{l:List Ob}{a:Nat},(Jm e a l).length≤l.length+1
 |[],a=>by unfold Jm;split<;>simp
 |o::l,a=>by
  unfold Jm
  have:=Zk (e:=e) (l:=l) (a:=o.addr+o.size)
  split<;>simp<;>omega
theorem PL.len{k:Nat}{H:Gb}{v:CV}{l:List (Nat×Nat)}(h:PL k H v l)(H':Gb):UK v H'=some (.i l.length,H'):=At.len h H'
theorem PL.leaf{k:Nat}{H:Gb}{v:CV}{l:List (Nat×Nat)}(h:PL k H v l):Go.Cs.leaf v=true:=At.leaf h
theorem PL.at{k:Nat}{H:Gb}{v:CV}{l:List (Nat×Nat)}(h:PL k H v l){i:Nat}{x:Nat×Nat}(hi:l[i]?=some x):
  ∃b,(∀H',JM 2 v (.i i) H'=some (.ptr b (i*2),H'))∧Qh 2 v (.i i)=okV (.ptr b (i*2))∧H[b]?=some ⟨Gy l,.rw,2⟩∧(Gy l)[i*2]?=some (.i x.1)∧(Gy l)[i*2+1]?=some (.i x.2)∧k≤b:=by
 have hl:=Gf hi
 obtain⟨q1,q2⟩:=Kj l i x hi
 rcases h with⟨h1,-⟩|⟨b,tl,rfl,h1,h2,h3⟩
 ·omega
 ·refine⟨b,fun H'=>?_,?_,h2,q1,q2,(Gl.1 h1).1⟩
  ·rw[Qd oM];simp
  ·rw[Nv oM];simp
def Hp.first(s:Hp)(r d kd sp:Int):Hp×Int×Bool:=
 if 32<Gv r d kd then
  if s.free ((Gv r d kd+63)/64).toNat=0 then(s,0,false)
  else((s.claim (s.free ((Gv r d kd+63)/64).toNat) ((Gv r d kd+63)/64) 2 sp 3 sp).1,64*(s.free ((Gv r d kd+63)/64).toNat:Int),(s.claim (s.free ((Gv r d kd+63)/64).toNat) ((Gv r d kd+63)/64) 2 sp 3 sp).2==0)
 else match s.gap (Gv r d kd) sp with
  |some x=>(s,x.1,true)
  |none=>if s.free 1=0 then(s,0,false)else((s.claim (s.free 1) 1 1 sp 0 0).1,64*(s.free 1:Int),(s.claim (s.free 1) 1 1 sp 0 0).2==0)
end Go.Cs
namespace Go.Cs.Tryz
open Go Go.Cs
section
variable {H : Gb} {o : Tags} {rb : Nat} {s : Hp} {L : NG}
theorem GmN(m:J3 o H rb s L)(k:s.Ok){b:Nat}(hb:b<s.blk.length){v7:CV}(hv7:IL 0 H v7 (Kn (s.GK b)))
  {E0:Env}(h0:E0 0=.ptr rb 0)(h5:E0 5=.Gd)(h6:E0 6=.i ((64*b:Nat):Int))(h7:E0 7=v7)(h8:E0 8=.i 0){r:Option (CX×Env×Gb)}(hr:den P (.loop OH) E0 H=r):
  ∃E' H' a l,r=some (.exit 0,E',H')∧Gr H H'∧PL H.length H' (E' 5) l∧E' 6=.i ((a:Nat):Int)∧a≤10000∧l.length≤2048∧l++Jm (64*(b+1)) a []=Jm (64*(b+1)) (64*b) (s.GK b)∧∀t,t∉wr OH→E' t=E0 t:=by
 have few:=k.few
 have hnb:=k.nb
 have hfl:(s.GK b).length≤2048:=J2 (List.length_filter_le _ _) few
 obtain⟨x',E',H',e,-,⟨rfl,g,hf⟩,fr⟩:=Gq (p:=P) (c:=OH) (E0:=E0) (H0:=H)
  (fun q E H'=>Gr H H'∧∃(j a:Nat)(l:List (Nat×Nat)),E 8=.i j∧j≤(s.GK b).length∧q=(s.GK b).length-j∧E 6=.i (a:Int)∧a≤10000∧l.length≤j∧PL H.length H' (E 5) l∧
   l++Jm (64*(b+1)) a ((s.GK b).drop j)=Jm (64*(b+1)) (64*b) (s.GK b))
  (fun x' E' H'=>x'=.exit 0∧Gr H H'∧∃(a:Nat)(l:List (Nat×Nat)),PL H.length H' (E' 5) l∧E' 6=.i ((a:Nat):Int)∧a≤10000∧l.length≤2048∧l++Jm (64*(b+1)) a []=Jm (64*(b+1)) (64*b) (s.GK b)) (by
   rintro q E H' hE ⟨g,j,a,l,e8,hj,rfl,e6,ha,hl,hn,hd⟩
   have e0:=(hE 0 dK).trans h0
   have e7:=(hE 7 dK).trans h7
   have m':=m.gr g
   have hc:=m'.cells
   have hv:IL 0 H' v7 (Kn (s.GK b)):=hv7.keeps g
   have hlen:(Kn (s.GK b)).length=(s.GK b).length:=by simp[Kn]
   have hvl:=hv.len H'
   rw[hlen]at hvl
   by_cases c:j<(s.GK b).length
   ·have c':decide ((j:Int)<((s.GK b).length:Int))=true:=Gz oM
    have hx:(s.GK b)[j]?=some (s.GK b)[j]:=Jr c
    obtain⟨x,hxe⟩:∃x,x=(s.GK b)[j]:=⟨_,rfl⟩
    rw[←hxe]at hx
    obtain⟨hxm,hxb⟩:=Hp.P6 (JV hx)
    have hok:=k.ob x hxm
    have hsz:=Ob.size_le hok
    have hxa:(Kn (s.GK b))[j]?=some (x.addr:Int):=by simp[Kn,hx]
    obtain⟨vb,vo,i1,i2,i3,-⟩:=IL.at hv7 hxa
    have hvb:vb<H.length:=by
     cases e:H[vb]? with
     |none=>rw[e]at i3;cases i3
     |some q=>exact Gf e
    have i3Y:∀Y,Gr H Y→ld Y[vb]? vo=some (.i (x.addr:Int)):=fun Y gY=>by rw[gY.keep vb hvb fun h=>h];exact i3
    rw[drop_cons hx]at hd
    have hd':Jm (64*(b+1)) a (x::(s.GK b).drop (j+1))=(if a<x.addr then [(a,x.addr-a)]else [])++Jm (64*(b+1)) (x.addr+x.size) ((s.GK b).drop (j+1)):=rfl
    rw[hd']at hd
    have w1:IntKind.i64.wrap ((j:Int)+1)=((j+1:Nat):Int):=Gg oM
    have hnw:=hok.fits
    have hsn:s.nw=64*s.blk.length:=rfl
    have wB:IntKind.i64.wrap ((x.addr:Int)+(x.size:Int))=((x.addr+x.size:Nat):Int):=Gg oM
    have NJ:=k.obj hxm
    have hws:Gv x.refs.length x.data.length x.kd=(x.size:Int):=by unfold Gv;rw[if_pos hok.valid];rfl
    obtain⟨bb,n,tl,r2,r3,r4,r5⟩:∃bb n tl,L.ov=.slice bb 0 n n 8 tl∧(∀Y,Gr H Y→Y[bb]?=some ⟨Gu L.hv s.objs,.rw,8⟩)∧((0:Int)≤(s.idx x.addr:Int)∧(s.idx x.addr:Int)<(n:Int))∧Ba (some ⟨Gu L.hv s.objs,.rw,8⟩) (s.idx x.addr*8+2) 3=some (GX x.refs.length x.data.length x.kd):=by
     have hxi:=Hp.Q_ NJ
     obtain⟨bb,n,tl,q1,q2,q3,q4,q5,q6⟩:=J3.row m hxi
     refine⟨bb,n,tl,q1,fun Y gY=>gY.get q3,q5,?_⟩
     rw[Qg,if_pos oM,←List.drop_drop,U0 L.hv s.objs _ x hxi];rfl
    have hidx:∀Y,Gr H Y→run P 87 [.ptr rb 0,.i x.addr] Y=some (.i (s.idx x.addr),Y):=fun Y gY=>by
     have h1:=KR (m.gr gY) k x.addr
     unfold Hp.KC at h1
     rw[Hp.J4.2 ⟨x,NJ⟩,if_pos rfl]at h1
     exact h1
    by_cases ca:a<x.addr
    ·rw[if_pos ca]at hd
     have Pg:decide ((a:Int)<(x.addr:Int))=true:=Gz oM
     have wS:IntKind.i64.wrap ((x.addr:Int)-(a:Int))=((x.addr-a:Nat):Int):=by rw[Gg oM];omega
     obtain⟨v',H1,a1,a2,a3⟩:=PL.push hn g.len oM (a,x.addr-a)
     have g1:Gr H H1:=g.news a3
     have hel:elems (H'++[⟨[.i (a:Int),.i ((x.addr-a:Nat):Int)],.rw,2⟩]) 2 (.slice H'.length 0 1 1 2 false)=some (1,[.i (a:Int),.i ((x.addr-a:Nat):Int)]):=by
      rw[JN oM]
      exact W0
     have hc1:=(m.gr g1).cells
     have hi1:=i3Y H1 g1
     have hi0:=i3Y H' g
     have r1:=hidx H1 g1
     obtain⟨Y,y1,gY⟩:=Qz (H:=H1) x.refs.length x.data.length x.kd
     have hiY:=i3Y Y (g1.trans gY)
     have r3':=r3 H1 g1
     rw[hws]at y1
     rw[r2]at hc1
     dsimp only at a1
     unfold GX at r5 y1
     apply Gm (k':=(s.GK b).length-(j+1))
     ·refine W24 e0 e6 e7 e8 hvl c' i1 i2 hi0 hi1 hiY Pg wS @JO @Jc hel a1 r1 hc1 r3' r5 y1 wB w1 ?_
      rfl
     ·omega
     ·refine⟨g1.trans gY,j+1,x.addr+x.size,l++[(a,x.addr-a)],uA,oM,rfl,uA,oM,by simp;omega,by simp only[Gc,Nat.reduceEqDiff,↓reduceIte];exact a2.keeps gY,?_⟩
      rw[List.append_assoc];exact hd
    ·rw[if_neg ca,List.nil_append]at hd
     have Pg:decide ((a:Int)<(x.addr:Int))=false:=Gw oM
     have hi0:=i3Y H' g
     have r1:=hidx H' g
     have r3':=r3 H' g
     obtain⟨Y,y1,gY⟩:=Qz (H:=H') x.refs.length x.data.length x.kd
     have hiY:=i3Y Y (g.trans gY)
     rw[hws]at y1
     rw[r2]at hc
     unfold GX at r5 y1
     apply Gm (k':=(s.GK b).length-(j+1))
     ·refine W18 e0 e6 e7 e8 hvl c' i1 i2 hi0 hiY Pg r1 hc r3' r5 y1 wB w1 ?_
      rfl
     ·omega
     ·exact⟨g.trans gY,j+1,x.addr+x.size,l,uA,oM,rfl,uA,oM,oM,by simpa[Gc]using hn.keeps gY,hd⟩
   ·have c':decide ((j:Int)<((s.GK b).length:Int))=false:=Gw oM
    rw[Ge2 oM]at hd
    apply Gi (x:=.exit 0)
    ·refine Jb ?_
     rfl
    ·simp
    ·exact⟨rfl,g,a,l,by simpa[Gc]using hn,by simp[Gc,e6],ha,oM,hd⟩) _ ⟨Keeps.refl H _,0,64*b,[],h8,oM,rfl,h6,oM,sM,by rw[h5];exact .inl ⟨rfl,rfl,.inl rfl⟩,sM⟩
 grind
theorem Gid(m:J3 o H rb s L)(k:s.Ok){b:Nat}(hb:b<s.blk.length):∃v H',run P 261 [.ptr rb 0,.i b] H=some (v,H')∧Gr H H'∧PL H.length H' v (s.gaps b):=by
 have hnb:=k.nb
 have hst:=EH m k b
 have hx:s.blk[b]?=some s.blk[b]:=Jr hb
 have hsn:s.Gx b=(s.blk[b]).1:=by unfold Hp.Gx;grind
 have hsv:Hp.state s (b:Int)=(s.Gx b:Int):=by
  unfold Hp.state
  grind
 rw[hsv]at hst
 rw[Gh Gub _ _ sM]
 unfold Hp.gaps
 by_cases c:s.Gx b=1
 ·rw[if_pos c]
  rw[c]at hst
  have w0:IntKind.i64.wrap ((b:Int)*64)=((64*b:Nat):Int):=by rw[Gg oM];omega
  obtain⟨v7,H1,h1,g1,h7⟩:=GaE m k b
  have h7':IL 0 H1 v7 (Kn (s.GK b)):=h7.frame (fun c h=>Gl.2 ⟨Nat.zero_le _,(Gl.1 h).2⟩) fun c h=>rfl
  refine Jb ?_
  generalize hr:den P (.loop OH) _ _=r
  obtain⟨E',H2,a,l,rfl,g2,hp,h6,ha,hl,hd,fr⟩:=GmN (m.gr g1) k hb h7' uA uA uA uA uA hr
  have f1:=fr 1 dK
  simp only[Gc,Nat.reduceEqDiff,↓reduceIte]at f1
  have w1:IntKind.i64.wrap ((b:Int)+1)=((b+1:Nat):Int):=Gg oM
  have w2:IntKind.i64.wrap (((b+1:Nat):Int)*64)=((64*(b+1):Nat):Int):=by rw[Gg oM];omega
  have hg0:Jm (64*(b+1)) a []=if a<64*(b+1)then [(a,64*(b+1)-a)]else []:=rfl
  rw[hg0]at hd
  by_cases ca:a<64*(b+1)
  ·rw[if_pos ca]at hd
   have Pg:decide ((a:Int)<((64*(b+1):Nat):Int))=true:=Gz oM
   have wS:IntKind.i64.wrap (((64*(b+1):Nat):Int)-(a:Int))=((64*(b+1)-a:Nat):Int):=by rw[Gg oM];omega
   obtain⟨v',H3,a1,a2,a3⟩:=PL.push hp g2.len oM (a,64*(b+1)-a)
   have hel:elems (H2++[⟨[.i (a:Int),.i ((64*(b+1)-a:Nat):Int)],.rw,2⟩]) 2 (.slice H2.length 0 1 1 2 false)=some (1,[.i (a:Int),.i ((64*(b+1)-a:Nat):Int)]):=by
    rw[JN oM]
    exact W0
   dsimp only at a1
   refine⟨v',H3,?_,g1.trans (g2.news a3),?_⟩
   ·exact W0
   ·rw[←hd]
    exact a2.frame (fun c h=>Gl.2 ⟨J2 g1.len (Gl.1 h).1,(Gl.1 h).2⟩) fun c h=>rfl
  ·rw[if_neg ca,List.append_nil]at hd
   have Pg:decide ((a:Int)<((64*(b+1):Nat):Int))=false:=Gw oM
   refine⟨E' 5,H2,?_,g1.trans g2,?_⟩
   ·exact W0
   ·rw[←hd]
    exact hp.frame (fun c h=>Gl.2 ⟨J2 g1.len (Gl.1 h).1,(Gl.1 h).2⟩) fun c h=>rfl
 ·rw[if_neg c]
  have e:(((s.Gx b:Nat):Int) != 1)=true:=by simp;omega
  refine⟨.Gd,H,?_,Keeps.refl _ _,.inl ⟨rfl,rfl,.inl rfl⟩⟩
  exact W0
theorem GfV{r d kd:Int}{l:List (Nat×Nat)}(hl:l.length≤5000){v9:CV}(h9l:PL 0 H v9 l){q:Nat}(hq:H[q]?=some ⟨GX r d kd,.rw,0⟩)
  {E0:Env} (h4:E0 4=.ptr q 0) (h9:E0 9=v9) (h10:E0 10=.i 0) {r':Option (CX×Env×Gb)} (hr:den P (.loop FC) E0 H=r'):
  ∃x E' H',r'=some (x,E',H')∧Gr H H'∧((∃y,x=.ret∧QC (Gv r d kd) l=some y∧E' 6=.i y.1∧E' 7=.bool true)∨(x=.exit 2∧QC (Gv r d kd) l=none))∧∀t,t∉wr FC→E' t=E0 t:=by
 obtain⟨x',E',H',e,-,⟨g,hf⟩,fr⟩:=Gq (p:=P) (c:=FC) (E0:=E0) (H0:=H)
  (fun q E H'=>Gr H H'∧∃j:Nat,E 10=.i j∧j≤l.length∧q=l.length-j∧QC (Gv r d kd) (l.drop j)=QC (Gv r d kd) l)
  (fun x E' H'=>Gr H H'∧((∃y,x=.ret∧QC (Gv r d kd) l=some y∧E' 6=.i y.1∧E' 7=.bool true)∨(x=.exit 2∧QC (Gv r d kd) l=none))) (by
   rintro q' E H' hE ⟨g,j,e10,hj,rfl,hd⟩
   have e4:=(hE 4 dK).trans h4
   have e9:=(hE 9 dK).trans h9
   have hv:PL 0 H' v9 l:=h9l.keeps g
   have hvl:=hv.len H'
   by_cases c:j<l.length
   ·have c':decide ((j:Int)<(l.length:Int))=true:=Gz oM
    have hx:l[j]?=some l[j]:=Jr c
    obtain⟨x,hxe⟩:∃x,x=l[j]:=⟨_,rfl⟩
    rw[←hxe]at hx
    obtain⟨b,i1,i2,i3,i4,i5,-⟩:=PL.at hv hx
    have hq':=Gr.get g hq
    obtain⟨Y,y1,gY⟩:=Qz (H:=H') r d kd
    have i3Y:=gY.get i3
    unfold GX at hq' y1
    rw[drop_cons hx]at hd
    unfold QC at hd
    rw[List.find?_cons]at hd
    by_cases ca:Gv r d kd≤(x.2:Int)
    ·have Pg:decide (Gv r d kd≤(x.2:Int))=true:=Gz ca
     rw[Pg]at hd
     apply Gi (x:=.ret)
     ·refine W14 e4 e9 e10 hvl c' hq' y1 i1 i2 i3 i3Y i4 i5 Pg ?_
      rfl
     ·simp
     ·exact⟨g.trans gY,.inl ⟨x,rfl,hd.symm,uA,uA⟩⟩
    ·have Pg:decide (Gv r d kd≤(x.2:Int))=false:=Gw ca
     rw[Pg]at hd
     have w1:IntKind.i64.wrap ((j:Int)+1)=((j+1:Nat):Int):=Gg oM
     apply Gm (k':=l.length-(j+1))
     ·refine W13 e4 e9 e10 hvl c' hq' y1 i2 i3 i3Y i5 Pg w1 ?_
      rfl
     ·omega
     ·exact⟨g.trans gY,j+1,uA,oM,rfl,hd⟩
   ·have c':decide ((j:Int)<(l.length:Int))=false:=Gw oM
    rw[Ge2 oM]at hd
    apply Gi (x:=.exit 2)
    ·refine Jb ?_
     rfl
    ·simp
    ·exact⟨g,.inr ⟨rfl,hd.symm⟩⟩) _ ⟨Keeps.refl _ _,0,h10,oM,rfl,rfl⟩
 grind
theorem GbT(m:J3 o H rb s L)(k:s.Ok){b:Nat}(hb:b<s.blk.length):run P 13 [.ptr rb 0,.i b] H=some (.i (s.Gx b),H)∧run P 14 [.ptr rb 0,.i b] H=some (.i (s.KD b),H):=by
 have h1:=EH m k b
 have h2:=Gfk m k b
 have hx:s.blk[b]?=some s.blk[b]:=Jr hb
 have e1:Hp.state s (b:Int)=(s.Gx b:Int):=by
  unfold Hp.state Hp.Gx
  grind
 have e2:Hp.space s (b:Int)=(s.KD b:Int):=by
  unfold Hp.space Hp.KD
  grind
 grind
theorem GmH(m:J3 o H rb s L)(k:s.Ok){r d kd sp:Int}{q:Nat}(hq:H[q]?=some ⟨GX r d kd,.rw,0⟩)
  {E0:Env} (h0:E0 0=.ptr rb 0) (h2:E0 2=.i sp) (h4:E0 4=.ptr q 0) (h8:E0 8=.i 1) {r':Option (CX×Env×Gb)} (hr:den P (.loop EP) E0 H=r'):
  ∃x E' H',r'=some (x,E',H')∧Gr H H'∧((∃y,x=.ret∧s.gap (Gv r d kd) sp=some y∧E' 6=.i y.1∧E' 7=.bool true)∨(x=.exit 0∧s.gap (Gv r d kd) sp=none)):=by
 have hnb:=k.nb
 have few:=k.few
 obtain⟨x',E',H',e,-,⟨g,hf⟩,fr⟩:=Gq (p:=P) (c:=EP) (E0:=E0) (H0:=H)
  (fun q E H'=>Gr H H'∧∃b:Nat,E 8=.i b∧1≤b∧b≤s.blk.length∧q=s.blk.length-b∧s.F5 (Gv r d kd) sp (s.blk.length-b) b=s.gap (Gv r d kd) sp)
  (fun x E' H'=>Gr H H'∧((∃y,x=.ret∧s.gap (Gv r d kd) sp=some y∧E' 6=.i y.1∧E' 7=.bool true)∨(x=.exit 0∧s.gap (Gv r d kd) sp=none))) (by
   rintro q' E H' hE ⟨g,b,e8,hb1,hb2,rfl,hd⟩
   have e0:=(hE 0 dK).trans h0
   have e2:=(hE 2 dK).trans h2
   have e4:=(hE 4 dK).trans h4
   have m':=m.gr g
   have hbl:=Lr m' k
   by_cases c:b<s.blk.length
   ·have c':decide ((b:Int)<(s.blk.length:Int))=true:=Gz oM
    obtain⟨s1,s2⟩:=GbT m' k c
    have w1:IntKind.i64.wrap ((b:Int)+1)=((b+1:Nat):Int):=Gg oM
    rw[show s.blk.length-b=(s.blk.length-(b+1))+1 by omega]at hd
    unfold Hp.F5 at hd
    by_cases cc:s.Gx b=1∧(s.KD b:Int)=sp
    ·rw[if_pos cc]at hd
     have c1:(((s.Gx b:Nat):Int) != 1)=false:=by rw[cc.1];rfl
     have c2:(((s.KD b:Nat):Int) != sp)=false:=by rw[cc.2];simp
     obtain⟨v9,H1,a1,g1,h9⟩:=Gid m' k c
     have h9':PL 0 H1 v9 (s.gaps b):=h9.frame (fun c h=>Gl.2 ⟨Nat.zero_le _,(Gl.1 h).2⟩) fun c h=>rfl
     have hgl:(s.gaps b).length≤5000:=by
      unfold Hp.gaps
      split
      ·have:=Zk (e:=64*(b+1)) (l:=s.GK b) (a:=64*b)
       have:(s.GK b).length≤s.objs.length:=List.length_filter_le _ _
       omega
      ·simp
     have hq1:=Gr.get (g.trans g1) hq
     cases hgi:QC (Gv r d kd) (s.gaps b)with
     |some y=>
      rw[hgi]at hd
      suffices h:∃E' H2,den P EP E H'=some (.ret,E',H2)∧Gr H1 H2∧E' 6=.i y.1∧E' 7=.bool true by
       obtain⟨E',H2,h1,h2,h3,h4⟩:=h
       exact Gi h1 sM ⟨(g.trans g1).trans h2,.inl ⟨y,rfl,hd.symm,h3,h4⟩⟩
      refine W10 e0 e2 e8 hbl c' s1 s2 c1 c2 a1 ?_
      generalize hr:den P (.loop FC) _ _=rr
      obtain⟨x,E',H2,rfl,g2,hh,fr⟩:=GfV (r:=r) (d:=d) (kd:=kd) hgl h9' hq1 (by simp[Gc,e4]) uA uA hr
      rcases hh with⟨z,rfl,hz,h6,h7⟩|⟨rfl,hz⟩
      ·rw[hgi]at hz
       simp only[GA]at hz
       subst hz
       refine Jb ?_
       exact⟨_,_,rfl,g2,h6,h7⟩
      ·rw[hgi]at hz;cases hz
     |none=>
      rw[hgi]at hd
      suffices h:∃E' H2,den P EP E H'=some (.normal,E',H2)∧Gr H1 H2∧E' 8=.i ((b+1:Nat):Int)by
       obtain⟨E',H2,h1,h2,h3⟩:=h
       exact Gm h1 (k':=s.blk.length-(b+1)) oM ⟨(g.trans g1).trans h2,b+1,h3,oM,oM,rfl,hd⟩
      refine W10 e0 e2 e8 hbl c' s1 s2 c1 c2 a1 ?_
      generalize hr:den P (.loop FC) _ _=rr
      obtain⟨x,E',H2,rfl,g2,hh,fr⟩:=GfV (r:=r) (d:=d) (kd:=kd) hgl h9' hq1 (by simp[Gc,e4]) uA uA hr
      rcases hh with⟨z,rfl,hz,h6,h7⟩|⟨rfl,hz⟩
      ·rw[hgi]at hz;cases hz
      ·have f8:=fr 8 dK
       simp only[Gc,Nat.reduceEqDiff,↓reduceIte,e8]at f8
       refine Jb ?_
       exact⟨_,_,rfl,g2,uA⟩
    ·rw[if_neg cc]at hd
     by_cases c1:s.Gx b=1
     ·have c1':(((s.Gx b:Nat):Int) != 1)=false:=by rw[c1];rfl
      have c2:(((s.KD b:Nat):Int) != sp)=true:=by
       grind
      apply Gm (k':=s.blk.length-(b+1))
      ·refine W10 e0 e2 e8 hbl c' s1 s2 c1' c2 w1 ?_
       rfl
      ·omega
      ·exact⟨g,b+1,uA,oM,oM,rfl,hd⟩
     ·have c1':(((s.Gx b:Nat):Int) != 1)=true:=by simp;omega
      apply Gm (k':=s.blk.length-(b+1))
      ·refine Jb ?_
       rfl
      ·omega
      ·exact⟨g,b+1,uA,oM,oM,rfl,hd⟩
   ·have c':decide ((b:Int)<(s.blk.length:Int))=false:=Gw oM
    rw[show s.blk.length-b=0 by omega]at hd
    apply Gi (x:=.exit 0)
    ·refine Jb ?_
     rfl
    ·simp
    ·exact⟨g,.inr ⟨rfl,hd.symm⟩⟩) _ ⟨Keeps.refl _ _,1,h8,oM,oM,rfl,rfl⟩
 grind
theorem Gjx(m:J3 o H rb s L)(k:s.Ok)(r d kd sp:Int):∃H',run P 213 [.ptr rb 0,.agg (GX r d kd),.i sp] H=some (match s.gap (Gv r d kd) sp with|some y=>.Jj [.i y.1,.bool true]|none=>.Jj [.i 0,.bool false],H')∧Gr H H':=by
 obtain⟨X,hX⟩:∃X:Gb,X=H++[⟨GX r d kd,.rw,0⟩]:=⟨_,rfl⟩
 have gX:Gr H X:=by rw[hX];exact Gr.app _ _
 have lX:X[H.length]?=some ⟨GX r d kd,.rw,0⟩:=by rw[hX];simp
 rw[Gh c213 _ _ sM]
 refine Jb ?_
 rw[←hX]
 generalize hr:den P (.loop EP) _ _=rr
 obtain⟨x,E',H',rfl,g,h⟩:=GmH (m.gr gX) k (r:=r) (d:=d) (kd:=kd) (sp:=sp) lX uA uA uA uA hr
 refine⟨H',?_,gX.trans g⟩
 rcases h with⟨y,rfl,h1,h2,h3⟩|⟨rfl,h1⟩
 ·rw[h1]
  exact W0
 ·rw[h1]
  exact W0
theorem Ge8(m:J3 o H rb s L)(k:s.Ok)(f:s.Fz)(r d kd sp:Int):
  Am o H rb (s.first r d kd sp).1 (.Jj [.i (s.first r d kd sp).2.1,.bool (s.first r d kd sp).2.2]) (run P 116 [.ptr rb 0,.agg (GX r d kd),.i sp] H):=by
 have hnb:=k.nb
 have hwb:=QZ r d kd
 obtain⟨X,hX⟩:∃X:Gb,X=H++[⟨GX r d kd,.rw,0⟩]:=⟨_,rfl⟩
 have gX:Gr H X:=by rw[hX];exact Gr.app _ _
 have lX:X[H.length]?=some ⟨GX r d kd,.rw,0⟩:=by rw[hX];simp
 obtain⟨X1,y1,g1⟩:=AQ (H:=X) r d kd
 have m1:=m.gr (gX.trans g1)
 have GD:=Gr.get g1 lX
 have frl:∀n,s.free n≤s.blk.length:=fun n=>Hp.Ml
 rw[Gh c116 _ _ sM]
 unfold GX at hX lX y1 GD⊢
 refine Jb ?_
 rw[←hX]
 unfold Hp.first
 by_cases cL:32<Gv r d kd
 ·rw[if_pos cL]
  rw[Gz cL]at y1
  obtain⟨X2,y2,g2⟩:=Ol (H:=X1) r d kd
  have m2:=m1.gr g2
  obtain⟨n,hn⟩:∃n:Nat,(Gv r d kd+63)/64=n:=⟨((Gv r d kd+63)/64).toNat,oM⟩
  rw[hn]at y2⊢
  rw[Kt]
  have hf:=Wp m2 k (n:=n) oM
  have hfl:=frl n
  unfold GX at y2
  by_cases c0:s.free n=0
  ·rw[if_pos c0]
   rw[c0]at hf
   refine⟨X2,o,L,?_,m2,KW.gr ((gX.trans g1).trans g2)⟩
   exact V4 y1 GD y2 hf
  ·rw[if_neg c0]
   have e0:((s.free n:Int)==0)=false:=by simp;omega
   have w1:IntKind.i64.wrap ((s.free n:Int)*64)=64*(s.free n:Int):=by rw[Gg oM];omega
   obtain⟨H',o',L',h1,h2,h3⟩:=Ms m2 k f (s.free n) n sp oM
   refine⟨H',o',L',?_,h2,(KW.gr ((gX.trans g1).trans g2)).trans h3⟩
   exact V7 y1 GD y2 hf e0 w1 h1
 ·rw[if_neg cL]
  rw[Gw cL]at y1
  obtain⟨X2,y2,g2⟩:=Gjx m1 k r d kd sp
  have m2:=m1.gr g2
  unfold GX at y2
  cases hg:s.gap (Gv r d kd) sp with
  |some y=>
   rw[hg]at y2
   refine⟨X2,o,L,?_,m2,KW.gr ((gX.trans g1).trans g2)⟩
   exact V3 y1 GD y2
  |none=>
   rw[hg]at y2
   have hf:run P 211 [.ptr rb 0,.int .i64 1] X2=_:=Wp m2 k (n:=1) oM
   have hfl:=frl 1
   dsimp only
   by_cases c0:s.free 1=0
   ·rw[if_pos c0]
    rw[c0]at hf
    refine⟨X2,o,L,?_,m2,KW.gr ((gX.trans g1).trans g2)⟩
    exact V4 y1 GD y2 hf
   ·rw[if_neg c0]
    have e0:((s.free 1:Int)==0)=false:=by simp;omega
    have w1:IntKind.i64.wrap ((s.free 1:Int)*64)=64*(s.free 1:Int):=by rw[Gg oM];omega
    obtain⟨H',o',L',h1,h2,h3⟩:=GdC m2 k f (s.free 1) sp
    refine⟨H',o',L',?_,h2,(KW.gr ((gX.trans g1).trans g2)).trans h3⟩
    exact V7 y1 GD y2 hf e0 w1 h1
end
end Go.Cs.Tryz
namespace Go.Cs.Tryz
open Go Go.Cs A
def C79:Gj:=⟨10,0,T [n 2 0] (S (T [m 3 0,q1 4 161 3,no 5 4] (I 5 (Q [n 2 0]))) (Q [m 6 0,z 7 6,f 8 0 7,l 9 1 8,m 2 9])),[r 2]⟩
theorem c79:P 79=some C79:=by kernel_rfl
def GrR:Gj:=⟨12,0,T [nb 2 false] (Q [m 3 0,e 4 (.eqv true 1 (t 3) (c .nilPtr)),m 5 4,gt 5 (m 6 0),gt 5 (z 7 6),gt 5 (f 8 0 7),gt 5 (l 9 1 8),gt 5 (bk 10 .gtr 9 0),an 11 5 10,m 2 11]),[r 2]⟩
theorem Gtr:P 161=some GrR:=by kernel_rfl
def GqM:Gj:=⟨69,0,T [bo 3 1,e 4 (.Km (c .nilPtr))] (T [e 6 (.Ug 289 [t 3]),m 5 6] (S (B 0 (S (D [⟨f 8 0 3,0,0,0⟩,⟨l 9 1 8,1,1,0⟩,⟨bk 10 .eql 9 0,2,0,0⟩,⟨m 11 10,3,0,0⟩,⟨gt 11 (f 12 1 3),4,0,0⟩,⟨gt 11 (l 13 1 12),5,1,0⟩,⟨gt 11 (bk 14 .geq 13 0),6,0,0⟩,⟨an 15 11 14,7,0,0⟩,⟨m 16 15,8,0,0⟩,⟨gt 16 (f 17 1 3),9,0,0⟩,⟨gt 16 (l 18 1 17),10,1,0⟩,⟨gt 16 (m 19 0),11,0,0⟩,⟨gt 16 (z 20 19),12,0,0⟩,⟨gt 16 (f 21 0 20),13,0,0⟩,⟨gt 16 (l 22 1 21),14,1,0⟩,⟨gt 16 (b 23 .lss 18 22),15,0,0⟩,⟨an 24 16 23,16,0,0⟩,⟨m 7 24,17,0,0⟩]) (C 7 (S (D [⟨m 25 5,0,0,0⟩,⟨m 26 0,1,0,0⟩,⟨z 27 26,2,0,0⟩,⟨f 28 1 27,3,0,0⟩,⟨l 29 1 28,4,1,0⟩,⟨f 30 1 3,5,0,0⟩,⟨l 31 1 30,6,1,0⟩,⟨bk 32 .mul 31 16,7,0,0⟩,⟨f 33 1 3,8,0,0⟩,⟨l 34 1 33,9,1,0⟩,⟨bk 35 .add 34 1,10,0,0⟩,⟨bk 36 .mul 35 16,11,0,0⟩,⟨e 37 (.slice 1 (t 29) (some (t 32)) (some (t 36)) none),12,0,0⟩,⟨e 38 (.KH (t 25) [t 37]),13,3,0⟩,⟨m 4 38,14,0,1⟩]) .ret) (T [f 40 0 3,l 41 1 40,bk 42 .eql 41 1,m 43 42,gt 43 (f 44 1 3),gt 43 (l 45 1 44),gt 43 (bk 46 .eql 45 0),an 47 43 46,m 39 47] (C 39 (Q [m 48 5,m 49 0,z 50 49,f 51 2 50,l 52 1 51,e 53 (.KH (t 48) [t 52]),m 4 53]) (T [f 55 0 3,l 56 1 55,bk 57 .eql 56 2,m 58 57,gt 58 (f 59 1 3),gt 58 (l 60 1 59),gt 58 (bk 61 .eql 60 0),an 62 58 61,m 54 62] (I 54 (Q [m 63 5,m 64 0,z 65 64,f 66 3 65,l 67 1 66,e 68 (.KH (t 63) [t 67]),m 4 68])))))))) (Q [e 4 (.Km (c .nilPtr))]))),[r 4]⟩
theorem GvY:P 241=some GqM:=by kernel_rfl
def Gth:Gj:=⟨18,0,T [e 3 (.Km (c .nilPtr))] (S (T [f 4 2 1,l 5 1 4,bk 6 .lss 5 0,m 7 6,gf 7 (f 8 2 1),gf 7 (l 9 1 8),gf 7 (m 10 0),gf 7 (le 11 10),gf 7 (b 12 .geq 9 11),or 13 7 12] (I 13 (Q [e 3 (.Km (c .nilPtr))]))) (Q [m 14 0,f 15 2 1,l 16 1 15,x 17 1 14 16,m 3 17])),[r 3]⟩
theorem GsG:P 289=some Gth:=by kernel_rfl
end Go.Cs.Tryz
namespace Go.Cs
open Go
structure Rt where
 slots:List (List Int)
 glob:List Int
 queue:List Int
structure Rt.Ok(R:Rt):Prop where
 ns:1≤R.slots.length∧R.slots.length≤4
 s16:∀l∈R.slots,l.length=16
 g16:R.glob.length=16
 FV:R.queue.length≤64
 vs:∀l∈R.slots,∀v∈l,0≤v∧v≤9223372036854775807
 vg:∀v∈R.glob,0≤v∧v≤9223372036854775807
 vq:∀v∈R.queue,0<v∧v≤9223372036854775807
def Rt.flat(R:Rt):List Int:=R.slots.flatten
theorem K8:∀{l:List (List Int)},(∀x∈l,x.length=16)→l.flatten.length=16*l.length
 |[],_=>rfl
 |x::l,h=>by
  rw[List.flatten_cons,Qi,K8 fun y hy=>h y (VA _ hy),h x QT,List.length_cons];omega
theorem Rt.Ok.K8{R:Rt}(k:R.Ok):R.flat.length=16*R.slots.length:=Go.Cs.K8 k.s16
theorem flat_get:∀{l:List (List Int)}{m i:Nat}{x:List Int},(∀x∈l,x.length=16)→l[m]?=some x→i<16→l.flatten[16*m+i]?=x[i]?
 |[],m,i,x,_,h,_=>by simp at h
 |y::l,0,i,x,h,e,hi=>by
  grind
 |y::l,m+1,i,x,h,e,hi=>by
  simp only[List.getElem?_cons_succ]at e
  have hy:=h y QT
  rw[List.flatten_cons,lX8 oM,hy,show 16*(m+1)+i-16=16*m+i by omega]
  exact flat_get (fun z hz=>h z (VA _ hz)) e hi
theorem Gau:∀{l:List (List Int)}{m i:Nat}{x:List Int}{v:Int},(∀x∈l,x.length=16)→l[m]?=some x→i<16→(l.set m (x.set i v)).flatten=l.flatten.set (16*m+i) v
 |[],m,i,x,v,_,h,_=>by simp at h
 |y::l,0,i,x,v,h,e,hi=>by
  grind
 |y::l,m+1,i,x,v,h,e,hi=>by
  simp only[List.getElem?_cons_succ]at e
  have hy:=h y QT
  rw[List.set_cons_succ,List.flatten_cons,List.flatten_cons,Gau (fun z hz=>h z (VA _ hz)) e hi,List.set_append_right _ _ oM,hy,show 16*(m+1)+i-16=16*m+i by omega]
def Rt.loc(R:Rt)(kd mu ix:Int):Option (Nat×Nat):=
 if kd=0∧0≤mu∧mu<(R.slots.length:Int)then(if 0≤ix∧ix<16 then some (0,16*mu.toNat+ix.toNat)else none)
 else if kd=1∧mu=0 then(if 0≤ix∧ix<(R.glob.length:Int)then some (1,ix.toNat)else none)
 else if kd=2∧mu=0 then(if 0≤ix∧ix<(R.queue.length:Int)then some (2,ix.toNat)else none)
 else none
def Rt.li(R:Rt):Nat→List Int
 |0=>R.flat
 |1=>R.glob
 |_=>R.queue
def Rt.get(R:Rt)(kd mu ix:Int):Int×Int:=match R.loc kd mu ix with
 |some x=>((R.li x.1).getD x.2 0,0)
 |none=>(0,1)
def Rt.setAt(R:Rt)(x:Nat×Nat)(v:Int):Rt:=
 if x.1=0 then{R with slots:=R.slots.modify (x.2/16) fun l=>l.set (x.2 % 16) v}
 else if x.1=1 then{R with glob:=R.glob.set x.2 v}else{R with queue:=R.queue.set x.2 v}
def Rt.set(R:Rt)(kd mu ix v:Int):Rt×Int:=match R.loc kd mu ix with
 |some x=>if v<0∨(v=0∧kd=2)then(R,1)else(R.setAt x v,0)
 |none=>(R,1)
def Rt.push(R:Rt)(v:Int):Rt×Int:=if v≤0 then(R,1)else if R.queue.length=64 then(R,6)else({R with queue:=R.queue++[v]},0)
def Rt.new(n:Nat):Rt:=⟨List.replicate n (List.replicate 16 0),List.replicate 16 0,[]⟩
theorem Rt.EN{n:Nat}(h:1≤n∧n≤4):(Rt.new n).Ok where
 ns:=by simpa[Rt.new]using h
 s16:=fun l hl=>by rw[(List.mem_replicate.1 hl).2];simp
 g16:=by simp[Rt.new]
 FV:=by simp[Rt.new]
 vs:=fun l hl v hv=>by rw[(List.mem_replicate.1 hl).2]at hv;rw[(List.mem_replicate.1 hv).2];omega
 vg:=fun v hv=>by rw[(List.mem_replicate.1 hv).2];omega
 vq:=fun v hv=>by cases hv
theorem Rt.BK{R:Rt}(k:R.Ok){kd mu ix:Int}{x:Nat×Nat}(h:R.loc kd mu ix=some x):x.2<(R.li x.1).length∧x.1≤2∧(x.1=2↔kd=2)∧(x.1=0→x.2/16<R.slots.length):=by
 have hf:=k.K8
 unfold Rt.loc at h
 split at h
 ·split at h
  ·simp only[GA]at h
   subst h
   refine⟨?_,by simp only;omega,by simp only;omega,fun _=>by simp only;omega⟩
   show _<R.flat.length
   simp only;omega
  ·cases h
 ·split at h
  ·split at h
   ·simp only[GA]at h
    subst h
    refine⟨?_,by simp only;omega,by simp only;omega,fun e=>absurd e sM⟩
    show _<R.glob.length
    simp only;omega
   ·cases h
  ·split at h
   ·split at h
    ·simp only[GA]at h
     subst h
     rename_i hc _
     refine⟨?_,by simp only;omega,⟨fun _=>hc.1,fun _=>rfl⟩,fun e=>absurd e sM⟩
     show _<R.queue.length
     simp only;omega
    ·cases h
   ·cases h
theorem Zg{α:Type}{f:α→α}:∀{l:List α}{i:Nat},l.modify i f=match l[i]? with|some x=>l.set i (f x)|none=>l
 |[],i=>by simp
 |x::l,0=>by simp
 |x::l,i+1=>by
  rw[List.modify_succ_cons,Zg (l:=l) (i:=i),List.getElem?_cons_succ]
  cases l[i]?<;>rfl
theorem Rt.DU{R:Rt}(k:R.Ok){x:Nat×Nat}(hx:x.1≤2)(h0:x.1=0→x.2/16<R.slots.length)(v:Int)(i:Nat)(hi:i≤2):(R.setAt x v).li i=if i=x.1 then(R.li i).set x.2 v else R.li i:=by
 obtain⟨a,j⟩:=x
 simp only at hx h0⊢
 match a,hx with
 |0,_=>
  have hl:=h0 rfl
  have e:(R.setAt (0,j) v).flat=R.flat.set j v:=by
   show(R.slots.modify (j/16) fun l=>l.set (j % 16) v).flatten=_
   rw[Zg,Jr hl]
   have hg:=Jr hl
   show(R.slots.set (j/16) (R.slots[j/16].set (j % 16) v)).flatten=_
   rw[Gau k.s16 hg oM]
   show R.slots.flatten.set _ v=R.slots.flatten.set _ v
   congr 1
   omega
  match i,hi with
  |0,_=>rw[if_pos rfl];exact e
  |1,_=>rfl
  |2,_=>rfl
 |1,_=>match i,hi with
  |0,_=>rfl
  |1,_=>rfl
  |2,_=>rfl
 |2,_=>match i,hi with
  |0,_=>rfl
  |1,_=>rfl
  |2,_=>rfl
theorem YS{α:Type}{f:α→α}{l:List α}{i:Nat}:(l.modify i f).length=l.length:=List.length_modify ..
theorem Za{α:Type}{f:α→α}{l:List α}{i:Nat}{y:α}(h:y∈l.modify i f):y∈l∨∃x∈l,y=f x:=by
 rw[Zg]at h
 grind
theorem Rt.Ok.set{R:Rt}(k:R.Ok)(kd mu ix v:Int)(hv:v≤9223372036854775807):(R.set kd mu ix v).1.Ok:=by
 unfold Rt.set
 split
 ·rename_i x hx
  split
  ·exact k
  ·rename_i hc
   obtain⟨h1,h2,h3,h4⟩:=Rt.BK k hx
   unfold Rt.setAt
   split
   ·refine⟨by rw[YS];exact k.ns,fun l hl=>?_,k.g16,k.FV,fun l hl w hw=>?_,k.vg,k.vq⟩
    ·rcases Za hl with h|⟨y,hy,rfl⟩
     ·exact k.s16 l h
     ·rw[List.length_set];exact k.s16 y hy
    ·rcases Za hl with h|⟨y,hy,rfl⟩
     ·exact k.vs l h w hw
     ·rcases List.mem_or_eq_of_mem_set hw with h|h
      ·exact k.vs y hy w h
      ·subst h;omega
   ·split
    ·refine⟨k.ns,k.s16,by rw[List.length_set];exact k.g16,k.FV,k.vs,fun w hw=>?_,k.vq⟩
     rcases List.mem_or_eq_of_mem_set hw with h|h
     ·exact k.vg w h
     ·subst h;omega
    ·refine⟨k.ns,k.s16,k.g16,by rw[List.length_set];exact k.FV,k.vs,k.vg,fun w hw=>?_⟩
     rcases List.mem_or_eq_of_mem_set hw with h|h
     ·exact k.vq w h
     omega
 ·exact k
theorem Rt.Ok.push{R:Rt}(k:R.Ok)(v:Int)(hv:v≤9223372036854775807):(R.push v).1.Ok:=by
 unfold Rt.push
 split
 ·exact k
 ·split
  ·exact k
  ·rename_i h1 h2
   refine⟨k.ns,k.s16,k.g16,by have:=k.FV;simp;omega,k.vs,k.vg,fun w hw=>?_⟩
   rcases K_.1 hw with h|h
   ·exact k.vq w h
   grind
structure JL(o:Tags)(H:Gb)(rb:Nat)(R:Rt)(v:Nat→CV):Prop where
 dom:∀c t,o c=some t→c<H.length
 top:o rb=some (0,9,0)
 cells:H[rb]?=some ⟨[.i R.slots.length,v 0,v 1,v 2],.rw,0⟩
 li:∀i,i≤2→At o (0,i,0) H (v i) 1 (R.li i).length (ints (R.li i))
theorem JL.frame{o o':Tags}{H H':Gb}{rb:Nat}{R:Rt}{v:Nat→CV}(m:JL o H rb R v)(hd:∀c t,o' c=some t→c<H'.length)(ho:∀c t,o c=some t→o' c=some t)(hf:∀c t,o c=some t→H'[c]?=H[c]?):JL o' H' rb R v where
 dom:=hd
 top:=ho _ _ m.top
 cells:=by rw[hf _ _ m.top,m.cells]
 li:=fun i h=>(m.li i h).frame (fun c=>ho c _) (fun c=>hf c _)
theorem JL.gr{o:Tags}{H H':Gb}{rb:Nat}{R:Rt}{v:Nat→CV}(m:JL o H rb R v)(g:Gr H H'):JL o H' rb R v:=
 m.frame (fun c t h=>J6 (m.dom c t h) g.len) (fun _ _ h=>h) (fun c t h=>g.keep c (m.dom c t h) fun h=>h)
def Gho(o:Tags)(H:Gb)(rb:Nat)(R':Rt)(v:CV)(r:Option (CV×Gb)):Prop:=
 ∃H' o' w',r=some (v,H')∧JL o' H' rb R' w'∧KW o H o' H'
def Ag(v:Nat→CV)(x:Option (Nat×Nat)):CV:=match x with
 |some x=>.ptr (Gp (v x.1)) x.2
 |none=>.nilPtr
theorem JL.setAt{o:Tags}{H:Gb}{rb:Nat}{R:Rt}{v:Nat→CV}(m:JL o H rb R v)(k:R.Ok){x:Nat×Nat}(h1:x.2<(R.li x.1).length)(h2:x.1≤2)(h0:x.1=0→x.2/16<R.slots.length)(w:Int):
  o (Gp (v x.1))=some (0,x.1,0)∧H[Gp (v x.1)]?=some ⟨ints (R.li x.1),.rw,1⟩∧JL o (H.set (Gp (v x.1)) ⟨(ints (R.li x.1)).set x.2 (.i w),.rw,1⟩) rb (R.setAt x w) v:=by
 obtain⟨tl,e1,e2,e3,e4⟩:=(m.li x.1 h2).pos oM
 refine⟨e2,e3,?_⟩
 have hns:(R.setAt x w).slots.length=R.slots.length:=by
  unfold Rt.setAt
  split
  ·simp
  ·split<;>rfl
 have old:∀c t,o c=some t→t≠(0,x.1,0)→(H.set (Gp (v x.1)) ⟨(ints (R.li x.1)).set x.2 (.i w),.rw,1⟩)[c]?=H[c]?:=fun c t h hn=>by
  grind
 refine⟨fun c t h=>by rw[List.length_set];exact m.dom c t h,m.top,?_,fun i hi=>?_⟩
 ·rw[old _ _ m.top (by simp;omega),m.cells,hns]
 ·rw[Rt.DU k h2 h0 w i hi]
  by_cases c:i=x.1
  ·subst c
   rw[if_pos rfl,List.length_set,ints_set]
   exact .inr ⟨Gp (v x.1),tl,e1,e2,by grind,by simp[ints]⟩
  ·rw[if_neg c]
   exact(m.li i hi).frame (fun c h=>h) fun d h=>old d _ h (by simp[c])
end Go.Cs
namespace Go.Cs.Tryz
open Go Go.Cs
section
variable {H : Gb} {o : Tags} {rb : Nat} {R : Rt} {v : Nat → CV}
theorem Qw(m:JL o H rb R v)(k:R.Ok):run P 161 [.ptr rb 0] H=some (.bool true,H):=by
 have h:=m.cells
 have hp:(0:Int)<(R.slots.length:Int):=by have:=k.ns;omega
 rw[Gh Gtr _ _ sM]
 exact W0
theorem Ac(m:JL o H rb R v)(k:R.Ok):run P 79 [.ptr rb 0] H=some (.i R.slots.length,H):=by
 have h:=m.cells
 have h1:=Qw m k
 rw[Gh c79 _ _ sM]
 exact W0
theorem Rj{q:Nat}{kd mu ix:Int}(hq:H[q]?=some ⟨[.i kd,.i mu,.i ix],.rw,0⟩) {w:CV} {n b f:Nat} (hw:(n=0∧∀X,UK w X=some (.i 0,X))∨∃c t,w=.slice b f n c 1 t):
  run P 289 [w,.ptr q 0] H=some (if 0≤ix∧ix<(n:Int)then .ptr b (f+ix.toNat)else .nilPtr,H):=by
 have hl:UK w H=some (.i n,H):=by
  rcases hw with⟨rfl,h⟩|⟨c,t,rfl⟩
  ·exact h H
  ·rfl
 rw[Gh GsG _ _ sM]
 by_cases c1:ix<0
 ·rw[if_neg oM]
  exact W0
 ·have c1':decide (ix<0)=false:=Gw c1
  by_cases c2:(n:Int)≤ix
  ·rw[if_neg oM]
   exact W0
  ·have c2':decide ((n:Int)≤ix)=false:=Gw c2
   rw[if_pos oM]
   rcases hw with⟨rfl,h⟩|⟨c,t,rfl⟩
   ·omega
   ·have c3:0≤ix∧ix<(n:Int):=by omega
    exact W0
theorem GhB(m:JL o H rb R v)(k:R.Ok)(kd mu ix:Int):∃H',run P 241 [.ptr rb 0,.agg [.i kd,.i mu,.i ix]] H=some (Ag v (R.loc kd mu ix),H')∧Gr H H':=by
 obtain⟨X,hX⟩:∃X:Gb,X=H++[⟨[.i kd,.i mu,.i ix],.rw,0⟩]:=⟨_,rfl⟩
 have gX:Gr H X:=by rw[hX];exact Gr.app _ _
 have lX:X[H.length]?=some ⟨[.i kd,.i mu,.i ix],.rw,0⟩:=by rw[hX];simp
 have mX:=m.gr gX
 have hc:=mX.cells
 have hfl:=k.K8
 have hns:=k.ns
 refine⟨X,?_,gX⟩
 rw[Gh GvY _ _ sM]
 simp(disch:=first|exact dz|fail) only[simprocAttr,Gs,↓reduceIte,QG]
 rw[←hX]
 have at':∀i,i≤2→(∃b f,((R.li i).length=0∧∀X,UK (v i) X=some (.i 0,X))∨∃c t,v i=.slice b f (R.li i).length c 1 t):=fun i hi=>by
  rcases mX.li i hi with⟨h1,-,h2⟩|⟨b,tl,h1,-⟩
  ·refine⟨0,0,.inl ⟨h1,fun Y=>?_⟩⟩
   rcases h2 with h2|⟨b,f,h2⟩<;>rw[h2]<;>rfl
  grind
 unfold Rt.loc
 by_cases a0:kd=0∧0≤mu∧mu<(R.slots.length:Int)
 ·rw[if_pos a0]
  obtain⟨rfl,a1,a2⟩:=a0
  obtain⟨mu,rfl⟩:∃n:Nat,mu=n:=⟨mu.toNat,oM⟩
  rw[Kt]
  have d1:decide ((0:Int)≤(mu:Int))=true:=Gz a1
  have d2:decide ((mu:Int)<(R.slots.length:Int))=true:=Gz a2
  obtain⟨tl,s1,s2,s3,s4⟩:=(mX.li 0 oM).pos (by show 0<R.flat.length;omega)
  have e0:R.li 0=R.flat:=rfl
  have w1:IntKind.i64.wrap ((mu:Int)*16)=((mu*16:Nat):Int):=by rw[Gg oM];omega
  have w2:IntKind.i64.wrap ((mu:Int)+1)=((mu+1:Nat):Int):=by rw[Gg oM];omega
  have w3:IntKind.i64.wrap (((mu+1:Nat):Int)*16)=(((mu+1)*16:Nat):Int):=by rw[Gg oM];omega
  have sl:=GdX (b:=Gp (v 0)) (f:=0) (n:=(R.li 0).length) (e:=1) (l:=mu*16) (h:=(mu+1)*16) (tl:=tl) oM (by rw[e0];omega)
  rw[←s1]at sl
  rw[show(mu+1)*16-mu*16=16 by omega,Nat.zero_add,Nat.mul_one]at sl
  have hat:=Rj (H:=X) lX (w:=.slice (Gp (v 0)) (mu*16) 16 ((R.li 0).length-mu*16) 1 tl) (n:=16) (b:=Gp (v 0)) (f:=mu*16) (.inr ⟨_,_,rfl⟩)
  refine W12 lX d1 d2 hc w1 w2 w3 @O1 @Jo @JA sl hat ?_
  by_cases c:0≤ix∧ix<16
  ·rw[if_pos (by simpa using c),if_pos c]
   show some (CV.ptr _ _,X)=some (CV.ptr _ _,X)
   congr 3
   simp only;omega
  ·rw[if_neg (by simpa using c),if_neg c];rfl
 ·rw[if_neg a0]
  have hcond:∀(Z:Option (CV×Gb)),True:=fun _=>trivial
  have e0:R.li 0=R.flat:=rfl
  have finish:∀i,1≤i→i≤2→run P 289 [v i,.ptr H.length 0] X=some (if 0≤ix∧ix<((R.li i).length:Int)then .ptr (Gp (v i)) ix.toNat else .nilPtr,X):=fun i _ hi=>by
   obtain⟨b,f,h⟩:=at' i hi
   have h2:((R.li i).length=0∧∀X,UK (v i) X=some (.i 0,X))∨∃c t,v i=.slice (Gp (v i)) 0 (R.li i).length c 1 t:=by
    rcases mX.li i hi with⟨h1,-,h2⟩|⟨b,tl,h1,-⟩
    ·refine .inl ⟨h1,fun Y=>?_⟩
     rcases h2 with h2|⟨b,f,h2⟩<;>rw[h2]<;>rfl
    ·exact .inr ⟨_,tl,by rw[h1];rfl⟩
   have:=Rj (H:=X) lX (w:=v i) (n:=(R.li i).length) (b:=Gp (v i)) (f:=0) h2
   grind
  by_cases k1:kd=1
  ·subst k1
   by_cases a1:mu=0
   ·subst a1
    rw[if_pos (show(1:Int)=1∧(0:Int)=0 from⟨rfl,rfl⟩)]
    have fi:=finish 1 oM oM
    by_cases c:0≤ix∧ix<(R.glob.length:Int)
    ·rw[if_pos c]
     rw[if_pos (show 0≤ix∧ix<((R.li 1).length:Int)from c)]at fi
     refine W5 lX hc @Jo @JA fi ?_
     rfl
    ·rw[if_neg c]
     rw[if_neg (show¬(0≤ix∧ix<((R.li 1).length:Int))from c)]at fi
     refine W5 lX hc @Jo @JA fi ?_
     rfl
   ·rw[if_neg (show¬((1:Int)=1∧mu=0)from fun h=>a1 h.2),if_neg (show¬((1:Int)=2∧mu=0)from by omega)]
    have a1':(mu==0)=false:=by simp[a1]
    refine W2 lX a1' ?_
    rfl
  ·by_cases k2:kd=2
   ·subst k2
    rw[if_neg (show¬((2:Int)=1∧mu=0)from by omega)]
    by_cases a1:mu=0
    ·subst a1
     rw[if_pos (show(2:Int)=2∧(0:Int)=0 from⟨rfl,rfl⟩)]
     have fi:=finish 2 oM oM
     by_cases c:0≤ix∧ix<(R.queue.length:Int)
     ·rw[if_pos c]
      rw[if_pos (show 0≤ix∧ix<((R.li 2).length:Int)from c)]at fi
      refine W5 lX hc @Jo @JA fi ?_
      rfl
     ·rw[if_neg c]
      rw[if_neg (show¬(0≤ix∧ix<((R.li 2).length:Int))from c)]at fi
      refine W5 lX hc @Jo @JA fi ?_
      rfl
    ·rw[if_neg (show¬((2:Int)=2∧mu=0)from fun h=>a1 h.2)]
     have a1':(mu==0)=false:=by simp[a1]
     refine W2 lX a1' ?_
     rfl
   ·rw[if_neg (show¬(kd=1∧mu=0)from fun h=>k1 h.1),if_neg (show¬(kd=2∧mu=0)from fun h=>k2 h.1)]
    have e1:(kd==1)=false:=by simp[k1]
    have e2:(kd==2)=false:=by simp[k2]
    by_cases k0:kd=0
    ·subst k0
     by_cases a1:0≤mu
     ·have a2:decide (mu<(R.slots.length:Int))=false:=Gw oM
      have a1':decide (0≤mu)=true:=Gz a1
      refine W4 lX hc a1' a2 ?_
      rfl
     ·have a1':decide (0≤mu)=false:=Gw a1
      refine W2 lX a1' ?_
      rfl
    ·have e3:(kd==0)=false:=by simp[k0]
     refine W4 lX e1 e2 e3 ?_
     rfl
end
end Go.Cs.Tryz
namespace Go.Cs.Tryz
open Go Go.Cs A
def C33:Gj:=⟨17,0,T [e 2 (.Km (c .nilPtr)),n 3 0] (S (T [m 4 0,bk 5 .lss 4 1,m 6 5,gf 6 (m 7 0),gf 6 (bk 8 .gtr 7 4),or 9 6 8] (I 9 (Q [e 2 (.Km (c .nilPtr)),n 3 1]))) (S (D [⟨m 10 0,0,0,0⟩,⟨m 11 0,1,0,0⟩,⟨bk 12 .mul 11 16,2,0,0⟩,⟨e 13 (.makeSlice 1 [i 0] (t 12) (t 12)),3,0,0⟩,⟨e 14 (.makeSlice 1 [i 0] (k 16) (k 16)),4,0,0⟩,⟨e 15 (.build [i 0,.Gd,.Gd,.Gd] [(0,1,t 10),(1,1,t 13),(2,1,t 14),(3,1,c .Gd)]),5,0,0⟩,⟨bo 16 15,6,0,0⟩,⟨m 2 16,7,0,0⟩,⟨n 3 0,8,0,0⟩]) .ret)),[r 2,r 3]⟩
theorem c33:P 33=some C33:=by kernel_rfl
def C82:Gj:=⟨20,0,T [bo 3 1,n 4 0,n 5 0] (T [m 9 0,lg 10 3 3,q2 11 170 9 10,m 8 11,ex 12 8 0,ex 13 8 1,m 6 12,m 7 13] (S (T [m 14 7,bk 15 .neq 14 0] (I 15 (Q [m 16 7,n 4 0,m 5 16]))) (Q [m 17 6,z 18 17,l 19 1 18,m 4 19,n 5 0]))),[r 4,r 5]⟩
theorem c82:P 82=some C82:=by kernel_rfl
def Gu3:Gj:=⟨29,0,T [n 4 0] (S (B 0 (T [m 6 0,q1 7 161 6,no 8 7,m 5 8] (C 5 (Q [n 4 5]) (T [m 10 1,bk 11 .leq 10 0,m 9 11] (C 9 (Q [n 4 1]) (T [m 13 0,z 14 13,f 15 3 14,l 16 1 15,le 17 16,bk 18 .eql 17 64,m 12 18] (I 12 (Q [n 4 6])))))))) (T [m 19 0,m 20 0,z 21 20,f 22 3 21,l 23 1 22,m 24 1,e 25 (.buildSlice 1 [i 0] 1 [(0,1,t 24)]),ap 26 1 23 25,z 27 19,f 28 3 27,st 1 28 26] (Q [n 4 0]))),[r 4]⟩
theorem Guh:P 132=some Gu3:=by kernel_rfl
def GqJ:Gj:=⟨32,0,T [bo 4 1,n 6 0] (T [m 10 0,lg 11 3 4,q2 12 170 10 11,m 9 12,ex 13 9 0,ex 14 9 1,m 7 13,m 8 14] (S (T [m 15 8,bk 16 .neq 15 0] (I 16 (Q [m 17 8,m 6 17]))) (S (T [m 18 2,bk 19 .lss 18 0,m 20 19,gf 20 (m 21 2),gf 20 (bk 22 .eql 21 0),gf 20 (m 23 22),gt 23 (f 24 0 4),gt 23 (l 25 1 24),gt 23 (bk 26 .eql 25 2),gf 20 (an 27 23 26),or 28 20 27] (I 28 (Q [n 6 1]))) (T [m 29 7,m 30 2,z 31 29,st 1 31 30] (Q [n 6 0]))))),[r 6]⟩
theorem Grg:P 133=some GqJ:=by kernel_rfl
def GqP:Gj:=⟨16,0,T [bo 3 1,e 4 (.Km (c .nilPtr)),n 5 0] (S (T [m 7 0,q1 8 161 7,no 9 8] (I 9 (Q [e 4 (.Km (c .nilPtr)),n 5 5]))) (T [m 10 0,lg 11 3 3,q2 12 241 10 11,m 6 12] (S (T [m 13 6,e 14 (.eqv false 1 (t 13) (c .nilPtr))] (I 14 (Q [e 4 (.Km (c .nilPtr)),n 5 1]))) (Q [m 15 6,m 4 15,n 5 0])))),[r 4,r 5]⟩
theorem GrH:P 170=some GqP:=by kernel_rfl
end Go.Cs.Tryz
namespace Go.Cs
open Go
theorem JL.Ap{o:Tags}{H Hf:Gb}{rb:Nat}{R:Rt}{v:Nat→CV}(m:JL o H rb R v){l:List Int}{w:CV}(h:At (Loc H.length) z3 Hf w 1 l.length (ints l))(hl:H.length≤Hf.length)
  (hb:Hf[rb]?=some ⟨[.i R.slots.length,v 0,v 1,w],.rw,0⟩) (hf:∀d,d<H.length→o d≠some (0,2,0)→d≠rb→Hf[d]?=H[d]?):
  ∃o' v',JL o' Hf rb {R with queue:=l} v'∧KW o H o' Hf:=by
 obtain⟨o',h1,h2,h3⟩:=h.adopt (o:=o) (t:=(0,2,0)) m.dom
 have ho:∀c t,o c=some t→o' c=some t:=fun c t h=>by rw[h1 c (m.dom c _ h),h]
 have old:∀c t,o c=some t→t≠(0,9,0)→t≠(0,2,0)→Hf[c]?=H[c]?:=fun c t h hn hn2=>hf c (m.dom c _ h) (by rw[h];simpa using hn2) (by rintro rfl;rw[m.top]at h;grind)
 refine⟨o',fun i=>if i=2 then w else v i,⟨?_,ho _ _ m.top,hb,fun i hi=>?_⟩,⟨hl,h1,fun c hc hn=>hf c hc (by rw[hn];simp) ?_⟩⟩
 ·grind
 ·match i,hi with
  |0,_=>exact(m.li 0 oM).frame (fun c=>ho c _) fun c h=>old c _ h sM sM
  |1,_=>exact(m.li 1 oM).frame (fun c=>ho c _) fun c h=>old c _ h sM sM
  |2,_=>exact h3
 ·rintro rfl;rw[m.top]at hn;cases hn
theorem YK:∀n:Nat,(List.replicate n (List.replicate 16 (0:Int))).flatten=List.replicate (16*n) 0
 |0=>rfl
 |n+1=>by rw[List.replicate_succ,List.flatten_cons,YK n,List.replicate_append_replicate];congr 1;omega
end Go.Cs
namespace Go.Cs.Tryz
open Go Go.Cs
section
variable {H : Gb} {o : Tags} {rb : Nat} {R : Rt} {v : Nat → CV}
theorem Ho(m:JL o H rb R v)(k:R.Ok)(kd mu ix:Int):∃H',run P 170 [.ptr rb 0,.agg [.i kd,.i mu,.i ix]] H=some (.Jj [Ag v (R.loc kd mu ix),.i (if(R.loc kd mu ix).isSome then 0 else 1)],H')∧Gr H H':=by
 obtain⟨X,hX⟩:∃X:Gb,X=H++[⟨[.i kd,.i mu,.i ix],.rw,0⟩]:=⟨_,rfl⟩
 have gX:Gr H X:=by rw[hX];exact Gr.app _ _
 have lX:X[H.length]?=some ⟨[.i kd,.i mu,.i ix],.rw,0⟩:=by rw[hX];simp
 have mX:=m.gr gX
 have h1:=Qw mX k
 obtain⟨X1,h2,g1⟩:=GhB mX k kd mu ix
 refine⟨X1,?_,gX.trans g1⟩
 rw[Gh GrH _ _ sM]
 refine Jb ?_
 rw[←hX]
 cases e:R.loc kd mu ix with
 |none=>
  rw[e]at h2
  unfold Ag at h2⊢
  simp(disch:=first|exact dz|fail) only[simprocAttr,Gs,↓reduceIte,h1,lX,h2]
  rfl
 |some x=>
  rw[e]at h2
  unfold Ag at h2⊢
  simp(disch:=first|exact dz|fail) only[simprocAttr,Gs,↓reduceIte,h1,lX,h2]
  rfl
theorem Gff(m:JL o H rb R v)(k:R.Ok)(kd mu ix:Int):∃H',run P 82 [.ptr rb 0,.agg [.i kd,.i mu,.i ix]] H=some (UF (R.get kd mu ix),H')∧Gr H H':=by
 obtain⟨X,hX⟩:∃X:Gb,X=H++[⟨[.i kd,.i mu,.i ix],.rw,0⟩]:=⟨_,rfl⟩
 have gX:Gr H X:=by rw[hX];exact Gr.app _ _
 have lX:X[H.length]?=some ⟨[.i kd,.i mu,.i ix],.rw,0⟩:=by rw[hX];simp
 have mX:=m.gr gX
 obtain⟨X1,h2,g1⟩:=Ho mX k kd mu ix
 have m1:=mX.gr g1
 refine⟨X1,?_,gX.trans g1⟩
 rw[Gh c82 _ _ sM]
 refine Jb ?_
 rw[←hX]
 unfold Rt.get UF
 cases e:R.loc kd mu ix with
 |none=>
  rw[e]at h2
  unfold Ag at h2
  exact V1 h2
 |some x=>
  rw[e]at h2
  obtain⟨l1,l2,l3,l4⟩:=Rt.BK k e
  obtain⟨tl,e1,e2,e3,e4⟩:=(m1.li x.1 l2).pos oM
  unfold Ag at h2
  have hx:(ints (R.li x.1))[x.2]?=some (.i ((R.li x.1).getD x.2 0)):=by rw[Ai,Az 0 l1];rfl
  exact V3 h2 e3 hx
theorem Gel(m:JL o H rb R v)(k:R.Ok)(kd mu ix w:Int):Gho o H rb (R.set kd mu ix w).1 (.i (R.set kd mu ix w).2) (run P 133 [.ptr rb 0,.agg [.i kd,.i mu,.i ix],.i w] H):=by
 obtain⟨X,hX⟩:∃X:Gb,X=H++[⟨[.i kd,.i mu,.i ix],.rw,0⟩]:=⟨_,rfl⟩
 have gX:Gr H X:=by rw[hX];exact Gr.app _ _
 have lX:X[H.length]?=some ⟨[.i kd,.i mu,.i ix],.rw,0⟩:=by rw[hX];simp
 have mX:=m.gr gX
 obtain⟨X1,h2,g1⟩:=Ho mX k kd mu ix
 have m1:=mX.gr g1
 have GD:=Gr.get g1 lX
 rw[Gh Grg _ _ sM]
 refine Jb ?_
 rw[←hX]
 unfold Rt.set
 cases e:R.loc kd mu ix with
 |none=>
  rw[e]at h2
  unfold Ag at h2
  refine⟨X1,o,v,?_,m1,KW.gr (gX.trans g1)⟩
  exact V1 h2
 |some x=>
  rw[e]at h2
  obtain⟨l1,l2,l3,l4⟩:=Rt.BK k e
  unfold Ag at h2
  dsimp only
  by_cases c1:w<0
  ·rw[if_pos (.inl c1)]
   refine⟨X1,o,v,?_,m1,KW.gr (gX.trans g1)⟩
   exact V2 h2 c1
  ·have c1':decide (w<0)=false:=Gw c1
   obtain⟨s1,s2,s3⟩:=m1.setAt k l1 l2 l4 w
   have st:x.2<(ints (R.li x.1)).length:=by rw[ZE];exact l1
   by_cases c2:w=0
   ·subst c2
    by_cases c3:kd=2
    ·rw[if_pos (.inr ⟨rfl,c3⟩)]
     subst c3
     refine⟨X1,o,v,?_,m1,KW.gr (gX.trans g1)⟩
     exact V2 h2 GD
    ·rw[if_neg oM]
     have c3':(kd==2)=false:=by simp[c3]
     refine⟨_,o,v,?_,s3,(KW.gr (gX.trans g1)).set1 s1 _⟩
     simp(disch:=first|exact dz|fail) only[simprocAttr,Gs,↓reduceIte,h2,GD,Option.isSome_some,show((0:Int)==0)=true from rfl,c3',s2,Yb Jl st]
   ·have c2':(w==0)=false:=by simp[c2]
    rw[if_neg oM]
    refine⟨_,o,v,?_,s3,(KW.gr (gX.trans g1)).set1 s1 _⟩
    simp(disch:=first|exact dz|fail) only[simprocAttr,Gs,↓reduceIte,h2,Option.isSome_some,c1',c2',s2,Yb Jl st]
theorem Gb2(m:JL o H rb R v)(k:R.Ok)(w:Int):Gho o H rb (R.push w).1 (.i (R.push w).2) (run P 132 [.ptr rb 0,.i w] H):=by
 have h1:=Qw m k
 have hc:=m.cells
 have hq:=m.li 2 oM
 have hlq:(R.li 2).length=R.queue.length:=rfl
 have hl:=hq.len H
 rw[hlq]at hl
 rw[Gh Guh _ _ sM]
 unfold Rt.push
 by_cases c1:w≤0
 ·rw[if_pos c1]
  refine⟨H,o,v,?_,m,KW.refl H⟩
  exact W0
 ·rw[if_neg c1]
  have c1':decide (w≤0)=false:=Gw c1
  by_cases c2:R.queue.length=64
  ·rw[if_pos c2]
   have c2':((R.queue.length:Int)==64)=true:=by simp;omega
   refine⟨H,o,v,?_,m,KW.refl H⟩
   exact W0
  ·rw[if_neg c2]
   have c2':((R.queue.length:Int)==64)=false:=by simp;omega
   have GsH:=k.FV
   have gB:Gr H (H++[⟨[.i w],.rw,1⟩]):=Gr.app _ _
   have mB:=m.gr gB
   obtain⟨H1,a1,a2,a3,a4⟩:=(mB.li 2 oM).append (k:=1) (new:=ints [w]) oM (by rw[hlq];unfold J9;omega) (YB _) rfl
   rw[hlq]at a1
   have hlB:(H++[(⟨[.i w],.rw,1⟩:JE)]).length=H.length+1:=by simp
   have hrb:rb<H.length:=m.dom _ _ m.top
   have t1:H1[rb]?=some ⟨[.i R.slots.length,v 0,v 1,v 2],.rw,0⟩:=by
    rw[a4 rb oM (by rw[m.top];simp)];exact mB.cells
   have hel:elems (H++[⟨[.i w],.rw,1⟩]) 1 (.slice H.length 0 1 1 1 false)=some (1,ints [w]):=by
    rw[JN oM]
    have:=@N9;refine Jb ?_
    rfl
   obtain⟨o',v',r1,r2⟩:=JL.Ap m (l:=R.queue++[w]) (w:=.slice (H.length+1) 0 (R.queue.length+1) (R.queue.length+1) 1 true) (Hf:=H1.set rb ⟨[.i R.slots.length,v 0,v 1,.slice (H.length+1) 0 (R.queue.length+1) (R.queue.length+1) 1 true],.rw,0⟩)
    (.inr ⟨H.length+1,true,sM,Gl.2 ⟨Nat.le_succ _,rfl⟩,by
     rw[KV oM]
     rw[hlB]at a3
     rw[a3,U2];rfl,by simp[ints]⟩)
    (by rw[List.length_set,a2];omega) (by grind) (fun d hd hn hr=>by
     grind)
   refine⟨_,o',v',?_,r1,r2⟩
   rw[hlB]at a1
   exact W0
theorem R5(n:Int)(h:1≤n∧n≤4):∃rb H' o v,run P 33 [.i n] H=some (.Jj [.ptr rb 0,.i 0],H')∧Gr H H'∧JL o H' rb (Rt.new n.toNat) v∧∀c t,o c=some t→H.length≤c:=by
 obtain⟨n,rfl⟩:∃q:Nat,n=q:=⟨n.toNat,oM⟩
 have c0:¬((n:Int)<1):=by omega
 have c1:¬((4:Int)<(n:Int)):=by omega
 have w1:IntKind.i64.wrap ((n:Int)*16)=((16*n:Nat):Int):=by rw[Gg oM];omega
 have m1:=Uy (GN:=1) (z:=[CV.int .i64 0]) (l:=((16*n:Nat):Int)) (c:=((16*n:Nat):Int)) oM
 have m2:=Uy (GN:=1) (z:=[CV.int .i64 0]) (l:=(16:Int)) (c:=(16:Int)) oM
 rw[Kt,Yz]at m1
 rw[show(16:Int).toNat=16 from rfl,Yz]at m2
 rw[Kt]
 refine⟨H.length+2,H++[⟨ints (List.replicate (16*n) 0),.rw,1⟩]++[⟨ints (List.replicate 16 0),.rw,1⟩]++[⟨[.i n,.slice H.length 0 (16*n) (16*n) 1 false,.slice (H.length+1) 0 16 16 1 false,.Gd],.rw,0⟩],
  ((Tags.put (fun _=>none) H.length (0,0,0)).put (H.length+1) (0,1,0)).put (H.length+2) (0,9,0),fun i=>if i=0 then .slice H.length 0 (16*n) (16*n) 1 false else if i=1 then .slice (H.length+1) 0 16 16 1 false else .Gd,?_,((Gr.app H _).app' _).app' _,?_,?_⟩
 ·rw[Gh c33 _ _ sM]
  have:=@O1;exact W0
 ·refine⟨fun c t hc=>?_,Tags.put_eq,by simp[Rt.new],fun i hi=>?_⟩
  ·by_cases e:c=H.length+2
   ·subst e;simp
   ·rw[Tags.Jp e]at hc
    by_cases e2:c=H.length+1
    ·subst e2;simp
    ·rw[Tags.Jp e2]at hc
     by_cases e3:c=H.length
     ·subst e3;simp
     ·rw[Tags.Jp e3]at hc;cases hc
  ·match i,hi with
   |0,_=>
    have e:(Rt.new n).li 0=List.replicate (16*n) 0:=YK n
    rw[e]
    exact .inr ⟨H.length,false,sM,by rw[Tags.Jp oM,Tags.Jp oM,Tags.put_eq],sM,by simp[ints]⟩
   |1,_=>exact .inr ⟨H.length+1,false,by simp[Rt.li,Rt.new],by rw[Tags.Jp oM,Tags.put_eq],by simp[Rt.li,Rt.new],by simp[ints,Rt.li,Rt.new]⟩
   |2,_=>exact .inl ⟨rfl,rfl,.inl rfl⟩
 ·intro c t hc
  by_cases e:c=H.length+2
  ·omega
  ·rw[Tags.Jp e]at hc
   by_cases e2:c=H.length+1
   ·omega
   ·rw[Tags.Jp e2]at hc
    by_cases e3:c=H.length
    ·omega
    ·rw[Tags.Jp e3]at hc;cases hc
end
end Go.Cs.Tryz
namespace Go.Cs.Tryz
open Go Go.Cs A
def C84:Gj:=⟨13,0,T [nb 2 false] (Q [m 3 0,e 4 (.eqv true 1 (t 3) (c .nilPtr)),m 5 4,gt 5 (m 6 0),gt 5 (z 7 6),gt 5 (f 8 0 7),gt 5 (l 9 1 8),gt 5 (le 10 9),gt 5 (bk 11 .gtr 10 0),an 12 5 11,m 2 12]),[r 2]⟩
theorem c84:P 84=some C84:=by kernel_rfl
def Gtj:Gj:=⟨12,0,T [e 2 (.Km (c .Gd))] (S (T [m 3 0,q1 4 84 3,no 5 4] (I 5 (Q [e 2 (.Km (c .Gd))]))) (Q [e 6 (.buildSlice 1 [] 0 []),m 7 0,z 8 7,f 9 2 8,l 10 1 9,ap 11 1 6 10,m 2 11])),[r 2]⟩
theorem c130:P 130=some Gtj:=by kernel_rfl
def Gto:Gj:=⟨26,0,T [n 4 0] (S (T [m 5 0,q1 6 84 5,no 7 6] (I 7 (Q [n 4 5]))) (S (T [m 8 1,bk 9 .leq 8 0] (I 9 (Q [n 4 1]))) (S (T [m 10 0,z 11 10,f 12 2 11,l 13 1 12,le 14 13,bk 15 .geq 14 64] (I 15 (Q [n 4 6]))) (T [m 16 0,m 17 0,z 18 17,f 19 2 18,l 20 1 19,m 21 1,e 22 (.buildSlice 1 [i 0] 1 [(0,1,t 21)]),ap 23 1 20 22,z 24 16,f 25 2 24,st 1 25 23] (Q [n 4 0]))))),[r 4]⟩
theorem c131:P 131=some Gto:=by kernel_rfl
def GtY:Gj:=⟨67,0,T [bo 3 1,nb 4 false] (S (T [f 5 0 3,l 6 1 5] (B 0 (T [bk 8 .eql 6 0,m 7 8] (C 7 (S (D [⟨f 9 1 3,0,0,0⟩,⟨l 10 1 9,1,1,0⟩,⟨bk 11 .geq 10 0,2,0,0⟩,⟨m 12 11,3,0,0⟩,⟨gt 12 (f 13 1 3),4,0,0⟩,⟨gt 12 (l 14 1 13),5,1,0⟩,⟨gt 12 (m 15 0),6,0,0⟩,⟨gt 12 (z 16 15),7,0,0⟩,⟨gt 12 (f 17 0 16),8,0,0⟩,⟨gt 12 (l 18 1 17),9,1,0⟩,⟨gt 12 (le 19 18),10,0,0⟩,⟨gt 12 (b 20 .lss 14 19),11,0,0⟩,⟨an 21 12 20,12,0,0⟩,⟨m 22 21,13,0,0⟩,⟨gt 22 (f 23 2 3),14,0,0⟩,⟨gt 22 (l 24 1 23),15,1,0⟩,⟨gt 22 (bk 25 .geq 24 0),16,0,0⟩,⟨an 26 22 25,17,0,0⟩,⟨m 27 26,18,0,0⟩,⟨gt 27 (f 28 2 3),19,0,0⟩,⟨gt 27 (l 29 1 28),20,1,0⟩,⟨gt 27 (bk 30 .lss 29 16),21,0,0⟩,⟨an 31 27 30,22,0,0⟩,⟨m 4 31,23,0,0⟩]) .ret) (T [bk 33 .eql 6 1,m 32 33] (C 32 (Q [f 34 1 3,l 35 1 34,bk 36 .eql 35 0,m 37 36,gt 37 (f 38 2 3),gt 37 (l 39 1 38),gt 37 (bk 40 .geq 39 0),an 41 37 40,m 42 41,gt 42 (f 43 2 3),gt 42 (l 44 1 43),gt 42 (bk 45 .lss 44 16),an 46 42 45,m 4 46]) (T [bk 48 .eql 6 2,m 47 48] (I 47 (S (D [⟨f 49 1 3,0,0,0⟩,⟨l 50 1 49,1,1,0⟩,⟨bk 51 .eql 50 0,2,0,0⟩,⟨m 52 51,3,0,0⟩,⟨gt 52 (f 53 2 3),4,0,0⟩,⟨gt 52 (l 54 1 53),5,1,0⟩,⟨gt 52 (bk 55 .geq 54 0),6,0,0⟩,⟨an 56 52 55,7,0,0⟩,⟨m 57 56,8,0,0⟩,⟨gt 57 (f 58 2 3),9,0,0⟩,⟨gt 57 (l 59 1 58),10,1,0⟩,⟨gt 57 (m 60 0),11,0,0⟩,⟨gt 57 (z 61 60),12,0,0⟩,⟨gt 57 (f 62 2 61),13,0,0⟩,⟨gt 57 (l 63 1 62),14,1,0⟩,⟨gt 57 (le 64 63),15,0,0⟩,⟨gt 57 (b 65 .lss 59 64),16,0,0⟩,⟨an 66 57 65,17,0,0⟩,⟨m 4 66,18,0,0⟩]) .ret))))))))) (Q [nb 4 false])),[r 4]⟩
theorem c171:P 171=some GtY:=by kernel_rfl
def Gq6:Gj:=⟨11,0,T [n 2 0] (S (T [m 3 0,q1 4 84 3,no 5 4] (I 5 (Q [n 2 0]))) (Q [m 6 0,z 7 6,f 8 0 7,l 9 1 8,le 10 9,m 2 10])),[r 2]⟩
theorem c194:P 194=some Gq6:=by kernel_rfl
end Go.Cs.Tryz
namespace Go.Cs
open Go
structure Vz where
 sv:CV
 gv:CV
 qv:CV
 ss:List CV
structure JJ(o:Tags)(H:Gb)(rb:Nat)(R:Rt)(L:Vz):Prop where
 dom:∀c t,o c=some t→c<H.length
 top:o rb=some (0,9,0)
 cells:H[rb]?=some ⟨[L.sv,L.gv,L.qv],.rw,0⟩
 ns:L.ss.length=R.slots.length
 slots:At o (0,8,0) H L.sv 1 R.slots.length L.ss
 slot:∀i l,R.slots[i]?=some l→∃v,L.ss[i]?=some v∧At o (1,i,0) H v 1 16 (ints l)
 glob:At o (0,1,0) H L.gv 1 16 (ints R.glob)
 queue:At o (0,2,0) H L.qv 1 R.queue.length (ints R.queue)
theorem JJ.frame{o o':Tags}{H H':Gb}{rb:Nat}{R:Rt}{L:Vz}(m:JJ o H rb R L)(hd:∀c t,o' c=some t→c<H'.length)(ho:∀c t,o c=some t→o' c=some t)(hf:∀c t,o c=some t→H'[c]?=H[c]?):JJ o' H' rb R L where
 dom:=hd
 top:=ho _ _ m.top
 cells:=by rw[hf _ _ m.top,m.cells]
 ns:=m.ns
 slots:=m.slots.frame (fun c=>ho c _) (fun c=>hf c _)
 slot:=fun i l h=>by
  obtain⟨v,h1,h2⟩:=m.slot i l h
  exact⟨v,h1,h2.frame (fun c=>ho c _) (fun c=>hf c _)⟩
 glob:=m.glob.frame (fun c=>ho c _) (fun c=>hf c _)
 queue:=m.queue.frame (fun c=>ho c _) (fun c=>hf c _)
theorem JJ.gr{o:Tags}{H H':Gb}{rb:Nat}{R:Rt}{L:Vz}(m:JJ o H rb R L)(g:Gr H H'):JJ o H' rb R L:=
 m.frame (fun c t h=>J6 (m.dom c t h) g.len) (fun _ _ h=>h) (fun c t h=>g.keep c (m.dom c t h) fun h=>h)
def Gc8(o:Tags)(H:Gb)(rb:Nat)(R':Rt)(v:CV)(r:Option (CV×Gb)):Prop:=
 ∃H' o' L',r=some (v,H')∧JJ o' H' rb R' L'∧KW o H o' H'
theorem JJ.Ap{o:Tags}{H Hf:Gb}{rb:Nat}{R:Rt}{L:Vz}(m:JJ o H rb R L){l:List Int}{w:CV}(h:At (Loc H.length) z3 Hf w 1 l.length (ints l))(hl:H.length≤Hf.length)
  (hb:Hf[rb]?=some ⟨[L.sv,L.gv,w],.rw,0⟩) (hf:∀d,d<H.length→o d≠some (0,2,0)→d≠rb→Hf[d]?=H[d]?):
  ∃o' L',JJ o' Hf rb {R with queue:=l} L'∧KW o H o' Hf:=by
 obtain⟨o',h1,h2,h3⟩:=h.adopt (o:=o) (t:=(0,2,0)) m.dom
 have ho:∀c t,o c=some t→o' c=some t:=fun c t h=>by rw[h1 c (m.dom c _ h),h]
 have old:∀c t,o c=some t→t≠(0,9,0)→t≠(0,2,0)→Hf[c]?=H[c]?:=fun c t h hn hn2=>hf c (m.dom c _ h) (by rw[h];simpa using hn2) (by rintro rfl;rw[m.top]at h;grind)
 refine⟨o',{L with qv:=w},⟨?_,ho _ _ m.top,hb,m.ns,m.slots.frame (fun c=>ho c _) fun c h=>old c _ h sM sM,fun i l h=>?_,m.glob.frame (fun c=>ho c _) fun c h=>old c _ h sM sM,h3⟩,⟨hl,h1,fun c hc hn=>hf c hc (by rw[hn];simp) ?_⟩⟩
 ·grind
 ·obtain⟨v,h1,h2⟩:=m.slot i l h
  exact⟨v,h1,h2.frame (fun c=>ho c _) fun c h=>old c _ h sM sM⟩
 ·rintro rfl;rw[m.top]at hn;cases hn
def Vz.at(L:Vz)(x:Nat×Nat):CV:=if x.1=0 then L.ss.getD (x.2/16) .Gd else if x.1=1 then L.gv else L.qv
def Dk(x:Nat×Nat):Nat:=if x.1=0 then x.2 % 16 else x.2
theorem JJ.place{o:Tags}{H:Gb}{rb:Nat}{R:Rt}{L:Vz}(m:JJ o H rb R L)(k:R.Ok){x:Nat×Nat}(h1:x.2<(R.li x.1).length)(h2:x.1≤2)(h0:x.1=0→x.2/16<R.slots.length):
  ∃b n tl t cs,L.at x=.slice b 0 n n 1 tl∧o b=some t∧t≠(0,9,0)∧t≠(0,8,0)∧H[b]?=some ⟨ints cs,.rw,1⟩∧cs.length=n∧Dk x<n∧cs[Dk x]?=some ((R.li x.1).getD x.2 0)∧
   ∀w,JJ o (H.set b ⟨(ints cs).set (Dk x) (.i w),.rw,1⟩) rb (R.setAt x w) L:=by
 obtain⟨a,j⟩:=x
 simp only at h1 h2 h0
 match a,h2 with
 |0,_=>
  have hl:=h0 rfl
  have hg:=Jr hl
  obtain⟨l,hle⟩:∃l,l=R.slots[j/16]:=⟨_,rfl⟩
  rw[←hle]at hg
  have h16:=k.s16 l (JV hg)
  obtain⟨v,e1,e2⟩:=m.slot _ _ hg
  obtain⟨tl,f1,f2,f3,f4⟩:=e2.pos oM
  have hat:L.at (0,j)=v:=by
   show L.ss.getD (j/16) .Gd=v
   grind
  have old:∀w c t,o c=some t→t≠(1,j/16,0)→(H.set (Gp v) ⟨(ints l).set (j % 16) (.i w),.rw,1⟩)[c]?=H[c]?:=fun w c t h hn=>by
   grind
  refine⟨Gp v,16,tl,_,l,by rw[hat];exact f1,f2,sM,sM,f3,h16,Nat.mod_lt _ oM,?_,fun w=>?_⟩
  ·show l[j % 16]?=some (R.flat.getD j 0)
   have:=flat_get k.s16 hg (i:=j % 16) oM
   have e:16*(j/16)+j % 16=j:=by omega
   rw[e]at this
   rw[←this]
   exact Az 0 h1
  ·refine⟨fun c t h=>by rw[List.length_set];exact m.dom c t h,m.top,by rw[show Dk (0,j)=j % 16 from rfl,old w _ _ m.top sM,m.cells],?_,?_,fun i s hs=>?_,?_,?_⟩
   ·show L.ss.length=(R.slots.modify _ _).length
    rw[YS];exact m.ns
   ·show At o (0,8,0) _ L.sv 1 (R.slots.modify _ _).length L.ss
    rw[YS]
    exact m.slots.frame (fun c h=>h) fun c h=>old w c _ h sM
   ·have hs':(R.slots.modify (j/16) fun l=>l.set (j % 16) w)[i]?=some s:=hs
    rw[Zg,hg]at hs'
    dsimp only at hs'
    rw[Ig]at hs'
    by_cases c:j/16=i
    ·subst c
     rw[if_pos rfl,if_pos hl]at hs'
     simp only[GA]at hs'
     refine⟨v,e1,.inr ⟨Gp v,tl,f1,f2,?_,by simp[ints,←hs',h16]⟩⟩
     rw[Va (Gf f3),←hs',ints_set];rfl
    ·rw[if_neg c]at hs'
     obtain⟨v2,g1,g2⟩:=m.slot _ _ hs'
     exact⟨v2,g1,g2.frame (fun c h=>h) fun d h=>old w d _ h (by simp;omega)⟩
   ·exact m.glob.frame (fun c h=>h) fun c h=>old w c _ h sM
   ·exact m.queue.frame (fun c h=>h) fun c h=>old w c _ h sM
 |1,_=>
  have hl:j<R.glob.length:=h1
  have hg:=k.g16
  obtain⟨tl,f1,f2,f3,f4⟩:=m.glob.pos oM
  have old:∀w c t,o c=some t→t≠(0,1,0)→(H.set (Gp L.gv) ⟨(ints R.glob).set j (.i w),.rw,1⟩)[c]?=H[c]?:=fun w c t h hn=>by
   grind
  refine⟨Gp L.gv,16,tl,_,R.glob,f1,f2,sM,sM,f3,hg,(by show j<16;omega),Az 0 hl,fun w=>?_⟩
  refine⟨fun c t h=>by rw[List.length_set];exact m.dom c t h,m.top,by rw[show Dk (1,j)=j from rfl,old w _ _ m.top sM,m.cells],m.ns,?_,fun i s hs=>?_,?_,?_⟩
  ·exact m.slots.frame (fun c h=>h) fun c h=>old w c _ h sM
  ·obtain⟨v2,g1,g2⟩:=m.slot _ _ hs
   exact⟨v2,g1,g2.frame (fun c h=>h) fun d h=>old w d _ h sM⟩
  ·refine .inr ⟨Gp L.gv,tl,f1,f2,?_,by simp[ints,Rt.setAt,hg]⟩
   rw[Va (Gf f3)]
   show _=some (⟨ints (R.glob.set j w),.rw,1⟩:JE)
   rw[ints_set];rfl
  ·exact m.queue.frame (fun c h=>h) fun c h=>old w c _ h sM
 |2,_=>
  have hl:j<R.queue.length:=h1
  obtain⟨tl,f1,f2,f3,f4⟩:=m.queue.pos oM
  have old:∀w c t,o c=some t→t≠(0,2,0)→(H.set (Gp L.qv) ⟨(ints R.queue).set j (.i w),.rw,1⟩)[c]?=H[c]?:=fun w c t h hn=>by
   grind
  refine⟨Gp L.qv,R.queue.length,tl,_,R.queue,f1,f2,sM,sM,f3,rfl,hl,Az 0 hl,fun w=>?_⟩
  refine⟨fun c t h=>by rw[List.length_set];exact m.dom c t h,m.top,by rw[show Dk (2,j)=j from rfl,old w _ _ m.top sM,m.cells],m.ns,?_,fun i s hs=>?_,?_,?_⟩
  ·exact m.slots.frame (fun c h=>h) fun c h=>old w c _ h sM
  ·obtain⟨v2,g1,g2⟩:=m.slot _ _ hs
   exact⟨v2,g1,g2.frame (fun c h=>h) fun d h=>old w d _ h sM⟩
  ·exact m.glob.frame (fun c h=>h) fun c h=>old w c _ h sM
  ·refine .inr ⟨Gp L.qv,tl,by simp[Rt.setAt];exact f1,f2,?_,by simp[ints,Rt.setAt]⟩
   rw[Va (Gf f3)]
   show _=some (⟨ints (R.queue.set j w),.rw,1⟩:JE)
   rw[ints_set];rfl
end Go.Cs
namespace Go.Cs.Tryz
open Go Go.Cs
section
variable {H : Gb} {o : Tags} {rb : Nat} {R : Rt} {L : Vz}
theorem U9(m:JJ o H rb R L)(k:R.Ok):run P 84 [.ptr rb 0] H=some (.bool true,H):=by
 have h:=m.cells
 have hl:=m.slots.len H
 have hp:(0:Int)<(R.slots.length:Int):=by have:=k.ns;omega
 rw[Gh c84 _ _ sM]
 exact W0
theorem Tq(m:JJ o H rb R L)(k:R.Ok):run P 194 [.ptr rb 0] H=some (.i R.slots.length,H):=by
 have h:=m.cells
 have h1:=U9 m k
 have hl:=m.slots.len H
 rw[Gh c194 _ _ sM]
 exact W0
theorem Gfc(m:JJ o H rb R L)(k:R.Ok):∃v H',run P 130 [.ptr rb 0] H=some (v,H')∧Gr H H'∧IL H.length H' v R.queue:=by
 have h:=m.cells
 have h1:=U9 m k
 have hq:=k.FV
 obtain⟨w,sl,el⟩:=m.queue.lo (j:=R.queue.length) (Nat.le_refl _)
 have he:elems (H++[⟨[],.rw,1⟩]) 1 L.qv=some (R.queue.length,ints R.queue):=m.queue.elems fun c hc=>IJ (m.dom _ _ hc)
 have h0:IL H.length (H++[⟨[],.rw,1⟩]) (.slice H.length 0 0 0 1 false) []:=.inl ⟨rfl,rfl,.inr ⟨_,_,rfl⟩⟩
 obtain⟨v',H1,a1,a2,a3⟩:=IL.cat h0 sM (l2:=R.queue) (by simp;omega)
 have hlt:rb<H.length:=m.dom _ _ m.top
 refine⟨v',H1,?_,(Gr.app H _).news a3,a2⟩
 rw[Gh c130 _ _ sM]
 exact W0
theorem GfS(m:JJ o H rb R L)(k:R.Ok)(w:Int):Gc8 o H rb (R.push w).1 (.i (R.push w).2) (run P 131 [.ptr rb 0,.i w] H):=by
 have h1:=U9 m k
 have hc:=m.cells
 have hl:=m.queue.len H
 have GsH:=k.FV
 rw[Gh c131 _ _ sM]
 unfold Rt.push
 by_cases c1:w≤0
 ·rw[if_pos c1]
  refine⟨H,o,L,?_,m,KW.refl H⟩
  exact W0
 ·rw[if_neg c1]
  have c1':decide (w≤0)=false:=Gw c1
  by_cases c2:R.queue.length=64
  ·rw[if_pos c2]
   have c2':decide ((64:Int)≤(R.queue.length:Int))=true:=Gz oM
   refine⟨H,o,L,?_,m,KW.refl H⟩
   exact W0
  ·rw[if_neg c2]
   have c2':decide ((64:Int)≤(R.queue.length:Int))=false:=Gw oM
   have gB:Gr H (H++[⟨[.i w],.rw,1⟩]):=Gr.app _ _
   have mB:=m.gr gB
   obtain⟨H1,a1,a2,a3,a4⟩:=mB.queue.append (k:=1) (new:=ints [w]) oM (by unfold J9;omega) (YB _) rfl
   have hlB:(H++[(⟨[.i w],.rw,1⟩:JE)]).length=H.length+1:=by simp
   have hrb:rb<H.length:=m.dom _ _ m.top
   have t1:H1[rb]?=some ⟨[L.sv,L.gv,L.qv],.rw,0⟩:=by
    rw[a4 rb oM (by rw[m.top];simp)];exact mB.cells
   have hel:elems (H++[⟨[.i w],.rw,1⟩]) 1 (.slice H.length 0 1 1 1 false)=some (1,ints [w]):=by
    rw[JN oM]
    have:=@N9;refine Jb ?_
    rfl
   obtain⟨o',L',r1,r2⟩:=JJ.Ap m (l:=R.queue++[w]) (w:=.slice (H.length+1) 0 (R.queue.length+1) (R.queue.length+1) 1 true) (Hf:=H1.set rb ⟨[L.sv,L.gv,.slice (H.length+1) 0 (R.queue.length+1) (R.queue.length+1) 1 true],.rw,0⟩)
    (.inr ⟨H.length+1,true,sM,Gl.2 ⟨Nat.le_succ _,rfl⟩,by
     rw[KV oM]
     rw[hlB]at a3
     rw[a3,U2],by simp[ints]⟩)
    (by rw[List.length_set,a2];omega) (by grind) (fun d hd hn hr=>by
     grind)
   refine⟨_,o',L',?_,r1,r2⟩
   rw[hlB]at a1
   exact W0
theorem Gdc(m:JJ o H rb R L)(k:R.Ok)(kd mu ix:Int):run P 171 [.ptr rb 0,.agg [.i kd,.i mu,.i ix]] H=some (.bool (R.loc kd mu ix).isSome,H++[⟨[.i kd,.i mu,.i ix],.rw,0⟩]):=by
 obtain⟨X,hX⟩:∃X:Gb,X=H++[⟨[.i kd,.i mu,.i ix],.rw,0⟩]:=⟨_,rfl⟩
 have gX:Gr H X:=by rw[hX];exact Gr.app _ _
 have lX:X[H.length]?=some ⟨[.i kd,.i mu,.i ix],.rw,0⟩:=by rw[hX];simp
 have mX:=m.gr gX
 have hc:=mX.cells
 have ml1:=VO (v:=L.sv) (n:=(R.slots.length:Int)) fun H=>m.slots.len H
 have ml2:=VO (v:=L.qv) (n:=(R.queue.length:Int)) fun H=>m.queue.len H
 have hg:=k.g16
 rw[Gh c171 _ _ sM]
 refine Jb ?_
 rw[←hX]
 have fin:∀b:Bool,(R.loc kd mu ix).isSome=b→some (CV.bool b,X)=some (CV.bool (R.loc kd mu ix).isSome,X):=fun b h=>by rw[h]
 by_cases k0:kd=0
 ·subst k0
  have hL:R.loc 0 mu ix=if 0≤mu∧mu<(R.slots.length:Int)then(if 0≤ix∧ix<16 then some (0,16*mu.toNat+ix.toNat)else none)else none:=by
   unfold Rt.loc
   grind
  rw[hL]
  by_cases a1:0≤mu
  ·by_cases a2:mu<(R.slots.length:Int)
   ·rw[if_pos ⟨a1,a2⟩]
    by_cases a3:0≤ix
    ·by_cases a4:ix<16
     ·rw[if_pos ⟨a3,a4⟩]
      exact V7 lX hc ml1 a1 a2 a3 a4
     ·rw[if_neg (fun h=>a4 h.2)]
      exact V7 lX hc ml1 a1 a2 a3 a4
    ·rw[if_neg (fun h=>a3 h.1)]
     exact V6 lX hc ml1 a1 a2 a3
   ·rw[if_neg (fun h=>a2 h.2)]
    exact V5 lX hc ml1 a1 a2
  ·rw[if_neg (fun h=>a1 h.1)]
   exact W0
 ·have e0:(kd==0)=false:=by simp[k0]
  by_cases k1:kd=1
  ·subst k1
   have hL:R.loc 1 mu ix=if mu=0 then(if 0≤ix∧ix<16 then some (1,ix.toNat)else none)else none:=by
    unfold Rt.loc
    grind
   rw[hL]
   by_cases a1:mu=0
   ·subst a1
    rw[if_pos rfl]
    by_cases a3:0≤ix
    ·by_cases a4:ix<16
     ·rw[if_pos ⟨a3,a4⟩]
      exact W0
     ·rw[if_neg (fun h=>a4 h.2)]
      exact W0
    ·rw[if_neg (fun h=>a3 h.1)]
     exact W0
   ·rw[if_neg a1]
    have a1':(mu==0)=false:=by simp[a1]
    exact W0
  ·have e1:(kd==1)=false:=by simp[k1]
   by_cases k2:kd=2
   ·subst k2
    have hL:R.loc 2 mu ix=if mu=0 then(if 0≤ix∧ix<(R.queue.length:Int)then some (2,ix.toNat)else none)else none:=by
     unfold Rt.loc
     grind
    rw[hL]
    by_cases a1:mu=0
    ·subst a1
     rw[if_pos rfl]
     by_cases a3:0≤ix
     ·by_cases a4:ix<(R.queue.length:Int)
      ·rw[if_pos ⟨a3,a4⟩]
       exact V5 lX hc ml2 a3 a4
      ·rw[if_neg (fun h=>a4 h.2)]
       exact V5 lX hc ml2 a3 a4
     ·rw[if_neg (fun h=>a3 h.1)]
      exact W0
    ·rw[if_neg a1]
     have a1':(mu==0)=false:=by simp[a1]
     exact W0
   ·have e2:(kd==2)=false:=by simp[k2]
    have hL:R.loc kd mu ix=none:=by
     unfold Rt.loc
     grind
    rw[hL]
    exact W0
end
end Go.Cs.Tryz
namespace Go.Cs.Tryz
open Go Go.Cs A
abbrev WL:Gn:=S (T [m 15 5,m 16 0,b 17 .lss 15 16] (J 17 (X 0))) (S (B 1 (D [⟨m 21 4,1,0,0⟩,⟨z 22 21,2,0,0⟩,⟨f 23 0 22,3,0,0⟩,⟨l 24 1 23,4,1,0⟩,⟨e 25 (.makeSlice 1 [i 0] (k 16) (k 16)),5,0,0⟩,⟨e 26 (.buildSlice 1 [.Gd] 1 [(0,1,t 25)]),6,0,0⟩,⟨ap 27 1 24 26,7,3,0⟩,⟨m 20 4,0,0,0⟩,⟨z 28 20,8,0,1⟩,⟨f 29 0 28,9,0,1⟩,⟨st 1 29 27,10,3,1⟩])) (R [m 18 5,bk 19 .add 18 1,m 5 19]))
def C35:Gj:=⟨31,0,T [e 2 (.Km (c .nilPtr)),n 3 0] (S (T [m 6 0,bk 7 .lss 6 1,m 8 7,gf 8 (m 9 0),gf 8 (bk 10 .gtr 9 4),or 11 8 10] (I 11 (Q [e 2 (.Km (c .nilPtr)),n 3 1]))) (T [e 12 (.makeSlice 1 [i 0] (k 16) (k 16)),e 13 (.build [.Gd,.Gd,.Gd] [(1,1,t 12)]),bo 14 13,m 4 14] (S (T [n 5 0] (B 0 (W WL))) (Q [m 30 4,m 2 30,n 3 0])))),[r 2,r 3]⟩
theorem c35:P 35=some C35:=by kernel_rfl
def C83:Gj:=⟨31,0,T [bo 4 1,n 6 0] (S (T [m 7 0,q1 8 84 7,no 9 8] (I 9 (Q [n 6 5]))) (S (T [m 10 0,lg 11 3 4,q2 12 171 10 11,no 13 12,m 14 13,gf 14 (m 15 2),gf 14 (bk 16 .lss 15 0),or 17 14 16,m 18 17,gf 18 (m 19 2),gf 18 (bk 20 .eql 19 0),gf 18 (m 21 20),gt 21 (f 22 0 4),gt 21 (l 23 1 22),gt 21 (bk 24 .eql 23 2),gf 18 (an 25 21 24),or 26 18 25] (I 26 (Q [n 6 1]))) (T [m 27 0,lg 28 3 4,m 29 2,q3 30 172 27 28 29] (Q [n 6 0])))),[r 6]⟩
theorem c83:P 83=some C83:=by kernel_rfl
def Gqz:Gj:=⟨40,0,T [bo 4 1] (T [f 6 0 4,l 7 1 6] (B 0 (T [bk 17 .eql 7 0,m 16 17] (C 16 (D [⟨m 18 0,0,0,0⟩,⟨z 19 18,1,0,0⟩,⟨f 20 0 19,2,0,0⟩,⟨l 21 1 20,3,1,0⟩,⟨f 22 1 4,4,0,0⟩,⟨l 23 1 22,5,1,0⟩,⟨x 24 1 21 23,6,0,0⟩,⟨l 25 1 24,7,1,0⟩,⟨f 26 2 4,8,0,0⟩,⟨l 27 1 26,9,1,0⟩,⟨m 28 2,10,0,0⟩,⟨x 29 1 25 27,11,0,0⟩,⟨st 1 29 28,12,3,0⟩]) (T [bk 31 .eql 7 1,m 30 31] (C 30 (D [⟨m 32 0,0,0,0⟩,⟨z 33 32,1,0,0⟩,⟨f 34 1 33,2,0,0⟩,⟨l 35 1 34,3,1,0⟩,⟨f 36 2 4,4,0,0⟩,⟨l 37 1 36,5,1,0⟩,⟨m 38 2,6,0,0⟩,⟨x 39 1 35 37,7,0,0⟩,⟨st 1 39 38,8,3,0⟩]) (D [⟨m 8 0,0,0,0⟩,⟨z 9 8,1,0,0⟩,⟨f 10 2 9,2,0,0⟩,⟨l 11 1 10,3,1,0⟩,⟨f 12 2 4,4,0,0⟩,⟨l 13 1 12,5,1,0⟩,⟨m 14 2,6,0,0⟩,⟨x 15 1 11 13,7,0,0⟩,⟨st 1 15 14,8,3,0⟩]))))))),[]⟩
theorem GrF:P 172=some Gqz:=by kernel_rfl
def GqN:Gj:=⟨39,0,T [bo 3 1,n 4 0] (S (T [f 5 0 3,l 6 1 5] (B 0 (T [bk 8 .eql 6 0,m 7 8] (C 7 (S (D [⟨m 9 0,0,0,0⟩,⟨z 10 9,1,0,0⟩,⟨f 11 0 10,2,0,0⟩,⟨l 12 1 11,3,1,0⟩,⟨f 13 1 3,4,0,0⟩,⟨l 14 1 13,5,1,0⟩,⟨x 15 1 12 14,6,0,0⟩,⟨l 16 1 15,7,1,0⟩,⟨f 17 2 3,8,0,0⟩,⟨l 18 1 17,9,1,0⟩,⟨x 19 1 16 18,10,0,0⟩,⟨l 20 1 19,11,1,0⟩,⟨m 4 20,12,0,0⟩]) .ret) (T [bk 22 .eql 6 1,m 21 22] (I 21 (S (D [⟨m 23 0,0,0,0⟩,⟨z 24 23,1,0,0⟩,⟨f 25 1 24,2,0,0⟩,⟨l 26 1 25,3,1,0⟩,⟨f 27 2 3,4,0,0⟩,⟨l 28 1 27,5,1,0⟩,⟨x 29 1 26 28,6,0,0⟩,⟨l 30 1 29,7,1,0⟩,⟨m 4 30,8,0,0⟩]) .ret))))))) (S (D [⟨m 31 0,0,0,0⟩,⟨z 32 31,1,0,0⟩,⟨f 33 2 32,2,0,0⟩,⟨l 34 1 33,3,1,0⟩,⟨f 35 2 3,4,0,0⟩,⟨l 36 1 35,5,1,0⟩,⟨x 37 1 34 36,6,0,0⟩,⟨l 38 1 37,7,1,0⟩,⟨m 4 38,8,0,0⟩]) .ret)),[r 4]⟩
theorem c175:P 175=some GqN:=by kernel_rfl
end Go.Cs.Tryz
namespace Go.Cs
open Go
theorem Rt.WQ{R:Rt}{kd mu ix:Int}{x:Nat×Nat}(h:R.loc kd mu ix=some x):(x.1=0∧kd=0∧0≤mu∧mu<(R.slots.length:Int)∧0≤ix∧ix<16∧x.2/16=mu.toNat∧x.2 % 16=ix.toNat)∨(x.1=1∧kd=1∧0≤ix∧x.2=ix.toNat)∨(x.1=2∧kd=2∧0≤ix∧x.2=ix.toNat):=by
 unfold Rt.loc at h
 split at h
 ·grind
 grind
end Go.Cs
namespace Go.Cs.Tryz
open Go Go.Cs
section
variable {H : Gb} {o : Tags} {rb : Nat} {R : Rt} {L : Vz}
theorem JJ.GbN(m:JJ o H rb R L){j:Nat}(h0:j/16<R.slots.length):∃b tl,L.sv=.slice b 0 R.slots.length R.slots.length 1 tl∧H[b]?=some ⟨L.ss,.rw,1⟩∧L.ss[j/16]?=some (L.at (0,j))∧o b=some (0,8,0):=by
 obtain⟨tl,e1,e2,e3,e4⟩:=m.slots.pos oM
 refine⟨_,tl,e1,e3,?_,e2⟩
 show _=some (L.ss.getD (j/16) .Gd)
 exact Az _ (by rw[m.ns];omega)
theorem T_(m:JJ o H rb R L)(k:R.Ok){kd mu ix:Int}{x:Nat×Nat}(hx:R.loc kd mu ix=some x):run P 175 [.ptr rb 0,.agg [.i kd,.i mu,.i ix]] H=some (.i ((R.li x.1).getD x.2 0),H++[⟨[.i kd,.i mu,.i ix],.rw,0⟩]):=by
 obtain⟨X,hX⟩:∃X:Gb,X=H++[⟨[.i kd,.i mu,.i ix],.rw,0⟩]:=⟨_,rfl⟩
 have gX:Gr H X:=by rw[hX];exact Gr.app _ _
 have lX:X[H.length]?=some ⟨[.i kd,.i mu,.i ix],.rw,0⟩:=by rw[hX];simp
 have mX:=m.gr gX
 have hc:=mX.cells
 obtain⟨l1,l2,l3,l4⟩:=Rt.BK k hx
 obtain⟨b,n,tl,t,cs,p1,p2,-,-,p3,p4,p5,p6,-⟩:=mX.place k l1 l2 l4
 have hcs:(ints cs)[Dk x]?=some (.i ((R.li x.1).getD x.2 0)):=by rw[Ai,p6];rfl
 rw[Gh c175 _ _ sM]
 refine Jb ?_
 rw[←hX]
 obtain⟨a,j⟩:=x
 rcases Rt.WQ hx with⟨h1,rfl,h2,h3,h4,h5,h6,h7⟩|⟨h1,rfl,h4,h7⟩|⟨h1,rfl,h4,h7⟩
 ·simp only at h1 h6 h7 p5
  subst h1
  obtain⟨b2,tl2,s1,s2,s3,s4⟩:=JJ.GbN mX (l4 rfl)
  rw[p1]at s3
  rw[s1]at hc
  rw[h6]at s3
  have e7:Dk (0,j)=ix.toNat:=by show j % 16=_;exact h7
  rw[e7]at hcs p5
  have c1:0≤mu∧mu<(R.slots.length:Int):=⟨h2,h3⟩
  have c2:0≤ix∧ix<(n:Int):=by omega
  exact V6 lX hc s2 s3 p3 hcs
 ·simp only at h1 h7 p5
  subst h1
  subst h7
  have e7:Dk (1,ix.toNat)=ix.toNat:=rfl
  rw[e7]at hcs p5
  have e8:L.at (1,ix.toNat)=L.gv:=rfl
  rw[e8]at p1
  rw[p1]at hc
  have c2:0≤ix∧ix<(n:Int):=by omega
  exact V4 lX hc p3 hcs
 ·simp only at h1 h7 p5
  subst h1
  subst h7
  have e7:Dk (2,ix.toNat)=ix.toNat:=rfl
  rw[e7]at hcs p5
  have e8:L.at (2,ix.toNat)=L.qv:=rfl
  rw[e8]at p1
  rw[p1]at hc
  have c2:0≤ix∧ix<(n:Int):=by omega
  exact V4 lX hc p3 hcs
theorem GkO(m:JJ o H rb R L)(k:R.Ok){kd mu ix:Int}{x:Nat×Nat}(hx:R.loc kd mu ix=some x)(w:Int):Gc8 o H rb (R.setAt x w) (.Jj []) (run P 172 [.ptr rb 0,.agg [.i kd,.i mu,.i ix],.i w] H):=by
 obtain⟨X,hX⟩:∃X:Gb,X=H++[⟨[.i kd,.i mu,.i ix],.rw,0⟩]:=⟨_,rfl⟩
 have gX:Gr H X:=by rw[hX];exact Gr.app _ _
 have lX:X[H.length]?=some ⟨[.i kd,.i mu,.i ix],.rw,0⟩:=by rw[hX];simp
 have mX:=m.gr gX
 have hc:=mX.cells
 obtain⟨l1,l2,l3,l4⟩:=Rt.BK k hx
 obtain⟨b,n,tl,t,cs,p1,p2,-,-,p3,p4,p5,p6,p7⟩:=mX.place k l1 l2 l4
 have st:Dk x<(ints cs).length:=by rw[ZE,p4];exact p5
 refine⟨_,o,L,?_,p7 w,(KW.gr gX).set1 p2 _⟩
 rw[Gh GrF _ _ sM]
 simp(disch:=first|exact dz|fail) only[simprocAttr,-List.reduceReplicate,Gs,↓reduceIte,A9]
 rw[←hX]
 obtain⟨a,j⟩:=x
 rcases Rt.WQ hx with⟨h1,rfl,h2,h3,h4,h5,h6,h7⟩|⟨h1,rfl,h4,h7⟩|⟨h1,rfl,h4,h7⟩
 ·simp only at h1 h6 h7 p5
  subst h1
  obtain⟨b2,tl2,s1,s2,s3,s4⟩:=JJ.GbN mX (l4 rfl)
  rw[p1]at s3
  rw[s1]at hc
  rw[h6]at s3
  have e7:Dk (0,j)=ix.toNat:=by show j % 16=_;exact h7
  rw[e7]at st p5
  rw[e7]
  have c1:0≤mu∧mu<(R.slots.length:Int):=⟨h2,h3⟩
  have c2:0≤ix∧ix<(n:Int):=by omega
  simp(disch:=first|exact dz|fail) only[simprocAttr,-List.reduceReplicate,Gs,↓reduceIte,lX,hc,show((0:Int)==0)=true from rfl,s2,s3,p3,Yb Jl st]
 ·simp only at h1 h7 p5
  subst h1
  subst h7
  have e7:Dk (1,ix.toNat)=ix.toNat:=rfl
  rw[e7]at st p5
  rw[e7]
  have e8:L.at (1,ix.toNat)=L.gv:=rfl
  rw[e8]at p1
  rw[p1]at hc
  have c2:0≤ix∧ix<(n:Int):=by omega
  simp(disch:=first|exact dz|fail) only[simprocAttr,-List.reduceReplicate,Gs,↓reduceIte,lX,hc,show((1:Int)==0)=false from rfl,show((1:Int)==1)=true from rfl,p3,Yb Jl st]
 ·simp only at h1 h7 p5
  subst h1
  subst h7
  have e7:Dk (2,ix.toNat)=ix.toNat:=rfl
  rw[e7]at st p5
  rw[e7]
  have e8:L.at (2,ix.toNat)=L.qv:=rfl
  rw[e8]at p1
  rw[p1]at hc
  have c2:0≤ix∧ix<(n:Int):=by omega
  simp(disch:=first|exact dz|fail) only[simprocAttr,-List.reduceReplicate,Gs,↓reduceIte,lX,hc,show((2:Int)==0)=false from rfl,show((2:Int)==1)=false from rfl,p3,Yb Jl st]
theorem Gc1(m:JJ o H rb R L)(k:R.Ok)(kd mu ix w:Int):Gc8 o H rb (R.set kd mu ix w).1 (.i (R.set kd mu ix w).2) (run P 83 [.ptr rb 0,.agg [.i kd,.i mu,.i ix],.i w] H):=by
 obtain⟨X,hX⟩:∃X:Gb,X=H++[⟨[.i kd,.i mu,.i ix],.rw,0⟩]:=⟨_,rfl⟩
 have gX:Gr H X:=by rw[hX];exact Gr.app _ _
 have lX:X[H.length]?=some ⟨[.i kd,.i mu,.i ix],.rw,0⟩:=by rw[hX];simp
 have mX:=m.gr gX
 have h1:=U9 mX k
 have h2:=Gdc mX k kd mu ix
 obtain⟨X1,hX1⟩:∃X1:Gb,X1=X++[⟨[.i kd,.i mu,.i ix],.rw,0⟩]:=⟨_,rfl⟩
 rw[←hX1]at h2
 have g1:Gr X X1:=by rw[hX1];exact Gr.app _ _
 have m1:=mX.gr g1
 have GD:=Gr.get g1 lX
 rw[Gh c83 _ _ sM]
 refine Jb ?_
 rw[←hX]
 unfold Rt.set
 cases e:R.loc kd mu ix with
 |none=>
  rw[e]at h2
  refine⟨X1,o,L,?_,m1,KW.gr (gX.trans g1)⟩
  exact V3 h1 lX h2
 |some x=>
  rw[e]at h2
  dsimp only
  by_cases c1:w<0
  ·rw[if_pos (.inl c1)]
   refine⟨X1,o,L,?_,m1,KW.gr (gX.trans g1)⟩
   exact V4 h1 lX h2 c1
  ·have c1':decide (w<0)=false:=Gw c1
   obtain⟨H',o',L',q1,q2,q3⟩:=GkO m1 k e w
   by_cases c2:w=0
   ·subst c2
    by_cases c3:kd=2
    ·rw[if_pos (.inr ⟨rfl,c3⟩)]
     subst c3
     refine⟨X1,o,L,?_,m1,KW.gr (gX.trans g1)⟩
     exact V4 h1 lX GD h2
    ·rw[if_neg oM]
     have c3':(kd==2)=false:=by simp[c3]
     refine⟨H',o',L',?_,q2,(KW.gr (gX.trans g1)).trans q3⟩
     exact V6 h1 lX GD h2 c3' q1
   ·have c2':(w==0)=false:=by simp[c2]
    rw[if_neg oM]
    refine⟨H',o',L',?_,q2,(KW.gr (gX.trans g1)).trans q3⟩
    exact V7 h1 lX GD h2 c1' c2' q1
theorem Gmz{n:Nat}(hn:n≤4){k0:Nat}(hk0:k0≤H.length)(hfresh:∀c t,o c=some t→k0≤c){glob:List Int}(m:JJ o H rb ⟨[],glob,[]⟩ L)
  {E0:Env}(h0:E0 0=.i n)(h4:E0 4=.ptr rb 0)(h5:E0 5=.i 0){r:Option (CX×Env×Gb)}(hr:den P (.loop WL) E0 H=r):
  ∃E' H' o' L',r=some (.exit 0,E',H')∧Keeps H H' (fun c=>k0≤c)∧JJ o' H' rb ⟨List.replicate n (List.replicate 16 0),glob,[]⟩ L'∧(∀c t,o' c=some t→k0≤c)∧∀t,t∉wr WL→E' t=E0 t:=by
 obtain⟨x',E',H',e,-,⟨rfl,g,hf⟩,fr⟩:=Gq (p:=P) (c:=WL) (E0:=E0) (H0:=H)
  (fun q E H'=>Keeps H H' (fun c=>k0≤c)∧∃(j:Nat)(o':Tags)(L':Vz),E 5=.i j∧j≤n∧q=n-j∧JJ o' H' rb ⟨List.replicate j (List.replicate 16 0),glob,[]⟩ L'∧∀c t,o' c=some t→k0≤c)
  (fun x E' H'=>x=.exit 0∧Keeps H H' (fun c=>k0≤c)∧∃(o':Tags)(L':Vz),JJ o' H' rb ⟨List.replicate n (List.replicate 16 0),glob,[]⟩ L'∧∀c t,o' c=some t→k0≤c) (by
   rintro q E H' hE ⟨g,j,o',L',e5,hj,rfl,mj,hfr⟩
   have e0:=(hE 0 dK).trans h0
   have e4:=(hE 4 dK).trans h4
   have hc:=mj.cells
   by_cases c:j<n
   ·have c':decide ((j:Int)<(n:Int))=true:=Gz oM
    have w1:IntKind.i64.wrap ((j:Int)+1)=((j+1:Nat):Int):=Gg oM
    have m2:=Uy (GN:=1) (z:=[CV.int .i64 0]) (l:=(16:Int)) (c:=(16:Int)) oM
    rw[show(16:Int).toNat=16 from rfl,Yz]at m2
    obtain⟨Y,hY⟩:∃Y:Gb,Y=H'++[⟨ints (List.replicate 16 0),.rw,1⟩]++[⟨[.slice H'.length 0 16 16 1 false],.rw,1⟩]:=⟨_,rfl⟩
    have gY:Gr H' Y:=by rw[hY];exact(Gr.app _ _).app' _
    have lY:Y.length=H'.length+2:=by rw[hY];simp
    have y0:Y[H'.length]?=some ⟨ints (List.replicate 16 0),.rw,1⟩:=by rw[hY];simp
    have y1:Y[H'.length+1]?=some ⟨[.slice H'.length 0 16 16 1 false],.rw,1⟩:=by rw[hY];simp
    have mY:=mj.gr gY
    have GgZ:=mY.slots
    simp only[List.length_replicate]at GgZ
    obtain⟨H2,a1,a2,a3,a4⟩:=GgZ.append (k:=1) (new:=[.slice H'.length 0 16 16 1 false]) oM (by unfold J9;omega) rfl rfl
    have t2:H2[rb]?=some ⟨[L'.sv,L'.gv,L'.qv],.rw,0⟩:=by
     rw[a4 rb (mY.dom _ _ mY.top) (by rw[mY.top];simp)];exact mY.cells
    have hel:elems Y 1 (.slice (H'.length+1) 0 1 1 1 false)=some (1,[.slice H'.length 0 16 16 1 false]):=by
     rw[JN oM,y1];rfl
    have hrb:rb<H'.length:=mj.dom _ _ mj.top
    have z0:H2[H'.length]?=some ⟨ints (List.replicate 16 0),.rw,1⟩:=by
     rw[a4 _ oM (by
      cases e:o' H'.length with
      |none=>simp
      |some t=>exact absurd (mj.dom _ _ e) (Nat.lt_irrefl _)),y0]
    have hset:∀c,c≠rb→(H2.set rb ⟨[.slice Y.length 0 (j+1) (j+1) 1 true,L'.gv,L'.qv],.rw,0⟩)[c]?=H2[c]?:=fun c hc=>KV (Ne.symm hc)
    have hold:∀c t,o' c=some t→t≠(0,9,0)→t≠(0,8,0)→(H2.set rb ⟨[.slice Y.length 0 (j+1) (j+1) 1 true,L'.gv,L'.qv],.rw,0⟩)[c]?=H'[c]?:=fun c t h n1 n2=>by
     rw[hset c (by rintro rfl;rw[mj.top]at h;grind),a4 c (mY.dom _ _ h) (by rw[h];simpa using n2)]
     exact gY.keep c (mj.dom _ _ h) fun h=>h
    have ho:∀c t,o' c=some t→((o'.put H'.length (1,j,0)).put Y.length (0,8,0)) c=some t:=fun c t h=>by
     have:=mj.dom c t h
     rw[Tags.Jp oM,Tags.Jp oM,h]
    apply Gm (k':=n-(j+1))
    ·refine Jb ?_
     rw[←hY]
     refine W5 a1 t2 w1 e4 e5 ?_
     rfl
    ·omega
    ·refine⟨?_,j+1,(o'.put H'.length (1,j,0)).put Y.length (0,8,0),{L' with sv:=.slice Y.length 0 (j+1) (j+1) 1 true,ss:=L'.ss++[.slice H'.length 0 16 16 1 false]},uA,oM,rfl,?_,?_⟩
     ·refine⟨?_,fun d hd hn=>?_⟩
      ·have:=g.len;rw[List.length_set,a2];omega
      ·have hd':d<H'.length:=J6 hd g.len
       rw[hset d (by rintro rfl;exact hn (hfr _ _ mj.top)),a4 d oM (fun h=>hn (hfr _ _ h)),gY.keep d hd' fun h=>h,g.keep d hd hn]
     ·refine⟨fun c t h=>?_,ho _ _ mj.top,by grind,?_,?_,fun i l hl=>?_,?_,?_⟩
      ·rw[List.length_set,a2]
       by_cases e:c=Y.length
       ·omega
       ·rw[Tags.Jp e]at h
        by_cases e2:c=H'.length
        ·omega
        ·rw[Tags.Jp e2]at h
         have:=mj.dom c t h;omega
      ·have:=mj.ns
       grind
      ·refine .inr ⟨Y.length,true,sM,Tags.put_eq,?_,?_⟩
       ·rw[hset _ oM];exact a3
       ·have:=mj.ns
        grind
      ·have hns:=mj.ns
       simp only[List.length_replicate]at hns
       simp only[List.getElem?_replicate]at hl
       split at hl
       ·rename_i hi
        simp only[GA]at hl
        subst hl
        by_cases e:i=j
        ·subst e
         refine⟨.slice H'.length 0 16 16 1 false,?_,.inr ⟨H'.length,false,rfl,?_,?_,by simp[ints]⟩⟩
         ·grind
         ·rw[Tags.Jp oM,Tags.put_eq]
         ·rw[hset _ oM];exact z0
        ·obtain⟨v,v1,v2⟩:=mj.slot i (List.replicate 16 0) (by grind)
         refine⟨v,?_,v2.frame (fun c=>ho c _) fun c h=>hold c _ h sM sM⟩
         grind
       ·cases hl
      ·exact mj.glob.frame (fun c=>ho c _) fun c h=>hold c _ h sM sM
      ·exact mj.queue.frame (fun c=>ho c _) fun c h=>hold c _ h sM sM
     ·intro c t h
      have:=g.len
      by_cases e:c=Y.length
      ·omega
      ·rw[Tags.Jp e]at h
       by_cases e2:c=H'.length
       ·omega
       ·rw[Tags.Jp e2]at h
        exact hfr c t h
   ·have c':decide ((j:Int)<(n:Int))=false:=Gw oM
    have:j=n:=by omega
    subst this
    apply Gi (x:=.exit 0)
    ·refine Jb ?_
     rfl
    ·simp
    ·exact⟨rfl,g,o',L',mj,hfr⟩) _ ⟨Keeps.refl _ _,0,o,L,h5,oM,rfl,m,hfresh⟩
 grind
theorem Gdm(n:Int)(h:1≤n∧n≤4):∃rb H' o L,run P 35 [.i n] H=some (.Jj [.ptr rb 0,.i 0],H')∧Gr H H'∧JJ o H' rb (Rt.new n.toNat) L∧∀c t,o c=some t→H.length≤c:=by
 obtain⟨n,rfl⟩:∃q:Nat,n=q:=⟨n.toNat,oM⟩
 have c0:¬((n:Int)<1):=by omega
 have c1:¬((4:Int)<(n:Int)):=by omega
 have m2:=ZV (H:=H) (GN:=1) (z:=[CV.int .i64 0]) (l:=(16:Int)) (c:=(16:Int)) oM
 rw[show(16:Int).toNat=16 from rfl,Yz]at m2
 rw[Kt]
 obtain⟨X,hX⟩:∃X:Gb,X=H++[⟨ints (List.replicate 16 0),.rw,1⟩]++[⟨[.Gd,.slice H.length 0 16 16 1 false,.Gd],.rw,0⟩]:=⟨_,rfl⟩
 have gX:Gr H X:=by rw[hX];exact(Gr.app _ _).app' _
 have mX:JJ ((Tags.put (fun _=>none) H.length (0,1,0)).put (H.length+1) (0,9,0)) X (H.length+1) ⟨[],List.replicate 16 0,[]⟩ ⟨.Gd,.slice H.length 0 16 16 1 false,.Gd,[]⟩:=by
  refine⟨fun c t hc=>?_,Tags.put_eq,by rw[hX];simp,rfl,.inl ⟨rfl,rfl,.inl rfl⟩,fun i l h=>by simp at h,.inr ⟨H.length,false,rfl,by rw[Tags.Jp oM,Tags.put_eq],by rw[hX];simp,by simp[ints]⟩,.inl ⟨rfl,rfl,.inl rfl⟩⟩
  by_cases e:c=H.length+1
  ·subst e;rw[hX];simp
  ·rw[Tags.Jp e]at hc
   by_cases e2:c=H.length
   ·subst e2;rw[hX];simp
   ·rw[Tags.Jp e2]at hc;cases hc
 have hfr:∀c t,((Tags.put (fun _=>none) H.length (0,1,0)).put (H.length+1) (0,9,0)) c=some t→H.length≤c:=fun c t hc=>by
  by_cases e:c=H.length+1
  ·omega
  ·rw[Tags.Jp e]at hc
   by_cases e2:c=H.length
   ·omega
   ·rw[Tags.Jp e2]at hc;cases hc
 rw[Gh c35 _ _ sM]
 refine Jb ?_
 rw[←hX]
 generalize hr:den P (.loop WL) _ _=r
 obtain⟨E',H',o',L',rfl,g,m',Grr,fr⟩:=Gmz (n:=n) oM (k0:=H.length) gX.len hfr mX uA uA uA hr
 have f4:=fr 4 dK
 simp only[Gc,Nat.reduceEqDiff,↓reduceIte]at f4
 refine⟨H.length+1,H',o',L',?_,gX.news g,m',Grr⟩
 exact W0
end
end Go.Cs.Tryz

namespace Go.Cs
open Go
structure UR where
 hb:Nat
 L:G5
 rb:Nat
 o1:Tags
 v:Nat→CV
 qb:Nat
 o2:Tags
 L2:NG
 ub:Nat
 o3:Tags
 L3:Vz
def UR.own(D:UR)(sb c:Nat):Prop:=c=sb∨c∈D.L.all D.hb∨D.o1 c≠none∨D.o2 c≠none∨D.o3 c≠none
structure AO(H:Gb)(sb:Nat)(s t:Hp)(R T:Rt)(D:UR):Prop where
 top:H[sb]?=some ⟨[.ptr D.hb 0,.ptr D.rb 0,.ptr D.qb 0,.ptr D.ub 0],.rw,0⟩
 ph:PH H D.hb s D.L
 pr:JL D.o1 H D.rb R D.v
 rh:J3 D.o2 H D.qb t D.L2
 rr:JJ D.o3 H D.ub T D.L3
 d0:sb∉D.L.all D.hb∧D.o1 sb=none∧D.o2 sb=none∧D.o3 sb=none
 d1:∀c∈D.L.all D.hb,D.o1 c=none∧D.o2 c=none∧D.o3 c=none
 d2:∀c,D.o1 c≠none→D.o2 c=none∧D.o3 c=none
 d3:∀c,D.o2 c≠none→D.o3 c=none
structure Qq(sb:Nat)(D:UR)(H:Gb)(D':UR)(H':Gb):Prop where
 len:H.length≤H'.length
 keep:∀c,c<H.length→¬D.own sb c→H'[c]?=H[c]?
 own:∀c,c<H.length→D'.own sb c→D.own sb c
 same:D'.hb=D.hb∧D'.rb=D.rb∧D'.qb=D.qb∧D'.ub=D.ub
theorem Qq.trans{sb:Nat}{D D' D'':UR}{H H' Da:Gb}(a:Qq sb D H D' H')(b:Qq sb D' H' D'' Da):Qq sb D H D'' Da:=
 ⟨J2 a.len b.len,fun c h hn=>by rw[b.keep c (J6 h a.len) fun h2=>hn (a.own c h h2),a.keep c h hn],fun c h hd=>a.own c h (b.own c (J6 h a.len) hd),b.same.1.trans a.same.1,b.same.2.1.trans a.same.2.1,b.same.2.2.1.trans a.same.2.2.1,b.same.2.2.2.trans a.same.2.2.2⟩
theorem Qq.gr{sb:Nat}{D:UR}{H H':Gb}(g:Gr H H'):Qq sb D H D H':=⟨g.len,fun c h _=>g.keep c h fun h=>h,fun _ _ h=>h,rfl,rfl,rfl,rfl⟩
theorem Qq.refl{sb:Nat}{D:UR}(H:Gb):Qq sb D H D H:=.gr (Keeps.refl _ _)
theorem Qq.keeps{sb:Nat}{D D':UR}{H H':Gb}(a:Qq sb D H D' H'):Keeps H H' (D.own sb):=⟨a.len,fun c h hn=>a.keep c h hn⟩
theorem Dj{α:Type}{x:Option α}{t:α}(h:x=some t):x≠none:=by rw[h];simp
theorem Je{α:Type}{x:Option α}(h:¬x≠none):x=none:=by
 grind
section
variable {H H' : Gb} {sb : Nat} {s t s' t' : Hp} {R T R' T' : Rt} {D : UR}
theorem AO.gr(m:AO H sb s t R T D)(g:Gr H H'):AO H' sb s t R T D where
 top:=g.get m.top
 ph:=m.ph.gr g
 pr:=m.pr.gr g
 rh:=m.rh.gr g
 rr:=m.rr.gr g
 d0:=m.d0
 d1:=m.d1
 d2:=m.d2
 d3:=m.d3
theorem AO.Pv(m:AO H sb s t R T D){v:CV}{r:Option (CV×Gb)}(h:Did H D.hb D.L s' v r):∃H',r=some (v,H')∧AO H' sb s' t R T D∧Qq sb D H D H':=by
 obtain⟨H',h1,k,p⟩:=h
 have old:∀c,c<H.length→c∉D.L.all D.hb→H'[c]?=H[c]?:=k.keep
 refine⟨H',h1,⟨?_,p,?_,?_,?_,m.d0,m.d1,m.d2,m.d3⟩,⟨k.len,fun c hc hn=>old c hc fun h=>hn (.inr (.inl h)),fun c _ h=>h,rfl,rfl,rfl,rfl⟩⟩
 ·rw[old sb (Gf m.top) m.d0.1,m.top]
 ·exact m.pr.frame (fun c u h=>J6 (m.pr.dom c u h) k.len) (fun _ _ h=>h) fun c u h=>old c (m.pr.dom c u h) fun hc=>by rw[(m.d1 c hc).1]at h;cases h
 ·exact m.rh.frame (fun c u h=>J6 (m.rh.dom c u h) k.len) (fun _ _ h=>h) fun c u h=>old c (m.rh.dom c u h) fun hc=>by rw[(m.d1 c hc).2.1]at h;cases h
 ·exact m.rr.frame (fun c u h=>J6 (m.rr.dom c u h) k.len) (fun _ _ h=>h) fun c u h=>old c (m.rr.dom c u h) fun hc=>by rw[(m.d1 c hc).2.2]at h;cases h
theorem KW.new{o o':Tags}(a:KW o H o' H'){c:Nat}(h:o' c≠none):o c≠none∨H.length≤c:=by
 by_cases hc:c<H.length
 ·rw[a.tag c hc]at h;exact .inl h
 ·exact .inr oM
theorem AO.WT(m:AO H sb s t R T D){v:CV}{r:Option (CV×Gb)}(h:Am D.o2 H D.qb t' v r):∃H' D',r=some (v,H')∧AO H' sb s t' R T D'∧Qq sb D H D' H':=by
 obtain⟨H',o',L',h1,p,k⟩:=h
 have lt:∀c∈D.L.all D.hb,c<H.length:=m.ph.lt
 have fresh:∀c,o' c≠none→D.o2 c≠none∨H.length≤c:=fun c h=>k.new h
 refine⟨H',{D with o2:=o',L2:=L'},h1,⟨?_,?_,?_,p,?_,?_,?_,?_,?_⟩,⟨k.len,fun c hc hn=>k.keep c hc (Je fun h=>hn (.inr (.inr (.inr (.inl h))))),fun c hc h=>?_,rfl,rfl,rfl,rfl⟩⟩
 ·rw[k.keep sb (Gf m.top) m.d0.2.2.1,m.top]
 ·exact m.ph.frame fun c hc=>k.keep c (lt c hc) (m.d1 c hc).2.1
 ·exact m.pr.frame (fun c u h=>J6 (m.pr.dom c u h) k.len) (fun _ _ h=>h) fun c u h=>k.keep c (m.pr.dom c u h) (m.d2 c (Dj h)).1
 ·exact m.rr.frame (fun c u h=>J6 (m.rr.dom c u h) k.len) (fun _ _ h=>h) fun c u h=>k.keep c (m.rr.dom c u h) (Je fun h2=>by rw[m.d3 c h2]at h;cases h)
 ·exact⟨m.d0.1,m.d0.2.1,Je fun h=>by rcases fresh _ h with h|h;exact h m.d0.2.2.1;exact absurd (Gf m.top) oM,m.d0.2.2.2⟩
 ·exact fun c hc=>⟨(m.d1 c hc).1,Je fun h=>by rcases fresh _ h with h|h;exact h (m.d1 c hc).2.1;exact absurd (lt c hc) oM,(m.d1 c hc).2.2⟩
 ·intro c hc
  refine⟨Je fun h=>?_,(m.d2 c hc).2⟩
  rcases fresh _ h with h|h
  ·exact h (m.d2 c hc).1
  ·cases e:D.o1 c with
   |none=>exact hc e
   |some u=>exact absurd (m.pr.dom c u e) oM
 ·intro c hc
  rcases fresh _ hc with h|h
  ·exact m.d3 c h
  ·cases e:D.o3 c with
   |none=>rfl
   |some u=>exact absurd (m.rr.dom c u e) oM
 ·rcases h with h|h|h|h|h
  ·exact .inl h
  ·exact .inr (.inl h)
  ·exact .inr (.inr (.inl h))
  ·rw[show({D with o2:=o',L2:=L'}:UR).o2 c=D.o2 c from k.tag c hc]at h
   exact .inr (.inr (.inr (.inl h)))
  ·exact .inr (.inr (.inr (.inr h)))
theorem AO.Glg(m:AO H sb s t R T D){v:CV}{r:Option (CV×Gb)}(h:Gho D.o1 H D.rb R' v r):∃H' D',r=some (v,H')∧AO H' sb s t R' T D'∧Qq sb D H D' H':=by
 obtain⟨H',o',w',h1,p,k⟩:=h
 have lt:∀c∈D.L.all D.hb,c<H.length:=m.ph.lt
 have fresh:∀c,o' c≠none→D.o1 c≠none∨H.length≤c:=fun c h=>k.new h
 have n2:∀c,D.o2 c≠none→D.o1 c=none:=fun c h=>Je fun h2=>h (m.d2 c h2).1
 have n3:∀c,D.o3 c≠none→D.o1 c=none:=fun c h=>Je fun h2=>h (m.d2 c h2).2
 refine⟨H',{D with o1:=o',v:=w'},h1,⟨?_,?_,p,?_,?_,?_,?_,?_,m.d3⟩,⟨k.len,fun c hc hn=>k.keep c hc (Je fun h=>hn (.inr (.inr (.inl h)))),fun c hc h=>?_,rfl,rfl,rfl,rfl⟩⟩
 ·rw[k.keep sb (Gf m.top) m.d0.2.1,m.top]
 ·exact m.ph.frame fun c hc=>k.keep c (lt c hc) (m.d1 c hc).1
 ·exact m.rh.frame (fun c u h=>J6 (m.rh.dom c u h) k.len) (fun _ _ h=>h) fun c u h=>k.keep c (m.rh.dom c u h) (n2 c (Dj h))
 ·exact m.rr.frame (fun c u h=>J6 (m.rr.dom c u h) k.len) (fun _ _ h=>h) fun c u h=>k.keep c (m.rr.dom c u h) (n3 c (Dj h))
 ·exact⟨m.d0.1,Je fun h=>by rcases fresh _ h with h|h;exact h m.d0.2.1;exact absurd (Gf m.top) oM,m.d0.2.2⟩
 ·exact fun c hc=>⟨Je fun h=>by rcases fresh _ h with h|h;exact h (m.d1 c hc).1;exact absurd (lt c hc) oM,(m.d1 c hc).2⟩
 ·intro c hc
  rcases fresh _ hc with h|h
  ·exact m.d2 c h
  ·refine⟨Je fun h2=>?_,Je fun h2=>?_⟩
   ·cases e:D.o2 c with
    |none=>exact h2 e
    |some u=>exact absurd (m.rh.dom c u e) oM
   ·cases e:D.o3 c with
    |none=>exact h2 e
    |some u=>exact absurd (m.rr.dom c u e) oM
 ·rcases h with h|h|h|h|h
  ·exact .inl h
  ·exact .inr (.inl h)
  ·rw[show({D with o1:=o',v:=w'}:UR).o1 c=D.o1 c from k.tag c hc]at h
   exact .inr (.inr (.inl h))
  ·exact .inr (.inr (.inr (.inl h)))
  ·exact .inr (.inr (.inr (.inr h)))
theorem AO.Glm(m:AO H sb s t R T D){v:CV}{r:Option (CV×Gb)}(h:Gc8 D.o3 H D.ub T' v r):∃H' D',r=some (v,H')∧AO H' sb s t R T' D'∧Qq sb D H D' H':=by
 obtain⟨H',o',w',h1,p,k⟩:=h
 have lt:∀c∈D.L.all D.hb,c<H.length:=m.ph.lt
 have fresh:∀c,o' c≠none→D.o3 c≠none∨H.length≤c:=fun c h=>k.new h
 refine⟨H',{D with o3:=o',L3:=w'},h1,⟨?_,?_,?_,?_,p,?_,?_,?_,?_⟩,⟨k.len,fun c hc hn=>k.keep c hc (Je fun h=>hn (.inr (.inr (.inr (.inr h))))),fun c hc h=>?_,rfl,rfl,rfl,rfl⟩⟩
 ·rw[k.keep sb (Gf m.top) m.d0.2.2.2,m.top]
 ·exact m.ph.frame fun c hc=>k.keep c (lt c hc) (m.d1 c hc).2.2
 ·exact m.pr.frame (fun c u h=>J6 (m.pr.dom c u h) k.len) (fun _ _ h=>h) fun c u h=>k.keep c (m.pr.dom c u h) (m.d2 c (Dj h)).2
 ·exact m.rh.frame (fun c u h=>J6 (m.rh.dom c u h) k.len) (fun _ _ h=>h) fun c u h=>k.keep c (m.rh.dom c u h) (m.d3 c (Dj h))
 ·exact⟨m.d0.1,m.d0.2.1,m.d0.2.2.1,Je fun h=>by rcases fresh _ h with h|h;exact h m.d0.2.2.2;exact absurd (Gf m.top) oM⟩
 ·exact fun c hc=>⟨(m.d1 c hc).1,(m.d1 c hc).2.1,Je fun h=>by rcases fresh _ h with h|h;exact h (m.d1 c hc).2.2;exact absurd (lt c hc) oM⟩
 ·intro c hc
  refine⟨(m.d2 c hc).1,Je fun h=>?_⟩
  rcases fresh _ h with h|h
  ·exact h (m.d2 c hc).2
  ·cases e:D.o1 c with
   |none=>exact hc e
   |some u=>exact absurd (m.pr.dom c u e) oM
 ·intro c hc
  refine Je fun h=>?_
  rcases fresh _ h with h|h
  ·exact h (m.d3 c hc)
  ·cases e:D.o2 c with
   |none=>exact hc e
   |some u=>exact absurd (m.rh.dom c u e) oM
 ·rcases h with h|h|h|h|h
  ·exact .inl h
  ·exact .inr (.inl h)
  ·exact .inr (.inr (.inl h))
  ·exact .inr (.inr (.inr (.inl h)))
  ·rw[show({D with o3:=o',L3:=w'}:UR).o3 c=D.o3 c from k.tag c hc]at h
   exact .inr (.inr (.inr (.inr h)))
theorem AO.TB{D':UR}(m:AO H' sb s t R T D')(g:Qq sb D H D' H'):H'[sb]?=some ⟨[.ptr D.hb 0,.ptr D.rb 0,.ptr D.qb 0,.ptr D.ub 0],.rw,0⟩:=by
 rw[m.top,g.same.1,g.same.2.1,g.same.2.2.1,g.same.2.2.2]
theorem AO.lt(m:AO H sb s t R T D):∀c,D.own sb c→c<H.length:=fun c h=>by
 rcases h with rfl|h|h|h|h
 ·exact Gf m.top
 ·exact m.ph.lt c h
 ·cases e:D.o1 c with
  |none=>exact absurd e h
  |some u=>exact m.pr.dom c u e
 ·cases e:D.o2 c with
  |none=>exact absurd e h
  |some u=>exact m.rh.dom c u e
 ·cases e:D.o3 c with
  |none=>exact absurd e h
  |some u=>exact m.rr.dom c u e
theorem BP{b n sp Av:Int}{fst ZP:Nat}(h:(s.claim b n fst sp ZP Av).2≠0):(s.claim b n fst sp ZP Av).1=s:=by
 unfold Hp.claim at h⊢
 grind
theorem BU{b:Nat}{n sp Av:Int}{fst ZP:Nat}(h:(s.claim b n fst sp ZP Av).2=0):s.Gx b=0∧1≤b∧b<s.blk.length:=by
 unfold Hp.claim at h
 split at h
 ·rename_i c
  split at h
  ·exact absurd h sM
  ·rename_i c2
   have hb:b<s.blk.length:=by omega
   refine⟨?_,oM,hb⟩
   have hx:s.blk[b]?=some s.blk[b]:=Jr hb
   rw[Kt,drop_cons hx]at c2
   obtain⟨m,hm⟩:∃m,n.toNat=m+1:=⟨n.toNat-1,oM⟩
   rw[hm,List.take_succ_cons,List.any_cons]at c2
   unfold Hp.Gx
   grind
 ·exact absurd h sM
theorem Hp.Fz.place{s:Hp}(f:s.Fz)(a r d kd:Int):(s.place a r d kd).1.Fz:=by
 unfold Hp.place
 split
 ·split
  ·exact f
  ·exact f
 ·exact f
theorem Hp.Ok.place{s:Hp}(k:s.Ok)(hb:s.born<1000000000000)(a r d kd:Int):(s.place a r d kd).1.Ok:=by
 unfold Hp.place
 split
 ·rename_i hv
  split
  ·rename_i hf
   obtain⟨q,rfl,e1,e2,e3⟩:=k.TY (by have:=Af r.toNat d.toNat;omega) hf
   have vb:=QD hv
   have hv':JQ (r.toNat:Int) (d.toNat:Int) (kd.toNat:Int)=true:=by rw[NS];omega
   exact k.Vj hv' e1 e2 e3 hb
  ·exact k
 ·exact k
theorem Hp.Gby{s:Hp}(a r d kd:Int):(s.place a r d kd).1.born≤s.born+1:=by
 unfold Hp.place
 split
 ·split
  ·exact Nat.le_refl _
  ·exact Nat.le_succ _
 ·exact Nat.le_succ _
end
end Go.Cs
namespace Go.Cs.Tryz
open Go Go.Cs A
def C37:Gj:=⟨44,0,T [bo 1 0,e 2 (.new [i 0,i 0,i 0])] (T [e 4 (.NI 4 1 (t 1) (k 1)),l 5 1 4,e 6 (.conv .i64 (t 5)),bk 7 .rem 6 5,e 8 (.NI 4 1 (t 1) (k 2)),l 9 1 8,e 10 (.conv .i64 (t 9)),bk 11 .rem 10 6,e 12 (.build [i 0,i 0,i 0] [(0,1,t 7),(1,1,t 11)]),e 3 (.new [i 0,i 0,i 0]),st 3 3 12] (S (T [e 13 (.NI 4 1 (t 1) (k 0)),l 14 1 13,e 15 (.bin .rem (t 14) (c (.int .u8 8)))] (B 0 (T [e 17 (.bin .eql (t 15) (c (.int .u8 4))),m 16 17] (C 16 (R [f 18 0 3,l 19 1 18,bk 20 .rem 19 3,e 21 (.bin .add (k 1) (t 20)),f 22 2 3,u (.store 1 (t 22) (k 1)),f 23 0 3,st 1 23 21]) (T [e 25 (.bin .eql (t 15) (c (.int .u8 5))),m 24 25] (C 24 (R [f 26 0 3,l 27 1 26,bk 28 .rem 27 3,e 29 (.bin .add (k 2) (t 28)),f 30 2 3,u (.store 1 (t 30) (k 2)),f 31 0 3,st 1 31 29]) (T [e 33 (.bin .eql (t 15) (c (.int .u8 6))),m 32 33] (C 32 (R [f 34 2 3,u (.store 1 (t 34) (k 3))]) (T [e 36 (.bin .eql (t 15) (c (.int .u8 7))),m 35 36] (I 35 (R [e 37 (.NI 4 1 (t 1) (k 2)),l 38 1 37,e 39 (.conv .i64 (t 38)),bk 40 .rem 39 100,e 41 (.bin .add (k 32) (t 40)),f 42 1 3,st 1 42 41]))))))))))) (Q [lg 43 3 3,st 3 2 43]))),[.cell 2 true 3]⟩
theorem c37:P 37=some C37:=by kernel_rfl
def C38:Gj:=⟨53,0,T [n 4 0] (S (B 0 (T [m 6 1,bk 7 .eql 6 (-77),m 5 7] (C 5 (Q [m 8 0,q1 9 121 8,m 4 9]) (T [m 11 1,bk 12 .geq 11 1000,m 10 12] (C 10 (Q [m 13 1,bk 14 .sub 13 1000,m 4 14]) (T [m 16 1,bk 17 .lss 16 0,m 18 17,gf 18 (m 19 1),gf 18 (bk 20 .geq 19 100),or 21 18 20,m 15 21] (C 15 (Q [m 22 1,m 4 22]) (T [m 24 0,z 25 24,f 26 2 25,l 27 1 26,z 28 27,f 29 1 28,l 30 1 29,le 31 30,bk 32 .eql 31 0,m 23 32] (I 23 (Q [n 4 0])))))))))) (S (D [⟨m 33 0,0,0,0⟩,⟨z 34 33,1,0,0⟩,⟨f 35 2 34,2,0,0⟩,⟨l 36 1 35,3,1,0⟩,⟨z 37 36,4,0,0⟩,⟨f 38 1 37,5,0,0⟩,⟨l 39 1 38,6,1,0⟩,⟨m 40 1,7,0,0⟩,⟨m 41 0,8,0,0⟩,⟨z 42 41,9,0,0⟩,⟨f 43 2 42,10,0,0⟩,⟨l 44 1 43,11,1,0⟩,⟨z 45 44,12,0,0⟩,⟨f 46 1 45,13,0,0⟩,⟨l 47 1 46,14,1,0⟩,⟨le 48 47,15,0,0⟩,⟨b 49 .rem 40 48,16,0,0⟩,⟨x 50 8 39 49,17,0,0⟩,⟨f 51 0 50,18,0,0⟩,⟨l 52 1 51,19,1,0⟩,⟨m 4 52,20,0,0⟩]) .ret)),[r 4]⟩
theorem c38:P 38=some C38:=by kernel_rfl
def C42:Gj:=⟨26,0,T [nb 8 false] (S (D [⟨m 9 0,0,0,0⟩,⟨z 10 9,1,0,0⟩,⟨f 11 2 10,2,0,0⟩,⟨l 12 1 11,3,1,0⟩,⟨m 13 1,4,0,0⟩,⟨m 14 2,5,0,0⟩,⟨m 15 3,6,0,0⟩,⟨q4 16 127 12 13 14 15,7,3,0⟩,⟨m 17 0,8,0,0⟩,⟨z 18 17,9,0,0⟩,⟨f 19 0 18,10,0,0⟩,⟨l 20 1 19,11,1,0⟩,⟨m 21 1,12,0,0⟩,⟨m 22 2,13,0,0⟩,⟨m 23 3,14,0,0⟩,⟨q4 24 128 20 21 22 23,15,3,1⟩,⟨b 25 .eql 16 24,16,0,2⟩,⟨m 8 25,17,0,2⟩]) .ret),[r 8]⟩
theorem c42:P 42=some C42:=by kernel_rfl
def C43:Gj:=⟨53,0,T [nb 6 false] (T [m 8 0,m 9 1,q2 10 129 8 9,e 7 (.new [i 0,i 0,i 0]),st 3 7 10] (S (S (D [⟨f 11 0 7,0,0,0⟩,⟨l 12 1 11,1,1,0⟩,⟨bk 13 .eql 12 2,2,0,0⟩,⟨m 14 13,3,0,0⟩,⟨gt 14 (m 17 0),6,0,0⟩,⟨gt 14 (z 18 17),7,0,0⟩,⟨gt 14 (f 19 3 18),8,0,0⟩,⟨gt 14 (l 20 1 19),9,1,0⟩,⟨gt 14 (q1 21 130 20),10,3,0⟩,⟨gt 14 (f 15 2 7),4,0,0⟩,⟨gt 14 (l 16 1 15),5,1,0⟩,⟨gt 14 (le 22 21),11,0,1⟩,⟨gt 14 (b 23 .geq 16 22),12,0,1⟩,⟨an 24 14 23,13,0,1⟩]) (I 24 (S (D [⟨m 25 0,0,0,0⟩,⟨z 26 25,1,0,0⟩,⟨f 27 3 26,2,0,0⟩,⟨l 28 1 27,3,1,0⟩,⟨m 29 2,4,0,0⟩,⟨q2 30 131 28 29,5,3,0⟩,⟨m 31 0,6,0,0⟩,⟨z 32 31,7,0,0⟩,⟨f 33 1 32,8,0,0⟩,⟨l 34 1 33,9,1,0⟩,⟨m 35 2,10,0,0⟩,⟨q2 36 132 34 35,11,3,1⟩,⟨b 37 .eql 30 36,12,0,2⟩,⟨m 6 37,13,0,2⟩]) .ret))) (S (D [⟨m 38 0,0,0,0⟩,⟨z 39 38,1,0,0⟩,⟨f 40 3 39,2,0,0⟩,⟨l 41 1 40,3,1,0⟩,⟨lg 42 3 7,4,1,0⟩,⟨m 43 2,5,0,0⟩,⟨q3 44 83 41 42 43,6,3,0⟩,⟨m 45 0,7,0,0⟩,⟨z 46 45,8,0,0⟩,⟨f 47 1 46,9,0,0⟩,⟨l 48 1 47,10,1,0⟩,⟨lg 49 3 7,11,1,0⟩,⟨m 50 2,12,0,0⟩,⟨q3 51 133 48 49 50,13,3,1⟩,⟨b 52 .eql 44 51,14,0,2⟩,⟨m 6 52,15,0,2⟩]) .ret))),[r 6]⟩
theorem c43:P 43=some C43:=by kernel_rfl
def Gv4:Gj:=⟨31,0,T [e 4 (.new [i 0,i 0,i 0])] (T [m 6 1,e 7 (.mm true [t 6,k 0]),bk 8 .rem 7 40,m 5 8] (S (B 0 (T [m 10 5,bk 11 .lss 10 24,m 9 11] (C 9 (Q [m 12 5,m 13 0,z 14 13,f 15 3 14,l 16 1 15,q1 17 194 16,b 18 .rem 12 17,m 19 5,bk 20 .quo 19 4,e 21 (.build [i 0,i 0,i 0] [(0,1,k 0),(1,1,t 18),(2,1,t 20)]),st 3 4 21]) (T [m 23 5,bk 24 .lss 23 36,m 22 24] (I 22 (Q [m 25 5,bk 26 .sub 25 24,e 27 (.build [i 0,i 0,i 0] [(0,1,k 1),(2,1,t 26)]),st 3 4 27])))))) (Q [m 28 5,bk 29 .sub 28 36,e 30 (.build [i 0,i 0,i 0] [(0,1,k 2),(2,1,t 29)]),st 3 4 30]))),[.cell 4 true 3]⟩
theorem Gnt:P 129=some Gv4:=by kernel_rfl
end Go.Cs.Tryz
