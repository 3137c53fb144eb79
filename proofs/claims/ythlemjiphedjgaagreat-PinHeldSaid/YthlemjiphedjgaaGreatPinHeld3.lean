/- A part of the proof: PinHeld returns true for every input: Mostly moves and frees no object that is held, moves none that is pinned, and leaves what is kept as it is, but for addresses (P18.1, P18.4) Conditions: none. -/
import Derived.Test.YthlemjiphedjgaaGreatPinHeld2
import Derived.Test.YthlemjiphedjgaaGreatProg
import Derived.KernelRfl
set_option linter.unusedVariables false
set_option linter.unusedSimpArgs false
set_option linter.defProp false
set_option maxRecDepth 100000
namespace Go.Cs
open Go
def u8s(l:List Int):List CV:=l.map fun x=>CV.int .u8 x
section
variable {F : GQ} {E : Env} {H : Gb}
def Td(n e:Nat)(x i:CV)(H:Gb):Option (CV×Gb):=match x,i with
 |.ptr b o,.int _ i=>if 0≤i∧i<(n:Int)then some (.ptr b (o+i.toNat*e),H)else none
 |_,_=>none
def Ta(n e:Nat)(x i:CV):Option Tu:=match x,i with
 |.ptr b o,.int _ i=>if 0≤i∧i<(n:Int)then okV (.ptr b (o+i.toNat*e))else none
 |_,_=>none
theorem Ni{n e:Nat}{x i:Jy}:JY F (.NI n e x i) E H=Td n e (E.ev x) (E.ev i) H:=by
 simp only[JY,UZ,G7,Td]
 cases E.ev x<;>cases E.ev i<;>first|rfl|skip
 dsimp only
 split<;>rfl
theorem AL{n e:Nat}{x i:Jy}:G7 (.NI n e x i) E H=Ta n e (E.ev x) (E.ev i):=by
 simp only[G7,Ta]
 cases E.ev x<;>cases E.ev i<;>first|rfl|skip
theorem Nb{n e b o:Nat}{k:IntKind}{i:Int}(h:0≤i∧i<(n:Int)):Td n e (.ptr b o) (.int k i) H=some (.ptr b (o+i.toNat*e),H):=if_pos h
theorem YU{n e b o:Nat}{k:IntKind}{i:Int}(h:0≤i∧i<(n:Int)):Ta n e (.ptr b o) (.int k i)=okV (.ptr b (o+i.toNat*e)):=if_pos h
end
def Rt.vals(R:Rt):List Int:=R.flat++(R.glob++R.queue)
theorem Rt.GaG{R:Rt}(k:R.Ok){kd mu ix a:Int}{v:Int}(h:v∈(R.set kd mu ix a).1.vals):v∈R.vals∨v=a:=by
 unfold Rt.set at h
 split at h
 ·rename_i x hx
  split at h
  ·exact .inl h
  ·obtain⟨l1,l2,l3,l4⟩:=Rt.BK k hx
   have e:=fun i hi=>Rt.DU k l2 l4 a i hi
   have key:∀i,i≤2→v∈(R.setAt x a).li i→v∈R.li i∨v=a:=fun i hi hv=>by
    grind
   simp only[Rt.vals,K_]at h⊢
   rcases h with h|h|h
   ·rcases key 0 oM h with h|h
    ·exact .inl (.inl h)
    ·exact .inr h
   ·rcases key 1 oM h with h|h
    ·exact .inl (.inr (.inl h))
    ·exact .inr h
   ·rcases key 2 oM h with h|h
    ·exact .inl (.inr (.inr h))
    ·exact .inr h
 ·exact .inl h
theorem Rt.GdL{R:Rt}{a v:Int}(h:v∈(R.push a).1.vals):v∈R.vals∨v=a:=by
 unfold Rt.push at h
 split at h
 ·exact .inl h
 ·split at h
  ·exact .inl h
  ·simp only[Rt.vals,Rt.flat,K_,Ad]at h⊢
   grind
structure HY(H:Gb)(sb:Nat)(s:Hp)(R:Rt)(D:UR):Prop where
 m:AO H sb s s R R D
 k:s.Ok
 f:s.Fz
 kr:R.Ok
end Go.Cs
namespace Go.Cs.Tryz
open Go Go.Cs
section
variable {H : Gb} {sb : Nat} {s t : Hp} {R T : Rt} {D : UR}
theorem Xy{x0 x1 x2 x3:Int}(h0:0≤x0∧x0≤255)(h1:0≤x1∧x1≤255)(h2:0≤x2∧x2≤255):
  ∃r d kd H',run P 37 [.agg (u8s [x0,x1,x2,x3])] H=some (.agg (GX r d kd),H')∧Gr H H'∧JQ r d kd=true∧(x0 % 8≠7→0≤r∧0≤d∧r+d≤20):=by
 have e0:x0.tmod 8=x0 % 8:=Int.tmod_eq_emod_of_nonneg h0.1
 have e1:x1.tmod 5=x1 % 5:=Int.tmod_eq_emod_of_nonneg h1.1
 have e2:x2.tmod 6=x2 % 6:=Int.tmod_eq_emod_of_nonneg h2.1
 have e4:x2.tmod 100=x2 % 100:=Int.tmod_eq_emod_of_nonneg h2.1
 have e3:(x1 % 5).tmod 3=x1 % 5 % 3:=Int.tmod_eq_emod_of_nonneg oM
 have w1:IntKind.i64.wrap x1=x1:=Gg oM
 have w2:IntKind.i64.wrap x2=x2:=Gg oM
 have w3:IntKind.i64.wrap (1+x1 % 5 % 3)=1+x1 % 5 % 3:=Gg oM
 have w4:IntKind.i64.wrap (2+x1 % 5 % 3)=2+x1 % 5 % 3:=Gg oM
 have w5:IntKind.i64.wrap (32+x2 % 100)=32+x2 % 100:=Gg oM
 have z:x0 % 8=4∨x0 % 8=5∨x0 % 8=6∨x0 % 8=7∨(x0 % 8≠4∧x0 % 8≠5∧x0 % 8≠6∧x0 % 8≠7):=by omega
 obtain⟨B,hB⟩:∃B:JE,B=⟨[.int .u8 x0,.int .u8 x1,.int .u8 x2,.int .u8 x3],.rw,0⟩:=⟨_,rfl⟩
 unfold u8s GX
 simp only[List.map_cons,List.map_nil]
 rcases z with z|z|z|z|⟨z4,z5,z6,z7⟩
 ·have q4:(x0 % 8==4)=true:=by simp[z]
  refine⟨1+x1 % 5 % 3,x2 % 6,1,H++[B]++[⟨[.i (1+x1 % 5 % 3),.i (x2 % 6),.i 1],.rw,0⟩]++[⟨[.i (1+x1 % 5 % 3),.i (x2 % 6),.i 1],.rw,0⟩],?_,((Gr.app H _).app' _).app' _,by rw[NS];omega,fun h7=>by omega⟩
  rw[Gh c37 _ _ sM,hB]
  exact V15 @Ke @KL @Ni @Nb @Jw e0 e1 e2 e3 w1 w2 w3 q4 @JO @Jc
 ·have q4:(x0 % 8==4)=false:=by simp[z]
  have q5:(x0 % 8==5)=true:=by simp[z]
  refine⟨2+x1 % 5 % 3,x2 % 6,2,H++[B]++[⟨[.i (2+x1 % 5 % 3),.i (x2 % 6),.i 2],.rw,0⟩]++[⟨[.i (2+x1 % 5 % 3),.i (x2 % 6),.i 2],.rw,0⟩],?_,((Gr.app H _).app' _).app' _,by rw[NS];omega,fun h7=>by omega⟩
  rw[Gh c37 _ _ sM,hB]
  exact V16 @Ke @KL @Ni @Nb @Jw e0 e1 e2 e3 w1 w2 w4 q4 q5 @JO @Jc
 ·have q4:(x0 % 8==4)=false:=by simp[z]
  have q5:(x0 % 8==5)=false:=by simp[z]
  have q6:(x0 % 8==6)=true:=by simp[z]
  refine⟨x1 % 5,x2 % 6,3,H++[B]++[⟨[.i (x1 % 5),.i (x2 % 6),.i 3],.rw,0⟩]++[⟨[.i (x1 % 5),.i (x2 % 6),.i 3],.rw,0⟩],?_,((Gr.app H _).app' _).app' _,by rw[NS];omega,fun h7=>by omega⟩
  rw[Gh c37 _ _ sM,hB]
  exact V15 @Ke @KL @Ni @Nb @Jw e0 e1 e2 w1 w2 q4 q5 q6 @JO @Jc
 ·have q4:(x0 % 8==4)=false:=by simp[z]
  have q5:(x0 % 8==5)=false:=by simp[z]
  have q6:(x0 % 8==6)=false:=by simp[z]
  have q7:(x0 % 8==7)=true:=by simp[z]
  refine⟨x1 % 5,32+x2 % 100,0,H++[B]++[⟨[.i (x1 % 5),.i (32+x2 % 100),.i 0],.rw,0⟩]++[⟨[.i (x1 % 5),.i (32+x2 % 100),.i 0],.rw,0⟩],?_,((Gr.app H _).app' _).app' _,by rw[NS];omega,fun h7=>by omega⟩
  rw[Gh c37 _ _ sM,hB]
  exact V18 @Ke @KL @Ni @Nb @Jw e0 e1 e2 e4 w1 w2 w5 q4 q5 q6 q7 @JO @Jc
 ·have q4:(x0 % 8==4)=false:=by simp[z4]
  have q5:(x0 % 8==5)=false:=by simp[z5]
  have q6:(x0 % 8==6)=false:=by simp[z6]
  have q7:(x0 % 8==7)=false:=by simp[z7]
  refine⟨x1 % 5,x2 % 6,0,H++[B]++[⟨[.i (x1 % 5),.i (x2 % 6),.i 0],.rw,0⟩]++[⟨[.i (x1 % 5),.i (x2 % 6),.i 0],.rw,0⟩],?_,((Gr.app H _).app' _).app' _,by rw[NS];omega,fun h7=>by omega⟩
  rw[Gh c37 _ _ sM,hB]
  exact V16 @Ke @KL @Ni @Nb @Jw e0 e1 e2 w1 w2 q4 q5 q6 q7 @JO @Jc
theorem Yt(m:AO H sb s t R T D)(kt:t.Ok){n:Int}(hn:0≤n∧n<100):∃a:Int,run P 38 [.ptr sb 0,.i n] H=some (.i a,H)∧0≤a∧a≤4096∧(a=0∨t.has a=true):=by
 have h1:=m.top
 have h2:=m.rh.cells
 have hl:=m.rh.objs.len H
 have hml:=VO (v:=D.L2.ov) (n:=(t.objs.length:Int)) fun H=>m.rh.objs.len H
 have few:=kt.few
 have n1:(n== -77)=false:=Iq.2 oM
 have n2:decide ((1000:Int)≤n)=false:=Gw oM
 have n3:decide (n<0)=false:=Gw oM
 have n4:decide ((100:Int)≤n)=false:=Gw oM
 by_cases c:t.objs.length=0
 ·have c':((t.objs.length:Int)==0)=true:=by rw[c];rfl
  refine⟨0,?_,oM,oM,.inl rfl⟩
  rw[Gh c38 _ _ sM]
  exact W0
 ·have c':((t.objs.length:Int)==0)=false:=Iq.2 oM
  have hmod:n.tmod (t.objs.length:Int)=((n.toNat % t.objs.length:Nat):Int):=by
   grind
  have hlt:n.toNat % t.objs.length<t.objs.length:=Nat.mod_lt _ oM
  have hx:t.objs[n.toNat % t.objs.length]?=some t.objs[n.toNat % t.objs.length]:=Jr hlt
  generalize t.objs[n.toNat % t.objs.length]=x at hx
  generalize n.toNat % t.objs.length=j at hx hmod hlt
  obtain⟨b,q,tl,q1,q2,q3,q4,q5,q6⟩:=J3.row m.rh hx
  have q7:=JU (hv:=D.L2.hv) hx (i:=0) (v:=.i x.addr) rfl
  rw[Nat.add_zero]at q7
  have hok:=kt.ob x (JV hx)
  have hf:=hok.fits
  have hnb:=kt.nb
  have hsn:t.nw=64*t.blk.length:=rfl
  refine⟨x.addr,?_,oM,oM,.inr (Hp.J4.2 ⟨x,kt.obj (JV hx)⟩)⟩
  rw[Gh c38 _ _ sM]
  rw[q1]at h2 hl hml
  exact Hz
theorem Gbk(w:HY H sb s R D)(a i to:Int)(ha:a≤9223372036854775807)(hto:to≤9223372036854775807):
  ∃H' D',run P 42 [.ptr sb 0,.i a,.i i,.i to] H=some (.bool true,H')∧AO H' sb (s.setRef a i to).1 (s.setRef a i to).1 R R D'∧Qq sb D H D' H':=by
 obtain⟨H1,D1,h1,m1,g1⟩:=w.m.WT (GbX w.m.rh w.k a i to)
 obtain⟨H2,h2,m2,g2⟩:=m1.Pv (GaC m1.ph w.k a i to ha hto)
 have t0:=w.m.top
 have t1:=m1.TB g1
 rw[g1.same.1]at h2
 have e:((s.setRef a i to).2==(s.setRef a i to).2)=true:=by simp
 refine⟨H2,D1,?_,m2,g1.trans g2⟩
 rw[Gh c42 _ _ sM]
 exact W0
theorem Xa(m:AO H sb s t R T D)(kr:T.Ok){n:Int}(hn:0≤n∧n≤255):∃kd mu ix H',run P 129 [.ptr sb 0,.i n] H=some (.agg [.i kd,.i mu,.i ix],H')∧Gr H H'∧0≤ix∧(0≤kd∧kd≤2)∧(kd=2→mu=0):=by
 obtain⟨n,rfl⟩:∃q:Nat,n=q:=⟨n.toNat,oM⟩
 have gz:Gr H (H++[⟨[.int .i64 0,.int .i64 0,.int .i64 0],.rw,0⟩]):=Gr.app _ _
 have m1:=m.gr gz
 have h1:=m1.top
 have h2:=Tq m1.rr kr
 have hns:=kr.ns
 have hmx:(if(0:Int)>(n:Int)then(0:Int)else(n:Int))=(n:Int):=if_neg oM
 have hm:(n:Int).tmod 40=((n % 40:Nat):Int):=VY n 40
 have hlt:sb<H.length:=Gf m.top
 by_cases c1:n % 40<24
 ·have c1':decide (((n % 40:Nat):Int)<24)=true:=Gz oM
  have hr:((n % 40:Nat):Int).tmod (T.slots.length:Int)=((n % 40 % T.slots.length:Nat):Int):=VY _ _
  have hq:((n % 40:Nat):Int).tdiv 4=((n % 40/4:Nat):Int):=KN _ 4
  have wq:IntKind.i64.wrap ((n % 40/4:Nat):Int)=((n % 40/4:Nat):Int):=Gg oM
  have hnz:¬(T.slots.length:Int)=0:=by omega
  refine⟨0,((n % 40 % T.slots.length:Nat):Int),((n % 40/4:Nat):Int),H++[⟨[.i 0,.i ((n % 40 % T.slots.length:Nat):Int),.i ((n % 40/4:Nat):Int)],.rw,0⟩],?_,Gr.app _ _,oM,oM,oM⟩
  rw[Gh Gnt _ _ sM]
  exact Hz
 ·have c1':decide (((n % 40:Nat):Int)<24)=false:=Gw oM
  by_cases c2:n % 40<36
  ·have c2':decide (((n % 40:Nat):Int)<36)=true:=Gz oM
   have wq:IntKind.i64.wrap (((n % 40:Nat):Int)-24)=((n % 40-24:Nat):Int):=by rw[Gg oM];omega
   refine⟨1,0,((n % 40-24:Nat):Int),H++[⟨[.i 1,.i 0,.i ((n % 40-24:Nat):Int)],.rw,0⟩],?_,Gr.app _ _,oM,oM,oM⟩
   rw[Gh Gnt _ _ sM]
   exact Hz
  ·have c2':decide (((n % 40:Nat):Int)<36)=false:=Gw oM
   have wq:IntKind.i64.wrap (((n % 40:Nat):Int)-36)=((n % 40-36:Nat):Int):=by rw[Gg oM];omega
   refine⟨2,0,((n % 40-36:Nat):Int),H++[⟨[.i 2,.i 0,.i ((n % 40-36:Nat):Int)],.rw,0⟩],?_,Gr.app _ _,oM,oM,oM⟩
   rw[Gh Gnt _ _ sM]
   exact Hz
theorem Gd0(w:HY H sb s R D){n a:Int}(hn:0≤n∧n≤255)(ha:a≤9223372036854775807):
  ∃R' H' D',run P 43 [.ptr sb 0,.i n,.i a] H=some (.bool true,H')∧AO H' sb s s R' R' D'∧Qq sb D H D' H'∧R'.Ok∧∀v∈R'.vals,v∈R.vals∨v=a:=by
 obtain⟨kd,mu,ix,X,hw,gX,hix,hkd,hmu⟩:=Xa w.m w.kr hn
 obtain⟨Y,hY⟩:∃Y:Gb,Y=X++[⟨[.i kd,.i mu,.i ix],.rw,0⟩]:=⟨_,rfl⟩
 have gY:Gr X Y:=by rw[hY];exact Gr.app _ _
 have lY:Y[X.length]?=some ⟨[.i kd,.i mu,.i ix],.rw,0⟩:=by rw[hY];simp
 have mY:=w.m.gr (gX.trans gY)
 have tY:=mY.top
 obtain⟨v,Z,hz,gZ,il⟩:=Gfc mY.rr w.kr
 have mZ:=mY.gr gZ
 have lZ:=Gr.get gZ lY
 have tZ:=mZ.top
 have hvl:=il.len Z
 have GnV:=VO (v:=v) (n:=(R.queue.length:Int)) fun H=>il.len H
 have gYZ:=gX.trans gY
 have GkY:∀(V:Gb)(mV:AO V sb s s R R D)(gV:Gr Y V),∃(H1 H2:Gb)(D2:UR),run P 83 [.ptr D.ub 0,.agg [.i kd,.i mu,.i ix],.i a] V=some (.i (R.set kd mu ix a).2,H1)∧H1[sb]?=some ⟨[.ptr D.hb 0,.ptr D.rb 0,.ptr D.qb 0,.ptr D.ub 0],.rw,0⟩∧H1[X.length]?=some ⟨[.i kd,.i mu,.i ix],.rw,0⟩∧
   run P 133 [.ptr D.rb 0,.agg [.i kd,.i mu,.i ix],.i a] H1=some (.i (R.set kd mu ix a).2,H2)∧AO H2 sb s s (R.set kd mu ix a).1 (R.set kd mu ix a).1 D2∧Qq sb D V D2 H2:=fun V mV gV=>by
  obtain⟨H1,D1,a1,m1,g1⟩:=mV.Glm (Gc1 mV.rr w.kr kd mu ix a)
  obtain⟨H2,D2,a2,m2,g2⟩:=m1.Glg (Gel m1.pr w.kr kd mu ix a)
  rw[g1.same.2.1]at a2
  refine⟨H1,H2,D2,a1,m1.TB g1,?_,a2,m2,g1.trans g2⟩
  have lV:=Gr.get gV lY
  rw[g1.keep X.length (Gf lV) ?_,lV]
  intro h
  have h1:=w.m.lt _ h
  have h2:=gX.len
  omega
 by_cases k2:kd=2
 ·subst k2
  by_cases c:(R.queue.length:Int)≤ix
  ·have c':decide ((R.queue.length:Int)≤ix)=true:=Gz c
   obtain⟨H1,D1,a1,m1,g1⟩:=mZ.Glm (GfS mZ.rr w.kr a)
   obtain⟨H2,D2,a2,m2,g2⟩:=m1.Glg (Gb2 m1.pr w.kr a)
   have t1:=m1.TB g1
   rw[g1.same.2.1]at a2
   have e:((R.push a).2==(R.push a).2)=true:=by simp
   refine⟨_,H2,D2,?_,m2,(Qq.gr (gYZ.trans gZ)).trans (g1.trans g2),w.kr.push a ha,fun v h=>Rt.GdL h⟩
   rw[Gh c43 _ _ sM]
   refine W2 hw @Jc ?_
   rw[←hY]
   exact V11 lY tY hz lZ GnV c' tZ a1 t1 a2 e
  ·have c':decide ((R.queue.length:Int)≤ix)=false:=Gw c
   obtain⟨H1,H2,D2,a1,t1,l1,a2,m2,g⟩:=GkY Z mZ gZ
   have e:((R.set 2 mu ix a).2==(R.set 2 mu ix a).2)=true:=by simp
   refine⟨_,H2,D2,?_,m2,(Qq.gr (gYZ.trans gZ)).trans g,w.kr.set 2 mu ix a ha,fun v h=>Rt.GaG w.kr h⟩
   rw[Gh c43 _ _ sM]
   refine W2 hw @Jc ?_
   rw[←hY]
   exact V12 lY tY hz lZ GnV c' tZ a1 t1 l1 a2 e
 ·have k2':(kd==2)=false:=by simp[k2]
  obtain⟨H1,H2,D2,a1,t1,l1,a2,m2,g⟩:=GkY Y mY (Keeps.refl _ _)
  have e:((R.set kd mu ix a).2==(R.set kd mu ix a).2)=true:=by simp
  refine⟨_,H2,D2,?_,m2,(Qq.gr gYZ).trans g,w.kr.set kd mu ix a ha,fun v h=>Rt.GaG w.kr h⟩
  rw[Gh c43 _ _ sM]
  refine Jb ?_
  rw[←hY]
  exact V7 lY tY a1 t1 l1 a2 e
end
end Go.Cs.Tryz
namespace Go.Cs.Tryz
open Go Go.Cs A
def C36:Gj:=⟨84,0,T [bo 4 1,nb 6 false] (S (D [⟨m 16 0,0,0,0⟩,⟨z 17 16,1,0,0⟩,⟨f 18 2 17,2,0,0⟩,⟨l 19 1 18,3,1,0⟩,⟨lg 20 3 4,4,1,0⟩,⟨m 21 2,5,0,0⟩,⟨q3 22 116 19 20 21,6,3,0⟩,⟨m 15 22,7,0,1⟩,⟨ex 23 15 0,8,0,1⟩,⟨ex 24 15 1,9,0,1⟩,⟨m 7 23,10,0,1⟩,⟨m 8 24,11,0,1⟩]) (S (T [m 25 8,no 26 25] (I 26 (Q [nb 6 true]))) (S (T [m 27 7,bk 28 .quo 27 64,m 9 28] (T [m 29 0,z 30 29,f 31 0 30,l 32 1 31,m 33 9,q2 34 62 32 33,bk 35 .eql 34 0] (I 35 (T [n 10 0] (S (T [lg 36 3 4,q1 37 117 36] (C 37 (D [⟨lg 43 3 4,5,1,0⟩,⟨q1 44 119 43,6,3,0⟩,⟨m 38 0,0,0,0⟩,⟨z 39 38,1,0,0⟩,⟨f 40 0 39,2,0,0⟩,⟨l 41 1 40,3,1,0⟩,⟨m 42 9,4,0,0⟩,⟨m 45 2,7,0,0⟩,⟨q4 46 118 41 42 44 45,8,3,1⟩,⟨m 10 46,9,0,2⟩]) (R [m 47 0,z 48 47,f 49 0 48,l 50 1 49,m 51 9,m 52 2,q3 53 74 50 51 52,m 10 53]))) (T [m 54 10,bk 55 .neq 54 0] (I 55 (Q [nb 6 false])))))))) (S (D [⟨m 57 0,0,0,0⟩,⟨z 58 57,1,0,0⟩,⟨f 59 2 58,2,0,0⟩,⟨l 60 1 59,3,1,0⟩,⟨m 61 7,4,0,0⟩,⟨lg 62 3 4,5,1,0⟩,⟨q3 63 120 60 61 62,6,3,0⟩,⟨m 56 63,7,0,1⟩,⟨ex 64 56 0,8,0,1⟩,⟨ex 65 56 1,9,0,1⟩,⟨m 11 64,10,0,1⟩,⟨m 12 65,11,0,1⟩]) (S (D [⟨m 67 0,0,0,0⟩,⟨z 68 67,1,0,0⟩,⟨f 69 0 68,2,0,0⟩,⟨l 70 1 69,3,1,0⟩,⟨m 71 7,4,0,0⟩,⟨lg 72 3 4,5,1,0⟩,⟨q3 73 75 70 71 72,6,3,0⟩,⟨m 66 73,7,0,1⟩,⟨ex 74 66 0,8,0,1⟩,⟨ex 75 66 1,9,0,1⟩,⟨m 13 74,10,0,1⟩,⟨m 14 75,11,0,1⟩]) (Q [m 76 11,m 77 13,b 78 .eql 76 77,m 79 78,gt 79 (m 80 12),gt 79 (m 81 14),gt 79 (b 82 .eql 80 81),an 83 79 82,m 6 83])))))),[r 6]⟩
theorem c36:P 36=some C36:=by kernel_rfl
end Go.Cs.Tryz
namespace Go.Cs
open Go
theorem Hp.Ga5{s:Hp}{b:Nat}(h:b<s.blk.length):s.blk[b]?=some s.blk[b]∧s.Gx b=(s.blk[b]).1:=by
 have hx:s.blk[b]?=some s.blk[b]:=Jr h
 exact⟨hx,by unfold Hp.Gx;grind⟩
theorem Hp.GbO{s:Hp}{a r d kd:Int}{x:Ob}(h:x∈(s.place a r d kd).1.objs):x∈s.objs∨∃a id r d k,x=KF a id r d k:=by
 unfold Hp.place at h
 split at h
 ·split at h
  ·rcases GU.1 h with h|h
   ·exact .inr ⟨_,_,_,_,_,h⟩
   ·exact .inl h
  ·exact .inl h
 ·exact .inl h
theorem Hp.Vd{s:Hp}(b n:Int)(fst:Nat)(sp:Int)(ZP:Nat)(Av:Int):(s.claim b n fst sp ZP Av).1.objs=s.objs:=by
 unfold Hp.claim
 split
 ·split<;>rfl
 ·rfl
def used:List (Nat×Nat)→Nat
 |[]=>0
 |x::l=>(if x.1=0 then 0 else 1)+used l
theorem XY:∀(l:List (Nat×Nat))(b:Nat)(x:Nat×Nat),used (l.set b x)≤used l+1
 |[],b,x=>by simp[used]
 |y::l,0,x=>by
  rw[List.set_cons_zero]
  unfold used
  split<;>split<;>omega
 |y::l,b+1,x=>by
  have:=XY l b x
  rw[List.set_cons_succ]
  unfold used
  omega
def Hp.Wj(s:Hp):Prop:=∀o∈s.objs,s.Gx (o.addr/64)=if o.size≤32 then 1 else 2
theorem RO(l:List (Nat×Nat)){b c:Nat}(m:Nat×Nat):∀{n:Nat},(c<b∨b+n≤c)→(KA l b m n)[c]?=l[c]?
 |0,_=>rfl
 |n+1,h=>by rw[KA,KV oM,RO l m oM]
theorem Hp.Wj.place{s:Hp}(h:s.Wj)(a r d kd:Int):(s.place a r d kd).1.Wj:=by
 unfold Hp.place
 split
 ·split
  ·rename_i hf
   intro x hx
   rcases GU.1 hx with rfl|hx
   ·have hsz:(KF a.toNat (s.born+1) r.toNat d.toNat kd.toNat).size=G6 r.toNat d.toNat:=by
     unfold Ob.size KF
     grind
    rw[hsz]
    show s.Gx (a.toNat/64)=_
    unfold Hp.fits at hf
    split at hf
    ·cases hf
    split at hf
    ·rename_i c;rw[if_pos c]
     split at hf
     ·cases hf
     ·omega
    ·rename_i c;rw[if_neg c]
     split at hf
     ·cases hf
     ·omega
   ·exact h x hx
  ·exact h
 ·exact h
theorem Hp.Wj.claim{s:Hp}(h:s.Wj)(b n:Int)(fst:Nat)(sp:Int)(ZP:Nat)(Av:Int):(s.claim b n fst sp ZP Av).1.Wj:=by
 intro x hx
 rw[Hp.Vd]at hx
 have h1:=h x hx
 have h0:s.Gx (x.addr/64)≠0:=by rw[h1];split<;>decide
 rw[←h1]
 unfold Hp.claim
 split
 ·rename_i c
  split
  ·rfl
  ·rename_i d
   have hout:x.addr/64<b.toNat∨b.toNat+n.toNat≤x.addr/64:=by
    rcases VB (x.addr/64) b.toNat with q|q
    ·exact .inl q
    ·rcases VB (x.addr/64) (b.toNat+n.toNat)with q2|q2
     ·exfalso
      have hl:x.addr/64<s.blk.length:=by omega
      apply d
      rw[List.any_eq_true]
      refine⟨s.blk[x.addr/64],?_,?_⟩
      ·rw[List.mem_iff_getElem?]
       refine⟨x.addr/64-b.toNat,?_⟩
       rw[Zx,if_pos oM,Z7,show b.toNat+(x.addr/64-b.toNat)=x.addr/64 by omega,Jr hl]
      ·unfold Hp.Gx at h0
       rw[Bo,Jr hl]at h0
       simpa using .inl h0
     ·exact .inr q2
   unfold Hp.Gx
   dsimp only
   rw[Bo,Bo,KV oM,RO _ _ hout]
 ·rfl
structure Cn(sm:Prop)(nb m:Nat)(s:Hp):Prop where
 len:s.blk.length=nb
 usd:s.Wj
 us:sm→used s.blk≤m
 sml:sm→∀o∈s.objs,s.Gx (o.addr/64)=1∧(o.addr+o.size-1)/64=o.addr/64
theorem Cn.mono{sm:Prop}{nb m m':Nat}{s:Hp}(h:Cn sm nb m s)(hm:m≤m'):Cn sm nb m' s:=⟨h.len,h.usd,fun q=>J2 (h.us q) hm,h.sml⟩
theorem Cn.place{sm:Prop}{nb m:Nat}{s:Hp}(h:Cn sm nb m s){r d kd:Int}(hw:sm→0≤r∧0≤d∧r+d≤20)(a:Int):Cn sm nb m (s.place a r d kd).1:=by
 have hu:=h.usd.place a r d kd
 unfold Hp.place at hu⊢
 split
 ·rename_i c1
  split
  ·rename_i hf
   rw[if_pos c1,if_pos hf]at hu
   refine⟨h.len,hu,h.us,fun q o ho=>?_⟩
   rcases GU.1 ho with rfl|ho
   ·have hwq:=hw q
    have hsz:(KF a.toNat (s.born+1) r.toNat d.toNat kd.toNat).size=G6 r.toNat d.toNat:=by
     unfold Ob.size KF
     grind
    have h32:G6 r.toNat d.toNat≤32:=by unfold G6;omega
    rw[hsz]
    show s.Gx (a.toNat/64)=1∧(a.toNat+_-1)/64=a.toNat/64
    unfold Hp.fits at hf
    omega
   ·exact h.sml q o ho
  ·exact h
 ·exact h
theorem RL{s:Hp}(b n:Int)(fst:Nat)(sp:Int)(ZP:Nat)(Av:Int):(s.claim b n fst sp ZP Av).1.blk.length=s.blk.length:=by
 unfold Hp.claim
 split
 ·split
  ·rfl
  ·dsimp only
   rw[List.length_set,Uj]
 ·rfl
def Hp.Lo(s:Hp):Prop:=s.Gx 0=0∧∀x∈s.objs,64≤x.addr
theorem Hp.Lo.place{s:Hp}(h:s.Lo)(a r d kd:Int):(s.place a r d kd).1.Lo:=by
 unfold Hp.place
 split
 ·split
  ·rename_i hf
   refine⟨h.1,fun x hx=>?_⟩
   rcases GU.1 hx with rfl|hx
   ·show 64≤a.toNat
    rcases VB a.toNat 64 with c|c
    ·have e:a.toNat/64=0:=by omega
     unfold Hp.fits at hf
     rw[e]at hf
     rw[h.1]at hf
     omega
    ·exact c
   ·exact h.2 x hx
  ·exact h
 ·exact h
theorem GaO(l:List (Nat×Nat)){b:Nat}(m:Nat×Nat)(n:Nat)(hb:1≤b):(KA l b m n)[0]?=l[0]?:=by
 induction n with
 |zero=>rfl
 |succ n ih=>rw[KA,KV oM,ih]
theorem Hp.Lo.claim{s:Hp}(h:s.Lo)(b n:Int)(fst:Nat)(sp:Int)(ZP:Nat)(Av:Int):(s.claim b n fst sp ZP Av).1.Lo:=by
 refine⟨?_,fun x hx=>h.2 x (by rw[Hp.Vd]at hx;exact hx)⟩
 unfold Hp.claim
 split
 ·rename_i c
  split
  ·exact h.1
  ·have h1:=h.1
   unfold Hp.Gx at h1⊢
   rw[Bo]at h1⊢
   dsimp only
   rw[KV oM,GaO _ _ _ oM]
   exact h1
 ·exact h.1
theorem Hp.Lo.has{s:Hp}(h:s.Lo):s.has 0=false:=by
 unfold Hp.has
 rw[List.any_eq_false]
 intro x hx e
 have:=h.2 x hx
 simp only[beq_iff_eq]at e
 omega
theorem Cn.Sq{sm:Prop}{nb m:Nat}{s:Hp}(h:Cn sm nb m s){b:Nat}{sp:Int}(h0:s.Gx b=0):Cn sm nb (m+1) (s.claim b 1 1 sp 0 0).1:=by
 refine⟨(RL ..).trans h.len,h.usd.claim _ _ _ _ _ _,fun q=>?_,fun q o ho=>?_⟩
 ·have h1:=h.us q
  unfold Hp.claim
  split
  ·split
   ·dsimp only;omega
   ·rename_i c d
    show used (((s.blk.set (Int.toNat b+0) (0,0)).set (Int.toNat b) (1,sp.toNat)))≤m+1
    rw[Nat.add_zero,List.set_set]
    have:=XY s.blk (Int.toNat b) (1,sp.toNat)
    omega
  ·dsimp only;omega
 ·rw[Hp.Vd]at ho
  have h1:=h.sml q o ho
  refine⟨?_,h1.2⟩
  have hne:o.addr/64≠b:=fun e=>by rw[e,h0]at h1;cases h1.1
  unfold Hp.claim
  split
  ·split
   ·exact h1.1
   ·have h2:=h1.1
    show Hp.Gx {s with blk:=(s.blk.set (Int.toNat b+0) (0,0)).set (Int.toNat b) (1,sp.toNat)} (o.addr/64)=1
    rw[Nat.add_zero,List.set_set]
    unfold Hp.Gx at h2⊢
    grind
  ·exact h1.1
end Go.Cs
namespace Go.Cs.Tryz
open Go Go.Cs
section
variable {H : Gb} {sb : Nat} {s t : Hp} {R T : Rt} {D : UR}
theorem U6{hb:Nat}{L:G5}(p:PH H hb s L)(k:s.Ok){b:Nat}(hb':b<s.blk.length):run P 62 [.ptr hb 0,.i b] H=some (.i (s.Gx b),H):=by
 have h:=Gcj p k b
 obtain⟨hx,e⟩:=Hp.Ga5 hb'
 have e2:Hp.state s (b:Int)=(s.Gx b:Int):=by
  unfold Hp.state
  grind
 rw[e2]at h
 exact h
theorem Geh(m:AO H sb s s R R D)(k:s.Ok)(f:s.Fz)(hb:s.born<1000000000000)(a r d kd:Int):
  ∃(H1 H2:Gb)(D2:UR),run P 120 [.ptr D.qb 0,.i a,.agg (GX r d kd)] H=some (UF (s.place a r d kd).2,H1)∧H1[sb]?=some ⟨[.ptr D.hb 0,.ptr D.rb 0,.ptr D.qb 0,.ptr D.ub 0],.rw,0⟩∧(∀c,c<H.length→¬D.own sb c→H1[c]?=H[c]?)∧
   run P 75 [.ptr D.hb 0,.i a,.agg (GX r d kd)] H1=some (UF (s.place a r d kd).2,H2)∧AO H2 sb (s.place a r d kd).1 (s.place a r d kd).1 R R D2∧Qq sb D H D2 H2:=by
 obtain⟨H1,D1,h1,m1,g1⟩:=m.WT (Gfg m.rh k hb a r d kd)
 obtain⟨H2,h2,m2,g2⟩:=m1.Pv (Bz m1.ph k hb a r d kd)
 rw[g1.same.1]at h2
 exact⟨H1,H2,D1,h1,m1.TB g1,g1.keep,h2,m2,g1.trans g2⟩
theorem Wv(w:HY H sb s R D)(hb:s.born<1000000000000){r d kd sp:Int}(hv:JQ r d kd=true)(hsp:0≤sp∧sp<8):
  ∃s' H' D',run P 36 [.ptr sb 0,.agg (GX r d kd),.i sp] H=some (.bool true,H')∧AO H' sb s' s' R R D'∧Qq sb D H D' H'∧s'.Ok∧s'.Fz∧s'.born≤s.born+1∧(∀x∈s'.objs,x∈s.objs∨∃a id r d k,x=KF a id r d k)∧(s.Lo→s'.Lo)∧(∀(sm:Prop)(nb m:Nat),(sm→0≤r∧0≤d∧r+d≤20)→Cn sm nb m s→Cn sm nb (m+1) s'):=by
 have hnb:=w.k.nb
 have hwb:=QZ r d kd
 have frl:∀n,s.free n≤s.blk.length:=fun n=>Hp.Ml
 obtain⟨X,hX⟩:∃X:Gb,X=H++[⟨GX r d kd,.rw,0⟩]:=⟨_,rfl⟩
 have gX:Gr H X:=by rw[hX];exact Gr.app _ _
 have lX:X[H.length]?=some ⟨GX r d kd,.rw,0⟩:=by rw[hX];simp
 have hno:∀c,D.own sb c→c≠H.length:=fun c h=>by have:=w.m.lt c h;omega
 have mX:=w.m.gr gX
 have tX:=mX.top
 obtain⟨H1,D1,h1,m1,g1⟩:=mX.WT (Ge8 mX.rh w.k w.f r d kd sp)
 have t1:=m1.TB g1
 have l1:H1[H.length]?=some ⟨GX r d kd,.rw,0⟩:=by rw[g1.keep _ (Gf lX) (fun h=>hno _ h rfl),lX]
 have Giq:∀c,D1.own sb c→c≠H.length:=fun c h e=>by
  subst e
  exact hno _ (g1.own _ (Gf lX) h) rfl
 have gXs:Qq sb D H D X:=Qq.gr gX
 have tail:∀(V:Gb)(DV:UR)(s':Hp)(a:Int),AO V sb s' s' R R DV→Qq sb D H DV V→(∀c,DV.own sb c→c≠H.length)→V[H.length]?=some ⟨GX r d kd,.rw,0⟩→s'.Ok→s'.Fz→s'.born=s.born→s'.objs=s.objs→(s.Lo→s'.Lo)→(∀(sm:Prop)(nb m:Nat),(sm→0≤r∧0≤d∧r+d≤20)→Cn sm nb m s→Cn sm nb (m+1) s')→
   ∃(V1 V2:Gb)(D2:UR),run P 120 [.ptr D.qb 0,.i a,.agg [.i r,.i d,.i kd]] V=some (UF (s'.place a r d kd).2,V1)∧V1[sb]?=some ⟨[.ptr D.hb 0,.ptr D.rb 0,.ptr D.qb 0,.ptr D.ub 0],.rw,0⟩∧V1[H.length]?=some ⟨[.i r,.i d,.i kd],.rw,0⟩∧
    run P 75 [.ptr D.hb 0,.i a,.agg [.i r,.i d,.i kd]] V1=some (UF (s'.place a r d kd).2,V2)∧
    ∃s'',AO V2 sb s'' s'' R R D2∧Qq sb D H D2 V2∧s''.Ok∧s''.Fz∧s''.born≤s.born+1∧(∀x∈s''.objs,x∈s.objs∨∃a id r d k,x=KF a id r d k)∧(s.Lo→s''.Lo)∧(∀(sm:Prop)(nb m:Nat),(sm→0≤r∧0≤d∧r+d≤20)→Cn sm nb m s→Cn sm nb (m+1) s''):=fun V DV s' a mV gV oV lV kV fV hbV Yi hlo hcn=>by
  obtain⟨V1,V2,D2,p1,p2,p3,p4,p5,p6⟩:=Geh mV kV fV oM a r d kd
  rw[gV.same.2.2.1]at p1
  rw[gV.same.1]at p4
  rw[gV.same.1,gV.same.2.1,gV.same.2.2.1,gV.same.2.2.2]at p2
  exact⟨V1,V2,D2,p1,p2,by rw[p3 _ (Gf lV) (fun h=>oV _ h rfl)];exact lV,p4,_,p5,gV.trans p6,kV.place oM a r d kd,fV.place a r d kd,by have:=s'.Gby a r d kd;omega,fun x hx=>by rw[←Yi];exact Hp.GbO hx,fun h=>(hlo h).place a r d kd,fun sm nb m hw c=>(hcn sm nb m hw c).place hw a⟩
 have cvE:∀(s':Hp)(a:Int),((s'.place a r d kd).2.1==(s'.place a r d kd).2.1)=true∧((s'.place a r d kd).2.2==(s'.place a r d kd).2.2)=true:=fun s' a=>by simp
 cases hok:(s.first r d kd sp).2.2 with
 |false=>
  rw[hok]at h1
  have hs:(s.first r d kd sp).1=s:=by
   unfold Hp.first at hok⊢
   split
   ·rename_i c
    rw[if_pos c]at hok
    split
    ·rfl
    ·rename_i c2
     rw[if_neg c2]at hok
     exact BP (by simpa using hok)
   ·rename_i c
    rw[if_neg c]at hok
    split
    ·rfl
    ·rename_i c2
     rw[c2]at hok
     dsimp only at hok
     split
     ·rfl
     ·rename_i c3
      rw[if_neg c3]at hok
      exact BP (by simpa using hok)
  rw[hs]at m1
  refine⟨s,H1,D1,?_,m1,gXs.trans g1,w.k,w.f,Nat.le_succ _,fun x h=>.inl h,fun h=>h,fun sm nb m _ c=>c.mono (Nat.le_succ _)⟩
  rw[Gh c36 _ _ sM]
  unfold GX at hX lX h1⊢
  refine Jb ?_
  rw[←hX]
  exact V3 tX lX h1
 |true=>
  rw[hok]at h1
  by_cases cL:32<Gv r d kd
  ·have hF:s.first r d kd sp=((s.claim (s.free ((Gv r d kd+63)/64).toNat) ((Gv r d kd+63)/64) 2 sp 3 sp).1,64*(s.free ((Gv r d kd+63)/64).toNat:Int),(s.claim (s.free ((Gv r d kd+63)/64).toNat) ((Gv r d kd+63)/64) 2 sp 3 sp).2==0):=by
    unfold Hp.first at hok⊢
    grind
   obtain⟨b,hbd⟩:∃b,b=s.free ((Gv r d kd+63)/64).toNat:=⟨_,rfl⟩
   have hbl:=frl ((Gv r d kd+63)/64).toNat
   rw[←hbd]at hF hbl
   rw[hF]at h1 m1 hok
   have hcl:(s.claim b ((Gv r d kd+63)/64) 2 sp 3 sp).2=0:=by simpa using hok
   obtain⟨q1,q2,q3⟩:=BU hcl
   have hst:=U6 m1.ph w.k (b:=b) q3
   rw[g1.same.1,q1]at hst
   obtain⟨X2,y1,g2⟩:=AQ (H:=H1) r d kd
   rw[Gz cL]at y1
   have m2:=m1.gr g2
   have l2:=Gr.get g2 l1
   obtain⟨X3,y2,g3⟩:=Ol (H:=X2) r d kd
   have m3:=m2.gr g3
   have l3:=Gr.get g3 l2
   obtain⟨X4,y3,m4,g4⟩:=m3.Pv (Ii m3.ph w.k b ((Gv r d kd+63)/64) sp)
   rw[g1.same.1,hcl]at y3
   have l4:X4[H.length]?=some ⟨GX r d kd,.rw,0⟩:=by rw[g4.keep _ (Gf l3) (fun h=>Giq _ h rfl),l3]
   have Gcr:Qq sb D H D1 X4:=(((gXs.trans g1).trans (.gr g2)).trans (.gr g3)).trans g4
   have k4:(s.claim b ((Gv r d kd+63)/64) 2 sp 3 sp).1.Ok:=w.k.claim _ _ _ _ oM oM (.inr rfl)
   have f4:(s.claim b ((Gv r d kd+63)/64) 2 sp 3 sp).1.Fz:=w.f.claim _ _ _ oM (.inl oM) _
   have b4:(s.claim b ((Gv r d kd+63)/64) 2 sp 3 sp).1.born=s.born:=by
    unfold Hp.claim
    grind
   obtain⟨V1,V2,D2,p1,p2,p3,p4,s'',p5,p6,p7,p8,p9,p10,p11⟩:=tail X4 D1 _ (64*(b:Int)) m4 Gcr Giq l4 k4 f4 b4 (Hp.Vd ..) (fun h=>h.claim ..) (fun sm nb m hw c=>by
    have hns:¬sm:=fun q=>by
     have:=hw q
     unfold Gv G6 at cL
     split at cL<;>omega
    exact⟨(RL ..).trans c.len,c.usd.claim _ _ _ _ _ _,fun q=>absurd q hns,fun q=>absurd q hns⟩)
   obtain⟨ce1,ce2⟩:=cvE (s.claim b ((Gv r d kd+63)/64) 2 sp 3 sp).1 (64*(b:Int))
   have t2:X2[sb]?=_:=(Gr.get g2 t1)
   have t3:X3[sb]?=_:=(Gr.get g3 t2)
   have t4:=m4.TB Gcr
   have hd:(64*(b:Int)).tdiv 64=(b:Int):=by grind
   have wd:IntKind.i64.wrap (b:Int)=(b:Int):=Gg oM
   refine⟨s'',V2,D2,?_,p5,p6,p7,p8,p9,p10,p11⟩
   rw[Gh c36 _ _ sM]
   unfold GX at hX lX h1 l1 l2 l3 l4 y1 y2⊢
   unfold UF at p1 p4
   refine Jb ?_
   rw[←hX]
   exact V23 tX lX h1 @Ji hd wd t1 hst l1 y1 l2 y2 t2 t3 y3 l4 t4 p1 p2 p3 p4 ce1 ce2
  ·cases hg:s.gap (Gv r d kd) sp with
   |some y=>
    have hF:s.first r d kd sp=(s,((y.1:Nat):Int),true):=by
     unfold Hp.first
     rw[if_neg cL,hg]
    rw[hF]at h1 m1
    obtain⟨q1,q2,q3⟩:=Hp.Iu hg
    have hst:=U6 m1.ph w.k (b:=y.1/64) oM
    rw[g1.same.1,q1]at hst
    obtain⟨V1,V2,D2,p1,p2,p3,p4,s'',p5,p6,p7,p8,p9,p10,p11⟩:=tail H1 D1 s (y.1:Int) m1 (gXs.trans g1) Giq l1 w.k w.f rfl rfl (fun h=>h) (fun sm nb m _ c=>c.mono (Nat.le_succ _))
    obtain⟨ce1,ce2⟩:=cvE s (y.1:Int)
    have hd:((y.1:Nat):Int).tdiv 64=((y.1/64:Nat):Int):=KN _ 64
    have wd:IntKind.i64.wrap ((y.1/64:Nat):Int)=((y.1/64:Nat):Int):=Gg oM
    refine⟨s'',V2,D2,?_,p5,p6,p7,p8,p9,p10,p11⟩
    rw[Gh c36 _ _ sM]
    unfold GX at hX lX h1 l1⊢
    unfold UF at p1 p4
    refine Jb ?_
    rw[←hX]
    exact V15 tX lX h1 @Ji hd wd t1 hst l1 p1 p2 p3 p4 ce1 ce2
   |none=>
    have hF:s.first r d kd sp=((s.claim (s.free 1) 1 1 sp 0 0).1,64*(s.free 1:Int),(s.claim (s.free 1) 1 1 sp 0 0).2==0):=by
     unfold Hp.first at hok⊢
     grind
    have hbl:=frl 1
    generalize s.free 1=b at hF hbl
    rw[hF]at h1 m1 hok
    have hcl:(s.claim b 1 1 sp 0 0).2=0:=by simpa using hok
    obtain⟨q1,q2,q3⟩:=BU hcl
    have hst:=U6 m1.ph w.k (b:=b) q3
    rw[g1.same.1,q1]at hst
    obtain⟨X2,y1,g2⟩:=AQ (H:=H1) r d kd
    rw[Gw cL]at y1
    have m2:=m1.gr g2
    have l2:=Gr.get g2 l1
    obtain⟨X4,y3,m4,g4⟩:=m2.Pv (BZ m2.ph w.k b sp)
    rw[g1.same.1,hcl]at y3
    have l4:X4[H.length]?=some ⟨GX r d kd,.rw,0⟩:=by rw[g4.keep _ (Gf l2) (fun h=>Giq _ h rfl),l2]
    have Gcr:Qq sb D H D1 X4:=((gXs.trans g1).trans (.gr g2)).trans g4
    have k4:(s.claim b 1 1 sp 0 0).1.Ok:=w.k.claim _ _ _ _ oM oM (.inl rfl)
    have f4:(s.claim b 1 1 sp 0 0).1.Fz:=w.f.claim _ _ _ oM (.inr rfl) _
    have b4:(s.claim b 1 1 sp 0 0).1.born=s.born:=by
     unfold Hp.claim
     grind
    obtain⟨V1,V2,D2,p1,p2,p3,p4,s'',p5,p6,p7,p8,p9,p10,p11⟩:=tail X4 D1 _ (64*(b:Int)) m4 Gcr Giq l4 k4 f4 b4 (Hp.Vd ..) (fun h=>h.claim ..) (fun sm nb m _ c=>c.Sq q1)
    obtain⟨ce1,ce2⟩:=cvE (s.claim b 1 1 sp 0 0).1 (64*(b:Int))
    have t2:X2[sb]?=_:=(Gr.get g2 t1)
    have t4:=m4.TB Gcr
    have hd:(64*(b:Int)).tdiv 64=(b:Int):=by grind
    have wd:IntKind.i64.wrap (b:Int)=(b:Int):=Gg oM
    refine⟨s'',V2,D2,?_,p5,p6,p7,p8,p9,p10,p11⟩
    rw[Gh c36 _ _ sM]
    unfold GX at hX lX h1 l1 l2 l4 y1⊢
    unfold UF at p1 p4
    refine Jb ?_
    rw[←hX]
    exact V20 tX lX h1 @Ji hd wd t1 hst l1 y1 t2 y3 l4 t4 p1 p2 p3 p4 ce1 ce2
end
end Go.Cs.Tryz
namespace Go.Cs.Tryz
open Go Go.Cs A
abbrev Gg0:Gn:=S (T [m 223 19,f 224 6 1,l 225 1 224,le 226 225,b 227 .lss 223 226,m 228 227,gt 228 (m 229 19),gt 228 (bk 230 .lss 229 8),an 231 228 230] (J 231 (X 8))) (S (B 9 (T [m 234 9,f 235 6 1,l 236 1 235,m 237 19,x 238 1 236 237,l 239 1 238,e 240 (.conv .i64 (t 239)),bk 241 .rem 240 100,q2 242 38 234 241,m 20 242] (S (D [⟨m 243 9,0,0,0⟩,⟨z 244 243,1,0,0⟩,⟨f 245 2 244,2,0,0⟩,⟨l 246 1 245,3,1,0⟩,⟨m 247 20,4,0,0⟩,⟨q2 248 44 246 247,5,3,0⟩,⟨m 249 9,6,0,0⟩,⟨z 250 249,7,0,0⟩,⟨f 251 0 250,8,0,0⟩,⟨l 252 1 251,9,1,0⟩,⟨m 253 20,10,0,0⟩,⟨q2 254 45 252 253,11,3,1⟩,⟨b 255 .neq 248 254,12,0,2⟩]) (I 255 (Q [e 2 (.Km (c .nilPtr))]))))) (R [m 232 19,bk 233 .add 232 1,m 19 233]))
abbrev Ght:Gn:=S (T [m 192 18,f 193 5 1,l 194 1 193,le 195 194,b 196 .lss 192 195,m 197 196,gt 197 (m 198 18),gt 197 (bk 199 .lss 198 20),an 200 197 199] (J 200 (X 6))) (S (B 7 (S (D [⟨m 211 9,8,0,0⟩,⟨f 212 5 1,9,0,0⟩,⟨l 213 1 212,10,1,0⟩,⟨m 214 18,11,0,0⟩,⟨x 215 2 213 214,12,0,0⟩,⟨e 216 (.NI 2 1 (t 215) (k 1)),13,0,0⟩,⟨l 217 1 216,14,1,0⟩,⟨e 218 (.conv .i64 (t 217)),15,0,0⟩,⟨bk 219 .rem 218 100,16,0,0⟩,⟨q2 220 38 211 219,17,3,0⟩,⟨m 203 9,0,0,0⟩,⟨f 204 5 1,1,0,0⟩,⟨l 205 1 204,2,1,0⟩,⟨m 206 18,3,0,0⟩,⟨x 207 2 205 206,4,0,0⟩,⟨e 208 (.NI 2 1 (t 207) (k 0)),5,0,0⟩,⟨l 209 1 208,6,1,0⟩,⟨e 210 (.conv .i64 (t 209)),7,0,0⟩,⟨q3 221 43 203 210 220,18,3,1⟩,⟨no 222 221,19,0,2⟩]) (I 222 (Q [e 2 (.Km (c .nilPtr))])))) (R [m 201 18,bk 202 .add 201 1,m 18 202]))
abbrev Gir:Gn:=S (T [m 136 13,f 137 4 1,l 138 1 137,le 139 138,b 140 .lss 136 139,m 141 140,gt 141 (m 142 13),gt 141 (bk 143 .lss 142 120),an 144 141 143] (J 144 (X 4))) (S (B 5 (T [f 147 4 1,l 148 1 147,m 149 13,x 150 3 148 149,lg 151 3 150,e 14 (.new [.int .u8 0,.int .u8 0,.int .u8 0]),st 3 14 151] (T [m 152 9,e 153 (.NI 3 1 (t 14) (k 0)),l 154 1 153,e 155 (.conv .i64 (t 154)),bk 156 .rem 155 100,q2 157 38 152 156,m 15 157] (T [m 159 9,z 160 159,f 161 2 160,l 162 1 161,m 163 15,q2 164 41 162 163,m 158 164,ex 165 158 0,ex 166 158 1,e 16 (.new [i 0,i 0,i 0]),st 3 16 165,m 17 166] (S (D [⟨m 167 17,0,0,0⟩,⟨bk 168 .eql 167 0,1,0,0⟩,⟨m 169 168,2,0,0⟩,⟨gt 169 (f 170 0 16),3,0,0⟩,⟨gt 169 (l 171 1 170),4,1,0⟩,⟨gt 169 (bk 172 .gtr 171 0),5,0,0⟩,⟨an 173 169 172,6,0,0⟩,⟨m 174 173,7,0,0⟩,⟨gt 174 (m 183 9),16,0,0⟩,⟨gt 174 (e 184 (.NI 3 1 (t 14) (k 2))),17,0,0⟩,⟨gt 174 (l 185 1 184),18,1,0⟩,⟨gt 174 (e 186 (.conv .i64 (t 185))),19,0,0⟩,⟨gt 174 (bk 187 .rem 186 100),20,0,0⟩,⟨gt 174 (q2 188 38 183 187),21,3,0⟩,⟨gt 174 (m 175 9),8,0,0⟩,⟨gt 174 (m 176 15),9,0,0⟩,⟨gt 174 (e 177 (.NI 3 1 (t 14) (k 1))),10,0,0⟩,⟨gt 174 (l 178 1 177),11,1,0⟩,⟨gt 174 (e 179 (.conv .i64 (t 178))),12,0,0⟩,⟨gt 174 (f 180 0 16),13,0,0⟩,⟨gt 174 (l 181 1 180),14,1,0⟩,⟨gt 174 (b 182 .rem 179 181),15,0,0⟩,⟨gt 174 (q4 189 42 175 176 182 188),22,3,1⟩,⟨gt 174 (no 190 189),23,0,2⟩,⟨an 191 174 190,24,0,2⟩]) (I 191 (Q [e 2 (.Km (c .nilPtr))]))))))) (R [m 145 13,bk 146 .add 145 1,m 13 146]))
abbrev GfY:Gn:=S (T [m 103 11,f 104 3 1,l 105 1 104,le 106 105,b 107 .lss 103 106,m 108 107,gt 108 (m 109 11),gt 108 (bk 110 .lss 109 20),an 111 108 110] (J 111 (X 2))) (S (B 3 (T [m 114 9,f 115 3 1,l 116 1 115,m 117 11,x 118 1 116 117,l 119 1 118,e 120 (.conv .i64 (t 119)),bk 121 .rem 120 100,q2 122 38 114 121,m 12 122] (S (D [⟨m 123 9,0,0,0⟩,⟨z 124 123,1,0,0⟩,⟨f 125 2 124,2,0,0⟩,⟨l 126 1 125,3,1,0⟩,⟨m 127 12,4,0,0⟩,⟨q2 128 39 126 127,5,3,0⟩,⟨m 129 9,6,0,0⟩,⟨z 130 129,7,0,0⟩,⟨f 131 0 130,8,0,0⟩,⟨l 132 1 131,9,1,0⟩,⟨m 133 12,10,0,0⟩,⟨q2 134 40 132 133,11,3,1⟩,⟨b 135 .neq 128 134,12,0,2⟩]) (I 135 (Q [e 2 (.Km (c .nilPtr))]))))) (R [m 112 11,bk 113 .add 112 1,m 11 113]))
abbrev GfD:Gn:=S (T [m 75 10,f 76 2 1,l 77 1 76,le 78 77,b 79 .lss 75 78,m 80 79,gt 80 (m 81 10),gt 80 (bk 82 .lss 81 40),an 83 80 82] (J 83 (X 0))) (S (B 1 (S (D [⟨f 87 2 1,1,0,0⟩,⟨l 88 1 87,2,1,0⟩,⟨m 89 10,3,0,0⟩,⟨x 90 4 88 89,4,0,0⟩,⟨lg 91 4 90,5,1,0⟩,⟨q1 92 37 91,6,3,0⟩,⟨m 86 9,0,0,0⟩,⟨f 93 2 1,7,0,0⟩,⟨l 94 1 93,8,1,0⟩,⟨m 95 10,9,0,0⟩,⟨x 96 4 94 95,10,0,0⟩,⟨e 97 (.NI 4 1 (t 96) (k 3)),11,0,0⟩,⟨l 98 1 97,12,1,0⟩,⟨e 99 (.conv .i64 (t 98)),13,0,0⟩,⟨bk 100 .rem 99 3,14,0,0⟩,⟨q3 101 36 86 92 100,15,3,1⟩,⟨no 102 101,16,0,2⟩]) (I 102 (Q [e 2 (.Km (c .nilPtr))])))) (R [m 84 10,bk 85 .add 84 1,m 10 85]))
def C8:Gj:=⟨257,0,T [bo 1 0,e 2 (.Km (c .nilPtr))] (S (D [⟨f 21 0 1,0,0,0⟩,⟨l 22 1 21,1,1,0⟩,⟨e 23 (.conv .i64 (t 22)),2,0,0⟩,⟨bk 24 .rem 23 23,3,0,0⟩,⟨e 25 (.bin .add (k 2) (t 24)),4,0,0⟩,⟨f 26 1 1,5,0,0⟩,⟨l 27 1 26,6,1,0⟩,⟨e 28 (.conv .i64 (t 27)),7,0,0⟩,⟨bk 29 .rem 28 4,8,0,0⟩,⟨e 30 (.bin .add (k 1) (t 29)),9,0,0⟩,⟨m 3 25,10,0,0⟩,⟨m 4 30,11,0,0⟩]) (T [m 32 3,q1 33 32 32,m 31 33,ex 34 31 0,ex 35 31 1,m 5 34,m 6 35] (T [m 37 4,q1 38 33 37,m 36 38,ex 39 36 0,ex 40 36 1,m 7 39,m 8 40] (S (T [m 41 5,e 42 (.eqv false 1 (t 41) (c .nilPtr)),m 43 42,gf 43 (m 44 7),gf 43 (e 45 (.eqv false 1 (t 44) (c .nilPtr))),or 46 43 45,m 47 46,gf 47 (m 48 6),gf 47 (bk 49 .neq 48 0),or 50 47 49,m 51 50,gf 51 (m 52 8),gf 51 (bk 53 .neq 52 0),or 54 51 53] (I 54 (Q [e 2 (.Km (c .nilPtr))]))) (T [m 55 5,m 56 7,e 57 (.build [.nilPtr,.nilPtr,.nilPtr,.nilPtr] [(0,1,t 55),(1,1,t 56)]),bo 58 57,m 9 58] (T [m 60 9,m 61 3,q1 62 34 61,m 59 62,ex 63 59 0,ex 64 59 1,z 65 60,f 66 2 65,st 1 66 63] (T [m 68 9,m 69 4,q1 70 35 69,m 67 70,ex 71 67 0,ex 72 67 1,z 73 68,f 74 3 73,st 1 74 71] (S (T [n 10 0] (B 0 (W GfD))) (S (T [n 11 0] (B 2 (W GfY))) (S (T [n 13 0] (B 4 (W Gir))) (S (T [n 18 0] (B 6 (W Ght))) (S (T [n 19 0] (B 8 (W Gg0))) (Q [m 256 9,m 2 256]))))))))))))),[r 2]⟩
theorem c8:P 8=some C8:=by kernel_rfl
end Go.Cs.Tryz
namespace Go.Cs
open Go
def U8R(n:Nat)(rs:List (List CV)):Prop:=∀r∈rs,∃zs:List Int,zs.length=n∧r=u8s zs∧∀z∈zs,0≤z∧z≤255
theorem U8R.at{n:Nat}{rs:List (List CV)}(h:U8R n rs){i:Nat}{r:List CV}(hi:rs[i]?=some r):∃zs:List Int,zs.length=n∧r=u8s zs∧∀z∈zs,0≤z∧z≤255:=h r (JV hi)
theorem Hp.GaP{s:Hp}(a i to:Int):(s.setRef a i to).1.blk=s.blk∧(s.setRef a i to).1.born=s.born:=by
 unfold Hp.setRef
 split
 ·split
  ·split<;>exact⟨rfl,rfl⟩
  ·exact⟨rfl,rfl⟩
 ·exact⟨rfl,rfl⟩
def Bare(s:Hp)(R:Rt):Prop:=(∀o∈s.objs,∀x∈o.refs,x=0)∧(∀v∈R.vals,v=0)∧s.Lo
def Iz(s:Hp)(R:Rt):Prop:=(∀o∈s.objs,∀x∈o.refs,x=0∨s.has x=true)∧(∀v∈R.vals,v=0∨s.has v=true)∧s.Lo
theorem Bare.snd{s:Hp}{R:Rt}(h:Bare s R):Iz s R:=⟨fun o ho x hx=>.inl (h.1 o ho x hx),fun v hv=>.inl (h.2.1 v hv),h.2.2⟩
theorem Hp.Lo.kill{s:Hp}(h:s.Lo)(a:Int):(s.kill a).1.Lo:=by
 unfold Hp.kill
 split
 ·exact⟨h.1,fun x hx=>h.2 x (Hp.GV.1 hx).1⟩
 ·exact h
theorem Hp.Lo.upd{s:Hp}(h:s.Lo){a:Nat}{f:Ob→Ob}(t:∀x∈s.objs,x.addr=a→NK f x):(s.upd a f).Lo:=by
 refine⟨h.1,fun x hx=>?_⟩
 simp only[Hp.upd,KI]at hx
 obtain⟨y,hy,rfl⟩:=hx
 split
 ·rename_i c
  rw[(t y hy c).addr];exact h.2 y hy
 ·exact h.2 y hy
theorem Bare.kill{s:Hp}{R:Rt}(h:Bare s R)(a:Int):Bare (s.kill a).1 R:=by
 refine⟨fun o ho=>h.1 o ?_,h.2.1,h.2.2.kill a⟩
 unfold Hp.kill at ho
 split at ho
 ·exact(Hp.GV.1 ho).1
 ·exact ho
theorem Iz.upd{s:Hp}{R:Rt}(h:Iz s R){a:Nat}{f:Ob→Ob}(t:∀x∈s.objs,x.addr=a→NK f x)(hf:∀x∈s.objs,∀y∈(f x).refs,y∈x.refs∨y=0∨s.has y=true):Iz (s.upd a f) R:=by
 have hh:=Hp.Gcu (s:=s) t
 refine⟨fun o ho x hx=>?_,fun v hv=>by rw[hh];exact h.2.1 v hv,h.2.2.upd t⟩
 rw[hh]
 simp only[Hp.upd,KI]at ho
 obtain⟨y,hy,rfl⟩:=ho
 split at hx
 ·rcases hf y hy x hx with h1|h1
  ·exact h.1 y hy x h1
  ·exact h1
 ·exact h.1 y hy x hx
theorem Iz.setRef{s:Hp}{R:Rt}(h:Iz s R)(a i to:Int):Iz (s.setRef a i to).1 R:=by
 unfold Hp.setRef
 split
 ·split
  ·split
   ·rename_i c
    exact h.upd (fun x _ _=>Yk _ _ x) fun x hx y hy=>by
     grind
   ·exact h
  ·exact h
 ·exact h
theorem Iz.J8{s:Hp}{R:Rt}(h:Iz s R)(a:Int)(v:Bool):Iz (s.J8 a v).1 R:=by
 unfold Hp.J8
 split
 ·exact h.upd (fun x _ _=>⟨rfl,rfl,rfl,rfl,rfl⟩) fun x hx y hy=>.inl hy
 ·exact h
theorem Cn.kill{sm:Prop}{nb m:Nat}{s:Hp}(h:Cn sm nb m s)(a:Int):Cn sm nb m (s.kill a).1:=by
 unfold Hp.kill
 split
 ·exact⟨h.len,fun x hx=>h.usd x (Hp.GV.1 hx).1,h.us,fun q x hx=>h.sml q x (Hp.GV.1 hx).1⟩
 ·exact h
theorem Cn.upd{sm:Prop}{nb m:Nat}{s:Hp}(h:Cn sm nb m s){a:Nat}{f:Ob→Ob}(t:∀x∈s.objs,x.addr=a→NK f x):Cn sm nb m (s.upd a f):=by
 refine⟨h.len,fun x hx=>?_,h.us,fun q x hx=>?_⟩
 ·simp only[Hp.upd,KI]at hx
  obtain⟨y,hy,rfl⟩:=hx
  have h1:=h.usd y hy
  split
  ·rename_i c
   have tt:=t y hy c
   have es:(f y).size=y.size:=by unfold Ob.size;rw[tt.nr,tt.nd]
   rw[tt.addr,es];exact h1
  ·exact h1
 simp only[Hp.upd,KI]at hx
 obtain⟨y,hy,rfl⟩:=hx
 have h1:=h.sml q y hy
 split
 ·rename_i c
  have tt:=t y hy c
  have es:(f y).size=y.size:=by unfold Ob.size;rw[tt.nr,tt.nd]
  rw[tt.addr,es];exact h1
 ·exact h1
theorem Cn.setRef{sm:Prop}{nb m:Nat}{s:Hp}(h:Cn sm nb m s)(a i to:Int):Cn sm nb m (s.setRef a i to).1:=by
 unfold Hp.setRef
 split
 ·split
  ·split
   ·exact h.upd fun x _ _=>Yk _ _ x
   ·exact h
  ·exact h
 ·exact h
theorem Cn.J8{sm:Prop}{nb m:Nat}{s:Hp}(h:Cn sm nb m s)(a:Int)(v:Bool):Cn sm nb m (s.J8 a v).1:=by
 unfold Hp.J8
 split
 ·exact h.upd fun x _ _=>⟨rfl,rfl,rfl,rfl,rfl⟩
 ·exact h
def VT(sm:Prop)(nb m:Nat)(s:Hp)(R:Rt):Prop:=Bare s R∧Cn sm nb m s
def AX(sm:Prop)(nb m:Nat)(s:Hp)(R:Rt):Prop:=Iz s R∧Cn sm nb m s
structure Ny(Q:Hp→Rt→Prop)(c0:Nat)(H0:Gb)(sb:Nat)(n:Nat)(H:Gb):Prop where
 ex:∃s R D,HY H sb s R D∧(∀c,D.own sb c→c0≤c)∧s.born≤n∧Q s R
 len:c0≤H.length
 keep:∀c,c<c0→H[c]?=H0[c]?
theorem Ny.step{Q Q':Hp→Rt→Prop}{c0 n n':Nat}{H0 H H':Gb}{sb:Nat}{s':Hp}{R':Rt}{D D':UR}(a:Ny Q c0 H0 sb n H)(hd:∀c,D.own sb c→c0≤c)(g:Qq sb D H D' H')(w:HY H' sb s' R' D')(hb:s'.born≤n')(hq:Q' s' R'):Ny Q' c0 H0 sb n' H' where
 ex:=⟨s',R',D',w,fun c h=>by
  by_cases hc:c<H.length
  ·exact hd c (g.own c hc h)
  ·have:=a.len;omega,hb,hq⟩
 len:=J2 a.len g.len
 keep:=fun c hc=>by
  rw[g.keep c (by have:=a.len;omega) fun h=>by have:=hd c h;omega,a.keep c hc]
theorem Ny.gr{Q:Hp→Rt→Prop}{c0 n:Nat}{H0 H H':Gb}{sb:Nat}(a:Ny Q c0 H0 sb n H)(g:Gr H H'):Ny Q c0 H0 sb n H':=by
 obtain⟨s,R,D,w,hd,hb,hq⟩:=a.ex
 exact a.step hd (Qq.gr g) ⟨w.m.gr g,w.k,w.f,w.kr⟩ hb hq
theorem Ny.snd{c0 n:Nat}{H0 H:Gb}{sb:Nat}{sm:Prop}{nb m:Nat}(a:Ny (VT sm nb m) c0 H0 sb n H):Ny (AX sm nb m) c0 H0 sb n H:=by
 obtain⟨s,R,D,w,hd,hb,hq⟩:=a.ex
 exact⟨⟨s,R,D,w,hd,hb,hq.1.snd,hq.2⟩,a.len,a.keep⟩
theorem Sl.low{H0 H:Gb}{v:CV}{e c0:Nat}{rs:List (List CV)}(h:Sl H0 v e rs)(hv:Gp v<c0)(hk:∀c,c<c0→H[c]?=H0[c]?):Sl H v e rs:=
 h.mono fun b k hb _ he=>by grind
theorem Sl.row{H:Gb}{v:CV}{n:Nat}{rs:List (List CV)}(h:Sl H v n rs)(hn:0<n){j:Nat}{zs:List Int}(hi:rs[j]?=some (u8s zs)):
  ∃o,(∀X,JM n v (.i j) X=some (.ptr (Gp v) o,X))∧Qh n v (.i j)=okV (.ptr (Gp v) o)∧∀Y:Gb,Y[Gp v]?=H[Gp v]?→Ba Y[Gp v]? o n=some (u8s zs)∧∀i x,zs[i]?=some x→ld Y[Gp v]? (o+i)=some (.int .u8 x):=by
 rcases h with⟨rfl,-⟩|⟨b,f,c,t,k,rfl,h1,h2,h3⟩
 ·simp at hi
 ·have hl:=Gf hi
  obtain⟨q1,q2⟩:=h3 j _ hi
  refine⟨f+j*n,fun X=>?_,?_,fun Y hY=>?_⟩
  ·rw[Qd oM];simp;rfl
  ·rw[Nv oM];simp;rfl
  ·have hlen:f+j*n+n≤k.cells.length:=by
    grind
   have hYb:Y[b]?=some k:=hY.trans h1
   show Ba Y[b]? _ _=_∧∀i x,_→ld Y[b]? _=_
   rw[hYb]
   obtain⟨cs,md,z⟩:=k
   have hx:∀i x,zs[i]?=some x→cs[f+j*n+i]?=some (.int .u8 x):=fun i x hx=>by
    have:=congrArg (fun r=>r[i]?) q1
    have hin:i<n:=by have:=Gf hx;simp[u8s]at q2;omega
    simp only[Zx,if_pos hin,Z7,u8s,Kr,hx,Option.map_some]at this
    exact this
   rcases h2 with rfl|rfl
   ·exact⟨by rw[Qg,if_pos hlen,q1],fun i x h=>by rw[Ym];exact hx i x h⟩
   ·exact⟨by rw[GbB,if_pos hlen,q1],fun i x h=>by rw[Gla];exact hx i x h⟩
end Go.Cs
namespace Go.Cs.Tryz
open Go Go.Cs
section
variable {H0 H : Gb} {sb c0 b1 : Nat} {bl mu : Int} {v2 v3 v4 v5 v6 : CV} {sm : Prop} {nb m : Nat}
theorem Gkv{n0:Nat}(hn0:n0≤1000)(a:Ny (VT sm nb m) c0 H0 sb n0 H)(hb1:b1<c0)(hB:H0[b1]?=some ⟨[.int .u8 bl,.int .u8 mu,v2,v3,v4,v5,v6],.rw,0⟩)
  {rs:List (List CV)} (hs:Sl H0 v2 4 rs) (hv:Gp v2<c0) (hu:U8R 4 rs) (hsm:sm→∀zs,u8s zs∈rs→zs.getD 0 0 % 8≠7)
  {E0:Env} (h1:E0 1=.ptr b1 0) (h9:E0 9=.ptr sb 0) (h10:E0 10=.i 0) {r:Option (CX×Env×Gb)} (hr:den P (.loop GfD) E0 H=r):
  ∃E' H',r=some (.exit 0,E',H')∧Ny (VT sm nb (m+rs.length)) c0 H0 sb (n0+40) H'∧∀t,t∉wr GfD→E' t=E0 t:=by
 obtain⟨x',E',H',e,-,⟨rfl,a'⟩,fr⟩:=Gq (p:=P) (c:=GfD) (E0:=E0) (H0:=H)
  (fun q E H'=>∃j:Nat,E 10=.i j∧(j≤40∧j≤rs.length)∧q=40-j∧Ny (VT sm nb (m+j)) c0 H0 sb (n0+j) H')
  (fun x E' H'=>x=.exit 0∧Ny (VT sm nb (m+rs.length)) c0 H0 sb (n0+40) H') (by
   rintro q E H' hE ⟨j,e10,hj,rfl,aj⟩
   have e1:=(hE 1 dK).trans h1
   have e9:=(hE 9 dK).trans h9
   have tB:H'[b1]?=_:=(aj.keep b1 hb1).trans hB
   have hs':=hs.low hv aj.keep
   have hl:=hs'.len H'
   have done:∀i,i≤40∧i≤rs.length→Ny (VT sm nb (m+i)) c0 H0 sb (n0+i) H'→Ny (VT sm nb (m+rs.length)) c0 H0 sb (n0+40) H':=fun i hm am=>by
    obtain⟨s,R,D,w,hd,hb,hq⟩:=am.ex
    exact⟨⟨s,R,D,w,hd,oM,hq.1,hq.2.mono oM⟩,am.len,am.keep⟩
   by_cases c:j<rs.length
   ·have c':decide ((j:Int)<(rs.length:Int))=true:=Gz oM
    by_cases c2:j<40
    ·have c2':decide ((j:Int)<40)=true:=Gz oM
     obtain⟨row,hrow⟩:∃row,rs[j]?=some row:=⟨_,Jr c⟩
     obtain⟨zs,hz,rfl,hzb⟩:=hu.at hrow
     match zs,hz with
     |[x0,x1,x2,x3],_=>
      have z0:=hzb x0 sM
      have z1:=hzb x1 sM
      have z2:=hzb x2 sM
      have z3:=hzb x3 sM
      obtain⟨vo,hml,hmi,ldY⟩:=hs'.row oM hrow
      obtain⟨l4,l3'⟩:=ldY H' rfl
      have l3:=l3' 3 x3 rfl
      obtain⟨rr,dd,kk,X1,s1,g1,hval,Guv⟩:=Xy (H:=H') (x3:=x3) z0 z1 z2
      obtain⟨s,R,D,w,hd,hb,hq⟩:=aj.ex
      have w1:HY X1 sb s R D:=⟨w.m.gr g1,w.k,w.f,w.kr⟩
      obtain⟨s',H2,D2,p1,p2,p3,p4,p5,p6,p7,p8,p9⟩:=Wv w1 oM (sp:=x3 % 3) hval oM
      have k1:∀c,c<c0→X1[c]?=H'[c]?:=fun c hc=>g1.keep c (by have:=aj.len;omega) fun h=>h
      have tB1:X1[b1]?=_:=(k1 b1 hb1).trans tB
      have l31:=(ldY X1 (k1 _ hv)).2 3 x3 rfl
      have a2:Ny (VT sm nb (m+(j+1))) c0 H0 sb (n0+(j+1)) H2:=(aj.gr g1).step hd p3 ⟨p2,p4,p5,w.kr⟩ oM ⟨⟨fun o ho x hx=>by
       rcases p7 o ho with h|⟨_,_,_,_,_,rfl⟩
       ·exact hq.1.1 o h x hx
       ·exact(List.mem_replicate.1 hx).2,hq.1.2.1,p8 hq.1.2.2⟩,p9 sm nb (m+j) (fun q=>Guv (hsm q _ (JV hrow))) hq.2⟩
      have w3:IntKind.i64.wrap x3=x3:=Gg oM
      have e3:x3.tmod 3=x3 % 3:=Int.tmod_eq_emod_of_nonneg oM
      have wj:IntKind.i64.wrap ((j:Int)+1)=((j+1:Nat):Int):=Gg oM
      unfold u8s at s1 l4
      unfold GX at s1 p1
      simp only[List.map_cons,List.map_nil]at s1 l4
      apply Gm (k':=40-(j+1))
      ·refine W22 e1 e9 e10 tB hl c' c2' hmi l4 s1 tB1 @AL @YU @VK @VU l3 l31 w3 @Ns e3 p1 wj ?_
       rfl
      ·omega
      ·exact⟨j+1,uA,oM,rfl,a2⟩
    ·have c2':decide ((j:Int)<40)=false:=Gw oM
     apply Gi (x:=.exit 0)
     ·refine Jb ?_
      rfl
     ·simp
     ·exact⟨rfl,done j hj aj⟩
   ·have c':decide ((j:Int)<(rs.length:Int))=false:=Gw oM
    apply Gi (x:=.exit 0)
    ·refine Jb ?_
     rfl
    ·simp
    ·exact⟨rfl,done j hj aj⟩) _ ⟨0,h10,oM,rfl,by simpa using a⟩
 grind
theorem Gkr{n0:Nat}(hn0:n0≤1000)(a:Ny (VT sm nb m) c0 H0 sb n0 H)(hb1:b1<c0)(hB:H0[b1]?=some ⟨[.int .u8 bl,.int .u8 mu,v2,v3,v4,v5,v6],.rw,0⟩)
  {rs:List (List CV)} (hs:Sl H0 v3 1 rs) (hv:Gp v3<c0) (hu:U8R 1 rs)
  {E0:Env} (h1:E0 1=.ptr b1 0) (h9:E0 9=.ptr sb 0) (h11:E0 11=.i 0) {r:Option (CX×Env×Gb)} (hr:den P (.loop GfY) E0 H=r):
  ∃E' H',r=some (.exit 2,E',H')∧Ny (VT sm nb m) c0 H0 sb n0 H'∧∀t,t∉wr GfY→E' t=E0 t:=by
 obtain⟨x',E',H',e,-,⟨rfl,a'⟩,fr⟩:=Gq (p:=P) (c:=GfY) (E0:=E0) (H0:=H)
  (fun q E H'=>∃j:Nat,E 11=.i j∧j≤20∧q=20-j∧Ny (VT sm nb m) c0 H0 sb n0 H')
  (fun x E' H'=>x=.exit 2∧Ny (VT sm nb m) c0 H0 sb n0 H') (by
   rintro q E H' hE ⟨j,e11,hj,rfl,aj⟩
   have e1:=(hE 1 dK).trans h1
   have e9:=(hE 9 dK).trans h9
   have tB:H'[b1]?=_:=(aj.keep b1 hb1).trans hB
   have hs':=hs.low hv aj.keep
   have hl:=hs'.len H'
   by_cases c:j<rs.length
   ·have c':decide ((j:Int)<(rs.length:Int))=true:=Gz oM
    by_cases c2:j<20
    ·have c2':decide ((j:Int)<20)=true:=Gz oM
     obtain⟨row,hrow⟩:∃row,rs[j]?=some row:=⟨_,Jr c⟩
     obtain⟨zs,hz,rfl,hzb⟩:=hu.at hrow
     match zs,hz with
     |[x0],_=>
      have z0:=hzb x0 sM
      obtain⟨vo,hml,hmi,ldY⟩:=hs'.row oM hrow
      have l0:=(ldY H' rfl).2 0 x0 rfl
      rw[Nat.add_zero]at l0
      obtain⟨s,R,D,w,hd,hb,hq⟩:=aj.ex
      have w3:IntKind.i64.wrap x0=x0:=Gg oM
      have e3:x0.tmod 100=x0 % 100:=Int.tmod_eq_emod_of_nonneg oM
      obtain⟨ad,q1,q2,q3,q4⟩:=Yt w.m w.k (n:=x0 % 100) oM
      obtain⟨H1,D1,p1,m1,g1⟩:=w.m.WT (GhG w.m.rh w.k ad)
      obtain⟨H2,p2,m2,g2⟩:=m1.Pv (PY m1.ph w.k ad oM)
      have t0:=w.m.top
      have t1:=m1.TB g1
      rw[g1.same.1]at p2
      have e:((s.kill ad).2 != (s.kill ad).2)=false:=by simp
      have kk:(s.kill ad).1.Ok:=w.k.kill ad
      have ff:(s.kill ad).1.Fz:=by unfold Hp.kill;split<;>exact w.f
      have bb:(s.kill ad).1.born≤n0:=by unfold Hp.kill;split<;>exact hb
      have a2:Ny (VT sm nb m) c0 H0 sb n0 H2:=aj.step hd (g1.trans g2) ⟨m2,kk,ff,w.kr⟩ bb ⟨hq.1.kill ad,hq.2.kill ad⟩
      have wj:IntKind.i64.wrap ((j:Int)+1)=((j+1:Nat):Int):=Gg oM
      apply Gm (k':=20-(j+1))
      ·refine WX ?_
       rfl
      ·omega
      ·exact⟨j+1,uA,oM,rfl,a2⟩
    ·have c2':decide ((j:Int)<20)=false:=Gw oM
     apply Gi (x:=.exit 2)
     ·refine Jb ?_
      rfl
     ·simp
     ·exact⟨rfl,aj⟩
   ·have c':decide ((j:Int)<(rs.length:Int))=false:=Gw oM
    apply Gi (x:=.exit 2)
    ·refine Jb ?_
     rfl
    ·simp
    ·exact⟨rfl,aj⟩) _ ⟨0,h11,oM,rfl,a⟩
 grind
theorem GjC{n0:Nat}(hn0:n0≤1000)(a:Ny (AX sm nb m) c0 H0 sb n0 H)(hb1:b1<c0)(hB:H0[b1]?=some ⟨[.int .u8 bl,.int .u8 mu,v2,v3,v4,v5,v6],.rw,0⟩)
  {rs:List (List CV)} (hs:Sl H0 v4 3 rs) (hv:Gp v4<c0) (hu:U8R 3 rs)
  {E0:Env} (h1:E0 1=.ptr b1 0) (h9:E0 9=.ptr sb 0) (WA:E0 13=.i 0) {r:Option (CX×Env×Gb)} (hr:den P (.loop Gir) E0 H=r):
  ∃E' H',r=some (.exit 4,E',H')∧Ny (AX sm nb m) c0 H0 sb n0 H'∧∀t,t∉wr Gir→E' t=E0 t:=by
 obtain⟨x',E',H',e,-,⟨rfl,a'⟩,fr⟩:=Gq (p:=P) (c:=Gir) (E0:=E0) (H0:=H)
  (fun q E H'=>∃j:Nat,E 13=.i j∧j≤120∧q=120-j∧Ny (AX sm nb m) c0 H0 sb n0 H')
  (fun x E' H'=>x=.exit 4∧Ny (AX sm nb m) c0 H0 sb n0 H') (by
   rintro q E H' hE ⟨j,e13,hj,rfl,aj⟩
   have e1:=(hE 1 dK).trans h1
   have e9:=(hE 9 dK).trans h9
   have tB:H'[b1]?=_:=(aj.keep b1 hb1).trans hB
   have hs':=hs.low hv aj.keep
   have hl:=hs'.len H'
   have wj:IntKind.i64.wrap ((j:Int)+1)=((j+1:Nat):Int):=Gg oM
   by_cases c:j<rs.length
   ·have c':decide ((j:Int)<(rs.length:Int))=true:=Gz oM
    by_cases c2:j<120
    ·have c2':decide ((j:Int)<120)=true:=Gz oM
     obtain⟨row,hrow⟩:∃row,rs[j]?=some row:=⟨_,Jr c⟩
     obtain⟨zs,hz,rfl,hzb⟩:=hu.at hrow
     match zs,hz with
     |[x0,x1,x2],_=>
      have z0:=hzb x0 sM
      have z1:=hzb x1 sM
      have z2:=hzb x2 sM
      obtain⟨vo,hml,hmi,ldY⟩:=hs'.row oM hrow
      obtain⟨l4,-⟩:=ldY H' rfl
      unfold u8s at l4
      simp only[List.map_cons,List.map_nil]at l4
      obtain⟨Y,hY⟩:∃Y:Gb,Y=H'++[⟨[.int .u8 x0,.int .u8 x1,.int .u8 x2],.rw,0⟩]:=⟨_,rfl⟩
      have gY:Gr H' Y:=by rw[hY];exact Gr.app _ _
      have lY:Y[H'.length]?=some ⟨[.int .u8 x0,.int .u8 x1,.int .u8 x2],.rw,0⟩:=by rw[hY];simp
      obtain⟨s,R,D,w,hd,hb,hq⟩:=aj.ex
      have mY:=w.m.gr gY
      have w0:IntKind.i64.wrap x0=x0:=Gg oM
      have w1:IntKind.i64.wrap x1=x1:=Gg oM
      have w2:IntKind.i64.wrap x2=x2:=Gg oM
      have e30:x0.tmod 100=x0 % 100:=Int.tmod_eq_emod_of_nonneg oM
      have e32:x2.tmod 100=x2 % 100:=Int.tmod_eq_emod_of_nonneg oM
      obtain⟨ad,q1,q2,q3,q4⟩:=Yt mY w.k (n:=x0 % 100) oM
      have tY:=mY.top
      obtain⟨X1,s1,g1⟩:=GeC mY.rh w.k ad
      have m1:=mY.gr g1
      have GD:=Gr.get g1 lY
      obtain⟨sr,sd,sk,se,hsh,hse⟩:∃sr sd sk se,s.JI ad=(GX sr sd sk,se)∧(se=0→0≤sr∧sr≤15):=by
       unfold Hp.JI
       cases ho:s.obj ad with
       |none=>grind
       |some o=>
        have:=(w.k.ob o (Hp.Jf ho).1).nr
        grind
      rw[hsh]at s1
      obtain⟨Z,hZ⟩:∃Z:Gb,Z=X1++[⟨[.i sr,.i sd,.i sk],.rw,0⟩]:=⟨_,rfl⟩
      have gZ:Gr X1 Z:=by rw[hZ];exact Gr.app _ _
      have lZ:Z[X1.length]?=some ⟨[.i sr,.i sd,.i sk],.rw,0⟩:=by rw[hZ];simp
      have lZ1:=Gr.get gZ GD
      have mZ:=m1.gr gZ
      have Gcr:Gr H' Z:=(gY.trans g1).trans gZ
      have aZ:=aj.gr Gcr
      unfold GX at s1
      by_cases c5:se=0
      ·have c5':(se==0)=true:=by simp[c5]
       obtain⟨r0,r1⟩:=hse c5
       by_cases c6:0<sr
       ·have c6':decide (0<sr)=true:=Gz c6
        obtain⟨to,u1,u2,u3,u4⟩:=Yt mZ w.k (n:=x2 % 100) oM
        have e31:x1.tmod sr=x1 % sr:=Int.tmod_eq_emod_of_nonneg oM
        have hnz:¬sr=0:=by omega
        have hw:HY Z sb s R D:=⟨mZ,w.k,w.f,w.kr⟩
        obtain⟨H2,D2,p1,m2,g2⟩:=Gbk hw ad (x1 % sr) to oM oM
        have kk:=w.k.setRef ad (x1 % sr) to
        obtain⟨eb,en⟩:=s.GaP ad (x1 % sr) to
        have ff:(s.setRef ad (x1 % sr) to).1.Fz:=by unfold Hp.Fz;rw[eb];exact w.f
        have bb:(s.setRef ad (x1 % sr) to).1.born≤n0:=by rw[en];exact hb
        have a2:Ny (AX sm nb m) c0 H0 sb n0 H2:=aZ.step hd g2 ⟨m2,kk,ff,w.kr⟩ bb ⟨hq.1.setRef ..,hq.2.setRef ..⟩
        apply Gm (k':=120-(j+1))
        ·refine W9 e1 e9 e13 tB hl c' c2' hml l4 ?_
         rw[←hY]
         refine W13 e9 lY @Ni @Nb @Ke @KL w0 @Jw e30 q1 tY s1 @Int.toNat_zero ?_
         rw[←hZ]
         refine W16 lZ lZ1 e9 @AL @YU @VK @VU w1 w2 @Ns e31 e32 u1 p1 wj e13 ?_
         rfl
        ·omega
        ·exact⟨j+1,uA,oM,rfl,a2⟩
       ·have c6':decide (0<sr)=false:=Gw c6
        apply Gm (k':=120-(j+1))
        ·refine W9 e1 e9 e13 tB hl c' c2' hml l4 ?_
         rw[←hY]
         refine W12 e9 lY @Ni @Nb @Ke @KL w0 @Jw e30 q1 tY s1 ?_
         rw[←hZ]
         refine W2 wj e13 ?_
         rfl
        ·omega
        ·exact⟨j+1,uA,oM,rfl,aZ⟩
      ·have c5':(se==0)=false:=by simp[c5]
       apply Gm (k':=120-(j+1))
       ·refine W9 e1 e9 e13 tB hl c' c2' hml l4 ?_
        rw[←hY]
        refine W12 e9 lY @Ni @Nb @Ke @KL w0 @Jw e30 q1 tY s1 ?_
        rw[←hZ]
        refine W2 wj e13 ?_
        rfl
       ·omega
       ·exact⟨j+1,uA,oM,rfl,aZ⟩
    ·have c2':decide ((j:Int)<120)=false:=Gw oM
     apply Gi (x:=.exit 4)
     ·refine Jb ?_
      rfl
     ·simp
     ·exact⟨rfl,aj⟩
   ·have c':decide ((j:Int)<(rs.length:Int))=false:=Gw oM
    apply Gi (x:=.exit 4)
    ·refine Jb ?_
     rfl
    ·simp
    ·exact⟨rfl,aj⟩) _ ⟨0,WA,oM,rfl,a⟩
 grind
theorem Gk3{n0:Nat}(hn0:n0≤1000)(a:Ny (AX sm nb m) c0 H0 sb n0 H)(hb1:b1<c0)(hB:H0[b1]?=some ⟨[.int .u8 bl,.int .u8 mu,v2,v3,v4,v5,v6],.rw,0⟩)
  {rs:List (List CV)} (hs:Sl H0 v5 2 rs) (hv:Gp v5<c0) (hu:U8R 2 rs)
  {E0:Env} (h1:E0 1=.ptr b1 0) (h9:E0 9=.ptr sb 0) (h18:E0 18=.i 0) {r:Option (CX×Env×Gb)} (hr:den P (.loop Ght) E0 H=r):
  ∃E' H',r=some (.exit 6,E',H')∧Ny (AX sm nb m) c0 H0 sb n0 H'∧∀t,t∉wr Ght→E' t=E0 t:=by
 obtain⟨x',E',H',e,-,⟨rfl,a'⟩,fr⟩:=Gq (p:=P) (c:=Ght) (E0:=E0) (H0:=H)
  (fun q E H'=>∃j:Nat,E 18=.i j∧j≤20∧q=20-j∧Ny (AX sm nb m) c0 H0 sb n0 H')
  (fun x E' H'=>x=.exit 6∧Ny (AX sm nb m) c0 H0 sb n0 H') (by
   rintro q E H' hE ⟨j,e18,hj,rfl,aj⟩
   have e1:=(hE 1 dK).trans h1
   have e9:=(hE 9 dK).trans h9
   have tB:H'[b1]?=_:=(aj.keep b1 hb1).trans hB
   have hs':=hs.low hv aj.keep
   have hl:=hs'.len H'
   by_cases c:j<rs.length
   ·have c':decide ((j:Int)<(rs.length:Int))=true:=Gz oM
    by_cases c2:j<20
    ·have c2':decide ((j:Int)<20)=true:=Gz oM
     obtain⟨row,hrow⟩:∃row,rs[j]?=some row:=⟨_,Jr c⟩
     obtain⟨zs,hz,rfl,hzb⟩:=hu.at hrow
     match zs,hz with
     |[x0,x1],_=>
      have z0:=hzb x0 sM
      have z1:=hzb x1 sM
      obtain⟨vo,hml,hmi,ldY⟩:=hs'.row oM hrow
      have l0:=(ldY H' rfl).2 0 x0 rfl
      have l1:=(ldY H' rfl).2 1 x1 rfl
      rw[Nat.add_zero]at l0
      obtain⟨s,R,D,w,hd,hb,hq⟩:=aj.ex
      have w0:IntKind.i64.wrap x0=x0:=Gg oM
      have w1:IntKind.i64.wrap x1=x1:=Gg oM
      have e3:x1.tmod 100=x1 % 100:=Int.tmod_eq_emod_of_nonneg oM
      obtain⟨ad,q1,q2,q3,q4⟩:=Yt w.m w.k (n:=x1 % 100) oM
      obtain⟨R',H2,D2,p1,m2,g2,kr,hvl⟩:=Gd0 w (n:=x0) (a:=ad) oM oM
      have a2:Ny (AX sm nb m) c0 H0 sb n0 H2:=aj.step hd g2 ⟨m2,w.k,w.f,kr⟩ hb ⟨⟨hq.1.1,fun v hv=>by
       rcases hvl v hv with h|h
       ·exact hq.1.2.1 v h
       ·subst h;exact q4,hq.1.2.2⟩,hq.2⟩
      have wj:IntKind.i64.wrap ((j:Int)+1)=((j+1:Nat):Int):=Gg oM
      apply Gm (k':=20-(j+1))
      ·have:=@AL;have:=@YU;refine WX ?_
       rfl
      ·omega
      ·exact⟨j+1,uA,oM,rfl,a2⟩
    ·have c2':decide ((j:Int)<20)=false:=Gw oM
     apply Gi (x:=.exit 6)
     ·refine Jb ?_
      rfl
     ·simp
     ·exact⟨rfl,aj⟩
   ·have c':decide ((j:Int)<(rs.length:Int))=false:=Gw oM
    apply Gi (x:=.exit 6)
    ·refine Jb ?_
     rfl
    ·simp
    ·exact⟨rfl,aj⟩) _ ⟨0,h18,oM,rfl,a⟩
 grind
theorem GjW{n0:Nat}(hn0:n0≤1000)(a:Ny (AX sm nb m) c0 H0 sb n0 H)(hb1:b1<c0)(hB:H0[b1]?=some ⟨[.int .u8 bl,.int .u8 mu,v2,v3,v4,v5,v6],.rw,0⟩)
  {rs:List (List CV)} (hs:Sl H0 v6 1 rs) (hv:Gp v6<c0) (hu:U8R 1 rs)
  {E0:Env} (h1:E0 1=.ptr b1 0) (h9:E0 9=.ptr sb 0) (h19:E0 19=.i 0) {r:Option (CX×Env×Gb)} (hr:den P (.loop Gg0) E0 H=r):
  ∃E' H',r=some (.exit 8,E',H')∧Ny (AX sm nb m) c0 H0 sb n0 H'∧∀t,t∉wr Gg0→E' t=E0 t:=by
 obtain⟨x',E',H',e,-,⟨rfl,a'⟩,fr⟩:=Gq (p:=P) (c:=Gg0) (E0:=E0) (H0:=H)
  (fun q E H'=>∃j:Nat,E 19=.i j∧j≤8∧q=8-j∧Ny (AX sm nb m) c0 H0 sb n0 H')
  (fun x E' H'=>x=.exit 8∧Ny (AX sm nb m) c0 H0 sb n0 H') (by
   rintro q E H' hE ⟨j,e19,hj,rfl,aj⟩
   have e1:=(hE 1 dK).trans h1
   have e9:=(hE 9 dK).trans h9
   have tB:H'[b1]?=_:=(aj.keep b1 hb1).trans hB
   have hs':=hs.low hv aj.keep
   have hl:=hs'.len H'
   by_cases c:j<rs.length
   ·have c':decide ((j:Int)<(rs.length:Int))=true:=Gz oM
    by_cases c2:j<8
    ·have c2':decide ((j:Int)<8)=true:=Gz oM
     obtain⟨row,hrow⟩:∃row,rs[j]?=some row:=⟨_,Jr c⟩
     obtain⟨zs,hz,rfl,hzb⟩:=hu.at hrow
     match zs,hz with
     |[x0],_=>
      have z0:=hzb x0 sM
      obtain⟨vo,hml,hmi,ldY⟩:=hs'.row oM hrow
      have l0:=(ldY H' rfl).2 0 x0 rfl
      rw[Nat.add_zero]at l0
      obtain⟨s,R,D,w,hd,hb,hq⟩:=aj.ex
      have w3:IntKind.i64.wrap x0=x0:=Gg oM
      have e3:x0.tmod 100=x0 % 100:=Int.tmod_eq_emod_of_nonneg oM
      obtain⟨ad,q1,q2,q3,q4⟩:=Yt w.m w.k (n:=x0 % 100) oM
      obtain⟨H1,D1,p1,m1,g1⟩:=w.m.WT (GjK w.m.rh w.k ad)
      obtain⟨H2,p2,m2,g2⟩:=m1.Pv (Ggi m1.ph w.k ad oM)
      have t0:=w.m.top
      have t1:=m1.TB g1
      rw[g1.same.1]at p2
      have e:((s.J8 ad true).2 != (s.J8 ad true).2)=false:=by simp
      have kk:(s.J8 ad true).1.Ok:=by
       unfold Hp.J8
       split
       ·exact w.k.upd fun x _ _=>⟨rfl,rfl,rfl,rfl,rfl⟩
       ·exact w.k
      have ff:(s.J8 ad true).1.Fz:=by unfold Hp.J8;split<;>exact w.f
      have bb:(s.J8 ad true).1.born≤n0:=by unfold Hp.J8;split<;>exact hb
      have a2:Ny (AX sm nb m) c0 H0 sb n0 H2:=aj.step hd (g1.trans g2) ⟨m2,kk,ff,w.kr⟩ bb ⟨hq.1.J8 ..,hq.2.J8 ..⟩
      have wj:IntKind.i64.wrap ((j:Int)+1)=((j+1:Nat):Int):=Gg oM
      apply Gm (k':=8-(j+1))
      ·refine WX ?_
       rfl
      ·omega
      ·exact⟨j+1,uA,oM,rfl,a2⟩
    ·have c2':decide ((j:Int)<8)=false:=Gw oM
     apply Gi (x:=.exit 8)
     ·refine Jb ?_
      rfl
     ·simp
     ·exact⟨rfl,aj⟩
   ·have c':decide ((j:Int)<(rs.length:Int))=false:=Gw oM
    apply Gi (x:=.exit 8)
    ·refine Jb ?_
     rfl
    ·simp
    ·exact⟨rfl,aj⟩) _ ⟨0,h19,oM,rfl,a⟩
 grind
end
end Go.Cs.Tryz

namespace Go.Cs
open Go
theorem Bare.new(n m:Nat):Bare (Hp.new n) (Rt.new m):=by
 refine⟨fun o ho=>(by cases ho),fun v hv=>?_,?_,fun x hx=>(by cases hx)⟩
 rotate_left
 ·show((List.replicate n ((0:Nat),(0:Nat))).getD 0 (0,0)).1=0
  grind
 simp only[Rt.vals,Rt.flat,Rt.new,K_,List.mem_flatten,List.mem_replicate]at hv
 grind
theorem Hp.GlJ(n:Nat):(Hp.new n).Fz:=fun x hx _=>by rw[(List.mem_replicate.1 hx).2]
end Go.Cs
namespace Go.Cs.Tryz
open Go Go.Cs
section
variable {H : Gb}
theorem Ghg(n:Nat):used (List.replicate n (0,0))=0:=by
 induction n with
 |zero=>rfl
 |succ n ih=>rw[List.replicate_succ];unfold used;rw[ih];rfl
theorem Cn.new(sm:Prop)(n:Nat):Cn sm n 0 (Hp.new n):=⟨List.length_replicate,fun o ho=>(by cases ho),fun _=>by show used (List.replicate n (0,0))≤0;rw[Ghg];exact Nat.le_refl _,fun _ o ho=>by cases ho⟩
structure Beg(H:Gb)(bl mu:Int)(v:Nat→CV):Prop where
 bl:0≤bl∧bl≤255
 mu:0≤mu∧mu≤255
 sl:∀(i:Nat)(n:Nat×Nat),[(2,4),(3,1),(4,3),(5,2),(6,1)][i]?=some n→∃rs,Sl H (v n.1) n.2 rs∧Gp (v n.1)<H.length+1∧U8R n.2 rs
theorem Xc{bl mu:Int}{v:Nat→CV}(b:Beg H bl mu v){rs2:List (List CV)}(hs2:Sl H (v 2) 4 rs2)(u2:U8R 4 rs2){sm:Prop}(hsm:sm→∀zs,u8s zs∈rs2→zs.getD 0 0 % 8≠7):
  ∃sb H' s R D,run P 8 [.agg [.int .u8 bl,.int .u8 mu,v 2,v 3,v 4,v 5,v 6]] H=some (.ptr sb 0,H')∧HY H' sb s R D∧(∀c,D.own sb c→H.length<c)∧s.born≤40∧Iz s R∧Cn sm (2+bl % 23).toNat rs2.length s∧(∀c,c<H.length→H'[c]?=H[c]?)∧H.length<H'.length:=by
 obtain⟨X0,hX0⟩:∃X0:Gb,X0=H++[⟨[.int .u8 bl,.int .u8 mu,v 2,v 3,v 4,v 5,v 6],.rw,0⟩]:=⟨_,rfl⟩
 have g0:Gr H X0:=by rw[hX0];exact Gr.app _ _
 have l0:X0.length=H.length+1:=by rw[hX0];simp
 have t0:X0[H.length]?=some ⟨[.int .u8 bl,.int .u8 mu,v 2,v 3,v 4,v 5,v 6],.rw,0⟩:=by rw[hX0];simp
 have hbl:=b.bl
 have hmu:=b.mu
 have wb:IntKind.i64.wrap bl=bl:=Gg oM
 have wm:IntKind.i64.wrap mu=mu:=Gg oM
 have eb:bl.tmod 23=bl % 23:=Int.tmod_eq_emod_of_nonneg oM
 have em:mu.tmod 4=mu % 4:=Int.tmod_eq_emod_of_nonneg oM
 have wb2:IntKind.i64.wrap (2+bl % 23)=2+bl % 23:=Gg oM
 have wm2:IntKind.i64.wrap (1+mu % 4)=1+mu % 4:=Gg oM
 obtain⟨hb,X1,L,r1,g1,ph,fr1⟩:=Xm (H:=X0) (2+bl % 23) oM
 obtain⟨rb,X2,o1,w,r2,g2,pr,fr2⟩:=R5 (H:=X1) (1+mu % 4) oM
 obtain⟨X3,YC⟩:∃X3:Gb,X3=X2++[⟨[.ptr hb 0,.ptr rb 0,.nilPtr,.nilPtr],.rw,0⟩]:=⟨_,rfl⟩
 have g3:Gr X2 X3:=by rw[YC];exact Gr.app _ _
 have l3:X3.length=X2.length+1:=by rw[YC];simp
 have t3:X3[X2.length]?=some ⟨[.ptr hb 0,.ptr rb 0,.nilPtr,.nilPtr],.rw,0⟩:=by rw[YC];simp
 obtain⟨qb,X4,o2,L2,r4,g4,rh,fr4⟩:=GjH (H:=X3) (2+bl % 23) oM
 have t4:=g4.get t3
 obtain⟨X5,BG⟩:∃X5:Gb,X5=X4.set X2.length ⟨[.ptr hb 0,.ptr rb 0,.ptr qb 0,.nilPtr],.rw,0⟩:=⟨_,rfl⟩
 have l5:X5.length=X4.length:=by rw[BG];simp
 have t5:X5[X2.length]?=some ⟨[.ptr hb 0,.ptr rb 0,.ptr qb 0,.nilPtr],.rw,0⟩:=by grind
 have k5:∀c,c≠X2.length→X5[c]?=X4[c]?:=fun c hc=>by grind
 obtain⟨ub,X6,o3,L3,r6,g6,rr,fr6⟩:=Gdm (H:=X5) (1+mu % 4) oM
 have t6:=g6.get t5
 obtain⟨X7,hX7⟩:∃X7:Gb,X7=X6.set X2.length ⟨[.ptr hb 0,.ptr rb 0,.ptr qb 0,.ptr ub 0],.rw,0⟩:=⟨_,rfl⟩
 have t7:X7[X2.length]?=some ⟨[.ptr hb 0,.ptr rb 0,.ptr qb 0,.ptr ub 0],.rw,0⟩:=by grind
 have k7:∀c,c≠X2.length→X7[c]?=X6[c]?:=fun c hc=>by grind
 have e1:=g1.len
 have e2:=g2.len
 have e4:=g4.len
 have e6:=g6.len
 have hl7:X7.length=X6.length:=by rw[hX7];simp
 have k46:∀c,c<X4.length→c≠X2.length→X7[c]?=X4[c]?:=fun c hc hn=>by
  rw[k7 c hn,g6.keep c oM (fun h=>h),k5 c hn]
 have kX:∀c,c<X3.length→c≠X2.length→X7[c]?=X3[c]?:=fun c hc hn=>by
  rw[k46 c oM hn,g4.keep c hc fun h=>h]
 have kX2:∀c,c<X2.length→X7[c]?=X2[c]?:=fun c hc=>by
  grind
 have kX1:∀c,c<X1.length→X7[c]?=X1[c]?:=fun c hc=>by
  rw[kX2 c oM,g2.keep c hc fun h=>h]
 have kX0:∀c,c<X0.length→X7[c]?=X0[c]?:=fun c hc=>by
  rw[kX1 c oM,g1.keep c hc fun h=>h]
 have lt1:∀c∈L.all hb,c<X1.length:=ph.lt
 obtain⟨D,hD⟩:∃D:UR,D=⟨hb,L,rb,o1,w,qb,o2,L2,ub,o3,L3⟩:=⟨_,rfl⟩
 have n1:∀c,c<X1.length→o1 c=none:=fun c hc=>Je fun h=>by
  cases e:o1 c with
  |none=>exact h e
  |some u=>have:=fr2 c u e;omega
 have n1':∀c,X2.length≤c→o1 c=none:=fun c hc=>Je fun h=>by
  cases e:o1 c with
  |none=>exact h e
  |some u=>have:=pr.dom c u e;omega
 have n2:∀c,c<X3.length→o2 c=none:=fun c hc=>Je fun h=>by
  cases e:o2 c with
  |none=>exact h e
  |some u=>have:=fr4 c u e;omega
 have n2':∀c,X4.length≤c→o2 c=none:=fun c hc=>Je fun h=>by
  cases e:o2 c with
  |none=>exact h e
  |some u=>have:=rh.dom c u e;omega
 have n3:∀c,c<X5.length→o3 c=none:=fun c hc=>Je fun h=>by
  cases e:o3 c with
  |none=>exact h e
  |some u=>have:=fr6 c u e;omega
 have m7:AO X7 X2.length (Hp.new (2+bl % 23).toNat) (Hp.new (2+bl % 23).toNat) (Rt.new (1+mu % 4).toNat) (Rt.new (1+mu % 4).toNat) D:=by
  subst hD
  refine⟨t7,ph.frame fun c hc=>kX1 c (lt1 c hc),?_,?_,?_,?_,?_,?_,?_⟩
  ·exact pr.frame (fun c u h=>by have:=pr.dom c u h;omega) (fun _ _ h=>h) fun c u h=>kX2 c (pr.dom c u h)
  ·exact rh.frame (fun c u h=>by have:=rh.dom c u h;omega) (fun _ _ h=>h) fun c u h=>k46 c (rh.dom c u h) (by have:=fr4 c u h;omega)
  ·exact rr.frame (fun c u h=>by have:=rr.dom c u h;omega) (fun _ _ h=>h) fun c u h=>k7 c (by have:=fr6 c u h;omega)
  ·grind
  ·grind
  ·grind
  grind
 have hown:∀c,D.own X2.length c→H.length+1≤c:=fun c hc=>by
  subst hD
  rcases hc with rfl|hc|hc|hc|hc
  ·omega
  ·have:=fr1 c hc;omega
  ·grind
  ·grind
  grind
 have hbn:((2+bl % 23).toNat:Nat)≤64:=by omega
 have a7:Ny (VT sm (2+bl % 23).toNat 0) (H.length+1) X0 X2.length 0 X7:=⟨⟨_,_,D,⟨m7,Hp.EN oM,Hp.GlJ _,Rt.EN oM⟩,hown,Nat.le_refl _,Bare.new _ _,Cn.new _ _⟩,oM,fun c hc=>kX0 c oM⟩
 obtain⟨-,-,b2,-⟩:=b.sl 0 _ rfl
 obtain⟨rs3,s3,b3,u3⟩:=b.sl 1 _ rfl
 obtain⟨rs4,s4,b4,u4⟩:=b.sl 2 _ rfl
 obtain⟨rs5,s5,b5,u5⟩:=b.sl 3 _ rfl
 obtain⟨rs6,s6,b6,u6⟩:=b.sl 4 _ rfl
 have up:∀{x:CV}{e:Nat}{rs:List (List CV)},Sl H x e rs→Sl X0 x e rs:=fun h=>h.mono fun b k hb _ _=>g0.get hb
 have tsb:X2.length≠H.length:=by omega
 have tB5:X1[H.length]?=_:=g1.get t0
 have tB2:X2[H.length]?=_:=g2.get tB5
 rw[Gh c8 _ _ sM]
 refine Jb ?_
 rw[←hX0]
 refine W14 t0 @VK @VU @Ns wb wm eb em wb2 wm2 r1 r2 @JO @Jc ?_
 rw[←YC]
 refine W2 r4 t4 ?_
 rw[←BG]
 refine W2 r6 t6 ?_
 rw[←hX7]
 generalize hr:den P (.loop GfD) _ _=r
 obtain⟨E5,Y5,rfl,a5,f5⟩:=Gkv oM a7 (b1:=H.length) oM t0 (up hs2) b2 u2 hsm uA uA uA hr
 have f51:=f5 1 dK
 have f59:=f5 9 dK
 simp only[Gc,Nat.reduceEqDiff,↓reduceIte]at f51 f59
 refine Jb ?_
 generalize hr:den P (.loop GfY) _ _=r
 obtain⟨E4,Y4,rfl,a4,f4⟩:=Gkr oM a5 (b1:=H.length) oM t0 (up s3) b3 u3 (by simp[Gc,f51]) (by simp[Gc,f59]) uA hr
 have f41:=f4 1 dK
 have f49:=f4 9 dK
 simp only[Gc,Nat.reduceEqDiff,↓reduceIte,f51,f59]at f41 f49
 refine Jb ?_
 generalize hr:den P (.loop Gir) _ _=r
 obtain⟨E3,Y3,rfl,a3,f3⟩:=GjC oM (a4.snd) (b1:=H.length) oM t0 (up s4) b4 u4 (by simp[Gc,f41]) (by simp[Gc,f49]) uA hr
 have f31:=f3 1 dK
 have f39:=f3 9 dK
 simp only[Gc,Nat.reduceEqDiff,↓reduceIte,f41,f49]at f31 f39
 refine Jb ?_
 generalize hr:den P (.loop Ght) _ _=r
 obtain⟨E2,Y2,rfl,a2,f2⟩:=Gk3 oM a3 (b1:=H.length) oM t0 (up s5) b5 u5 (by simp[Gc,f31]) (by simp[Gc,f39]) uA hr
 have f21:=f2 1 dK
 have f29:=f2 9 dK
 simp only[Gc,Nat.reduceEqDiff,↓reduceIte,f31,f39]at f21 f29
 refine Jb ?_
 generalize hr:den P (.loop Gg0) _ _=r
 obtain⟨E1,Y1,rfl,a1,f1⟩:=GjW oM a2 (b1:=H.length) oM t0 (up s6) b6 u6 (by simp[Gc,f21]) (by simp[Gc,f29]) uA hr
 have f19:=f1 9 dK
 simp only[Gc,Nat.reduceEqDiff,↓reduceIte,f29]at f19
 obtain⟨s,R,D',w',hd,hb',hq⟩:=a1.ex
 refine⟨X2.length,Y1,s,R,D',?_,w',fun c h=>by have:=hd c h;omega,oM,hq.1,by rw[Nat.zero_add]at hq;exact hq.2,fun c hc=>?_,by have:=a1.len;omega⟩
 ·exact W0
 ·rw[a1.keep c oM,g0.keep c hc fun h=>h]
end
end Go.Cs.Tryz
namespace Go.Cs.Tryz
open Go Go.Cs A
def C15:Gj:=⟨9,0,T [nb 4 false] (Q [m 5 0,m 6 1,q2 7 69 5 6,bk 8 .geq 7 0,m 4 8]),[r 4]⟩
theorem c15:P 15=some C15:=by kernel_rfl
def C30:Gj:=⟨6,0,T [e 2 (.Km (c .Gd))] (Q [e 3 (.buildSlice 1 [] 0 []),m 4 0,ap 5 1 3 4,m 2 5]),[r 2]⟩
theorem c30:P 30=some C30:=by kernel_rfl
abbrev Gcw:Gn:=S (T [m 6 5,m 7 0,le 8 7,b 9 .lss 6 8] (J 9 (X 0))) (S (B 1 (T [m 12 0,m 13 5,x 14 1 12 13,l 15 1 14,m 16 1,b 17 .eql 15 16] (I 17 (Q [m 18 5,m 4 18])))) (R [m 10 5,bk 11 .add 10 1,m 5 11]))
def C69:Gj:=⟨19,0,T [n 4 0] (S (T [n 5 0] (B 0 (W Gcw))) (Q [n 4 (-1)])),[r 4]⟩
theorem c69:P 69=some C69:=by kernel_rfl
def Gtd:Gj:=⟨15,0,T [e 6 (.Km (c .Gd))] (S (T [m 7 0,m 8 2,q2 9 179 7 8,no 10 9] (I 10 (Q [m 11 1,m 6 11]))) (Q [m 12 1,m 13 2,q2 14 242 12 13,m 6 14])),[r 6]⟩
theorem c173:P 173=some Gtd:=by kernel_rfl
def GuE:Gj:=⟨26,0,T [bo 2 0,nb 4 false] (Q [f 5 2 2,l 6 1 5,bk 7 .neq 6 1,m 8 7,gt 8 (f 9 2 2),gt 8 (l 10 1 9),gt 8 (bk 11 .neq 10 2),an 12 8 11,m 13 12,gf 13 (m 14 1),gf 13 (bk 15 .gtr 14 0),gf 13 (m 16 15),gt 16 (f 17 2 2),gt 16 (l 18 1 17),gt 16 (bk 19 .eql 18 1),gt 16 (m 20 19),gf 20 (m 21 1),gf 20 (bk 22 .gtr 21 1),gt 16 (or 23 20 22),gf 13 (an 24 16 23),or 25 13 24,m 4 25]),[r 4]⟩
theorem GrC:P 174=some GuE:=by kernel_rfl
abbrev Ou:Gn:=S (T [m 6 5,m 7 0,le 8 7,b 9 .lss 6 8,m 10 9,gt 10 (m 11 0),gt 10 (m 12 5),gt 10 (x 13 1 11 12),gt 10 (l 14 1 13),gt 10 (m 15 1),gt 10 (b 16 .lss 14 15),an 17 10 16] (J 17 (X 0))) (B 1 (R [m 18 5,bk 19 .add 18 1,m 5 19]))
def Gu9:Gj:=⟨45,0,T [e 4 (.Km (c .Gd))] (T [n 5 0] (S (B 0 (W Ou)) (S (T [m 20 5,m 21 0,le 22 21,b 23 .lss 20 22,m 24 23,gt 24 (m 25 0),gt 24 (m 26 5),gt 24 (x 27 1 25 26),gt 24 (l 28 1 27),gt 24 (m 29 1),gt 24 (b 30 .eql 28 29),an 31 24 30] (I 31 (Q [m 32 0,m 4 32]))) (S (D [⟨e 33 (.buildSlice 1 [] 0 []),0,0,0⟩,⟨m 34 0,1,0,0⟩,⟨m 35 5,2,0,0⟩,⟨e 36 (.slice 1 (t 34) none (some (t 35)) none),3,0,0⟩,⟨ap 37 1 33 36,4,3,0⟩,⟨m 38 1,5,0,0⟩,⟨e 39 (.buildSlice 1 [i 0] 1 [(0,1,t 38)]),6,0,0⟩,⟨ap 40 1 37 39,7,3,1⟩,⟨m 41 0,8,0,0⟩,⟨m 42 5,9,0,0⟩,⟨e 43 (.slice 1 (t 41) (some (t 42)) none none),10,0,0⟩,⟨ap 44 1 40 43,11,3,2⟩,⟨m 4 44,12,0,3⟩]) .ret)))),[r 4]⟩
theorem GqG:P 242=some Gu9:=by kernel_rfl
end Go.Cs.Tryz
namespace Go.Cs
open Go
abbrev LI(H:Gb)(v:CV)(l:List Int):Prop:=IL 0 H v l
theorem IL.li{k:Nat}{H:Gb}{v:CV}{l:List Int}(h:IL k H v l):LI H v l:=h.frame (fun c h=>Gl.2 ⟨Nat.zero_le _,(Gl.1 h).2⟩) fun c h=>rfl
theorem LI.gr{H H':Gb}{v:CV}{l:List Int}(h:LI H v l)(g:Gr H H'):LI H' v l:=h.keeps g
theorem LI.len{H:Gb}{v:CV}{l:List Int}(h:LI H v l)(H':Gb):UK v H'=some (.i l.length,H'):=At.len h H'
theorem LI.Gso{H:Gb}{v:CV}{l:List Int}(h:LI H v l):Gex v=okV (.i l.length):=VO fun H=>At.len h H
theorem LI.at{H:Gb}{v:CV}{l:List Int}(h:LI H v l){i:Nat}{x:Int}(hi:l[i]?=some x):
  ∃b o,(∀X,JM 1 v (.i i) X=some (.ptr b o,X))∧Qh 1 v (.i i)=okV (.ptr b o)∧∀Y,Gr H Y→ld Y[b]? o=some (.i x):=by
 obtain⟨b,o,h1,h2,h3,-⟩:=IL.at h hi
 refine⟨b,o,h1,h2,fun Y g=>?_⟩
 have hb:b<H.length:=by
  cases e:H[b]? with
  |none=>rw[e]at h3;cases h3
  |some k=>exact Gf e
 rw[g.keep b hb fun h=>h];exact h3
def Uc(l:List Int):Prop:=l.Pairwise (·<·)
def BI(n:Int):List Int→List Int
 |[]=>[n]
 |x::l=>if x<n then x::BI n l else if x=n then x::l else n::x::l
theorem YA{n x:Int}:∀{l:List Int},x∈BI n l↔x=n∨x∈l
 |[]=>by simp[BI]
 |y::l=>by
  unfold BI
  split
  ·rw[List.mem_cons,YA,List.mem_cons]
   grind
  grind
theorem Ga3{n:Int}:∀{l:List Int},Uc l→Uc (BI n l)
 |[],_=>by simp[BI,Uc]
 |y::l,h=>by
  unfold Uc at h
  rw[List.pairwise_cons]at h
  unfold BI
  split
  ·rename_i hy
   refine List.pairwise_cons.2 ⟨fun z hz=>?_,Ga3 h.2⟩
   rcases YA.1 hz with rfl|hz
   ·exact hy
   ·exact h.1 z hz
  ·split
   ·exact List.pairwise_cons.2 h
   ·refine List.pairwise_cons.2 ⟨fun z hz=>?_,List.pairwise_cons.2 h⟩
    grind
def Zz(n:Int)(l:List Int):Nat:=(l.takeWhile fun x=>decide (x<n)).length
theorem GiS(n:Int)(l:List Int):Zz n l≤l.length:=(List.takeWhile_sublist _).length_le
theorem RY(n:Int):∀l:List Int,BI n l=if l[Zz n l]?=some n then l else l.take (Zz n l)++n::l.drop (Zz n l)
 |[]=>by simp[BI,Zz]
 |y::l=>by
  unfold BI
  by_cases h:y<n
  ·rw[if_pos h,RY n l]
   have e:Zz n (y::l)=Zz n l+1:=by unfold Zz;simp_all
   grind
  ·rw[if_neg h]
   have e:Zz n (y::l)=0:=by unfold Zz;simp_all
   grind
theorem RU{n:Int}:∀{l:List Int}{j:Nat},j≤l.length→(∀i y,i<j→l[i]?=some y→y<n)→(∀y,l[j]?=some y→n≤y)→Zz n l=j
 |[],j,hj,_,_=>by simp only[List.length_nil]at hj;unfold Zz;simp;omega
 |x::l,0,_,_,h2=>by
  have:=h2 x rfl
  unfold Zz
  simp_all
 |x::l,j+1,hj,h1,h2=>by
  have:=h1 0 x oM rfl
  have ih:=RU (n:=n) (l:=l) (j:=j) (by simpa using hj) (fun i y hi hy=>h1 (i+1) y oM (by simpa using hy)) (fun y hy=>h2 y (by simpa using hy))
  unfold Zz at ih⊢
  simp_all
theorem Gkd{l:List Int}(h:Uc l){a b:Int}(hl:∀x∈l,a≤x∧x<b):(l.length:Int)≤b-a∨l=[]:=by
 induction l generalizing a with
 |nil=>exact .inr rfl
 |cons x l ih=>
  unfold Uc at h
  rw[List.pairwise_cons]at h
  have hx:=hl x QT
  left
  rcases ih h.2 (a:=x+1) (fun y hy=>⟨by have:=h.1 y hy;omega,(hl y (VA _ hy)).2⟩)with e|e
  ·simp only[List.length_cons];omega
  ·subst e;simp;omega
theorem I8:∀{l k:List Int},Uc l→Uc k→(∀x,x∈l↔x∈k)→l=k
 |[],[],_,_,_=>rfl
 |[],y::k,_,_,h=>by have:=(h y).2 QT;cases this
 |x::l,[],_,_,h=>by have:=(h x).1 QT;cases this
 |x::l,y::k,h1,h2,h=>by
  unfold Uc at h1 h2
  rw[List.pairwise_cons]at h1 h2
  have e:x=y:=by
   rcases List.mem_cons.1 ((h x).1 QT)with e|e
   ·exact e
   ·rcases List.mem_cons.1 ((h y).2 QT)with e2|e2
    ·exact e2.symm
    grind
  subst e
  congr 1
  refine I8 h1.2 h2.2 fun z=>?_
  grind
def Jh(kd i:Int):Bool:=(kd != 1&&kd != 2)||(decide (0<i)&&(kd==1||decide (1<i)))
end Go.Cs
namespace Go.Cs.Tryz
open Go Go.Cs
section
variable {H : Gb} {v : CV} {l : List Int}
theorem GqU(h:Ur H v l)(hl:l.length≤100000){n:Int}{E0:Env}(h0:E0 0=v)(h1:E0 1=.i n)(h5:E0 5=.i 0){r:Option (CX×Env×Gb)}(hr:den P (.loop Gcw) E0 H=r):
  ∃x E',r=some (x,E',H)∧((x=.ret∧∃j:Nat,E' 4=.i j∧n∈l)∨(x=.exit 0∧n∉l)):=by
 obtain⟨x',E',H',e,-,⟨rfl,hres⟩,fr⟩:=Gq (p:=P) (c:=Gcw) (E0:=E0) (H0:=H)
  (fun q E H'=>H'=H∧∃j:Nat,E 5=.i j∧j≤l.length∧q=l.length-j∧∀i y,i<j→l[i]?=some y→y≠n)
  (fun x E' H'=>H'=H∧((x=.ret∧∃j:Nat,E' 4=.i j∧n∈l)∨(x=.exit 0∧n∉l))) (by
   rintro q E H' hE ⟨rfl,j,e5,hj,rfl,hn⟩
   have e0:=(hE 0 dK).trans h0
   have e1:=(hE 1 dK).trans h1
   have hvl:=h.len H'
   by_cases c:j<l.length
   ·have c':decide ((j:Int)<(l.length:Int))=true:=Gz oM
    have hx:l[j]?=some l[j]:=Jr c
    obtain⟨b,o,i1,Yg⟩:=h.at hx
    have w1:IntKind.i64.wrap ((j:Int)+1)=((j+1:Nat):Int):=Gg oM
    by_cases ha:l[j]=n
    ·have ha':(l[j]==n)=true:=by simp[ha]
     apply Gi (x:=.ret)
     ·refine W8 e0 e1 e5 hvl c' i1 Yg ha' ?_
      rfl
     ·simp
     ·exact⟨rfl,.inl ⟨rfl,j,uA,by rw[←ha];exact List.getElem_mem c⟩⟩
    ·have ha':(l[j]==n)=false:=by simp[ha]
     apply Gm (k':=l.length-(j+1))
     ·refine Jb ?_
      rfl
     ·omega
     ·refine⟨rfl,j+1,uA,oM,rfl,fun i y hi hy=>?_⟩
      grind
   ·have c':decide ((j:Int)<(l.length:Int))=false:=Gw oM
    apply Gi (x:=.exit 0)
    ·refine Jb ?_
     rfl
    ·simp
    ·refine⟨rfl,.inr ⟨rfl,fun hm=>?_⟩⟩
     obtain⟨i,hi,he⟩:=List.getElem_of_mem hm
     grind) _ ⟨rfl,0,h5,oM,rfl,fun i y hi=>by omega⟩
 grind
theorem WM(h:Ur H v l)(hl:l.length≤100000)(n:Int):run P 15 [v,.i n] H=some (.bool (decide (n∈l)),H):=by
 have key:∃z:Int,run P 69 [v,.i n] H=some (.i z,H)∧(0≤z↔n∈l):=by
  rw[Gh c69 _ _ sM]
  refine Jb ?_
  generalize hr:den P (.loop Gcw) _ _=r
  obtain⟨x,E',rfl,hp⟩:=GqU h hl (n:=n) uA uA uA hr
  rcases hp with⟨rfl,j,h4,hm⟩|⟨rfl,hm⟩
  ·exact⟨j,by exact W0,by simp[hm]⟩
  ·exact⟨-1,by exact W0,by simp[hm]⟩
 obtain⟨z,h1,h2⟩:=key
 rw[Gh c15 _ _ sM]
 have e:decide (0≤z)=decide (n∈l):=by simp[h2]
 exact W0
theorem SI(h:LI H v l)(hl:l.length≤100000)(n:Int):run P 15 [v,.i n] H=some (.bool (decide (n∈l)),H):=WM (IL.sl h) hl n
theorem GhE(h:LI H v l)(hl:l.length≤100000):∃v' H',run P 30 [v] H=some (v',H')∧Gr H H'∧LI H' v' l:=by
 have he:elems (H++[⟨[],.rw,1⟩]) 1 v=some (l.length,ints l):=(h.gr (Gr.app H [⟨[],.rw,1⟩])).elems fun c hc=>rfl
 have h0:IL H.length (H++[⟨[],.rw,1⟩]) (.slice H.length 0 0 0 1 false) []:=.inl ⟨rfl,rfl,.inr ⟨_,_,rfl⟩⟩
 obtain⟨v',H1,a1,a2,a3⟩:=IL.cat h0 sM (l2:=l) (by simp;omega)
 refine⟨v',H1,?_,(Gr.app H _).news a3,a2.li⟩
 rw[Gh c30 _ _ sM]
 exact W0
theorem GlP(h:LI H v l)(hl:l.length≤100000){n:Int}{E0:Env}(h0:E0 0=v)(h1:E0 1=.i n)(h5:E0 5=.i 0){r:Option (CX×Env×Gb)}(hr:den P (.loop Ou) E0 H=r):
  ∃E',r=some (.exit 0,E',H)∧E' 5=.i (Zz n l)∧∀t,t∉wr Ou→E' t=E0 t:=by
 obtain⟨x',E',H',e,-,⟨rfl,rfl,hf⟩,fr⟩:=Gq (p:=P) (c:=Ou) (E0:=E0) (H0:=H)
  (fun q E H'=>H'=H∧∃j:Nat,E 5=.i j∧j≤l.length∧q=l.length-j∧∀i y,i<j→l[i]?=some y→y<n)
  (fun x E' H'=>x=.exit 0∧H'=H∧E' 5=.i (Zz n l)) (by
   rintro q E H' hE ⟨rfl,j,e5,hj,rfl,hn⟩
   have e0:=(hE 0 dK).trans h0
   have e1:=(hE 1 dK).trans h1
   have hvl:=h.len H'
   by_cases c:j<l.length
   ·have c':decide ((j:Int)<(l.length:Int))=true:=Gz oM
    have hx:l[j]?=some l[j]:=Jr c
    obtain⟨b,o,i1,i2,i3⟩:=h.at hx
    have Yg:=i3 H' (Keeps.refl _ _)
    have w1:IntKind.i64.wrap ((j:Int)+1)=((j+1:Nat):Int):=Gg oM
    by_cases ha:l[j]<n
    ·have ha':decide (l[j]<n)=true:=Gz ha
     apply Gm (k':=l.length-(j+1))
     ·refine Jb ?_
      rfl
     ·omega
     ·refine⟨rfl,j+1,uA,oM,rfl,fun i y hi hy=>?_⟩
      grind
    ·have ha':decide (l[j]<n)=false:=Gw ha
     apply Gi (x:=.exit 0)
     ·refine Jb ?_
      rfl
     ·simp
     ·refine⟨rfl,rfl,?_⟩
      rw[RU hj hn fun y hy=>by grind]
      simp[Gc,e5]
   ·have c':decide ((j:Int)<(l.length:Int))=false:=Gw oM
    apply Gi (x:=.exit 0)
    ·refine Jb ?_
     rfl
    ·simp
    ·refine⟨rfl,rfl,?_⟩
     rw[RU hj hn fun y hy=>by have:=Gf hy;omega]
     simp[Gc,e5]) _ ⟨rfl,0,h5,oM,rfl,fun i y hi=>by omega⟩
 exact⟨E',hr.symm.trans e,hf,fr⟩
theorem GkE(h:LI H v l)(hl:l.length≤100000)(n:Int):∃v' H',run P 242 [v,.i n] H=some (v',H')∧Gr H H'∧LI H' v' (BI n l):=by
 rw[Gh GqG _ _ sM]
 refine Jb ?_
 generalize hr:den P (.loop Ou) _ _=r
 obtain⟨E',rfl,h5,fr⟩:=GlP h hl (n:=n) uA uA uA hr
 have f0:=fr 0 dK
 have f1:=fr 1 dK
 simp only[Gc,Nat.reduceEqDiff,↓reduceIte]at f0 f1
 rw[RY]
 have hle:=GiS n l
 have hvl:=h.len H
 have Gxi:(l[Zz n l]?≠some n)→∀E:Env,True:=fun _ _=>trivial
 generalize hj:Zz n l=j at h5 hle
 have slow:∃v' H',LI H' v' (l.take j++n::l.drop j)∧Gr H H'∧∃w1 w2 u1 X1 u2 X2,Ky 1 v none (some (.i j)) none=some w1∧elems (H++[⟨[],.rw,1⟩]) 1 w1=some (j,ints (l.take j))∧Ju (H++[⟨[],.rw,1⟩]) 1 (.slice H.length 0 0 0 1 false) j (ints (l.take j))=some (u1,X1)∧
   elems (X1++[⟨[.i n],.rw,1⟩]) 1 (.slice X1.length 0 1 1 1 false)=some (1,[.i n])∧Ju (X1++[⟨[.i n],.rw,1⟩]) 1 u1 1 [.i n]=some (u2,X2)∧Ky 1 v (some (.i j)) none none=some w2∧elems X2 1 w2=some (l.length-j,ints (l.drop j))∧Ju X2 1 u2 (l.length-j) (ints (l.drop j))=some (v',H'):=by
  obtain⟨w1,sl1,el1⟩:=At.lo h hle
  obtain⟨w2,sl2,el2⟩:=At.hi h hle
  have tk:(ints l).take (j*1)=ints (l.take j):=by rw[Nat.mul_one];simp[ints,List.map_take]
  have dr:(ints l).drop (j*1)=ints (l.drop j):=by rw[Nat.mul_one];simp[ints,List.map_drop]
  rw[tk]at el1
  rw[dr]at el2
  have hblk:∀Y,Gr H Y→∀e' w r,(∀H':Gb,(∀c,Loc 0 c=some z3→H'[c]?=H[c]?)→elems H' e' w=some r)→True:=fun _ _ _ _ _ _=>trivial
  have h0:IL H.length (H++[⟨[],.rw,1⟩]) (.slice H.length 0 0 0 1 false) []:=.inl ⟨rfl,rfl,.inr ⟨_,_,rfl⟩⟩
  have Gra:elems (H++[⟨[],.rw,1⟩]) 1 w1=some (j,ints (l.take j)):=by
   have:=(At.lo (h.gr (Gr.app H [⟨[],.rw,1⟩])) hle)
   grind
  have ltk:(l.take j).length=j:=by rw[List.length_take];omega
  obtain⟨u1,X1,a1,b1,k1⟩:=IL.cat h0 sM (l2:=l.take j) (by simp;omega)
  rw[ltk]at a1
  have gX1:Gr H X1:=(Gr.app H _).news k1
  obtain⟨u2,X2,a2,b2,k2⟩:=IL.push b1 gX1.len (by simp;omega) n
  have gX2:Gr H X2:=gX1.news k2
  have GsX:elems X2 1 w2=some (l.length-j,ints (l.drop j)):=by
   obtain⟨w,s1,e1⟩:=At.hi (h.gr gX2) hle
   grind
  obtain⟨u3,X3,a3,b3,k3⟩:=IL.cat b2 gX2.len (l2:=l.drop j) (by simp;omega)
  have ldr:(l.drop j).length=l.length-j:=List.length_drop ..
  rw[ldr]at a3
  refine⟨u3,X3,?_,gX2.news k3,w1,w2,u1,X1,u2,X2,sl1,Gra,a1,?_,a2,sl2,GsX,a3⟩
  ·have e:[]++l.take j++[n]++l.drop j=l.take j++n::l.drop j:=by simp
   rw[e]at b3
   exact b3.li
  ·rw[JN oM]
   have:=@N9;exact W0
 by_cases c:j<l.length
 ·have c':decide ((j:Int)<(l.length:Int))=true:=Gz oM
  have hx:l[j]?=some l[j]:=Jr c
  obtain⟨b,o,i1,i2,i3⟩:=h.at hx
  have Yg:=i3 H (Keeps.refl _ _)
  by_cases ha:l[j]=n
  ·have ha':(l[j]==n)=true:=by simp[ha]
   rw[if_pos (by rw[hx,ha])]
   refine⟨v,H,?_,Keeps.refl _ _,h⟩
   exact W0
  ·have ha':(l[j]==n)=false:=by simp[ha]
   rw[if_neg (by rw[hx];simpa using ha)]
   obtain⟨v',H',li,g,w1,w2,u1,X1,u2,X2,s1,s2,s3,s4,s5,s6,s7,s8⟩:=slow
   refine⟨v',H',?_,g,li⟩
   have:=@LX;have:=@Ev;have:=@MW;exact W0
 ·have c':decide ((j:Int)<(l.length:Int))=false:=Gw oM
  rw[if_neg (by grind)]
  obtain⟨v',H',li,g,w1,w2,u1,X1,u2,X2,s1,s2,s3,s4,s5,s6,s7,s8⟩:=slow
  refine⟨v',H',?_,g,li⟩
  have:=@LX;have:=@Ev;have:=@MW;exact W0
theorem ZM{o:Tags}{rb:Nat}{s:Hp}{L:NG}(m:J3 o H rb s L)(k:s.Ok)(h:LI H v l)(hl:l.length≤100000)(a:Int):
  ∃v' H',run P 173 [.ptr rb 0,v,.i a] H=some (v',H')∧Gr H H'∧LI H' v' (if s.has a=true then BI a l else l):=by
 have h1:=IB m k a
 rw[Gh c173 _ _ sM]
 cases e:s.has a with
 |true=>
  rw[e]at h1
  obtain⟨v',H',p1,p2,p3⟩:=GkE h hl a
  refine⟨v',H',?_,p2,by simpa using p3⟩
  exact W0
 |false=>
  rw[e]at h1
  refine⟨v,H,?_,Keeps.refl _ _,by simpa using h⟩
  exact W0
theorem Gcm(r d kd i:Int):run P 174 [.agg (GX r d kd),.i i] H=some (.bool (Jh kd i),H++[⟨GX r d kd,.rw,0⟩]):=by
 rw[Gh GrC _ _ sM]
 unfold GX Jh
 by_cases k1:kd=1
 ·subst k1
  by_cases c:0<i
  ·simp(disch:=first|exact dz|fail) only[simprocAttr,Gs,↓reduceIte,QG,show((1:Int) != 1)=false from rfl,show((1:Int)==1)=true from rfl,c]
   rfl
  ·simp(disch:=first|exact dz|fail) only[simprocAttr,Gs,↓reduceIte,QG,show((1:Int) != 1)=false from rfl,c]
   rfl
 ·have e1:(kd != 1)=true:=by simp[k1]
  have e1':(kd==1)=false:=by simp[k1]
  by_cases k2:kd=2
  ·subst k2
   by_cases c:0<i
   ·by_cases c2:1<i
    ·simp(disch:=first|exact dz|fail) only[simprocAttr,Gs,↓reduceIte,QG,e1,e1',show((2:Int) != 2)=false from rfl,c,c2]
     rfl
    ·simp(disch:=first|exact dz|fail) only[simprocAttr,Gs,↓reduceIte,QG,e1,e1',show((2:Int) != 2)=false from rfl,c,c2]
     rfl
   ·simp(disch:=first|exact dz|fail) only[simprocAttr,Gs,↓reduceIte,QG,e1,show((2:Int) != 2)=false from rfl,c]
    rfl
  ·have e2:(kd != 2)=true:=by simp[k2]
   simp(disch:=first|exact dz|fail) only[simprocAttr,Gs,↓reduceIte,QG,e1,e2]
   rfl
end
end Go.Cs.Tryz
namespace Go.Cs.Tryz
open Go Go.Cs A
abbrev PU:Gn:=S (T [m 102 13,f 103 2 8,f 104 1 103,l 105 1 104,b 106 .lss 102 105] (J 106 (X 6))) (S (B 7 (T [m 110 0,f 111 0 8,l 112 1 111,m 113 13,q3 114 67 110 112 113,m 109 114,ex 115 109 0,ex 116 109 1,m 14 115,m 15 116] (T [f 117 6 8,l 118 1 117,m 16 118] (R [m 119 16,m 120 14,e 121 (.buildSlice 1 [i 0] 1 [(0,1,t 120)]),ap 122 1 119 121,f 123 6 8,st 1 123 122])))) (R [m 107 13,bk 108 .add 107 1,m 13 108]))
abbrev Px:Gn:=S (T [m 80 9,f 81 2 8,f 82 0 81,l 83 1 82,b 84 .lss 80 83] (J 84 (X 4))) (S (B 5 (T [m 88 0,f 89 0 8,l 90 1 89,m 91 9,q3 92 66 88 90 91,m 87 92,ex 93 87 0,ex 94 87 1,m 10 93,m 11 94] (T [f 95 5 8,l 96 1 95,m 12 96] (R [m 97 12,m 98 10,e 99 (.buildSlice 1 [i 0] 1 [(0,1,t 98)]),ap 100 1 97 99,f 101 5 8,st 1 101 100])))) (R [m 85 9,bk 86 .add 85 1,m 9 86]))
abbrev PG:Gn:=S (T [m 47 7,m 48 6,le 49 48,b 50 .lss 47 49] (J 50 (X 2))) (S (B 3 (S (D [⟨m 57 0,4,0,0⟩,⟨m 58 6,5,0,0⟩,⟨m 59 7,6,0,0⟩,⟨x 60 1 58 59,7,0,0⟩,⟨l 61 1 60,8,1,0⟩,⟨q2 62 63 57 61,9,3,0⟩,⟨m 53 6,0,0,0⟩,⟨m 54 7,1,0,0⟩,⟨x 55 1 53 54,2,0,0⟩,⟨l 56 1 55,3,1,0⟩,⟨e 63 (.build [i 0,i 0,i 0,i 0,i 0,.Gd,.Gd,.bool false] [(0,1,t 56),(7,1,t 62)]),10,0,1⟩,⟨e 8 (.new [i 0,i 0,i 0,i 0,i 0,.Gd,.Gd,.bool false]),11,0,0⟩,⟨st 8 8 63,12,3,1⟩]) (T [m 65 0,f 66 0 8,l 67 1 66,q2 68 64 65 67,m 64 68,ex 69 64 0,ex 70 64 1,f 71 1 8,st 1 71 69] (T [m 73 0,f 74 0 8,l 75 1 74,q2 76 65 73 75,m 72 76,ex 77 72 0,ex 78 72 1,f 79 2 8,st 3 79 77] (S (T [n 9 0] (B 4 (W Px))) (S (T [n 13 0] (B 6 (W PU))) (T [m 124 3,z 125 124,f 126 1 125,l 127 1 126,m 17 127] (R [m 128 3,m 129 17,lg 130 8 8,e 131 (.buildSlice 8 [i 0,i 0,i 0,i 0,i 0,.Gd,.Gd,.bool false] 1 [(0,8,t 130)]),ap 132 8 129 131,z 133 128,f 134 1 133,st 1 134 132])))))))) (R [m 51 7,bk 52 .add 51 1,m 7 52]))
abbrev Wu:Gn:=S (T [m 22 4,m 23 0,q1 24 46 23,b 25 .lss 22 24] (J 25 (X 0))) (S (B 1 (T [m 28 3,z 29 28,f 30 0 29,l 31 1 30,m 5 31] (R [m 32 3,m 33 5,m 34 0,m 35 4,q2 36 62 34 35,m 37 0,m 38 4,q2 39 56 37 38,e 40 (.build [i 0,i 0] [(0,1,t 36),(1,1,t 39)]),e 41 (.buildSlice 2 [i 0,i 0] 1 [(0,2,t 40)]),ap 42 2 33 41,z 43 32,f 44 0 43,st 1 44 42]))) (R [m 26 4,bk 27 .add 26 1,m 4 27]))
def C12:Gj:=⟨136,0,T [e 2 (.Km (c .nilPtr))] (T [m 18 0,q1 19 61 18,e 20 (.build [.Gd,.Gd,.Gd,i 0] [(3,1,t 19)]),bo 21 20,m 3 21] (S (T [n 4 0] (B 0 (W Wu))) (T [m 45 0,q1 46 53 45,m 6 46] (S (T [n 7 0] (B 2 (W PG))) (Q [m 135 3,m 2 135]))))),[r 2]⟩
theorem c12:P 12=some C12:=by kernel_rfl
end Go.Cs.Tryz
namespace Go.Cs
open Go
def N8(x:Ob)(rv dv:CV):List CV:=[.i x.addr,.i x.id,.i x.refs.length,.i x.data.length,.i x.kd,rv,dv,.bool x.pin]
def But(H H':Gb)(b:Nat):Prop:=Keeps H H' (fun c=>c=b)
theorem PH.but{H H':Gb}{hb b:Nat}{s:Hp}{L:G5}(p:PH H hb s L)(k:But H H' b)(hn:b∉L.all hb):PH H' hb s L:=
 p.frame fun c hc=>k.keep c (p.lt c hc) fun h=>hn (by rw[←h];exact hc)
theorem J3.GjZ{o:Tags}{H Hf:Gb}{rb:Nat}{s:Hp}{L:NG}(m:J3 o H rb s L){l:List Ob}{hv:Nat→CV×CV}{v:CV}{born:Nat}(h:At (Loc H.length) z3 Hf v 8 l.length (Gu hv l))(hl:H.length≤Hf.length)
  (hb:Hf[rb]?=some ⟨[L.bv,v,L.fv,.i born],.rw,0⟩) (hf:∀d,d<H.length→d≠rb→o d≠some (0,2,0)→Hf[d]?=H[d]?)
  (hr:∀x∈l,At o (0,3,x.id) H (hv x.id).1 1 x.refs.length (ints x.refs)∧At o (0,4,x.id) H (hv x.id).2 1 x.data.length (ints x.data)):
  ∃o' L',J3 o' Hf rb {s with objs:=l,born:=born} L'∧KW o H o' Hf∧L'.hv=hv∧L'.bv=L.bv∧L'.ov=v∧L'.fv=L.fv:=by
 obtain⟨o',h1,h2,h3⟩:=h.adopt (o:=o) (t:=(0,2,0)) m.dom
 have ho:∀c t,o c=some t→o' c=some t:=fun c t h=>by rw[h1 c (m.dom c _ h),h]
 have old:∀c t,o c=some t→t≠(0,0,0)→t≠(0,2,0)→Hf[c]?=H[c]?:=fun c t h hn hn2=>hf c (m.dom c _ h) (by rintro rfl;rw[m.top]at h;grind) (by rw[h];simpa using hn2)
 refine⟨o',{L with ov:=v,hv:=hv},⟨?_,ho _ _ m.top,hb,m.fv,m.blk.frame (fun c=>ho c _) fun c h=>old c _ h sM sM,h3,fun x hx=>?_⟩,⟨hl,h1,fun c hc hn=>hf c hc ?_ (by rw[hn];simp)⟩,rfl,rfl,rfl,rfl⟩
 ·grind
 ·exact⟨(hr x hx).1.frame (fun c=>ho c _) fun c h=>old c _ h sM sM,(hr x hx).2.frame (fun c=>ho c _) fun c h=>old c _ h sM sM⟩
 ·rintro rfl;rw[m.top]at hn;cases hn
theorem J3.Gng{o:Tags}{H Hf:Gb}{rb:Nat}{s:Hp}{L:NG}(m:J3 o H rb s L){l:List (Nat×Nat)}{v:CV}(h:At (Loc H.length) z3 Hf v 2 l.length (Gy l))(hl:H.length≤Hf.length)
  (hb:Hf[rb]?=some ⟨[v,L.ov,L.fv,.i s.born],.rw,0⟩) (hf:∀d,d<H.length→d≠rb→o d≠some (0,1,0)→Hf[d]?=H[d]?):
  ∃o' L',J3 o' Hf rb {s with blk:=l} L'∧KW o H o' Hf∧L'.ov=L.ov∧L'.bv=v∧L'.fv=L.fv:=by
 obtain⟨o',h1,h2,h3⟩:=h.adopt (o:=o) (t:=(0,1,0)) m.dom
 have ho:∀c t,o c=some t→o' c=some t:=fun c t h=>by rw[h1 c (m.dom c _ h),h]
 have old:∀c t,o c=some t→t≠(0,0,0)→t≠(0,1,0)→Hf[c]?=H[c]?:=fun c t h hn hn2=>hf c (m.dom c _ h) (by rintro rfl;rw[m.top]at h;grind) (by rw[h];simpa using hn2)
 refine⟨o',{L with bv:=v},⟨?_,ho _ _ m.top,hb,m.fv,h3,m.objs.frame (fun c=>ho c _) fun c h=>old c _ h sM sM,fun x hx=>?_⟩,⟨hl,h1,fun c hc hn=>hf c hc ?_ (by rw[hn];simp)⟩,rfl,rfl,rfl⟩
 ·grind
 ·have hr:=m.refs x hx
  exact⟨hr.1.frame (fun c=>ho c _) fun c h=>old c _ h sM sM,hr.2.frame (fun c=>ho c _) fun c h=>old c _ h sM sM⟩
 ·rintro rfl;rw[m.top]at hn;cases hn
end Go.Cs
namespace Go.Cs.Tryz
open Go Go.Cs
section
variable {H : Gb} {hb : Nat} {s : Hp} {L : G5}
theorem GfP(p:PH H hb s L)(k:s.Ok){x:Ob}(hx:x∈s.objs){ob:Nat}{dv:CV}(Yi:H[ob]?=some ⟨N8 x .Gd dv,.rw,0⟩) (hno:ob∉L.all hb)
  {E0:Env} (h0:E0 0=.ptr hb 0) (h8:E0 8=.ptr ob 0) (h9:E0 9=.i 0) {r:Option (CX×Env×Gb)} (hr:den P (.loop Px) E0 H=r):
  ∃E' H' rv,r=some (.exit 4,E',H')∧But H H' ob∧H'[ob]?=some ⟨N8 x rv dv,.rw,0⟩∧IL H.length H' rv x.refs∧∀t,t∉wr Px→E' t=E0 t:=by
 have hok:=k.ob x hx
 have hnr:=hok.nr
 have NJ:=k.obj hx
 have hf:=hok.fits
 have hnb:=k.nb
 have hsn:s.nw=64*s.blk.length:=rfl
 obtain⟨x',E',H',e,-,⟨rfl,g,rv,q1,q2⟩,fr⟩:=Gq (p:=P) (c:=Px) (E0:=E0) (H0:=H)
  (fun q E H'=>But H H' ob∧∃(j:Nat)(rv:CV),E 9=.i j∧j≤x.refs.length∧q=x.refs.length-j∧H'[ob]?=some ⟨N8 x rv dv,.rw,0⟩∧IL H.length H' rv (x.refs.take j))
  (fun x' E' H'=>x'=.exit 4∧But H H' ob∧∃rv,H'[ob]?=some ⟨N8 x rv dv,.rw,0⟩∧IL H.length H' rv x.refs) (by
   rintro q E H' hE ⟨g,j,rv,e9,hj,rfl,q1,q2⟩
   have e0:=(hE 0 dK).trans h0
   have e8:=(hE 8 dK).trans h8
   have p':=p.but g hno
   have q1':=q1
   unfold N8 at q1'
   by_cases c:j<x.refs.length
   ·have c':decide ((j:Int)<(x.refs.length:Int))=true:=Gz oM
    obtain⟨X,a1,g1⟩:=U4 p' k x.addr j oM
    have hra:s.Du x.addr j=(x.refs.getD j 0,0):=by
     unfold Hp.Du
     grind
    rw[hra]at a1
    have t1:=Gr.get g1 q1'
    obtain⟨v',X2,b1,b2,b3⟩:=IL.push (q2.keeps g1) (J2 g.len g1.len) (by rw[List.length_take];omega) (x.refs.getD j 0)
    have Gs1:=Gf Yi
    have t2:X2[ob]?=some ⟨[.i x.addr,.i x.id,.i x.refs.length,.i x.data.length,.i x.kd,rv,dv,.bool x.pin],.rw,0⟩:=(b3.keep ob (Gf t1) oM).trans t1
    have hel:elems (X++[⟨[.i (x.refs.getD j 0)],.rw,1⟩]) 1 (.slice X.length 0 1 1 1 false)=some (1,[.i (x.refs.getD j 0)]):=by
     rw[JN oM]
     have:=@N9;exact W0
    have lv:leaf v'=true:=IL.leaf b2
    have w1:IntKind.i64.wrap ((j:Int)+1)=((j+1:Nat):Int):=Gg oM
    have htk:x.refs.take (j+1)=x.refs.take j++[x.refs.getD j 0]:=by simp_all
    unfold UF at a1
    have lt2:=Gf t2
    apply Gm (k':=x.refs.length-(j+1))
    ·simp(disch:=first|exact dz|fail) only[simprocAttr,Gs,↓reduceIte,Px,e0,e8,e9,q1',c',a1,t1,fill,splice,hel,b1,t2,Yb lv,w1]
     rfl
    ·omega
    ·refine⟨?_,j+1,v',uA,oM,rfl,by rw[Va lt2];rfl,?_⟩
     ·refine⟨?_,fun c hc hn=>?_⟩
      ·rw[List.length_set];exact J2 g.len (J2 g1.len b3.len)
      ·rw[KV (Ne.symm hn),b3.keep c (by have:=g.len;have:=g1.len;omega) oM,g1.keep c (by have:=g.len;omega) fun h=>h,g.keep c hc hn]
     ·rw[htk]
      exact b2.frame (fun c h=>h) fun c h=>by
       rw[KV]
       rintro rfl
       have:=(Gl.1 h).1
       omega
   ·have c':decide ((j:Int)<(x.refs.length:Int))=false:=Gw oM
    rw[Qe oM]at q2
    apply Gi (x:=.exit 4)
    ·refine W4 e8 e9 q1' c' ?_
     rfl
    ·simp
    ·exact⟨rfl,g,rv,q1,q2⟩) _ ⟨Keeps.refl _ _,0,.Gd,h9,oM,rfl,Yi,IL.nil⟩
 grind
theorem GiD(p:PH H hb s L)(k:s.Ok){x:Ob}(hx:x∈s.objs){ob:Nat}{rv:CV}(Yi:H[ob]?=some ⟨N8 x rv .Gd,.rw,0⟩) (hno:ob∉L.all hb)
  {E0:Env} (h0:E0 0=.ptr hb 0) (h8:E0 8=.ptr ob 0) (WA:E0 13=.i 0) {r:Option (CX×Env×Gb)} (hr:den P (.loop PU) E0 H=r):
  ∃E' H' dv,r=some (.exit 6,E',H')∧But H H' ob∧H'[ob]?=some ⟨N8 x rv dv,.rw,0⟩∧IL H.length H' dv x.data∧∀t,t∉wr PU→E' t=E0 t:=by
 have hok:=k.ob x hx
 have hnd:=hok.nd
 have NJ:=k.obj hx
 have hf:=hok.fits
 have hnb:=k.nb
 have hsn:s.nw=64*s.blk.length:=rfl
 obtain⟨x',E',H',e,-,⟨rfl,g,dv,q1,q2⟩,fr⟩:=Gq (p:=P) (c:=PU) (E0:=E0) (H0:=H)
  (fun q E H'=>But H H' ob∧∃(j:Nat)(dv:CV),E 13=.i j∧j≤x.data.length∧q=x.data.length-j∧H'[ob]?=some ⟨N8 x rv dv,.rw,0⟩∧IL H.length H' dv (x.data.take j))
  (fun x' E' H'=>x'=.exit 6∧But H H' ob∧∃dv,H'[ob]?=some ⟨N8 x rv dv,.rw,0⟩∧IL H.length H' dv x.data) (by
   rintro q E H' hE ⟨g,j,dv,e13,hj,rfl,q1,q2⟩
   have e0:=(hE 0 dK).trans h0
   have e8:=(hE 8 dK).trans h8
   have p':=p.but g hno
   have q1':=q1
   unfold N8 at q1'
   by_cases c:j<x.data.length
   ·have c':decide ((j:Int)<(x.data.length:Int))=true:=Gz oM
    obtain⟨X,a1,g1⟩:=Gd6 p' k x.addr j oM
    have hra:s.MC x.addr j=(x.data.getD j 0,0):=by
     unfold Hp.MC
     grind
    rw[hra]at a1
    have t1:=Gr.get g1 q1'
    obtain⟨v',X2,b1,b2,b3⟩:=IL.push (q2.keeps g1) (J2 g.len g1.len) (by rw[List.length_take];omega) (x.data.getD j 0)
    have Gs1:=Gf Yi
    have t2:X2[ob]?=some ⟨[.i x.addr,.i x.id,.i x.refs.length,.i x.data.length,.i x.kd,rv,dv,.bool x.pin],.rw,0⟩:=(b3.keep ob (Gf t1) oM).trans t1
    have hel:elems (X++[⟨[.i (x.data.getD j 0)],.rw,1⟩]) 1 (.slice X.length 0 1 1 1 false)=some (1,[.i (x.data.getD j 0)]):=by
     rw[JN oM]
     have:=@N9;exact W0
    have lv:leaf v'=true:=IL.leaf b2
    have w1:IntKind.i64.wrap ((j:Int)+1)=((j+1:Nat):Int):=Gg oM
    have htk:x.data.take (j+1)=x.data.take j++[x.data.getD j 0]:=by simp_all
    unfold UF at a1
    have lt2:=Gf t2
    apply Gm (k':=x.data.length-(j+1))
    ·simp(disch:=first|exact dz|fail) only[simprocAttr,Gs,↓reduceIte,PU,e0,e8,e13,q1',c',a1,t1,fill,splice,hel,b1,t2,Yb lv,w1]
     rfl
    ·omega
    ·refine⟨?_,j+1,v',uA,oM,rfl,by rw[Va lt2];rfl,?_⟩
     ·refine⟨?_,fun c hc hn=>?_⟩
      ·rw[List.length_set];exact J2 g.len (J2 g1.len b3.len)
      ·rw[KV (Ne.symm hn),b3.keep c (by have:=g.len;have:=g1.len;omega) oM,g1.keep c (by have:=g.len;omega) fun h=>h,g.keep c hc hn]
     ·rw[htk]
      exact b2.frame (fun c h=>h) fun c h=>by
       rw[KV]
       rintro rfl
       have:=(Gl.1 h).1
       omega
   ·have c':decide ((j:Int)<(x.data.length:Int))=false:=Gw oM
    rw[Qe oM]at q2
    apply Gi (x:=.exit 6)
    ·refine W4 e8 e13 q1' c' ?_
     rfl
    ·simp
    ·exact⟨rfl,g,dv,q1,q2⟩) _ ⟨Keeps.refl _ _,0,.Gd,WA,oM,rfl,Yi,IL.nil⟩
 grind
theorem Gj1{k0:Nat}(p:PH H hb s L)(k:s.Ok)(hp0:∀c∈L.all hb,c<k0){o:Tags}{rb:Nat}{LR:NG}(m:J3 o H rb ⟨[],[],s.born,s.fwd⟩ LR)(hk0:k0≤H.length)(hfr:∀c t,o c=some t→k0≤c)
  {E0:Env}(h0:E0 0=.ptr hb 0)(h3:E0 3=.ptr rb 0)(h4:E0 4=.i 0){r:Option (CX×Env×Gb)}(hr:den P (.loop Wu) E0 H=r):
  ∃E' H' o' L',r=some (.exit 0,E',H')∧Keeps H H' (fun c=>k0≤c)∧J3 o' H' rb {s with objs:=[]} L'∧(∀c t,o' c=some t→k0≤c)∧∀t,t∉wr Wu→E' t=E0 t:=by
 have hnb:=k.nb
 obtain⟨x',E',H',e,-,⟨rfl,g,o',L',q1,q2⟩,fr⟩:=Gq (p:=P) (c:=Wu) (E0:=E0) (H0:=H)
  (fun q E H'=>Keeps H H' (fun c=>k0≤c)∧∃(j:Nat)(o':Tags)(L':NG),E 4=.i j∧j≤s.blk.length∧q=s.blk.length-j∧J3 o' H' rb {s with blk:=s.blk.take j,objs:=[]} L'∧∀c t,o' c=some t→k0≤c)
  (fun x' E' H'=>x'=.exit 0∧Keeps H H' (fun c=>k0≤c)∧∃(o':Tags)(L':NG),J3 o' H' rb {s with objs:=[]} L'∧∀c t,o' c=some t→k0≤c) (by
   rintro q E H' hE ⟨g,j,o',L',e4,hj,rfl,mj,fj⟩
   have e0:=(hE 0 dK).trans h0
   have e3:=(hE 3 dK).trans h3
   have p':PH H' hb s L:=p.frame fun c hc=>g.keep c (p.lt c hc) (by have:=hp0 c hc;omega)
   have hbl:=KY p' k
   have t0:=mj.cells
   by_cases c:j<s.blk.length
   ·have c':decide ((j:Int)<(s.blk.length:Int))=true:=Gz oM
    obtain⟨hx,hxe⟩:=Hp.Ga5 c
    have hs:=U6 p' k c
    have hsp:run P 56 [.ptr hb 0,.i j] H'=some (.i (s.blk[j]).2,H'):=by
     have:=Og p' k j
     have e2:Hp.space s (j:Int)=((s.blk[j]).2:Int):=by
      unfold Hp.space
      grind
     rw[e2]at this
     exact this
    rw[hxe]at hs
    obtain⟨a,b⟩:∃a b,s.blk[j]=(a,b):=⟨_,_,rfl⟩
    obtain⟨y,hy⟩:∃y,y=s.blk[j]:=⟨_,rfl⟩
    rw[←hy]at hs hsp hx
    have gB:Gr H' (H'++[⟨[.i y.1,.i y.2],.rw,2⟩]):=Gr.app _ _
    have mB:=mj.gr gB
    have hlB:(H'++[(⟨[.i y.1,.i y.2],.rw,2⟩:JE)]).length=H'.length+1:=by simp
    have hltk:(s.blk.take j).length=j:=by rw[List.length_take];omega
    have hAt:=mB.blk
    simp only[hltk]at hAt
    obtain⟨X,a1,a2,a3,a4⟩:=hAt.append (k:=1) (new:=[.i y.1,.i y.2]) oM (by unfold J9;omega) (by simp[Jl]) rfl
    rw[hlB]at a1 a2 a3
    have t1:X[rb]?=_:=(a4 rb (mB.dom _ _ mB.top) (by rw[mB.top];simp)).trans mB.cells
    have hel:elems (H'++[⟨[.i y.1,.i y.2],.rw,2⟩]) 2 (.slice H'.length 0 1 1 2 false)=some (1,[.i y.1,.i y.2]):=by
     rw[JN oM]
     have:=@N9;exact W0
    have htk:s.blk.take (j+1)=s.blk.take j++[y]:=by rw[Nl,hx];rfl
    have Gai:(s.blk.take (j+1)).length=j+1:=by rw[List.length_take];omega
    have Gvv:rb<H'.length:=mj.dom _ _ mj.top
    have t0':=t0
    dsimp only at t0' t1
    obtain⟨o2,L2,r1,r2,r3,r4,r5⟩:=J3.Gng mj (l:=s.blk.take (j+1)) (v:=.slice (H'.length+1) 0 (j+1) (j+1) 2 true) (Hf:=X.set rb ⟨[.slice (H'.length+1) 0 (j+1) (j+1) 2 true,L'.ov,L'.fv,.i s.born],.rw,0⟩)
     (.inr ⟨H'.length+1,true,by rw[Gai],Gl.2 ⟨Nat.le_succ _,rfl⟩,by rw[KV oM,a3,htk,Dg];rfl,by rw[Qa,Gai];omega⟩)
     (by rw[List.length_set,a2];omega) (by grind) (fun d hd hr hn=>by rw[KV (Ne.symm hr),a4 d oM hn,IJ hd])
    have w1:IntKind.i64.wrap ((j:Int)+1)=((j+1:Nat):Int):=Gg oM
    apply Gm (k':=s.blk.length-(j+1))
    ·refine W14 e0 e3 e4 hbl c' t0' hs hsp @JO @Jc hel a1 t1 w1 ?_
     rfl
    ·omega
    ·refine⟨⟨J2 g.len r2.len,fun c hc hn=>?_⟩,j+1,o2,L2,uA,oM,rfl,r1,fun c t h=>?_⟩
     ·rw[r2.keep c (J6 hc g.len) (Je fun h=>?_),g.keep c hc hn]
      cases e:o' c with
      |none=>exact h e
      |some u=>exact hn (fj c u e)
     ·by_cases hc:c<H'.length
      ·rw[r2.tag c hc]at h;exact fj c t h
      ·have:=g.len;omega
   ·have c':decide ((j:Int)<(s.blk.length:Int))=false:=Gw oM
    rw[Qe oM]at mj
    apply Gi (x:=.exit 0)
    ·refine Jb ?_
     rfl
    ·simp
    ·exact⟨rfl,g,o',L',mj,fj⟩) _ ⟨Keeps.refl _ _,0,o,LR,h4,oM,rfl,by simpa using m,hfr⟩
 grind
end
end Go.Cs.Tryz

namespace Go.Cs.Tryz
open Go Go.Cs
section
variable {H : Gb} {hb : Nat} {s : Hp} {L : G5}
theorem GjE{k0:Nat}(p:PH H hb s L)(k:s.Ok)(hp0:∀c∈L.all hb,c<k0){o:Tags}{rb:Nat}{LR:NG}(m:J3 o H rb {s with objs:=[]} LR)(hk0:k0≤H.length)(hfr:∀c t,o c=some t→k0≤c)
  {v6:CV}(hv6:∀H':Gb,(∀c,c<H.length→o c=none→H'[c]?=H[c]?)→LI H' v6 s.all)
  {E0:Env} (h0:E0 0=.ptr hb 0) (h3:E0 3=.ptr rb 0) (h6:E0 6=v6) (h7:E0 7=.i 0) {r:Option (CX×Env×Gb)} (hr:den P (.loop PG) E0 H=r):
  ∃E' H' o' L',r=some (.exit 2,E',H')∧KW o H o' H'∧J3 o' H' rb s L'∧∀t,t∉wr PG→E' t=E0 t:=by
 have few:=k.few
 have hnb:=k.nb
 have hsn:s.nw=64*s.blk.length:=rfl
 have hall:s.all.length=s.objs.length:=by simp[Hp.all]
 have Gv_:∀c,c<k0→o c=none:=fun c hc=>Je fun h=>by
  cases e:o c with
  |none=>exact h e
  |some u=>have:=hfr c u e;omega
 obtain⟨x',E',H',e,-,⟨rfl,o',L',g,q1⟩,fr⟩:=Gq (p:=P) (c:=PG) (E0:=E0) (H0:=H)
  (fun q E H'=>∃(j:Nat)(o':Tags)(L':NG),E 7=.i j∧j≤s.objs.length∧q=s.objs.length-j∧KW o H o' H'∧J3 o' H' rb {s with objs:=s.objs.take j} L')
  (fun x' E' H'=>x'=.exit 2∧∃(o':Tags)(L':NG),KW o H o' H'∧J3 o' H' rb s L') (by
   rintro q E H' hE ⟨j,o',L',e7,hj,rfl,g,mj⟩
   have e0:=(hE 0 dK).trans h0
   have e3:=(hE 3 dK).trans h3
   have e6:=(hE 6 dK).trans h6
   have p':PH H' hb s L:=p.frame fun c hc=>g.keep c (p.lt c hc) (Gv_ c (hp0 c hc))
   have li:=hv6 H' g.keep
   have hvl:=li.len H'
   rw[hall]at hvl
   by_cases c:j<s.objs.length
   ·have c':decide ((j:Int)<(s.objs.length:Int))=true:=Gz oM
    have hx:s.objs[j]?=some s.objs[j]:=Jr c
    obtain⟨x,hxe⟩:∃x,x=s.objs[j]:=⟨_,rfl⟩
    rw[←hxe]at hx
    have hxm:=JV hx
    have hok:=k.ob x hxm
    have NJ:=k.obj hxm
    have hfi:=hok.fits
    have hxa:s.all[j]?=some (x.addr:Int):=by simp[Hp.all,hx]
    obtain⟨lb,lo,i1,i2,i3⟩:=li.at hxa
    have i3a:=i3 H' (Keeps.refl _ _)
    have Gka:=FO p' k x.addr oM
    have hpv:s.pinnedAt x.addr=x.pin:=by unfold Hp.pinnedAt;rw[NJ]
    rw[hpv]at Gka
    obtain⟨Y,hY⟩:∃Y:Gb,Y=H'++[⟨[.i x.addr,.int .i64 0,.int .i64 0,.int .i64 0,.int .i64 0,.Gd,.Gd,.bool x.pin],.rw,0⟩]:=⟨_,rfl⟩
    have gY:Gr H' Y:=by rw[hY];exact Gr.app _ _
    have lY:Y[H'.length]?=some ⟨[.i x.addr,.int .i64 0,.int .i64 0,.int .i64 0,.int .i64 0,.Gd,.Gd,.bool x.pin],.rw,0⟩:=by rw[hY];simp
    have pY:=p'.gr gY
    have hid:=Gbq pY k x.addr oM
    have Gvj:s.GZ x.addr=((x.id:Int),0):=by unfold Hp.GZ;rw[NJ]
    rw[Gvj]at hid
    obtain⟨Y1,hY1⟩:∃Y1:Gb,Y1=Y.set H'.length ⟨[.i x.addr,.i x.id,.int .i64 0,.int .i64 0,.int .i64 0,.Gd,.Gd,.bool x.pin],.rw,0⟩:=⟨_,rfl⟩
    have lY1:Y1[H'.length]?=some ⟨[.i x.addr,.i x.id,.int .i64 0,.int .i64 0,.int .i64 0,.Gd,.Gd,.bool x.pin],.rw,0⟩:=by grind
    have gY1:Gr H' Y1:=by rw[hY1];exact⟨by rw[List.length_set];exact gY.len,fun c hc _=>by grind⟩
    have pY1:=p'.gr gY1
    obtain⟨Y2,hs2,g2⟩:=Ng pY1 k x.addr oM
    have hsv:s.JI x.addr=(GX x.refs.length x.data.length x.kd,0):=by unfold Hp.JI;rw[NJ]
    rw[hsv]at hs2
    have lY2:=Gr.get g2 lY1
    obtain⟨Y3,hY3⟩:∃Y3:Gb,Y3=Y2.set H'.length ⟨N8 x .Gd .Gd,.rw,0⟩:=⟨_,rfl⟩
    have lY3:Y3[H'.length]?=some ⟨N8 x .Gd .Gd,.rw,0⟩:=by grind
    have gY3:Gr H' Y3:=by
     have:=gY1.trans g2
     rw[hY3];exact⟨by rw[List.length_set];exact this.len,fun c hc _=>by rw[KV oM,this.keep c hc fun h=>h]⟩
    have pY3:=p'.gr gY3
    have hno:H'.length∉L.all hb:=fun h=>by have:=p'.lt _ h;omega
    have RS:Hl Y2 H'.length (some ⟨[.i x.addr,.i x.id,.int .i64 0,.int .i64 0,.int .i64 0,.Gd,.Gd,.bool x.pin],.rw,0⟩) 2 [.i x.refs.length,.i x.data.length,.i x.kd]=some Y3:=by
     rw[UD sM (by simp[Jl]),hY3];rfl
    have w1:IntKind.i64.wrap ((j:Int)+1)=((j+1:Nat):Int):=Gg oM
    unfold UF at hid
    unfold GX at hs2
    suffices fin:∃E' H2 o2 L2,den P PG E H'=some (.normal,E',H2)∧E' 7=.i ((j+1:Nat):Int)∧KW o' H' o2 H2∧J3 o2 H2 rb {s with objs:=s.objs.take (j+1)} L2 by
     obtain⟨E',H2,o2,L2,f1,f2,f3,f4⟩:=fin
     exact Gm f1 (k':=s.objs.length-(j+1)) oM ⟨j+1,o2,L2,f2,oM,rfl,g.trans f3,f4⟩
    refine W10 e0 e6 e7 hvl c' i2 i3a Gka @JO @Jc ?_
    rw[←hY]
    refine W3 lY hid e0 ?_
    rw[←hY1]
    refine W4 lY1 hs2 lY2 RS ?_
    generalize hr:den P (.loop Px) _ _=r
    obtain⟨E4,Y4,rv,rfl,b4,l4,il4,fr4⟩:=GfP pY3 k hxm lY3 hno (by simp[Gc,e0]) uA uA hr
    have f0:=fr4 0 dK
    have f8:=fr4 8 dK
    have f3:=fr4 3 dK
    have f7:=fr4 7 dK
    simp only[Gc,Nat.reduceEqDiff,↓reduceIte,e0,e3,e7]at f0 f8 f3 f7
    have pY4:=pY3.but b4 hno
    refine Jb ?_
    generalize hr:den P (.loop PU) _ _=r
    obtain⟨E5,Y5,dv,rfl,b5,l5,il5,fr5⟩:=GiD pY4 k hxm l4 hno (by simp[Gc,f0]) (by simp[Gc,f8]) uA hr
    have h8:=fr5 8 dK
    have h3':=fr5 3 dK
    have h7':=fr5 7 dK
    simp only[Gc,Nat.reduceEqDiff,↓reduceIte,f8,f3,f7]at h8 h3' h7'
    have e34:=b4.len
    have e45:=b5.len
    have e03:=gY3.len
    have G1d:H'.length<Y3.length:=Gf lY3
    have gY4:Gr H' Y4:=⟨oM,fun c hc _=>by rw[b4.keep c oM oM,gY3.keep c hc fun h=>h]⟩
    have gY5:Gr H' Y5:=⟨oM,fun c hc _=>by rw[b5.keep c oM oM,gY4.keep c hc fun h=>h]⟩
    obtain⟨o1,a1,a2,a3⟩:=At.adopt (o:=o') (t:=(0,3,x.id)) il4 fun d u h=>by have:=mj.dom d u h;omega
    have d1:∀d u,o1 d=some u→d<Y4.length:=fun d u h=>by
     grind
    obtain⟨o2,c1,c2,c3⟩:=At.adopt (o:=o1) (t:=(0,4,x.id)) il5 d1
    have ho2:∀d u,o' d=some u→o2 d=some u:=fun d u h=>by
     have hd:=mj.dom d u h
     grind
    have d2:∀d u,o2 d=some u→d<Y5.length:=fun d u h=>by
     grind
    obtain⟨Y6,hY6⟩:∃Y6:Gb,Y6=Y5++[⟨N8 x rv dv,.rw,8⟩]:=⟨_,rfl⟩
    have g56:Gr Y5 Y6:=by rw[hY6];exact Gr.app _ _
    have l6:Y6.length=Y5.length+1:=by rw[hY6];simp
    have gY6:=gY5.trans g56
    have m6:J3 o2 Y6 rb {s with objs:=s.objs.take j} L':=mj.frame (fun d u h=>by have:=d2 d u h;omega) ho2 fun d u h=>gY6.keep d (mj.dom d u h) fun h=>h
    have rvA:At o2 (0,3,x.id) Y6 rv 1 x.refs.length (ints x.refs):=by
     have:At o2 (0,3,x.id) Y5 rv 1 x.refs.length (ints x.refs):=a3.frame (fun d h=>by rw[c1 d (d1 d _ h),h]) fun d h=>by
      have hd:=d1 d _ h
      refine b5.keep d hd ?_
      rintro rfl
      by_cases hh:H'.length<Y3.length
      ·rw[a1 _ hh]at h
       have:=mj.dom _ _ h
       omega
      ·omega
     exact this.keeps g56
    have dvA:At o2 (0,4,x.id) Y6 dv 1 x.data.length (ints x.data):=c3.keeps g56
    have hltk:(s.objs.take j).length=j:=by rw[List.length_take];omega
    have Gai:(s.objs.take (j+1)).length=j+1:=by rw[List.length_take];omega
    have htk:s.objs.take (j+1)=s.objs.take j++[x]:=by rw[Nl,hx];rfl
    have hAt:=m6.objs
    simp only[hltk]at hAt
    have lvr:(N8 x rv dv).all leaf=true:=by simp[N8,Jl,KU,IL.leaf il4,IL.leaf il5]
    obtain⟨X,z1,z2,z3',z4⟩:=hAt.append (k:=1) (new:=N8 x rv dv) oM (by unfold J9;omega) lvr rfl
    have t6:=m6.cells
    have t5:Y5[rb]?=_:=(gY5.keep rb (mj.dom _ _ mj.top) fun h=>h).trans mj.cells
    have tX:X[rb]?=_:=(z4 rb (m6.dom _ _ m6.top) (by rw[m6.top];simp)).trans t6
    have Gvv:rb<H'.length:=mj.dom _ _ mj.top
    have hel:elems Y6 8 (.slice Y5.length 0 1 1 8 false)=some (1,N8 x rv dv):=by
     rw[JN oM,hY6,lX8 (Nat.le_refl _)]
     simp[Ba,N8,Qe]
    have hld:Ba Y5[H'.length]? 0 8=some (N8 x rv dv):=by rw[l5];rfl
    have GfI:fill [.int .i64 0,.int .i64 0,.int .i64 0,.int .i64 0,.int .i64 0,.Gd,.Gd,.bool false] [(0,8,.agg (N8 x rv dv))]=some (N8 x rv dv):=rfl
    have hne:∀y∈s.objs.take j,y.id≠x.id:=fun y hy=>by
     obtain⟨i,hi,he⟩:=List.getElem_of_mem hy
     rw[List.length_take]at hi
     have hy':s.objs[i]?=some y:=by grind
     exact Jg (r:=fun a b:Ob=>a.id≠b.id) k.ids oM hy' hx
    obtain⟨o3,L3,r1,r2,-⟩:=J3.GjZ m6 (l:=s.objs.take (j+1)) (hv:=fun i=>if i=x.id then(rv,dv)else L'.hv i) (v:=.slice Y6.length 0 (j+1) (j+1) 8 true) (born:=s.born) (Hf:=X.set rb ⟨[L'.bv,.slice Y6.length 0 (j+1) (j+1) 8 true,L'.fv,.i s.born],.rw,0⟩)
     (.inr ⟨Y6.length,true,by rw[Gai],Gl.2 ⟨Nat.le_refl _,rfl⟩,by
      rw[KV (by have:=gY6.len;omega),z3',htk,YV]
      have same:∀l:List Ob,(∀y∈l,y.id≠x.id)→Gu (fun i=>if i=x.id then(rv,dv)else L'.hv i) l=Gu L'.hv l:=fun l=>by
       induction l with
       |nil=>intro _;rfl
       |cons y l ih=>
        intro h
        rw[GY,GY,ih fun z hz=>h z (VA _ hz)]
        simp[Gt,h y QT]
      rw[same _ hne]
      simp[Gu,Gt,N8],by rw[Qc,Gai]⟩)
     (by rw[List.length_set,z2];omega) (by grind) (fun d hd hr hn=>by rw[KV (Ne.symm hr),z4 d hd hn])
     (fun y hy=>by
      rw[htk]at hy
      rcases K_.1 hy with hy|hy
      ·rw[if_neg (hne y hy)];exact m6.refs y hy
      grind)
    have Guw:KW o' H' o2 Y6:=⟨gY6.len,fun d hd=>by rw[c1 d oM,a1 d oM],fun d hd _=>gY6.keep d hd fun h=>h⟩
    dsimp only at t5 tX
    refine W5 h8 h3' t5 hld GfI ?_
    rw[←hY6]
    have GtL:Option.map (fun cs=>(1,cs)) (Ba (some ({cells:=N8 x rv dv,mode:=Mode.rw,GN:=8}:JE)) 0 8)=some (1,N8 x rv dv):=rfl
    refine W5 GtL z1 tX h7' w1 ?_
    exact⟨_,_,o3,L3,rfl,uA,Guw.trans r2,r1⟩
   ·have c':decide ((j:Int)<(s.objs.length:Int))=false:=Gw oM
    rw[Qe oM]at mj
    apply Gi (x:=.exit 2)
    ·refine Jb ?_
     rfl
    ·simp
    ·exact⟨rfl,o',L',g,mj⟩) _ ⟨0,o,LR,h7,oM,rfl,⟨Nat.le_refl _,fun _ _=>rfl,fun _ _ _=>rfl⟩,by simpa using m⟩
 grind
end
end Go.Cs.Tryz

namespace Go.Cs.Tryz
open Go Go.Cs
section
variable {H : Gb} {hb : Nat} {s : Hp} {L : G5}
theorem IW(p:PH H hb s L)(k:s.Ok):
  ∃rb H' o L',run P 12 [.ptr hb 0] H=some (.ptr rb 0,H')∧Gr H H'∧J3 o H' rb s L'∧(∀c t,o c=some t→H.length≤c):=by
 have hbi:=GaA p k
 obtain⟨X,hX⟩:∃X:Gb,X=H++[⟨[.Gd,.Gd,.Gd,.i s.born],.rw,0⟩]:=⟨_,rfl⟩
 have gX:Gr H X:=by rw[hX];exact Gr.app _ _
 have lX:X.length=H.length+1:=by rw[hX];simp
 have pX:=p.gr gX
 have m0:J3 (Tags.put (fun _=>none) H.length (0,0,0)) X H.length ⟨[],[],s.born,s.fwd⟩ ⟨.Gd,.Gd,.Gd,fun _=>(.Gd,.Gd)⟩:=by
  refine⟨fun c t hc=>?_,Tags.put_eq,by rw[hX];simp,rfl,.inl ⟨rfl,rfl,.inl rfl⟩,.inl ⟨rfl,rfl,.inl rfl⟩,fun x hx=>by cases hx⟩
  by_cases e:c=H.length
  ·omega
  ·rw[Tags.Jp e]at hc;cases hc
 rw[Gh c12 _ _ sM]
 refine Jb ?_
 rw[←hX]
 generalize hr:den P (.loop Wu) _ _=r
 obtain⟨E1,X1,o1,L1,rfl,g1,m1,f1,fr1⟩:=Gj1 pX k (fun c hc=>p.lt c hc) m0 oM (fun c t hc=>by
  by_cases e:c=H.length
  ·omega
  ·rw[Tags.Jp e]at hc;cases hc) uA uA uA hr
 have a0:=fr1 0 dK
 have a3:=fr1 3 dK
 simp only[Gc,Nat.reduceEqDiff,↓reduceIte]at a0 a3
 have F3:Gr H X1:=⟨J2 gX.len g1.len,fun c hc _=>by rw[g1.keep c oM oM,gX.keep c hc fun h=>h]⟩
 have p1:=p.gr F3
 obtain⟨v6,X2,r2,g2,il⟩:=U3 p1 k
 refine Jb ?_
 generalize hr:den P (.loop PG) _ _=r
 have p2:=p1.gr g2
 have m2:=m1.gr g2
 have il0:=il.li
 obtain⟨E3,X3,o3,L3,rfl,g3,m3,fr3⟩:=GjE (k0:=H.length) p2 k (fun c hc=>p.lt c hc) m2 (J2 F3.len g2.len) f1 (v6:=v6) (fun H' hk=>by
   rcases il with h|⟨c,f,i1,i2,i3,i4⟩
   ·exact .inl h
   ·have hc:=(Gl.1 i2).1
    refine .inr ⟨c,f,i1,Gl.2 ⟨Nat.zero_le _,rfl⟩,?_,i4⟩
    rw[hk c (Gf i3) (Je fun h=>?_),i3]
    cases e2:o1 c with
    |none=>exact h e2
    |some u=>have:=m1.dom c u e2;omega) (by simp[Gc,a0]) (by simp[Gc,a3]) uA uA hr
 have b3:=fr3 3 dK
 simp only[Gc,Nat.reduceEqDiff,↓reduceIte,a3]at b3
 refine Jb ?_
 refine⟨_,_,o3,L3,rfl,?_,m3,fun c t h=>?_⟩
 ·have h1:=F3.len
  have h2:=g2.len
  refine⟨by have:=g3.len;omega,fun c hc _=>?_⟩
  rw[g3.keep c oM (Je fun h=>?_),g2.keep c oM fun h=>h,F3.keep c hc fun h=>h]
  cases e:o1 c with
  |none=>exact h e
  |some u=>have:=f1 c u e;omega
 ·have h1:=F3.len
  have h2:=g2.len
  by_cases hc:c<X2.length
  ·rw[g3.tag c hc]at h;exact f1 c t h
  ·omega
end
end Go.Cs.Tryz
namespace Go.Cs.Tryz
open Go Go.Cs A
abbrev F8:Gn:=T [b 29 .lss 28 27] (S (J 29 (X 2)) (S (B 3 (T [m 30 28,m 5 30] (T [m 31 3,m 32 5,e 33 (.build [i 0,i 0,i 0] [(0,1,t 31),(2,1,t 32)]),e 6 (.new [i 0,i 0,i 0]),st 3 6 33] (S (T [m 34 3,bk 35 .eql 34 0] (I 35 (R [m 36 5,bk 37 .quo 36 16,m 38 5,bk 39 .rem 38 16,f 40 1 6,st 1 40 37,f 41 2 6,st 1 41 39]))) (S (D [⟨m 42 4,0,0,0⟩,⟨m 43 5,1,0,0⟩,⟨x 44 1 42 43,2,0,0⟩,⟨l 45 1 44,3,1,0⟩,⟨bk 46 .neq 45 0,4,0,0⟩,⟨m 47 46,5,0,0⟩,⟨gt 47 (m 48 0),6,0,0⟩,⟨gt 47 (lg 49 3 6),7,1,0⟩,⟨gt 47 (m 50 4),8,0,0⟩,⟨gt 47 (m 51 5),9,0,0⟩,⟨gt 47 (x 52 1 50 51),10,0,0⟩,⟨gt 47 (e 53 (.KH (t 48) [t 49,t 52])),11,3,0⟩,⟨gt 47 (no 54 53),12,0,1⟩,⟨an 55 47 54,13,0,1⟩]) (I 55 .ret)))))) (R [bk 56 .add 28 1,m 28 56])))
abbrev LV:Gn:=T [b 22 .lss 21 20] (S (J 22 (X 0)) (S (B 1 (T [m 23 21,x 24 1 19 21,l 25 1 24,m 3 23,m 4 25] (T [m 26 4,le 27 26,n 28 0] (B 2 (W F8))))) (R [bk 57 .add 21 1,m 21 57])))
def GtS:Gj:=⟨58,0,S (D [⟨l 7 1 1,0,1,0⟩,⟨z 8 7,1,0,0⟩,⟨f 9 1 8,2,0,0⟩,⟨l 10 1 9,3,1,0⟩,⟨l 11 1 1,4,1,0⟩,⟨z 12 11,5,0,0⟩,⟨f 13 2 12,6,0,0⟩,⟨l 14 1 13,7,1,0⟩,⟨l 15 1 1,8,1,0⟩,⟨z 16 15,9,0,0⟩,⟨f 17 3 16,10,0,0⟩,⟨l 18 1 17,11,1,0⟩,⟨e 19 (.buildSlice 1 [.Gd,.Gd,.Gd] 3 [(0,1,t 10),(1,1,t 14),(2,1,t 18)]),12,0,0⟩,⟨le 20 19,13,0,0⟩,⟨n 21 0,14,0,0⟩]) (B 0 (W LV)),[]⟩
theorem GuT:P 240=some GtS:=by kernel_rfl
end Go.Cs.Tryz
namespace Go.Cs
open Go
theorem Nu{l:List CV}{i t:Nat}{v:CV}:entry (l.set i v) t=if t=i then(if i<l.length then v else .undef)else entry l t:=by
 unfold entry
 grind
theorem N_{n t:Nat}{E:Env}:entry ((List.range n).map E) t=if t<n then E t else .undef:=by
 unfold entry
 grind
theorem ZB{F:GQ}{b z:Nat}{ps env args e1:List CV}{H H1 H2:Gb}(h:H[b]?=some (G9 0 ps env z)) (hl:args.length=ps.length) (r0:F (RB+z) (Qx env ps args) H=some (.Jj e1,H1)) (h1:H1[b]?=some (G9 0 ps env z))
  (r1:F (RB+z+1) e1 (H1.set b (G9 1 ps env z))=some (.i 0,H2)) (h2:H2[b]?=some (G9 1 ps env z)):yieldOf F b args H=some (.bool true,H2.set b (G9 0 ps env z)):=by
 unfold yieldOf
 rw[h]
 simp only[G9,hl,and_self,↓reduceIte]
 rw[r0]
 simp only[Option.bind_some,KO,h1,G9,and_self,↓reduceIte]
 simp only[G9]at r1
 rw[r1]
 simp only[Option.bind_some,h2,G9]
 rfl
def rd1(n:Nat)(o:Option (CX×Env×Gb)):Option (CV×Gb):=o.bind fun r=>match r.1 with|.normal=>some (.Jj ((List.range n).map r.2.1),r.2.2)|_=>none
theorem SY{p:J5}{f n:Nat}{body:Gn}{res:List Yh}(hf:p f=some ⟨n,1,body,res⟩)(a:List CV)(H:Gb)(ha:a.length≤n):run p f a H=rd1 n (den p body (entry a) H):=by
 rw[run_eq hf a ha H];rfl
def rd2(o:Option (CX×Env×Gb)):Option (CV×Gb):=o.map fun r=>(.i r.1.code,r.2.2)
theorem Dh{p:J5}{f n:Nat}{body:Gn}{res:List Yh}(hf:p f=some ⟨n,2,body,res⟩)(a:List CV)(H:Gb)(ha:a.length≤n):run p f a H=rd2 (den p body (entry a) H):=by
 rw[run_eq hf a ha H]
 unfold rd2
 cases den p body (entry a) H<;>rfl
theorem GhW{n:Nat}{E:Env}{H:Gb}:rd1 n (some (.normal,E,H))=some (.Jj ((List.range n).map E),H):=rfl
theorem Ww{E:Env}{H:Gb}:rd2 (some (.normal,E,H))=some (.i 0,H):=rfl
theorem Gb_{p:J5}{g:Jy}{ps:List Nat}{k z:Nat}{E:Env}{H:Gb}:den p (.Nc g ps k z) E H=(ND (run p) (E.ev g) ps k z E H).bind (Ux E H.length):=by rw[UE]
theorem OT{p:J5}{g:Jy}{ps:List Nat}{k z f:Nat}{caps:List CV}{E:Env}{H H':Gb}{v:CV}{P0 N0:List CV}{z0:Nat}(hg:E.ev g=.func f caps)(hf:f<1000000)
  (hr:run p f (.yld H.length::caps) (H++[G9 0 (ps.map fun(t:Nat)=>CV.i (t:Int)) ((List.range k).map E) z])=some (v,H'))(hb:H'[H.length]?=some (G9 0 P0 N0 z0)):
  den p (.Nc g ps k z) E H=some (.normal,E,H'.set H.length ⟨[],.dead,0⟩):=by
 rw[Gb_,hg]
 unfold ND
 simp only[hf,↓reduceIte]
 rw[hr]
 simp only[Option.bind_some,Ux,hb,G9,↓reduceIte]
def Nf(l:Nat)(xs:List Int):List (Nat×Nat×Int):=xs.zipIdx.filterMap fun x=>if x.1=0 then none else some (l,x.2,x.1)
def Rt.vis(R:Rt):List (Nat×Nat×Int):=Nf 0 (R.li 0)++(Nf 1 (R.li 1)++Nf 2 (R.li 2))
theorem P5{l j:Nat}{xs:List Int}{x:Int}(h:xs[j]?=some x):Nf l (xs.take (j+1))=Nf l (xs.take j)++(if x=0 then []else [(l,j,x)]):=by
 unfold Nf
 have hj:j<xs.length:=by
  grind
 rw[Nl,h,Z4,List.zipIdx_append,List.filterMap_append]
 grind
theorem Qk{l:Nat}{xs:List Int}{y:Nat×Nat×Int}:y∈Nf l xs↔y.1=l∧xs[y.2.1]?=some y.2.2∧y.2.2≠0:=by
 unfold Nf
 rw[List.mem_filterMap]
 constructor
 ·grind
 ·rintro ⟨h1,h2,h3⟩
  refine⟨(y.2.2,y.2.1),List.mem_zipIdx_iff_getElem?.2 h2,?_⟩
  simp only[h3,↓reduceIte,←h1]
theorem Lv(l:Nat)(xs:List Int):(Nf l xs).length≤xs.length:=by
 unfold Nf
 exact J2 (List.length_filterMap_le _ _) sM
def N7(x:Nat×Nat×Int):List CV:=if x.1=0 then [.i 0,.i ((x.2.1/16:Nat):Int),.i ((x.2.1 % 16:Nat):Int)]else [.i x.1,.i 0,.i x.2.1]
theorem Rt.GpO{R:Rt}{l:Nat}(hl:l≤2):∃q,R.vis=(if l=0 then []else if l=1 then Nf 0 (R.li 0)else Nf 0 (R.li 0)++Nf 1 (R.li 1))++(Nf l (R.li l)++q):=by
 unfold Rt.vis
 match l,hl with
 |0,_=>exact⟨_,rfl⟩
 |1,_=>exact⟨Nf 2 (R.li 2),rfl⟩
 |2,_=>exact⟨[],sM⟩
def Rt.Q7(R:Rt)(l:Nat):List (Nat×Nat×Int):=if l=0 then []else if l=1 then Nf 0 (R.li 0)else if l=2 then Nf 0 (R.li 0)++Nf 1 (R.li 1)else R.vis
theorem Rt.O7{R:Rt}{l:Nat}(hl:l≤2):R.Q7 (l+1)=R.Q7 l++Nf l (R.li l):=by
 match l,hl with
 |0,_=>rfl
 |1,_=>rfl
 |2,_=>simp[Rt.Q7,Rt.vis,List.append_assoc]
theorem Rt.Ghh{R:Rt}{l:Nat}(hl:l≤2){y:Nat×Nat×Int}(h:y∈R.Q7 l):y.1<l:=by
 match l,hl with
 |0,_=>cases h
 |1,_=>have:=(Qk.1 h).1;omega
 |2,_=>
  rcases K_.1 h with h|h
  ·have:=(Qk.1 h).1;omega
  ·have:=(Qk.1 h).1;omega
theorem Rt.Gjk{R:Rt}{l j:Nat}(hl:l≤2){x:Int}(h:(R.li l)[j]?=some x) (hx:x≠0):R.Q7 l++Nf l ((R.li l).take j)++[(l,j,x)]<+:R.vis:=by
 have e1:Nf l ((R.li l).take (j+1))=Nf l ((R.li l).take j)++[(l,j,x)]:=by rw[P5 h,if_neg hx]
 have e2:Nf l ((R.li l).take (j+1))<+:Nf l (R.li l):=by
  have h1:(R.li l).take (j+1)<+:R.li l:=List.take_prefix _ _
  obtain⟨t,ht⟩:=h1
  refine⟨(t.zipIdx ((R.li l).take (j+1)).length).filterMap fun x=>if x.1=0 then none else some (l,x.2,x.1),?_⟩
  have e0:Nf l (R.li l)=Nf l ((R.li l).take (j+1)++t):=by rw[ht]
  rw[e0]
  unfold Nf
  grind
 obtain⟨q,hq⟩:=e2
 have e3:R.Q7 (l+1)<+:R.vis:=by
  match l,hl with
  |0,_=>exact⟨_,rfl⟩
  |1,_=>exact⟨Nf 2 (R.li 2),by simp[Rt.Q7,Rt.vis,List.append_assoc]⟩
  |2,_=>exact⟨[],by simp[Rt.Q7]⟩
 rw[List.append_assoc,←e1]
 refine List.IsPrefix.trans ?_ e3
 rw[Rt.O7 hl,←hq]
 grind
end Go.Cs
namespace Go.Cs.Tryz
open Go Go.Cs
section
variable {H : Gb} {o : Tags} {rb : Nat} {R : Rt} {v : Nat → CV}
def Zv(Inv:List (Nat×Nat×Int)→(Nat→Prop)→Gb→Prop)(W0:Nat→Prop)(H:Gb)(k3:JE)(D:List (Nat×Nat×Int))(H':Gb):Prop:=
 ∃W,Inv D W H'∧Keeps H H' W0∧(∀c,W c→W0 c∨H.length<c)∧H'[H.length]?=some k3
structure Yields(b:Nat)(v:Nat→CV)(R:Rt)(Inv:List (Nat×Nat×Int)→(Nat→Prop)→Gb→Prop):Prop where
 gr:∀D W H' Da,Inv D W H'→Gr H' Da→Inv D W Da
 go:∀D W H' x,Inv D W H'→x.2.2≠0→D++[x]<+:R.vis→ld H'[Gp (v x.1)]? x.2.1=some (.i x.2.2)→
  ∃W' Da,yieldOf (run P) b [.agg (N7 x),.ptr (Gp (v x.1)) x.2.1] H'=some (.bool true,Da)∧Inv (D++[x]) W' Da∧Keeps H' Da W∧∀c,W' c→W c∨H'.length≤c
def Reads(Inv:List (Nat×Nat×Int)→(Nat→Prop)→Gb→Prop)(W0:Nat→Prop)(H:Gb)(v:Nat→CV)(R:Rt):Prop:=
 ∀D W H' l j x,Inv D W H'→Keeps H H' W0→l≤2→(R.li l)[j]?=some x→(∀y∈D,y.1=l→y.2.1≠j)→ld H'[Gp (v l)]? j=some (.i x)
theorem GmK{Inv:List (Nat×Nat×Int)→(Nat→Prop)→Gb→Prop}{W0:Nat→Prop}{b l:Nat}(hl:l≤2)(m:JL o H rb R v)(k:R.Ok)(y:Yields b v R Inv)(hW:∀c,W0 c→c≠H.length)(rdI:Reads Inv W0 H v R){k3:JE}{H1:Gb}(a:Zv Inv W0 H k3 (R.Q7 l) H1)
  {E0:Env}(e0:E0 0=.yld b)(e3:E0 3=.i l)(e4:E0 4=v l)(e27:E0 27=.i (R.li l).length)(e28:E0 28=.i 0){r:Option (CX×Env×Gb)}(hr:den P (.loop F8) E0 H1=r):
  ∃E' H',r=some (.exit 2,E',H')∧Zv Inv W0 H k3 (R.Q7 (l+1)) H'∧∀t,t∉wr F8→E' t=E0 t:=by
 obtain⟨x',E',H',e,-,⟨rfl,q1⟩,fr⟩:=Gq (p:=P) (c:=F8) (E0:=E0) (H0:=H1)
  (fun q E H'=>∃j:Nat,E 28=.i j∧j≤(R.li l).length∧q=(R.li l).length-j∧Zv Inv W0 H k3 (R.Q7 l++Nf l ((R.li l).take j)) H')
  (fun x' E' H'=>x'=.exit 2∧Zv Inv W0 H k3 (R.Q7 (l+1)) H') (by
   rintro q E H' hE ⟨j,e28,hj,rfl,W,iv,kp,nw,t3⟩
   have e0:=(hE 0 dK).trans e0
   have e3:=(hE 3 dK).trans e3
   have e4:=(hE 4 dK).trans e4
   have e27:=(hE 27 dK).trans e27
   have hfl:=k.K8
   have hns:=k.ns
   have hg:=k.g16
   have hq:=k.FV
   have hlen:(R.li l).length≤64:=by
    match l,hl with
    |0,_=>show R.flat.length≤64;omega
    |1,_=>show R.glob.length≤64;omega
    |2,_=>exact hq
   by_cases c:j<(R.li l).length
   ·have c':decide ((j:Int)<((R.li l).length:Int))=true:=Gz oM
    obtain⟨x,hx⟩:∃x,(R.li l)[j]?=some x:=⟨_,Jr c⟩
    obtain⟨tl,a1,a2,a3,a4⟩:=(m.li l hl).pos oM
    have hb:=m.dom _ _ a2
    have ix1:∀X,JM 1 (v l) (.i j) X=some (.ptr (Gp (v l)) j,X):=fun X=>by
     rw[a1];exact(if_pos oM).trans (by simp[Gp])
    have ix2:Qh 1 (v l) (.i j)=okV (.ptr (Gp (v l)) j):=by
     rw[a1];exact(if_pos oM).trans (by simp[Gp])
    have lH:ld H'[Gp (v l)]? j=some (.i x):=rdI _ _ _ l j x iv kp hl hx fun y hy hyl hyj=>by
     rcases K_.1 hy with h|h
     ·have:=Rt.Ghh hl h;omega
     ·have:=(Qk.1 h).2.1
      rw[Zx,if_neg oM]at this
      cases this
    have w1:IntKind.i64.wrap ((j:Int)+1)=((j+1:Nat):Int):=Gg oM
    have d1:(j:Int).tdiv 16=((j/16:Nat):Int):=by grind
    have d2:(j:Int).tmod 16=((j % 16:Nat):Int):=by grind
    have w2:IntKind.i64.wrap ((j/16:Nat):Int)=((j/16:Nat):Int):=Gg oM
    obtain⟨X,hX⟩:∃X:Gb,X=H'++[⟨N7 (l,j,x),.rw,0⟩]:=⟨_,rfl⟩
    have gX:Gr H' X:=by rw[hX];exact Gr.app _ _
    have lX:X.length=H'.length+1:=by rw[hX];simp
    have tX:X[H'.length]?=some ⟨N7 (l,j,x),.rw,0⟩:=by rw[hX];simp
    have hbl:Gp (v l)<H'.length:=J6 hb kp.len
    have lx:ld X[Gp (v l)]? j=some (.i x):=by rw[gX.keep _ hbl fun h=>h];exact lH
    suffices fin:∃E' H2,den P F8 E H'=some (.normal,E',H2)∧E' 28=.i ((j+1:Nat):Int)∧Zv Inv W0 H k3 (R.Q7 l++Nf l ((R.li l).take (j+1))) H2 by
     obtain⟨E',H2,f1,f2,f3⟩:=fin
     exact Gm f1 (k':=(R.li l).length-(j+1)) oM ⟨j+1,f2,oM,rfl,f3⟩
    rw[P5 hx]
    have ivX:=y.gr _ _ _ _ iv gX
    have kpX:Keeps H X W0:=kp.trans ⟨gX.len,fun c hc _=>gX.keep c hc fun h=>h⟩
    have hHl:H.length<H'.length:=Gf t3
    have t3X:X[H.length]?=some k3:=(gX.keep _ hHl fun h=>h).trans t3
    by_cases hx0:x=0
    ·have cx0:(x != 0)=false:=by rw[hx0];rfl
     by_cases hl0:l=0
     ·have cl0:((l:Int)==0)=true:=by rw[hl0];rfl
      have hp:N7 (l,j,x)=[.i l,.i ((j/16:Nat):Int),.i ((j % 16:Nat):Int)]:=by rw[hl0];rfl
      rw[hp]at hX tX
      refine W13 e3 e4 e27 e28 c' @JO @Jc @Ji @Jw d1 d2 w2 cl0 ?_
      rw[←hX]
      refine W5 ix2 lx cx0 e28 w1 ?_
      exact⟨_,_,rfl,uA,by rw[if_pos hx0,List.append_nil];exact⟨W,ivX,kpX,nw,t3X⟩⟩
     ·have cl0:((l:Int)==0)=false:=Iq.2 oM
      have hp:N7 (l,j,x)=[.i l,.i 0,.i j]:=if_neg hl0
      rw[hp]at hX tX
      refine W8 e3 e4 e27 e28 c' @JO @Jc cl0 ?_
      rw[←hX]
      refine W5 ix2 lx cx0 e28 w1 ?_
      exact⟨_,_,rfl,uA,by rw[if_pos hx0,List.append_nil];exact⟨W,ivX,kpX,nw,t3X⟩⟩
    ·have cx0:(x != 0)=true:=by simpa using hx0
     obtain⟨W',X2,hy1,hy2,hy3,hy4⟩:=y.go _ _ _ (l,j,x) ivX hx0 (Rt.Gjk hl hx hx0) lx
     have Gow:Zv Inv W0 H k3 (R.Q7 l++(Nf l ((R.li l).take j)++[(l,j,x)])) X2:=by
      rw[←List.append_assoc]
      refine⟨W',hy2,⟨J2 kpX.len hy3.len,fun c hc hn=>?_⟩,fun c hc=>?_,?_⟩
      ·rw[hy3.keep c (by have:=kpX.len;omega) fun h=>?_,kpX.keep c hc hn]
       grind
      ·grind
      ·rw[hy3.keep _ oM fun h=>?_,t3X]
       grind
     dsimp only at hy1
     by_cases hl0:l=0
     ·have cl0:((l:Int)==0)=true:=by rw[hl0];rfl
      have hp:N7 (l,j,x)=[.i l,.i ((j/16:Nat):Int),.i ((j % 16:Nat):Int)]:=by rw[hl0];rfl
      rw[hp]at hX tX
      refine W13 e3 e4 e27 e28 c' @JO @Jc @Ji @Jw d1 d2 w2 cl0 ?_
      rw[←hX]
      refine W8 ix2 lx cx0 tX e0 e4 @Jo cmY ?_
      rw[←hp]
      refine W3 hy1 e28 w1 ?_
      exact⟨_,_,rfl,uA,by rw[if_neg hx0];exact Gow⟩
     ·have cl0:((l:Int)==0)=false:=Iq.2 oM
      have hp:N7 (l,j,x)=[.i l,.i 0,.i j]:=if_neg hl0
      rw[hp]at hX tX
      refine W8 e3 e4 e27 e28 c' @JO @Jc cl0 ?_
      rw[←hX]
      refine W8 ix2 lx cx0 tX e0 e4 @Jo cmY ?_
      rw[←hp]
      refine W3 hy1 e28 w1 ?_
      exact⟨_,_,rfl,uA,by rw[if_neg hx0];exact Gow⟩
   ·have c':decide ((j:Int)<((R.li l).length:Int))=false:=Gw oM
    rw[Qe oM,←Rt.O7 hl]at iv
    apply Gi (x:=.exit 2)
    ·refine WX ?_
     rfl
    ·simp
    ·exact⟨rfl,W,iv,kp,nw,t3⟩) _ ⟨0,e28,oM,rfl,by simpa[Nf]using a⟩
 grind
theorem Gjw{Inv:List (Nat×Nat×Int)→(Nat→Prop)→Gb→Prop}{W0:Nat→Prop}{b:Nat}{X:Gb}(m:JL o H rb R v)(k:R.Ok)(y:Yields b v R Inv)(hW:∀c,W0 c→c≠H.length)(rdI:Reads Inv W0 H v R)
  (a0:Zv Inv W0 H ⟨[v 0,v 1,v 2],.rw,1⟩ (R.Q7 0) X){E0:Env}(e0:E0 0=.yld b)(e19:E0 19=.slice H.length 0 3 3 1 false)(e20:E0 20=.i 3)(e21:E0 21=.i 0){r:Option (CX×Env×Gb)}(hr:den P (.loop LV) E0 X=r):
  ∃E' H',r=some (.exit 0,E',H')∧Zv Inv W0 H ⟨[v 0,v 1,v 2],.rw,1⟩ (R.Q7 3) H':=by
 obtain⟨x',E',H',e,-,⟨rfl,q1⟩,fr⟩:=Gq (p:=P) (c:=LV) (E0:=E0) (H0:=X)
  (fun q E H'=>∃l:Nat,E 21=.i l∧l≤3∧q=3-l∧Zv Inv W0 H ⟨[v 0,v 1,v 2],.rw,1⟩ (R.Q7 l) H')
  (fun x' E' H'=>x'=.exit 0∧Zv Inv W0 H ⟨[v 0,v 1,v 2],.rw,1⟩ (R.Q7 3) H') (by
   rintro q E H' hE ⟨l,e21,hl,rfl,a⟩
   have e0:=(hE 0 dK).trans e0
   have e19:=(hE 19 dK).trans e19
   have e20:=(hE 20 dK).trans e20
   obtain⟨W,iv,kp,nw,t3⟩:=id a
   by_cases c:l<3
   ·have c':decide ((l:Int)<3)=true:=Gz oM
    have ldv:ld (some (⟨[v 0,v 1,v 2],.rw,1⟩:JE)) l=some (v l):=by
     match l,c with
     |0,_=>rfl
     |1,_=>rfl
     |2,_=>rfl
    have vl:=(m.li l oM).len H'
    have w1:IntKind.i64.wrap ((l:Int)+1)=((l+1:Nat):Int):=Gg oM
    suffices fin:∃E' H2,den P LV E H'=some (.normal,E',H2)∧E' 21=.i ((l+1:Nat):Int)∧Zv Inv W0 H ⟨[v 0,v 1,v 2],.rw,1⟩ (R.Q7 (l+1)) H2 by
     obtain⟨E',H2,f1,f2,f3⟩:=fin
     exact Gm f1 (k':=3-(l+1)) oM ⟨l+1,f2,oM,rfl,f3⟩
    refine WX ?_
    generalize hr:den P (.loop F8) _ _=r
    obtain⟨E2,H2,rfl,a2,fr2⟩:=GmK (l:=l) oM m k y hW rdI a (by simp[Gc,e0]) uA uA uA uA hr
    have f21:=fr2 21 dK
    simp only[Gc,Nat.reduceEqDiff,↓reduceIte,e21]at f21
    refine WX ?_
    exact⟨_,_,rfl,uA,a2⟩
   ·have c':decide ((l:Int)<3)=false:=Gw oM
    have h3:l=3:=by omega
    subst h3
    apply Gi (x:=.exit 0)
    ·refine WX ?_
     rfl
    ·simp
    ·exact⟨rfl,a⟩) _ ⟨0,e21,oM,rfl,a0⟩
 exact⟨E',H',hr.symm.trans e,q1⟩
theorem Mh{Inv:List (Nat×Nat×Int)→(Nat→Prop)→Gb→Prop}{W0:Nat→Prop}{b bx:Nat}(m:JL o H rb R v)(k:R.Ok)(y:Yields b v R Inv)(hW:∀c,W0 c→c≠H.length)(rdI:Reads Inv W0 H v R)(iv:Inv [] W0 H)
  (hbx:H[bx]?=some ⟨[.ptr rb 0],.rw,0⟩):
  ∃W H',run P 240 [.yld b,.ptr bx 0] H=some (.Jj [],H')∧Inv R.vis W H'∧Keeps H H' W0∧(∀c,W c→W0 c∨H.length<c):=by
 have hc:=m.cells
 obtain⟨X,hX⟩:∃X:Gb,X=H++[⟨[v 0,v 1,v 2],.rw,1⟩]:=⟨_,rfl⟩
 have gX:Gr H X:=by rw[hX];exact Gr.app _ _
 have tX:X[H.length]?=some ⟨[v 0,v 1,v 2],.rw,1⟩:=by rw[hX];simp
 have lf:leaf (v 0)=true∧leaf (v 1)=true∧leaf (v 2)=true:=⟨(m.li 0 oM).leaf,(m.li 1 oM).leaf,(m.li 2 oM).leaf⟩
 have a0:Zv Inv W0 H ⟨[v 0,v 1,v 2],.rw,1⟩ (R.Q7 0) X:=⟨W0,y.gr _ _ _ _ iv gX,⟨gX.len,fun c hc _=>gX.keep c hc fun h=>h⟩,fun c h=>.inl h,tX⟩
 obtain⟨lf0,lf1,lf2⟩:=lf
 have cl:∀w:CV,leaf w=true→cellsOf w=[w]:=fun w h=>by cases w<;>first|rfl|cases h
 have c0:=cl _ lf0
 have c1:=cl _ lf1
 have c2:=cl _ lf2
 rw[Gh GuT _ _ sM]
 refine Jb ?_
 rw[←hX]
 generalize hr:den P (.loop LV) _ _=r
 obtain⟨E',H',rfl,q1⟩:=Gjw m k y hW rdI a0 (by simp[Gc,entry]) uA uA uA hr
 obtain⟨W,iv2,kp,nw,t3⟩:=q1
 refine WX ?_
 exact⟨_,_,rfl,iv2,kp,nw⟩
theorem Mi{Inv:List (Nat×Nat×Int)→(Nat→Prop)→Gb→Prop}{W0:Nat→Prop}{b bx:Nat}(m:JL o H rb R v)(k:R.Ok)(y:Yields b v R Inv)(hW:∀c,W0 c→o c=none∧c≠H.length)(iv:Inv [] W0 H)
  (hbx:H[bx]?=some ⟨[.ptr rb 0],.rw,0⟩):
  ∃W H',run P 240 [.yld b,.ptr bx 0] H=some (.Jj [],H')∧Inv R.vis W H'∧Keeps H H' W0∧(∀c,W c→W0 c∨H.length<c):=
 Mh m k y (fun c h=>(hW c h).2) (fun D W H' l j x _ kp hl hx _=>by
  obtain⟨tl,-,a2,a3,-⟩:=(m.li l hl).pos (by have:=Gf hx;omega)
  rw[kp.keep _ (m.dom _ _ a2) fun h=>(by rw[(hW _ h).1]at a2;cases a2),a3,Ym]
  simp[ints,hx]) iv hbx
end
end Go.Cs.Tryz
namespace Go.Cs.Tryz
open Go Go.Cs A
def Ggk:Gj:=⟨26,1,R [m 5 12],[]⟩
theorem GgN:P 1004544=some Ggk:=by kernel_rfl
def Ghb:Gj:=⟨26,2,B 1 (S (D [⟨l 13 1 3,0,1,0⟩,⟨m 14 5,1,0,0⟩,⟨z 15 14,2,0,0⟩,⟨l 16 1 15,3,1,0⟩,⟨q2 17 54 13 16,4,3,0⟩,⟨no 18 17,5,0,1⟩]) (I 18 (D [⟨l 19 1 3,0,1,0⟩,⟨m 20 5,1,0,0⟩,⟨z 21 20,2,0,0⟩,⟨l 22 1 21,3,1,0⟩,⟨e 23 (.buildSlice 1 [i 0] 1 [(0,1,t 22)]),4,0,0⟩,⟨ap 24 1 19 23,5,3,0⟩,⟨st 1 3 24,6,3,1⟩]))),[]⟩
theorem Gae:P 1004545=some Ghb:=by kernel_rfl
end Go.Cs.Tryz
namespace Go.Cs
open Go
def only(lb:Nat):Tags:=fun c=>if c=lb then some z3 else none
theorem Ka{lb c:Nat}{t:Tag}:only lb c=some t↔c=lb∧t=z3:=by
 unfold only
 grind
theorem At.il{o:Tags}{t:Tag}{H:Gb}{v:CV}{e n:Nat}{cs:List CV}(h:At o t H v e n cs):At (Loc 0) z3 H v e n cs:=by
 rcases h with h|⟨b,tl,h0,h1,h2,h3⟩
 ·exact .inl h
 ·exact .inr ⟨b,tl,h0,Gl.2 ⟨Nat.zero_le _,rfl⟩,h2,h3⟩
def Uf(acc:List Int)(x:Nat×Nat×Int):List Int:=if x.2.2∈acc then acc else acc++[x.2.2]
def G_(D:List (Nat×Nat×Int)):List Int:=D.foldl Uf []
theorem Gbe(acc:List Int)(x:Nat×Nat×Int):(Uf acc x).length≤acc.length+1:=by
 unfold Uf
 split
 ·omega
 ·simp
theorem QB(D:List (Nat×Nat×Int)):(G_ D).length≤D.length:=by
 have key:∀(D:List (Nat×Nat×Int))(acc:List Int),(D.foldl Uf acc).length≤acc.length+D.length:=fun D=>by
  induction D with
  |nil=>intro acc;simp
  |cons x D ih=>
   intro acc
   rw[List.foldl_cons]
   have:=ih (Uf acc x)
   have:=Gbe acc x
   grind
 have:=key D []
 simpa[G_]using this
theorem VR{D:List (Nat×Nat×Int)}{v:Int}:v∈G_ D↔∃x∈D,x.2.2=v:=by
 have key:∀(D:List (Nat×Nat×Int))(acc:List Int),v∈D.foldl Uf acc↔v∈acc∨∃x∈D,x.2.2=v:=fun D=>by
  induction D with
  |nil=>intro acc;simp
  |cons x D ih=>
   intro acc
   rw[List.foldl_cons,ih]
   have h1:v∈Uf acc x↔v∈acc∨x.2.2=v:=by
    unfold Uf
    grind
   rw[h1]
   simp[or_assoc]
 have:=key D []
 simpa[G_]using this
theorem Y_(D:List (Nat×Nat×Int))(x:Nat×Nat×Int):G_ (D++[x])=Uf (G_ D) x:=by simp[G_]
theorem Rt.Dl{R:Rt}{v:Int}:(∃x∈R.vis,x.2.2=v)↔v∈R.vals∧v≠0:=by
 have h1:∀l:Nat,(∃x∈Nf l (R.li l),x.2.2=v)↔v∈R.li l∧v≠0:=fun l=>by
  constructor
  ·rintro ⟨x,hx,rfl⟩
   obtain⟨-,h2,h3⟩:=Qk.1 hx
   exact⟨JV h2,h3⟩
  ·rintro ⟨h2,h3⟩
   obtain⟨i,hi⟩:=List.mem_iff_getElem?.1 h2
   exact⟨(l,i,v),Qk.2 ⟨rfl,hi,h3⟩,rfl⟩
 have h2:(∃x∈R.vis,x.2.2=v)↔(∃x∈Nf 0 (R.li 0),x.2.2=v)∨(∃x∈Nf 1 (R.li 1),x.2.2=v)∨(∃x∈Nf 2 (R.li 2),x.2.2=v):=by
  unfold Rt.vis
  constructor
  ·grind
  ·rintro (⟨x,h,he⟩|⟨x,h,he⟩|⟨x,h,he⟩)
   ·exact⟨x,by simp[h],he⟩
   ·exact⟨x,by simp[h],he⟩
   ·exact⟨x,by simp[h],he⟩
 rw[h2,h1,h1,h1]
 simp only[Rt.vals,Rt.li,K_]
 grind
theorem Rt.Ok.Uw{R:Rt}(k:R.Ok):R.vis.length≤144:=by
 have h0:=Lv 0 (R.li 0)
 have h1:=Lv 1 (R.li 1)
 have h2:=Lv 2 (R.li 2)
 have e0:(R.li 0).length=16*R.slots.length:=k.K8
 have e1:(R.li 1).length=16:=k.g16
 have e2:(R.li 2).length≤64:=k.FV
 have hns:=k.ns
 unfold Rt.vis
 simp only[Qi]
 omega
end Go.Cs
namespace Go.Cs.Tryz
open Go Go.Cs
section
variable {H : Gb} {o : Tags} {rb : Nat} {R : Rt} {v : Nat → CV}
def Giv(b w:Nat)(ps env:List CV)(D:List (Nat×Nat×Int))(W:Nat→Prop)(H:Gb):Prop:=
 ∃lb lv,H[b]?=some (G9 0 ps env 4544)∧H[w]?=some ⟨[lv],.rw,0⟩∧b≠w∧lb≠b∧lb≠w∧At (only lb) z3 H lv 1 (G_ D).length (ints (G_ D))∧∀c,W c↔c=b∨c=w∨c=lb
theorem GgQ{b w:Nat}{env:List CV}(he:env.length=26)(h3:entry env 3=.ptr w 0)(k:R.Ok):Yields b v R (Giv b w [.i 11,.i 12] env) where
 gr:=fun D W H' Da=>by
  rintro ⟨lb,lv,h1,h2,h3,h4,h5,h6,h7⟩ g
  exact⟨lb,lv,g.get h1,g.get h2,h3,h4,h5,At.keeps h6 g,h7⟩
 go:=fun D W H' x=>by
  rintro ⟨lb,lv,h1,h2,h3',h4,h5,h6,h7⟩ hx hp hl
  have hn:(G_ D).length≤144:=by
   have h8:=QB D
   have h9:=hp.length_le
   have:=k.Uw
   grind
  have r0:run P (1000000+4544) (Qx env [.i 11,.i 12] [.agg (N7 x),.ptr (Gp (v x.1)) x.2.1]) H'=some (.Jj ((List.range 26).map ((entry ((env.set 11 (.agg (N7 x))).set 12 (.ptr (Gp (v x.1)) x.2.1))).upd 5 (.ptr (Gp (v x.1)) x.2.1))),H'):=by
   rw[show(1000000+4544:Nat)=1004544 from rfl,SY GgN _ _ (by simp[Qx,he])]
   rw[show Qx env [.i 11,.i 12] [.agg (N7 x),.ptr (Gp (v x.1)) x.2.1]=(env.set 11 (.agg (N7 x))).set 12 (.ptr (Gp (v x.1)) x.2.1)from rfl]
   have e12:entry ((env.set 11 (.agg (N7 x))).set 12 (.ptr (Gp (v x.1)) x.2.1)) 12=.ptr (Gp (v x.1)) x.2.1:=by rw[Nu,if_pos rfl,if_pos (by rw[List.length_set];omega)]
   have:=@GhW;exact W0
  obtain⟨e1,he1⟩:∃e1,e1=(List.range 26).map ((entry ((env.set 11 (.agg (N7 x))).set 12 (.ptr (Gp (v x.1)) x.2.1))).upd 5 (.ptr (Gp (v x.1)) x.2.1)):=⟨_,rfl⟩
  rw[←he1]at r0
  have q3:entry e1 3=.ptr w 0:=by
   rw[he1,N_,if_pos oM]
   simp only[Gc,Nat.reduceEqDiff,↓reduceIte]
   rw[Nu,if_neg oM,Nu,if_neg oM,h3]
  have q5:entry e1 5=.ptr (Gp (v x.1)) x.2.1:=by
   rw[he1,N_,if_pos oM]
   simp only[Gc,Nat.reduceEqDiff,↓reduceIte]
  have le1:e1.length≤26:=by rw[he1];simp
  obtain⟨X,hX⟩:∃X:Gb,X=H'.set b (G9 1 [.i 11,.i 12] env 4544):=⟨_,rfl⟩
  have hbl:=Gf h1
  have xb:X[b]?=some (G9 1 [.i 11,.i 12] env 4544):=by rw[hX,Va hbl]
  have xo:∀c,c≠b→X[c]?=H'[c]?:=fun c hc=>by grind
  have xw:X[w]?=some ⟨[lv],.rw,0⟩:=by rw[xo w (Ne.symm h3'),h2]
  have xl:ld X[Gp (v x.1)]? x.2.1=some (.i x.2.2):=by
   by_cases c:Gp (v x.1)=b
   ·rw[c,h1]at hl;cases hl
   ·rw[xo _ c,hl]
  have x6:At (only lb) z3 X lv 1 (G_ D).length (ints (G_ D)):=h6.frame (fun _ h=>h) fun c h=>by rw[Ka]at h;rw[xo c (by rw[h.1];exact h4)]
  have hcon:=contains (IL.sl (At.il x6)) x.2.2 oM
  have hany:((G_ D).any fun y=>x.2.2==y)=decide (x.2.2∈G_ D):=by
   grind
  rw[hany]at hcon
  have rr:RB+4544+1=1004545:=rfl
  have lX:X.length=H'.length:=by rw[hX,List.length_set]
  by_cases hc:x.2.2∈G_ D
  ·have r1:run P (RB+4544+1) e1 X=some (.i 0,X):=by
    rw[rr,Dh Gae _ _ le1]
    exact V7 q3 q5 xw xl hcon hc @Ww
   have hy:=ZB (F:=run P) (args:=[.agg (N7 x),.ptr (Gp (v x.1)) x.2.1]) h1 rfl r0 h1 (by rw[←hX];exact r1) xb
   refine⟨W,_,hy,⟨lb,lv,by rw[Va oM],by rw[KV h3',xw],h3',h4,h5,?_,h7⟩,⟨by rw[List.length_set];omega,fun c hc hn=>?_⟩,fun c h=>.inl h⟩
   ·rw[Y_,Uf,if_pos hc]
    exact x6.frame (fun _ h=>h) fun c h=>by rw[Ka]at h;grind
   grind
  ·obtain⟨X3,YC⟩:∃X3:Gb,X3=X++[⟨[.i x.2.2],.rw,1⟩]:=⟨_,rfl⟩
   have g3:Gr X X3:=by rw[YC];exact Gr.app _ _
   have l3:X3.length=X.length+1:=by rw[YC];simp
   have lbn:lb=H'.length→(G_ D).length=0:=fun h=>by
    rcases x6 with h8|⟨c,f,-,h9,h10,-⟩
    ·exact h8.1
    ·rw[Ka]at h9;have:=Gf h10;omega
   obtain⟨X4,a1,a2,a3,a4⟩:=At.append (At.keeps x6 g3) (k:=1) (new:=[.i x.2.2]) oM (by unfold J9;omega) (by simp[Jl]) rfl
   have lwb:=Gf h2
   have t3w:X3[w]?=some ⟨[lv],.rw,0⟩:=g3.get xw
   have a4':∀c,c<X3.length→c≠lb→X4[c]?=X3[c]?:=fun c hc hn=>a4 c hc fun h=>by rw[Ka]at h;exact hn h.1
   have t4w:X4[w]?=some ⟨[lv],.rw,0⟩:=by rw[a4' w oM (Ne.symm h5),t3w]
   have t4b:X4[b]?=some (G9 1 [.i 11,.i 12] env 4544):=by grind
   have hel:elems X3 1 (.slice X.length 0 1 1 1 false)=some (1,[.i x.2.2]):=by
    rw[JN oM,YC]
    have:=@N9;exact W0
   obtain⟨X5,BG⟩:∃X5:Gb,X5=X4.set w ⟨[.slice X3.length 0 ((G_ D).length+1) ((G_ D).length+1) 1 true],.rw,0⟩:=⟨_,rfl⟩
   have l5:X5.length=X4.length:=by rw[BG,List.length_set]
   have t5b:X5[b]?=some (G9 1 [.i 11,.i 12] env 4544):=by grind
   have t5w:X5[w]?=some ⟨[.slice X3.length 0 ((G_ D).length+1) ((G_ D).length+1) 1 true],.rw,0⟩:=by grind
   have r1:run P (RB+4544+1) e1 X=some (.i 0,X5):=by
    rw[rr,Dh Gae _ _ le1]
    refine W8 q3 q5 xw xl hcon hc @JO @Jc ?_
    rw[←YC]
    refine W4 a1 t4w q3 @Ww ?_
    rw[←BG]
   have hy:=ZB (F:=run P) (args:=[.agg (N7 x),.ptr (Gp (v x.1)) x.2.1]) h1 rfl r0 h1 (by rw[←hX];exact r1) t5b
   have e5:G_ (D++[x])=G_ D++[x.2.2]:=by rw[Y_,Uf,if_neg hc]
   refine⟨fun c=>c=b∨c=w∨c=X3.length,_,hy,⟨X3.length,_,by rw[Va oM],by rw[KV h3',t5w],h3',oM,oM,?_,fun c=>Iff.rfl⟩,⟨by rw[List.length_set];omega,fun c hc hn=>?_⟩,fun c h=>?_⟩
   ·rw[e5]
    refine .inr ⟨X3.length,true,sM,Ka.2 ⟨rfl,rfl⟩,?_,by simp[ints]⟩
    rw[KV oM,BG,KV oM,a3,U2]
    rfl
   ·grind
   grind
end
end Go.Cs.Tryz
namespace Go.Cs.Tryz
open Go Go.Cs A
def C81:Gj:=⟨17,0,T [e 2 (.Km (c .Gd))] (S (T [m 5 0,q1 6 161 5,no 7 6] (I 7 (Q [e 2 (.Km (c .Gd))]))) (T [e 3 (.new [.Gd])] (S (T [m 8 0,q1 9 169 8] (B 0 (.Nc (t 9) [10,11] 17 2592))) (Q [l 16 1 3,m 2 16])))),[r 2]⟩
theorem c81:P 81=some C81:=by kernel_rfl
def GgD:Gj:=⟨17,1,R [e 4 (.new [i 0,i 0,i 0]),st 3 4 10],[]⟩
theorem GgV:P 1002592=some GgD:=by kernel_rfl
def GiE:Gj:=⟨17,2,B 1 (R [l 12 1 3,lg 13 3 4,e 14 (.buildSlice 3 [i 0,i 0,i 0] 1 [(0,3,t 13)]),ap 15 3 12 14,st 1 3 15]),[]⟩
theorem Gis:P 1002593=some GiE:=by kernel_rfl
def Gqv:Gj:=⟨26,0,T [e 2 (.Km (c .Gd))] (S (T [m 6 0,q1 7 161 6,no 8 7] (I 8 (Q [e 2 (.Km (c .Gd))]))) (T [e 3 (.new [.Gd])] (S (T [m 9 0,q1 10 169 9] (B 0 (.Nc (t 10) [11,12] 26 4544))) (Q [l 25 1 3,m 2 25])))),[r 2]⟩
theorem GsF:P 142=some Gqv:=by kernel_rfl
def Gsq:Gj:=⟨4,0,T [bo 1 0,e 2 (.Km (c .nilFunc))] (Q [e 3 (.Ug 240 [t 1]),m 2 3]),[r 2]⟩
theorem Gmp:P 169=some Gsq:=by kernel_rfl
end Go.Cs.Tryz
namespace Go.Cs
open Go
def Zq(D:List (Nat×Nat×Int)):List CV:=(D.map N7).flatten
theorem Dx(x:Nat×Nat×Int):(N7 x).length=3:=by unfold N7;split<;>rfl
theorem O9(D:List (Nat×Nat×Int)):(Zq D).length=D.length*3:=by
 induction D with
 |nil=>rfl
 |cons x D ih=>simp only[Zq,List.map_cons,List.flatten_cons,Qi,Dx,List.length_cons]at ih⊢;omega
theorem X_(D D2:List (Nat×Nat×Int)):Zq (D++D2)=Zq D++Zq D2:=by simp[Zq]
theorem XO(x:Nat×Nat×Int):(N7 x).all leaf=true:=by unfold N7;split<;>simp[Jl]
end Go.Cs
namespace Go.Cs.Tryz
open Go Go.Cs
section
variable {H : Gb} {o : Tags} {rb : Nat} {R : Rt} {v : Nat → CV}
def GeT(b w:Nat)(ps env:List CV)(D:List (Nat×Nat×Int))(W:Nat→Prop)(H:Gb):Prop:=
 ∃lb lv,H[b]?=some (G9 0 ps env 2592)∧H[w]?=some ⟨[lv],.rw,0⟩∧b≠w∧lb≠b∧lb≠w∧At (only lb) z3 H lv 3 D.length (Zq D)∧∀c,W c↔c=b∨c=w∨c=lb
theorem GeV{b w:Nat}{env:List CV}(he:env.length=17)(h3:entry env 3=.ptr w 0)(k:R.Ok):Yields b v R (GeT b w [.i 10,.i 11] env) where
 gr:=fun D W H' Da=>by
  rintro ⟨lb,lv,h1,h2,h3,h4,h5,h6,h7⟩ g
  exact⟨lb,lv,g.get h1,g.get h2,h3,h4,h5,At.keeps h6 g,h7⟩
 go:=fun D W H' x=>by
  rintro ⟨lb,lv,h1,h2,h3',h4,h5,h6,h7⟩ hx hp hl
  have hn:D.length≤144:=by
   have h9:=hp.length_le
   have:=k.Uw
   grind
  obtain⟨Y,hY⟩:∃Y:Gb,Y=H'++[⟨N7 x,.rw,0⟩]:=⟨_,rfl⟩
  have gY:Gr H' Y:=by rw[hY];exact Gr.app _ _
  have lY:Y.length=H'.length+1:=by rw[hY];simp
  have tY:Y[H'.length]?=some ⟨N7 x,.rw,0⟩:=by rw[hY];simp
  have r0:run P (1000000+2592) (Qx env [.i 10,.i 11] [.agg (N7 x),.ptr (Gp (v x.1)) x.2.1]) H'=some (.Jj ((List.range 17).map ((entry ((env.set 10 (.agg (N7 x))).set 11 (.ptr (Gp (v x.1)) x.2.1))).upd 4 (.ptr H'.length 0))),Y):=by
   rw[show(1000000+2592:Nat)=1002592 from rfl,SY GgV _ _ (by simp[Qx,he])]
   rw[show Qx env [.i 10,.i 11] [.agg (N7 x),.ptr (Gp (v x.1)) x.2.1]=(env.set 10 (.agg (N7 x))).set 11 (.ptr (Gp (v x.1)) x.2.1)from rfl]
   have e10:entry ((env.set 10 (.agg (N7 x))).set 11 (.ptr (Gp (v x.1)) x.2.1)) 10=.agg (N7 x):=by rw[Nu,if_neg oM,Nu,if_pos rfl,if_pos oM]
   have hpl:∃p0 p1 p2,N7 x=[.i p0,.i p1,.i p2]:=by unfold N7;split<;>exact⟨_,_,_,rfl⟩
   obtain⟨p0,p1,p2,hpl⟩:=hpl
   generalize entry ((env.set 10 (.agg (N7 x))).set 11 (.ptr (Gp (v x.1)) x.2.1))=EV at e10⊢
   rw[hpl]at e10 hY
   refine W2 @GhW e10 ?_
   rw[←hY]
  obtain⟨e1,he1⟩:∃e1,e1=(List.range 17).map ((entry ((env.set 10 (.agg (N7 x))).set 11 (.ptr (Gp (v x.1)) x.2.1))).upd 4 (.ptr H'.length 0)):=⟨_,rfl⟩
  rw[←he1]at r0
  have q3:entry e1 3=.ptr w 0:=by
   rw[he1,N_,if_pos oM]
   simp only[Gc,Nat.reduceEqDiff,↓reduceIte]
   rw[Nu,if_neg oM,Nu,if_neg oM,h3]
  have q4:entry e1 4=.ptr H'.length 0:=by
   rw[he1,N_,if_pos oM]
   simp only[Gc,Nat.reduceEqDiff,↓reduceIte]
  have le1:e1.length≤17:=by rw[he1];simp
  obtain⟨X,hX⟩:∃X:Gb,X=Y.set b (G9 1 [.i 10,.i 11] env 2592):=⟨_,rfl⟩
  have hbl:=Gf h1
  have y1:=gY.get h1
  have xb:X[b]?=some (G9 1 [.i 10,.i 11] env 2592):=by grind
  have xo:∀c,c≠b→X[c]?=Y[c]?:=fun c hc=>by grind
  have xw:X[w]?=some ⟨[lv],.rw,0⟩:=by rw[xo w (Ne.symm h3'),gY.get h2]
  have xp:X[H'.length]?=some ⟨N7 x,.rw,0⟩:=by rw[xo _ oM,tY]
  have x6:At (only lb) z3 X lv 3 D.length (Zq D):=(At.keeps h6 gY).frame (fun _ h=>h) fun c h=>by rw[Ka]at h;rw[xo c (by rw[h.1];exact h4)]
  have rr:RB+2592+1=1002593:=rfl
  have lX:X.length=Y.length:=by rw[hX,List.length_set]
  obtain⟨X3,YC⟩:∃X3:Gb,X3=X++[⟨N7 x,.rw,3⟩]:=⟨_,rfl⟩
  have g3:Gr X X3:=by rw[YC];exact Gr.app _ _
  have l3:X3.length=X.length+1:=by rw[YC];simp
  obtain⟨X4,a1,a2,a3,a4⟩:=At.append (At.keeps x6 g3) (k:=1) (new:=N7 x) oM (by unfold J9;omega) (XO x) (Dx x)
  have lwb:=Gf h2
  have t3w:X3[w]?=some ⟨[lv],.rw,0⟩:=g3.get xw
  have a4':∀c,c<X3.length→c≠lb→X4[c]?=X3[c]?:=fun c hc hn=>a4 c hc fun h=>by rw[Ka]at h;exact hn h.1
  have t4w:X4[w]?=some ⟨[lv],.rw,0⟩:=by rw[a4' w oM (Ne.symm h5),t3w]
  have t4b:X4[b]?=some (G9 1 [.i 10,.i 11] env 2592):=by grind
  have hel:elems X3 3 (.slice X.length 0 1 1 3 false)=some (1,N7 x):=by
   have hpl:∃p0 p1 p2,N7 x=[.i p0,.i p1,.i p2]:=by unfold N7;split<;>exact⟨_,_,_,rfl⟩
   obtain⟨p0,p1,p2,hpl⟩:=hpl
   rw[hpl]at YC⊢
   rw[JN oM,YC]
   have:=@N9;exact W0
  obtain⟨X5,BG⟩:∃X5:Gb,X5=X4.set w ⟨[.slice X3.length 0 (D.length+1) (D.length+1) 3 true],.rw,0⟩:=⟨_,rfl⟩
  have l5:X5.length=X4.length:=by rw[BG,List.length_set]
  have t5b:X5[b]?=some (G9 1 [.i 10,.i 11] env 2592):=by grind
  have t5w:X5[w]?=some ⟨[.slice X3.length 0 (D.length+1) (D.length+1) 3 true],.rw,0⟩:=by grind
  have r1:run P (RB+2592+1) e1 X=some (.i 0,X5):=by
   rw[rr,Dh Gis _ _ le1]
   have hpl:∃p0 p1 p2,N7 x=[.i p0,.i p1,.i p2]:=by unfold N7;split<;>exact⟨_,_,_,rfl⟩
   obtain⟨p0,p1,p2,hpl⟩:=hpl
   rw[hpl]at hel xp YC a1
   refine W6 q3 q4 xw xp @JO @Jc ?_
   rw[←YC]
   refine W4 a1 t4w q3 @Ww ?_
   rw[←BG]
  have hy:=ZB (F:=run P) (args:=[.agg (N7 x),.ptr (Gp (v x.1)) x.2.1]) h1 rfl r0 y1 (by rw[←hX];exact r1) t5b
  refine⟨fun c=>c=b∨c=w∨c=X3.length,_,hy,⟨X3.length,_,by rw[Va oM],by rw[KV h3',t5w],h3',oM,oM,?_,fun c=>Iff.rfl⟩,⟨by rw[List.length_set];omega,fun c hc hn=>?_⟩,fun c h=>?_⟩
  ·refine .inr ⟨X3.length,true,sM,Ka.2 ⟨rfl,rfl⟩,?_,by rw[O9]⟩
   rw[KV oM,BG,KV oM,a3,X_]
   simp[Zq]
  ·grind
  grind
theorem Gk0{X:Gb}{k0 w bx:Nat}(m:JL o X rb R v)(k:R.Ok)(hk0:k0≤w∧k0≤X.length)(hw:o w=none)(tw:X[w]?=some ⟨[.Gd],.rw,0⟩) (tx:X[bx]?=some ⟨[.ptr rb 0],.rw,0⟩)
  {E0:Env} (e3:E0 3=.ptr w 0) (e10:E0 10=.func 240 [.ptr bx 0]) {r:Option (CX×Env×Gb)} (hr:den P (.Nc (.tmp 10) [11,12] 26 4544) E0 X=r):
  ∃X' lv,r=some (.normal,E0,X')∧Keeps X X' (fun c=>c=w)∧X'[w]?=some ⟨[lv],.rw,0⟩∧IL k0 X' lv (G_ R.vis):=by
 obtain⟨H1,hH1⟩:∃H1:Gb,H1=X++[G9 0 [.i 11,.i 12] ((List.range 26).map E0) 4544]:=⟨_,rfl⟩
 have g1:Gr X H1:=by rw[hH1];exact Gr.app _ _
 have l1:H1.length=X.length+1:=by rw[hH1];simp
 have t1:H1[X.length]?=some (G9 0 [.i 11,.i 12] ((List.range 26).map E0) 4544):=by rw[hH1];simp
 have hwl:=Gf tw
 have he3:entry ((List.range 26).map E0) 3=.ptr w 0:=by rw[N_,if_pos oM,e3]
 obtain⟨W,X2,h1,⟨lb,lv,i1,i2,i3,i4,i5,i6,i7⟩,h3,h4⟩:=Mi (W0:=fun c=>c=X.length∨c=w∨c=X.length+2) (m.gr g1) k (GgQ (b:=X.length) (w:=w) sM he3 k)
  (fun c h=>⟨Je fun hn=>by
   rcases h with h|h|h
   ·cases e:o c with
    |none=>exact hn e
    |some u=>have:=m.dom c u e;omega
   ·rw[h]at hn;exact hn hw
   ·cases e:o c with
    |none=>exact hn e
    |some u=>have:=m.dom c u e;omega,oM⟩)
  ⟨X.length+2,.Gd,t1,g1.get tw,oM,oM,oM,.inl ⟨rfl,rfl,.inl rfl⟩,fun c=>Iff.rfl⟩ (g1.get tx)
 have hd:=OT (p:=P) (g:=.tmp 10) (ps:=[11,12]) (k:=26) (z:=4544) (E:=E0) (H:=X) (H':=X2) (by rw[EX];exact e10) oM (by rw[←h1,hH1];rfl) i1
 have hl2:=h3.len
 refine⟨_,lv,hr.symm.trans hd,⟨by rw[List.length_set];omega,fun c hc hn=>?_⟩,?_,?_⟩
 ·rw[KV oM,h3.keep c oM oM,g1.keep c hc fun h=>h]
 ·grind
 ·have hlb:k0≤lb:=by
   rcases h4 lb ((i7 lb).2 (.inr (.inr rfl)))with h|h
   ·omega
   ·omega
  exact i6.frame (fun c h=>by rw[Ka]at h;exact Gl.2 ⟨oM,h.2.symm⟩) fun c h=>by rw[Ka]at h;rw[KV oM]
theorem FH(m:JL o H rb R v)(k:R.Ok):∃w H',run P 142 [.ptr rb 0] H=some (w,H')∧Gr H H'∧IL H.length H' w (G_ R.vis):=by
 have h1:=Qw m k
 obtain⟨X,hX⟩:∃X:Gb,X=H++[⟨[.Gd],.rw,0⟩]++[⟨[.ptr rb 0],.rw,0⟩]:=⟨_,rfl⟩
 have gX:Gr H X:=by rw[hX];exact(Gr.app H _).app' _
 have lX:X.length=H.length+2:=by rw[hX];simp
 have tX:X[H.length]?=some ⟨[.Gd],.rw,0⟩:=by rw[hX];simp
 have tX2:X[H.length+1]?=some ⟨[.ptr rb 0],.rw,0⟩:=by rw[hX];simp
 have hal:run P 169 [.ptr rb 0] (H++[⟨[.Gd],.rw,0⟩])=some (.func 240 [.ptr (H.length+1) 0],X):=by
  rw[Gh Gmp _ _ sM]
  simp(disch:=first|exact dz|fail) only[simprocAttr,Gs,↓reduceIte,DK]
  rw[←hX]
 rw[Gh GsF _ _ sM]
 refine W2 h1 hal ?_
 generalize hr:den P (.Nc _ _ _ _) _ _=r
 obtain⟨X2,lv,rfl,kp,t2,li⟩:=Gk0 (m.gr gX) k (k0:=H.length) (w:=H.length) oM (Je fun hn=>by
  cases e:o H.length with
  |none=>exact hn e
  |some u=>have:=m.dom _ u e;omega) tX tX2 uA uA hr
 refine Jb ?_
 refine⟨_,_,rfl,⟨by have:=kp.len;have:=gX.len;omega,fun c hc _=>?_⟩,li⟩
 rw[kp.keep c oM oM,gX.keep c hc fun h=>h]
theorem Ghi{X:Gb}{k0 w bx:Nat}(m:JL o X rb R v)(k:R.Ok)(hk0:k0≤w∧k0≤X.length)(hw:o w=none)(tw:X[w]?=some ⟨[.Gd],.rw,0⟩) (tx:X[bx]?=some ⟨[.ptr rb 0],.rw,0⟩)
  {E0:Env} (e3:E0 3=.ptr w 0) (e10:E0 9=.func 240 [.ptr bx 0]) {r:Option (CX×Env×Gb)} (hr:den P (.Nc (.tmp 9) [10,11] 17 2592) E0 X=r):
  ∃X' lv,r=some (.normal,E0,X')∧Keeps X X' (fun c=>c=w)∧X'[w]?=some ⟨[lv],.rw,0⟩∧At (Loc k0) z3 X' lv 3 R.vis.length (Zq R.vis):=by
 obtain⟨H1,hH1⟩:∃H1:Gb,H1=X++[G9 0 [.i 10,.i 11] ((List.range 17).map E0) 2592]:=⟨_,rfl⟩
 have g1:Gr X H1:=by rw[hH1];exact Gr.app _ _
 have l1:H1.length=X.length+1:=by rw[hH1];simp
 have t1:H1[X.length]?=some (G9 0 [.i 10,.i 11] ((List.range 17).map E0) 2592):=by rw[hH1];simp
 have hwl:=Gf tw
 have he3:entry ((List.range 17).map E0) 3=.ptr w 0:=by rw[N_,if_pos oM,e3]
 obtain⟨W,X2,h1,⟨lb,lv,i1,i2,i3,i4,i5,i6,i7⟩,h3,h4⟩:=Mi (W0:=fun c=>c=X.length∨c=w∨c=X.length+2) (m.gr g1) k (GeV (b:=X.length) (w:=w) sM he3 k)
  (fun c h=>⟨Je fun hn=>by
   rcases h with h|h|h
   ·cases e:o c with
    |none=>exact hn e
    |some u=>have:=m.dom c u e;omega
   ·rw[h]at hn;exact hn hw
   ·cases e:o c with
    |none=>exact hn e
    |some u=>have:=m.dom c u e;omega,oM⟩)
  ⟨X.length+2,.Gd,t1,g1.get tw,oM,oM,oM,.inl ⟨rfl,rfl,.inl rfl⟩,fun c=>Iff.rfl⟩ (g1.get tx)
 have hd:=OT (p:=P) (g:=.tmp 9) (ps:=[10,11]) (k:=17) (z:=2592) (E:=E0) (H:=X) (H':=X2) (by rw[EX];exact e10) oM (by rw[←h1,hH1];rfl) i1
 have hl2:=h3.len
 refine⟨_,lv,hr.symm.trans hd,⟨by rw[List.length_set];omega,fun c hc hn=>?_⟩,?_,?_⟩
 ·rw[KV oM,h3.keep c oM oM,g1.keep c hc fun h=>h]
 ·grind
 ·have hlb:k0≤lb:=by
   rcases h4 lb ((i7 lb).2 (.inr (.inr rfl)))with h|h
   ·omega
   ·omega
  exact i6.frame (fun c h=>by rw[Ka]at h;exact Gl.2 ⟨oM,h.2.symm⟩) fun c h=>by rw[Ka]at h;rw[KV oM]
theorem Sa(m:JL o H rb R v)(k:R.Ok):∃w H',run P 81 [.ptr rb 0] H=some (w,H')∧Gr H H'∧At (Loc H.length) z3 H' w 3 R.vis.length (Zq R.vis):=by
 have h1:=Qw m k
 obtain⟨X,hX⟩:∃X:Gb,X=H++[⟨[.Gd],.rw,0⟩]++[⟨[.ptr rb 0],.rw,0⟩]:=⟨_,rfl⟩
 have gX:Gr H X:=by rw[hX];exact(Gr.app H _).app' _
 have lX:X.length=H.length+2:=by rw[hX];simp
 have tX:X[H.length]?=some ⟨[.Gd],.rw,0⟩:=by rw[hX];simp
 have tX2:X[H.length+1]?=some ⟨[.ptr rb 0],.rw,0⟩:=by rw[hX];simp
 have hal:run P 169 [.ptr rb 0] (H++[⟨[.Gd],.rw,0⟩])=some (.func 240 [.ptr (H.length+1) 0],X):=by
  rw[Gh Gmp _ _ sM]
  simp(disch:=first|exact dz|fail) only[simprocAttr,Gs,↓reduceIte,DK]
  rw[←hX]
 rw[Gh c81 _ _ sM]
 refine W2 h1 hal ?_
 generalize hr:den P (.Nc _ _ _ _) _ _=r
 obtain⟨X2,lv,rfl,kp,t2,li⟩:=Ghi (m.gr gX) k (k0:=H.length) (w:=H.length) oM (Je fun hn=>by
  cases e:o H.length with
  |none=>exact hn e
  |some u=>have:=m.dom _ u e;omega) tX tX2 uA uA hr
 refine Jb ?_
 refine⟨_,_,rfl,⟨by have:=kp.len;have:=gX.len;omega,fun c hc _=>?_⟩,li⟩
 rw[kp.keep c oM oM,gX.keep c hc fun h=>h]
end
end Go.Cs.Tryz
namespace Go.Cs.Tryz
open Go Go.Cs A
abbrev GaB:Gn:=S (T [m 27 6,m 28 5,le 29 28,b 30 .lss 27 29] (J 30 (X 0))) (S (B 1 (T [m 34 0,m 35 5,m 36 6,x 37 3 35 36,lg 38 3 37,q2 39 82 34 38,m 33 39,ex 40 33 0,ex 41 33 1,m 7 40,m 8 41] (R [m 42 3,m 43 5,m 44 6,x 45 3 43 44,lg 46 3 45,m 47 7,q3 48 83 42 46 47]))) (R [m 31 6,bk 32 .add 31 1,m 6 32]))
def C20:Gj:=⟨50,0,T [e 2 (.Km (c .nilPtr))] (T [m 10 0,q1 11 79 10,q1 12 35 11,m 9 12,ex 13 9 0,ex 14 9 1,m 3 13,m 4 14] (S (T [m 15 4,bk 16 .neq 15 0] (I 16 (Q [e 17 (.build [.Gd,.Gd,.Gd] []),bo 18 17,m 2 18]))) (T [m 19 3,m 20 0,q1 21 80 20,q1 22 30 21,z 23 19,f 24 2 23,st 1 24 22] (T [m 25 0,q1 26 81 25,m 5 26] (S (T [n 6 0] (B 0 (W GaB))) (Q [m 49 3,m 2 49])))))),[r 2]⟩
theorem c20:P 20=some C20:=by kernel_rfl
def C80:Gj:=⟨11,0,T [e 2 (.Km (c .Gd))] (S (T [m 3 0,q1 4 161 3,no 5 4] (I 5 (Q [e 2 (.Km (c .Gd))]))) (Q [m 6 0,z 7 6,f 8 3 7,l 9 1 8,q1 10 158 9,m 2 10])),[r 2]⟩
theorem c80:P 80=some C80:=by kernel_rfl
def Gsk:Gj:=⟨8,0,T [e 2 (.Km (c .Gd))] (S (T [m 3 0,e 4 (.eqv false 2 (t 3) (c .Gd))] (I 4 (Q [e 2 (.Km (c .Gd))]))) (Q [e 5 (.buildSlice 1 [] 0 []),m 6 0,ap 7 1 5 6,m 2 7])),[r 2]⟩
theorem Gou:P 158=some Gsk:=by kernel_rfl
end Go.Cs.Tryz
namespace Go.Cs
open Go
structure BQ(R Q:Rt)(D:List (Nat×Nat×Int)):Prop where
 k:Q.Ok
 ns:Q.slots.length=R.slots.length
 ln:∀l,l≤2→(Q.li l).length=(R.li l).length
 at':∀l,l≤2→∀i y,(R.li l)[i]?=some y→(Q.li l)[i]?=some (if l=2∨(l,i,y)∈D then y else 0)
theorem BQ.all{R Q:Rt}(h:BQ R Q R.vis):∀l,l≤2→Q.li l=R.li l:=fun l hl=>by
 apply List.ext_getElem?
 intro i
 cases e:(R.li l)[i]? with
 |none=>
  rw[List.getElem?_eq_none_iff]at e
  rw[List.getElem?_eq_none_iff,h.ln l hl];exact e
 |some y=>
  rw[h.at' l hl i y e]
  by_cases c:y=0
  ·rw[c];simp
  ·have:(l,i,y)∈R.vis:=by
    have hv:(l,i,y)∈Nf l (R.li l):=Qk.2 ⟨rfl,e,c⟩
    unfold Rt.vis
    grind
   rw[if_pos (.inr this)]
theorem BQ.vals{R Q:Rt}(h:BQ R Q R.vis):Q.vals=R.vals:=by
 have h0:=h.all 0 oM
 have h1:=h.all 1 oM
 have h2:=h.all 2 oM
 simp only[Rt.li]at h0 h1 h2
 unfold Rt.vals
 rw[h0,h1,h2]
theorem Rt.Ok.GpF{R:Rt}(k:R.Ok){l i:Nat}(hl:l≤2){y:Int}(h:(R.li l)[i]?=some y):0≤y∧y≤9223372036854775807:=by
 have hm:=JV h
 match l,hl with
 |0,_=>
  obtain⟨x,hx,hy⟩:=List.mem_flatten.1 (show y∈R.slots.flatten from hm)
  exact k.vs x hx y hy
 |1,_=>exact k.vg y hm
 |2,_=>have:=k.vq y hm;omega
theorem Rt.Gbn{R:Rt}{x:Nat×Nat×Int}(h:x∈R.vis):x.1≤2∧(R.li x.1)[x.2.1]?=some x.2.2∧x.2.2≠0:=by
 unfold Rt.vis at h
 simp only[K_]at h
 rcases h with h|h|h<;>
 ·obtain⟨h1,h2,h3⟩:=Qk.1 h
  grind
theorem Gak{D:List (Nat×Nat×Int)}{j:Nat}{x:Nat×Nat×Int}(h:D[j]?=some x):Ba (some (⟨Zq D,.rw,3⟩:JE)) (j*3) 3=some (N7 x):=by
 have hj:=Gf h
 rw[Qg,if_pos (by rw[O9];omega)]
 congr 1
 induction D generalizing j with
 |nil=>cases h
 |cons y D ih=>
  cases j with
  |zero=>
   simp only[List.getElem?_cons_zero,GA]at h
   subst h
   have:=Dx y
   simp only[Zq,List.map_cons,List.flatten_cons,Nat.zero_mul,List.drop_zero]
   grind
  |succ j=>
   simp only[List.getElem?_cons_succ]at h
   have e:=Dx y
   simp only[Zq,List.map_cons,List.flatten_cons]
   rw[List.drop_append,List.drop_eq_nil_of_le oM,List.nil_append,show(j+1)*3-(N7 y).length=j*3 by omega]
   exact ih h (Gf h)
def K9(x:Nat×Nat×Int):Int×Int×Int:=if x.1=0 then(0,((x.2.1/16:Nat):Int),((x.2.1 % 16:Nat):Int))else((x.1:Int),0,(x.2.1:Int))
theorem Gb3(x:Nat×Nat×Int):N7 x=[.i (K9 x).1,.i (K9 x).2.1,.i (K9 x).2.2]:=by
 unfold N7 K9
 split<;>rfl
theorem Rt.Ok.DL{R:Rt}(k:R.Ok){x:Nat×Nat×Int}(hl:x.1≤2)(hi:x.2.1<(R.li x.1).length):R.loc (K9 x).1 (K9 x).2.1 (K9 x).2.2=some (x.1,x.2.1):=by
 obtain⟨l,i,y⟩:=x
 have hf:=k.K8
 match l,hl with
 |0,_=>
  have hi':i<R.flat.length:=hi
  rw[show K9 (0,i,y)=(0,((i/16:Nat):Int),((i % 16:Nat):Int))from rfl]
  unfold Rt.loc
  grind
 |1,_=>
  have hi':i<R.glob.length:=hi
  rw[show K9 (1,i,y)=(1,0,(i:Int))from rfl]
  unfold Rt.loc
  grind
 |2,_=>
  have hi':i<R.queue.length:=hi
  rw[show K9 (2,i,y)=(2,0,(i:Int))from rfl]
  unfold Rt.loc
  grind
theorem BQ.step{R Q:Rt}{D:List (Nat×Nat×Int)}(h:BQ R Q D)(k:R.Ok){x:Nat×Nat×Int}(hx:x∈R.vis):BQ R (Q.set (K9 x).1 (K9 x).2.1 (K9 x).2.2 x.2.2).1 (D++[x]):=by
 obtain⟨h1,h2,h3⟩:=Rt.Gbn hx
 obtain⟨h4,h5⟩:=k.GpF h1 h2
 have hi:=Gf h2
 have hloc:=h.k.DL (x:=x) h1 (by rw[h.ln _ h1];exact hi)
 obtain⟨l1,l2,l3,l4⟩:=Rt.BK h.k hloc
 have ok:=h.k.set (K9 x).1 (K9 x).2.1 (K9 x).2.2 x.2.2 h5
 have e:(Q.set (K9 x).1 (K9 x).2.1 (K9 x).2.2 x.2.2).1=Q.setAt (x.1,x.2.1) x.2.2:=by
  unfold Rt.set
  grind
 rw[e]at ok⊢
 have hli:=fun i hi=>Rt.DU h.k l2 l4 x.2.2 i hi
 refine⟨ok,?_,fun l hl=>?_,fun l hl i y hy=>?_⟩
 ·rw[←h.ns]
  unfold Rt.setAt
  split
  ·simp
  ·split<;>rfl
 ·rw[hli l hl]
  split
  ·rw[List.length_set,h.ln l hl]
  ·exact h.ln l hl
 ·rw[hli l hl]
  have h0:=h.at' l hl i y hy
  grind
theorem BQ.new{R:Rt}(k:R.Ok):BQ R {Rt.new R.slots.length with queue:=R.queue} [] where
 k:=by
  have h:=Rt.EN k.ns
  exact⟨h.ns,h.s16,h.g16,k.FV,h.vs,h.vg,k.vq⟩
 ns:=by simp[Rt.new]
 ln:=fun l hl=>by
  have:=k.K8
  have:=k.g16
  match l,hl with
  |0,_=>show(List.replicate R.slots.length (List.replicate 16 (0:Int))).flatten.length=R.flat.length;rw[YK,List.length_replicate];omega
  |1,_=>show(List.replicate 16 (0:Int)).length=R.glob.length;rw[List.length_replicate];omega
  |2,_=>rfl
 at':=fun l hl i y hy=>by
  have hi:=Gf hy
  have:=k.K8
  have:=k.g16
  match l,hl with
  |0,_=>
   have hi':i<R.flat.length:=hi
   show(List.replicate R.slots.length (List.replicate 16 (0:Int))).flatten[i]?=_
   rw[YK,List.getElem?_replicate,if_pos oM]
   simp
  |1,_=>
   have hi':i<R.glob.length:=hi
   show(List.replicate 16 (0:Int))[i]?=_
   grind
  |2,_=>
   rw[if_pos (.inl rfl)]
   exact hy
end Go.Cs
namespace Go.Cs.Tryz
open Go Go.Cs
section
variable {H : Gb} {o : Tags} {rb : Nat} {R : Rt} {v : Nat → CV}
theorem GeD{w:CV}{l:List Int}(h:LI H w l)(hl:l.length≤100000):∃v' H',run P 30 [w] H=some (v',H')∧Gr H H'∧IL H.length H' v' l:=by
 have he:elems (H++[⟨[],.rw,1⟩]) 1 w=some (l.length,ints l):=(h.gr (Gr.app H [⟨[],.rw,1⟩])).elems fun c hc=>rfl
 have h0:IL H.length (H++[⟨[],.rw,1⟩]) (.slice H.length 0 0 0 1 false) []:=.inl ⟨rfl,rfl,.inr ⟨_,_,rfl⟩⟩
 obtain⟨v',H1,a1,a2,a3⟩:=IL.cat h0 sM (l2:=l) (by simp;omega)
 refine⟨v',H1,?_,(Gr.app H _).news a3,a2⟩
 rw[Gh c30 _ _ sM]
 exact W0
theorem slices_Clone{w:CV}{l:List Int}(h:LI H w l)(hl:l.length≤100000):∃v' H',run P 158 [w] H=some (v',H')∧Gr H H'∧IL H.length H' v' l:=by
 by_cases c:w=.Gd
 ·subst c
  have:l=[]:=by
   rcases h with h|⟨b,tl,h,-⟩
   ·exact AV h.1
   ·cases h
  subst this
  refine⟨.Gd,H,?_,Keeps.refl _ _,IL.nil⟩
  rw[Gh Gou _ _ sM]
  have:=show OZ false 2 .Gd .Gd H=some (.bool true,H)from rfl;exact W0
 ·have he:elems (H++[⟨[],.rw,1⟩]) 1 w=some (l.length,ints l):=(h.gr (Gr.app H [⟨[],.rw,1⟩])).elems fun c hc=>rfl
  have h0:IL H.length (H++[⟨[],.rw,1⟩]) (.slice H.length 0 0 0 1 false) []:=.inl ⟨rfl,rfl,.inr ⟨_,_,rfl⟩⟩
  obtain⟨v',H1,a1,a2,a3⟩:=IL.cat h0 sM (l2:=l) (by simp;omega)
  obtain⟨b,f,n,d,t,rfl⟩:∃b f n d t,w=.slice b f n d 1 t:=by
   rcases h with⟨-,-,rfl|⟨b,f,rfl⟩⟩|⟨b,tl,rfl,-⟩
   ·exact absurd rfl c
   ·exact⟨_,_,_,_,_,rfl⟩
   ·exact⟨_,_,_,_,_,rfl⟩
  refine⟨v',H1,?_,(Gr.app H _).news a3,a2⟩
  rw[Gh Gou _ _ sM]
  have:=show OZ false 2 (.slice b f n d 1 t) .Gd H=some (.bool false,H)from rfl;exact W0
theorem XW(m:JL o H rb R v)(k:R.Ok):∃v' H',run P 80 [.ptr rb 0] H=some (v',H')∧Gr H H'∧IL H.length H' v' R.queue:=by
 have h:=m.cells
 have h1:=Qw m k
 obtain⟨v',H',h2,h3,h4⟩:=slices_Clone (At.il (m.li 2 oM)) (by have:=k.FV;show R.queue.length≤_;omega)
 refine⟨v',H',?_,h3,h4⟩
 rw[Gh c80 _ _ sM]
 exact W0
theorem GdJ{o2:Tags}{qb:Nat}{Q0:Rt}{L0:Vz}(m:JL o H rb R v)(k:R.Ok)(m2:JJ o2 H qb Q0 L0)(c0:BQ R Q0 [])(hd:∀c,o c≠none→o2 c=none){w:CV}{k0:Nat}(hw:At (Loc k0) z3 H w 3 R.vis.length (Zq R.vis))(hw2:∀c,k0≤c→o2 c=none)
  {E0:Env}(h0:E0 0=.ptr rb 0)(h3:E0 3=.ptr qb 0)(h5:E0 5=w)(h6:E0 6=.i 0){r:Option (CX×Env×Gb)}(hr:den P (.loop GaB) E0 H=r):
  ∃E' H' o2' Q L',r=some (.exit 0,E',H')∧KW o2 H o2' H'∧JJ o2' H' qb Q L'∧BQ R Q R.vis∧∀t,t∉wr GaB→E' t=E0 t:=by
 have hvl:=k.Uw
 obtain⟨x',E',H',e,-,⟨rfl,o2',Q,L',q1,q2,q3⟩,fr⟩:=Gq (p:=P) (c:=GaB) (E0:=E0) (H0:=H)
  (fun q E H'=>∃(j:Nat)(o2':Tags)(Q:Rt)(L':Vz),E 6=.i j∧j≤R.vis.length∧q=R.vis.length-j∧KW o2 H o2' H'∧JJ o2' H' qb Q L'∧BQ R Q (R.vis.take j))
  (fun x' E' H'=>x'=.exit 0∧∃(o2':Tags)(Q:Rt)(L':Vz),KW o2 H o2' H'∧JJ o2' H' qb Q L'∧BQ R Q R.vis) (by
   rintro q E H' hE ⟨j,o2',Q,L',e6,hj,rfl,g,m',cp⟩
   have e0:=(hE 0 dK).trans h0
   have e3:=(hE 3 dK).trans h3
   have e5:=(hE 5 dK).trans h5
   have hwl:=hw.len H'
   by_cases c:j<R.vis.length
   ·have c':decide ((j:Int)<(R.vis.length:Int))=true:=Gz oM
    obtain⟨x,hx⟩:∃x,R.vis[j]?=some x:=⟨_,Jr c⟩
    have hxm:=JV hx
    obtain⟨y1,y2,y3⟩:=Rt.Gbn hxm
    have hloc:=k.DL (x:=x) y1 (Gf y2)
    obtain⟨tl,a1,a2,a3,a4⟩:=hw.pos oM
    have hwo:o2 (Gp w)=none:=hw2 _ (Gl.1 a2).1
    have m1:JL o H' rb R v:=m.frame (fun c t h=>J6 (m.dom c t h) g.len) (fun _ _ h=>h) fun c t h=>g.keep c (m.dom c t h) (hd c (by rw[h];simp))
    have hwH:H'[Gp w]?=some ⟨Zq R.vis,.rw,3⟩:=(g.keep _ (Gf a3) hwo).trans a3
    have ix:∀X,JM 3 w (.i j) X=some (.ptr (Gp w) (j*3),X):=fun X=>by
     rw[a1];exact(if_pos oM).trans (by simp[Gp])
    have ldp:∀Y:Gb,Y[Gp w]?=some ⟨Zq R.vis,.rw,3⟩→Ba Y[Gp w]? (j*3) 3=some [.i (K9 x).1,.i (K9 x).2.1,.i (K9 x).2.2]:=fun Y h=>by
     rw[h,←Gb3];exact Gak hx
    have l1:=ldp _ hwH
    obtain⟨X1,b1,g1⟩:=Gff m1 k (K9 x).1 (K9 x).2.1 (K9 x).2.2
    have hv:R.get (K9 x).1 (K9 x).2.1 (K9 x).2.2=(x.2.2,0):=by
     unfold Rt.get
     grind
    rw[hv]at b1
    unfold UF at b1
    have l2:=ldp X1 (g1.get hwH)
    have m3:=m'.gr g1
    obtain⟨X2,o3,L3,b2,m4,g4⟩:=Gc1 m3 cp.k (K9 x).1 (K9 x).2.1 (K9 x).2.2 x.2.2
    have cp2:=cp.step k hxm
    have w1:IntKind.i64.wrap ((j:Int)+1)=((j+1:Nat):Int):=Gg oM
    have htk:R.vis.take (j+1)=R.vis.take j++[x]:=by rw[Nl,hx];rfl
    apply Gm (k':=R.vis.length-(j+1))
    ·refine W12 e0 e3 e5 e6 hwl c' ix l1 b1 l2 b2 w1 ?_
     rfl
    ·omega
    ·exact⟨j+1,o3,_,L3,uA,oM,rfl,(g.trans (KW.gr g1)).trans g4,m4,by rw[htk];exact cp2⟩
   ·have c':decide ((j:Int)<(R.vis.length:Int))=false:=Gw oM
    rw[Qe oM]at cp
    apply Gi (x:=.exit 0)
    ·refine Jb ?_
     rfl
    ·simp
    grind) _ ⟨0,o2,Q0,L0,h6,oM,rfl,⟨Nat.le_refl _,fun _ _=>rfl,fun _ _ _=>rfl⟩,m2,by simpa using c0⟩
 grind
theorem Zr(m:JL o H rb R v)(k:R.Ok):
  ∃qb H' o2 Q L,run P 20 [.ptr rb 0] H=some (.ptr qb 0,H')∧Gr H H'∧JJ o2 H' qb Q L∧BQ R Q R.vis∧∀c t,o2 c=some t→H.length≤c:=by
 have h1:=Ac m k
 obtain⟨qb,X1,o2,L2,h2,g1,m2,f2⟩:=Gdm (H:=H) (R.slots.length:Int) (by have:=k.ns;omega)
 rw[Kt]at m2
 have mX1:=m.gr g1
 obtain⟨v3,X2,h3,g2,il2⟩:=XW mX1 k
 obtain⟨v4,X3,h4,g3,il3⟩:=GeD il2.li (by have:=k.FV;omega)
 have g23:=g2.trans g3
 have m3:=m2.gr g23
 have t3:=m3.cells
 have hq0:=m3.dom _ _ m3.top
 obtain⟨X4,hX4⟩:∃X4:Gb,X4=X3.set qb ⟨[L2.sv,L2.gv,v4],.rw,0⟩:=⟨_,rfl⟩
 have l4:X4.length=X3.length:=by rw[hX4,List.length_set]
 have hqb:=m2.dom _ _ m2.top
 have e1:=g1.len
 have e2:=g2.len
 have e3:=g3.len
 have lf4:=At.leaf il3
 have il4:At (Loc X1.length) z3 X4 v4 1 R.queue.length (ints R.queue):=il3.frame (fun c h=>Gl.2 ⟨by have:=(Gl.1 h).1;omega,(Gl.1 h).2⟩) fun c h=>by
  have:=(Gl.1 h).1
  grind
 obtain⟨o3,L3,m4,g4⟩:=JJ.Ap m2 (Hf:=X4) (l:=R.queue) (w:=v4) il4 oM (by grind) (fun d hd hn hr=>by
  rw[hX4,KV (Ne.symm hr),g23.keep d hd fun h=>h])
 have g04:Gr H X4:=⟨oM,fun c hc _=>by
  rw[hX4,KV (by rintro rfl;have:=f2 _ _ m2.top;omega),g23.keep c oM fun h=>h,g1.keep c hc fun h=>h]⟩
 have f3:∀c t,o3 c=some t→H.length≤c:=fun c t h=>by
  by_cases hc:c<X1.length
  ·rw[g4.tag c hc]at h;exact f2 c t h
  ·omega
 have mX4:=m.gr g04
 obtain⟨w,X5,h5,g5,hw⟩:=Sa mX4 k
 have mX5:=mX4.gr g5
 have m5:=m4.gr g5
 have RS:Hl X3 qb X3[qb]? 2 [v4]=some X4:=by
  rw[t3,Vm lf4 sM,hX4]
  rfl
 rw[Gh c20 _ _ sM]
 refine W6 h1 h2 h3 h4 RS h5 ?_
 generalize hr:den P (.loop GaB) _ _=r
 obtain⟨E',X6,o6,Q,L6,rfl,g6,m6,cp,fr⟩:=GdJ mX5 k m5 (BQ.new k) (fun c h=>Je fun hn=>by
  cases e:o c with
  |none=>exact h e
  |some u=>cases e2:o3 c with
   |none=>exact hn e2
   |some u2=>have:=m.dom c u e;have:=f3 c u2 e2;omega) hw (fun c hc=>Je fun hn=>by
   cases e:o3 c with
   |none=>exact hn e
   |some u=>have:=m4.dom c u e;omega) uA uA uA uA hr
 have a3:=fr 3 dK
 simp only[Gc,Nat.reduceEqDiff,↓reduceIte]at a3
 refine Jb ?_
 have e5:=g5.len
 refine⟨qb,X6,o6,Q,L6,rfl,⟨by have:=g6.len;omega,fun c hc _=>?_⟩,m6,cp,fun c t h=>?_⟩
 ·rw[g6.keep c oM (Je fun hn=>?_),g5.keep c oM fun h=>h,g04.keep c hc fun h=>h]
  cases e:o3 c with
  |none=>exact hn e
  |some u=>have:=f3 c u e;omega
 ·by_cases hc:c<X5.length
  ·rw[g6.tag c hc]at h;exact f3 c t h
  ·omega
end
end Go.Cs.Tryz
namespace Go.Cs.Tryz
open Go Go.Cs A
abbrev Oz:Gn:=S (T [m 40 7,m 41 0,z 42 41,f 43 2 42,l 44 1 43,le 45 44,b 46 .lss 40 45] (J 46 (X 6))) (S (B 7 (R [m 49 3,m 50 7,e 51 (.build [i 0,i 0,i 0] [(0,1,k 2),(2,1,t 50)]),e 52 (.buildSlice 3 [i 0,i 0,i 0] 1 [(0,3,t 51)]),ap 53 3 49 52,m 3 53])) (R [m 47 7,bk 48 .add 47 1,m 7 48]))
abbrev M6:Gn:=S (T [m 31 6,bk 32 .lss 31 16] (J 32 (X 4))) (S (B 5 (R [m 35 3,m 36 6,e 37 (.build [i 0,i 0,i 0] [(0,1,k 1),(2,1,t 36)]),e 38 (.buildSlice 3 [i 0,i 0,i 0] 1 [(0,3,t 37)]),ap 39 3 35 38,m 3 39])) (R [m 33 6,bk 34 .add 33 1,m 6 34]))
abbrev M8:Gn:=S (T [m 21 5,bk 22 .lss 21 16] (J 22 (X 2))) (S (B 3 (R [m 25 3,m 26 4,m 27 5,e 28 (.build [i 0,i 0,i 0] [(0,1,k 0),(1,1,t 26),(2,1,t 27)]),e 29 (.buildSlice 3 [i 0,i 0,i 0] 1 [(0,3,t 28)]),ap 30 3 25 29,m 3 30])) (R [m 23 5,bk 24 .add 23 1,m 5 24]))
abbrev Fy:Gn:=S (T [m 12 4,m 13 0,z 14 13,f 15 0 14,l 16 1 15,le 17 16,b 18 .lss 12 17] (J 18 (X 0))) (S (B 1 (T [n 5 0] (B 2 (W M8)))) (R [m 19 4,bk 20 .add 19 1,m 4 20]))
def Guz:Gj:=⟨55,0,T [e 2 (.Km (c .Gd))] (T [e 3 (.Km (c .Gd))] (S (T [m 8 0,q1 9 84 8,no 10 9] (I 10 (Q [m 11 3,m 2 11]))) (S (T [n 4 0] (B 0 (W Fy))) (S (T [n 6 0] (B 4 (W M6))) (S (T [n 7 0] (B 6 (W Oz))) (Q [m 54 3,m 2 54])))))),[r 2]⟩
theorem GrW:P 178=some Guz:=by kernel_rfl
end Go.Cs.Tryz
namespace Go.Cs
open Go
abbrev P3(k:Nat)(H:Gb)(v:CV)(D:List (Nat×Nat×Int)):Prop:=At (Loc k) z3 H v 3 D.length (Zq D)
theorem P3.push{k:Nat}{H:Gb}{v:CV}{D:List (Nat×Nat×Int)}(h:P3 k H v D)(hk:k≤H.length)(hn:D.length≤100000){x:Nat×Nat×Int}{p:List CV}(hp:N7 x=p):
  ∃v' X,Ju (H++[⟨p,.rw,3⟩]) 3 v 1 p=some (v',X)∧P3 k X v' (D++[x])∧Keeps H X (fun c=>k≤c):=by
 subst hp
 have g:Gr H (H++[⟨N7 x,.rw,3⟩]):=Gr.app _ _
 obtain⟨X,a1,a2,a3,a4⟩:=At.append (At.keeps h g) (k:=1) (new:=N7 x) oM (by unfold J9;omega) (XO x) (Dx x)
 have l1:(H++[(⟨N7 x,.rw,3⟩:JE)]).length=H.length+1:=by simp
 refine⟨_,X,a1,.inr ⟨(H++[(⟨N7 x,.rw,3⟩:JE)]).length,true,sM,Gl.2 ⟨oM,rfl⟩,?_,by rw[O9]⟩,⟨oM,fun c hc hn=>?_⟩⟩
 ·rw[a3,X_];simp[Zq]
 ·rw[a4 c oM fun h=>by have:=(Gl.1 h).1;omega,IJ hc]
def Ej(l:Nat)(xs:List Int):List (Nat×Nat×Int):=xs.zipIdx.map fun x=>(l,x.2,x.1)
theorem VX(l:Nat)(xs:List Int):(Ej l xs).length=xs.length:=by simp[Ej]
theorem MI{l j:Nat}{xs:List Int}{x:Int}(h:xs[j]?=some x):Ej l (xs.take (j+1))=Ej l (xs.take j)++[(l,j,x)]:=by
 have hj:=Gf h
 unfold Ej
 rw[Nl,h,Z4,List.zipIdx_append,Ij]
 grind
theorem Lb(l:Nat)(xs:List Int):Nf l xs=(Ej l xs).filter fun x=>x.2.2 != 0:=by
 unfold Nf Ej
 rw[List.filter_map]
 induction xs.zipIdx with
 |nil=>rfl
 |cons x r ih=>
  grind
def Rt.every(R:Rt):List (Nat×Nat×Int):=Ej 0 R.flat++(Ej 1 R.glob++Ej 2 R.queue)
theorem Rt.Gfm(R:Rt):R.vis=R.every.filter fun x=>x.2.2 != 0:=by
 unfold Rt.vis Rt.every
 rw[List.filter_append,List.filter_append,←Lb,←Lb,←Lb]
 rfl
theorem Rt.Ok.Ger{R:Rt}(k:R.Ok):R.every.length≤144:=by
 have h0:=k.K8
 have h1:=k.g16
 have h2:=k.FV
 have h3:=k.ns
 unfold Rt.every
 simp only[Qi,VX]
 omega
end Go.Cs
namespace Go.Cs.Tryz
open Go Go.Cs
section
variable {H : Gb} {o : Tags} {rb : Nat} {R : Rt} {L : Vz}
theorem Giy(k:R.Ok){k0 i:Nat}(hk0:k0≤H.length)(hi:i<R.slots.length){w:CV}(hw:P3 k0 H w (Ej 0 (R.flat.take (16*i))))
  {E0:Env}(h3:E0 3=w)(h4:E0 4=.i i)(h5:E0 5=.i 0){r:Option (CX×Env×Gb)}(hr:den P (.loop M8) E0 H=r):
  ∃E' H' w',r=some (.exit 2,E',H')∧Keeps H H' (fun c=>k0≤c)∧E' 3=w'∧P3 k0 H' w' (Ej 0 (R.flat.take (16*(i+1))))∧∀t,t∉wr M8→E' t=E0 t:=by
 have hfl:=k.K8
 have hns:=k.ns
 obtain⟨x',E',H',e,-,⟨rfl,g,w',q1,q2⟩,fr⟩:=Gq (p:=P) (c:=M8) (E0:=E0) (H0:=H)
  (fun q E H'=>∃(j:Nat)(w':CV),E 5=.i j∧j≤16∧q=16-j∧Keeps H H' (fun c=>k0≤c)∧E 3=w'∧P3 k0 H' w' (Ej 0 (R.flat.take (16*i+j))))
  (fun x' E' H'=>x'=.exit 2∧Keeps H H' (fun c=>k0≤c)∧∃w',E' 3=w'∧P3 k0 H' w' (Ej 0 (R.flat.take (16*(i+1))))) (by
   rintro q E H' hE ⟨j,w',e5,hj,rfl,g,e3,p3⟩
   have e4:=(hE 4 dK).trans h4
   by_cases c:j<16
   ·have c':decide ((j:Int)<16)=true:=Gz oM
    obtain⟨x,hx⟩:∃x,R.flat[16*i+j]?=some x:=⟨_,Jr oM⟩
    have hp:N7 (0,16*i+j,x)=[.i 0,.i (i:Int),.i (j:Int)]:=by
     rw[N7,if_pos rfl]
     grind
    obtain⟨v',X,a1,a2,a3⟩:=P3.push p3 (J2 hk0 g.len) (by rw[VX,List.length_take];omega) hp
    have w1:IntKind.i64.wrap ((j:Int)+1)=((j+1:Nat):Int):=Gg oM
    apply Gm (k':=16-(j+1))
    ·refine Jb ?_
     rfl
    ·omega
    ·exact⟨j+1,v',uA,oM,rfl,g.trans a3,uA,by rw[show 16*i+(j+1)=16*i+j+1 by omega,MI hx];exact a2⟩
   ·have c':decide ((j:Int)<16)=false:=Gw oM
    apply Gi (x:=.exit 2)
    ·refine Jb ?_
     rfl
    ·simp
    ·exact⟨rfl,g,w',by simp[Gc,e3],by grind⟩) _ ⟨0,w,h5,oM,rfl,Keeps.refl _ _,h3,hw⟩
 grind
theorem Gh2(m:JJ o H rb R L)(k:R.Ok){k0:Nat}(hk0:k0≤H.length)(hd:∀c t,o c=some t→c<k0)
  {E0:Env}(h0:E0 0=.ptr rb 0)(h3:E0 3=.Gd)(h4:E0 4=.i 0){r:Option (CX×Env×Gb)}(hr:den P (.loop Fy) E0 H=r):
  ∃E' H' w',r=some (.exit 0,E',H')∧Keeps H H' (fun c=>k0≤c)∧E' 3=w'∧P3 k0 H' w' (Ej 0 R.flat)∧∀t,t∉wr Fy→E' t=E0 t:=by
 have hfl:=k.K8
 have hns:=k.ns
 obtain⟨x',E',H',e,-,⟨rfl,g,w',q1,q2⟩,fr⟩:=Gq (p:=P) (c:=Fy) (E0:=E0) (H0:=H)
  (fun q E H'=>∃(i:Nat)(w':CV),E 4=.i i∧i≤R.slots.length∧q=R.slots.length-i∧Keeps H H' (fun c=>k0≤c)∧E 3=w'∧P3 k0 H' w' (Ej 0 (R.flat.take (16*i))))
  (fun x' E' H'=>x'=.exit 0∧Keeps H H' (fun c=>k0≤c)∧∃w',E' 3=w'∧P3 k0 H' w' (Ej 0 R.flat)) (by
   rintro q E H' hE ⟨i,w',e4,hj,rfl,g,e3,p3⟩
   have e0:=(hE 0 dK).trans h0
   have m':JJ o H' rb R L:=m.frame (fun c t h=>J6 (m.dom c t h) g.len) (fun _ _ h=>h) fun c t h=>g.keep c (m.dom c t h) (by have:=hd c t h;omega)
   have hc:=m'.cells
   have hsl:=m'.slots.len H'
   by_cases c:i<R.slots.length
   ·have c':decide ((i:Int)<(R.slots.length:Int))=true:=Gz oM
    have w1:IntKind.i64.wrap ((i:Int)+1)=((i+1:Nat):Int):=Gg oM
    suffices fin:∃E' H2 w2,den P Fy E H'=some (.normal,E',H2)∧E' 4=.i ((i+1:Nat):Int)∧Keeps H' H2 (fun c=>k0≤c)∧E' 3=w2∧P3 k0 H2 w2 (Ej 0 (R.flat.take (16*(i+1))))by
     obtain⟨E',H2,w2,f1,f2,f3,f4,f5⟩:=fin
     exact Gm f1 (k':=R.slots.length-(i+1)) oM ⟨i+1,w2,f2,oM,rfl,g.trans f3,f4,f5⟩
    refine Jb ?_
    generalize hr:den P (.loop M8) _ _=r
    obtain⟨E2,H2,w2,rfl,b1,b2,b3,b4⟩:=Giy k (J2 hk0 g.len) c p3 (by simp[Gc,e3]) (by simp[Gc,e4]) uA hr
    have f4:=b4 4 dK
    simp only[Gc,Nat.reduceEqDiff,↓reduceIte,e4]at f4
    refine Jb ?_
    exact⟨_,_,w2,rfl,uA,b1,by simp[Gc,b2],b3⟩
   ·have c':decide ((i:Int)<(R.slots.length:Int))=false:=Gw oM
    rw[Qe oM]at p3
    apply Gi (x:=.exit 0)
    ·refine Jb ?_
     rfl
    ·simp
    ·exact⟨rfl,g,w',by simp[Gc,e3],p3⟩) _ ⟨0,.Gd,h4,oM,rfl,Keeps.refl _ _,h3,.inl ⟨rfl,rfl,.inl rfl⟩⟩
 grind
theorem Gf6(k:R.Ok){k0:Nat}(hk0:k0≤H.length){D:List (Nat×Nat×Int)}(hD:D.length≤100){w:CV}(hw:P3 k0 H w D)
  {E0:Env}(h3:E0 3=w)(hv:E0 6=.i 0){r:Option (CX×Env×Gb)}(hr:den P (.loop M6) E0 H=r):
  ∃E' H' w',r=some (.exit 4,E',H')∧Keeps H H' (fun c=>k0≤c)∧E' 3=w'∧P3 k0 H' w' (D++Ej 1 R.glob)∧∀t,t∉wr M6→E' t=E0 t:=by
 have hg:=k.g16
 have hq:=k.FV
 obtain⟨x',E',H',e,-,⟨rfl,g,w',q1,q2⟩,fr⟩:=Gq (p:=P) (c:=M6) (E0:=E0) (H0:=H)
  (fun q E H'=>∃(j:Nat)(w':CV),E 6=.i j∧j≤R.glob.length∧q=R.glob.length-j∧Keeps H H' (fun c=>k0≤c)∧E 3=w'∧P3 k0 H' w' (D++Ej 1 (R.glob.take j)))
  (fun x' E' H'=>x'=.exit 4∧Keeps H H' (fun c=>k0≤c)∧∃w',E' 3=w'∧P3 k0 H' w' (D++Ej 1 R.glob)) (by
   rintro q E H' hE ⟨j,w',e5,hj,rfl,g,e3,p3⟩
   by_cases c:j<R.glob.length
   ·have c':decide ((j:Int)<16)=true:=Gz oM
    obtain⟨x,hx⟩:∃x,R.glob[j]?=some x:=⟨_,Jr oM⟩
    have hp:N7 (1,j,x)=[.i 1,.i 0,.i (j:Int)]:=rfl
    obtain⟨v',X,a1,a2,a3⟩:=P3.push p3 (J2 hk0 g.len) (by rw[Qi,VX,List.length_take];omega) hp
    have w1:IntKind.i64.wrap ((j:Int)+1)=((j+1:Nat):Int):=Gg oM
    apply Gm (k':=R.glob.length-(j+1))
    ·refine Jb ?_
     rfl
    ·omega
    ·exact⟨j+1,v',uA,oM,rfl,g.trans a3,uA,by rw[MI hx,←List.append_assoc];exact a2⟩
   ·have c':decide ((j:Int)<16)=false:=Gw oM
    rw[Qe oM]at p3
    apply Gi (x:=.exit 4)
    ·refine Jb ?_
     rfl
    ·simp
    ·exact⟨rfl,g,w',by simp[Gc,e3],p3⟩) _ ⟨0,w,hv,oM,rfl,Keeps.refl _ _,h3,by simpa[Ej]using hw⟩
 grind
theorem Gix(m:JJ o H rb R L)(k:R.Ok){k0:Nat}(hk0:k0≤H.length)(hd:∀c t,o c=some t→c<k0){D:List (Nat×Nat×Int)}(hD:D.length≤100){w:CV}(hw:P3 k0 H w D)
  {E0:Env}(h0:E0 0=.ptr rb 0)(h3:E0 3=w)(hv:E0 7=.i 0){r:Option (CX×Env×Gb)}(hr:den P (.loop Oz) E0 H=r):
  ∃E' H' w',r=some (.exit 6,E',H')∧Keeps H H' (fun c=>k0≤c)∧E' 3=w'∧P3 k0 H' w' (D++Ej 2 R.queue)∧∀t,t∉wr Oz→E' t=E0 t:=by
 have hg:=k.g16
 have hq:=k.FV
 obtain⟨x',E',H',e,-,⟨rfl,g,w',q1,q2⟩,fr⟩:=Gq (p:=P) (c:=Oz) (E0:=E0) (H0:=H)
  (fun q E H'=>∃(j:Nat)(w':CV),E 7=.i j∧j≤R.queue.length∧q=R.queue.length-j∧Keeps H H' (fun c=>k0≤c)∧E 3=w'∧P3 k0 H' w' (D++Ej 2 (R.queue.take j)))
  (fun x' E' H'=>x'=.exit 6∧Keeps H H' (fun c=>k0≤c)∧∃w',E' 3=w'∧P3 k0 H' w' (D++Ej 2 R.queue)) (by
   rintro q E H' hE ⟨j,w',e5,hj,rfl,g,e3,p3⟩
   have e0:=(hE 0 dK).trans h0
   have m':JJ o H' rb R L:=m.frame (fun c t h=>J6 (m.dom c t h) g.len) (fun _ _ h=>h) fun c t h=>g.keep c (m.dom c t h) (by have:=hd c t h;omega)
   have hc:=m'.cells
   have hql:=m'.queue.len H'
   by_cases c:j<R.queue.length
   ·have c':decide ((j:Int)<(R.queue.length:Int))=true:=Gz oM
    obtain⟨x,hx⟩:∃x,R.queue[j]?=some x:=⟨_,Jr oM⟩
    have hp:N7 (2,j,x)=[.i 2,.i 0,.i (j:Int)]:=rfl
    obtain⟨v',X,a1,a2,a3⟩:=P3.push p3 (J2 hk0 g.len) (by rw[Qi,VX,List.length_take];omega) hp
    have w1:IntKind.i64.wrap ((j:Int)+1)=((j+1:Nat):Int):=Gg oM
    apply Gm (k':=R.queue.length-(j+1))
    ·refine Jb ?_
     rfl
    ·omega
    ·exact⟨j+1,v',uA,oM,rfl,g.trans a3,uA,by rw[MI hx,←List.append_assoc];exact a2⟩
   ·have c':decide ((j:Int)<(R.queue.length:Int))=false:=Gw oM
    rw[Qe oM]at p3
    apply Gi (x:=.exit 6)
    ·refine Jb ?_
     rfl
    ·simp
    ·exact⟨rfl,g,w',by simp[Gc,e3],p3⟩) _ ⟨0,w,hv,oM,rfl,Keeps.refl _ _,h3,by simpa[Ej]using hw⟩
 grind
theorem GdN(m:JJ o H rb R L)(k:R.Ok):∃w H',run P 178 [.ptr rb 0] H=some (w,H')∧Gr H H'∧P3 H.length H' w R.every:=by
 have h1:=U9 m k
 have hfl:=k.K8
 have hns:=k.ns
 have hg:=k.g16
 rw[Gh GrW _ _ sM]
 refine Jb ?_
 generalize hr:den P (.loop Fy) _ _=r
 obtain⟨E1,H1,w1,rfl,g1,a1,p1,f1⟩:=Gh2 m k (Nat.le_refl _) m.dom uA uA uA hr
 have b0:=f1 0 dK
 simp only[Gc,Nat.reduceEqDiff,↓reduceIte]at b0
 refine Jb ?_
 generalize hr:den P (.loop M6) _ _=r
 obtain⟨E2,H2,w2,rfl,g2,a2,p2,f2⟩:=Gf6 k g1.len (by rw[VX];omega) p1 (by simp[Gc,a1]) uA hr
 have b2:=f2 0 dK
 simp only[Gc,Nat.reduceEqDiff,↓reduceIte,b0]at b2
 refine Jb ?_
 generalize hr:den P (.loop Oz) _ _=r
 have g12:=g1.trans g2
 have m2:JJ o H2 rb R L:=m.frame (fun c t h=>J6 (m.dom c t h) g12.len) (fun _ _ h=>h) fun c t h=>g12.keep c (m.dom c t h) (by have:=m.dom c t h;omega)
 obtain⟨E3,H3,w3,rfl,g3,a3,p3,f3⟩:=Gix m2 k g12.len m.dom (by rw[Qi,VX,VX];omega) p2 (by simp[Gc,b2]) (by simp[Gc,a2]) uA hr
 refine Jb ?_
 have g:=g12.trans g3
 refine⟨w3,H3,rfl,⟨g.len,fun c hc _=>g.keep c hc oM⟩,?_⟩
 unfold Rt.every
 rw[←List.append_assoc]
 exact p3
end
end Go.Cs.Tryz
namespace Go.Cs.Tryz
open Go Go.Cs A
abbrev Rv:Gn:=S (T [m 8 5,m 9 4,le 10 9,b 11 .lss 8 10] (J 11 (X 0))) (S (B 1 (T [m 14 0,m 15 4,m 16 5,x 17 3 15 16,lg 18 3 17,q2 19 175 14 18,bk 20 .neq 19 0] (I 20 (R [m 21 3,m 22 4,m 23 5,x 24 3 22 23,lg 25 3 24,e 26 (.buildSlice 3 [i 0,i 0,i 0] 1 [(0,3,t 25)]),ap 27 3 21 26,m 3 27])))) (R [m 12 5,bk 13 .add 12 1,m 5 13]))
def C91:Gj:=⟨29,0,T [e 2 (.Km (c .Gd))] (T [e 3 (.Km (c .Gd))] (T [m 6 0,q1 7 178 6,m 4 7] (S (T [n 5 0] (B 0 (W Rv))) (Q [m 28 3,m 2 28])))),[r 2]⟩
theorem c91:P 91=some C91:=by kernel_rfl
end Go.Cs.Tryz
namespace Go.Cs
open Go
theorem Gjn{l:Nat}{xs:List Int}{y:Nat×Nat×Int}(h:y∈Ej l xs):y.1=l∧xs[y.2.1]?=some y.2.2:=by
 unfold Ej at h
 grind
theorem Rt.Ggf{R:Rt}{x:Nat×Nat×Int}(h:x∈R.every):x.1≤2∧(R.li x.1)[x.2.1]?=some x.2.2:=by
 unfold Rt.every at h
 simp only[K_]at h
 rcases h with h|h|h<;>
 ·obtain⟨h1,h2⟩:=Gjn h
  refine⟨oM,?_⟩
  rw[h1];exact h2
theorem Ga8{α:Type}{p:α→Bool}{l:List α}{j:Nat}{x:α}(h:l[j]?=some x):(l.take (j+1)).filter p=(l.take j).filter p++(if p x then [x]else []):=by
 rw[Nl,h,Z4,List.filter_append]
 congr 1
 cases e:p x<;>simp[e]
end Go.Cs
namespace Go.Cs.Tryz
open Go Go.Cs
section
variable {H : Gb} {o : Tags} {rb : Nat} {R : Rt} {L : Vz}
theorem P3.at{k:Nat}{w:CV}{D:List (Nat×Nat×Int)}(h:P3 k H w D){j:Nat}{x:Nat×Nat×Int}(hx:D[j]?=some x):
  k≤Gp w∧Gp w<H.length∧(∀X,JM 3 w (.i j) X=some (.ptr (Gp w) (j*3),X))∧∀Y:Gb,Y[Gp w]?=H[Gp w]?→Ba Y[Gp w]? (j*3) 3=some [.i (K9 x).1,.i (K9 x).2.1,.i (K9 x).2.2]:=by
 have hj:=Gf hx
 obtain⟨tl,a1,a2,a3,a4⟩:=h.pos oM
 refine⟨(Gl.1 a2).1,Gf a3,fun X=>?_,fun Y hY=>?_⟩
 ·rw[a1];exact(if_pos oM).trans (by simp[Gp])
 ·rw[hY,a3,←Gb3];exact Gak hx
theorem GdH(m:JJ o H rb R L)(k:R.Ok){k0 k1:Nat}(hk0:k0≤H.length)(hd:∀c t,o c=some t→c<k0){w:CV}(hw:P3 k1 H w R.every)(hwk:R.every≠[]→Gp w<k0)
  {E0:Env}(h0:E0 0=.ptr rb 0)(h3:E0 3=.Gd)(h4:E0 4=w)(h5:E0 5=.i 0){r:Option (CX×Env×Gb)}(hr:den P (.loop Rv) E0 H=r):
  ∃E' H' w',r=some (.exit 0,E',H')∧Keeps H H' (fun c=>k0≤c)∧E' 3=w'∧P3 k0 H' w' R.vis∧∀t,t∉wr Rv→E' t=E0 t:=by
 have hel:=k.Ger
 obtain⟨x',E',H',e,-,⟨rfl,g,w',q1,q2⟩,fr⟩:=Gq (p:=P) (c:=Rv) (E0:=E0) (H0:=H)
  (fun q E H'=>∃(j:Nat)(w':CV),E 5=.i j∧j≤R.every.length∧q=R.every.length-j∧Keeps H H' (fun c=>k0≤c)∧E 3=w'∧P3 k0 H' w' ((R.every.take j).filter fun x=>x.2.2 != 0))
  (fun x' E' H'=>x'=.exit 0∧Keeps H H' (fun c=>k0≤c)∧∃w',E' 3=w'∧P3 k0 H' w' R.vis) (by
   rintro q E H' hE ⟨j,w',e5,hj,rfl,g,e3,p3⟩
   have e0:=(hE 0 dK).trans h0
   have e4:=(hE 4 dK).trans h4
   have m':JJ o H' rb R L:=m.frame (fun c t h=>J6 (m.dom c t h) g.len) (fun _ _ h=>h) fun c t h=>g.keep c (m.dom c t h) (by have:=hd c t h;omega)
   have hwl:=hw.len H'
   by_cases c:j<R.every.length
   ·have c':decide ((j:Int)<(R.every.length:Int))=true:=Gz oM
    obtain⟨x,hx⟩:∃x,R.every[j]?=some x:=⟨_,Jr c⟩
    obtain⟨y1,y2⟩:=Rt.Ggf (JV hx)
    have hloc:=k.DL (x:=x) y1 (Gf y2)
    obtain⟨i1,i2,i3,i4⟩:=P3.at hw hx
    have Gd8:=hwk (fun h=>by rw[h]at c;exact absurd c sM)
    have hwH:H'[Gp w]?=H[Gp w]?:=g.keep _ i2 oM
    have l1:=i4 H' hwH
    have b1:=T_ m' k hloc
    rw[Bo,y2]at b1
    simp only[Option.getD_some]at b1
    obtain⟨X,hX⟩:∃X:Gb,X=H'++[⟨[.i (K9 x).1,.i (K9 x).2.1,.i (K9 x).2.2],.rw,0⟩]:=⟨_,rfl⟩
    have gX:Gr H' X:=by rw[hX];exact Gr.app _ _
    rw[←hX]at b1
    have hlen:=g.len
    have l2:=i4 X ((gX.keep _ oM fun h=>h).trans hwH)
    have p3X:=At.keeps p3 gX
    have w1:IntKind.i64.wrap ((j:Int)+1)=((j+1:Nat):Int):=Gg oM
    have gX':Keeps H' X (fun c=>k0≤c):=⟨gX.len,fun c hc _=>gX.keep c hc fun h=>h⟩
    suffices fin:∃E' H2 w2,den P Rv E H'=some (.normal,E',H2)∧E' 5=.i ((j+1:Nat):Int)∧Keeps H' H2 (fun c=>k0≤c)∧E' 3=w2∧P3 k0 H2 w2 ((R.every.take (j+1)).filter fun x=>x.2.2 != 0)by
     obtain⟨E',H2,w2,f1,f2,f3,f4,f5⟩:=fin
     exact Gm f1 (k':=R.every.length-(j+1)) oM ⟨j+1,w2,f2,oM,rfl,g.trans f3,f4,f5⟩
    rw[Ga8 hx]
    by_cases hz:x.2.2=0
    ·have hz':(x.2.2 != 0)=false:=by rw[hz];rfl
     refine W10 e0 e4 e5 hwl c' i3 l1 b1 hz' w1 ?_
     exact⟨_,_,w',rfl,uA,gX',by simp[Gc,e3],p3X⟩
    ·have hz':(x.2.2 != 0)=true:=by simpa using hz
     have hfl:((R.every.take j).filter fun x=>x.2.2 != 0).length≤144:=J2 (List.length_filter_le _ _) (by rw[List.length_take];omega)
     obtain⟨v',X2,a1,a2,a3⟩:=P3.push p3X (J2 hk0 (J2 g.len gX.len)) oM (Gb3 x)
     refine W15 e0 e3 e4 e5 hwl c' i3 l1 b1 hz' l2 @JO @Jc a1 w1 ?_
     exact⟨_,_,v',rfl,uA,gX'.trans a3,uA,a2⟩
   ·have c':decide ((j:Int)<(R.every.length:Int))=false:=Gw oM
    rw[Qe oM,←Rt.Gfm]at p3
    apply Gi (x:=.exit 0)
    ·refine Jb ?_
     rfl
    ·simp
    ·exact⟨rfl,g,w',by simp[Gc,e3],p3⟩) _ ⟨0,.Gd,h5,oM,rfl,Keeps.refl _ _,h3,.inl ⟨rfl,rfl,.inl rfl⟩⟩
 grind
theorem OA(m:JJ o H rb R L)(k:R.Ok):∃w H',run P 91 [.ptr rb 0] H=some (w,H')∧Gr H H'∧P3 H.length H' w R.vis:=by
 obtain⟨w,H1,h1,g1,p1⟩:=GdN m k
 have m1:=m.gr g1
 have hel:R.every≠[]:=fun h=>by
  have:=k.g16
  have e:R.every.length=0:=by rw[h];rfl
  unfold Rt.every at e
  simp only[Qi,VX]at e
  omega
 have hwb:Gp w<H1.length:=by
  have h0:0<R.every.length:=Ld.2 hel
  obtain⟨tl,a1,a2,a3,a4⟩:=p1.pos h0
  exact Gf a3
 rw[Gh c91 _ _ sM]
 refine Jb ?_
 generalize hr:den P (.loop Rv) _ _=r
 obtain⟨E2,H2,w2,rfl,g2,a2,p2,f2⟩:=GdH m1 k (Nat.le_refl _) m1.dom p1 (fun _=>hwb) uA uA uA uA hr
 refine Jb ?_
 refine⟨w2,H2,rfl,⟨J2 g1.len g2.len,fun c hc _=>?_⟩,p2.frame (fun c h=>Gl.2 ⟨J2 g1.len (Gl.1 h).1,(Gl.1 h).2⟩) fun _ _=>rfl⟩
 have:=g1.len
 rw[g2.keep c oM oM,g1.keep c hc fun h=>h]
end
end Go.Cs.Tryz
namespace Go.Cs.Tryz
open Go Go.Cs A
abbrev PV:Gn:=S (T [m 23 8,m 24 3,le 25 24,b 26 .lss 23 25] (J 26 (X 2))) (S (B 3 (R [m 29 7,m 30 29,gf 30 (m 31 3),gf 30 (m 32 8),gf 30 (x 33 1 31 32),gf 30 (l 34 1 33),gf 30 (m 35 6),gf 30 (b 36 .eql 34 35),or 37 30 36,m 7 37])) (R [m 27 8,bk 28 .add 27 1,m 8 28]))
abbrev P_:Gn:=S (T [m 11 5,m 12 4,le 13 12,b 14 .lss 11 13] (J 14 (X 0))) (S (B 1 (T [m 17 0,m 18 4,m 19 5,x 20 3 18 19,lg 21 3 20,q2 22 175 17 21,m 6 22] (T [nb 7 false] (S (T [n 8 0] (B 2 (W PV))) (T [m 38 7,no 39 38] (I 39 (R [m 40 3,m 41 6,e 42 (.buildSlice 1 [i 0] 1 [(0,1,t 41)]),ap 43 1 40 42,m 3 43]))))))) (R [m 15 5,bk 16 .add 15 1,m 5 16]))
def C86:Gj:=⟨45,0,T [e 2 (.Km (c .Gd))] (T [e 3 (.Km (c .Gd))] (T [m 9 0,q1 10 91 9,m 4 10] (S (T [n 5 0] (B 0 (W P_))) (Q [m 44 3,m 2 44])))),[r 2]⟩
theorem c86:P 86=some C86:=by kernel_rfl
end Go.Cs.Tryz
namespace Go.Cs
open Go
theorem Gf1{l:List Int}{j:Nat}{y x:Int}(h:l[j]?=some y):(l.take (j+1)).any (fun z=>z==x)=((l.take j).any (fun z=>z==x)||y==x):=by
 rw[Nl,h,Z4,List.any_append]
 simp
end Go.Cs
namespace Go.Cs.Tryz
open Go Go.Cs
section
variable {H : Gb} {o : Tags} {rb : Nat} {R : Rt} {L : Vz}
theorem Gfn{l:List Int}{w:CV}(h:LI H w l)(hl:l.length≤100000){x:Int}{E0:Env}(h3:E0 3=w)(h6:E0 6=.i x)(h7:E0 7=.bool false)(h8:E0 8=.i 0){r:Option (CX×Env×Gb)}(hr:den P (.loop PV) E0 H=r):
  ∃E',r=some (.exit 2,E',H)∧E' 7=.bool (decide (x∈l))∧∀t,t∉wr PV→E' t=E0 t:=by
 obtain⟨x',E',H',e,-,⟨rfl,rfl,hf⟩,fr⟩:=Gq (p:=P) (c:=PV) (E0:=E0) (H0:=H)
  (fun q E H'=>H'=H∧∃j:Nat,E 8=.i j∧j≤l.length∧q=l.length-j∧E 7=.bool ((l.take j).any fun z=>z==x))
  (fun x' E' H'=>x'=.exit 2∧H'=H∧E' 7=.bool (decide (x∈l))) (by
   rintro q E H' hE ⟨rfl,j,e8,hj,rfl,e7⟩
   have e3:=(hE 3 dK).trans h3
   have e6:=(hE 6 dK).trans h6
   have hvl:=h.len H'
   by_cases c:j<l.length
   ·have c':decide ((j:Int)<(l.length:Int))=true:=Gz oM
    have hx:l[j]?=some l[j]:=Jr c
    obtain⟨b,o,i1,i2,i3⟩:=h.at hx
    have Yg:=i3 H' (Keeps.refl _ _)
    have w1:IntKind.i64.wrap ((j:Int)+1)=((j+1:Nat):Int):=Gg oM
    suffices fin:∃E',den P PV E H'=some (.normal,E',H')∧E' 8=.i ((j+1:Nat):Int)∧E' 7=.bool ((l.take j).any (fun z=>z==x)||l[j]==x)by
     obtain⟨E',f1,f2,f3⟩:=fin
     exact Gm f1 (k':=l.length-(j+1)) oM ⟨rfl,j+1,f2,oM,rfl,by rw[Gf1 hx];exact f3⟩
    cases ha:(l.take j).any fun z=>z==x with
    |true=>
     rw[ha]at e7
     refine Jb ?_
     exact⟨_,rfl,uA,uA⟩
    |false=>
     rw[ha]at e7
     refine Jb ?_
     exact⟨_,rfl,uA,uA⟩
   ·have c':decide ((j:Int)<(l.length:Int))=false:=Gw oM
    rw[Qe oM]at e7
    apply Gi (x:=.exit 2)
    ·refine Jb ?_
     rfl
    ·simp
    ·refine⟨rfl,rfl,?_⟩
     have:(l.any fun z=>z==x)=decide (x∈l):=by
      grind
     rw[←this]
     simp[Gc,e7]) _ ⟨rfl,0,h8,oM,rfl,by simpa using h7⟩
 exact⟨E',hr.symm.trans e,hf,fr⟩
theorem GeR(m:JJ o H rb R L)(k:R.Ok){k0 k1:Nat}(hk0:k0≤H.length)(hd:∀c t,o c=some t→c<k0){w:CV}(hw:P3 k1 H w R.vis)(hwk:R.vis≠[]→Gp w<k0)
  {E0:Env}(h0:E0 0=.ptr rb 0)(h3:E0 3=.Gd)(h4:E0 4=w)(h5:E0 5=.i 0){r:Option (CX×Env×Gb)}(hr:den P (.loop P_) E0 H=r):
  ∃E' H' w',r=some (.exit 0,E',H')∧Keeps H H' (fun c=>k0≤c)∧E' 3=w'∧IL k0 H' w' (G_ R.vis)∧∀t,t∉wr P_→E' t=E0 t:=by
 have hel:=k.Uw
 obtain⟨x',E',H',e,-,⟨rfl,g,w',q1,q2⟩,fr⟩:=Gq (p:=P) (c:=P_) (E0:=E0) (H0:=H)
  (fun q E H'=>∃(j:Nat)(w':CV),E 5=.i j∧j≤R.vis.length∧q=R.vis.length-j∧Keeps H H' (fun c=>k0≤c)∧E 3=w'∧IL k0 H' w' (G_ (R.vis.take j)))
  (fun x' E' H'=>x'=.exit 0∧Keeps H H' (fun c=>k0≤c)∧∃w',E' 3=w'∧IL k0 H' w' (G_ R.vis)) (by
   rintro q E H' hE ⟨j,w',e5,hj,rfl,g,e3,p3⟩
   have e0:=(hE 0 dK).trans h0
   have e4:=(hE 4 dK).trans h4
   have m':JJ o H' rb R L:=m.frame (fun c t h=>J6 (m.dom c t h) g.len) (fun _ _ h=>h) fun c t h=>g.keep c (m.dom c t h) (by have:=hd c t h;omega)
   have hwl:=hw.len H'
   by_cases c:j<R.vis.length
   ·have c':decide ((j:Int)<(R.vis.length:Int))=true:=Gz oM
    obtain⟨x,hx⟩:∃x,R.vis[j]?=some x:=⟨_,Jr c⟩
    obtain⟨y1,y2,y3⟩:=Rt.Gbn (JV hx)
    have hloc:=k.DL (x:=x) y1 (Gf y2)
    obtain⟨i1,i2,i3,i4⟩:=P3.at hw hx
    have Gd8:=hwk (fun h=>by rw[h]at c;exact absurd c sM)
    have hwH:H'[Gp w]?=H[Gp w]?:=g.keep _ i2 oM
    have l1:=i4 H' hwH
    have b1:=T_ m' k hloc
    rw[Bo,y2]at b1
    simp only[Option.getD_some]at b1
    obtain⟨X,hX⟩:∃X:Gb,X=H'++[⟨[.i (K9 x).1,.i (K9 x).2.1,.i (K9 x).2.2],.rw,0⟩]:=⟨_,rfl⟩
    have gX:Gr H' X:=by rw[hX];exact Gr.app _ _
    rw[←hX]at b1
    have hlen:=g.len
    have p3X:=At.keeps p3 gX
    have hll:=QB (R.vis.take j)
    rw[List.length_take]at hll
    have w1:IntKind.i64.wrap ((j:Int)+1)=((j+1:Nat):Int):=Gg oM
    have gX':Keeps H' X (fun c=>k0≤c):=⟨gX.len,fun c hc _=>gX.keep c hc fun h=>h⟩
    suffices fin:∃E' H2 w2,den P P_ E H'=some (.normal,E',H2)∧E' 5=.i ((j+1:Nat):Int)∧Keeps H' H2 (fun c=>k0≤c)∧E' 3=w2∧IL k0 H2 w2 (G_ (R.vis.take (j+1)))by
     obtain⟨E',H2,w2,f1,f2,f3,f4,f5⟩:=fin
     exact Gm f1 (k':=R.vis.length-(j+1)) oM ⟨j+1,w2,f2,oM,rfl,g.trans f3,f4,f5⟩
    rw[show R.vis.take (j+1)=R.vis.take j++[x]by rw[Nl,hx];rfl,Y_]
    refine W8 e0 e4 e5 hwl c' i3 l1 b1 ?_
    generalize hr:den P (.loop PV) _ _=r
    obtain⟨E2,rfl,a7,f2⟩:=Gfn (x:=x.2.2) (IL.li p3X) oM (by simp[Gc,e3]) uA uA uA hr
    have b3:=f2 3 dK
    have b5:=f2 5 dK
    have b6:=f2 6 dK
    simp only[Gc,Nat.reduceEqDiff,↓reduceIte,e3,e5]at b3 b5 b6
    by_cases hm:x.2.2∈G_ (R.vis.take j)
    ·rw[Gz hm]at a7
     refine W3 a7 b5 w1 ?_
     exact⟨_,_,w',rfl,uA,gX',by simp[Gc,b3],by rw[Uf,if_pos hm];exact p3X⟩
    ·rw[Gw hm]at a7
     obtain⟨v',X2,a1,a2,a3⟩:=IL.push p3X (J2 hk0 (J2 g.len gX.len)) oM x.2.2
     have hel:elems (X++[⟨[.i x.2.2],.rw,1⟩]) 1 (.slice X.length 0 1 1 1 false)=some (1,[.i x.2.2]):=by
      rw[JN oM]
      have:=@N9;exact W0
     refine W9 a7 b3 b5 b6 @JO @Jc hel a1 w1 ?_
     exact⟨_,_,v',rfl,uA,gX'.trans a3,uA,by rw[Uf,if_neg hm];exact a2⟩
   ·have c':decide ((j:Int)<(R.vis.length:Int))=false:=Gw oM
    rw[Qe oM]at p3
    apply Gi (x:=.exit 0)
    ·refine Jb ?_
     rfl
    ·simp
    ·exact⟨rfl,g,w',by simp[Gc,e3],p3⟩) _ ⟨0,.Gd,h5,oM,rfl,Keeps.refl _ _,h3,.inl ⟨rfl,rfl,.inl rfl⟩⟩
 grind
theorem PD(m:JJ o H rb R L)(k:R.Ok):∃w H',run P 86 [.ptr rb 0] H=some (w,H')∧Gr H H'∧IL H.length H' w (G_ R.vis):=by
 obtain⟨w,H1,h1,g1,p1⟩:=OA m k
 have m1:=m.gr g1
 have hwb:R.vis≠[]→Gp w<H1.length:=fun h=>by
  obtain⟨tl,a1,a2,a3,a4⟩:=p1.pos (Ld.2 h)
  exact Gf a3
 rw[Gh c86 _ _ sM]
 refine Jb ?_
 generalize hr:den P (.loop P_) _ _=r
 obtain⟨E2,H2,w2,rfl,g2,a2,p2,f2⟩:=GeR m1 k (Nat.le_refl _) m1.dom p1 hwb uA uA uA uA hr
 refine Jb ?_
 refine⟨w2,H2,rfl,⟨J2 g1.len g2.len,fun c hc _=>?_⟩,p2.frame (fun c h=>Gl.2 ⟨J2 g1.len (Gl.1 h).1,(Gl.1 h).2⟩) fun _ _=>rfl⟩
 have:=g1.len
 rw[g2.keep c oM oM,g1.keep c hc fun h=>h]
end
end Go.Cs.Tryz

namespace Go.Cs
open Go
inductive Kp(s:Hp)(st:Int→Prop)(tb:Bool):Int→Prop
 |start {a:Int}:st a→s.has a=true→Kp s st tb a
 |ref {a b:Int} {o:Ob} {j:Nat}:Kp s st tb a→s.obj a=some o→o.refs[j]?=some b→Jh o.kd j=true→s.has b=true→Kp s st tb b
 |pair {a b c:Int} {o:Ob}:tb=true→Kp s st tb a→s.obj a=some o→o.kd=2→o.refs[0]?=some c→Kp s st tb c→o.refs[1]?=some b→s.has b=true→Kp s st tb b
theorem Kp.has{s:Hp}{st:Int→Prop}{tb:Bool}{a:Int}(h:Kp s st tb a):s.has a=true:=by
 cases h<;>assumption
theorem Kp.mono{s:Hp}{st st':Int→Prop}{tb:Bool}(hs:∀a,st a→st' a){a:Int}(h:Kp s st tb a):Kp s st' tb a:=by
 induction h with
 |start h1 h2=>exact .start (hs _ h1) h2
 |ref _ h2 h3 h4 h5 ih=>exact .ref ih h2 h3 h4 h5
 |pair h1 _ h3 h4 h5 _ h7 h8 ih1 ih2=>exact .pair h1 ih1 h3 h4 h5 ih2 h7 h8
def incl(s:Hp)(l:List Int)(a:Int):List Int:=if s.has a=true then BI a l else l
def Nn(s:Hp)(o:Ob)(j:Nat)(l:List Int):List Int:=((o.refs.take j).zipIdx).foldl (fun l x=>if Jh o.kd x.2=true then incl s l x.1 else l) l
def UC(s:Hp)(tb:Bool)(l:List Int)(o:Ob):List Int:=
 if tb=true∧o.kd=2∧o.refs.getD 0 0∈Nn s o o.refs.length l then incl s (Nn s o o.refs.length l) (o.refs.getD 1 0)else Nn s o o.refs.length l
def KZ(s:Hp)(tb:Bool)(all:List Int)(j:Nat)(l:List Int):List Int:=(all.take j).foldl (fun l a=>match s.obj a with|some o=>UC s tb l o|none=>l) l
structure A_(l k:List Int):Prop where
 Ic:Uc l→Uc k
 sub:∀x∈l,x∈k
 len:l.length≤k.length
 eq:Uc l→k.length=l.length→k=l
theorem A_.refl(l:List Int):A_ l l:=⟨fun h=>h,fun _ h=>h,Nat.le_refl _,fun _ _=>rfl⟩
theorem A_.trans{l k m:List Int}(a:A_ l k)(b:A_ k m):A_ l m:=
 ⟨fun h=>b.Ic (a.Ic h),fun x h=>b.sub x (a.sub x h),J2 a.len b.len,fun h e=>by
  have h1:=a.len
  have h2:=b.len
  have e1:=a.eq h oM
  subst e1
  exact b.eq h e⟩
theorem Xg(n:Int)(l:List Int):BI n l=l∧n∈l∨(BI n l).length=l.length+1:=by
 rw[RY]
 grind
theorem ZF(s:Hp)(l:List Int)(a:Int):A_ l (incl s l a):=by
 unfold incl
 split
 ·refine⟨Ga3,fun x h=>YA.2 (.inr h),?_,fun _ h=>?_⟩
  ·rcases Xg a l with h|h
   ·rw[h.1];exact Nat.le_refl _
   ·omega
  ·rcases Xg a l with h1|h1
   ·exact h1.1
   ·omega
 ·exact .refl l
theorem R6{s:Hp}{l:List Int}{a:Int}(h:incl s l a=l)(ha:s.has a=true):a∈l:=by
 rw[incl,if_pos ha]at h
 rw[←h];exact YA.2 (.inl rfl)
theorem MS{s:Hp}{l:List Int}{a x:Int}(h:x∈incl s l a):(x=a∧s.has a=true)∨x∈l:=by
 unfold incl at h
 split at h
 ·rcases YA.1 h with h|h
  ·exact .inl ⟨h,by assumption⟩
  ·exact .inr h
 ·exact .inr h
theorem Zm{s:Hp}{o:Ob}{j:Nat}{l:List Int}{r:Int}(h:o.refs[j]?=some r):Nn s o (j+1) l=if Jh o.kd j=true then incl s (Nn s o j l) r else Nn s o j l:=by
 have hj:=Gf h
 unfold Nn
 rw[Nl,h,Z4,List.zipIdx_append,List.foldl_append]
 grind
theorem Gbs{s:Hp}{o:Ob}{j:Nat}{l:List Int}(hj:j<o.refs.length):A_ (Nn s o j l) (Nn s o (j+1) l):=by
 rw[Zm (Jr hj)]
 split
 ·exact ZF _ _ _
 ·exact .refl _
theorem NU{s:Hp}{o:Ob}{l:List Int}:∀{i j:Nat},i≤j→j≤o.refs.length→A_ (Nn s o i l) (Nn s o j l):=by
 intro i j hi
 induction hi with
 |refl=>intro _;exact .refl _
 |step h ih=>intro hj;exact(ih oM).trans (Gbs oM)
theorem Gb5(s:Hp)(tb:Bool)(l:List Int)(o:Ob):A_ l (UC s tb l o):=by
 have h:A_ l (Nn s o o.refs.length l):=NU (Nat.zero_le _) (Nat.le_refl _)
 unfold UC
 split
 ·exact h.trans (ZF _ _ _)
 ·exact h
theorem Zh{s:Hp}{tb:Bool}{all:List Int}{j:Nat}{l:List Int}{a:Int}(h:all[j]?=some a):KZ s tb all (j+1) l=match s.obj a with|some o=>UC s tb (KZ s tb all j l) o|none=>KZ s tb all j l:=by
 unfold KZ
 rw[Nl,h,Z4,List.foldl_append]
 rfl
theorem GbJ{s:Hp}{tb:Bool}{all:List Int}{j:Nat}{l:List Int}(hj:j<all.length):A_ (KZ s tb all j l) (KZ s tb all (j+1) l):=by
 rw[Zh (Jr hj)]
 split
 ·exact Gb5 _ _ _ _
 ·exact .refl _
theorem Uh{s:Hp}{tb:Bool}{all:List Int}{l:List Int}:∀{i j:Nat},i≤j→j≤all.length→A_ (KZ s tb all i l) (KZ s tb all j l):=by
 intro i j hi
 induction hi with
 |refl=>intro _;exact .refl _
 |step h ih=>intro hj;exact(ih oM).trans (GbJ oM)
theorem squeeze{l k m:List Int}(hs:Uc l)(a:A_ l k)(b:A_ k m)(e:m=l):k=l:=by
 have h1:=a.len
 have h2:=b.len
 exact a.eq hs (by rw[e]at h2;omega)
theorem WI{s:Hp}{o:Ob}{l:List Int}(hs:Uc l)(h:Nn s o o.refs.length l=l){j:Nat}{r:Int}(hr:o.refs[j]?=some r) (hst:Jh o.kd j=true) (hh:s.has r=true):r∈l:=by
 have hj:=Gf hr
 have e0:Nn s o j l=l:=squeeze hs (NU (Nat.zero_le _) oM) (NU oM (Nat.le_refl _)) h
 have e1:Nn s o (j+1) l=l:=squeeze hs (NU (Nat.zero_le _) oM) (NU oM (Nat.le_refl _)) h
 rw[Zm hr,if_pos hst,e0]at e1
 exact R6 e1 hh
theorem FR{s:Hp}{tb:Bool}{l:List Int}(hs:Uc l)(h:KZ s tb l l.length l=l){a:Int}{o:Ob}(ha:a∈l)(ho:s.obj a=some o):UC s tb l o=l:=by
 obtain⟨j,hj⟩:=List.mem_iff_getElem?.1 ha
 have hl:=Gf hj
 have e0:KZ s tb l j l=l:=squeeze hs (Uh (Nat.zero_le _) oM) (Uh oM (Nat.le_refl _)) h
 have e1:KZ s tb l (j+1) l=l:=squeeze hs (Uh (Nat.zero_le _) oM) (Uh oM (Nat.le_refl _)) h
 rw[Zh hj,ho,e0]at e1
 exact e1
theorem GdO{s:Hp}{st:Int→Prop}{tb:Bool}{l:List Int}(hs:Uc l)(h0:∀a,st a→s.has a=true→a∈l)(h:KZ s tb l l.length l=l){a:Int}(ha:Kp s st tb a):a∈l:=by
 induction ha with
 |start h1 h2=>exact h0 _ h1 h2
 |@ref a b o j _ h2 h3 h4 h5 ih=>
  have e:=FR hs h ih h2
  have e1:Nn s o o.refs.length l=l:=by
   refine squeeze hs (NU (Nat.zero_le _) (Nat.le_refl _)) ?_ e
   unfold UC
   split
   ·exact ZF _ _ _
   ·exact .refl _
  exact WI hs e1 h3 h4 h5
 |@pair a b c o h1 _ h3 h4 h5 _ h7 h8 ih1 ih2=>
  have e:=FR hs h ih1 h3
  have e1:Nn s o o.refs.length l=l:=by
   refine squeeze hs (NU (Nat.zero_le _) (Nat.le_refl _)) ?_ e
   unfold UC
   split
   ·exact ZF _ _ _
   ·exact .refl _
  unfold UC at e
  rw[e1,if_pos ⟨h1,h4,by grind⟩,Bo,h7]at e
  exact R6 e h8
theorem IQ{s:Hp}{st:Int→Prop}{tb:Bool}{o:Ob}{a:Int}(ha:Kp s st tb a)(ho:s.obj a=some o){l:List Int}(hl:∀x∈l,Kp s st tb x):∀{j:Nat},j≤o.refs.length→∀x∈Nn s o j l,Kp s st tb x:=by
 intro j
 induction j with
 |zero=>intro _;exact hl
 |succ j ih=>
  intro hj x hx
  have hr:o.refs[j]?=some o.refs[j]:=Jr oM
  rw[Zm hr]at hx
  split at hx
  ·rename_i c
   rcases MS hx with⟨rfl,h⟩|h
   ·exact .ref ha ho hr c h
   ·exact ih oM x h
  ·exact ih oM x hx
theorem Geq{s:Hp}{st:Int→Prop}{tb:Bool}{o:Ob}{a:Int}(ha:Kp s st tb a)(ho:s.obj a=some o)(hk:o.kd=2→2≤o.refs.length){l:List Int}(hl:∀x∈l,Kp s st tb x):∀x∈UC s tb l o,Kp s st tb x:=by
 intro x hx
 have h1:=IQ ha ho hl (Nat.le_refl _)
 unfold UC at hx
 split at hx
 ·rename_i c
  rcases MS hx with⟨rfl,h⟩|h
  ·obtain⟨c1,c2,c3⟩:=c
   have h2:=hk c2
   have e0:o.refs[0]?=some (o.refs.getD 0 0):=by grind
   have e1:o.refs[1]?=some (o.refs.getD 1 0):=by grind
   exact .pair c1 ha ho c2 e0 (h1 _ c3) e1 h
  ·exact h1 x h
 ·exact h1 x hx
theorem Hp.Ok.PS{s:Hp}(k:s.Ok){a:Int}{o:Ob}(h:s.obj a=some o):(o.kd=1→1≤o.refs.length)∧(o.kd=2→2≤o.refs.length):=
 (k.ob o (Hp.Jf h).1).kd.2
theorem Gah{s:Hp}(k:s.Ok){st:Int→Prop}{tb:Bool}{all l:List Int}(hall:∀x∈all,Kp s st tb x)(hl:∀x∈l,Kp s st tb x):∀{j:Nat},j≤all.length→∀x∈KZ s tb all j l,Kp s st tb x:=by
 intro j
 induction j with
 |zero=>intro _;exact hl
 |succ j ih=>
  intro hj x hx
  have hr:all[j]?=some all[j]:=Jr oM
  rw[Zh hr]at hx
  split at hx
  ·rename_i o ho
   exact Geq (hall _ (JV hr)) ho (k.PS ho).2 (ih oM) x hx
  ·exact ih oM x hx
theorem Hp.Ok.has_lt{s:Hp}(k:s.Ok){a:Int}(h:s.has a=true):0≤a∧a<4096:=by
 obtain⟨o,ho⟩:=Hp.J4.1 h
 obtain⟨h1,h2⟩:=Hp.Jf ho
 have h3:=(k.ob o h1).fits
 have h4:=o.size_pos
 have h5:=k.nb
 have h6:s.nw=64*s.blk.length:=rfl
 omega
theorem Hp.Ok.IK{s:Hp}(k:s.Ok){l:List Int}(h:Uc l)(hl:∀x∈l,s.has x=true):l.length≤4096:=by
 rcases Gkd h (a:=0) (b:=4096) (fun x hx=>k.has_lt (hl x hx))with h|h
 ·omega
 ·rw[h];simp
end Go.Cs
namespace Go.Cs.Tryz
open Go Go.Cs A
abbrev PK:Gn:=S (T [m 54 13,f 55 5 12,l 56 1 55,le 57 56,b 58 .lss 54 57] (J 58 (X 6))) (S (B 7 (T [f 61 2 12,lg 62 3 61,m 63 13,q2 64 174 62 63] (I 64 (R [m 65 0,m 66 7,f 67 5 12,l 68 1 67,m 69 13,x 70 1 68 69,l 71 1 70,q3 72 173 65 66 71,m 7 72])))) (R [m 59 13,bk 60 .add 59 1,m 13 60]))
abbrev Ry:Gn:=S (T [m 36 11,m 37 10,le 38 37,b 39 .lss 36 38] (J 39 (X 4))) (S (B 5 (S (D [⟨m 46 0,4,0,0⟩,⟨m 47 10,5,0,0⟩,⟨m 48 11,6,0,0⟩,⟨x 49 1 47 48,7,0,0⟩,⟨l 50 1 49,8,1,0⟩,⟨q2 51 87 46 50,9,3,0⟩,⟨m 42 0,0,0,0⟩,⟨z 43 42,1,0,0⟩,⟨f 44 1 43,2,0,0⟩,⟨l 45 1 44,3,1,0⟩,⟨x 52 8 45 51,10,0,1⟩,⟨lg 53 8 52,11,1,1⟩,⟨e 12 (.new [i 0,i 0,i 0,i 0,i 0,.Gd,.Gd,.bool false]),12,0,0⟩,⟨st 8 12 53,13,3,1⟩]) (S (T [n 13 0] (B 6 (W PK))) (T [m 73 2,m 74 73,gt 74 (f 75 2 12),gt 74 (f 76 2 75),gt 74 (l 77 1 76),gt 74 (bk 78 .eql 77 2),an 79 74 78,m 80 79,gt 80 (m 81 7),gt 80 (f 82 5 12),gt 80 (l 83 1 82),gt 80 (e 84 (.index 1 (t 83) (k 0))),gt 80 (l 85 1 84),gt 80 (q2 86 15 81 85),an 87 80 86] (I 87 (R [m 88 0,m 89 7,f 90 5 12,l 91 1 90,e 92 (.index 1 (t 91) (k 1)),l 93 1 92,q3 94 173 88 89 93,m 7 94])))))) (R [m 40 11,bk 41 .add 40 1,m 11 41]))
abbrev RJ:Gn:=S (T [m 28 9,m 29 7,le 30 29,b 31 .neq 28 30] (J 31 (X 2))) (B 3 (T [m 32 7,le 33 32,m 9 33] (T [m 34 7,q1 35 30 34,m 10 35] (T [n 11 0] (B 4 (W Ry))))))
abbrev XL:Gn:=S (T [m 15 8,m 16 1,le 17 16,b 18 .lss 15 17] (J 18 (X 0))) (S (B 1 (R [m 21 0,m 22 7,m 23 1,m 24 8,x 25 1 23 24,l 26 1 25,q3 27 173 21 22 26,m 7 27])) (R [m 19 8,bk 20 .add 19 1,m 8 20]))
def C85:Gj:=⟨96,0,T [e 6 (.Km (c .Gd))] (T [e 14 (.buildSlice 1 [] 0 []),m 7 14] (S (T [n 8 0] (B 0 (W XL))) (S (T [n 9 (-1)] (B 2 (W RJ))) (Q [m 95 7,m 6 95])))),[r 6]⟩
theorem c85:P 85=some C85:=by kernel_rfl
end Go.Cs.Tryz
namespace Go.Cs.Tryz
open Go Go.Cs
section
variable {H : Gb} {o : Tags} {rb : Nat} {s : Hp} {L : NG}
def zOb:List CV:=[.int .i64 0,.int .i64 0,.int .i64 0,.int .i64 0,.int .i64 0,.Gd,.Gd,.bool false]
theorem Gjj{H:Gb}{r:List CV}(hr:r.length=8)(hl:r.all leaf=true):Hl (H++[⟨zOb,.rw,0⟩]) H.length (some ⟨zOb,.rw,0⟩) 0 r=some (H++[⟨r,.rw,0⟩]):=by
 rw[UD (by rw[hr];simp[zOb]) hl]
 congr 1
 rw[List.set_append_right _ _ (Nat.le_refl _),Nat.sub_self]
 simp[zOb,splice,hr]
structure Kl(s:Hp)(st:Int→Prop)(tb:Bool)(l:List Int):Prop where
 Ic:Uc l
 kp:∀x∈l,Kp s st tb x
theorem Kl.few{st:Int→Prop}{tb:Bool}{l:List Int}(h:Kl s st tb l)(k:s.Ok):l.length≤4096:=k.IK h.Ic fun x hx=>(h.kp x hx).has
theorem GhJ(m:J3 o H rb s L)(k:s.Ok){st:Int→Prop}{tb:Bool}{a:Int}{x:Ob}(ha:Kp s st tb a)(hx:s.obj a=some x){ob:Nat}(Yi:H[ob]?=some ⟨Gt L.hv x,.rw,0⟩) {w:CV} {l:List Int} (hw:LI H w l) (kl:Kl s st tb l)
  {E0:Env} (h0:E0 0=.ptr rb 0) (h7:E0 7=w) (h12:E0 12=.ptr ob 0) (WA:E0 13=.i 0) {r:Option (CX×Env×Gb)} (hr:den P (.loop PK) E0 H=r):
  ∃E' H' w',r=some (.exit 6,E',H')∧Gr H H'∧E' 7=w'∧LI H' w' (Nn s x x.refs.length l)∧∀t,t∉wr PK→E' t=E0 t:=by
 have hxm:=(Hp.Jf hx).1
 have hok:=k.ob x hxm
 have hnr:=hok.nr
 obtain⟨x',E',H',e,-,⟨rfl,g,w',q1,q2⟩,fr⟩:=Gq (p:=P) (c:=PK) (E0:=E0) (H0:=H)
  (fun q E H'=>∃(j:Nat)(w':CV),E 13=.i j∧j≤x.refs.length∧q=x.refs.length-j∧Gr H H'∧E 7=w'∧LI H' w' (Nn s x j l))
  (fun x' E' H'=>x'=.exit 6∧Gr H H'∧∃w',E' 7=w'∧LI H' w' (Nn s x x.refs.length l)) (by
   rintro q E H' hE ⟨j,w',e13,hj,rfl,g,e7,li⟩
   have e0:=(hE 0 dK).trans h0
   have e12:=(hE 12 dK).trans h12
   have m':=m.gr g
   obtain⟨rv,hrv⟩:∃rv,rv=(L.hv x.id).1:=⟨_,rfl⟩
   have hrf:=(m'.refs x hxm).1
   rw[←hrv]at hrf
   have hvl:=hrf.len H'
   have t0:=g.get Yi
   unfold Gt at t0
   rw[←hrv]at t0
   have kl':Kl s st tb (Nn s x j l):=⟨(NU (Nat.zero_le _) hj).Ic kl.Ic,IQ ha hx kl.kp hj⟩
   have Gd3:=kl'.few k
   by_cases c:j<x.refs.length
   ·have c':decide ((j:Int)<(x.refs.length:Int))=true:=Gz oM
    have hr:x.refs[j]?=some x.refs[j]:=Jr c
    obtain⟨r,hre⟩:∃r,r=x.refs[j]:=⟨_,rfl⟩
    rw[←hre]at hr
    obtain⟨b,f,i1,i2,i3⟩:=LI.at (At.il hrf) hr
    have w1:IntKind.i64.wrap ((j:Int)+1)=((j+1:Nat):Int):=Gg oM
    have hst:=Gcm (H:=H') x.refs.length x.data.length x.kd j
    obtain⟨X,hX⟩:∃X:Gb,X=H'++[⟨GX x.refs.length x.data.length x.kd,.rw,0⟩]:=⟨_,rfl⟩
    have gX:Gr H' X:=by rw[hX];exact Gr.app _ _
    rw[←hX]at hst
    unfold GX at hst
    have i3X:=i3 X gX
    have t0X:=gX.get t0
    suffices fin:∃E' H2 w2,den P PK E H'=some (.normal,E',H2)∧E' 13=.i ((j+1:Nat):Int)∧Gr H' H2∧E' 7=w2∧LI H2 w2 (Nn s x (j+1) l)by
     obtain⟨E',H2,w2,f1,f2,f3,f4,f5⟩:=fin
     exact Gm f1 (k':=x.refs.length-(j+1)) oM ⟨j+1,w2,f2,oM,rfl,g.trans f3,f4,f5⟩
    rw[Zm hr]
    cases hsb:Jh x.kd j with
    |true=>
     rw[hsb]at hst
     obtain⟨v',X2,a1,a2,a3⟩:=ZM (m'.gr gX) k (li.gr gX) oM r
     refine W13 e0 e7 e12 e13 t0 hvl c' hst t0X i1 i3X a1 w1 ?_
     exact⟨_,_,v',rfl,uA,gX.trans a2,uA,a3⟩
    |false=>
     rw[hsb]at hst
     refine W7 e12 e13 t0 hvl c' hst w1 ?_
     exact⟨_,_,w',rfl,uA,gX,by simp[Gc,e7],li.gr gX⟩
   ·have c':decide ((j:Int)<(x.refs.length:Int))=false:=Gw oM
    have hjj:j=x.refs.length:=by omega
    rw[hjj]at li
    apply Gi (x:=.exit 6)
    ·refine W5 e12 e13 t0 hvl c' ?_
     rfl
    ·simp
    ·exact⟨rfl,g,w',by simp[Gc,e7],li⟩) _ ⟨0,w,WA,oM,rfl,Keeps.refl _ _,h7,hw⟩
 grind
theorem Ggo(m:J3 o H rb s L)(k:s.Ok){st:Int→Prop}{tb:Bool}{all:List Int}{w0:CV}(hw0:LI H w0 all)(kla:Kl s st tb all){w:CV}{l:List Int}(hw:LI H w l)(kl:Kl s st tb l)
  {E0:Env}(h0:E0 0=.ptr rb 0)(h2:E0 2=.bool tb)(h7:E0 7=w)(h10:E0 10=w0)(h11:E0 11=.i 0){r:Option (CX×Env×Gb)}(hr:den P (.loop Ry) E0 H=r):
  ∃E' H' w',r=some (.exit 4,E',H')∧Gr H H'∧E' 7=w'∧LI H' w' (KZ s tb all all.length l)∧∀t,t∉wr Ry→E' t=E0 t:=by
 have hfa:=kla.few k
 obtain⟨x',E',H',e,-,⟨rfl,g,w',q1,q2⟩,fr⟩:=Gq (p:=P) (c:=Ry) (E0:=E0) (H0:=H)
  (fun q E H'=>∃(j:Nat)(w':CV),E 11=.i j∧j≤all.length∧q=all.length-j∧Gr H H'∧E 7=w'∧LI H' w' (KZ s tb all j l))
  (fun x' E' H'=>x'=.exit 4∧Gr H H'∧∃w',E' 7=w'∧LI H' w' (KZ s tb all all.length l)) (by
   rintro q E H' hE ⟨j,w',e11,hj,rfl,g,e7,li⟩
   have e0:=(hE 0 dK).trans h0
   have e2:=(hE 2 dK).trans h2
   have e10:=(hE 10 dK).trans h10
   have m':=m.gr g
   have hvl:=hw0.len H'
   have kl':Kl s st tb (KZ s tb all j l):=⟨(Uh (Nat.zero_le _) hj).Ic kl.Ic,Gah k kla.kp kl.kp hj⟩
   have Gd3:=kl'.few k
   by_cases c:j<all.length
   ·have c':decide ((j:Int)<(all.length:Int))=true:=Gz oM
    have hr:all[j]?=some all[j]:=Jr c
    obtain⟨a,hae⟩:∃a,a=all[j]:=⟨_,rfl⟩
    rw[←hae]at hr
    have hka:=kla.kp a (JV hr)
    obtain⟨x,hx⟩:=Hp.J4.1 hka.has
    obtain⟨b,f,i1,i2,i3⟩:=LI.at hw0 hr
    have Yg:=i3 H' g
    have w1:IntKind.i64.wrap ((j:Int)+1)=((j+1:Nat):Int):=Gg oM
    have hix:=KR m' k a
    unfold Hp.KC at hix
    rw[if_pos hka.has]at hix
    have hxi:=Hp.Q_ hx
    obtain⟨b2,n,tl,q1,q2,q3,q4,q5,q6⟩:=J3.row m' hxi
    have hc:=m'.cells
    rw[q1]at hc
    have q7:Ba (some (⟨Gu L.hv s.objs,.rw,8⟩:JE)) (s.idx a*8) 8=some (Gt L.hv x):=by
     rw[Qg,if_pos oM,QH hxi]
    obtain⟨X,hX⟩:∃X:Gb,X=H'++[⟨Gt L.hv x,.rw,0⟩]:=⟨_,rfl⟩
    have gX:Gr H' X:=by rw[hX];exact Gr.app _ _
    have tX:X[H'.length]?=some ⟨Gt L.hv x,.rw,0⟩:=by rw[hX];simp
    have hxm:=(Hp.Jf hx).1
    have hrf:=(m'.refs x hxm)
    suffices fin:∃E' H2 w2,den P Ry E H'=some (.normal,E',H2)∧E' 11=.i ((j+1:Nat):Int)∧Gr H' H2∧E' 7=w2∧LI H2 w2 (UC s tb (KZ s tb all j l) x)by
     obtain⟨E',H2,w2,f1,f2,f3,f4,f5⟩:=fin
     exact Gm f1 (k':=all.length-(j+1)) oM ⟨j+1,w2,f2,oM,rfl,g.trans f3,f4,by rw[Zh hr,hx];exact f5⟩
    have hs8:=Gjj (H:=H') (r:=Gt L.hv x) rfl (by simp[Gt,Jl,KU,hrf.1.leaf,hrf.2.leaf])
    unfold Gt at q7 hX hs8
    unfold zOb at hs8
    have lf1:=hrf.1.leaf
    have lf2:=hrf.2.leaf
    refine W11 e0 e10 e11 hvl c' hc i2 Yg hix q3 q7 ?_
    rw[hs8,←hX]
    simp(disch:=first|exact dz|fail) only[simprocAttr,Gs,↓reduceIte]
    generalize hr:den P (.loop PK) _ _=r
    obtain⟨E2,X2,w2,rfl,g2,a7,a8,f2⟩:=GhJ (m'.gr gX) k hka hx tX (li.gr gX) kl' (by simp[Gc,e0]) (by simp[Gc,e7]) uA uA hr
    have b0:=f2 0 dK
    have b2:=f2 2 dK
    have b12:=f2 12 dK
    have b11:=f2 11 dK
    simp only[Gc,Nat.reduceEqDiff,↓reduceIte,e0,e2,e11]at b0 b2 b12 b11
    have t2:=g2.get tX
    unfold Gt at t2
    have klr:Kl s st tb (Nn s x x.refs.length (KZ s tb all j l)):=⟨(NU (Nat.zero_le _) (Nat.le_refl _)).Ic kl'.Ic,IQ hka hx kl'.kp (Nat.le_refl _)⟩
    have hfr:=klr.few k
    unfold UC
    cases htb:tb with
    |false=>
     rw[htb]at b2 a8
     refine Jb ?_
     exact⟨_,_,w2,rfl,uA,gX.trans g2,by simp[Gc,a7],by rw[if_neg sM];exact a8⟩
    |true=>
     rw[htb]at b2 a8
     by_cases hkd:x.kd=2
     ·have hk2:((x.kd:Int)==2)=true:=by rw[hkd];rfl
      have h2:=(k.PS hx).2 hkd
      have hr0:x.refs[0]?=some (x.refs.getD 0 0):=by grind
      have hr1:x.refs[1]?=some (x.refs.getD 1 0):=by grind
      obtain⟨c0,f0,j1,-,j3⟩:=LI.at (At.il hrf.1) hr0
      obtain⟨c1,f1,u1,-,u3⟩:=LI.at (At.il hrf.1) hr1
      have j1:∀X,JM 1 (L.hv x.id).1 (.i 0) X=some (.ptr c0 f0,X):=j1
      have u1:∀X,JM 1 (L.hv x.id).1 (.i 1) X=some (.ptr c1 f1,X):=u1
      have j3':=j3 X2 (gX.trans g2)
      have u3':=u3 X2 (gX.trans g2)
      rw[htb]at hfr
      have hhas:=SI a8 oM (x.refs.getD 0 0)
      by_cases hc0:x.refs.getD 0 0∈Nn s x x.refs.length (KZ s true all j l)
      ·rw[Gz hc0]at hhas
       obtain⟨v3,X3,d1,d2,d3⟩:=ZM (m'.gr (gX.trans g2)) k a8 oM (x.refs.getD 1 0)
       refine W14 b0 b2 b11 b12 t2 hk2 a7 j1 j3' hhas u1 u3' d1 w1 ?_
       exact⟨_,_,v3,rfl,uA,(gX.trans g2).trans d2,uA,by rw[if_pos ⟨trivial,hkd,hc0⟩];exact d3⟩
      ·rw[Gw hc0]at hhas
       refine W10 b2 b11 b12 t2 hk2 a7 j1 j3' hhas w1 ?_
       exact⟨_,_,w2,rfl,uA,gX.trans g2,by simp[Gc,a7],by grind⟩
     ·have hk2:((x.kd:Int)==2)=false:=Iq.2 oM
      refine W6 b2 b11 b12 t2 hk2 w1 ?_
      exact⟨_,_,w2,rfl,uA,gX.trans g2,by simp[Gc,a7],by rw[if_neg (by simp[hkd])];exact a8⟩
   ·have c':decide ((j:Int)<(all.length:Int))=false:=Gw oM
    have hjj:j=all.length:=by omega
    rw[hjj]at li
    apply Gi (x:=.exit 4)
    ·refine W4 e10 e11 hvl c' ?_
     rfl
    ·simp
    ·exact⟨rfl,g,w',by simp[Gc,e7],li⟩) _ ⟨0,w,h11,oM,rfl,Keeps.refl _ _,h7,hw⟩
 grind
end
end Go.Cs.Tryz

namespace Go.Cs
open Go
def Dc(s:Hp)(st:List Int)(j:Nat):List Int:=(st.take j).foldl (incl s) []
theorem Li{s:Hp}{st:List Int}{j:Nat}{a:Int}(h:st[j]?=some a):Dc s st (j+1)=incl s (Dc s st j) a:=by
 unfold Dc
 rw[Nl,h,Z4,List.foldl_append]
 rfl
end Go.Cs
namespace Go.Cs.Tryz
open Go Go.Cs
section
variable {H : Gb} {o : Tags} {rb : Nat} {s : Hp} {L : NG}
theorem Gik(m:J3 o H rb s L)(k:s.Ok){tb:Bool}{st:List Int}(hn:st.length≤100000){w0:CV}(hw0:LI H w0 st){w:CV}(hw:LI H w [])
  {E0:Env}(h0:E0 0=.ptr rb 0)(h1:E0 1=w0)(h7:E0 7=w)(h8:E0 8=.i 0){r:Option (CX×Env×Gb)}(hr:den P (.loop XL) E0 H=r):
  ∃E' H' w' l,r=some (.exit 0,E',H')∧Gr H H'∧E' 7=w'∧LI H' w' l∧Kl s (fun a=>a∈st) tb l∧(∀a∈st,s.has a=true→a∈l)∧∀t,t∉wr XL→E' t=E0 t:=by
 have facts:∀j,j≤st.length→Kl s (fun a=>a∈st) tb (Dc s st j)∧∀i a,i<j→st[i]?=some a→s.has a=true→a∈Dc s st j:=by
  intro j
  induction j with
  |zero=>intro _;exact⟨⟨List.Pairwise.nil,fun x hx=>by simp[Dc]at hx⟩,fun i a hi=>by omega⟩
  |succ j ih=>
   intro hj
   obtain⟨i1,i2⟩:=ih oM
   have hr:st[j]?=some st[j]:=Jr oM
   rw[Li hr]
   have ex:=ZF s (Dc s st j) st[j]
   refine⟨⟨ex.Ic i1.Ic,fun x hx=>?_⟩,fun i a hi ha hh=>?_⟩
   ·rcases MS hx with⟨rfl,h⟩|h
    ·exact .start (JV hr) h
    ·exact i1.kp x h
   ·by_cases c:i=j
    ·subst c
     rw[hr]at ha
     simp only[GA]at ha
     rw[incl,if_pos (by rw[ha];exact hh)]
     exact YA.2 (.inl ha.symm)
    ·exact ex.sub a (i2 i a oM ha hh)
 obtain⟨x',E',H',e,-,⟨rfl,g,w',q1,q2⟩,fr⟩:=Gq (p:=P) (c:=XL) (E0:=E0) (H0:=H)
  (fun q E H'=>∃(j:Nat)(w':CV),E 8=.i j∧j≤st.length∧q=st.length-j∧Gr H H'∧E 7=w'∧LI H' w' (Dc s st j))
  (fun x' E' H'=>x'=.exit 0∧Gr H H'∧∃w',E' 7=w'∧LI H' w' (Dc s st st.length)) (by
   rintro q E H' hE ⟨j,w',e8,hj,rfl,g,e7,li⟩
   have e0:=(hE 0 dK).trans h0
   have e1:=(hE 1 dK).trans h1
   have m':=m.gr g
   have hvl:=hw0.len H'
   have Gd3:=(facts j hj).1.few k
   by_cases c:j<st.length
   ·have c':decide ((j:Int)<(st.length:Int))=true:=Gz oM
    have hr:st[j]?=some st[j]:=Jr c
    obtain⟨a,hae⟩:∃a,a=st[j]:=⟨_,rfl⟩
    rw[←hae]at hr
    obtain⟨b,f,i1,i2,i3⟩:=LI.at hw0 hr
    have Yg:=i3 H' g
    have w1:IntKind.i64.wrap ((j:Int)+1)=((j+1:Nat):Int):=Gg oM
    obtain⟨v',X2,a1,a2,a3⟩:=ZM m' k li oM a
    apply Gm (k':=st.length-(j+1))
    ·refine W10 e0 e1 e7 e8 hvl c' i1 Yg a1 w1 ?_
     rfl
    ·omega
    ·exact⟨j+1,v',uA,oM,rfl,g.trans a2,uA,by rw[Li hr];exact a3⟩
   ·have c':decide ((j:Int)<(st.length:Int))=false:=Gw oM
    have hjj:j=st.length:=by omega
    rw[hjj]at li
    apply Gi (x:=.exit 0)
    ·refine W4 e1 e8 hvl c' ?_
     rfl
    ·simp
    ·exact⟨rfl,g,w',by simp[Gc,e7],li⟩) _ ⟨0,w,h8,oM,rfl,Keeps.refl _ _,h7,hw⟩
 obtain⟨f1,f2⟩:=facts st.length (Nat.le_refl _)
 exact⟨E',H',w',_,hr.symm.trans e,g,q1,q2,f1,fun a ha hh=>by
  obtain⟨i,hi⟩:=List.mem_iff_getElem?.1 ha
  exact f2 i a (Gf hi) hi hh,fr⟩
theorem GhA(m:J3 o H rb s L)(k:s.Ok){tb:Bool}{st:Int→Prop}{w:CV}{l:List Int}(hw:LI H w l)(kl:Kl s st tb l)(hst:∀a,st a→s.has a=true→a∈l)
  {E0:Env}(h0:E0 0=.ptr rb 0)(h2:E0 2=.bool tb)(h7:E0 7=w)(h9:E0 9=.i (-1)){r:Option (CX×Env×Gb)}(hr:den P (.loop RJ) E0 H=r):
  ∃E' H' w' l',r=some (.exit 2,E',H')∧Gr H H'∧E' 7=w'∧LI H' w' l'∧Uc l'∧(∀x,x∈l'↔Kp s st tb x)∧∀t,t∉wr RJ→E' t=E0 t:=by
 obtain⟨x',E',H',e,-,⟨rfl,g,w',l',q1,q2,q3,q4⟩,fr⟩:=Gq (p:=P) (c:=RJ) (E0:=E0) (H0:=H)
  (fun q E H'=>∃(b:Int)(w':CV)(l':List Int),E 9=.i b∧q=2*(5000-l'.length)+(if b=(l'.length:Int)then 0 else 1)∧Gr H H'∧E 7=w'∧LI H' w' l'∧Kl s st tb l'∧(∀a,st a→s.has a=true→a∈l')∧(b=(l'.length:Int)→KZ s tb l' l'.length l'=l'))
  (fun x' E' H'=>x'=.exit 2∧Gr H H'∧∃w' l',E' 7=w'∧LI H' w' l'∧Uc l'∧∀x,x∈l'↔Kp s st tb x) (by
   rintro q E H' hE ⟨b,w',l',e9,rfl,g,e7,li,kl,hst,hcl⟩
   have e0:=(hE 0 dK).trans h0
   have e2:=(hE 2 dK).trans h2
   have m':=m.gr g
   have hvl:=li.len H'
   have Gd3:=kl.few k
   by_cases c:b=(l'.length:Int)
   ·have c':(b != (l'.length:Int))=false:=by rw[c];simp
    apply Gi (x:=.exit 2)
    ·refine W4 e7 e9 hvl c' ?_
     rfl
    ·simp
    ·exact⟨rfl,g,w',l',by simp[Gc,e7],li,kl.Ic,fun x=>⟨fun h=>kl.kp x h,fun h=>GdO kl.Ic hst (hcl c) h⟩⟩
   ·have c':(b != (l'.length:Int))=true:=by simpa using c
    obtain⟨v',X1,a1,g1,li1⟩:=GhE li oM
    have kp2:Kl s st tb (KZ s tb l' l'.length l'):=⟨(Uh (Nat.zero_le _) (Nat.le_refl _)).Ic kl.Ic,Gah k kl.kp kl.kp (Nat.le_refl _)⟩
    have hf2:=kp2.few k
    have ex:A_ l' (KZ s tb l' l'.length l'):=Uh (Nat.zero_le _) (Nat.le_refl _)
    suffices fin:∃E' H2 w2,den P RJ E H'=some (.normal,E',H2)∧E' 9=.i (l'.length:Int)∧Gr H' H2∧E' 7=w2∧LI H2 w2 (KZ s tb l' l'.length l')by
     obtain⟨E',H2,w2,f1,f2,f3,f4,f5⟩:=fin
     have hle:=ex.len
     refine Gm f1 (k':=2*(5000-(KZ s tb l' l'.length l').length)+(if(l'.length:Int)=((KZ s tb l' l'.length l').length:Int)then 0 else 1)) ?_ ⟨_,w2,_,f2,rfl,g.trans f3,f4,f5,kp2,fun a h1 h2=>ex.sub a (hst a h1 h2),fun h=>?_⟩
     ·grind
     ·have:=ex.eq kl.Ic oM
      rw[this];exact this
    refine Jb ?_
    generalize hr:den P (.loop Ry) _ _=r
    obtain⟨E2,X2,w2,rfl,g2,a7,a8,f2⟩:=Ggo (m'.gr g1) k li1 kl (li.gr g1) kl (by simp[Gc,e0]) (by simp[Gc,e2]) (by simp[Gc,e7]) uA uA hr
    have b9:=f2 9 dK
    simp only[Gc,Nat.reduceEqDiff,↓reduceIte]at b9
    refine Jb ?_
    exact⟨_,_,w2,rfl,b9,g1.trans g2,a7,a8⟩) _ ⟨-1,w,l,h9,rfl,Keeps.refl _ _,h7,hw,kl,hst,fun h=>by omega⟩
 grind
theorem Gej(m:J3 o H rb s L)(k:s.Ok)(tb:Bool){st:List Int}(hn:st.length≤100000){w0:CV}(hw0:LI H w0 st):
  ∃w' H' l,run P 85 [.ptr rb 0,w0,.bool tb] H=some (w',H')∧Gr H H'∧LI H' w' l∧Uc l∧∀x,x∈l↔Kp s (fun a=>a∈st) tb x:=by
 obtain⟨X,hX⟩:∃X:Gb,X=H++[⟨[],.rw,1⟩]:=⟨_,rfl⟩
 have gX:Gr H X:=by rw[hX];exact Gr.app _ _
 rw[Gh c85 _ _ sM]
 refine Jb ?_
 rw[←hX]
 generalize hr:den P (.loop XL) _ _=r
 obtain⟨E1,X1,w1,l1,rfl,g1,a7,li1,kl1,hs1,f1⟩:=Gik (tb:=tb) (m.gr gX) k hn (hw0.gr gX) (w:=.slice H.length 0 0 0 1 false) (.inl ⟨rfl,rfl,.inr ⟨_,_,rfl⟩⟩) uA uA uA uA hr
 have b0:=f1 0 dK
 have b2:=f1 2 dK
 simp only[Gc,Nat.reduceEqDiff,↓reduceIte]at b0 b2
 refine Jb ?_
 generalize hr:den P (.loop RJ) _ _=r
 obtain⟨E2,X2,w2,l2,rfl,g2,c7,li2,s2,k2,f2⟩:=GhA ((m.gr gX).gr g1) k li1 kl1 hs1 (by simp[Gc,b0]) (by simp[Gc,b2]) (by simp[Gc,a7]) uA hr
 refine Jb ?_
 exact⟨w2,X2,l2,rfl,(gX.trans g1).trans g2,li2,s2,k2⟩
end
end Go.Cs.Tryz
namespace Go.Cs.Tryz
open Go Go.Cs A
abbrev GcP:Gn:=S (T [m 11 5,m 12 0,le 13 12,b 14 .lss 11 13] (J 14 (X 0))) (S (B 1 (S (D [⟨m 17 0,0,0,0⟩,⟨m 18 5,1,0,0⟩,⟨x 19 1 17 18,2,0,0⟩,⟨l 20 1 19,3,1,0⟩,⟨m 21 1,4,0,0⟩,⟨m 22 5,5,0,0⟩,⟨x 23 1 21 22,6,0,0⟩,⟨l 24 1 23,7,1,0⟩,⟨b 25 .neq 20 24,8,0,0⟩]) (I 25 (Q [nb 4 false])))) (R [m 15 5,bk 16 .add 15 1,m 5 16]))
def C76:Gj:=⟨26,0,T [nb 4 false] (S (T [m 6 0,le 7 6,m 8 1,le 9 8,b 10 .neq 7 9] (I 10 (Q [nb 4 false]))) (S (T [n 5 0] (B 0 (W GcP))) (Q [nb 4 true]))),[r 4]⟩
theorem c76:P 76=some C76:=by kernel_rfl
end Go.Cs.Tryz
namespace Go.Cs
open Go
theorem Ur.atM{H:Gb}{v:CV}{l:List Int}(h:Ur H v l){i:Nat}{x:Int}(hi:l[i]?=some x):∃b o,Qh 1 v (.i i)=okV (.ptr b o)∧ld H[b]? o=some (.i x):=by
 obtain⟨b,o,h1,h2⟩:=Ur.at h hi
 refine⟨b,o,?_,h2⟩
 have hl:=Gf hi
 rcases h with⟨e,-⟩|⟨b',o',c,t,k,rfl,-⟩
 ·have:l=[]:=by simpa[KP]using e
  subst this;simp at hl
 ·have hb:(0:Int)≤(i:Int)∧(i:Int)<((KP l).length:Int):=by simp[KP];omega
  have:=h1 H
  rw[Qd hb]at this
  simp only[GA,Prod.mk.injEq,and_true]at this
  rw[Nv hb,this]
end Go.Cs
namespace Go.Cs.Tryz
open Go Go.Cs
section
variable {H : Gb}
theorem GlO{w1 w2:CV}{l1 l2:List Int}(h1:Ur H w1 l1)(h2:Ur H w2 l2)(he:l1.length=l2.length)(hn:l1.length≤100000)
  {E0:Env}(e0:E0 0=w1)(e1:E0 1=w2)(e5:E0 5=.i 0){r:Option (CX×Env×Gb)}(hr:den P (.loop GcP) E0 H=r):
  (l1=l2∧∃E',r=some (.exit 0,E',H))∨(l1≠l2∧∃E',r=some (.ret,E',H)∧E' 4=.bool false):=by
 obtain⟨x',E',H',e,-,⟨rfl,q⟩,fr⟩:=Gq (p:=P) (c:=GcP) (E0:=E0) (H0:=H)
  (fun q E H'=>H'=H∧∃j:Nat,E 5=.i j∧j≤l1.length∧q=l1.length-j∧l1.take j=l2.take j)
  (fun x' E' H'=>H'=H∧((l1=l2∧x'=.exit 0)∨(l1≠l2∧x'=.ret∧E' 4=.bool false))) (by
   rintro q E H' hE ⟨rfl,j,e5,hj,rfl,hp⟩
   have e0:=(hE 0 dK).trans e0
   have e1:=(hE 1 dK).trans e1
   have hv1:=h1.len H'
   have hv2:=h2.len H'
   by_cases c:j<l1.length
   ·have c':decide ((j:Int)<(l1.length:Int))=true:=Gz oM
    have hx1:l1[j]?=some l1[j]:=Jr c
    have hx2:l2[j]?=some l2[j]:=Jr oM
    obtain⟨b1,f1,i2,Yg⟩:=h1.atM hx1
    obtain⟨b2,f2,u2,u3'⟩:=h2.atM hx2
    have w1:IntKind.i64.wrap ((j:Int)+1)=((j+1:Nat):Int):=Gg oM
    by_cases hne:l1[j]=l2[j]
    ·have hne':(l1[j] != l2[j])=false:=by rw[hne];simp
     apply Gm (k':=l1.length-(j+1))
     ·refine W11 e0 e1 e5 hv1 c' i2 Yg u2 u3' hne' w1 ?_
      rfl
     ·omega
     ·exact⟨rfl,j+1,uA,oM,rfl,by rw[Nl,Nl,hp,hx1,hx2,hne]⟩
    ·have hne':(l1[j] != l2[j])=true:=by simpa using hne
     apply Gi (x:=.ret)
     ·refine W10 e0 e1 e5 hv1 c' i2 Yg u2 u3' hne' ?_
      rfl
     ·simp
     ·exact⟨rfl,.inr ⟨fun h=>hne (by subst h;rfl),rfl,uA⟩⟩
   ·have c':decide ((j:Int)<(l1.length:Int))=false:=Gw oM
    rw[Qe oM,Qe oM]at hp
    apply Gi (x:=.exit 0)
    ·refine W4 e0 e5 hv1 c' ?_
     rfl
    ·simp
    ·exact⟨rfl,.inl ⟨hp,rfl⟩⟩) _ ⟨rfl,0,e5,oM,rfl,sM⟩
 grind
theorem XP{w1 w2:CV}{l1 l2:List Int}(h1:Ur H w1 l1)(h2:Ur H w2 l2)(hn:l1.length≤100000):run P 76 [w1,w2] H=some (.bool (decide (l1=l2)),H):=by
 have hv1:=h1.len H
 have hv2:=h2.len H
 rw[Gh c76 _ _ sM]
 by_cases c:l1.length=l2.length
 ·have c':((l1.length:Int) != (l2.length:Int))=false:=by rw[c];simp
  refine W3 hv1 hv2 c' ?_
  generalize hr:den P (.loop GcP) _ _=r
  rcases GlO h1 h2 c hn uA uA uA hr with⟨q1,E',rfl⟩|⟨q1,E',rfl,q2⟩
  ·rw[Gz q1]
   exact W0
  ·rw[Gw q1]
   exact W0
 ·have c':((l1.length:Int) != (l2.length:Int))=true:=bne_iff_ne.2 oM
  have hne:l1≠l2:=fun h=>c (by rw[h])
  rw[Gw hne]
  exact W0
end
end Go.Cs.Tryz
namespace Go.Cs.Tryz
open Go Go.Cs A
def Gue:Gj:=⟨15,0,T [n 4 0] (T [m 8 0,m 9 1,q2 10 65 8 9,m 7 10,ex 11 7 0,ex 12 7 1,e 5 (.new [i 0,i 0,i 0]),st 3 5 11,m 6 12] (Q [f 13 2 5,l 14 1 13,m 4 14])),[r 4]⟩
theorem Gsv:P 225=some Gue:=by kernel_rfl
def Gry:Gj:=⟨23,0,T [nb 4 false] (Q [m 5 1,bk 6 .eql 5 0,m 7 6,gt 7 (m 8 0),gt 7 (bk 9 .eql 8 1),gt 7 (m 10 9),gf 10 (m 11 0),gf 10 (bk 12 .eql 11 2),gt 7 (or 13 10 12),an 14 7 13,m 15 14,gf 15 (m 16 1),gf 15 (bk 17 .eql 16 1),gf 15 (m 18 17),gt 18 (m 19 0),gt 18 (bk 20 .eql 19 2),gf 15 (an 21 18 20),or 22 15 21,m 4 22]),[r 4]⟩
theorem Gux:P 276=some Gry:=by kernel_rfl
abbrev IU:Gn:=T [b 23 .lss 22 21] (S (J 23 (X 0)) (S (B 1 (T [m 24 22,m 8 24] (T [m 26 0,m 27 1,m 28 8,q3 29 66 26 27 28,m 25 29,ex 30 25 0,ex 31 25 1,m 9 30,m 10 31] (R [m 32 7,m 33 9,e 34 (.buildSlice 1 [i 0] 1 [(0,1,t 33)]),ap 35 1 32 34,m 7 35])))) (R [bk 36 .add 22 1,m 22 36])))
def Gvn:Gj:=⟨38,0,T [e 4 (.Km (c .Gd))] (T [m 12 0,m 13 1,q2 14 65 12 13,m 11 14,ex 15 11 0,ex 16 11 1,e 5 (.new [i 0,i 0,i 0]),st 3 5 15,m 6 16] (T [f 17 0 5,l 18 1 17,e 19 (.makeSlice 1 [i 0] (k 0) (t 18)),m 7 19] (S (T [f 20 0 5,l 21 1 20,n 22 0] (B 0 (W IU))) (Q [m 37 7,m 4 37])))),[r 4]⟩
theorem GuM:P 277=some Gvn:=by kernel_rfl
end Go.Cs.Tryz
namespace Go.Cs
open Go
def Hp.refsOf(s:Hp)(a:Int):List Int:=match s.obj a with|some o=>o.refs|none=>[]
def Hp.BA(s:Hp)(a:Int):Nat:=match s.obj a with|some o=>o.kd|none=>0
def EG(kd j:Nat)(l:List Int):List Int:=((l.take j).zipIdx).filterMap fun x=>if x.1≠0∧Jh kd x.2=true then some x.1 else none
theorem GdS{kd j:Nat}{l:List Int}{r:Int}(h:l[j]?=some r):EG kd (j+1) l=EG kd j l++(if r≠0∧Jh kd j=true then [r]else []):=by
 have hj:=Gf h
 unfold EG
 rw[Nl,h,Z4,List.zipIdx_append,List.filterMap_append]
 grind
theorem GgB{kd:Nat}{l:List Int}{r:Int}:r∈EG kd l.length l↔r≠0∧∃j:Nat,l[j]?=some r∧Jh kd j=true:=by
 unfold EG
 rw[List.mem_filterMap,Qe (Nat.le_refl _)]
 constructor
 ·grind
 ·rintro ⟨h1,j,h2,h3⟩
  exact⟨(r,j),List.mem_zipIdx_iff_getElem?.2 h2,by simp[h1,h3]⟩
theorem Gab(kd j:Nat)(l:List Int):(EG kd j l).length≤l.length:=by
 unfold EG
 exact J2 (List.length_filterMap_le _ _) (by rw[List.length_zipIdx,List.length_take];omega)
theorem Hp.Ok.Zn{s:Hp}(k:s.Ok)(a:Int):(s.refsOf a).length≤15:=by
 unfold Hp.refsOf
 split
 ·rename_i o h
  exact(k.ob o (Hp.Jf h).1).nr
 ·simp
theorem Hp.B_(s:Hp)(a:Int):∃d:Nat,(s.JI a).1=GX (s.refsOf a).length d (s.BA a):=by
 unfold Hp.JI Hp.refsOf Hp.BA
 grind
theorem Hp.Vs{s:Hp}{a:Int}{j:Nat}{r:Int}(h:(s.refsOf a)[j]?=some r):s.Du a j=(r,0):=by
 have hj:=Gf h
 unfold Hp.refsOf at h hj
 unfold Hp.Du
 grind
theorem GmY{H:Gb}{b j cap:Nat}{cs:List CV}{t:Bool}{v:CV}(h:H[b]?=some ⟨cs,.rw,1⟩) (hj:j<cap) (hc:cs.length=cap) (hl:leaf v=true):
  Ju H 1 (.slice b 0 j cap 1 t) 1 [v]=some (.slice b 0 (j+1) cap 1 t,H.set b ⟨cs.set j v,.rw,1⟩):=by
 unfold Ju
 dsimp only
 rw[if_neg oM,if_pos oM,YH,h,Nat.zero_add,Nat.mul_one,Vm hl oM]
 rfl
end Go.Cs
namespace Go.Cs.Tryz
open Go Go.Cs
section
variable {H : Gb} {hb : Nat} {s : Hp} {L : G5}
theorem MX{kd i:Nat}(hk:kd≤3):run P 276 [.i kd,.i i] H=some (.bool (!Jh kd i),H):=by
 rw[Gh Gux _ _ sM]
 have key:∀(a b c d:Bool),a=((i:Int)==0)→b=((kd:Int)==1)→c=((kd:Int)==2)→d=((i:Int)==1)→
   (!Jh kd i)=((a&&(b||c))||(d&&c)):=by
  rintro a b c d rfl rfl rfl rfl
  unfold Jh
  by_cases k1:kd=1
  ·grind
  ·by_cases k2:kd=2
   ·subst k2
    by_cases c0:i=0
    ·subst c0;rfl
    ·by_cases c1:i=1
     ·subst c1;rfl
     ·have e0:((i:Int)==0)=false:=Iq.2 oM
      have e1:((i:Int)==1)=false:=Iq.2 oM
      have h2:decide ((0:Int)<(i:Int))=true:=Gz oM
      grind
   ·have e1:((kd:Int)==1)=false:=Iq.2 oM
    grind
 obtain⟨a,ha⟩:∃a,a=((i:Int)==0):=⟨_,rfl⟩
 obtain⟨b,hb⟩:∃b,b=((kd:Int)==1):=⟨_,rfl⟩
 obtain⟨c,hc⟩:∃c,c=((kd:Int)==2):=⟨_,rfl⟩
 obtain⟨d,hd⟩:∃d,d=((i:Int)==1):=⟨_,rfl⟩
 rw[key a b c d ha hb hc hd]
 cases a<;>cases b<;>cases c<;>cases d<;>simp(disch:=first|exact dz|fail) only[simprocAttr,Gs,↓reduceIte,QG,←ha,←hb,←hc,←hd]<;>rfl
theorem GaT(p:PH H hb s L)(k:s.Ok)(a:Int)(ha:a≤9223372036854775807):∃H',run P 225 [.ptr hb 0,.i a] H=some (.i (s.BA a),H')∧Gr H H':=by
 obtain⟨X,h1,g1⟩:=Ng p k a ha
 obtain⟨d,hd⟩:=s.B_ a
 rw[hd]at h1
 unfold GX at h1
 refine⟨X++[⟨GX (s.refsOf a).length d (s.BA a),.rw,0⟩],?_,g1.app' _⟩
 rw[Gh Gsv _ _ sM]
 unfold GX
 exact W0
theorem GmB(p:PH H hb s L)(k:s.Ok){a:Int}(ha:a≤9223372036854775807){n b:Nat}(hn:n=(s.refsOf a).length)(hb':b<H.length)(hno:b∉L.all hb)(tb:H[b]?=some ⟨List.replicate n (.i 0),.rw,1⟩)
  {E0:Env} (h0:E0 0=.ptr hb 0) (h1:E0 1=.i a) (h7:E0 7=.slice b 0 0 n 1 false) (h21:E0 21=.i n) (h22:E0 22=.i 0) {r:Option (CX×Env×Gb)} (hr:den P (.loop IU) E0 H=r):
  ∃E' H',r=some (.exit 0,E',H')∧But H H' b∧E' 7=.slice b 0 n n 1 false∧H'[b]?=some ⟨ints (s.refsOf a),.rw,1⟩∧∀t,t∉wr IU→E' t=E0 t:=by
 have hlen:=k.Zn a
 obtain⟨x',E',H',e,-,⟨rfl,g,q1,q2⟩,fr⟩:=Gq (p:=P) (c:=IU) (E0:=E0) (H0:=H)
  (fun q E H'=>∃(j:Nat),E 22=.i j∧j≤n∧q=n-j∧But H H' b∧E 7=.slice b 0 j n 1 false∧H'[b]?=some ⟨ints ((s.refsOf a).take j)++List.replicate (n-j) (CV.i 0),.rw,1⟩)
  (fun x' E' H'=>x'=.exit 0∧But H H' b∧E' 7=.slice b 0 n n 1 false∧H'[b]?=some ⟨ints (s.refsOf a),.rw,1⟩) (by
   rintro q E H' hE ⟨j,e22,hj,rfl,g,e7,t⟩
   have e0:=(hE 0 dK).trans h0
   have e1:=(hE 1 dK).trans h1
   have e21:=(hE 21 dK).trans h21
   have p':=p.but g hno
   by_cases c:j<n
   ·have c':decide ((j:Int)<(n:Int))=true:=Gz oM
    obtain⟨x,hx⟩:∃x,(s.refsOf a)[j]?=some x:=⟨_,Jr oM⟩
    obtain⟨X,a1,g1⟩:=U4 p' k a j ha
    rw[Hp.Vs hx]at a1
    unfold UF at a1
    obtain⟨X2,hX2⟩:∃X2:Gb,X2=X++[⟨[.i x],.rw,1⟩]:=⟨_,rfl⟩
    have g2:Gr X X2:=by rw[hX2];exact Gr.app _ _
    have g12:Gr H' X2:=g1.trans g2
    have t2:=g12.get t
    have hcl:(ints ((s.refsOf a).take j)++List.replicate (n-j) (CV.i 0)).length=n:=by simp[ints];omega
    have hap:=GmY (t:=false) (v:=.i x) t2 c hcl rfl
    obtain⟨X3,YC⟩:∃X3:Gb,X3=X2.set b ⟨(ints ((s.refsOf a).take j)++List.replicate (n-j) (CV.i 0)).set j (.i x),.rw,1⟩:=⟨_,rfl⟩
    rw[←YC]at hap
    have hel:elems X2 1 (.slice X.length 0 1 1 1 false)=some (1,[.i x]):=by
     rw[JN oM,hX2]
     have:=@N9;exact W0
    have hset:(ints ((s.refsOf a).take j)++List.replicate (n-j) (CV.i 0)).set j (.i x)=ints ((s.refsOf a).take (j+1))++List.replicate (n-(j+1)) (CV.i 0):=by
     rw[Nl,hx,Z4,U2,List.set_append_right _ _ (by simp[ints];omega),show n-j=(n-(j+1))+1 by omega,List.replicate_succ]
     have:j-(ints ((s.refsOf a).take j)).length=0:=by simp[ints];omega
     rw[this,List.set_cons_zero]
     simp[ints]
    have w1:IntKind.i64.wrap ((j:Int)+1)=((j+1:Nat):Int):=Gg oM
    have hbl:=Gf t2
    apply Gm (k':=n-(j+1))
    ·refine W9 e0 e1 e7 e21 e22 c' a1 @JO @Jc ?_
     rw[←hX2]
     refine W3 hap e22 w1 ?_
     rfl
    ·omega
    ·refine⟨j+1,uA,oM,rfl,⟨?_,fun d hd hn=>?_⟩,uA,?_⟩
     ·rw[YC,List.length_set];exact J2 g.len g12.len
     ·have:=g.len
      rw[YC,KV (Ne.symm hn),g12.keep d oM fun h=>h,g.keep d hd hn]
     grind
   ·have c':decide ((j:Int)<(n:Int))=false:=Gw oM
    have hjn:j=n:=by omega
    apply Gi (x:=.exit 0)
    ·refine Jb ?_
     rfl
    ·simp
    ·refine⟨rfl,g,by simp[Gc,e7,hjn],?_⟩
     simp_all) _ ⟨0,h22,oM,rfl,Keeps.refl _ _,h7,by simpa[ints]using tb⟩
 grind
theorem GbE(p:PH H hb s L)(k:s.Ok)(a:Int)(ha:a≤9223372036854775807):∃w H',run P 277 [.ptr hb 0,.i a] H=some (w,H')∧Gr H H'∧IL H.length H' w (s.refsOf a):=by
 obtain⟨X,h1,g1⟩:=Ng p k a ha
 obtain⟨d,hd⟩:=s.B_ a
 rw[hd]at h1
 unfold GX at h1
 have hlen:=k.Zn a
 obtain⟨X1,hX1⟩:∃X1:Gb,X1=X++[⟨GX (s.refsOf a).length d (s.BA a),.rw,0⟩]++[⟨(List.replicate (s.refsOf a).length [.int .i64 0]).flatten,.rw,1⟩]:=⟨_,rfl⟩
 have g2:Gr X X1:=by rw[hX1];exact(Gr.app X _).app' _
 have l1:X1.length=X.length+2:=by rw[hX1];simp
 have hfl:∀n:Nat,(List.replicate n [CV.int .i64 0]).flatten=List.replicate n (.i 0):=fun n=>by
  simp_all
 have t1:X1[X.length+1]?=some ⟨List.replicate (s.refsOf a).length (.i 0),.rw,1⟩:=by rw[hX1,←hfl];simp
 have p1:=(p.gr g1).gr g2
 have hg:=g1.len
 have hno:X.length+1∉L.all hb:=fun h=>by have:=p.lt _ h;omega
 unfold GX at hX1
 have m1:=ZV (H:=X++[⟨[.i (s.refsOf a).length,.i d,.i (s.BA a)],.rw,0⟩]) (GN:=1) (z:=[CV.int .i64 0]) (l:=0) (c:=((s.refsOf a).length:Int)) oM
 rw[Kt,←hX1]at m1
 have t0:X1[X.length]?=some ⟨[.i (s.refsOf a).length,.i d,.i (s.BA a)],.rw,0⟩:=by rw[hX1];simp
 rw[Gh GuM _ _ sM]
 refine W3 h1 m1 t0 ?_
 generalize hr:den P (.loop IU) _ _=r
 obtain⟨E2,X2,rfl,g3,a7,t2,f2⟩:=GmB p1 k ha rfl oM hno t1 uA uA uA uA uA hr
 refine Jb ?_
 have g12:Gr H X1:=g1.trans g2
 refine⟨_,X2,rfl,⟨J2 g12.len g3.len,fun c hc _=>?_⟩,.inr ⟨_,_,rfl,Gl.2 ⟨oM,rfl⟩,t2,by simp[ints]⟩⟩
 rw[g3.keep c oM oM,g12.keep c hc fun h=>h]
end
end Go.Cs.Tryz
namespace Go.Cs.Tryz
open Go Go.Cs A
abbrev FE:Gn:=T [b 21 .lss 20 19] (S (J 21 (X 0)) (S (B 1 (T [m 22 20,x 23 1 18 20,l 24 1 23,m 8 22,m 9 24] (T [m 25 9,bk 26 .neq 25 0,m 27 26,gt 27 (f 28 2 5),gt 27 (l 29 1 28),gt 27 (m 30 8),gt 27 (q2 31 276 29 30),gt 27 (no 32 31),an 33 27 32] (I 33 (R [m 34 7,m 35 9,e 36 (.buildSlice 1 [i 0] 1 [(0,1,t 35)]),ap 37 1 34 36,m 7 37]))))) (R [bk 38 .add 20 1,m 20 38])))
def Gvw:Gj:=⟨40,0,T [e 4 (.Km (c .Gd))] (T [m 11 0,m 12 1,q2 13 65 11 12,m 10 13,ex 14 10 0,ex 15 10 1,e 5 (.new [i 0,i 0,i 0]),st 3 5 14,m 6 15] (T [e 7 (.Km (c .Gd))] (S (T [m 16 0,m 17 1,q2 18 277 16 17,le 19 18,n 20 0] (B 0 (W FE))) (Q [m 39 7,m 4 39])))),[r 4]⟩
theorem GsJ:P 224=some Gvw:=by kernel_rfl
end Go.Cs.Tryz
namespace Go.Cs
open Go
def Hp.strOf(s:Hp)(a:Int):List Int:=EG (s.BA a) (s.refsOf a).length (s.refsOf a)
theorem Hp.Ok.GpD{s:Hp}(k:s.Ok)(a:Int):s.BA a≤3:=by
 unfold Hp.BA
 split
 ·rename_i o h
  exact(k.ob o (Hp.Jf h).1).kd.1
 ·omega
end Go.Cs
namespace Go.Cs.Tryz
open Go Go.Cs
section
variable {H : Gb} {hb : Nat} {s : Hp} {L : G5}
theorem GgC{k0:Nat}(hk0:k0≤H.length){kd:Nat}(hkd:kd≤3){n d:Int}{l:List Int}(hl:l.length≤15){w:CV}(hw:LI H w l)(hwb:l≠[]→Gp w<k0){sb:Nat}(hsb:sb<k0)(ts:H[sb]?=some ⟨GX n d kd,.rw,0⟩)
  {E0:Env} (h5:E0 5=.ptr sb 0) (h7:E0 7=.Gd) (h18:E0 18=w) (h19:E0 19=.i l.length) (h20:E0 20=.i 0) {r:Option (CX×Env×Gb)} (hr:den P (.loop FE) E0 H=r):
  ∃E' H' w',r=some (.exit 0,E',H')∧Keeps H H' (fun c=>k0≤c)∧E' 7=w'∧IL k0 H' w' (EG kd l.length l)∧∀t,t∉wr FE→E' t=E0 t:=by
 obtain⟨x',E',H',e,-,⟨rfl,g,w',q1,q2⟩,fr⟩:=Gq (p:=P) (c:=FE) (E0:=E0) (H0:=H)
  (fun q E H'=>∃(j:Nat)(w':CV),E 20=.i j∧j≤l.length∧q=l.length-j∧Keeps H H' (fun c=>k0≤c)∧E 7=w'∧IL k0 H' w' (EG kd j l))
  (fun x' E' H'=>x'=.exit 0∧Keeps H H' (fun c=>k0≤c)∧∃w',E' 7=w'∧IL k0 H' w' (EG kd l.length l)) (by
   rintro q E H' hE ⟨j,w',e20,hj,rfl,g,e7,p3⟩
   have e5:=(hE 5 dK).trans h5
   have e18:=(hE 18 dK).trans h18
   have e19:=(hE 19 dK).trans h19
   have hlen:=g.len
   by_cases c:j<l.length
   ·have c':decide ((j:Int)<(l.length:Int))=true:=Gz oM
    obtain⟨x,hx⟩:∃x,l[j]?=some x:=⟨_,Jr c⟩
    have Gd8:=hwb (fun h=>by rw[h]at c;exact absurd c sM)
    obtain⟨tl,a1,a2,a3,a4⟩:=hw.pos oM
    have hwH:H'[Gp w]?=H[Gp w]?:=g.keep _ (Gf a3) oM
    have ix:∀X,JM 1 w (.i j) X=some (.ptr (Gp w) j,X):=fun X=>by
     rw[a1];exact(if_pos oM).trans (by simp[Gp])
    have l1:ld H'[Gp w]? j=some (.i x):=by rw[hwH,a3,Ym];simp[ints,hx]
    have ts':H'[sb]?=some ⟨GX n d kd,.rw,0⟩:=(g.keep _ (Gf ts) oM).trans ts
    unfold GX at ts'
    have hso:=MX (H:=H') (kd:=kd) (i:=j) hkd
    have hsl:=Gab kd j l
    have w1:IntKind.i64.wrap ((j:Int)+1)=((j+1:Nat):Int):=Gg oM
    suffices fin:∃E' H2 w2,den P FE E H'=some (.normal,E',H2)∧E' 20=.i ((j+1:Nat):Int)∧Keeps H' H2 (fun c=>k0≤c)∧E' 7=w2∧IL k0 H2 w2 (EG kd (j+1) l)by
     obtain⟨E',H2,w2,f1,f2,f3,f4,f5⟩:=fin
     exact Gm f1 (k':=l.length-(j+1)) oM ⟨j+1,w2,f2,oM,rfl,g.trans f3,f4,f5⟩
    rw[GdS hx]
    by_cases hz:x=0
    ·have hz':(x != 0)=false:=by rw[hz];rfl
     refine W8 e18 e19 e20 c' ix l1 hz' w1 ?_
     exact⟨_,_,w',rfl,uA,Keeps.refl _ _,by simp[Gc,e7],by grind⟩
    ·have hz':(x != 0)=true:=by simpa using hz
     cases hs:Jh kd j with
     |false=>
      rw[hs]at hso
      refine W11 e5 e18 e19 e20 c' ix l1 hz' ts' hso w1 ?_
      exact⟨_,_,w',rfl,uA,Keeps.refl _ _,by simp[Gc,e7],by grind⟩
     |true=>
      rw[hs]at hso
      obtain⟨v',X2,a1,a2,a3⟩:=IL.push p3 (J2 hk0 g.len) oM x
      have hel:elems (H'++[⟨[.i x],.rw,1⟩]) 1 (.slice H'.length 0 1 1 1 false)=some (1,[.i x]):=by
       rw[JN oM]
       have:=@N9;exact W0
      refine W16 e5 e7 e18 e19 e20 c' ix l1 hz' ts' hso @JO @Jc hel a1 w1 ?_
      exact⟨_,_,v',rfl,uA,a3,uA,by rw[if_pos ⟨hz,trivial⟩];exact a2⟩
   ·have c':decide ((j:Int)<(l.length:Int))=false:=Gw oM
    have hjj:j=l.length:=by omega
    rw[hjj]at p3
    apply Gi (x:=.exit 0)
    ·refine Jb ?_
     rfl
    ·simp
    ·exact⟨rfl,g,w',by simp[Gc,e7],p3⟩) _ ⟨0,.Gd,h20,oM,rfl,Keeps.refl _ _,h7,by simp[EG];exact IL.nil⟩
 grind
theorem Sd(p:PH H hb s L)(k:s.Ok)(a:Int)(ha:a≤9223372036854775807):∃w H',run P 224 [.ptr hb 0,.i a] H=some (w,H')∧Gr H H'∧IL H.length H' w (s.strOf a):=by
 obtain⟨X,h1,g1⟩:=Ng p k a ha
 obtain⟨d,hd⟩:=s.B_ a
 rw[hd]at h1
 obtain⟨X1,hX1⟩:∃X1:Gb,X1=X++[⟨GX (s.refsOf a).length d (s.BA a),.rw,0⟩]:=⟨_,rfl⟩
 have g2:Gr X X1:=by rw[hX1];exact Gr.app X _
 have t1:X1[X.length]?=some ⟨GX (s.refsOf a).length d (s.BA a),.rw,0⟩:=by rw[hX1];simp
 have g12:Gr H X1:=g1.trans g2
 obtain⟨w,X2,h2,g3,li⟩:=GbE (p.gr g12) k a ha
 have t2:=g3.get t1
 have hwb:s.refsOf a≠[]→Gp w<X2.length:=fun h=>by
  obtain⟨tl,a1,a2,a3,a4⟩:=li.pos (Ld.2 h)
  exact Gf a3
 have hvl:=li.len X2
 unfold GX at h1 hX1
 rw[Gh GsJ _ _ sM]
 refine Jb ?_
 rw[←hX1]
 refine W2 h2 hvl ?_
 generalize hr:den P (.loop FE) _ _=r
 obtain⟨E2,X3,w3,rfl,g4,a7,li3,f2⟩:=GgC (k0:=X2.length) (Nat.le_refl _) (k.GpD a) (k.Zn a) li.li hwb (Gf t2) t2 uA uA uA uA uA hr
 refine Jb ?_
 have l1:=g12.len
 have l2:=g3.len
 have l3:=g4.len
 refine⟨_,X3,rfl,⟨oM,fun c hc _=>?_⟩,li3.frame (fun c h=>Gl.2 ⟨by have:=(Gl.1 h).1;omega,(Gl.1 h).2⟩) fun _ _=>rfl⟩
 rw[g4.keep c oM oM,g3.keep c oM fun h=>h,g12.keep c hc fun h=>h]
end
end Go.Cs.Tryz

namespace Go.Cs
open Go
section
variable {F : GQ} {E : Env} {H : Gb}
def VQ(m:CV)(H:Gb):Option (CV×Gb):=(entriesOf H m).map fun es=>(.i es.length,H)
theorem Vf{m:Jy}:JY F (.Ya m) E H=VQ (E.ev m) H:=by
 simp only[JY,UZ,G7,VQ]
 cases entriesOf H (E.ev m)<;>rfl
def GaW(g:Nat)(x:CV)(H:Gb):Option (CV×Gb):=match x with
 |.func f [.ptr b 0]=>if f=g then match H[b]? with
   |some ⟨[m],.rw,0⟩=>(mapOf H m).bind fun y=>(keysOf y.2).bind fun l=>
    if l.length=0 then some (.Gd,H)else if l.length≤J9∧l.all FU=true then some (.slice H.length 0 l.length l.length 1 true,H++[⟨(NC l).map .i,.rw,1⟩])else none
   |_=>none
  else none
 |_=>none
theorem Lm{g:Nat}{x:Jy}:JY F (.KJ g x) E H=GaW g (E.ev x) H:=rfl
end
def JH(l:List (Int×CV)):List CV:=l.map fun x=>.Jj [.i x.1,x.2]
theorem Vh(l:List (Int×CV)):QN (JH l)=JH l∧VP (JH l)=false:=by
 match l with
 |[]=>exact⟨rfl,rfl⟩
 |[x]=>exact⟨rfl,rfl⟩
 |x::y::r=>exact⟨rfl,rfl⟩
theorem YX{n:Int}:∀{l:List (Int×CV)}{i:Nat},(∀v,(n,v)∉l)→UA .i64 n (JH l) i=some none
 |[],i,_=>rfl
 |(k,w)::l,i,h=>by
  have hk:(n==k)=false:=by
   grind
  show(if IntKind.i64=IntKind.i64 then(if(n==k)=true then some (some (i,w))else UA .i64 n (JH l) (i+1))else none)=_
  rw[if_pos rfl,hk]
  exact YX fun v hv=>h v (VA _ hv)
theorem YP{n:Int}:∀{l:List (Int×CV)}{i:Nat}{v:CV},(l.map (·.1)).Nodup→(n,v)∈l→∃j,l[j]?=some (n,v)∧UA .i64 n (JH l) i=some (some (i+j,v))
 |(k,w)::l,i,v,hn,h=>by
  rw[List.map_cons,List.nodup_cons]at hn
  show∃j,_∧(if IntKind.i64=IntKind.i64 then(if(n==k)=true then some (some (i,w))else UA .i64 n (JH l) (i+1))else none)=_
  rw[if_pos rfl]
  by_cases hk:n=k
  ·simp_all
  ·have hk':(n==k)=false:=by simpa using hk
   rw[hk']
   have h':(n,v)∈l:=by
    grind
   obtain⟨j,q1,q2⟩:=YP (i:=i+1) hn.2 h'
   refine⟨j+1,q1,?_⟩
   grind
def NM(H:Gb)(b:Nat)(f:Int→Option CV)(ks:List Int):Prop:=
 ∃l:List (Int×CV),H[b]?=some ⟨JH l,.map,0⟩∧l.map (·.1)=ks∧ks.Nodup∧∀k v,(k,v)∈l↔f k=some v
section
variable {H : Gb} {b : Nat} {f : Int → Option CV} {ks : List Int}
theorem NM.frame{H':Gb}(m:NM H b f ks)(h:H'[b]?=H[b]?):NM H' b f ks:=by
 obtain⟨l,h1,h2⟩:=m
 exact⟨l,h.trans h1,h2⟩
theorem NM.lt(m:NM H b f ks):b<H.length:=by
 obtain⟨l,h1,h2⟩:=m
 exact Gf h1
theorem NM.entries(m:NM H b f ks):∃l,H[b]?=some ⟨JH l,.map,0⟩∧entriesOf H (.GJ b)=some (JH l)∧l.map (·.1)=ks∧ks.Nodup∧∀k v,(k,v)∈l↔f k=some v:=by
 obtain⟨l,h1,h2,h3,h4⟩:=m
 refine⟨l,h1,?_,h2,h3,h4⟩
 unfold entriesOf
 dsimp only
 rw[h1]
 dsimp only
 rw[if_pos ⟨rfl,rfl⟩,(Vh l).1]
theorem NM.mem(m:NM H b f ks){n:Int}:n∈ks↔∃v,f n=some v:=by
 obtain⟨l,h1,h2,h3,h4⟩:=m
 rw[←h2,KI]
 simp_all
theorem NM.nodup(m:NM H b f ks):ks.Nodup:=by
 obtain⟨l,h1,h2,h3,h4⟩:=m
 exact h3
def GiX(ok:Bool)(z:CV):Option CV→CV
 |some v=>if ok then .Jj [v,.bool true]else v
 |none=>if ok then .Jj [z,.bool false]else z
theorem NM.Gn_(m:NM H b f ks)(ok:Bool)(z:CV)(n:Int):Qm H ok .i64 z (.GJ b) (.i n)=some (GiX ok z (f n)):=by
 obtain⟨l,h1,h0,h2,h3,h4⟩:=m.entries
 unfold Qm
 dsimp only
 rw[if_pos rfl,h0,Option.bind_some]
 cases e:f n with
 |some v=>
  obtain⟨j,q1,q2⟩:=YP (i:=0) (by rw[h2];exact h3) ((h4 n v).2 e)
  rw[q2];rfl
 |none=>
  rw[YX (i:=0) fun v hv=>by rw[(h4 n v).1 hv]at e;cases e];rfl
theorem NM.get(m:NM H b f ks)(ok:Bool)(z:CV)(n:Int):NV ok .i64 z (.GJ b) (.i n) H=some (GiX ok z (f n),H):=by
 unfold NV
 rw[m.Gn_];rfl
theorem NM.len(m:NM H b f ks):VQ (.GJ b) H=some (.i ks.length,H):=by
 obtain⟨l,h1,h0,h2,h3,h4⟩:=m.entries
 unfold VQ
 rw[h0,←h2]
 simp[JH]
theorem NM.new(H:Gb):NM (H++[⟨[],.map,0⟩]) H.length (fun _=>none) []:=⟨[],by simp[JH],rfl,List.nodup_nil,fun k v=>by simp⟩
def GbH(f:Int→Option CV)(n:Int)(v:CV):Int→Option CV:=fun k=>if k=n then some v else f k
theorem NM.set(m:NM H b f ks)(n:Int){v:CV}(hv:leaf v=true):∃H',(∀H0,H0=H→UN .i64 (.GJ b) (.i n) v H0=some (.undef,H'))∧Keeps H H' (·=b)∧NM H' b (GbH f n v) (if n∈ks then ks else ks++[n])∧H'.length=H.length:=by
 have hmem:=m.mem (n:=n)
 obtain⟨l,h1,h0,h2,h3,h4⟩:=m.entries
 cases e:f n with
 |none=>
  have hn:n∉ks:=fun h=>by grind
  have hf:=YX (n:=n) (l:=l) (i:=0) fun w hw=>by rw[(h4 n w).1 hw]at e;cases e
  refine⟨H.set b ⟨JH (l++[(n,v)]),.map,0⟩,?_,Keeps.set (w:=fun c=>c=b) (Keeps.refl H _) (.inl rfl) _,⟨l++[(n,v)],by grind,?_,?_,fun k w=>?_⟩,sM⟩
  ·rintro _ rfl
   unfold UN Qj
   dsimp only
   rw[if_pos ⟨rfl,hv⟩,h0,Option.bind_some,hf,Option.bind_some]
   dsimp only
   unfold Jq
   rw[h1]
   dsimp only
   rw[if_pos ⟨rfl,rfl,(Vh l).2⟩]
   simp[JH]
  ·grind
  ·grind
  ·rw[K_,h4,Ad,Prod.mk.injEq]
   unfold GbH
   grind
 |some w0=>
  have hn:n∈ks:=hmem.2 ⟨w0,e⟩
  obtain⟨j,q1,q2⟩:=YP (i:=0) (by rw[h2];exact h3) ((h4 n w0).2 e)
  rw[Nat.zero_add]at q2
  have hj:=Gf q1
  have hks:ks[j]?=some n:=by rw[←h2,Kr,q1];rfl
  refine⟨H.set b ⟨JH (l.set j (n,v)),.map,0⟩,?_,Keeps.set (w:=fun c=>c=b) (Keeps.refl H _) (.inl rfl) _,⟨l.set j (n,v),by grind,?_,?_,fun k w=>?_⟩,sM⟩
  ·rintro _ rfl
   unfold UN Qj
   dsimp only
   rw[if_pos ⟨rfl,hv⟩,h0,Option.bind_some,q2,Option.bind_some]
   dsimp only
   unfold Jq
   rw[h1]
   dsimp only
   rw[if_pos ⟨rfl,rfl,(Vh l).2⟩]
   simp[JH,List.map_set]
  ·rw[if_pos hn,List.map_set,h2]
   apply List.ext_getElem?
   grind
  ·rw[if_pos hn];exact h3
  ·unfold GbH
   rw[List.mem_iff_getElem?]
   constructor
   ·rintro ⟨i,hi⟩
    by_cases c:i=j
    ·grind
    ·rw[KV (Ne.symm c)]at hi
     have hk:k≠n:=by
      rintro rfl
      have e1:ks[i]?=some k:=by rw[←h2,Kr,hi];rfl
      exact c ((List.getElem?_inj (Gf e1) h3).1 (e1.trans hks.symm))
     grind
   ·intro h
    split at h
    ·rename_i c
     simp only[GA]at h
     exact⟨j,by rw[Va hj,c,h]⟩
    ·rename_i c
     obtain⟨i,hi⟩:=List.mem_iff_getElem?.1 ((h4 k w).2 h)
     refine⟨i,?_⟩
     grind
theorem WO:∀l:List (Int×CV),keysOf (JH l)=some (l.map (·.1))
 |[]=>rfl
 |(k,v)::l=>by
  show(keysOf (JH l)).map (k::·)=_
  rw[WO l];rfl
theorem NM.keys(m:NM H b f ks){b0 g:Nat}(h0:H[b0]?=some ⟨[.GJ b],.rw,0⟩) (hn:ks.length≤J9) (hi:∀k∈ks,FU k=true):
  ∃w H',GaW g (.func g [.ptr b0 0]) H=some (w,H')∧Gr H H'∧IL H.length H' w (NC ks):=by
 obtain⟨l,h1,h2,h3,h4⟩:=m
 have hm:mapOf H (.GJ b)=some (b,JH l):=by
  unfold mapOf
  dsimp only
  rw[h1]
  simp only[(Vh l).2,Bool.false_eq_true,↓reduceIte]
 unfold GaW
 simp only[↓reduceIte,h0]
 rw[hm,Option.bind_some,WO,Option.bind_some,h2]
 by_cases c:ks.length=0
 ·rw[if_pos c,AV c]
  exact⟨_,_,rfl,Keeps.refl _ _,IL.nil⟩
 ·rw[if_neg c,if_pos ⟨hn,List.all_eq_true.2 hi⟩]
  refine⟨_,_,rfl,Gr.app _ _,.inr ⟨H.length,true,by rw[Q5],Gl.2 ⟨Nat.le_refl _,rfl⟩,by simp[ints],by simp[ints]⟩⟩
theorem Gay{l:List Int}(h:l.Nodup):Uc (NC l):=by
 have h1:=QX l
 have h2:(NC l).Nodup:=(Uo l).nodup_iff.2 h
 have h3:=h1.and h2
 exact h3.imp fun⟨a,b⟩=>by omega
theorem M_{l:List Int}{x:Int}:x∈NC l↔x∈l:=(Uo l).mem_iff
end
end Go.Cs
namespace Go.Cs.Tryz
open Go Go.Cs A
abbrev TS:Gn:=T [b 23 .lss 22 21] (S (J 23 (X 0)) (S (B 1 (T [x 24 1 20 22,l 25 1 24,m 6 25] (R [l 26 1 3,m 27 6,e 28 (.KH (t 26) [t 27])]))) (R [bk 29 .add 22 1,m 22 29])))
def GuX:Gj:=⟨30,0,S (T [l 7 1 1,m 8 0,q2 9 153 7 8,no 10 9,m 11 10,gf 11 (l 12 1 2),gf 11 (m 13 0),gf 11 (e 14 (.Vn false .i64 (.bool false) (t 12) (t 13))),or 15 11 14] (I 15 .ret)) (T [l 16 1 2,m 17 0,u (.QS .i64 (t 16) (t 17) (c (.bool true)))] (T [l 18 1 1,m 19 0,q2 20 224 18 19,le 21 20,n 22 0] (B 0 (W TS)))),[]⟩
theorem GtP:P 223=some GuX:=by kernel_rfl
end Go.Cs.Tryz
namespace Go.Cs
open Go
def Cl(s:Hp)(Q:Int→Prop):Prop:=∀x b,Q x→b∈s.strOf x→s.has b=true→Q b
structure Hy(s:Hp)(ar:Int→Prop)(ks ks':List Int):Prop where
 sub:∀x∈ks,x∈ks'
 got:∀a,ar a→s.has a=true→a∈ks'
 new:∀Q,Cl s Q→(∀a,ar a→s.has a=true→Q a)→∀x∈ks',x∉ks→Q x
 cl:∀x∈ks',x∉ks→∀b∈s.strOf x,s.has b=true→b∈ks'
 pre:ks<+:ks'
theorem Hy.refl(s:Hp)(ks:List Int):Hy s (fun _=>False) ks ks:=⟨fun x h=>h,fun a h=>h.elim,fun Q _ _ x h hn=>absurd h hn,fun x h hn=>absurd h hn,List.prefix_refl _⟩
theorem Hy.trans{s:Hp}{ar br:Int→Prop}{k l m:List Int}(h1:Hy s ar k l)(h2:Hy s br l m):Hy s (fun a=>ar a∨br a) k m where
 sub:=fun x h=>h2.sub x (h1.sub x h)
 got:=fun a h hh=>by
  rcases h with h|h
  ·exact h2.sub a (h1.got a h hh)
  ·exact h2.got a h hh
 new:=fun Q hQ ha x hx hn=>by
  by_cases c:x∈l
  ·exact h1.new Q hQ (fun a h=>ha a (.inl h)) x c hn
  ·exact h2.new Q hQ (fun a h=>ha a (.inr h)) x hx c
 cl:=fun x hx hn b hb hh=>by
  by_cases c:x∈l
  ·exact h2.sub b (h1.cl x c hn b hb hh)
  ·exact h2.cl x hx c b hb hh
 pre:=h1.pre.trans h2.pre
theorem Hy.weaken{s:Hp}{ar br:Int→Prop}{k l:List Int}(h:Hy s ar k l)(e:∀a,br a↔ar a):Hy s br k l:=
 ⟨h.sub,fun a ha=>h.got a ((e a).1 ha),fun Q hQ ha=>h.new Q hQ fun a h1=>ha a ((e a).2 h1),h.cl,h.pre⟩
theorem Hy.mark{s:Hp}{a:Int}{ks ks':List Int}(ha:s.has a=true)(h:Hy s (fun b=>b∈s.strOf a) (ks++[a]) ks'):Hy s (fun b=>b=a) ks ks' where
 sub:=fun x hx=>h.sub x (by simp[hx])
 got:=fun b hb _=>by subst hb;exact h.sub b sM
 new:=fun Q hQ hq x hx hn=>by
  have qa:=hq a rfl ha
  by_cases c:x∈ks++[a]
  ·grind
  ·exact h.new Q hQ (fun b hb hh=>hQ a b qa hb hh) x hx c
 cl:=fun x hx hn b hb hh=>by
  by_cases c:x∈ks++[a]
  ·rw[K_,Ad]at c
   rcases c with c|c
   ·exact absurd c hn
   ·rw[c]at hb;exact h.got b hb hh
  ·exact h.cl x hx c b hb hh
 pre:=(List.prefix_append _ _).trans h.pre
structure Qb(H:Gb)(mb:Nat)(s:Hp)(ks:List Int):Prop where
 m:NM H mb (fun x=>if x∈ks then some (.bool true)else none) ks
 has:∀x∈ks,s.has x=true
theorem Qb.few{H:Gb}{mb:Nat}{s:Hp}{ks:List Int}(h:Qb H mb s ks)(k:s.Ok):ks.length≤4096:=by
 rw[←Q5]
 exact k.IK (Gay h.m.nodup) fun x hx=>h.has x (M_.1 hx)
theorem Qb.frame{H H':Gb}{mb:Nat}{s:Hp}{ks:List Int}(h:Qb H mb s ks)(e:H'[mb]?=H[mb]?):Qb H' mb s ks:=⟨h.m.frame e,h.has⟩
theorem Qb.get{H:Gb}{mb:Nat}{s:Hp}{ks:List Int}(h:Qb H mb s ks)(a:Int):NV false .i64 (.bool false) (.GJ mb) (.i a) H=some (.bool (decide (a∈ks)),H):=by
 rw[h.m.get]
 by_cases c:a∈ks
 ·rw[if_pos c,Gz c];rfl
 ·rw[if_neg c,Gw c];rfl
theorem Qb.add{H:Gb}{mb:Nat}{s:Hp}{ks:List Int}(h:Qb H mb s ks){a:Int}(ha:s.has a=true)(hn:a∉ks):∃H',UN .i64 (.GJ mb) (.i a) (.bool true) H=some (.undef,H')∧Keeps H H' (·=mb)∧Qb H' mb s (ks++[a])∧H'.length=H.length:=by
 obtain⟨H',h1,h2,h3,h4⟩:=h.m.set a (v:=.bool true) rfl
 rw[if_neg hn]at h3
 refine⟨H',h1 H rfl,h2,⟨?_,fun x hx=>?_⟩,h4⟩
 ·have e:GbH (fun x=>if x∈ks then some (.bool true)else none) a (.bool true)=fun x=>if x∈ks++[a]then some (.bool true)else none:=by
   funext x
   unfold GbH
   grind
  rw[←e];exact h3
 ·rw[K_,Ad]at hx
  rcases hx with hx|rfl
  ·exact h.has x hx
  ·exact ha
theorem Hp.Et{s:Hp}{a b:Int}:b∈s.strOf a↔b≠0∧∃o,s.obj a=some o∧∃j:Nat,o.refs[j]?=some b∧Jh o.kd j=true:=by
 unfold Hp.strOf
 rw[GgB]
 unfold Hp.refsOf Hp.BA
 grind
end Go.Cs
namespace Go.Cs.Tryz
open Go Go.Cs
section
variable {hb : Nat} {s : Hp} {L : G5}
structure Pn(H:Gb)(hb:Nat)(s:Hp)(L:G5)(mb c2 c6 c7:Nat):Prop where
 p:PH H hb s L
 no:mb∉L.all hb
 t2:H[c2]?=some ⟨[.ptr hb 0],.rw,0⟩
 t6:H[c6]?=some ⟨[.GJ mb],.rw,0⟩
 t7:H[c7]?=some ⟨[.func 223 [.ptr c2 0,.ptr c6 0,.ptr c7 0]],.rw,0⟩
 n:c2≠mb∧c6≠mb∧c7≠mb
theorem Pn.frame{H H':Gb}{mb c2 c6 c7:Nat}(v:Pn H hb s L mb c2 c6 c7)(g:Keeps H H' (·=mb)):Pn H' hb s L mb c2 c6 c7 where
 p:=v.p.but g v.no
 no:=v.no
 t2:=(g.keep _ (Gf v.t2) v.n.1).trans v.t2
 t6:=(g.keep _ (Gf v.t6) v.n.2.1).trans v.t6
 t7:=(g.keep _ (Gf v.t7) v.n.2.2).trans v.t7
 n:=v.n
theorem Gr.mb{H H':Gb}(g:Gr H H')(mb:Nat):Keeps H H' (·=mb):=⟨g.len,fun c hc _=>g.keep c hc fun h=>h⟩
def SB(s:Hp):Prop:=∀o∈s.objs,∀x∈o.refs,x=0∨s.has x=true
theorem SB.str{s:Hp}(h:SB s){a b:Int}(hb:b∈s.strOf a):s.has b=true:=by
 obtain⟨h0,o,ho,j,hj,-⟩:=Hp.Et.1 hb
 rcases h o (Hp.Jf ho).1 b (JV hj)with h|h
 ·exact absurd h h0
 ·exact h
theorem Gko(k:s.Ok){mb c2 c6 c7:Nat}{n:Nat}
  (ih:∀(H:Gb)(ks:List Int)(a:Int),4097≤n+ks.length→Qb H mb s ks→Pn H hb s L mb c2 c6 c7→a≤9223372036854775807→
   ∃ks' H',run P 223 [.i a,.ptr c2 0,.ptr c6 0,.ptr c7 0] H=some (.Jj [],H')∧Keeps H H' (·=mb)∧Qb H' mb s ks'∧Hy s (fun b=>b=a) ks ks')
  {H:Gb} {ks:List Int} (hn:4097≤n+ks.length) (m:Qb H mb s ks) (v:Pn H hb s L mb c2 c6 c7) {l:List Int} (hl:l.length≤1000) (hle:∀x∈l,x≤9223372036854775807) {w:CV} (hw:LI H w l) (hwm:l≠[]→Gp w≠mb)
  {E0:Env} (h3:E0 3=.ptr c7 0) (h20:E0 20=w) (h21:E0 21=.i l.length) (h22:E0 22=.i 0) {r:Option (CX×Env×Gb)} (hr:den P (.loop TS) E0 H=r):
  ∃E' H' ks',r=some (.exit 0,E',H')∧Keeps H H' (·=mb)∧Qb H' mb s ks'∧Hy s (fun b=>b∈l) ks ks':=by
 obtain⟨x',E',H',e,-,⟨rfl,g,ks',q1,q2⟩,fr⟩:=Gq (p:=P) (c:=TS) (E0:=E0) (H0:=H)
  (fun q E H'=>∃(j:Nat)(ks':List Int),E 22=.i j∧j≤l.length∧q=l.length-j∧Keeps H H' (·=mb)∧Qb H' mb s ks'∧Hy s (fun b=>b∈l.take j) ks ks')
  (fun x' E' H'=>x'=.exit 0∧Keeps H H' (·=mb)∧∃ks',Qb H' mb s ks'∧Hy s (fun b=>b∈l) ks ks') (by
   rintro q E H' hE ⟨j,ks',e22,hj,rfl,g,m',vi⟩
   have e3:=(hE 3 dK).trans h3
   have e20:=(hE 20 dK).trans h20
   have e21:=(hE 21 dK).trans h21
   have v':=v.frame g
   have t7:=v'.t7
   by_cases c:j<l.length
   ·have c':decide ((j:Int)<(l.length:Int))=true:=Gz oM
    obtain⟨x,hx⟩:∃x,l[j]?=some x:=⟨_,Jr c⟩
    have Gd8:=hwm (fun h=>by rw[h]at c;exact absurd c sM)
    obtain⟨tl,a1,a2,a3,a4⟩:=hw.pos oM
    have hwH:H'[Gp w]?=H[Gp w]?:=g.keep _ (Gf a3) Gd8
    have ix:∀X,JM 1 w (.i j) X=some (.ptr (Gp w) j,X):=fun X=>by
     rw[a1];exact(if_pos oM).trans (by simp[Gp])
    have l1:ld H'[Gp w]? j=some (.i x):=by rw[hwH,a3,Ym];simp[ints,hx]
    have hpl:=vi.pre.length_le
    obtain⟨RI,H2,r1,g2,m2,vi2⟩:=ih H' ks' x oM m' v' (hle x (JV hx))
    have w1:IntKind.i64.wrap ((j:Int)+1)=((j+1:Nat):Int):=Gg oM
    apply Gm (k':=l.length-(j+1))
    ·refine W12 e3 e20 e21 e22 c' ix l1 t7 @Jo @JA r1 w1 ?_
     rfl
    ·omega
    ·refine⟨j+1,RI,uA,oM,rfl,g.trans g2,m2,(vi.trans vi2).weaken fun b=>?_⟩
     rw[Nl,hx,Z4,K_,Ad]
   ·have c':decide ((j:Int)<(l.length:Int))=false:=Gw oM
    rw[Qe oM]at vi
    apply Gi (x:=.exit 0)
    ·refine Jb ?_
     rfl
    ·simp
    ·exact⟨rfl,g,ks',m',vi⟩) _ ⟨0,ks,h22,oM,rfl,Keeps.refl _ _,m,(Hy.refl s ks).weaken fun b=>by simp⟩
 grind
theorem DJ(k:s.Ok)(hs:SB s){mb c2 c6 c7:Nat}:∀(n:Nat)(H:Gb)(ks:List Int)(a:Int),4097≤n+ks.length→Qb H mb s ks→Pn H hb s L mb c2 c6 c7→a≤9223372036854775807→
   ∃ks' H',run P 223 [.i a,.ptr c2 0,.ptr c6 0,.ptr c7 0] H=some (.Jj [],H')∧Keeps H H' (·=mb)∧Qb H' mb s ks'∧Hy s (fun b=>b=a) ks ks'
 |0,H,ks,a,hn,m,v,ha=>by have:=m.few k;omega
 |n+1,H,ks,a,hn,m,v,ha=>by
  have t2:=v.t2
  have t6:=v.t6
  have hh:=ZQ v.p k a ha
  rw[Gh GtP _ _ sM]
  cases ch:s.has a with
  |false=>
   rw[ch]at hh
   refine⟨ks,H,?_,Keeps.refl _ _,m,⟨fun x h=>h,fun b hb hh2=>?_,fun Q _ _ x h hn=>absurd h hn,fun x h hn=>absurd h hn,List.prefix_refl _⟩⟩
   ·exact W0
   ·subst hb;rw[ch]at hh2;cases hh2
  |true=>
   rw[ch]at hh
   have hg:=m.get a
   by_cases c:a∈ks
   ·rw[Gz c]at hg
    refine⟨ks,H,?_,Keeps.refl _ _,m,⟨fun x h=>h,fun b hb hh2=>by subst hb;exact c,fun Q _ _ x h hn=>absurd h hn,fun x h hn=>absurd h hn,List.prefix_refl _⟩⟩
    have:=@Nk;exact W0
   ·rw[Gw c]at hg
    obtain⟨X,h1,g1,m1,l1⟩:=m.add ch c
    have v1:=v.frame g1
    obtain⟨w,X2,h2,g2,li⟩:=Sd v1.p k a ha
    have g2':=Gr.mb g2 mb
    have v2:=v1.frame g2'
    have m2:=m1.frame (g2.keep mb m1.m.lt fun h=>h)
    have t2':=v1.t2
    have hwl:=li.len X2
    have hwm:s.strOf a≠[]→Gp w≠mb:=fun h e=>by
     obtain⟨tl,a1,a2,a3,a4⟩:=li.pos (Ld.2 h)
     have:=(Gl.1 a2).1
     have:=m1.m.lt
     omega
    have hsl:(s.strOf a).length≤15:=J2 (Gab _ _ _) (k.Zn a)
    have:=@Nk;have:=@Vg;refine Jb ?_
    generalize hr:den P (.loop TS) _ _=r
    obtain⟨E',X3,ks3,rfl,g3,m3,vi⟩:=Gko k (DJ k hs n) (by rw[Qi];simp;omega) m2 v2 oM (fun x hx=>by have:=k.has_lt (hs.str hx);omega) li.li hwm uA uA uA uA hr
    refine Jb ?_
    exact⟨ks3,X3,rfl,(g1.trans g2').trans g3,m3,Hy.mark ch vi⟩
end
end Go.Cs.Tryz

namespace Go.Cs
open Go
def Qr(ks:List Int)(l:List Ob):List Int:=l.filterMap fun o=>if(o.addr:Int)∈ks∧o.kd=2∧o.refs.getD 0 0∈ks then some (o.refs.getD 1 0)else none
theorem XN{ks:List Int}{l:List Ob}{j:Nat}{o:Ob}(h:l[j]?=some o):Qr ks (l.take (j+1))=Qr ks (l.take j)++(if(o.addr:Int)∈ks∧o.kd=2∧o.refs.getD 0 0∈ks then [o.refs.getD 1 0]else []):=by
 unfold Qr
 rw[Nl,h,Z4,List.filterMap_append]
 grind
theorem Mg(ks:List Int)(l:List Ob):(Qr ks l).length≤l.length:=List.length_filterMap_le _ _
theorem BR{ks:List Int}{l:List Ob}{v:Int}:v∈Qr ks l↔∃o∈l,((o.addr:Int)∈ks∧o.kd=2∧o.refs.getD 0 0∈ks)∧o.refs.getD 1 0=v:=by
 unfold Qr
 grind
theorem Yy{o:Ob}(h:2≤o.refs.length){i:Nat}(hi:i<2):o.refs[i]?=some (o.refs.getD i 0):=by
 grind
structure IZ(s:Hp)(st:Int→Prop)(t:Nat)(ks todo:List Int):Prop where
 kp:∀x∈ks,Kp s st true x
 tk:∀x∈todo,s.has x=true→Kp s st true x
 cl:∀x∈ks,∀b∈s.strOf x,s.has b=true→b∈ks
 st:∀a,st a→s.has a=true→a∈ks∨a∈todo
 pr:∀o∈s.objs,(o.addr:Int)∈ks→o.kd=2→o.refs.getD 0 0∈ks→s.has (o.refs.getD 1 0)=true→o.refs.getD 1 0∈ks∨o.refs.getD 1 0∈todo
 ze:(t=0∧ks=[])∨(0<t∧ks≠[])
 tl:t≤ks.length
theorem GpH{s:Hp}{st:Int→Prop}:Cl s (Kp s st true):=fun x b hx hb hh=>by
 obtain⟨h0,o,ho,j,hj,hs⟩:=Hp.Et.1 hb
 exact .ref hx ho hj hs hh
theorem IZ.visit{s:Hp}{st:Int→Prop}{t:Nat}{ks todo ks':List Int}(h:IZ s st t ks todo)(v:Hy s (fun b=>b∈todo) ks ks'):
  (∀x∈ks',Kp s st true x)∧(∀x∈ks',∀b∈s.strOf x,s.has b=true→b∈ks')∧(∀a,st a→s.has a=true→a∈ks'):=by
 refine⟨fun x hx=>?_,fun x hx b hb hh=>?_,fun a ha hh=>?_⟩
 ·by_cases c:x∈ks
  ·exact h.kp x c
  ·exact v.new _ GpH (fun a h1 h2=>h.tk a h1 h2) x hx c
 ·by_cases c:x∈ks
  ·exact v.sub b (h.cl x c b hb hh)
  ·exact v.cl x hx c b hb hh
 ·rcases h.st a ha hh with h1|h1
  ·exact v.sub a h1
  ·exact v.got a h1 hh
theorem IZ.fin{s:Hp}(k:s.Ok)(h0:s.has 0=false){st:Int→Prop}{t:Nat}{ks todo ks':List Int}(h:IZ s st t ks todo)(v:Hy s (fun b=>b∈todo) ks ks')(e:ks'.length=ks.length):ks'=ks∧∀x,x∈ks↔Kp s st true x:=by
 have e':ks'=ks:=(v.pre.eq_of_length e.symm).symm
 subst e'
 obtain⟨h1,h2,h3⟩:=h.visit v
 refine⟨rfl,fun x=>⟨h1 x,fun hx=>?_⟩⟩
 induction hx with
 |start a1 a2=>exact h3 _ a1 a2
 |@ref a b o j _ a2 a3 a4 a5 ih=>
  by_cases c:b=0
  ·rw[c,h0]at a5;cases a5
  ·exact h2 a ih b (Hp.Et.2 ⟨c,o,a2,j,a3,a4⟩) a5
 |@pair a b c o _ a2 a3 a4 a5 a6 a7 a8 ih1 ih2=>
  obtain⟨q1,q2⟩:=Hp.Jf a3
  have q3:=(k.PS a3).2 a4
  have e0:c=o.refs.getD 0 0:=by grind
  have e1:b=o.refs.getD 1 0:=by grind
  subst e0 e1
  rcases h.pr o q1 (by rw[q2];exact ih1) a4 ih2 a8 with h|h
  ·exact h
  ·exact v.got _ h a8
theorem IZ.next{s:Hp}(k:s.Ok){st:Int→Prop}{t:Nat}{ks todo ks':List Int}(h:IZ s st t ks todo)(v:Hy s (fun b=>b∈todo) ks ks')(e:ks'.length≠ks.length):IZ s st (t+1) ks' (Qr ks' s.objs):=by
 obtain⟨h1,h2,h3⟩:=h.visit v
 have hle:=v.pre.length_le
 refine⟨h1,fun x hx hh=>?_,h2,fun a ha hh=>.inl (h3 a ha hh),fun o ho a1 a2 a3 a4=>.inr (BR.2 ⟨o,ho,⟨a1,a2,a3⟩,rfl⟩),.inr ⟨oM,fun h0=>by grind⟩,by have:=h.tl;omega⟩
 obtain⟨o,ho,⟨a1,a2,a3⟩,rfl⟩:=BR.1 hx
 have Yi:=k.obj ho
 have q3:=(k.PS Yi).2 a2
 exact .pair rfl (h1 _ a1) Yi a2 (Yy q3 oM) (h1 _ a3) (Yy q3 oM) hh
end Go.Cs
namespace Go.Cs.Tryz
open Go Go.Cs A
abbrev Fe:Gn:=T [b 46 .lss 45 44] (S (J 46 (X 4)) (S (B 5 (T [x 47 1 43 45,l 48 1 47,m 14 48] (S (T [l 49 1 6,m 50 14,e 51 (.Vn false .i64 (.bool false) (t 49) (t 50)),no 52 51,m 53 52,gf 53 (l 54 1 2),gf 53 (m 55 14),gf 53 (q2 56 225 54 55),gf 53 (bk 57 .neq 56 2),or 58 53 57] (I 58 (X 5))) (T [l 60 1 2,m 61 14,ca 62 66 [t 60,t 61,k 0],m 59 62,ex 63 59 0,ex 64 59 1,m 15 63,m 16 64] (T [l 65 1 6,m 66 15,e 67 (.Vn false .i64 (.bool false) (t 65) (t 66))] (I 67 (T [l 69 1 2,m 70 14,ca 71 66 [t 69,t 70,k 1],m 68 71,ex 72 68 0,ex 73 68 1,m 17 72,m 18 73] (R [m 74 9,m 75 17,e 76 (.buildSlice 1 [i 0] 1 [(0,1,t 75)]),ap 77 1 74 76,m 9 77])))))))) (R [bk 78 .add 45 1,m 45 78])))
abbrev Oq:Gn:=T [b 29 .lss 28 27] (S (J 29 (X 2)) (S (B 3 (T [x 30 1 26 28,l 31 1 30,m 12 31] (R [l 32 1 7,m 33 12,e 34 (.KH (t 32) [t 33])]))) (R [bk 35 .add 28 1,m 28 35])))
abbrev Lx:Gn:=S (B 1 (T [l 24 1 6,e 25 (.Ya (t 24)),m 10 25] (S (T [m 26 9,le 27 26,n 28 0] (B 2 (W Oq))) (S (T [l 36 1 6,e 37 (.Ya (t 36)),m 38 10,b 39 .eql 37 38] (I 39 (Q [l 40 1 6,m 41 8,m 4 40,m 5 41]))) (T [e 9 (.Km (c .Gd))] (T [l 42 1 2,q1 43 53 42,le 44 43,n 45 0] (B 4 (W Fe)))))))) (R [m 22 8,bk 23 .add 22 1,m 8 23])
def Grl:Gj:=⟨79,0,T [bo 2 0,e 4 (.Km (c .Uk)),n 5 0] (T [e 19 .Yf,e 6 (.new [.Uk]),st 1 6 19] (T [e 7 (.new [.nilFunc])] (T [e 20 (.Ug 223 [t 2,t 6,t 7]),st 1 7 20] (T [n 8 0] (T [m 21 1,m 9 21] (B 0 (W Lx))))))),[r 4,r 5]⟩
theorem c141:P 141=some Grl:=by kernel_rfl
end Go.Cs.Tryz
namespace Go.Cs.Tryz
open Go Go.Cs
section
variable {hb : Nat} {s : Hp} {L : G5}
theorem Gfo(k:s.Ok)(hs:SB s){mb c2 c6 c7:Nat}{H:Gb}{ks:List Int}(m:Qb H mb s ks)(v:Pn H hb s L mb c2 c6 c7){l:List Int}(hl:l.length≤100000)(hle:∀x∈l,x≤9223372036854775807){w:CV}(hw:LI H w l)(hwm:l≠[]→Gp w≠mb)
  {E0:Env}(h7:E0 7=.ptr c7 0)(h26:E0 26=w)(h27:E0 27=.i l.length)(h28:E0 28=.i 0){r:Option (CX×Env×Gb)}(hr:den P (.loop Oq) E0 H=r):
  ∃E' H' ks',r=some (.exit 2,E',H')∧Keeps H H' (·=mb)∧Qb H' mb s ks'∧Hy s (fun b=>b∈l) ks ks'∧∀t,t∉wr Oq→E' t=E0 t:=by
 obtain⟨x',E',H',e,-,⟨rfl,g,ks',q1,q2⟩,fr⟩:=Gq (p:=P) (c:=Oq) (E0:=E0) (H0:=H)
  (fun q E H'=>∃(j:Nat)(ks':List Int),E 28=.i j∧j≤l.length∧q=l.length-j∧Keeps H H' (·=mb)∧Qb H' mb s ks'∧Hy s (fun b=>b∈l.take j) ks ks')
  (fun x' E' H'=>x'=.exit 2∧Keeps H H' (·=mb)∧∃ks',Qb H' mb s ks'∧Hy s (fun b=>b∈l) ks ks') (by
   rintro q E H' hE ⟨j,ks',e28,hj,rfl,g,m',vi⟩
   have e7:=(hE 7 dK).trans h7
   have e26:=(hE 26 dK).trans h26
   have e27:=(hE 27 dK).trans h27
   have v':=v.frame g
   have t7:=v'.t7
   by_cases c:j<l.length
   ·have c':decide ((j:Int)<(l.length:Int))=true:=Gz oM
    obtain⟨x,hx⟩:∃x,l[j]?=some x:=⟨_,Jr c⟩
    have Gd8:=hwm (fun h=>by rw[h]at c;exact absurd c sM)
    obtain⟨tl,a1,a2,a3,a4⟩:=hw.pos oM
    have hwH:H'[Gp w]?=H[Gp w]?:=g.keep _ (Gf a3) Gd8
    have ix:∀X,JM 1 w (.i j) X=some (.ptr (Gp w) j,X):=fun X=>by
     rw[a1];exact(if_pos oM).trans (by simp[Gp])
    have l1:ld H'[Gp w]? j=some (.i x):=by rw[hwH,a3,Ym];simp[ints,hx]
    obtain⟨RI,H2,r1,g2,m2,vi2⟩:=DJ k hs 4097 H' ks' x oM m' v' (hle x (JV hx))
    have w1:IntKind.i64.wrap ((j:Int)+1)=((j+1:Nat):Int):=Gg oM
    apply Gm (k':=l.length-(j+1))
    ·refine W12 e7 e26 e27 e28 c' ix l1 t7 @Jo @JA r1 w1 ?_
     rfl
    ·omega
    ·refine⟨j+1,RI,uA,oM,rfl,g.trans g2,m2,(vi.trans vi2).weaken fun b=>?_⟩
     rw[Nl,hx,Z4,K_,Ad]
   ·have c':decide ((j:Int)<(l.length:Int))=false:=Gw oM
    rw[Qe oM]at vi
    apply Gi (x:=.exit 2)
    ·refine Jb ?_
     rfl
    ·simp
    ·exact⟨rfl,g,ks',m',vi⟩) _ ⟨0,ks,h28,oM,rfl,Keeps.refl _ _,m,(Hy.refl s ks).weaken fun b=>by simp⟩
 grind
theorem GdP(k:s.Ok){mb c2 c6 c7:Nat}{H:Gb}{ks:List Int}(m:Qb H mb s ks)(v:Pn H hb s L mb c2 c6 c7){w:CV}(hw:LI H w s.all)
  {E0:Env}(h2:E0 2=.ptr c2 0)(h6:E0 6=.ptr c6 0)(h9:E0 9=.Gd)(h43:E0 43=w)(h44:E0 44=.i s.objs.length)(h45:E0 45=.i 0){r:Option (CX×Env×Gb)}(hr:den P (.loop Fe) E0 H=r):
  ∃E' H' w',r=some (.exit 4,E',H')∧Gr H H'∧E' 9=w'∧IL H.length H' w' (Qr ks s.objs)∧∀t,t∉wr Fe→E' t=E0 t:=by
 have few:=k.few
 have hall:s.all.length=s.objs.length:=by simp[Hp.all]
 obtain⟨x',E',H',e,-,⟨rfl,g,w',q1,q2⟩,fr⟩:=Gq (p:=P) (c:=Fe) (E0:=E0) (H0:=H)
  (fun q E H'=>∃(j:Nat)(w':CV),E 45=.i j∧j≤s.objs.length∧q=s.objs.length-j∧Gr H H'∧E 9=w'∧IL H.length H' w' (Qr ks (s.objs.take j)))
  (fun x' E' H'=>x'=.exit 4∧Gr H H'∧∃w',E' 9=w'∧IL H.length H' w' (Qr ks s.objs)) (by
   rintro q E H' hE ⟨j,w',e45,hj,rfl,g,e9,p3⟩
   have e2:=(hE 2 dK).trans h2
   have e6:=(hE 6 dK).trans h6
   have e43:=(hE 43 dK).trans h43
   have e44:=(hE 44 dK).trans h44
   have v':=v.frame (Gr.mb g mb)
   have m':=m.frame (g.keep mb m.m.lt fun h=>h)
   have t2:=v'.t2
   have t6:=v'.t6
   by_cases c:j<s.objs.length
   ·have c':decide ((j:Int)<(s.objs.length:Int))=true:=Gz oM
    have hx:s.objs[j]?=some s.objs[j]:=Jr c
    obtain⟨x,hxe⟩:∃x,x=s.objs[j]:=⟨_,rfl⟩
    rw[←hxe]at hx
    have hxm:=JV hx
    have NJ:=k.obj hxm
    have hxa:s.all[j]?=some (x.addr:Int):=by simp[Hp.all,hx]
    have hfi:=(k.ob x hxm).fits
    have hnb:=k.nb
    have hnw:s.nw=64*s.blk.length:=rfl
    obtain⟨b,f,i1,i2,i3⟩:=hw.at hxa
    have Yg:=i3 H' g
    have hg:=m'.get (x.addr:Int)
    have w1:IntKind.i64.wrap ((j:Int)+1)=((j+1:Nat):Int):=Gg oM
    have hkd:s.BA (x.addr:Int)=x.kd:=by unfold Hp.BA;rw[NJ]
    have hll:=Mg ks (s.objs.take j)
    rw[List.length_take]at hll
    suffices fin:∃E' H2 w2,den P Fe E H'=some (.normal,E',H2)∧E' 45=.i ((j+1:Nat):Int)∧Keeps H' H2 (fun c=>H.length≤c)∧E' 9=w2∧IL H.length H2 w2 (Qr ks (s.objs.take (j+1)))by
     obtain⟨E',H2,w2,f1,f2,f3,f4,f5⟩:=fin
     exact Gm f1 (k':=s.objs.length-(j+1)) oM ⟨j+1,w2,f2,oM,rfl,g.news f3,f4,f5⟩
    rw[XN hx]
    by_cases ck:(x.addr:Int)∈ks
    ·rw[Gz ck]at hg
     obtain⟨X1,h1,g1⟩:=GaT v'.p k (x.addr:Int) oM
     rw[hkd]at h1
     by_cases c2:x.kd=2
     ·have c2':((x.kd:Int) != 2)=false:=by rw[c2];rfl
      have q3:=(k.PS NJ).2 c2
      have v1:=v'.frame (Gr.mb g1 mb)
      have t2':=v1.t2
      have t6':=v1.t6
      obtain⟨X2,h3,g2⟩:=U4 v1.p k (x.addr:Int) 0 oM
      have hr0:s.Du (x.addr:Int) 0=(x.refs.getD 0 0,0):=by
       have hre:s.refsOf (x.addr:Int)=x.refs:=by unfold Hp.refsOf;rw[NJ]
       exact Hp.Vs (j:=0) (by rw[hre];exact Yy q3 oM)
      rw[hr0]at h3
      unfold UF at h3
      have v2:=v1.frame (Gr.mb g2 mb)
      have m2:=(m'.frame (g1.keep mb m'.m.lt fun h=>h))
      have m3:=m2.frame (g2.keep mb m2.m.lt fun h=>h)
      have GqV:=v2.t2
      have Go0:=v2.t6
      have hg2:=m3.get (x.refs.getD 0 0)
      by_cases c3:x.refs.getD 0 0∈ks
      ·rw[Gz c3]at hg2
       obtain⟨X3,h4,g3⟩:=U4 v2.p k (x.addr:Int) 1 oM
       have hr1:s.Du (x.addr:Int) 1=(x.refs.getD 1 0,0):=by
        have hre:s.refsOf (x.addr:Int)=x.refs:=by unfold Hp.refsOf;rw[NJ]
        exact Hp.Vs (j:=1) (by rw[hre];exact Yy q3 oM)
       rw[hr1]at h4
       unfold UF at h4
       have gg:Gr H' X3:=(g1.trans g2).trans g3
       obtain⟨v4,X4,a1,a2,a3⟩:=IL.push (At.keeps p3 gg) (J2 g.len gg.len) oM (x.refs.getD 1 0)
       have hel:elems (X3++[⟨[.i (x.refs.getD 1 0)],.rw,1⟩]) 1 (.slice X3.length 0 1 1 1 false)=some (1,[.i (x.refs.getD 1 0)]):=by
        rw[JN oM]
        have:=@N9;exact W0
       refine W26 e2 e6 e9 e43 e44 e45 c' i1 Yg t6 @Nk hg t2 h1 c2' t2' h3 Go0 hg2 GqV h4 @JO @Jc hel a1 w1 ?_
       exact⟨_,_,v4,rfl,uA,(gg.weaken fun _ h=>h.elim).trans a3,uA,by rw[if_pos ⟨ck,c2,c3⟩];exact a2⟩
      ·rw[Gw c3]at hg2
       refine W19 e2 e6 e43 e44 e45 c' i1 Yg t6 @Nk hg t2 h1 c2' t2' h3 Go0 hg2 w1 ?_
       exact⟨_,_,w',rfl,uA,((g1.trans g2).weaken fun _ h=>h.elim),by simp[Gc,e9],by rw[if_neg (fun h=>c3 h.2.2),List.append_nil];exact At.keeps p3 (g1.trans g2)⟩
     ·have c2':((x.kd:Int) != 2)=true:=bne_iff_ne.2 oM
      refine W15 e2 e6 e43 e44 e45 c' i1 Yg t6 @Nk hg t2 h1 c2' w1 ?_
      exact⟨_,_,w',rfl,uA,(g1.weaken fun _ h=>h.elim),by simp[Gc,e9],by rw[if_neg (fun h=>c2 h.2.1),List.append_nil];exact At.keeps p3 g1⟩
    ·rw[Gw ck]at hg
     refine W11 e6 e43 e44 e45 c' i1 Yg t6 @Nk hg w1 ?_
     exact⟨_,_,w',rfl,uA,Keeps.refl _ _,by simp[Gc,e9],by grind⟩
   ·have c':decide ((j:Int)<(s.objs.length:Int))=false:=Gw oM
    rw[Qe oM]at p3
    apply Gi (x:=.exit 4)
    ·refine Jb ?_
     rfl
    ·simp
    ·exact⟨rfl,g,w',by simp[Gc,e9],p3⟩) _ ⟨0,.Gd,h45,oM,rfl,Keeps.refl _ _,h9,IL.nil⟩
 grind
end
end Go.Cs.Tryz

namespace Go.Cs.Tryz
open Go Go.Cs
section
variable {hb : Nat} {s : Hp} {L : G5}
theorem GjY(k:s.Ok)(hs:SB s){ks:List Int}:∀x∈Qr ks s.objs,x≤9223372036854775807:=fun x hx=>by
 obtain⟨o,ho,⟨-,a2,-⟩,rfl⟩:=BR.1 hx
 have q3:=(k.PS (k.obj ho)).2 a2
 rcases hs o ho _ (JV (Yy q3 (i:=1) oM))with h|h
 ·omega
 ·have:=k.has_lt h;omega
theorem GeA(k:s.Ok)(hs:SB s)(h00:s.has 0=false){st:Int→Prop}{mb c2 c6 c7:Nat}{H:Gb}{ks:List Int}(m:Qb H mb s ks)(v:Pn H hb s L mb c2 c6 c7){todo:List Int}(hl:todo.length≤100000)(hle:∀x∈todo,x≤9223372036854775807){w:CV}(hw:LI H w todo)(hwm:todo≠[]→Gp w≠mb)
  (rd:IZ s st 0 ks todo){C:Prop}(hC:C→∀ks':List Int,(∀x∈ks',Kp s st true x)→∀x∈Qr ks' s.objs,s.has x=true→x∈ks')
  {E0:Env}(h2:E0 2=.ptr c2 0)(h6:E0 6=.ptr c6 0)(h7:E0 7=.ptr c7 0)(h8:E0 8=.i 0)(h9:E0 9=w){r:Option (CX×Env×Gb)}(hr:den P (.loop Lx) E0 H=r):
  ∃E' H' ks' t,r=some (.ret,E',H')∧Keeps H H' (·=mb)∧Qb H' mb s ks'∧E' 4=.GJ mb∧E' 5=.i (t:Nat)∧(t=0↔ks'=[])∧(∀x,x∈ks'↔Kp s st true x)∧(C→t≤1):=by
 have few:=k.few
 obtain⟨x',E',H',e,-,⟨rfl,g,ks',t,q⟩,fr⟩:=Gq (p:=P) (c:=Lx) (E0:=E0) (H0:=H)
  (fun q E H'=>∃(t:Nat)(ks' todo:List Int)(w:CV),E 8=.i t∧E 9=w∧q=4100-ks'.length∧Keeps H H' (·=mb)∧Qb H' mb s ks'∧LI H' w todo∧(todo≠[]→Gp w≠mb)∧todo.length≤100000∧(∀x∈todo,x≤9223372036854775807)∧IZ s st t ks' todo∧(C→t≤1∧(t=1→∀x∈todo,s.has x=true→x∈ks')))
  (fun x' E' H'=>x'=.ret∧Keeps H H' (·=mb)∧∃(ks':List Int)(t:Nat),Qb H' mb s ks'∧E' 4=.GJ mb∧E' 5=.i t∧(t=0↔ks'=[])∧(∀x,x∈ks'↔Kp s st true x)∧(C→t≤1)) (by
   rintro q E H' hE ⟨t,ks',todo,w,e8,e9,rfl,g,m',hw,hwm,hl,hle,rd,hct⟩
   have e2:=(hE 2 dK).trans h2
   have e6:=(hE 6 dK).trans h6
   have e7:=(hE 7 dK).trans h7
   have v':=v.frame g
   have t6:=v'.t6
   have hml:=m'.m.len
   have hwl:=hw.len H'
   have Gd3:=m'.few k
   suffices fin:∃x E' H2,den P Lx E H'=some (x,E',H2)∧((x=.normal∧∃(RI FP:List Int)(w2:CV),E' 8=.i ((t+1:Nat):Int)∧E' 9=w2∧ks'.length<RI.length∧Keeps H' H2 (·=mb)∧Qb H2 mb s RI∧LI H2 w2 FP∧(FP≠[]→Gp w2≠mb)∧FP.length≤100000∧(∀x∈FP,x≤9223372036854775807)∧IZ s st (t+1) RI FP∧(C→t+1≤1∧(t+1=1→∀x∈FP,s.has x=true→x∈RI)))∨
     (x=.ret∧Keeps H' H2 (·=mb)∧Qb H2 mb s ks'∧E' 4=.GJ mb∧E' 5=.i t∧∀x,x∈ks'↔Kp s st true x))by
    obtain⟨x,E',H2,f1,⟨rfl,RI,FP,w2,f2,f3,f4,f5,f6,f7,f8,f9,f10,f11,f12⟩|⟨rfl,f2,f3,f4,f5,f6⟩⟩:=fin
    ·have hf2:=f6.few k
     exact Gm f1 (k':=4100-RI.length) oM ⟨t+1,RI,FP,w2,f2,f3,rfl,g.trans f5,f6,f7,f8,f9,f10,f11,f12⟩
    ·refine Gi f1 sM ⟨rfl,g.trans f2,ks',t,f3,f4,f5,?_,f6,fun hc=>(hct hc).1⟩
     rcases rd.ze with⟨h,h'⟩|⟨h,h'⟩
     ·exact⟨fun _=>h',fun _=>h⟩
     grind
   have:=@Vf;refine Jb ?_
   generalize hr:den P (.loop Oq) _ _=r
   obtain⟨E2,X2,RI,rfl,g2,m2,vi,f2⟩:=Gfo k hs m' v' hl hle hw hwm (by simp[Gc,e7]) uA uA uA hr
   have b2:=f2 2 dK
   have b6:=f2 6 dK
   have b8:=f2 8 dK
   have b10:=f2 10 dK
   simp only[Gc,Nat.reduceEqDiff,↓reduceIte,e2,e6,e8]at b2 b6 b8 b10
   have v2:=v'.frame g2
   have t6':=v2.t6
   have t2':=v2.t2
   have GsE:=m2.m.len
   have hle2:=vi.pre.length_le
   have Gxe:=m2.few k
   by_cases c:RI.length=ks'.length
   ·obtain⟨rfl,hk⟩:=rd.fin k h00 vi c
    have c':((RI.length:Int)==(RI.length:Int))=true:=by simp
    refine W7 b6 b8 b10 t6' @Vf GsE c' ?_
    exact⟨_,_,_,rfl,.inr ⟨rfl,g2,m2,uA,uA,hk⟩⟩
   ·have c':((RI.length:Int)==(ks'.length:Int))=false:=Iq.2 oM
    obtain⟨w3,X3,h3,g3,li3⟩:=U3 v2.p k
    have hw3:=li3.len X3
    have hall:s.all.length=s.objs.length:=by simp[Hp.all]
    rw[hall]at hw3
    have v3:=v2.frame (Gr.mb g3 mb)
    have m3:=m2.frame (g3.keep mb m2.m.lt fun h=>h)
    have:=@Vf;refine Jb ?_
    generalize hr:den P (.loop Fe) _ _=r
    obtain⟨E4,X4,w4,rfl,g4,a9,li4,f4⟩:=GdP k m3 v3 li3.li (by simp[Gc,b2]) (by simp[Gc,b6]) uA uA uA uA hr
    have d8:=f4 8 dK
    simp only[Gc,Nat.reduceEqDiff,↓reduceIte,b8]at d8
    have htl:=rd.tl
    have w1:IntKind.i64.wrap ((t:Int)+1)=((t+1:Nat):Int):=Gg oM
    refine Jb ?_
    have WR:=m3.m.lt
    have hnx:=rd.next k vi c
    refine⟨_,_,_,rfl,.inl ⟨rfl,RI,Qr RI s.objs,w4,uA,by simp[Gc,a9],oM,(g2.trans (Gr.mb g3 mb)).trans (Gr.mb g4 mb),m3.frame (g4.keep mb WR fun h=>h),li4.li,fun h e=>?_,?_,GjY k hs,hnx,fun hc=>?_⟩⟩
    ·obtain⟨tl,a1,a2,a3,a4⟩:=li4.pos (Ld.2 h)
     have:=(Gl.1 a2).1
     omega
    ·have:=Mg RI s.objs
     omega
    ·obtain⟨ht,hq⟩:=hct hc
     rcases VB t 1 with h|h
     ·exact⟨oM,fun _=>hC hc RI hnx.kp⟩
     ·exfalso
      have ht1:t=1:=by omega
      obtain⟨rest,hrest⟩:=vi.pre
      have hnd:=m2.m.nodup
      rw[←hrest]at c hnd
      cases rest with
      |nil=>exact c sM
      |cons z rest=>
       have hz:z∉ks':=fun h=>by
        grind
       exact hz (vi.new (fun a=>a∈ks') (fun x b hx hb hh=>rd.cl x hx b hb hh) (hq ht1) z (by rw[←hrest];simp) hz)) _ ⟨0,ks,todo,w,h8,h9,rfl,Keeps.refl _ _,m,hw,hwm,hl,hle,rd,fun _=>⟨oM,fun h=>by omega⟩⟩
 grind
theorem GeM{H:Gb}{b o m:Nat}:OD 1 H (.ptr b o) (.GJ m)=(Hl H b H[b]? o [.GJ m]).map fun H'=>(.undef,H'):=Di rfl
theorem GlB{H:Gb}{b o m e:Nat}{cs:List CV}(h:o<cs.length):Hl H b (some ⟨cs,.rw,e⟩) o [.GJ m]=some (H.set b ⟨cs.set o (.GJ m),.rw,e⟩):=Vm rfl h
theorem Tf{H:Gb}(p:PH H hb s L)(k:s.Ok)(hs:SB s)(h00:s.has 0=false){starts:List Int}(hn:starts.length≤100000)(hle:∀x∈starts,x≤9223372036854775807){w:CV}(hw:LI H w starts){C:Prop}(hC:C→∀ks':List Int,(∀x∈ks',Kp s (fun a=>a∈starts) true x)→∀x∈Qr ks' s.objs,s.has x=true→x∈ks'):
  ∃mb H' ks t,run P 141 [.ptr hb 0,w] H=some (.Jj [.GJ mb,.i (t:Nat)],H')∧Gr H H'∧H.length≤mb∧Qb H' mb s ks∧(t=0↔ks=[])∧(∀x,x∈ks↔Kp s (fun a=>a∈starts) true x)∧(C→t≤1):=by
 obtain⟨X,hX⟩:∃X:Gb,X=H++[⟨[.ptr hb 0],.rw,0⟩]++[⟨[],.map,0⟩]++[⟨[.GJ (H.length+1)],.rw,0⟩]++[⟨[.func 223 [.ptr H.length 0,.ptr (H.length+2) 0,.ptr (H.length+3) 0]],.rw,0⟩]:=⟨_,rfl⟩
 have gX:Gr H X:=by rw[hX];exact(((Gr.app H _).app' _).app' _).app' _
 have lX:X.length=H.length+4:=by rw[hX];simp
 have v:Pn X hb s L (H.length+1) H.length (H.length+2) (H.length+3):=⟨p.gr gX,fun h=>by have:=p.lt _ h;omega,by rw[hX];simp,by rw[hX];simp,by rw[hX];simp,oM,oM,oM⟩
 have m:Qb X (H.length+1) s []:=⟨⟨[],by rw[hX];simp[JH],rfl,List.nodup_nil,fun k v=>by simp⟩,fun x hx=>(by cases hx)⟩
 have rd:IZ s (fun a=>a∈starts) 0 [] starts:=⟨fun x hx=>(by cases hx),fun x hx hh=>.start hx hh,fun x hx=>(by cases hx),fun a ha hh=>.inr ha,fun o ho h=>(by cases h),.inl ⟨rfl,rfl⟩,Nat.le_refl _⟩
 rw[Gh c141 _ _ sM]
 have:=@BF;have:=@GeM;have:=@GlB;refine Jb ?_
 rw[show H.length+1+1=H.length+2 from rfl,show H.length+2+1=H.length+3 from rfl,←hX]
 generalize hr:den P (.loop Lx) _ _=r
 obtain⟨E',X2,ks,t,rfl,g,m2,a4,a5,q1,q2,q3⟩:=GeA k hs h00 m v hn hle (hw.gr gX) (fun h e=>by
  obtain⟨tl,a1,a2,a3,a4⟩:=hw.pos (Ld.2 h)
  have:=Gf a3
  omega) rd hC uA uA uA uA uA hr
 refine Jb ?_
 exact⟨H.length+1,X2,ks,t,rfl,⟨by have:=g.len;omega,fun c hc _=>by rw[g.keep c oM oM,gX.keep c hc fun h=>h]⟩,oM,m2,q1,q2,q3⟩
end
end Go.Cs.Tryz
namespace Go.Cs.Tryz
open Go Go.Cs A
def C77:Gj:=⟨1,0,R [e 1 (.KJ 168 (t 0))],[r 1]⟩
theorem c77:P 77=some C77:=by kernel_rfl
def C78:Gj:=⟨4,0,T [bo 1 0,e 2 (.Km (c .nilFunc))] (Q [e 3 (.Ug 168 [t 1]),m 2 3]),[r 2]⟩
theorem c78:P 78=some C78:=by kernel_rfl
abbrev ML:Gn:=T [b 34 .lss 33 32] (S (J 34 (X 2)) (S (B 3 (T [m 35 33,m 10 35] (T [l 37 1 2,m 38 7,m 39 10,q3 40 66 37 38 39,m 36 40,ex 41 36 0,ex 42 36 1,m 11 41,m 12 42] (T [m 43 5,m 44 11,e 45 (.KH (t 43) [t 44])] (I 45 (Q [nb 4 false])))))) (R [bk 46 .add 33 1,m 33 46])))
abbrev Fv:Gn:=T [b 22 .lss 21 20] (S (J 22 (X 0)) (S (B 1 (T [x 23 1 19 21,l 24 1 23,m 7 24] (T [l 26 1 2,m 27 7,q2 28 65 26 27,m 25 28,ex 29 25 0,ex 30 25 1,e 8 (.new [i 0,i 0,i 0]),st 3 8 29,m 9 30] (T [f 31 0 8,l 32 1 31,n 33 0] (B 2 (W ML)))))) (R [bk 47 .add 21 1,m 21 47])))
def Gqt:Gj:=⟨48,0,T [bo 2 0,nb 4 false] (T [e 13 (.Ug 200 [t 2]),m 5 13] (S (T [m 14 1,q1 15 142 14,m 16 5,q2 17 201 15 16] (I 17 (Q [nb 4 false]))) (S (T [l 18 1 2,q1 19 53 18,le 20 19,n 21 0] (B 0 (W Fv))) (Q [nb 4 true])))),[r 4]⟩
theorem GqB:P 108=some Gqt:=by kernel_rfl
def Grd:Gj:=⟨12,0,T [nb 3 false] (Q [m 4 0,bk 5 .neq 4 0,m 6 5,gt 6 (l 7 1 1),gt 6 (m 8 0),gt 6 (q2 9 153 7 8),gt 6 (no 10 9),an 11 6 10,m 3 11]),[r 3]⟩
theorem GrV:P 200=some Grd:=by kernel_rfl
end Go.Cs.Tryz
namespace Go.Cs.Tryz
open Go Go.Cs
section
variable {H : Gb} {hb : Nat} {s : Hp} {L : G5}
theorem MJ(p:PH H hb s L)(k:s.Ok){c2:Nat}(t2:H[c2]?=some ⟨[.ptr hb 0],.rw,0⟩) {x:Int} (hx:x=0∨s.has x=true):run P 200 [.i x,.ptr c2 0] H=some (.bool false,H):=by
 rw[Gh GrV _ _ sM]
 by_cases c:x=0
 ·have c':(x != 0)=false:=by rw[c];rfl
  exact W0
 ·have c':(x != 0)=true:=by simpa using c
  have hh:s.has x=true:=by
   grind
  have h1:=ZQ p k x (by have:=k.has_lt hh;omega)
  rw[hh]at h1
  exact W0
theorem GgP(k:s.Ok)(hs:SB s)(p:PH H hb s L){c2:Nat}(t2:H[c2]?=some ⟨[.ptr hb 0],.rw,0⟩) {x:Ob} (hx:x∈s.objs)
  {E0:Env} (h2:E0 2=.ptr c2 0) (h5:E0 5=.func 200 [.ptr c2 0]) (h7:E0 7=.i x.addr) (h32:E0 32=.i x.refs.length) (h33:E0 33=.i 0) {r:Option (CX×Env×Gb)} (hr:den P (.loop ML) E0 H=r):
  ∃E' H',r=some (.exit 2,E',H')∧Gr H H'∧∀t,t∉wr ML→E' t=E0 t:=by
 have NJ:=k.obj hx
 have hok:=k.ob x hx
 have hnr:=hok.nr
 have hfi:=hok.fits
 have hnb:=k.nb
 have hnw:s.nw=64*s.blk.length:=rfl
 have hre:s.refsOf (x.addr:Int)=x.refs:=by unfold Hp.refsOf;rw[NJ]
 obtain⟨x',E',H',e,-,⟨rfl,g⟩,fr⟩:=Gq (p:=P) (c:=ML) (E0:=E0) (H0:=H)
  (fun q E H'=>∃j:Nat,E 33=.i j∧j≤x.refs.length∧q=x.refs.length-j∧Gr H H')
  (fun x' E' H'=>x'=.exit 2∧Gr H H') (by
   rintro q E H' hE ⟨j,e33,hj,rfl,g⟩
   have e2:=(hE 2 dK).trans h2
   have e5:=(hE 5 dK).trans h5
   have e7:=(hE 7 dK).trans h7
   have e32:=(hE 32 dK).trans h32
   have t2':=g.get t2
   by_cases c:j<x.refs.length
   ·have c':decide ((j:Int)<(x.refs.length:Int))=true:=Gz oM
    have hr:x.refs[j]?=some x.refs[j]:=Jr c
    obtain⟨X,h1,g1⟩:=U4 (p.gr g) k (x.addr:Int) j oM
    rw[Hp.Vs (by rw[hre];exact hr)]at h1
    unfold UF at h1
    have h3:=MJ ((p.gr g).gr g1) k (g1.get t2') (hs x hx _ (JV hr))
    have w1:IntKind.i64.wrap ((j:Int)+1)=((j+1:Nat):Int):=Gg oM
    apply Gm (k':=x.refs.length-(j+1))
    ·have:=@Jo;have:=@JA;refine Jb ?_
     rfl
    ·omega
    ·exact⟨j+1,uA,oM,rfl,g.trans g1⟩
   ·have c':decide ((j:Int)<(x.refs.length:Int))=false:=Gw oM
    apply Gi (x:=.exit 2)
    ·refine Jb ?_
     rfl
    ·simp
    ·exact⟨rfl,g⟩) _ ⟨0,h33,oM,rfl,Keeps.refl _ _⟩
 grind
theorem GhV(k:s.Ok)(hs:SB s)(p:PH H hb s L){c2:Nat}(t2:H[c2]?=some ⟨[.ptr hb 0],.rw,0⟩) {w:CV} (hw:LI H w s.all)
  {E0:Env} (h2:E0 2=.ptr c2 0) (h5:E0 5=.func 200 [.ptr c2 0]) (h19:E0 19=w) (h20:E0 20=.i s.objs.length) (h21:E0 21=.i 0) {r:Option (CX×Env×Gb)} (hr:den P (.loop Fv) E0 H=r):
  ∃E' H',r=some (.exit 0,E',H')∧Gr H H'∧∀t,t∉wr Fv→E' t=E0 t:=by
 have few:=k.few
 obtain⟨x',E',H',e,-,⟨rfl,g⟩,fr⟩:=Gq (p:=P) (c:=Fv) (E0:=E0) (H0:=H)
  (fun q E H'=>∃j:Nat,E 21=.i j∧j≤s.objs.length∧q=s.objs.length-j∧Gr H H')
  (fun x' E' H'=>x'=.exit 0∧Gr H H') (by
   rintro q E H' hE ⟨j,e21,hj,rfl,g⟩
   have e2:=(hE 2 dK).trans h2
   have e5:=(hE 5 dK).trans h5
   have e19:=(hE 19 dK).trans h19
   have e20:=(hE 20 dK).trans h20
   have t2':=g.get t2
   by_cases c:j<s.objs.length
   ·have c':decide ((j:Int)<(s.objs.length:Int))=true:=Gz oM
    have hx:s.objs[j]?=some s.objs[j]:=Jr c
    obtain⟨x,hxe⟩:∃x,x=s.objs[j]:=⟨_,rfl⟩
    rw[←hxe]at hx
    have hxm:=JV hx
    have NJ:=k.obj hxm
    have hxa:s.all[j]?=some (x.addr:Int):=by simp[Hp.all,hx]
    have hfi:=(k.ob x hxm).fits
    have hnb:=k.nb
    have hnw:s.nw=64*s.blk.length:=rfl
    obtain⟨b,f,i1,i2,i3⟩:=hw.at hxa
    have Yg:=i3 H' g
    have w1:IntKind.i64.wrap ((j:Int)+1)=((j+1:Nat):Int):=Gg oM
    obtain⟨X,h1,g1⟩:=Ng (p.gr g) k (x.addr:Int) oM
    have hsv:s.JI (x.addr:Int)=(GX x.refs.length x.data.length x.kd,0):=by unfold Hp.JI;rw[NJ]
    rw[hsv]at h1
    unfold GX at h1
    obtain⟨X1,hX1⟩:∃X1:Gb,X1=X++[⟨[.i x.refs.length,.i x.data.length,.i x.kd],.rw,0⟩]:=⟨_,rfl⟩
    have g2:Gr X X1:=by rw[hX1];exact Gr.app _ _
    have t1:X1[X.length]?=some ⟨[.i x.refs.length,.i x.data.length,.i x.kd],.rw,0⟩:=by rw[hX1];simp
    have gg:Gr H' X1:=g1.trans g2
    suffices fin:∃E' H2,den P Fv E H'=some (.normal,E',H2)∧E' 21=.i ((j+1:Nat):Int)∧Gr H' H2 by
     obtain⟨E',H2,f1,f2,f3⟩:=fin
     exact Gm f1 (k':=s.objs.length-(j+1)) oM ⟨j+1,f2,oM,rfl,g.trans f3⟩
    refine W9 e2 e19 e20 e21 c' i1 Yg t2' h1 ?_
    rw[←hX1]
    generalize hr:den P (.loop ML) _ _=r
    obtain⟨E2,X2,rfl,g3,f2⟩:=GgP k hs ((p.gr g).gr gg) (gg.get t2') hxm (by simp[Gc,e2]) (by simp[Gc,e5]) uA uA uA hr
    have b21:=f2 21 dK
    simp only[Gc,Nat.reduceEqDiff,↓reduceIte,e21]at b21
    refine Jb ?_
    exact⟨_,_,rfl,uA,gg.trans g3⟩
   ·have c':decide ((j:Int)<(s.objs.length:Int))=false:=Gw oM
    apply Gi (x:=.exit 0)
    ·refine Jb ?_
     rfl
    ·simp
    ·exact⟨rfl,g⟩) _ ⟨0,h21,oM,rfl,Keeps.refl _ _⟩
 grind
theorem GhK{o:Tags}{rb:Nat}{R:Rt}{v:Nat→CV}(p:PH H hb s L)(k:s.Ok)(m:JL o H rb R v)(kr:R.Ok)(hs:Iz s R):∃H',run P 108 [.ptr hb 0,.ptr rb 0] H=some (.bool true,H')∧Gr H H':=by
 obtain⟨X,hX⟩:∃X:Gb,X=H++[⟨[.ptr hb 0],.rw,0⟩]:=⟨_,rfl⟩
 have gX:Gr H X:=by rw[hX];exact Gr.app _ _
 have tX:X[H.length]?=some ⟨[.ptr hb 0],.rw,0⟩:=by rw[hX];simp
 obtain⟨w,X1,h1,g1,li⟩:=FH (m.gr gX) kr
 have p1:=(p.gr gX).gr g1
 have t1:=g1.get tX
 have hvl:=kr.Uw
 have hll:=QB R.vis
 have hc:=Bf (IL.sl li) (fn:=200) oM (caps:=[.ptr H.length 0]) (p:=fun _=>false) (fun x hx=>MJ p1 k t1 (by
  obtain⟨h2,-⟩:=Rt.Dl.1 (VR.1 hx)
  exact hs.2.1 x h2)) oM
 have hany:((G_ R.vis).any fun _=>false)=false:=by simp
 rw[hany]at hc
 obtain⟨w2,X2,h2,g2,li2⟩:=U3 p1 k
 have hw2:=li2.len X2
 have hall:s.all.length=s.objs.length:=by simp[Hp.all]
 rw[hall]at hw2
 rw[Gh GqB _ _ sM]
 refine Jb ?_
 rw[←hX]
 refine W5 h1 hc t1 h2 hw2 ?_
 generalize hr:den P (.loop Fv) _ _=r
 obtain⟨E3,X3,rfl,g3,f3⟩:=GhV k hs.1 (p1.gr g2) (g2.get t1) li2.li uA uA uA uA uA hr
 refine Jb ?_
 exact⟨_,rfl,((gX.trans g1).trans g2).trans g3⟩
theorem Xp(k:s.Ok){mb:Nat}{ks:List Int}(m:Qb H mb s ks):
  ∃w H' b,run P 78 [.GJ mb] H=some (.func 168 [.ptr b 0],H++[⟨[.GJ mb],.rw,0⟩])∧run P 77 [.func 168 [.ptr b 0]] (H++[⟨[.GJ mb],.rw,0⟩])=some (w,H')∧Gr H H'∧IL H.length H' w (NC ks):=by
 obtain⟨X,hX⟩:∃X:Gb,X=H++[⟨[.GJ mb],.rw,0⟩]:=⟨_,rfl⟩
 have gX:Gr H X:=by rw[hX];exact Gr.app _ _
 have tX:X[H.length]?=some ⟨[.GJ mb],.rw,0⟩:=by rw[hX];simp
 have m':=m.frame (gX.keep mb m.m.lt fun h=>h)
 have Gd3:=m.few k
 obtain⟨w,H',h1,g1,li⟩:=m'.m.keys (b0:=H.length) (g:=168) tX (by unfold J9;omega) (fun x hx=>by
  have:=k.has_lt (m.has x hx)
  unfold FU
  grind)
 have hgl:=gX.len
 refine⟨w,H',H.length,?_,?_,gX.trans g1,li.frame (fun c h=>Gl.2 ⟨by have:=(Gl.1 h).1;omega,(Gl.1 h).2⟩) fun _ _=>rfl⟩
 ·rw[Gh c78 _ _ sM]
  have:=show∀b:Nat,cellsOf (CV.GJ b)=[CV.GJ b]from fun _=>rfl;exact W0
 ·rw[←hX,Gh c77 _ _ sM]
  exact V2 @Lm h1
end
end Go.Cs.Tryz
namespace Go.Cs.Tryz
open Go Go.Cs A
abbrev LD:Gn:=S (T [m 13 7,m 14 8,b 15 .lss 13 14] (J 15 (X 0))) (B 1 (T [m 16 7,m 17 8,b 18 .add 16 17,e 19 (.conv .u64 (t 18)),e 20 (.shift .shr (t 19) (c (.int .u64 1))),e 21 (.conv .i64 (t 20)),m 9 21] (T [m 22 0,m 23 9,x 24 1 22 23,l 25 1 24,m 26 1,q2 27 271 25 26] (C 27 (R [m 28 9,bk 29 .add 28 1,m 7 29]) (R [m 30 9,m 8 30])))))
def Guq:Gj:=⟨54,0,T [n 4 0,nb 5 false] (T [m 10 0,le 11 10,m 6 11] (T [m 12 6,n 7 0,m 8 12] (S (B 0 (W LD)) (Q [m 31 7,m 32 7,m 33 6,b 34 .lss 32 33,m 35 34,gt 35 (m 36 0),gt 35 (m 37 7),gt 35 (x 38 1 36 37),gt 35 (l 39 1 38),gt 35 (m 40 1),gt 35 (b 41 .eql 39 40),gt 35 (m 42 41),gf 42 (m 43 0),gf 42 (m 44 7),gf 42 (x 45 1 43 44),gf 42 (l 46 1 45),gf 42 (q1 47 287 46),gf 42 (m 48 47),gt 48 (m 49 1),gt 48 (q1 50 287 49),gf 42 (an 51 48 50),gt 35 (or 52 42 51),an 53 35 52,m 4 31,m 5 53])))),[r 4,r 5]⟩
theorem c229:P 229=some Guq:=by kernel_rfl
def Gua:Gj:=⟨17,0,T [nb 4 false] (Q [m 5 0,q1 6 299 5,m 7 6,gt 7 (m 8 1),gt 7 (q1 9 299 8),gt 7 (no 10 9),an 11 7 10,m 12 11,gf 12 (m 13 0),gf 12 (m 14 1),gf 12 (b 15 .lss 13 14),or 16 12 15,m 4 16]),[r 4]⟩
theorem GsU:P 271=some Gua:=by kernel_rfl
def Gu2:Gj:=⟨6,0,T [nb 2 false] (Q [m 3 0,m 4 0,b 5 .neq 3 4,m 2 5]),[r 2]⟩
theorem Grc:P 287=some Gu2:=by kernel_rfl
def GuA:Gj:=⟨6,0,T [nb 2 false] (Q [m 3 0,m 4 0,b 5 .neq 3 4,m 2 5]),[r 2]⟩
theorem GtA:P 299=some GuA:=by kernel_rfl
end Go.Cs.Tryz
namespace Go.Cs.Tryz
open Go Go.Cs
section
variable {H : Gb} {v : CV} {l : List Int}
theorem Gi8(a b:Int):run P 271 [.i a,.i b] H=some (.bool (decide (a<b)),H):=by
 have h:∀x:Int,run P 299 [.i x] H=some (.bool false,H):=fun x=>by
  rw[Gh GtA _ _ sM]
  have:=show(x != x)=false from bne_self_eq_false x;exact W0
 have ha:=h a
 have hb:=h b
 rw[Gh GsU _ _ sM]
 by_cases c:a<b
 ·rw[Gz c]
  have:=Gz c;exact W0
 ·rw[Gw c]
  have:=Gw c;exact W0
theorem RV(x:Int):run P 287 [.i x] H=some (.bool false,H):=by
 rw[Gh Grc _ _ sM]
 have:=show(x != x)=false from bne_self_eq_false x;exact W0
theorem Ged(h:LI H v l)(hs:Uc l)(hl:l.length≤100000){x:Int}{E0:Env}(h0:E0 0=v)(h1:E0 1=.i x)(h7:E0 7=.i 0)(h8:E0 8=.i l.length){r:Option (CX×Env×Gb)}(hr:den P (.loop LD) E0 H=r):
  ∃(E':Env)(i:Nat),r=some (.exit 0,E',H)∧E' 7=.i i∧i≤l.length∧(x∈l↔l[i]?=some x)∧∀t,t∉wr LD→E' t=E0 t:=by
 obtain⟨x',E',H',e,-,⟨rfl,rfl,i,q1,q2,q3⟩,fr⟩:=Gq (p:=P) (c:=LD) (E0:=E0) (H0:=H)
  (fun q E H'=>H'=H∧∃i j:Nat,E 7=.i i∧E 8=.i j∧i≤j∧j≤l.length∧q=j-i∧(∀p y,p<i→l[p]?=some y→y<x)∧∀p y,j≤p→l[p]?=some y→x≤y)
  (fun x' E' H'=>x'=.exit 0∧H'=H∧∃i:Nat,E' 7=.i i∧i≤l.length∧(x∈l↔l[i]?=some x)) (by
   rintro q E H' hE ⟨rfl,i,j,e7,e8,hij,hj,rfl,lo,hi⟩
   have e0:=(hE 0 dK).trans h0
   have e1:=(hE 1 dK).trans h1
   have mono:∀p q y z,p<q→l[p]?=some y→l[q]?=some z→y<z:=fun p q y z hpq hp hq=>by
    have:=Jg (r:=fun a b:Int=>a<b) hs hpq hp hq
    exact this
   by_cases c:i<j
   ·have c':decide ((i:Int)<(j:Int))=true:=Gz oM
    obtain⟨m,hm⟩:∃m,m=(i+j)/2:=⟨_,rfl⟩
    have hx:l[m]?=some l[m]:=Jr oM
    obtain⟨b,o,i1,i2,i3⟩:=h.at hx
    have Yg:=i3 H' (Keeps.refl _ _)
    have w1:IntKind.i64.wrap ((i:Int)+(j:Int))=((i+j:Nat):Int):=Gg oM
    have w2:IntKind.u64.wrap ((i+j:Nat):Int)=((i+j:Nat):Int):=EZ oM
    have sh:Bw .shr (.int .u64 ((i+j:Nat):Int)) (.int .u64 1) H'=some (.int .u64 (m:Int),H'):=by
     rw[GrT oM]
     congr 3
     show((i+j:Nat):Int).fdiv 2=_
     grind
    have w3:IntKind.i64.wrap (m:Int)=(m:Int):=Gg oM
    have w4:IntKind.i64.wrap ((m:Int)+1)=((m+1:Nat):Int):=Gg oM
    have hc:=Gi8 (H:=H') l[m] x
    by_cases hlt:l[m]<x
    ·rw[Gz hlt]at hc
     apply Gm (k':=j-(m+1))
     ·refine W16 e0 e1 e7 e8 c' w1 @Ke @KL w2 @FB sh w3 i1 Yg hc w4 ?_
      rfl
     ·omega
     ·refine⟨rfl,m+1,j,uA,by simp[Gc,e8],oM,hj,rfl,fun p y hp hy=>?_,hi⟩
      grind
    ·rw[Gw hlt]at hc
     apply Gm (k':=m-i)
     ·refine W15 e0 e1 e7 e8 c' w1 @Ke @KL w2 @FB sh w3 i1 Yg hc ?_
      rfl
     ·omega
     ·refine⟨rfl,i,m,by simp[Gc,e7],uA,oM,oM,rfl,lo,fun p y hp hy=>?_⟩
      grind
   ·have c':decide ((i:Int)<(j:Int))=false:=Gw oM
    have hji:j=i:=by omega
    subst hji
    apply Gi (x:=.exit 0)
    ·refine Jb ?_
     rfl
    ·simp
    ·refine⟨rfl,rfl,j,by simp[Gc,e7],hj,fun hm=>?_,fun h=>JV h⟩
     obtain⟨p,hp⟩:=List.mem_iff_getElem?.1 hm
     grind) _ ⟨rfl,0,l.length,h7,h8,Nat.zero_le _,Nat.le_refl _,rfl,fun p y hp=>by omega,fun p y hp hy=>by have:=Gf hy;omega⟩
 grind
theorem AZ(h:LI H v l)(hs:Uc l)(hl:l.length≤100000)(x:Int):∃i:Nat,run P 229 [v,.i x] H=some (.Jj [.i i,.bool (decide (x∈l))],H)∧(x∈l↔l[i]?=some x):=by
 have hvl:=h.len H
 rw[Gh c229 _ _ sM]
 refine Jb ?_
 generalize hr:den P (.loop LD) _ _=r
 obtain⟨E',i,rfl,a7,hi,hiff,f1⟩:=Ged h hs hl (x:=x) uA uA uA uA hr
 have b0:=f1 0 dK
 have b1:=f1 1 dK
 have b6:=f1 6 dK
 simp only[Gc,Nat.reduceEqDiff,↓reduceIte]at b0 b1 b6
 refine⟨i,?_,hiff⟩
 by_cases c:i<l.length
 ·have c':decide ((i:Int)<(l.length:Int))=true:=Gz oM
  have hx:l[i]?=some l[i]:=Jr c
  obtain⟨b,o,i1,i2,i3⟩:=h.at hx
  have Yg:=i3 H (Keeps.refl _ _)
  by_cases ce:l[i]=x
  ·have ce':(l[i]==x)=true:=by simpa using ce
   have hm:x∈l:=hiff.2 (by rw[hx,ce])
   rw[Gz hm]
   exact W0
  ·have ce':(l[i]==x)=false:=by simpa using ce
   have hm:x∉l:=fun h=>ce (by grind)
   have GyC:=RV (H:=H) l[i]
   rw[Gw hm]
   exact W0
 ·have c':decide ((i:Int)<(l.length:Int))=false:=Gw oM
  have hm:x∉l:=fun h=>by grind
  rw[Gw hm]
  exact W0
end
end Go.Cs.Tryz

namespace Go.Cs
open Go
def Zt(kd j:Nat)(l:List Int):List Int:=l.zipIdx.map fun x=>if x.2<j∧Jh kd x.2=false then 0 else x.1
theorem Yn(kd j:Nat)(l:List Int):(Zt kd j l).length=l.length:=by simp[Zt]
theorem Uq(kd j:Nat)(l:List Int)(i:Nat):(Zt kd j l)[i]?=(l[i]?).map fun r=>if i<j∧Jh kd i=false then 0 else r:=by
 unfold Zt
 grind
theorem GaY(kd:Nat)(l:List Int):Zt kd 0 l=l:=by
 apply List.ext_getElem?
 intro i
 rw[Uq]
 grind
theorem Gb6{kd j:Nat}{l:List Int}{r:Int}(h:l[j]?=some r) (hr:r=0∨Jh kd j=true):Zt kd (j+1) l=Zt kd j l:=by
 apply List.ext_getElem?
 intro i
 rw[Uq,Uq]
 grind
theorem Gfe{kd j:Nat}{l:List Int}(hj:j<l.length)(hs:Jh kd j=false):(Zt kd j l).set j 0=Zt kd (j+1) l:=by
 apply List.ext_getElem?
 intro i
 rw[Uq,Ig]
 by_cases c:j=i
 ·subst c
  rw[if_pos rfl,if_pos (by rw[Yn];exact hj),Jr hj]
  simp[hs]
 ·rw[if_neg c,Uq]
  grind
def zf(j:Nat)(x:Ob):Ob:={x with refs:=Zt x.kd j x.refs}
def zA(x:Ob):Ob:=zf x.refs.length x
theorem Gdi(j:Nat)(x:Ob):NK (zf j) x:=⟨rfl,rfl,rfl,Yn _ _ _,rfl⟩
theorem Gdb{s:Hp}{a:Nat}{f g:Ob→Ob}(hf:∀x,(f x).addr=x.addr):(s.upd a f).upd a g=s.upd a fun x=>g (f x):=by
 unfold Hp.upd
 simp only[List.map_map]
 congr 1
 apply List.map_congr_left
 grind
theorem Yj{s:Hp}{a:Nat}{f g:Ob→Ob}(h:∀x∈s.objs,x.addr=a→f x=g x):s.upd a f=s.upd a g:=by
 unfold Hp.upd
 simp_all
theorem Ghc{s:Hp}{a:Nat}{f:Ob→Ob}(h:∀x∈s.objs,x.addr=a→f x=x):s.upd a f=s:=by
 have:s.upd a f=s.upd a id:=Yj h
 rw[this]
 unfold Hp.upd
 simp
def Cnd(l:List Int)(o:Ob):Prop:=(o.kd=1∨o.kd=2)∧¬(o.refs.getD 0 0≠0∧o.refs.getD 0 0∈l)
open Classical in
def Cz(l:List Int)(dn:Prop)(o o':Ob):Prop:=(o'=o∨(Cnd l o∧o'=zA o))∧(dn→Cnd l o→o'=zA o)
theorem Cz.kd{l:List Int}{dn:Prop}{o o':Ob}(h:Cz l dn o o'):o'.kd=o.kd∧o'.refs.length=o.refs.length:=by
 rcases h.1 with h|⟨-,h⟩
 ·rw[h];exact⟨rfl,rfl⟩
 ·rw[h];exact⟨rfl,Yn _ _ _⟩
theorem Cz.same{l:List Int}{dn:Prop}{o o':Ob}(h:Cz l dn o o')(hn:¬Cnd l o):o'=o:=by
 rcases h.1 with h|⟨h,-⟩
 ·exact h
 ·exact absurd h hn
end Go.Cs
namespace Go.Cs.Tryz
open Go Go.Cs A
abbrev ZA:Gn:=T [b 45 .lss 44 43] (S (J 45 (X 0)) (S (B 1 (T [m 46 44,m 12 46] (T [m 48 0,m 49 1,m 50 12,q3 51 66 48 49 50,m 47 51,ex 52 47 0,ex 53 47 1,m 13 52,m 14 53] (T [m 54 13,bk 55 .neq 54 0,m 56 55,gt 56 (f 57 2 7),gt 56 (l 58 1 57),gt 56 (m 59 12),gt 56 (q2 60 276 58 59),an 61 56 60] (I 61 (T [m 62 0,m 63 1,m 64 12,ca 65 128 [t 62,t 63,t 64,k 0]] (R [m 66 11,bk 67 .add 66 1,m 11 67]))))))) (R [bk 68 .add 44 1,m 44 68])))
def Gwg:Gj:=⟨70,0,T [n 6 0] (T [m 16 0,m 17 1,q2 18 65 16 17,m 15 18,ex 19 15 0,ex 20 15 1,e 7 (.new [i 0,i 0,i 0]),st 3 7 19,m 8 20] (S (T [f 21 2 7,l 22 1 21,bk 23 .neq 22 1,m 24 23,gt 24 (f 25 2 7),gt 24 (l 26 1 25),gt 24 (bk 27 .neq 26 2),an 28 24 27] (I 28 (Q [n 6 0]))) (S (T [m 30 0,m 31 1,ca 32 66 [t 30,t 31,k 0],m 29 32,ex 33 29 0,ex 34 29 1,m 9 33,m 10 34] (T [m 35 9,bk 36 .neq 35 0,m 37 36,gt 37 (m 38 2),gt 37 (m 39 9),gt 37 (e 40 (.KH (t 38) [t 39])),an 41 37 40] (I 41 (Q [n 6 0])))) (T [n 11 0] (S (T [f 42 0 7,l 43 1 42,n 44 0] (B 0 (W ZA))) (Q [m 69 11,m 6 69])))))),[r 6]⟩
theorem c222:P 222=some Gwg:=by kernel_rfl
end Go.Cs.Tryz
