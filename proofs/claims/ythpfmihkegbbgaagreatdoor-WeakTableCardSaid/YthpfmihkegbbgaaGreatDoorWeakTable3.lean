/- A part of the proof: WeakTable returns true for every input: Get after Put is the value, and changes no other key; Remove takes one entry out; Entries are just those that were put and not removed (P19.3, P19.7). At most 40 rows Conditions: none. -/
import Derived.Test.YthpfmihkegbbgaaGreatDoorWeakTable2
import Derived.Test.YthpfmihkegbbgaaGreatDoorProg
import Derived.KernelRfl
set_option linter.unusedVariables false
set_option linter.unusedSimpArgs false
set_option linter.defProp false
set_option maxRecDepth 100000
namespace Go.Cs.Tryz
open Go Go.Cs A
abbrev WH:Gq:=S (T [m 223 19,f 224 6 1,l 225 1 224,le 226 225,b 227 .lss 223 226,m 228 227,gt 228 (m 229 19),gt 228 (bk 230 .lss 229 8),an 231 228 230] (J 231 (X 8))) (S (B 9 (T [m 234 9,f 235 6 1,l 236 1 235,m 237 19,x 238 1 236 237,l 239 1 238,e 240 (.conv .i64 (t 239)),bk 241 .rem 240 100,q2 242 59 234 241,m 20 242] (S (D [⟨m 243 9,0,0,0⟩,⟨z 244 243,1,0,0⟩,⟨f 245 2 244,2,0,0⟩,⟨l 246 1 245,3,1,0⟩,⟨m 247 20,4,0,0⟩,⟨q2 248 65 246 247,5,3,0⟩,⟨m 249 9,6,0,0⟩,⟨z 250 249,7,0,0⟩,⟨f 251 0 250,8,0,0⟩,⟨l 252 1 251,9,1,0⟩,⟨m 253 20,10,0,0⟩,⟨q2 254 66 252 253,11,3,1⟩,⟨b 255 .neq 248 254,12,0,2⟩]) (I 255 (Q [e 2 (.JR (c .nilPtr))]))))) (R [m 232 19,bk 233 .add 232 1,m 19 233]))
abbrev Gau:Gq:=S (T [m 192 18,f 193 5 1,l 194 1 193,le 195 194,b 196 .lss 192 195,m 197 196,gt 197 (m 198 18),gt 197 (bk 199 .lss 198 20),an 200 197 199] (J 200 (X 6))) (S (B 7 (S (D [⟨m 211 9,8,0,0⟩,⟨f 212 5 1,9,0,0⟩,⟨l 213 1 212,10,1,0⟩,⟨m 214 18,11,0,0⟩,⟨x 215 2 213 214,12,0,0⟩,⟨e 216 (.NC 2 1 (t 215) (k 1)),13,0,0⟩,⟨l 217 1 216,14,1,0⟩,⟨e 218 (.conv .i64 (t 217)),15,0,0⟩,⟨bk 219 .rem 218 100,16,0,0⟩,⟨q2 220 59 211 219,17,3,0⟩,⟨m 203 9,0,0,0⟩,⟨f 204 5 1,1,0,0⟩,⟨l 205 1 204,2,1,0⟩,⟨m 206 18,3,0,0⟩,⟨x 207 2 205 206,4,0,0⟩,⟨e 208 (.NC 2 1 (t 207) (k 0)),5,0,0⟩,⟨l 209 1 208,6,1,0⟩,⟨e 210 (.conv .i64 (t 209)),7,0,0⟩,⟨q3 221 64 203 210 220,18,3,1⟩,⟨no 222 221,19,0,2⟩]) (I 222 (Q [e 2 (.JR (c .nilPtr))])))) (R [m 201 18,bk 202 .add 201 1,m 18 202]))
abbrev Gaw:Gq:=S (T [m 136 13,f 137 4 1,l 138 1 137,le 139 138,b 140 .lss 136 139,m 141 140,gt 141 (m 142 13),gt 141 (bk 143 .lss 142 120),an 144 141 143] (J 144 (X 4))) (S (B 5 (T [f 147 4 1,l 148 1 147,m 149 13,x 150 3 148 149,lg 151 3 150,e 14 (.new [.int .u8 0,.int .u8 0,.int .u8 0]),st 3 14 151] (T [m 152 9,e 153 (.NC 3 1 (t 14) (k 0)),l 154 1 153,e 155 (.conv .i64 (t 154)),bk 156 .rem 155 100,q2 157 59 152 156,m 15 157] (T [m 159 9,z 160 159,f 161 2 160,l 162 1 161,m 163 15,q2 164 62 162 163,m 158 164,ex 165 158 0,ex 166 158 1,e 16 (.new [i 0,i 0,i 0]),st 3 16 165,m 17 166] (S (D [⟨m 167 17,0,0,0⟩,⟨bk 168 .eql 167 0,1,0,0⟩,⟨m 169 168,2,0,0⟩,⟨gt 169 (f 170 0 16),3,0,0⟩,⟨gt 169 (l 171 1 170),4,1,0⟩,⟨gt 169 (bk 172 .gtr 171 0),5,0,0⟩,⟨an 173 169 172,6,0,0⟩,⟨m 174 173,7,0,0⟩,⟨gt 174 (m 183 9),16,0,0⟩,⟨gt 174 (e 184 (.NC 3 1 (t 14) (k 2))),17,0,0⟩,⟨gt 174 (l 185 1 184),18,1,0⟩,⟨gt 174 (e 186 (.conv .i64 (t 185))),19,0,0⟩,⟨gt 174 (bk 187 .rem 186 100),20,0,0⟩,⟨gt 174 (q2 188 59 183 187),21,3,0⟩,⟨gt 174 (m 175 9),8,0,0⟩,⟨gt 174 (m 176 15),9,0,0⟩,⟨gt 174 (e 177 (.NC 3 1 (t 14) (k 1))),10,0,0⟩,⟨gt 174 (l 178 1 177),11,1,0⟩,⟨gt 174 (e 179 (.conv .i64 (t 178))),12,0,0⟩,⟨gt 174 (f 180 0 16),13,0,0⟩,⟨gt 174 (l 181 1 180),14,1,0⟩,⟨gt 174 (b 182 .rem 179 181),15,0,0⟩,⟨gt 174 (q4 189 63 175 176 182 188),22,3,1⟩,⟨gt 174 (no 190 189),23,0,2⟩,⟨an 191 174 190,24,0,2⟩]) (I 191 (Q [e 2 (.JR (c .nilPtr))]))))))) (R [m 145 13,bk 146 .add 145 1,m 13 146]))
abbrev XW:Gq:=S (T [m 103 11,f 104 3 1,l 105 1 104,le 106 105,b 107 .lss 103 106,m 108 107,gt 108 (m 109 11),gt 108 (bk 110 .lss 109 20),an 111 108 110] (J 111 (X 2))) (S (B 3 (T [m 114 9,f 115 3 1,l 116 1 115,m 117 11,x 118 1 116 117,l 119 1 118,e 120 (.conv .i64 (t 119)),bk 121 .rem 120 100,q2 122 59 114 121,m 12 122] (S (D [⟨m 123 9,0,0,0⟩,⟨z 124 123,1,0,0⟩,⟨f 125 2 124,2,0,0⟩,⟨l 126 1 125,3,1,0⟩,⟨m 127 12,4,0,0⟩,⟨q2 128 60 126 127,5,3,0⟩,⟨m 129 9,6,0,0⟩,⟨z 130 129,7,0,0⟩,⟨f 131 0 130,8,0,0⟩,⟨l 132 1 131,9,1,0⟩,⟨m 133 12,10,0,0⟩,⟨q2 134 61 132 133,11,3,1⟩,⟨b 135 .neq 128 134,12,0,2⟩]) (I 135 (Q [e 2 (.JR (c .nilPtr))]))))) (R [m 112 11,bk 113 .add 112 1,m 11 113]))
abbrev Gaq:Gq:=S (T [m 75 10,f 76 2 1,l 77 1 76,le 78 77,b 79 .lss 75 78,m 80 79,gt 80 (m 81 10),gt 80 (bk 82 .lss 81 40),an 83 80 82] (J 83 (X 0))) (S (B 1 (S (D [⟨f 87 2 1,1,0,0⟩,⟨l 88 1 87,2,1,0⟩,⟨m 89 10,3,0,0⟩,⟨x 90 4 88 89,4,0,0⟩,⟨lg 91 4 90,5,1,0⟩,⟨q1 92 58 91,6,3,0⟩,⟨m 86 9,0,0,0⟩,⟨f 93 2 1,7,0,0⟩,⟨l 94 1 93,8,1,0⟩,⟨m 95 10,9,0,0⟩,⟨x 96 4 94 95,10,0,0⟩,⟨e 97 (.NC 4 1 (t 96) (k 3)),11,0,0⟩,⟨l 98 1 97,12,1,0⟩,⟨e 99 (.conv .i64 (t 98)),13,0,0⟩,⟨bk 100 .rem 99 3,14,0,0⟩,⟨q3 101 57 86 92 100,15,3,1⟩,⟨no 102 101,16,0,2⟩]) (I 102 (Q [e 2 (.JR (c .nilPtr))])))) (R [m 84 10,bk 85 .add 84 1,m 10 85]))
def C18:Gl:=⟨257,0,T [bo 1 0,e 2 (.JR (c .nilPtr))] (S (D [⟨f 21 0 1,0,0,0⟩,⟨l 22 1 21,1,1,0⟩,⟨e 23 (.conv .i64 (t 22)),2,0,0⟩,⟨bk 24 .rem 23 23,3,0,0⟩,⟨e 25 (.bin .add (k 2) (t 24)),4,0,0⟩,⟨f 26 1 1,5,0,0⟩,⟨l 27 1 26,6,1,0⟩,⟨e 28 (.conv .i64 (t 27)),7,0,0⟩,⟨bk 29 .rem 28 4,8,0,0⟩,⟨e 30 (.bin .add (k 1) (t 29)),9,0,0⟩,⟨m 3 25,10,0,0⟩,⟨m 4 30,11,0,0⟩]) (T [m 32 3,q1 33 11 32,m 31 33,ex 34 31 0,ex 35 31 1,m 5 34,m 6 35] (T [m 37 4,q1 38 12 37,m 36 38,ex 39 36 0,ex 40 36 1,m 7 39,m 8 40] (S (T [m 41 5,e 42 (.eqv false 1 (t 41) (c .nilPtr)),m 43 42,gf 43 (m 44 7),gf 43 (e 45 (.eqv false 1 (t 44) (c .nilPtr))),or 46 43 45,m 47 46,gf 47 (m 48 6),gf 47 (bk 49 .neq 48 0),or 50 47 49,m 51 50,gf 51 (m 52 8),gf 51 (bk 53 .neq 52 0),or 54 51 53] (I 54 (Q [e 2 (.JR (c .nilPtr))]))) (T [m 55 5,m 56 7,e 57 (.build [.nilPtr,.nilPtr,.nilPtr,.nilPtr] [(0,1,t 55),(1,1,t 56)]),bo 58 57,m 9 58] (T [m 60 9,m 61 3,q1 62 55 61,m 59 62,ex 63 59 0,ex 64 59 1,z 65 60,f 66 2 65,st 1 66 63] (T [m 68 9,m 69 4,q1 70 56 69,m 67 70,ex 71 67 0,ex 72 67 1,z 73 68,f 74 3 73,st 1 74 71] (S (T [n 10 0] (B 0 (W Gaq))) (S (T [n 11 0] (B 2 (W XW))) (S (T [n 13 0] (B 4 (W Gaw))) (S (T [n 18 0] (B 6 (W Gau))) (S (T [n 19 0] (B 8 (W WH))) (Q [m 256 9,m 2 256]))))))))))))),[r 2]⟩
theorem c18:P 18=some C18:=by kernel_rfl
end Go.Cs.Tryz
namespace Go.Cs
open Go
def TS(n:Nat)(rs:List (List CV)):Prop:=∀r∈rs,∃zs:List Int,zs.length=n∧r=Y0 zs∧∀z∈zs,0≤z∧z≤255
theorem TS.at{n:Nat}{rs:List (List CV)}(h:TS n rs){i:Nat}{r:List CV}(hi:rs[i]?=some r):∃zs:List Int,zs.length=n∧r=Y0 zs∧∀z∈zs,0≤z∧z≤255:=h r (JV hi)
theorem Hp.OD{s:Hp}(a i to:Int):(s.setRef a i to).1.blk=s.blk∧(s.setRef a i to).1.born=s.born:=by
 unfold Hp.setRef
 split
 ·split
  ·split<;>exact⟨rfl,rfl⟩
  ·exact⟨rfl,rfl⟩
 ·exact⟨rfl,rfl⟩
def Bare(s:Hp)(R:Rt):Prop:=(∀o∈s.objs,∀x∈o.refs,x=0)∧(∀v∈R.vals,v=0)∧s.Lo
def E_(s:Hp)(R:Rt):Prop:=(∀o∈s.objs,∀x∈o.refs,x=0∨s.has x=true)∧(∀v∈R.vals,v=0∨s.has v=true)∧s.Lo
theorem Bare.snd{s:Hp}{R:Rt}(h:Bare s R):E_ s R:=⟨fun o ho x hx=>.inl (h.1 o ho x hx),fun v hv=>.inl (h.2.1 v hv),h.2.2⟩
theorem Hp.Lo.kill{s:Hp}(h:s.Lo)(a:Int):(s.kill a).1.Lo:=by
 unfold Hp.kill
 split
 ·exact⟨h.1,fun x hx=>h.2 x (Hp.Jw.1 hx).1⟩
 ·exact h
theorem Hp.Lo.upd{s:Hp}(h:s.Lo){a:Nat}{f:Ob→Ob}(t:∀x∈s.objs,x.addr=a→KO f x):(s.upd a f).Lo:=by
 refine⟨h.1,fun x hx=>?_⟩
 simp only[Hp.upd,VA]at hx
 obtain⟨y,hy,rfl⟩:=hx
 split
 ·rename_i c
  rw[(t y hy c).addr];exact h.2 y hy
 ·exact h.2 y hy
theorem Bare.kill{s:Hp}{R:Rt}(h:Bare s R)(a:Int):Bare (s.kill a).1 R:=by
 refine⟨fun o ho=>h.1 o ?_,h.2.1,h.2.2.kill a⟩
 unfold Hp.kill at ho
 split at ho
 ·exact(Hp.Jw.1 ho).1
 ·exact ho
theorem E_.upd{s:Hp}{R:Rt}(h:E_ s R){a:Nat}{f:Ob→Ob}(t:∀x∈s.objs,x.addr=a→KO f x)(hf:∀x∈s.objs,∀y∈(f x).refs,y∈x.refs∨y=0∨s.has y=true):E_ (s.upd a f) R:=by
 have hh:=Hp.Gdo (s:=s) t
 refine⟨fun o ho x hx=>?_,fun v hv=>by rw[hh];exact h.2.1 v hv,h.2.2.upd t⟩
 rw[hh]
 simp only[Hp.upd,VA]at ho
 obtain⟨y,hy,rfl⟩:=ho
 split at hx
 ·rcases hf y hy x hx with h1|h1
  ·exact h.1 y hy x h1
  ·exact h1
 ·exact h.1 y hy x hx
theorem E_.setRef{s:Hp}{R:Rt}(h:E_ s R)(a i to:Int):E_ (s.setRef a i to).1 R:=by
 unfold Hp.setRef
 split
 ·split
  ·split
   ·rename_i c
    exact h.upd (fun x _ _=>Ui _ _ x) fun x hx y hy=>by
     grind
   ·exact h
  ·exact h
 ·exact h
theorem E_.JC{s:Hp}{R:Rt}(h:E_ s R)(a:Int)(v:Bool):E_ (s.JC a v).1 R:=by
 unfold Hp.JC
 split
 ·exact h.upd (fun x _ _=>⟨rfl,rfl,rfl,rfl,rfl⟩) fun x hx y hy=>.inl hy
 ·exact h
theorem Cn.kill{sm:Prop}{nb m:Nat}{s:Hp}(h:Cn sm nb m s)(a:Int):Cn sm nb m (s.kill a).1:=by
 unfold Hp.kill
 split
 ·exact⟨h.len,h.us,fun q x hx=>h.sml q x (Hp.Jw.1 hx).1⟩
 ·exact h
theorem Cn.upd{sm:Prop}{nb m:Nat}{s:Hp}(h:Cn sm nb m s){a:Nat}{f:Ob→Ob}(t:∀x∈s.objs,x.addr=a→KO f x):Cn sm nb m (s.upd a f):=by
 refine⟨h.len,h.us,fun q x hx=>?_⟩
 simp only[Hp.upd,VA]at hx
 obtain⟨y,hy,rfl⟩:=hx
 have h1:=h.sml q y hy
 split
 ·rename_i c
  have tt:=t y hy c
  have es:(f y).size=y.size:=by unfold Ob.size;rw[tt.nr,tt.nd]
  rw[tt.addr,es];exact h1
 ·exact h1
theorem Cn.setRef{sm:Prop}{nb m:Nat}{s:Hp}(h:Cn sm nb m s)(a i to:Int):Cn sm nb m (s.setRef a i to).1:=by
 unfold Hp.setRef
 split
 ·split
  ·split
   ·exact h.upd fun x _ _=>Ui _ _ x
   ·exact h
  ·exact h
 ·exact h
theorem Cn.JC{sm:Prop}{nb m:Nat}{s:Hp}(h:Cn sm nb m s)(a:Int)(v:Bool):Cn sm nb m (s.JC a v).1:=by
 unfold Hp.JC
 split
 ·exact h.upd fun x _ _=>⟨rfl,rfl,rfl,rfl,rfl⟩
 ·exact h
def VX(sm:Prop)(nb m:Nat)(s:Hp)(R:Rt):Prop:=Bare s R∧Cn sm nb m s
def Bt(sm:Prop)(nb m:Nat)(s:Hp)(R:Rt):Prop:=E_ s R∧Cn sm nb m s
structure Ns(Q:Hp→Rt→Prop)(c0:Nat)(H0:Gb)(sb:Nat)(n:Nat)(H:Gb):Prop where
 ex:∃s R D,DR H sb s R D∧(∀c,D.own sb c→c0≤c)∧s.born≤n∧Q s R
 len:c0≤H.length
 keep:∀c,c<c0→H[c]?=H0[c]?
theorem Ns.step{Q Q':Hp→Rt→Prop}{c0 n n':Nat}{H0 H H':Gb}{sb:Nat}{s':Hp}{R':Rt}{D D':UQ}(a:Ns Q c0 H0 sb n H)(hd:∀c,D.own sb c→c0≤c)(g:N_ sb D H D' H')(w:DR H' sb s' R' D')(hb:s'.born≤n')(hq:Q' s' R'):Ns Q' c0 H0 sb n' H' where
 ex:=⟨s',R',D',w,fun c h=>by
  by_cases hc:c<H.length
  ·exact hd c (g.own c hc h)
  ·have:=a.len;omega,hb,hq⟩
 len:=Jm a.len g.len
 keep:=fun c hc=>by
  rw[g.keep c (by have:=a.len;omega) fun h=>by have:=hd c h;omega,a.keep c hc]
theorem Ns.gr{Q:Hp→Rt→Prop}{c0 n:Nat}{H0 H H':Gb}{sb:Nat}(a:Ns Q c0 H0 sb n H)(g:Gr H H'):Ns Q c0 H0 sb n H':=by
 obtain⟨s,R,D,w,hd,hb,hq⟩:=a.ex
 exact a.step hd (N_.gr g) ⟨w.m.gr g,w.k,w.f,w.kr⟩ hb hq
theorem Ns.snd{c0 n:Nat}{H0 H:Gb}{sb:Nat}{sm:Prop}{nb m:Nat}(a:Ns (VX sm nb m) c0 H0 sb n H):Ns (Bt sm nb m) c0 H0 sb n H:=by
 obtain⟨s,R,D,w,hd,hb,hq⟩:=a.ex
 exact⟨⟨s,R,D,w,hd,hb,hq.1.snd,hq.2⟩,a.len,a.keep⟩
theorem Sl.low{H0 H:Gb}{v:CV}{e c0:Nat}{rs:List (List CV)}(h:Sl H0 v e rs)(hv:Gn v<c0)(hk:∀c,c<c0→H[c]?=H0[c]?):Sl H v e rs:=
 h.mono fun b k hb _ he=>by grind
theorem Sl.row{H:Gb}{v:CV}{n:Nat}{rs:List (List CV)}(h:Sl H v n rs)(hn:0<n){j:Nat}{zs:List Int}(hi:rs[j]?=some (Y0 zs)):
  ∃o,(∀X,JU n v (.i j) X=some (.ptr (Gn v) o,X))∧YV n v (.i j)=okV (.ptr (Gn v) o)∧∀Y:Gb,Y[Gn v]?=H[Gn v]?→Fw Y[Gn v]? o n=some (Y0 zs)∧∀i x,zs[i]?=some x→ld Y[Gn v]? (o+i)=some (.int .u8 x):=by
 rcases h with⟨rfl,-⟩|⟨b,f,c,t,k,rfl,h1,h2,h3⟩
 ·simp at hi
 ·have hl:=Gf hi
  obtain⟨q1,q2⟩:=h3 j _ hi
  refine⟨f+j*n,fun X=>?_,?_,fun Y hY=>?_⟩
  ·rw[Uq oM];simp;rfl
  ·rw[Yk oM];simp;rfl
  ·have hlen:f+j*n+n≤k.cells.length:=by
    grind
   have hYb:Y[b]?=some k:=hY.trans h1
   show Fw Y[b]? _ _=_∧∀i x,_→ld Y[b]? _=_
   rw[hYb]
   obtain⟨cs,md,z⟩:=k
   have hx:∀i x,zs[i]?=some x→cs[f+j*n+i]?=some (.int .u8 x):=fun i x hx=>by
    have:=congrArg (fun r=>r[i]?) q1
    have hin:i<n:=by have:=Gf hx;simp[Y0]at q2;omega
    simp only[SF,if_pos hin,BQ,Y0,K4,hx,Option.map_some]at this
    exact this
   rcases h2 with rfl|rfl
   ·exact⟨by rw[Ur,if_pos hlen,q1],fun i x h=>by rw[Qm];exact hx i x h⟩
   ·exact⟨by rw[GbR,if_pos hlen,q1],fun i x h=>by rw[Gk1];exact hx i x h⟩
end Go.Cs
namespace Go.Cs.Tryz
open Go Go.Cs
section
variable {H0 H : Gb} {sb c0 b1 : Nat} {bl mu : Int} {v2 v3 v4 v5 v6 : CV} {sm : Prop} {nb m : Nat}
theorem Gj3{n0:Nat}(hn0:n0≤1000)(a:Ns (VX sm nb m) c0 H0 sb n0 H)(hb1:b1<c0)(hB:H0[b1]?=some ⟨[.int .u8 bl,.int .u8 mu,v2,v3,v4,v5,v6],.rw,0⟩)
  {rs:List (List CV)} (hs:Sl H0 v2 4 rs) (hv:Gn v2<c0) (hu:TS 4 rs) (hsm:sm→∀zs,Y0 zs∈rs→zs.getD 0 0 % 8≠7)
  {E0:Env} (h1:E0 1=.ptr b1 0) (h9:E0 9=.ptr sb 0) (h10:E0 10=.i 0) {r:Option (CX×Env×Gb)} (hr:den P (.loop Gaq) E0 H=r):
  ∃E' H',r=some (.exit 0,E',H')∧Ns (VX sm nb (m+rs.length)) c0 H0 sb (n0+40) H'∧∀t,t∉wr Gaq→E' t=E0 t:=by
 obtain⟨x',E',H',e,-,⟨rfl,a'⟩,fr⟩:=Gs (p:=P) (c:=Gaq) (E0:=E0) (H0:=H)
  (fun q E H'=>∃j:Nat,E 10=.i j∧(j≤40∧j≤rs.length)∧q=40-j∧Ns (VX sm nb (m+j)) c0 H0 sb (n0+j) H')
  (fun x E' H'=>x=.exit 0∧Ns (VX sm nb (m+rs.length)) c0 H0 sb (n0+40) H') (by
   rintro q E H' hE ⟨j,e10,hj,rfl,aj⟩
   have e1:=(hE 1 dK).trans h1
   have e9:=(hE 9 dK).trans h9
   have tB:H'[b1]?=_:=(aj.keep b1 hb1).trans hB
   have hs':=hs.low hv aj.keep
   have hl:=hs'.len H'
   have done:∀i,i≤40∧i≤rs.length→Ns (VX sm nb (m+i)) c0 H0 sb (n0+i) H'→Ns (VX sm nb (m+rs.length)) c0 H0 sb (n0+40) H':=fun i hm am=>by
    obtain⟨s,R,D,w,hd,hb,hq⟩:=am.ex
    exact⟨⟨s,R,D,w,hd,oM,hq.1,hq.2.mono oM⟩,am.len,am.keep⟩
   by_cases c:j<rs.length
   ·have c':decide ((j:Int)<(rs.length:Int))=true:=G7 oM
    by_cases c2:j<40
    ·have c2':decide ((j:Int)<40)=true:=G7 oM
     obtain⟨row,hrow⟩:∃row,rs[j]?=some row:=⟨_,JG c⟩
     obtain⟨zs,hz,rfl,hzb⟩:=hu.at hrow
     match zs,hz with
     |[x0,x1,x2,x3],_=>
      have z0:=hzb x0 sM
      have z1:=hzb x1 sM
      have z2:=hzb x2 sM
      have z3:=hzb x3 sM
      obtain⟨vo,hml,hmi,XH⟩:=hs'.row oM hrow
      obtain⟨l4,l3'⟩:=XH H' rfl
      have l3:=l3' 3 x3 rfl
      obtain⟨rr,dd,kk,X1,s1,g1,hval,GpZ⟩:=Gam (H:=H') (x3:=x3) z0 z1 z2
      obtain⟨s,R,D,w,hd,hb,hq⟩:=aj.ex
      have w1:DR X1 sb s R D:=⟨w.m.gr g1,w.k,w.f,w.kr⟩
      obtain⟨s',H2,D2,p1,p2,p3,p4,p5,p6,p7,p8,p9⟩:=Ww w1 oM (sp:=x3 % 3) hval oM
      have k1:∀c,c<c0→X1[c]?=H'[c]?:=fun c hc=>g1.keep c (by have:=aj.len;omega) fun h=>h
      have tB1:X1[b1]?=_:=(k1 b1 hb1).trans tB
      have l31:=(XH X1 (k1 _ hv)).2 3 x3 rfl
      have a2:Ns (VX sm nb (m+(j+1))) c0 H0 sb (n0+(j+1)) H2:=(aj.gr g1).step hd p3 ⟨p2,p4,p5,w.kr⟩ oM ⟨⟨fun o ho x hx=>by
       rcases p7 o ho with h|⟨_,_,_,_,_,rfl⟩
       ·exact hq.1.1 o h x hx
       ·exact(List.mem_replicate.1 hx).2,hq.1.2.1,p8 hq.1.2.2⟩,p9 sm nb (m+j) (fun q=>GpZ (hsm q _ (JV hrow))) hq.2⟩
      have w3:IntKind.i64.wrap x3=x3:=Gh oM
      have e3:x3.tmod 3=x3 % 3:=Int.tmod_eq_emod_of_nonneg oM
      have wj:IntKind.i64.wrap ((j:Int)+1)=((j+1:Nat):Int):=Gh oM
      unfold Y0 at s1 l4
      unfold Jb at s1 p1
      simp only[List.map_cons,List.map_nil]at s1 l4
      apply Gp (k':=40-(j+1))
      ·refine W22 e1 e9 e10 tB hl c' c2' hmi l4 s1 tB1 @EO @Dq @AL @Bg l3 l31 w3 @Qn e3 p1 wj ?_
       rfl
      ·omega
      ·exact⟨j+1,uA,oM,rfl,a2⟩
    ·have c2':decide ((j:Int)<40)=false:=G5 oM
     apply Gj (x:=.exit 0)
     ·refine GH ?_
      rfl
     ·simp
     ·exact⟨rfl,done j hj aj⟩
   ·have c':decide ((j:Int)<(rs.length:Int))=false:=G5 oM
    apply Gj (x:=.exit 0)
    ·refine GH ?_
     rfl
    ·simp
    ·exact⟨rfl,done j hj aj⟩) _ ⟨0,h10,oM,rfl,by simpa using a⟩
 grind
theorem Gja{n0:Nat}(hn0:n0≤1000)(a:Ns (VX sm nb m) c0 H0 sb n0 H)(hb1:b1<c0)(hB:H0[b1]?=some ⟨[.int .u8 bl,.int .u8 mu,v2,v3,v4,v5,v6],.rw,0⟩)
  {rs:List (List CV)} (hs:Sl H0 v3 1 rs) (hv:Gn v3<c0) (hu:TS 1 rs)
  {E0:Env} (h1:E0 1=.ptr b1 0) (h9:E0 9=.ptr sb 0) (h11:E0 11=.i 0) {r:Option (CX×Env×Gb)} (hr:den P (.loop XW) E0 H=r):
  ∃E' H',r=some (.exit 2,E',H')∧Ns (VX sm nb m) c0 H0 sb n0 H'∧∀t,t∉wr XW→E' t=E0 t:=by
 obtain⟨x',E',H',e,-,⟨rfl,a'⟩,fr⟩:=Gs (p:=P) (c:=XW) (E0:=E0) (H0:=H)
  (fun q E H'=>∃j:Nat,E 11=.i j∧j≤20∧q=20-j∧Ns (VX sm nb m) c0 H0 sb n0 H')
  (fun x E' H'=>x=.exit 2∧Ns (VX sm nb m) c0 H0 sb n0 H') (by
   rintro q E H' hE ⟨j,e11,hj,rfl,aj⟩
   have e1:=(hE 1 dK).trans h1
   have e9:=(hE 9 dK).trans h9
   have tB:H'[b1]?=_:=(aj.keep b1 hb1).trans hB
   have hs':=hs.low hv aj.keep
   have hl:=hs'.len H'
   by_cases c:j<rs.length
   ·have c':decide ((j:Int)<(rs.length:Int))=true:=G7 oM
    by_cases c2:j<20
    ·have c2':decide ((j:Int)<20)=true:=G7 oM
     obtain⟨row,hrow⟩:∃row,rs[j]?=some row:=⟨_,JG c⟩
     obtain⟨zs,hz,rfl,hzb⟩:=hu.at hrow
     match zs,hz with
     |[x0],_=>
      have z0:=hzb x0 sM
      obtain⟨vo,hml,hmi,XH⟩:=hs'.row oM hrow
      have l0:=(XH H' rfl).2 0 x0 rfl
      rw[Nat.add_zero]at l0
      obtain⟨s,R,D,w,hd,hb,hq⟩:=aj.ex
      have w3:IntKind.i64.wrap x0=x0:=Gh oM
      have e3:x0.tmod 100=x0 % 100:=Int.tmod_eq_emod_of_nonneg oM
      obtain⟨ad,q1,q2,q3,q4⟩:=A8 w.m w.k (n:=x0 % 100) oM
      obtain⟨H1,D1,p1,m1,g1⟩:=w.m.TV (Ghc w.m.rh w.k ad)
      obtain⟨H2,p2,m2,g2⟩:=m1.OH (Gej m1.ph w.k ad oM)
      have t0:=w.m.top
      have t1:=m1.SK g1
      rw[g1.same.1]at p2
      have e:((s.kill ad).2 != (s.kill ad).2)=false:=by simp
      have kk:(s.kill ad).1.Ok:=w.k.kill ad
      have ff:(s.kill ad).1.Fz:=by unfold Hp.kill;split<;>exact w.f
      have bb:(s.kill ad).1.born≤n0:=by unfold Hp.kill;split<;>exact hb
      have a2:Ns (VX sm nb m) c0 H0 sb n0 H2:=aj.step hd (g1.trans g2) ⟨m2,kk,ff,w.kr⟩ bb ⟨hq.1.kill ad,hq.2.kill ad⟩
      have wj:IntKind.i64.wrap ((j:Int)+1)=((j+1:Nat):Int):=Gh oM
      apply Gp (k':=20-(j+1))
      ·refine WX ?_
       rfl
      ·omega
      ·exact⟨j+1,uA,oM,rfl,a2⟩
    ·have c2':decide ((j:Int)<20)=false:=G5 oM
     apply Gj (x:=.exit 2)
     ·refine GH ?_
      rfl
     ·simp
     ·exact⟨rfl,aj⟩
   ·have c':decide ((j:Int)<(rs.length:Int))=false:=G5 oM
    apply Gj (x:=.exit 2)
    ·refine GH ?_
     rfl
    ·simp
    ·exact⟨rfl,aj⟩) _ ⟨0,h11,oM,rfl,a⟩
 grind
theorem Giw{n0:Nat}(hn0:n0≤1000)(a:Ns (Bt sm nb m) c0 H0 sb n0 H)(hb1:b1<c0)(hB:H0[b1]?=some ⟨[.int .u8 bl,.int .u8 mu,v2,v3,v4,v5,v6],.rw,0⟩)
  {rs:List (List CV)} (hs:Sl H0 v4 3 rs) (hv:Gn v4<c0) (hu:TS 3 rs)
  {E0:Env} (h1:E0 1=.ptr b1 0) (h9:E0 9=.ptr sb 0) (h13:E0 13=.i 0) {r:Option (CX×Env×Gb)} (hr:den P (.loop Gaw) E0 H=r):
  ∃E' H',r=some (.exit 4,E',H')∧Ns (Bt sm nb m) c0 H0 sb n0 H'∧∀t,t∉wr Gaw→E' t=E0 t:=by
 obtain⟨x',E',H',e,-,⟨rfl,a'⟩,fr⟩:=Gs (p:=P) (c:=Gaw) (E0:=E0) (H0:=H)
  (fun q E H'=>∃j:Nat,E 13=.i j∧j≤120∧q=120-j∧Ns (Bt sm nb m) c0 H0 sb n0 H')
  (fun x E' H'=>x=.exit 4∧Ns (Bt sm nb m) c0 H0 sb n0 H') (by
   rintro q E H' hE ⟨j,e13,hj,rfl,aj⟩
   have e1:=(hE 1 dK).trans h1
   have e9:=(hE 9 dK).trans h9
   have tB:H'[b1]?=_:=(aj.keep b1 hb1).trans hB
   have hs':=hs.low hv aj.keep
   have hl:=hs'.len H'
   have wj:IntKind.i64.wrap ((j:Int)+1)=((j+1:Nat):Int):=Gh oM
   by_cases c:j<rs.length
   ·have c':decide ((j:Int)<(rs.length:Int))=true:=G7 oM
    by_cases c2:j<120
    ·have c2':decide ((j:Int)<120)=true:=G7 oM
     obtain⟨row,hrow⟩:∃row,rs[j]?=some row:=⟨_,JG c⟩
     obtain⟨zs,hz,rfl,hzb⟩:=hu.at hrow
     match zs,hz with
     |[x0,x1,x2],_=>
      have z0:=hzb x0 sM
      have z1:=hzb x1 sM
      have z2:=hzb x2 sM
      obtain⟨vo,hml,hmi,XH⟩:=hs'.row oM hrow
      obtain⟨l4,-⟩:=XH H' rfl
      unfold Y0 at l4
      simp only[List.map_cons,List.map_nil]at l4
      obtain⟨Y,hY⟩:∃Y:Gb,Y=H'++[⟨[.int .u8 x0,.int .u8 x1,.int .u8 x2],.rw,0⟩]:=⟨_,rfl⟩
      have gY:Gr H' Y:=by rw[hY];exact Gr.app _ _
      have lY:Y[H'.length]?=some ⟨[.int .u8 x0,.int .u8 x1,.int .u8 x2],.rw,0⟩:=by rw[hY];simp
      obtain⟨s,R,D,w,hd,hb,hq⟩:=aj.ex
      have mY:=w.m.gr gY
      have w0:IntKind.i64.wrap x0=x0:=Gh oM
      have w1:IntKind.i64.wrap x1=x1:=Gh oM
      have w2:IntKind.i64.wrap x2=x2:=Gh oM
      have e30:x0.tmod 100=x0 % 100:=Int.tmod_eq_emod_of_nonneg oM
      have e32:x2.tmod 100=x2 % 100:=Int.tmod_eq_emod_of_nonneg oM
      obtain⟨ad,q1,q2,q3,q4⟩:=A8 mY w.k (n:=x0 % 100) oM
      have tY:=mY.top
      obtain⟨X1,s1,g1⟩:=GdN mY.rh w.k ad
      have m1:=mY.gr g1
      have GJ:=Gr.get g1 lY
      obtain⟨sr,sd,sk,se,hsh,hse⟩:∃sr sd sk se,s.JO ad=(Jb sr sd sk,se)∧(se=0→0≤sr∧sr≤15):=by
       unfold Hp.JO
       cases ho:s.obj ad with
       |none=>grind
       |some o=>
        have:=(w.k.ob o (Hp.GV ho).1).nr
        grind
      rw[hsh]at s1
      obtain⟨Z,hZ⟩:∃Z:Gb,Z=X1++[⟨[.i sr,.i sd,.i sk],.rw,0⟩]:=⟨_,rfl⟩
      have gZ:Gr X1 Z:=by rw[hZ];exact Gr.app _ _
      have lZ:Z[X1.length]?=some ⟨[.i sr,.i sd,.i sk],.rw,0⟩:=by rw[hZ];simp
      have lZ1:=Gr.get gZ GJ
      have mZ:=m1.gr gZ
      have Gbc:Gr H' Z:=(gY.trans g1).trans gZ
      have aZ:=aj.gr Gbc
      unfold Jb at s1
      by_cases c5:se=0
      ·have c5':(se==0)=true:=by simp[c5]
       obtain⟨r0,r1⟩:=hse c5
       by_cases c6:0<sr
       ·have c6':decide (0<sr)=true:=G7 c6
        obtain⟨to,u1,u2,u3,u4⟩:=A8 mZ w.k (n:=x2 % 100) oM
        have e31:x1.tmod sr=x1 % sr:=Int.tmod_eq_emod_of_nonneg oM
        have hnz:¬sr=0:=by omega
        have hw:DR Z sb s R D:=⟨mZ,w.k,w.f,w.kr⟩
        obtain⟨H2,D2,p1,m2,g2⟩:=GbT hw ad (x1 % sr) to oM oM
        have kk:=w.k.setRef ad (x1 % sr) to
        obtain⟨eb,en⟩:=s.OD ad (x1 % sr) to
        have ff:(s.setRef ad (x1 % sr) to).1.Fz:=by unfold Hp.Fz;rw[eb];exact w.f
        have bb:(s.setRef ad (x1 % sr) to).1.born≤n0:=by rw[en];exact hb
        have a2:Ns (Bt sm nb m) c0 H0 sb n0 H2:=aZ.step hd g2 ⟨m2,kk,ff,w.kr⟩ bb ⟨hq.1.setRef ..,hq.2.setRef ..⟩
        apply Gp (k':=120-(j+1))
        ·refine W9 e1 e9 e13 tB hl c' c2' hml l4 ?_
         rw[←hY]
         refine W13 e9 lY @KG @KJ @NG @QI w0 @GD e30 q1 tY s1 @Int.toNat_zero ?_
         rw[←hZ]
         refine W16 lZ lZ1 e9 @EO @Dq @AL @Bg w1 w2 @Qn e31 e32 u1 p1 wj e13 ?_
         rfl
        ·omega
        ·exact⟨j+1,uA,oM,rfl,a2⟩
       ·have c6':decide (0<sr)=false:=G5 c6
        apply Gp (k':=120-(j+1))
        ·refine W9 e1 e9 e13 tB hl c' c2' hml l4 ?_
         rw[←hY]
         refine W12 e9 lY @KG @KJ @NG @QI w0 @GD e30 q1 tY s1 ?_
         rw[←hZ]
         refine W2 wj e13 ?_
         rfl
        ·omega
        ·exact⟨j+1,uA,oM,rfl,aZ⟩
      ·have c5':(se==0)=false:=by simp[c5]
       apply Gp (k':=120-(j+1))
       ·refine W9 e1 e9 e13 tB hl c' c2' hml l4 ?_
        rw[←hY]
        refine W12 e9 lY @KG @KJ @NG @QI w0 @GD e30 q1 tY s1 ?_
        rw[←hZ]
        refine W2 wj e13 ?_
        rfl
       ·omega
       ·exact⟨j+1,uA,oM,rfl,aZ⟩
    ·have c2':decide ((j:Int)<120)=false:=G5 oM
     apply Gj (x:=.exit 4)
     ·refine GH ?_
      rfl
     ·simp
     ·exact⟨rfl,aj⟩
   ·have c':decide ((j:Int)<(rs.length:Int))=false:=G5 oM
    apply Gj (x:=.exit 4)
    ·refine GH ?_
     rfl
    ·simp
    ·exact⟨rfl,aj⟩) _ ⟨0,h13,oM,rfl,a⟩
 grind
theorem GiA{n0:Nat}(hn0:n0≤1000)(a:Ns (Bt sm nb m) c0 H0 sb n0 H)(hb1:b1<c0)(hB:H0[b1]?=some ⟨[.int .u8 bl,.int .u8 mu,v2,v3,v4,v5,v6],.rw,0⟩)
  {rs:List (List CV)} (hs:Sl H0 v5 2 rs) (hv:Gn v5<c0) (hu:TS 2 rs)
  {E0:Env} (h1:E0 1=.ptr b1 0) (h9:E0 9=.ptr sb 0) (h18:E0 18=.i 0) {r:Option (CX×Env×Gb)} (hr:den P (.loop Gau) E0 H=r):
  ∃E' H',r=some (.exit 6,E',H')∧Ns (Bt sm nb m) c0 H0 sb n0 H'∧∀t,t∉wr Gau→E' t=E0 t:=by
 obtain⟨x',E',H',e,-,⟨rfl,a'⟩,fr⟩:=Gs (p:=P) (c:=Gau) (E0:=E0) (H0:=H)
  (fun q E H'=>∃j:Nat,E 18=.i j∧j≤20∧q=20-j∧Ns (Bt sm nb m) c0 H0 sb n0 H')
  (fun x E' H'=>x=.exit 6∧Ns (Bt sm nb m) c0 H0 sb n0 H') (by
   rintro q E H' hE ⟨j,e18,hj,rfl,aj⟩
   have e1:=(hE 1 dK).trans h1
   have e9:=(hE 9 dK).trans h9
   have tB:H'[b1]?=_:=(aj.keep b1 hb1).trans hB
   have hs':=hs.low hv aj.keep
   have hl:=hs'.len H'
   by_cases c:j<rs.length
   ·have c':decide ((j:Int)<(rs.length:Int))=true:=G7 oM
    by_cases c2:j<20
    ·have c2':decide ((j:Int)<20)=true:=G7 oM
     obtain⟨row,hrow⟩:∃row,rs[j]?=some row:=⟨_,JG c⟩
     obtain⟨zs,hz,rfl,hzb⟩:=hu.at hrow
     match zs,hz with
     |[x0,x1],_=>
      have z0:=hzb x0 sM
      have z1:=hzb x1 sM
      obtain⟨vo,hml,hmi,XH⟩:=hs'.row oM hrow
      have l0:=(XH H' rfl).2 0 x0 rfl
      have l1:=(XH H' rfl).2 1 x1 rfl
      rw[Nat.add_zero]at l0
      obtain⟨s,R,D,w,hd,hb,hq⟩:=aj.ex
      have w0:IntKind.i64.wrap x0=x0:=Gh oM
      have w1:IntKind.i64.wrap x1=x1:=Gh oM
      have e3:x1.tmod 100=x1 % 100:=Int.tmod_eq_emod_of_nonneg oM
      obtain⟨ad,q1,q2,q3,q4⟩:=A8 w.m w.k (n:=x1 % 100) oM
      obtain⟨R',H2,D2,p1,m2,g2,kr,hvl⟩:=GeG w (n:=x0) (a:=ad) oM oM
      have a2:Ns (Bt sm nb m) c0 H0 sb n0 H2:=aj.step hd g2 ⟨m2,w.k,w.f,kr⟩ hb ⟨⟨hq.1.1,fun v hv=>by
       rcases hvl v hv with h|h
       ·exact hq.1.2.1 v h
       ·subst h;exact q4,hq.1.2.2⟩,hq.2⟩
      have wj:IntKind.i64.wrap ((j:Int)+1)=((j+1:Nat):Int):=Gh oM
      apply Gp (k':=20-(j+1))
      ·have:=@EO;have:=@Dq;refine WX ?_
       rfl
      ·omega
      ·exact⟨j+1,uA,oM,rfl,a2⟩
    ·have c2':decide ((j:Int)<20)=false:=G5 oM
     apply Gj (x:=.exit 6)
     ·refine GH ?_
      rfl
     ·simp
     ·exact⟨rfl,aj⟩
   ·have c':decide ((j:Int)<(rs.length:Int))=false:=G5 oM
    apply Gj (x:=.exit 6)
    ·refine GH ?_
     rfl
    ·simp
    ·exact⟨rfl,aj⟩) _ ⟨0,h18,oM,rfl,a⟩
 grind
theorem Gjs{n0:Nat}(hn0:n0≤1000)(a:Ns (Bt sm nb m) c0 H0 sb n0 H)(hb1:b1<c0)(hB:H0[b1]?=some ⟨[.int .u8 bl,.int .u8 mu,v2,v3,v4,v5,v6],.rw,0⟩)
  {rs:List (List CV)} (hs:Sl H0 v6 1 rs) (hv:Gn v6<c0) (hu:TS 1 rs)
  {E0:Env} (h1:E0 1=.ptr b1 0) (h9:E0 9=.ptr sb 0) (h19:E0 19=.i 0) {r:Option (CX×Env×Gb)} (hr:den P (.loop WH) E0 H=r):
  ∃E' H',r=some (.exit 8,E',H')∧Ns (Bt sm nb m) c0 H0 sb n0 H'∧∀t,t∉wr WH→E' t=E0 t:=by
 obtain⟨x',E',H',e,-,⟨rfl,a'⟩,fr⟩:=Gs (p:=P) (c:=WH) (E0:=E0) (H0:=H)
  (fun q E H'=>∃j:Nat,E 19=.i j∧j≤8∧q=8-j∧Ns (Bt sm nb m) c0 H0 sb n0 H')
  (fun x E' H'=>x=.exit 8∧Ns (Bt sm nb m) c0 H0 sb n0 H') (by
   rintro q E H' hE ⟨j,e19,hj,rfl,aj⟩
   have e1:=(hE 1 dK).trans h1
   have e9:=(hE 9 dK).trans h9
   have tB:H'[b1]?=_:=(aj.keep b1 hb1).trans hB
   have hs':=hs.low hv aj.keep
   have hl:=hs'.len H'
   by_cases c:j<rs.length
   ·have c':decide ((j:Int)<(rs.length:Int))=true:=G7 oM
    by_cases c2:j<8
    ·have c2':decide ((j:Int)<8)=true:=G7 oM
     obtain⟨row,hrow⟩:∃row,rs[j]?=some row:=⟨_,JG c⟩
     obtain⟨zs,hz,rfl,hzb⟩:=hu.at hrow
     match zs,hz with
     |[x0],_=>
      have z0:=hzb x0 sM
      obtain⟨vo,hml,hmi,XH⟩:=hs'.row oM hrow
      have l0:=(XH H' rfl).2 0 x0 rfl
      rw[Nat.add_zero]at l0
      obtain⟨s,R,D,w,hd,hb,hq⟩:=aj.ex
      have w3:IntKind.i64.wrap x0=x0:=Gh oM
      have e3:x0.tmod 100=x0 % 100:=Int.tmod_eq_emod_of_nonneg oM
      obtain⟨ad,q1,q2,q3,q4⟩:=A8 w.m w.k (n:=x0 % 100) oM
      obtain⟨H1,D1,p1,m1,g1⟩:=w.m.TV (Gj8 w.m.rh w.k ad)
      obtain⟨H2,p2,m2,g2⟩:=m1.OH (Ghb m1.ph w.k ad oM)
      have t0:=w.m.top
      have t1:=m1.SK g1
      rw[g1.same.1]at p2
      have e:((s.JC ad true).2 != (s.JC ad true).2)=false:=by simp
      have kk:(s.JC ad true).1.Ok:=by
       unfold Hp.JC
       split
       ·exact w.k.upd fun x _ _=>⟨rfl,rfl,rfl,rfl,rfl⟩
       ·exact w.k
      have ff:(s.JC ad true).1.Fz:=by unfold Hp.JC;split<;>exact w.f
      have bb:(s.JC ad true).1.born≤n0:=by unfold Hp.JC;split<;>exact hb
      have a2:Ns (Bt sm nb m) c0 H0 sb n0 H2:=aj.step hd (g1.trans g2) ⟨m2,kk,ff,w.kr⟩ bb ⟨hq.1.JC ..,hq.2.JC ..⟩
      have wj:IntKind.i64.wrap ((j:Int)+1)=((j+1:Nat):Int):=Gh oM
      apply Gp (k':=8-(j+1))
      ·refine WX ?_
       rfl
      ·omega
      ·exact⟨j+1,uA,oM,rfl,a2⟩
    ·have c2':decide ((j:Int)<8)=false:=G5 oM
     apply Gj (x:=.exit 8)
     ·refine GH ?_
      rfl
     ·simp
     ·exact⟨rfl,aj⟩
   ·have c':decide ((j:Int)<(rs.length:Int))=false:=G5 oM
    apply Gj (x:=.exit 8)
    ·refine GH ?_
     rfl
    ·simp
    ·exact⟨rfl,aj⟩) _ ⟨0,h19,oM,rfl,a⟩
 grind
end
end Go.Cs.Tryz

namespace Go.Cs
open Go
theorem Bare.new(n m:Nat):Bare (Hp.new n) (Rt.new m):=by
 refine⟨fun o ho=>(by cases ho),fun v hv=>?_,?_,fun x hx=>(by cases hx)⟩
 rotate_left
 ·show((List.replicate n ((0:Nat),(0:Nat))).getD 0 (0,0)).1=0
  grind
 simp only[Rt.vals,Rt.flat,Rt.new,NV,List.mem_flatten,List.mem_replicate]at hv
 grind
theorem Hp.GlW(n:Nat):(Hp.new n).Fz:=fun x hx _=>by rw[(List.mem_replicate.1 hx).2]
end Go.Cs
namespace Go.Cs.Tryz
open Go Go.Cs
section
variable {H : Gb}
theorem Gf5(n:Nat):used (List.replicate n (0,0))=0:=by
 induction n with
 |zero=>rfl
 |succ n ih=>rw[List.replicate_succ];unfold used;rw[ih];rfl
theorem Cn.new(sm:Prop)(n:Nat):Cn sm n 0 (Hp.new n):=⟨List.length_replicate,fun _=>by show used (List.replicate n (0,0))≤0;rw[Gf5];exact Nat.le_refl _,fun _ o ho=>by cases ho⟩
structure Beg(H:Gb)(bl mu:Int)(v:Nat→CV):Prop where
 bl:0≤bl∧bl≤255
 mu:0≤mu∧mu≤255
 sl:∀(i:Nat)(n:Nat×Nat),[(2,4),(3,1),(4,3),(5,2),(6,1)][i]?=some n→∃rs,Sl H (v n.1) n.2 rs∧Gn (v n.1)<H.length+1∧TS n.2 rs
theorem Iu{bl mu:Int}{v:Nat→CV}(b:Beg H bl mu v){rs2:List (List CV)}(hs2:Sl H (v 2) 4 rs2)(u2:TS 4 rs2){sm:Prop}(hsm:sm→∀zs,Y0 zs∈rs2→zs.getD 0 0 % 8≠7):
  ∃sb H' s R D,run P 18 [.agg [.int .u8 bl,.int .u8 mu,v 2,v 3,v 4,v 5,v 6]] H=some (.ptr sb 0,H')∧DR H' sb s R D∧(∀c,D.own sb c→H.length<c)∧s.born≤40∧E_ s R∧Cn sm (2+bl % 23).toNat rs2.length s∧(∀c,c<H.length→H'[c]?=H[c]?)∧H.length<H'.length:=by
 obtain⟨X0,hX0⟩:∃X0:Gb,X0=H++[⟨[.int .u8 bl,.int .u8 mu,v 2,v 3,v 4,v 5,v 6],.rw,0⟩]:=⟨_,rfl⟩
 have g0:Gr H X0:=by rw[hX0];exact Gr.app _ _
 have l0:X0.length=H.length+1:=by rw[hX0];simp
 have t0:X0[H.length]?=some ⟨[.int .u8 bl,.int .u8 mu,v 2,v 3,v 4,v 5,v 6],.rw,0⟩:=by rw[hX0];simp
 have hbl:=b.bl
 have hmu:=b.mu
 have wb:IntKind.i64.wrap bl=bl:=Gh oM
 have wm:IntKind.i64.wrap mu=mu:=Gh oM
 have eb:bl.tmod 23=bl % 23:=Int.tmod_eq_emod_of_nonneg oM
 have em:mu.tmod 4=mu % 4:=Int.tmod_eq_emod_of_nonneg oM
 have wb2:IntKind.i64.wrap (2+bl % 23)=2+bl % 23:=Gh oM
 have wm2:IntKind.i64.wrap (1+mu % 4)=1+mu % 4:=Gh oM
 obtain⟨hb,X1,L,r1,g1,ph,fr1⟩:=Xd (H:=X0) (2+bl % 23) oM
 obtain⟨rb,X2,o1,w,r2,g2,pr,fr2⟩:=PX (H:=X1) (1+mu % 4) oM
 obtain⟨X3,EA⟩:∃X3:Gb,X3=X2++[⟨[.ptr hb 0,.ptr rb 0,.nilPtr,.nilPtr],.rw,0⟩]:=⟨_,rfl⟩
 have g3:Gr X2 X3:=by rw[EA];exact Gr.app _ _
 have l3:X3.length=X2.length+1:=by rw[EA];simp
 have t3:X3[X2.length]?=some ⟨[.ptr hb 0,.ptr rb 0,.nilPtr,.nilPtr],.rw,0⟩:=by rw[EA];simp
 obtain⟨qb,X4,o2,L2,r4,g4,rh,fr4⟩:=Gi2 (H:=X3) (2+bl % 23) oM
 have t4:=g4.get t3
 obtain⟨X5,hX5⟩:∃X5:Gb,X5=X4.set X2.length ⟨[.ptr hb 0,.ptr rb 0,.ptr qb 0,.nilPtr],.rw,0⟩:=⟨_,rfl⟩
 have l5:X5.length=X4.length:=by rw[hX5];simp
 have t5:X5[X2.length]?=some ⟨[.ptr hb 0,.ptr rb 0,.ptr qb 0,.nilPtr],.rw,0⟩:=by grind
 have k5:∀c,c≠X2.length→X5[c]?=X4[c]?:=fun c hc=>by grind
 obtain⟨ub,X6,o3,L3,r6,g6,rr,fr6⟩:=GcT (H:=X5) (1+mu % 4) oM
 have t6:=g6.get t5
 obtain⟨X7,hX7⟩:∃X7:Gb,X7=X6.set X2.length ⟨[.ptr hb 0,.ptr rb 0,.ptr qb 0,.ptr ub 0],.rw,0⟩:=⟨_,rfl⟩
 have t7:X7[X2.length]?=some ⟨[.ptr hb 0,.ptr rb 0,.ptr qb 0,.ptr ub 0],.rw,0⟩:=by grind
 have k7:∀c,c≠X2.length→X7[c]?=X6[c]?:=fun c hc=>by grind
 have e1:=g1.len
 have e2:=g2.len
 have e4:=g4.len
 have e6:=g6.len
 have hl7:X7.length=X6.length:=by rw[hX7];simp
 have k46:∀c,c<X4.length→c≠X2.length→X7[c]?=X4[c]?:=fun c hc hn=>by
  rw[k7 c hn,g6.keep c oM (fun h=>h),k5 c hn]
 have kX:∀c,c<X3.length→c≠X2.length→X7[c]?=X3[c]?:=fun c hc hn=>by
  rw[k46 c oM hn,g4.keep c hc fun h=>h]
 have kX2:∀c,c<X2.length→X7[c]?=X2[c]?:=fun c hc=>by
  grind
 have kX1:∀c,c<X1.length→X7[c]?=X1[c]?:=fun c hc=>by
  rw[kX2 c oM,g2.keep c hc fun h=>h]
 have kX0:∀c,c<X0.length→X7[c]?=X0[c]?:=fun c hc=>by
  rw[kX1 c oM,g1.keep c hc fun h=>h]
 have lt1:∀c∈L.all hb,c<X1.length:=ph.lt
 obtain⟨D,hD⟩:∃D:UQ,D=⟨hb,L,rb,o1,w,qb,o2,L2,ub,o3,L3⟩:=⟨_,rfl⟩
 have n1:∀c,c<X1.length→o1 c=none:=fun c hc=>Jg fun h=>by
  cases e:o1 c with
  |none=>exact h e
  |some u=>have:=fr2 c u e;omega
 have n1':∀c,X2.length≤c→o1 c=none:=fun c hc=>Jg fun h=>by
  cases e:o1 c with
  |none=>exact h e
  |some u=>have:=pr.dom c u e;omega
 have n2:∀c,c<X3.length→o2 c=none:=fun c hc=>Jg fun h=>by
  cases e:o2 c with
  |none=>exact h e
  |some u=>have:=fr4 c u e;omega
 have n2':∀c,X4.length≤c→o2 c=none:=fun c hc=>Jg fun h=>by
  cases e:o2 c with
  |none=>exact h e
  |some u=>have:=rh.dom c u e;omega
 have n3:∀c,c<X5.length→o3 c=none:=fun c hc=>Jg fun h=>by
  cases e:o3 c with
  |none=>exact h e
  |some u=>have:=fr6 c u e;omega
 have m7:BA X7 X2.length (Hp.new (2+bl % 23).toNat) (Hp.new (2+bl % 23).toNat) (Rt.new (1+mu % 4).toNat) (Rt.new (1+mu % 4).toNat) D:=by
  subst hD
  refine⟨t7,ph.frame fun c hc=>kX1 c (lt1 c hc),?_,?_,?_,?_,?_,?_,?_⟩
  ·exact pr.frame (fun c u h=>by have:=pr.dom c u h;omega) (fun _ _ h=>h) fun c u h=>kX2 c (pr.dom c u h)
  ·exact rh.frame (fun c u h=>by have:=rh.dom c u h;omega) (fun _ _ h=>h) fun c u h=>k46 c (rh.dom c u h) (by have:=fr4 c u h;omega)
  ·exact rr.frame (fun c u h=>by have:=rr.dom c u h;omega) (fun _ _ h=>h) fun c u h=>k7 c (by have:=fr6 c u h;omega)
  ·grind
  ·grind
  ·grind
  grind
 have hown:∀c,D.own X2.length c→H.length+1≤c:=fun c hc=>by
  subst hD
  rcases hc with rfl|hc|hc|hc|hc
  ·omega
  ·have:=fr1 c hc;omega
  ·grind
  ·grind
  grind
 have hbn:((2+bl % 23).toNat:Nat)≤64:=by omega
 have a7:Ns (VX sm (2+bl % 23).toNat 0) (H.length+1) X0 X2.length 0 X7:=⟨⟨_,_,D,⟨m7,Hp.BX oM,Hp.GlW _,Rt.BX oM⟩,hown,Nat.le_refl _,Bare.new _ _,Cn.new _ _⟩,oM,fun c hc=>kX0 c oM⟩
 obtain⟨-,-,b2,-⟩:=b.sl 0 _ rfl
 obtain⟨rs3,s3,b3,u3⟩:=b.sl 1 _ rfl
 obtain⟨rs4,s4,b4,u4⟩:=b.sl 2 _ rfl
 obtain⟨rs5,s5,b5,u5⟩:=b.sl 3 _ rfl
 obtain⟨rs6,s6,b6,u6⟩:=b.sl 4 _ rfl
 have up:∀{x:CV}{e:Nat}{rs:List (List CV)},Sl H x e rs→Sl X0 x e rs:=fun h=>h.mono fun b k hb _ _=>g0.get hb
 have tsb:X2.length≠H.length:=by omega
 have tB5:X1[H.length]?=_:=g1.get t0
 have tB2:X2[H.length]?=_:=g2.get tB5
 rw[Gi c18 _ _ sM]
 refine GH ?_
 rw[←hX0]
 refine W14 t0 @AL @Bg @Qn wb wm eb em wb2 wm2 r1 r2 @J5 @Gu ?_
 rw[←EA]
 refine W2 r4 t4 ?_
 rw[←hX5]
 refine W2 r6 t6 ?_
 rw[←hX7]
 generalize hr:den P (.loop Gaq) _ _=r
 obtain⟨E5,Y5,rfl,a5,f5⟩:=Gj3 oM a7 (b1:=H.length) oM t0 (up hs2) b2 u2 hsm uA uA uA hr
 have f51:=f5 1 dK
 have f59:=f5 9 dK
 simp only[Gg,Nat.reduceEqDiff,↓reduceIte]at f51 f59
 refine GH ?_
 generalize hr:den P (.loop XW) _ _=r
 obtain⟨E4,Y4,rfl,a4,f4⟩:=Gja oM a5 (b1:=H.length) oM t0 (up s3) b3 u3 (by simp[Gg,f51]) (by simp[Gg,f59]) uA hr
 have f41:=f4 1 dK
 have f49:=f4 9 dK
 simp only[Gg,Nat.reduceEqDiff,↓reduceIte,f51,f59]at f41 f49
 refine GH ?_
 generalize hr:den P (.loop Gaw) _ _=r
 obtain⟨E3,Y3,rfl,a3,f3⟩:=Giw oM (a4.snd) (b1:=H.length) oM t0 (up s4) b4 u4 (by simp[Gg,f41]) (by simp[Gg,f49]) uA hr
 have f31:=f3 1 dK
 have f39:=f3 9 dK
 simp only[Gg,Nat.reduceEqDiff,↓reduceIte,f41,f49]at f31 f39
 refine GH ?_
 generalize hr:den P (.loop Gau) _ _=r
 obtain⟨E2,Y2,rfl,a2,f2⟩:=GiA oM a3 (b1:=H.length) oM t0 (up s5) b5 u5 (by simp[Gg,f31]) (by simp[Gg,f39]) uA hr
 have f21:=f2 1 dK
 have f29:=f2 9 dK
 simp only[Gg,Nat.reduceEqDiff,↓reduceIte,f31,f39]at f21 f29
 refine GH ?_
 generalize hr:den P (.loop WH) _ _=r
 obtain⟨E1,Y1,rfl,a1,f1⟩:=Gjs oM a2 (b1:=H.length) oM t0 (up s6) b6 u6 (by simp[Gg,f21]) (by simp[Gg,f29]) uA hr
 have f19:=f1 9 dK
 simp only[Gg,Nat.reduceEqDiff,↓reduceIte,f29]at f19
 obtain⟨s,R,D',w',hd,hb',hq⟩:=a1.ex
 refine⟨X2.length,Y1,s,R,D',?_,w',fun c h=>by have:=hd c h;omega,oM,hq.1,by rw[Nat.zero_add]at hq;exact hq.2,fun c hc=>?_,by have:=a1.len;omega⟩
 ·exact W0
 ·rw[a1.keep c oM,g0.keep c hc fun h=>h]
theorem GbQ{bl mu:Int}{v:Nat→CV}(b:Beg H bl mu v):
  ∃sb H' s R D,run P 18 [.agg [.int .u8 bl,.int .u8 mu,v 2,v 3,v 4,v 5,v 6]] H=some (.ptr sb 0,H')∧DR H' sb s R D∧(∀c,D.own sb c→H.length<c)∧s.born≤40∧E_ s R∧(∀c,c<H.length→H'[c]?=H[c]?)∧H.length<H'.length:=by
 obtain⟨rs2,s2,-,u2⟩:=b.sl 0 _ rfl
 obtain⟨sb,H',s,R,D,h1,h2,h3,h4,h5,-,h6⟩:=Iu b s2 u2 (sm:=False) fun h=>h.elim
 grind
end
end Go.Cs.Tryz
namespace Go.Cs.Tryz
open Go Go.Cs A
def C23:Gl:=⟨9,0,T [nb 4 false] (Q [m 5 0,m 6 1,q2 7 79 5 6,bk 8 .geq 7 0,m 4 8]),[r 4]⟩
theorem c23:P 23=some C23:=by kernel_rfl
abbrev GcF:Gq:=S (T [m 6 5,m 7 0,le 8 7,b 9 .lss 6 8] (J 9 (X 0))) (S (B 1 (T [m 12 0,m 13 5,x 14 1 12 13,l 15 1 14,m 16 1,b 17 .eql 15 16] (I 17 (Q [m 18 5,m 4 18])))) (R [m 10 5,bk 11 .add 10 1,m 5 11]))
def C79:Gl:=⟨19,0,T [n 4 0] (S (T [n 5 0] (B 0 (W GcF))) (Q [n 4 (-1)])),[r 4]⟩
theorem c79:P 79=some C79:=by kernel_rfl
def GrJ:Gl:=⟨15,0,T [e 6 (.JR (c .Gc))] (S (T [m 7 0,m 8 2,q2 9 176 7 8,no 10 9] (I 10 (Q [m 11 1,m 6 11]))) (Q [m 12 1,m 13 2,q2 14 174 12 13,m 6 14])),[r 6]⟩
theorem Gra:P 163=some GrJ:=by kernel_rfl
def Gtq:Gl:=⟨6,0,T [e 2 (.JR (c .Gc))] (Q [e 3 (.buildSlice 1 [] 0 []),m 4 0,ap 5 1 3 4,m 2 5]),[r 2]⟩
theorem c164:P 164=some Gtq:=by kernel_rfl
def GpE:Gl:=⟨26,0,T [bo 2 0,nb 4 false] (Q [f 5 2 2,l 6 1 5,bk 7 .neq 6 1,m 8 7,gt 8 (f 9 2 2),gt 8 (l 10 1 9),gt 8 (bk 11 .neq 10 2),an 12 8 11,m 13 12,gf 13 (m 14 1),gf 13 (bk 15 .gtr 14 0),gf 13 (m 16 15),gt 16 (f 17 2 2),gt 16 (l 18 1 17),gt 16 (bk 19 .eql 18 1),gt 16 (m 20 19),gf 20 (m 21 1),gf 20 (bk 22 .gtr 21 1),gt 16 (or 23 20 22),gf 13 (an 24 16 23),or 25 13 24,m 4 25]),[r 4]⟩
theorem GqK:P 165=some GpE:=by kernel_rfl
abbrev OE:Gq:=S (T [m 6 5,m 7 0,le 8 7,b 9 .lss 6 8,m 10 9,gt 10 (m 11 0),gt 10 (m 12 5),gt 10 (x 13 1 11 12),gt 10 (l 14 1 13),gt 10 (m 15 1),gt 10 (b 16 .lss 14 15),an 17 10 16] (J 17 (X 0))) (B 1 (R [m 18 5,bk 19 .add 18 1,m 5 19]))
def Gu7:Gl:=⟨45,0,T [e 4 (.JR (c .Gc))] (T [n 5 0] (S (B 0 (W OE)) (S (T [m 20 5,m 21 0,le 22 21,b 23 .lss 20 22,m 24 23,gt 24 (m 25 0),gt 24 (m 26 5),gt 24 (x 27 1 25 26),gt 24 (l 28 1 27),gt 24 (m 29 1),gt 24 (b 30 .eql 28 29),an 31 24 30] (I 31 (Q [m 32 0,m 4 32]))) (S (D [⟨e 33 (.buildSlice 1 [] 0 []),0,0,0⟩,⟨m 34 0,1,0,0⟩,⟨m 35 5,2,0,0⟩,⟨e 36 (.slice 1 (t 34) none (some (t 35)) none),3,0,0⟩,⟨ap 37 1 33 36,4,3,0⟩,⟨m 38 1,5,0,0⟩,⟨e 39 (.buildSlice 1 [i 0] 1 [(0,1,t 38)]),6,0,0⟩,⟨ap 40 1 37 39,7,3,1⟩,⟨m 41 0,8,0,0⟩,⟨m 42 5,9,0,0⟩,⟨e 43 (.slice 1 (t 41) (some (t 42)) none none),10,0,0⟩,⟨ap 44 1 40 43,11,3,2⟩,⟨m 4 44,12,0,3⟩]) .ret)))),[r 4]⟩
theorem Gs5:P 174=some Gu7:=by kernel_rfl
end Go.Cs.Tryz
namespace Go.Cs
open Go
abbrev LI(H:Gb)(v:CV)(l:List Int):Prop:=IL 0 H v l
theorem IL.li{k:Nat}{H:Gb}{v:CV}{l:List Int}(h:IL k H v l):LI H v l:=h.frame (fun c h=>Gm.2 ⟨Nat.zero_le _,(Gm.1 h).2⟩) fun c h=>rfl
theorem LI.gr{H H':Gb}{v:CV}{l:List Int}(h:LI H v l)(g:Gr H H'):LI H' v l:=h.keeps g
theorem LI.len{H:Gb}{v:CV}{l:List Int}(h:LI H v l)(H':Gb):Vs v H'=some (.i l.length,H'):=At.len h H'
theorem LI.at{H:Gb}{v:CV}{l:List Int}(h:LI H v l){i:Nat}{x:Int}(hi:l[i]?=some x):
  ∃b o,(∀X,JU 1 v (.i i) X=some (.ptr b o,X))∧YV 1 v (.i i)=okV (.ptr b o)∧∀Y,Gr H Y→ld Y[b]? o=some (.i x):=by
 obtain⟨b,o,h1,h2,h3,-⟩:=IL.at h hi
 refine⟨b,o,h1,h2,fun Y g=>?_⟩
 have hb:b<H.length:=by
  cases e:H[b]? with
  |none=>rw[e]at h3;cases h3
  |some k=>exact Gf e
 rw[g.keep b hb fun h=>h];exact h3
def ZC(l:List Int):Prop:=l.Pairwise (·<·)
def BZ(n:Int):List Int→List Int
 |[]=>[n]
 |x::l=>if x<n then x::BZ n l else if x=n then x::l else n::x::l
theorem Y9{n x:Int}:∀{l:List Int},x∈BZ n l↔x=n∨x∈l
 |[]=>by simp[BZ]
 |y::l=>by
  unfold BZ
  split
  ·rw[List.mem_cons,Y9,List.mem_cons]
   grind
  grind
theorem Xa{n:Int}:∀{l:List Int},ZC l→ZC (BZ n l)
 |[],_=>by simp[BZ,ZC]
 |y::l,h=>by
  unfold ZC at h
  rw[List.pairwise_cons]at h
  unfold BZ
  split
  ·rename_i hy
   refine List.pairwise_cons.2 ⟨fun z hz=>?_,Xa h.2⟩
   rcases Y9.1 hz with rfl|hz
   ·exact hy
   ·exact h.1 z hz
  ·split
   ·exact List.pairwise_cons.2 h
   ·refine List.pairwise_cons.2 ⟨fun z hz=>?_,List.pairwise_cons.2 h⟩
    grind
def Z9(n:Int)(l:List Int):Nat:=(l.takeWhile fun x=>decide (x<n)).length
theorem GiH(n:Int)(l:List Int):Z9 n l≤l.length:=(List.takeWhile_sublist _).length_le
theorem Tq(n:Int):∀l:List Int,BZ n l=if l[Z9 n l]?=some n then l else l.take (Z9 n l)++n::l.drop (Z9 n l)
 |[]=>by simp[BZ,Z9]
 |y::l=>by
  unfold BZ
  by_cases h:y<n
  ·rw[if_pos h,Tq n l]
   have e:Z9 n (y::l)=Z9 n l+1:=by unfold Z9;simp_all
   grind
  ·rw[if_neg h]
   have e:Z9 n (y::l)=0:=by unfold Z9;simp_all
   grind
theorem Tu{n:Int}:∀{l:List Int}{j:Nat},j≤l.length→(∀i y,i<j→l[i]?=some y→y<n)→(∀y,l[j]?=some y→n≤y)→Z9 n l=j
 |[],j,hj,_,_=>by simp only[List.length_nil]at hj;unfold Z9;simp;omega
 |x::l,0,_,_,h2=>by
  have:=h2 x rfl
  unfold Z9
  simp_all
 |x::l,j+1,hj,h1,h2=>by
  have:=h1 0 x oM rfl
  have ih:=Tu (n:=n) (l:=l) (j:=j) (by simpa using hj) (fun i y hi hy=>h1 (i+1) y oM (by simpa using hy)) (fun y hy=>h2 y (by simpa using hy))
  unfold Z9 at ih⊢
  simp_all
theorem Gkb{l:List Int}(h:ZC l){a b:Int}(hl:∀x∈l,a≤x∧x<b):(l.length:Int)≤b-a∨l=[]:=by
 induction l generalizing a with
 |nil=>exact .inr rfl
 |cons x l ih=>
  unfold ZC at h
  rw[List.pairwise_cons]at h
  have hx:=hl x Nr
  left
  rcases ih h.2 (a:=x+1) (fun y hy=>⟨by have:=h.1 y hy;omega,(hl y (U5 _ hy)).2⟩)with e|e
  ·simp only[List.length_cons];omega
  ·subst e;simp;omega
theorem D6:∀{l k:List Int},ZC l→ZC k→(∀x,x∈l↔x∈k)→l=k
 |[],[],_,_,_=>rfl
 |[],y::k,_,_,h=>by have:=(h y).2 Nr;cases this
 |x::l,[],_,_,h=>by have:=(h x).1 Nr;cases this
 |x::l,y::k,h1,h2,h=>by
  unfold ZC at h1 h2
  rw[List.pairwise_cons]at h1 h2
  have e:x=y:=by
   rcases List.mem_cons.1 ((h x).1 Nr)with e|e
   ·exact e
   ·rcases List.mem_cons.1 ((h y).2 Nr)with e2|e2
    ·exact e2.symm
    grind
  subst e
  congr 1
  refine D6 h1.2 h2.2 fun z=>?_
  grind
def Jh(kd i:Int):Bool:=(kd != 1&&kd != 2)||(decide (0<i)&&(kd==1||decide (1<i)))
end Go.Cs
namespace Go.Cs.Tryz
open Go Go.Cs
section
variable {H : Gb} {v : CV} {l : List Int}
theorem Gr9(h:LI H v l)(hl:l.length≤100000){n:Int}{E0:Env}(h0:E0 0=v)(h1:E0 1=.i n)(h5:E0 5=.i 0){r:Option (CX×Env×Gb)}(hr:den P (.loop GcF) E0 H=r):
  ∃x E',r=some (x,E',H)∧((x=.ret∧∃j:Nat,E' 4=.i j∧n∈l)∨(x=.exit 0∧n∉l)):=by
 obtain⟨x',E',H',e,-,⟨rfl,hres⟩,fr⟩:=Gs (p:=P) (c:=GcF) (E0:=E0) (H0:=H)
  (fun q E H'=>H'=H∧∃j:Nat,E 5=.i j∧j≤l.length∧q=l.length-j∧∀i y,i<j→l[i]?=some y→y≠n)
  (fun x E' H'=>H'=H∧((x=.ret∧∃j:Nat,E' 4=.i j∧n∈l)∨(x=.exit 0∧n∉l))) (by
   rintro q E H' hE ⟨rfl,j,e5,hj,rfl,hn⟩
   have e0:=(hE 0 dK).trans h0
   have e1:=(hE 1 dK).trans h1
   have hvl:=h.len H'
   by_cases c:j<l.length
   ·have c':decide ((j:Int)<(l.length:Int))=true:=G7 oM
    have hx:l[j]?=some l[j]:=JG c
    obtain⟨b,o,i1,i2,i3⟩:=h.at hx
    have AZ:=i3 H' (Keeps.refl _ _)
    have w1:IntKind.i64.wrap ((j:Int)+1)=((j+1:Nat):Int):=Gh oM
    by_cases ha:l[j]=n
    ·have ha':(l[j]==n)=true:=by simp[ha]
     apply Gj (x:=.ret)
     ·refine W8 e0 e1 e5 hvl c' i1 AZ ha' ?_
      rfl
     ·simp
     ·exact⟨rfl,.inl ⟨rfl,j,uA,by rw[←ha];exact List.getElem_mem c⟩⟩
    ·have ha':(l[j]==n)=false:=by simp[ha]
     apply Gp (k':=l.length-(j+1))
     ·refine GH ?_
      rfl
     ·omega
     ·refine⟨rfl,j+1,uA,oM,rfl,fun i y hi hy=>?_⟩
      grind
   ·have c':decide ((j:Int)<(l.length:Int))=false:=G5 oM
    apply Gj (x:=.exit 0)
    ·refine GH ?_
     rfl
    ·simp
    ·refine⟨rfl,.inr ⟨rfl,fun hm=>?_⟩⟩
     obtain⟨i,hi,he⟩:=List.getElem_of_mem hm
     grind) _ ⟨rfl,0,h5,oM,rfl,fun i y hi=>by omega⟩
 grind
theorem Gc7(h:LI H v l)(hl:l.length≤100000)(n:Int):run P 23 [v,.i n] H=some (.bool (decide (n∈l)),H):=by
 have key:∃z:Int,run P 79 [v,.i n] H=some (.i z,H)∧(0≤z↔n∈l):=by
  rw[Gi c79 _ _ sM]
  refine GH ?_
  generalize hr:den P (.loop GcF) _ _=r
  obtain⟨x,E',rfl,hp⟩:=Gr9 h hl (n:=n) uA uA uA hr
  rcases hp with⟨rfl,j,h4,hm⟩|⟨rfl,hm⟩
  ·exact⟨j,by exact W0,by simp[hm]⟩
  ·exact⟨-1,by exact W0,by simp[hm]⟩
 obtain⟨z,h1,h2⟩:=key
 rw[Gi c23 _ _ sM]
 have e:decide (0≤z)=decide (n∈l):=by simp[h2]
 exact W0
theorem GgE(h:LI H v l)(hl:l.length≤100000):∃v' H',run P 164 [v] H=some (v',H')∧Gr H H'∧LI H' v' l:=by
 have he:elems (H++[⟨[],.rw,1⟩]) 1 v=some (l.length,ints l):=(h.gr (Gr.app H [⟨[],.rw,1⟩])).elems fun c hc=>rfl
 have h0:IL H.length (H++[⟨[],.rw,1⟩]) (.slice H.length 0 0 0 1 false) []:=.inl ⟨rfl,rfl,.inr ⟨_,_,rfl⟩⟩
 obtain⟨v',H1,a1,a2,a3⟩:=IL.cat h0 sM (l2:=l) (by simp;omega)
 refine⟨v',H1,?_,(Gr.app H _).news a3,a2.li⟩
 rw[Gi c164 _ _ sM]
 exact W0
theorem GmE(h:LI H v l)(hl:l.length≤100000){n:Int}{E0:Env}(h0:E0 0=v)(h1:E0 1=.i n)(h5:E0 5=.i 0){r:Option (CX×Env×Gb)}(hr:den P (.loop OE) E0 H=r):
  ∃E',r=some (.exit 0,E',H)∧E' 5=.i (Z9 n l)∧∀t,t∉wr OE→E' t=E0 t:=by
 obtain⟨x',E',H',e,-,⟨rfl,rfl,hf⟩,fr⟩:=Gs (p:=P) (c:=OE) (E0:=E0) (H0:=H)
  (fun q E H'=>H'=H∧∃j:Nat,E 5=.i j∧j≤l.length∧q=l.length-j∧∀i y,i<j→l[i]?=some y→y<n)
  (fun x E' H'=>x=.exit 0∧H'=H∧E' 5=.i (Z9 n l)) (by
   rintro q E H' hE ⟨rfl,j,e5,hj,rfl,hn⟩
   have e0:=(hE 0 dK).trans h0
   have e1:=(hE 1 dK).trans h1
   have hvl:=h.len H'
   by_cases c:j<l.length
   ·have c':decide ((j:Int)<(l.length:Int))=true:=G7 oM
    have hx:l[j]?=some l[j]:=JG c
    obtain⟨b,o,i1,i2,i3⟩:=h.at hx
    have AZ:=i3 H' (Keeps.refl _ _)
    have w1:IntKind.i64.wrap ((j:Int)+1)=((j+1:Nat):Int):=Gh oM
    by_cases ha:l[j]<n
    ·have ha':decide (l[j]<n)=true:=G7 ha
     apply Gp (k':=l.length-(j+1))
     ·refine GH ?_
      rfl
     ·omega
     ·refine⟨rfl,j+1,uA,oM,rfl,fun i y hi hy=>?_⟩
      grind
    ·have ha':decide (l[j]<n)=false:=G5 ha
     apply Gj (x:=.exit 0)
     ·refine GH ?_
      rfl
     ·simp
     ·refine⟨rfl,rfl,?_⟩
      rw[Tu hj hn fun y hy=>by grind]
      simp[Gg,e5]
   ·have c':decide ((j:Int)<(l.length:Int))=false:=G5 oM
    apply Gj (x:=.exit 0)
    ·refine GH ?_
     rfl
    ·simp
    ·refine⟨rfl,rfl,?_⟩
     rw[Tu hj hn fun y hy=>by have:=Gf hy;omega]
     simp[Gg,e5]) _ ⟨rfl,0,h5,oM,rfl,fun i y hi=>by omega⟩
 exact⟨E',hr.symm.trans e,hf,fr⟩
theorem GiL(h:LI H v l)(hl:l.length≤100000)(n:Int):∃v' H',run P 174 [v,.i n] H=some (v',H')∧Gr H H'∧LI H' v' (BZ n l):=by
 rw[Gi Gs5 _ _ sM]
 refine GH ?_
 generalize hr:den P (.loop OE) _ _=r
 obtain⟨E',rfl,h5,fr⟩:=GmE h hl (n:=n) uA uA uA hr
 have f0:=fr 0 dK
 have f1:=fr 1 dK
 simp only[Gg,Nat.reduceEqDiff,↓reduceIte]at f0 f1
 rw[Tq]
 have hle:=GiH n l
 have hvl:=h.len H
 have Gwt:(l[Z9 n l]?≠some n)→∀E:Env,True:=fun _ _=>trivial
 generalize hj:Z9 n l=j at h5 hle
 have slow:∃v' H',LI H' v' (l.take j++n::l.drop j)∧Gr H H'∧∃w1 w2 u1 X1 u2 X2,Qe 1 v none (some (.i j)) none=some w1∧elems (H++[⟨[],.rw,1⟩]) 1 w1=some (j,ints (l.take j))∧Jq (H++[⟨[],.rw,1⟩]) 1 (.slice H.length 0 0 0 1 false) j (ints (l.take j))=some (u1,X1)∧
   elems (X1++[⟨[.i n],.rw,1⟩]) 1 (.slice X1.length 0 1 1 1 false)=some (1,[.i n])∧Jq (X1++[⟨[.i n],.rw,1⟩]) 1 u1 1 [.i n]=some (u2,X2)∧Qe 1 v (some (.i j)) none none=some w2∧elems X2 1 w2=some (l.length-j,ints (l.drop j))∧Jq X2 1 u2 (l.length-j) (ints (l.drop j))=some (v',H'):=by
  obtain⟨w1,sl1,el1⟩:=At.lo h hle
  obtain⟨w2,sl2,el2⟩:=At.hi h hle
  have tk:(ints l).take (j*1)=ints (l.take j):=by rw[Nat.mul_one];simp[ints,List.map_take]
  have dr:(ints l).drop (j*1)=ints (l.drop j):=by rw[Nat.mul_one];simp[ints,List.map_drop]
  rw[tk]at el1
  rw[dr]at el2
  have hblk:∀Y,Gr H Y→∀e' w r,(∀H':Gb,(∀c,Loc 0 c=some z3→H'[c]?=H[c]?)→elems H' e' w=some r)→True:=fun _ _ _ _ _ _=>trivial
  have h0:IL H.length (H++[⟨[],.rw,1⟩]) (.slice H.length 0 0 0 1 false) []:=.inl ⟨rfl,rfl,.inr ⟨_,_,rfl⟩⟩
  have GuF:elems (H++[⟨[],.rw,1⟩]) 1 w1=some (j,ints (l.take j)):=by
   have:=(At.lo (h.gr (Gr.app H [⟨[],.rw,1⟩])) hle)
   grind
  have ltk:(l.take j).length=j:=by rw[List.length_take];omega
  obtain⟨u1,X1,a1,b1,k1⟩:=IL.cat h0 sM (l2:=l.take j) (by simp;omega)
  rw[ltk]at a1
  have gX1:Gr H X1:=(Gr.app H _).news k1
  obtain⟨u2,X2,a2,b2,k2⟩:=IL.push b1 gX1.len (by simp;omega) n
  have gX2:Gr H X2:=gX1.news k2
  have GtV:elems X2 1 w2=some (l.length-j,ints (l.drop j)):=by
   obtain⟨w,s1,e1⟩:=At.hi (h.gr gX2) hle
   grind
  obtain⟨u3,X3,a3,b3,k3⟩:=IL.cat b2 gX2.len (l2:=l.drop j) (by simp;omega)
  have ldr:(l.drop j).length=l.length-j:=List.length_drop ..
  rw[ldr]at a3
  refine⟨u3,X3,?_,gX2.news k3,w1,w2,u1,X1,u2,X2,sl1,GuF,a1,?_,a2,sl2,GtV,a3⟩
  ·have e:[]++l.take j++[n]++l.drop j=l.take j++n::l.drop j:=by simp
   rw[e]at b3
   exact b3.li
  ·rw[J7 oM]
   have:=@Kc;exact W0
 by_cases c:j<l.length
 ·have c':decide ((j:Int)<(l.length:Int))=true:=G7 oM
  have hx:l[j]?=some l[j]:=JG c
  obtain⟨b,o,i1,i2,i3⟩:=h.at hx
  have AZ:=i3 H (Keeps.refl _ _)
  by_cases ha:l[j]=n
  ·have ha':(l[j]==n)=true:=by simp[ha]
   rw[if_pos (by rw[hx,ha])]
   refine⟨v,H,?_,Keeps.refl _ _,h⟩
   exact W0
  ·have ha':(l[j]==n)=false:=by simp[ha]
   rw[if_neg (by rw[hx];simpa using ha)]
   obtain⟨v',H',li,g,w1,w2,u1,X1,u2,X2,s1,s2,s3,s4,s5,s6,s7,s8⟩:=slow
   refine⟨v',H',?_,g,li⟩
   have:=@M6;have:=@F9;have:=@Mq;exact W0
 ·have c':decide ((j:Int)<(l.length:Int))=false:=G5 oM
  rw[if_neg (by grind)]
  obtain⟨v',H',li,g,w1,w2,u1,X1,u2,X2,s1,s2,s3,s4,s5,s6,s7,s8⟩:=slow
  refine⟨v',H',?_,g,li⟩
  have:=@M6;have:=@F9;have:=@Mq;exact W0
theorem Ac{o:Tags}{rb:Nat}{s:Hp}{L:Qc}(m:JL o H rb s L)(k:s.Ok)(h:LI H v l)(hl:l.length≤100000)(a:Int):
  ∃v' H',run P 163 [.ptr rb 0,v,.i a] H=some (v',H')∧Gr H H'∧LI H' v' (if s.has a=true then BZ a l else l):=by
 have h1:=Gdj m k a
 rw[Gi Gra _ _ sM]
 cases e:s.has a with
 |true=>
  rw[e]at h1
  obtain⟨v',H',p1,p2,p3⟩:=GiL h hl a
  refine⟨v',H',?_,p2,by simpa using p3⟩
  exact W0
 |false=>
  rw[e]at h1
  refine⟨v,H,?_,Keeps.refl _ _,by simpa using h⟩
  exact W0
theorem GaY(r d kd i:Int):run P 165 [.agg (Jb r d kd),.i i] H=some (.bool (Jh kd i),H++[⟨Jb r d kd,.rw,0⟩]):=by
 rw[Gi GqK _ _ sM]
 unfold Jb Jh
 by_cases k1:kd=1
 ·subst k1
  by_cases c:0<i
  ·simp(disch:=first|exact dz|fail) only[simprocAttr,Gx,↓reduceIte,Ny,show((1:Int) != 1)=false from rfl,show((1:Int)==1)=true from rfl,c]
   rfl
  ·simp(disch:=first|exact dz|fail) only[simprocAttr,Gx,↓reduceIte,Ny,show((1:Int) != 1)=false from rfl,c]
   rfl
 ·have e1:(kd != 1)=true:=by simp[k1]
  have e1':(kd==1)=false:=by simp[k1]
  by_cases k2:kd=2
  ·subst k2
   by_cases c:0<i
   ·by_cases c2:1<i
    ·simp(disch:=first|exact dz|fail) only[simprocAttr,Gx,↓reduceIte,Ny,e1,e1',show((2:Int) != 2)=false from rfl,c,c2]
     rfl
    ·simp(disch:=first|exact dz|fail) only[simprocAttr,Gx,↓reduceIte,Ny,e1,e1',show((2:Int) != 2)=false from rfl,c,c2]
     rfl
   ·simp(disch:=first|exact dz|fail) only[simprocAttr,Gx,↓reduceIte,Ny,e1,show((2:Int) != 2)=false from rfl,c]
    rfl
  ·have e2:(kd != 2)=true:=by simp[k2]
   simp(disch:=first|exact dz|fail) only[simprocAttr,Gx,↓reduceIte,Ny,e1,e2]
   rfl
end
end Go.Cs.Tryz
namespace Go.Cs.Tryz
open Go Go.Cs A
abbrev R5:Gq:=S (T [m 102 13,f 103 2 8,f 104 1 103,l 105 1 104,b 106 .lss 102 105] (J 106 (X 6))) (S (B 7 (T [m 110 0,f 111 0 8,l 112 1 111,m 113 13,q3 114 77 110 112 113,m 109 114,ex 115 109 0,ex 116 109 1,m 14 115,m 15 116] (T [f 117 6 8,l 118 1 117,m 16 118] (R [m 119 16,m 120 14,e 121 (.buildSlice 1 [i 0] 1 [(0,1,t 120)]),ap 122 1 119 121,f 123 6 8,st 1 123 122])))) (R [m 107 13,bk 108 .add 107 1,m 13 108]))
abbrev RI:Gq:=S (T [m 80 9,f 81 2 8,f 82 0 81,l 83 1 82,b 84 .lss 80 83] (J 84 (X 4))) (S (B 5 (T [m 88 0,f 89 0 8,l 90 1 89,m 91 9,q3 92 76 88 90 91,m 87 92,ex 93 87 0,ex 94 87 1,m 10 93,m 11 94] (T [f 95 5 8,l 96 1 95,m 12 96] (R [m 97 12,m 98 10,e 99 (.buildSlice 1 [i 0] 1 [(0,1,t 98)]),ap 100 1 97 99,f 101 5 8,st 1 101 100])))) (R [m 85 9,bk 86 .add 85 1,m 9 86]))
abbrev RS:Gq:=S (T [m 47 7,m 48 6,le 49 48,b 50 .lss 47 49] (J 50 (X 2))) (S (B 3 (S (D [⟨m 57 0,4,0,0⟩,⟨m 58 6,5,0,0⟩,⟨m 59 7,6,0,0⟩,⟨x 60 1 58 59,7,0,0⟩,⟨l 61 1 60,8,1,0⟩,⟨q2 62 74 57 61,9,3,0⟩,⟨m 53 6,0,0,0⟩,⟨m 54 7,1,0,0⟩,⟨x 55 1 53 54,2,0,0⟩,⟨l 56 1 55,3,1,0⟩,⟨e 63 (.build [i 0,i 0,i 0,i 0,i 0,.Gc,.Gc,.bool false] [(0,1,t 56),(7,1,t 62)]),10,0,1⟩,⟨e 8 (.new [i 0,i 0,i 0,i 0,i 0,.Gc,.Gc,.bool false]),11,0,0⟩,⟨st 8 8 63,12,3,1⟩]) (T [m 65 0,f 66 0 8,l 67 1 66,q2 68 35 65 67,m 64 68,ex 69 64 0,ex 70 64 1,f 71 1 8,st 1 71 69] (T [m 73 0,f 74 0 8,l 75 1 74,q2 76 75 73 75,m 72 76,ex 77 72 0,ex 78 72 1,f 79 2 8,st 3 79 77] (S (T [n 9 0] (B 4 (W RI))) (S (T [n 13 0] (B 6 (W R5))) (T [m 124 3,z 125 124,f 126 1 125,l 127 1 126,m 17 127] (R [m 128 3,m 129 17,lg 130 8 8,e 131 (.buildSlice 8 [i 0,i 0,i 0,i 0,i 0,.Gc,.Gc,.bool false] 1 [(0,8,t 130)]),ap 132 8 129 131,z 133 128,f 134 1 133,st 1 134 132])))))))) (R [m 51 7,bk 52 .add 51 1,m 7 52]))
abbrev Xo:Gq:=S (T [m 22 4,m 23 0,q1 24 49 23,b 25 .lss 22 24] (J 25 (X 0))) (S (B 1 (T [m 28 3,z 29 28,f 30 0 29,l 31 1 30,m 5 31] (R [m 32 3,m 33 5,m 34 0,m 35 4,q2 36 71 34 35,m 37 0,m 38 4,q2 39 72 37 38,e 40 (.build [i 0,i 0] [(0,1,t 36),(1,1,t 39)]),e 41 (.buildSlice 2 [i 0,i 0] 1 [(0,2,t 40)]),ap 42 2 33 41,z 43 32,f 44 0 43,st 1 44 42]))) (R [m 26 4,bk 27 .add 26 1,m 4 27]))
def C21:Gl:=⟨136,0,T [e 2 (.JR (c .nilPtr))] (T [m 18 0,q1 19 70 18,e 20 (.build [.Gc,.Gc,.Gc,i 0] [(3,1,t 19)]),bo 21 20,m 3 21] (S (T [n 4 0] (B 0 (W Xo))) (T [m 45 0,q1 46 73 45,m 6 46] (S (T [n 7 0] (B 2 (W RS))) (Q [m 135 3,m 2 135]))))),[r 2]⟩
theorem c21:P 21=some C21:=by kernel_rfl
end Go.Cs.Tryz
namespace Go.Cs
open Go
def Nz(x:Ob)(rv dv:CV):List CV:=[.i x.addr,.i x.id,.i x.refs.length,.i x.data.length,.i x.kd,rv,dv,.bool x.pin]
def But(H H':Gb)(b:Nat):Prop:=Keeps H H' (fun c=>c=b)
theorem PH.but{H H':Gb}{hb b:Nat}{s:Hp}{L:G6}(p:PH H hb s L)(k:But H H' b)(hn:b∉L.all hb):PH H' hb s L:=
 p.frame fun c hc=>k.keep c (p.lt c hc) fun h=>hn (by rw[←h];exact hc)
theorem JL.Gjd{o:Tags}{H Hf:Gb}{rb:Nat}{s:Hp}{L:Qc}(m:JL o H rb s L){l:List Ob}{hv:Nat→CV×CV}{v:CV}{born:Nat}(h:At (Loc H.length) z3 Hf v 8 l.length (Gv hv l))(hl:H.length≤Hf.length)
  (hb:Hf[rb]?=some ⟨[L.bv,v,L.fv,.i born],.rw,0⟩) (hf:∀d,d<H.length→d≠rb→o d≠some (0,2,0)→Hf[d]?=H[d]?)
  (hr:∀x∈l,At o (0,3,x.id) H (hv x.id).1 1 x.refs.length (ints x.refs)∧At o (0,4,x.id) H (hv x.id).2 1 x.data.length (ints x.data)):
  ∃o' L',JL o' Hf rb {s with objs:=l,born:=born} L'∧KY o H o' Hf∧L'.hv=hv∧L'.bv=L.bv∧L'.ov=v∧L'.fv=L.fv:=by
 obtain⟨o',h1,h2,h3⟩:=h.adopt (o:=o) (t:=(0,2,0)) m.dom
 have ho:∀c t,o c=some t→o' c=some t:=fun c t h=>by rw[h1 c (m.dom c _ h),h]
 have old:∀c t,o c=some t→t≠(0,0,0)→t≠(0,2,0)→Hf[c]?=H[c]?:=fun c t h hn hn2=>hf c (m.dom c _ h) (by rintro rfl;rw[m.top]at h;grind) (by rw[h];simpa using hn2)
 refine⟨o',{L with ov:=v,hv:=hv},⟨?_,ho _ _ m.top,hb,m.fv,m.blk.frame (fun c=>ho c _) fun c h=>old c _ h sM sM,h3,fun x hx=>?_⟩,⟨hl,h1,fun c hc hn=>hf c hc ?_ (by rw[hn];simp)⟩,rfl,rfl,rfl,rfl⟩
 ·grind
 ·exact⟨(hr x hx).1.frame (fun c=>ho c _) fun c h=>old c _ h sM sM,(hr x hx).2.frame (fun c=>ho c _) fun c h=>old c _ h sM sM⟩
 ·rintro rfl;rw[m.top]at hn;cases hn
theorem JL.Gm8{o:Tags}{H Hf:Gb}{rb:Nat}{s:Hp}{L:Qc}(m:JL o H rb s L){l:List (Nat×Nat)}{v:CV}(h:At (Loc H.length) z3 Hf v 2 l.length (Gz l))(hl:H.length≤Hf.length)
  (hb:Hf[rb]?=some ⟨[v,L.ov,L.fv,.i s.born],.rw,0⟩) (hf:∀d,d<H.length→d≠rb→o d≠some (0,1,0)→Hf[d]?=H[d]?):
  ∃o' L',JL o' Hf rb {s with blk:=l} L'∧KY o H o' Hf∧L'.ov=L.ov∧L'.bv=v∧L'.fv=L.fv:=by
 obtain⟨o',h1,h2,h3⟩:=h.adopt (o:=o) (t:=(0,1,0)) m.dom
 have ho:∀c t,o c=some t→o' c=some t:=fun c t h=>by rw[h1 c (m.dom c _ h),h]
 have old:∀c t,o c=some t→t≠(0,0,0)→t≠(0,1,0)→Hf[c]?=H[c]?:=fun c t h hn hn2=>hf c (m.dom c _ h) (by rintro rfl;rw[m.top]at h;grind) (by rw[h];simpa using hn2)
 refine⟨o',{L with bv:=v},⟨?_,ho _ _ m.top,hb,m.fv,h3,m.objs.frame (fun c=>ho c _) fun c h=>old c _ h sM sM,fun x hx=>?_⟩,⟨hl,h1,fun c hc hn=>hf c hc ?_ (by rw[hn];simp)⟩,rfl,rfl,rfl⟩
 ·grind
 ·have hr:=m.refs x hx
  exact⟨hr.1.frame (fun c=>ho c _) fun c h=>old c _ h sM sM,hr.2.frame (fun c=>ho c _) fun c h=>old c _ h sM sM⟩
 ·rintro rfl;rw[m.top]at hn;cases hn
end Go.Cs
namespace Go.Cs.Tryz
open Go Go.Cs
section
variable {H : Gb} {hb : Nat} {s : Hp} {L : G6}
theorem Gf1(p:PH H hb s L)(k:s.Ok){x:Ob}(hx:x∈s.objs){ob:Nat}{dv:CV}(VN:H[ob]?=some ⟨Nz x .Gc dv,.rw,0⟩) (hno:ob∉L.all hb)
  {E0:Env} (h0:E0 0=.ptr hb 0) (h8:E0 8=.ptr ob 0) (h9:E0 9=.i 0) {r:Option (CX×Env×Gb)} (hr:den P (.loop RI) E0 H=r):
  ∃E' H' rv,r=some (.exit 4,E',H')∧But H H' ob∧H'[ob]?=some ⟨Nz x rv dv,.rw,0⟩∧IL H.length H' rv x.refs∧∀t,t∉wr RI→E' t=E0 t:=by
 have hok:=k.ob x hx
 have hnr:=hok.nr
 have Yv:=k.obj hx
 have hf:=hok.fits
 have hnb:=k.nb
 have hsn:s.nw=64*s.blk.length:=rfl
 obtain⟨x',E',H',e,-,⟨rfl,g,rv,q1,q2⟩,fr⟩:=Gs (p:=P) (c:=RI) (E0:=E0) (H0:=H)
  (fun q E H'=>But H H' ob∧∃(j:Nat)(rv:CV),E 9=.i j∧j≤x.refs.length∧q=x.refs.length-j∧H'[ob]?=some ⟨Nz x rv dv,.rw,0⟩∧IL H.length H' rv (x.refs.take j))
  (fun x' E' H'=>x'=.exit 4∧But H H' ob∧∃rv,H'[ob]?=some ⟨Nz x rv dv,.rw,0⟩∧IL H.length H' rv x.refs) (by
   rintro q E H' hE ⟨g,j,rv,e9,hj,rfl,q1,q2⟩
   have e0:=(hE 0 dK).trans h0
   have e8:=(hE 8 dK).trans h8
   have p':=p.but g hno
   have q1':=q1
   unfold Nz at q1'
   by_cases c:j<x.refs.length
   ·have c':decide ((j:Int)<(x.refs.length:Int))=true:=G7 oM
    obtain⟨X,a1,g1⟩:=KE p' k x.addr j oM
    have hra:s.GN x.addr j=(x.refs.getD j 0,0):=by
     unfold Hp.GN
     grind
    rw[hra]at a1
    have t1:=Gr.get g1 q1'
    obtain⟨v',X2,b1,b2,b3⟩:=IL.push (q2.keeps g1) (Jm g.len g1.len) (by rw[List.length_take];omega) (x.refs.getD j 0)
    have Gu4:=Gf VN
    have t2:X2[ob]?=some ⟨[.i x.addr,.i x.id,.i x.refs.length,.i x.data.length,.i x.kd,rv,dv,.bool x.pin],.rw,0⟩:=(b3.keep ob (Gf t1) oM).trans t1
    have hel:elems (X++[⟨[.i (x.refs.getD j 0)],.rw,1⟩]) 1 (.slice X.length 0 1 1 1 false)=some (1,[.i (x.refs.getD j 0)]):=by
     rw[J7 oM]
     have:=@Kc;exact W0
    have lv:leaf v'=true:=IL.leaf b2
    have w1:IntKind.i64.wrap ((j:Int)+1)=((j+1:Nat):Int):=Gh oM
    have htk:x.refs.take (j+1)=x.refs.take j++[x.refs.getD j 0]:=by simp_all
    unfold Q9 at a1
    have lt2:=Gf t2
    apply Gp (k':=x.refs.length-(j+1))
    ·simp(disch:=first|exact dz|fail) only[simprocAttr,Gx,↓reduceIte,RI,e0,e8,e9,q1',c',a1,t1,fill,splice,hel,b1,t2,Ve lv,w1]
     rfl
    ·omega
    ·refine⟨?_,j+1,v',uA,oM,rfl,by rw[ZG lt2];rfl,?_⟩
     ·refine⟨?_,fun c hc hn=>?_⟩
      ·rw[List.length_set];exact Jm g.len (Jm g1.len b3.len)
      ·rw[NA (Ne.symm hn),b3.keep c (by have:=g.len;have:=g1.len;omega) oM,g1.keep c (by have:=g.len;omega) fun h=>h,g.keep c hc hn]
     ·rw[htk]
      exact b2.frame (fun c h=>h) fun c h=>by
       rw[NA]
       rintro rfl
       have:=(Gm.1 h).1
       omega
   ·have c':decide ((j:Int)<(x.refs.length:Int))=false:=G5 oM
    rw[QA oM]at q2
    apply Gj (x:=.exit 4)
    ·refine W4 e8 e9 q1' c' ?_
     rfl
    ·simp
    ·exact⟨rfl,g,rv,q1,q2⟩) _ ⟨Keeps.refl _ _,0,.Gc,h9,oM,rfl,VN,IL.nil⟩
 grind
theorem Gh3(p:PH H hb s L)(k:s.Ok){x:Ob}(hx:x∈s.objs){ob:Nat}{rv:CV}(VN:H[ob]?=some ⟨Nz x rv .Gc,.rw,0⟩) (hno:ob∉L.all hb)
  {E0:Env} (h0:E0 0=.ptr hb 0) (h8:E0 8=.ptr ob 0) (h13:E0 13=.i 0) {r:Option (CX×Env×Gb)} (hr:den P (.loop R5) E0 H=r):
  ∃E' H' dv,r=some (.exit 6,E',H')∧But H H' ob∧H'[ob]?=some ⟨Nz x rv dv,.rw,0⟩∧IL H.length H' dv x.data∧∀t,t∉wr R5→E' t=E0 t:=by
 have hok:=k.ob x hx
 have hnd:=hok.nd
 have Yv:=k.obj hx
 have hf:=hok.fits
 have hnb:=k.nb
 have hsn:s.nw=64*s.blk.length:=rfl
 obtain⟨x',E',H',e,-,⟨rfl,g,dv,q1,q2⟩,fr⟩:=Gs (p:=P) (c:=R5) (E0:=E0) (H0:=H)
  (fun q E H'=>But H H' ob∧∃(j:Nat)(dv:CV),E 13=.i j∧j≤x.data.length∧q=x.data.length-j∧H'[ob]?=some ⟨Nz x rv dv,.rw,0⟩∧IL H.length H' dv (x.data.take j))
  (fun x' E' H'=>x'=.exit 6∧But H H' ob∧∃dv,H'[ob]?=some ⟨Nz x rv dv,.rw,0⟩∧IL H.length H' dv x.data) (by
   rintro q E H' hE ⟨g,j,dv,e13,hj,rfl,q1,q2⟩
   have e0:=(hE 0 dK).trans h0
   have e8:=(hE 8 dK).trans h8
   have p':=p.but g hno
   have q1':=q1
   unfold Nz at q1'
   by_cases c:j<x.data.length
   ·have c':decide ((j:Int)<(x.data.length:Int))=true:=G7 oM
    obtain⟨X,a1,g1⟩:=FD p' k x.addr j oM
    have hra:s.JM x.addr j=(x.data.getD j 0,0):=by
     unfold Hp.JM
     grind
    rw[hra]at a1
    have t1:=Gr.get g1 q1'
    obtain⟨v',X2,b1,b2,b3⟩:=IL.push (q2.keeps g1) (Jm g.len g1.len) (by rw[List.length_take];omega) (x.data.getD j 0)
    have Gu4:=Gf VN
    have t2:X2[ob]?=some ⟨[.i x.addr,.i x.id,.i x.refs.length,.i x.data.length,.i x.kd,rv,dv,.bool x.pin],.rw,0⟩:=(b3.keep ob (Gf t1) oM).trans t1
    have hel:elems (X++[⟨[.i (x.data.getD j 0)],.rw,1⟩]) 1 (.slice X.length 0 1 1 1 false)=some (1,[.i (x.data.getD j 0)]):=by
     rw[J7 oM]
     have:=@Kc;exact W0
    have lv:leaf v'=true:=IL.leaf b2
    have w1:IntKind.i64.wrap ((j:Int)+1)=((j+1:Nat):Int):=Gh oM
    have htk:x.data.take (j+1)=x.data.take j++[x.data.getD j 0]:=by simp_all
    unfold Q9 at a1
    have lt2:=Gf t2
    apply Gp (k':=x.data.length-(j+1))
    ·simp(disch:=first|exact dz|fail) only[simprocAttr,Gx,↓reduceIte,R5,e0,e8,e13,q1',c',a1,t1,fill,splice,hel,b1,t2,Ve lv,w1]
     rfl
    ·omega
    ·refine⟨?_,j+1,v',uA,oM,rfl,by rw[ZG lt2];rfl,?_⟩
     ·refine⟨?_,fun c hc hn=>?_⟩
      ·rw[List.length_set];exact Jm g.len (Jm g1.len b3.len)
      ·rw[NA (Ne.symm hn),b3.keep c (by have:=g.len;have:=g1.len;omega) oM,g1.keep c (by have:=g.len;omega) fun h=>h,g.keep c hc hn]
     ·rw[htk]
      exact b2.frame (fun c h=>h) fun c h=>by
       rw[NA]
       rintro rfl
       have:=(Gm.1 h).1
       omega
   ·have c':decide ((j:Int)<(x.data.length:Int))=false:=G5 oM
    rw[QA oM]at q2
    apply Gj (x:=.exit 6)
    ·refine W4 e8 e13 q1' c' ?_
     rfl
    ·simp
    ·exact⟨rfl,g,dv,q1,q2⟩) _ ⟨Keeps.refl _ _,0,.Gc,h13,oM,rfl,VN,IL.nil⟩
 grind
theorem Gjk{k0:Nat}(p:PH H hb s L)(k:s.Ok)(hp0:∀c∈L.all hb,c<k0){o:Tags}{rb:Nat}{LR:Qc}(m:JL o H rb ⟨[],[],s.born,s.fwd⟩ LR)(hk0:k0≤H.length)(hfr:∀c t,o c=some t→k0≤c)
  {E0:Env}(h0:E0 0=.ptr hb 0)(h3:E0 3=.ptr rb 0)(h4:E0 4=.i 0){r:Option (CX×Env×Gb)}(hr:den P (.loop Xo) E0 H=r):
  ∃E' H' o' L',r=some (.exit 0,E',H')∧Keeps H H' (fun c=>k0≤c)∧JL o' H' rb {s with objs:=[]} L'∧(∀c t,o' c=some t→k0≤c)∧∀t,t∉wr Xo→E' t=E0 t:=by
 have hnb:=k.nb
 obtain⟨x',E',H',e,-,⟨rfl,g,o',L',q1,q2⟩,fr⟩:=Gs (p:=P) (c:=Xo) (E0:=E0) (H0:=H)
  (fun q E H'=>Keeps H H' (fun c=>k0≤c)∧∃(j:Nat)(o':Tags)(L':Qc),E 4=.i j∧j≤s.blk.length∧q=s.blk.length-j∧JL o' H' rb {s with blk:=s.blk.take j,objs:=[]} L'∧∀c t,o' c=some t→k0≤c)
  (fun x' E' H'=>x'=.exit 0∧Keeps H H' (fun c=>k0≤c)∧∃(o':Tags)(L':Qc),JL o' H' rb {s with objs:=[]} L'∧∀c t,o' c=some t→k0≤c) (by
   rintro q E H' hE ⟨g,j,o',L',e4,hj,rfl,mj,fj⟩
   have e0:=(hE 0 dK).trans h0
   have e3:=(hE 3 dK).trans h3
   have p':PH H' hb s L:=p.frame fun c hc=>g.keep c (p.lt c hc) (by have:=hp0 c hc;omega)
   have hbl:=KA p' k
   have t0:=mj.cells
   by_cases c:j<s.blk.length
   ·have c':decide ((j:Int)<(s.blk.length:Int))=true:=G7 oM
    obtain⟨hx,hxe⟩:=Hp.GaJ c
    have hs:=Uy p' k c
    have hsp:run P 72 [.ptr hb 0,.i j] H'=some (.i (s.blk[j]).2,H'):=by
     have:=Oo p' k j
     have e2:Hp.space s (j:Int)=((s.blk[j]).2:Int):=by
      unfold Hp.space
      grind
     rw[e2]at this
     exact this
    rw[hxe]at hs
    obtain⟨a,b⟩:∃a b,s.blk[j]=(a,b):=⟨_,_,rfl⟩
    obtain⟨y,hy⟩:∃y,y=s.blk[j]:=⟨_,rfl⟩
    rw[←hy]at hs hsp hx
    have gB:Gr H' (H'++[⟨[.i y.1,.i y.2],.rw,2⟩]):=Gr.app _ _
    have mB:=mj.gr gB
    have hlB:(H'++[(⟨[.i y.1,.i y.2],.rw,2⟩:JD)]).length=H'.length+1:=by simp
    have hltk:(s.blk.take j).length=j:=by rw[List.length_take];omega
    have hAt:=mB.blk
    simp only[hltk]at hAt
    obtain⟨X,a1,a2,a3,a4⟩:=hAt.append (k:=1) (new:=[.i y.1,.i y.2]) oM (by unfold JF;omega) (by simp[Jo]) rfl
    rw[hlB]at a1 a2 a3
    have t1:X[rb]?=_:=(a4 rb (mB.dom _ _ mB.top) (by rw[mB.top];simp)).trans mB.cells
    have hel:elems (H'++[⟨[.i y.1,.i y.2],.rw,2⟩]) 2 (.slice H'.length 0 1 1 2 false)=some (1,[.i y.1,.i y.2]):=by
     rw[J7 oM]
     have:=@Kc;exact W0
    have htk:s.blk.take (j+1)=s.blk.take j++[y]:=by rw[QV,hx];rfl
    have Wi:(s.blk.take (j+1)).length=j+1:=by rw[List.length_take];omega
    have GtH:rb<H'.length:=mj.dom _ _ mj.top
    have t0':=t0
    dsimp only at t0' t1
    obtain⟨o2,L2,r1,r2,r3,r4,r5⟩:=JL.Gm8 mj (l:=s.blk.take (j+1)) (v:=.slice (H'.length+1) 0 (j+1) (j+1) 2 true) (Hf:=X.set rb ⟨[.slice (H'.length+1) 0 (j+1) (j+1) 2 true,L'.ov,L'.fv,.i s.born],.rw,0⟩)
     (.inr ⟨H'.length+1,true,by rw[Wi],Gm.2 ⟨Nat.le_succ _,rfl⟩,by rw[NA oM,a3,htk,YH];rfl,by rw[K9,Wi];omega⟩)
     (by rw[List.length_set,a2];omega) (by grind) (fun d hd hr hn=>by rw[NA (Ne.symm hr),a4 d oM hn,I7 hd])
    have w1:IntKind.i64.wrap ((j:Int)+1)=((j+1:Nat):Int):=Gh oM
    apply Gp (k':=s.blk.length-(j+1))
    ·refine W14 e0 e3 e4 hbl c' t0' hs hsp @J5 @Gu hel a1 t1 w1 ?_
     rfl
    ·omega
    ·refine⟨⟨Jm g.len r2.len,fun c hc hn=>?_⟩,j+1,o2,L2,uA,oM,rfl,r1,fun c t h=>?_⟩
     ·rw[r2.keep c (JI hc g.len) (Jg fun h=>?_),g.keep c hc hn]
      cases e:o' c with
      |none=>exact h e
      |some u=>exact hn (fj c u e)
     ·by_cases hc:c<H'.length
      ·rw[r2.tag c hc]at h;exact fj c t h
      ·have:=g.len;omega
   ·have c':decide ((j:Int)<(s.blk.length:Int))=false:=G5 oM
    rw[QA oM]at mj
    apply Gj (x:=.exit 0)
    ·refine GH ?_
     rfl
    ·simp
    ·exact⟨rfl,g,o',L',mj,fj⟩) _ ⟨Keeps.refl _ _,0,o,LR,h4,oM,rfl,by simpa using m,hfr⟩
 grind
end
end Go.Cs.Tryz

namespace Go.Cs.Tryz
open Go Go.Cs
section
variable {H : Gb} {hb : Nat} {s : Hp} {L : G6}
theorem Gjx{k0:Nat}(p:PH H hb s L)(k:s.Ok)(hp0:∀c∈L.all hb,c<k0){o:Tags}{rb:Nat}{LR:Qc}(m:JL o H rb {s with objs:=[]} LR)(hk0:k0≤H.length)(hfr:∀c t,o c=some t→k0≤c)
  {v6:CV}(hv6:∀H':Gb,(∀c,c<H.length→o c=none→H'[c]?=H[c]?)→LI H' v6 s.all)
  {E0:Env} (h0:E0 0=.ptr hb 0) (h3:E0 3=.ptr rb 0) (h6:E0 6=v6) (h7:E0 7=.i 0) {r:Option (CX×Env×Gb)} (hr:den P (.loop RS) E0 H=r):
  ∃E' H' o' L',r=some (.exit 2,E',H')∧KY o H o' H'∧JL o' H' rb s L'∧∀t,t∉wr RS→E' t=E0 t:=by
 have few:=k.few
 have hnb:=k.nb
 have hsn:s.nw=64*s.blk.length:=rfl
 have hall:s.all.length=s.objs.length:=by simp[Hp.all]
 have Grt:∀c,c<k0→o c=none:=fun c hc=>Jg fun h=>by
  cases e:o c with
  |none=>exact h e
  |some u=>have:=hfr c u e;omega
 obtain⟨x',E',H',e,-,⟨rfl,o',L',g,q1⟩,fr⟩:=Gs (p:=P) (c:=RS) (E0:=E0) (H0:=H)
  (fun q E H'=>∃(j:Nat)(o':Tags)(L':Qc),E 7=.i j∧j≤s.objs.length∧q=s.objs.length-j∧KY o H o' H'∧JL o' H' rb {s with objs:=s.objs.take j} L')
  (fun x' E' H'=>x'=.exit 2∧∃(o':Tags)(L':Qc),KY o H o' H'∧JL o' H' rb s L') (by
   rintro q E H' hE ⟨j,o',L',e7,hj,rfl,g,mj⟩
   have e0:=(hE 0 dK).trans h0
   have e3:=(hE 3 dK).trans h3
   have e6:=(hE 6 dK).trans h6
   have p':PH H' hb s L:=p.frame fun c hc=>g.keep c (p.lt c hc) (Grt c (hp0 c hc))
   have li:=hv6 H' g.keep
   have hvl:=li.len H'
   rw[hall]at hvl
   by_cases c:j<s.objs.length
   ·have c':decide ((j:Int)<(s.objs.length:Int))=true:=G7 oM
    have hx:s.objs[j]?=some s.objs[j]:=JG c
    obtain⟨x,hxe⟩:∃x,x=s.objs[j]:=⟨_,rfl⟩
    rw[←hxe]at hx
    have hxm:=JV hx
    have hok:=k.ob x hxm
    have Yv:=k.obj hxm
    have hfi:=hok.fits
    have hxa:s.all[j]?=some (x.addr:Int):=by simp[Hp.all,hx]
    obtain⟨lb,lo,i1,i2,i3⟩:=li.at hxa
    have i3a:=i3 H' (Keeps.refl _ _)
    have GnD:=Gaz p' k x.addr oM
    have hpv:s.pinnedAt x.addr=x.pin:=by unfold Hp.pinnedAt;rw[Yv]
    rw[hpv]at GnD
    obtain⟨Y,hY⟩:∃Y:Gb,Y=H'++[⟨[.i x.addr,.int .i64 0,.int .i64 0,.int .i64 0,.int .i64 0,.Gc,.Gc,.bool x.pin],.rw,0⟩]:=⟨_,rfl⟩
    have gY:Gr H' Y:=by rw[hY];exact Gr.app _ _
    have lY:Y[H'.length]?=some ⟨[.i x.addr,.int .i64 0,.int .i64 0,.int .i64 0,.int .i64 0,.Gc,.Gc,.bool x.pin],.rw,0⟩:=by rw[hY];simp
    have pY:=p'.gr gY
    have hid:=NS pY k x.addr oM
    have GrG:s.Nw x.addr=((x.id:Int),0):=by unfold Hp.Nw;rw[Yv]
    rw[GrG]at hid
    obtain⟨Y1,hY1⟩:∃Y1:Gb,Y1=Y.set H'.length ⟨[.i x.addr,.i x.id,.int .i64 0,.int .i64 0,.int .i64 0,.Gc,.Gc,.bool x.pin],.rw,0⟩:=⟨_,rfl⟩
    have lY1:Y1[H'.length]?=some ⟨[.i x.addr,.i x.id,.int .i64 0,.int .i64 0,.int .i64 0,.Gc,.Gc,.bool x.pin],.rw,0⟩:=by grind
    have gY1:Gr H' Y1:=by rw[hY1];exact⟨by rw[List.length_set];exact gY.len,fun c hc _=>by grind⟩
    have pY1:=p'.gr gY1
    obtain⟨Y2,hs2,g2⟩:=NJ pY1 k x.addr oM
    have hsv:s.JO x.addr=(Jb x.refs.length x.data.length x.kd,0):=by unfold Hp.JO;rw[Yv]
    rw[hsv]at hs2
    have lY2:=Gr.get g2 lY1
    obtain⟨Y3,hY3⟩:∃Y3:Gb,Y3=Y2.set H'.length ⟨Nz x .Gc .Gc,.rw,0⟩:=⟨_,rfl⟩
    have lY3:Y3[H'.length]?=some ⟨Nz x .Gc .Gc,.rw,0⟩:=by grind
    have gY3:Gr H' Y3:=by
     have:=gY1.trans g2
     rw[hY3];exact⟨by rw[List.length_set];exact this.len,fun c hc _=>by rw[NA oM,this.keep c hc fun h=>h]⟩
    have pY3:=p'.gr gY3
    have hno:H'.length∉L.all hb:=fun h=>by have:=p'.lt _ h;omega
    have TD:I_ Y2 H'.length (some ⟨[.i x.addr,.i x.id,.int .i64 0,.int .i64 0,.int .i64 0,.Gc,.Gc,.bool x.pin],.rw,0⟩) 2 [.i x.refs.length,.i x.data.length,.i x.kd]=some Y3:=by
     rw[Ya sM (by simp[Jo]),hY3];rfl
    have w1:IntKind.i64.wrap ((j:Int)+1)=((j+1:Nat):Int):=Gh oM
    unfold Q9 at hid
    unfold Jb at hs2
    suffices fin:∃E' H2 o2 L2,den P RS E H'=some (.normal,E',H2)∧E' 7=.i ((j+1:Nat):Int)∧KY o' H' o2 H2∧JL o2 H2 rb {s with objs:=s.objs.take (j+1)} L2 by
     obtain⟨E',H2,o2,L2,f1,f2,f3,f4⟩:=fin
     exact Gp f1 (k':=s.objs.length-(j+1)) oM ⟨j+1,o2,L2,f2,oM,rfl,g.trans f3,f4⟩
    refine W10 e0 e6 e7 hvl c' i2 i3a GnD @J5 @Gu ?_
    rw[←hY]
    refine W3 lY hid e0 ?_
    rw[←hY1]
    refine W4 lY1 hs2 lY2 TD ?_
    generalize hr:den P (.loop RI) _ _=r
    obtain⟨E4,Y4,rv,rfl,b4,l4,il4,fr4⟩:=Gf1 pY3 k hxm lY3 hno (by simp[Gg,e0]) uA uA hr
    have f0:=fr4 0 dK
    have f8:=fr4 8 dK
    have f3:=fr4 3 dK
    have f7:=fr4 7 dK
    simp only[Gg,Nat.reduceEqDiff,↓reduceIte,e0,e3,e7]at f0 f8 f3 f7
    have pY4:=pY3.but b4 hno
    refine GH ?_
    generalize hr:den P (.loop R5) _ _=r
    obtain⟨E5,Y5,dv,rfl,b5,l5,il5,fr5⟩:=Gh3 pY4 k hxm l4 hno (by simp[Gg,f0]) (by simp[Gg,f8]) uA hr
    have h8:=fr5 8 dK
    have h3':=fr5 3 dK
    have h7':=fr5 7 dK
    simp only[Gg,Nat.reduceEqDiff,↓reduceIte,f8,f3,f7]at h8 h3' h7'
    have e34:=b4.len
    have e45:=b5.len
    have e03:=gY3.len
    have Gzh:H'.length<Y3.length:=Gf lY3
    have gY4:Gr H' Y4:=⟨oM,fun c hc _=>by rw[b4.keep c oM oM,gY3.keep c hc fun h=>h]⟩
    have gY5:Gr H' Y5:=⟨oM,fun c hc _=>by rw[b5.keep c oM oM,gY4.keep c hc fun h=>h]⟩
    obtain⟨o1,a1,a2,a3⟩:=At.adopt (o:=o') (t:=(0,3,x.id)) il4 fun d u h=>by have:=mj.dom d u h;omega
    have d1:∀d u,o1 d=some u→d<Y4.length:=fun d u h=>by
     grind
    obtain⟨o2,c1,c2,c3⟩:=At.adopt (o:=o1) (t:=(0,4,x.id)) il5 d1
    have ho2:∀d u,o' d=some u→o2 d=some u:=fun d u h=>by
     have hd:=mj.dom d u h
     grind
    have d2:∀d u,o2 d=some u→d<Y5.length:=fun d u h=>by
     grind
    obtain⟨Y6,hY6⟩:∃Y6:Gb,Y6=Y5++[⟨Nz x rv dv,.rw,8⟩]:=⟨_,rfl⟩
    have g56:Gr Y5 Y6:=by rw[hY6];exact Gr.app _ _
    have l6:Y6.length=Y5.length+1:=by rw[hY6];simp
    have gY6:=gY5.trans g56
    have m6:JL o2 Y6 rb {s with objs:=s.objs.take j} L':=mj.frame (fun d u h=>by have:=d2 d u h;omega) ho2 fun d u h=>gY6.keep d (mj.dom d u h) fun h=>h
    have rvA:At o2 (0,3,x.id) Y6 rv 1 x.refs.length (ints x.refs):=by
     have:At o2 (0,3,x.id) Y5 rv 1 x.refs.length (ints x.refs):=a3.frame (fun d h=>by rw[c1 d (d1 d _ h),h]) fun d h=>by
      have hd:=d1 d _ h
      refine b5.keep d hd ?_
      rintro rfl
      by_cases hh:H'.length<Y3.length
      ·rw[a1 _ hh]at h
       have:=mj.dom _ _ h
       omega
      ·omega
     exact this.keeps g56
    have dvA:At o2 (0,4,x.id) Y6 dv 1 x.data.length (ints x.data):=c3.keeps g56
    have hltk:(s.objs.take j).length=j:=by rw[List.length_take];omega
    have Wi:(s.objs.take (j+1)).length=j+1:=by rw[List.length_take];omega
    have htk:s.objs.take (j+1)=s.objs.take j++[x]:=by rw[QV,hx];rfl
    have hAt:=m6.objs
    simp only[hltk]at hAt
    have lvr:(Nz x rv dv).all leaf=true:=by simp[Nz,Jo,NZ,IL.leaf il4,IL.leaf il5]
    obtain⟨X,z1,z2,z3',z4⟩:=hAt.append (k:=1) (new:=Nz x rv dv) oM (by unfold JF;omega) lvr rfl
    have t6:=m6.cells
    have t5:Y5[rb]?=_:=(gY5.keep rb (mj.dom _ _ mj.top) fun h=>h).trans mj.cells
    have tX:X[rb]?=_:=(z4 rb (m6.dom _ _ m6.top) (by rw[m6.top];simp)).trans t6
    have GtH:rb<H'.length:=mj.dom _ _ mj.top
    have hel:elems Y6 8 (.slice Y5.length 0 1 1 8 false)=some (1,Nz x rv dv):=by
     rw[J7 oM,hY6,lX8 (Nat.le_refl _)]
     simp[Fw,Nz,QA]
    have hld:Fw Y5[H'.length]? 0 8=some (Nz x rv dv):=by rw[l5];rfl
    have GgJ:fill [.int .i64 0,.int .i64 0,.int .i64 0,.int .i64 0,.int .i64 0,.Gc,.Gc,.bool false] [(0,8,.agg (Nz x rv dv))]=some (Nz x rv dv):=rfl
    have hne:∀y∈s.objs.take j,y.id≠x.id:=fun y hy=>by
     obtain⟨i,hi,he⟩:=List.getElem_of_mem hy
     rw[List.length_take]at hi
     have hy':s.objs[i]?=some y:=by grind
     exact Nf (r:=fun a b:Ob=>a.id≠b.id) k.ids oM hy' hx
    obtain⟨o3,L3,r1,r2,-⟩:=JL.Gjd m6 (l:=s.objs.take (j+1)) (hv:=fun i=>if i=x.id then(rv,dv)else L'.hv i) (v:=.slice Y6.length 0 (j+1) (j+1) 8 true) (born:=s.born) (Hf:=X.set rb ⟨[L'.bv,.slice Y6.length 0 (j+1) (j+1) 8 true,L'.fv,.i s.born],.rw,0⟩)
     (.inr ⟨Y6.length,true,by rw[Wi],Gm.2 ⟨Nat.le_refl _,rfl⟩,by
      rw[NA (by have:=gY6.len;omega),z3',htk,YL]
      have same:∀l:List Ob,(∀y∈l,y.id≠x.id)→Gv (fun i=>if i=x.id then(rv,dv)else L'.hv i) l=Gv L'.hv l:=fun l=>by
       induction l with
       |nil=>intro _;rfl
       |cons y l ih=>
        intro h
        rw[Jc,Jc,ih fun z hz=>h z (U5 _ hz)]
        simp[G9,h y Nr]
      rw[same _ hne]
      simp[Gv,G9,Nz],by rw[NW,Wi]⟩)
     (by rw[List.length_set,z2];omega) (by grind) (fun d hd hr hn=>by rw[NA (Ne.symm hr),z4 d hd hn])
     (fun y hy=>by
      rw[htk]at hy
      rcases NV.1 hy with hy|hy
      ·rw[if_neg (hne y hy)];exact m6.refs y hy
      grind)
    have GqM:KY o' H' o2 Y6:=⟨gY6.len,fun d hd=>by rw[c1 d oM,a1 d oM],fun d hd _=>gY6.keep d hd fun h=>h⟩
    dsimp only at t5 tX
    refine W5 h8 h3' t5 hld GgJ ?_
    rw[←hY6]
    have GqY:Option.map (fun cs=>(1,cs)) (Fw (some ({cells:=Nz x rv dv,mode:=Mode.rw,Jd:=8}:JD)) 0 8)=some (1,Nz x rv dv):=rfl
    refine W5 GqY z1 tX h7' w1 ?_
    exact⟨_,_,o3,L3,rfl,uA,GqM.trans r2,r1⟩
   ·have c':decide ((j:Int)<(s.objs.length:Int))=false:=G5 oM
    rw[QA oM]at mj
    apply Gj (x:=.exit 2)
    ·refine GH ?_
     rfl
    ·simp
    ·exact⟨rfl,o',L',g,mj⟩) _ ⟨0,o,LR,h7,oM,rfl,⟨Nat.le_refl _,fun _ _=>rfl,fun _ _ _=>rfl⟩,by simpa using m⟩
 grind
end
end Go.Cs.Tryz

namespace Go.Cs.Tryz
open Go Go.Cs
section
variable {H : Gb} {hb : Nat} {s : Hp} {L : G6}
theorem LJ(p:PH H hb s L)(k:s.Ok):
  ∃rb H' o L',run P 21 [.ptr hb 0] H=some (.ptr rb 0,H')∧Gr H H'∧JL o H' rb s L'∧(∀c t,o c=some t→H.length≤c):=by
 have hbi:=Xp p k
 obtain⟨X,hX⟩:∃X:Gb,X=H++[⟨[.Gc,.Gc,.Gc,.i s.born],.rw,0⟩]:=⟨_,rfl⟩
 have gX:Gr H X:=by rw[hX];exact Gr.app _ _
 have lX:X.length=H.length+1:=by rw[hX];simp
 have pX:=p.gr gX
 have m0:JL (Tags.put (fun _=>none) H.length (0,0,0)) X H.length ⟨[],[],s.born,s.fwd⟩ ⟨.Gc,.Gc,.Gc,fun _=>(.Gc,.Gc)⟩:=by
  refine⟨fun c t hc=>?_,Tags.put_eq,by rw[hX];simp,rfl,.inl ⟨rfl,rfl,.inl rfl⟩,.inl ⟨rfl,rfl,.inl rfl⟩,fun x hx=>by cases hx⟩
  by_cases e:c=H.length
  ·omega
  ·rw[Tags.GK e]at hc;cases hc
 rw[Gi c21 _ _ sM]
 refine GH ?_
 rw[←hX]
 generalize hr:den P (.loop Xo) _ _=r
 obtain⟨E1,X1,o1,L1,rfl,g1,m1,f1,fr1⟩:=Gjk pX k (fun c hc=>p.lt c hc) m0 oM (fun c t hc=>by
  by_cases e:c=H.length
  ·omega
  ·rw[Tags.GK e]at hc;cases hc) uA uA uA hr
 have a0:=fr1 0 dK
 have a3:=fr1 3 dK
 simp only[Gg,Nat.reduceEqDiff,↓reduceIte]at a0 a3
 have g01:Gr H X1:=⟨Jm gX.len g1.len,fun c hc _=>by rw[g1.keep c oM oM,gX.keep c hc fun h=>h]⟩
 have p1:=p.gr g01
 obtain⟨v6,X2,r2,g2,il⟩:=Oq p1 k
 refine GH ?_
 generalize hr:den P (.loop RS) _ _=r
 have p2:=p1.gr g2
 have m2:=m1.gr g2
 have il0:=il.li
 obtain⟨E3,X3,o3,L3,rfl,g3,m3,fr3⟩:=Gjx (k0:=H.length) p2 k (fun c hc=>p.lt c hc) m2 (Jm g01.len g2.len) f1 (v6:=v6) (fun H' hk=>by
   rcases il with h|⟨c,f,i1,i2,i3,i4⟩
   ·exact .inl h
   ·have hc:=(Gm.1 i2).1
    refine .inr ⟨c,f,i1,Gm.2 ⟨Nat.zero_le _,rfl⟩,?_,i4⟩
    rw[hk c (Gf i3) (Jg fun h=>?_),i3]
    cases e2:o1 c with
    |none=>exact h e2
    |some u=>have:=m1.dom c u e2;omega) (by simp[Gg,a0]) (by simp[Gg,a3]) uA uA hr
 have b3:=fr3 3 dK
 simp only[Gg,Nat.reduceEqDiff,↓reduceIte,a3]at b3
 refine GH ?_
 refine⟨_,_,o3,L3,rfl,?_,m3,fun c t h=>?_⟩
 ·have h1:=g01.len
  have h2:=g2.len
  refine⟨by have:=g3.len;omega,fun c hc _=>?_⟩
  rw[g3.keep c oM (Jg fun h=>?_),g2.keep c oM fun h=>h,g01.keep c hc fun h=>h]
  cases e:o1 c with
  |none=>exact h e
  |some u=>have:=f1 c u e;omega
 ·have h1:=g01.len
  have h2:=g2.len
  by_cases hc:c<X2.length
  ·rw[g3.tag c hc]at h;exact f1 c t h
  ·omega
end
end Go.Cs.Tryz
namespace Go.Cs.Tryz
open Go Go.Cs A
abbrev Fa:Gq:=T [b 29 .lss 28 27] (S (J 29 (X 2)) (S (B 3 (T [m 30 28,m 5 30] (T [m 31 3,m 32 5,e 33 (.build [i 0,i 0,i 0] [(0,1,t 31),(2,1,t 32)]),e 6 (.new [i 0,i 0,i 0]),st 3 6 33] (S (T [m 34 3,bk 35 .eql 34 0] (I 35 (R [m 36 5,bk 37 .quo 36 16,m 38 5,bk 39 .rem 38 16,f 40 1 6,st 1 40 37,f 41 2 6,st 1 41 39]))) (S (D [⟨m 42 4,0,0,0⟩,⟨m 43 5,1,0,0⟩,⟨x 44 1 42 43,2,0,0⟩,⟨l 45 1 44,3,1,0⟩,⟨bk 46 .neq 45 0,4,0,0⟩,⟨m 47 46,5,0,0⟩,⟨gt 47 (m 48 0),6,0,0⟩,⟨gt 47 (lg 49 3 6),7,1,0⟩,⟨gt 47 (m 50 4),8,0,0⟩,⟨gt 47 (m 51 5),9,0,0⟩,⟨gt 47 (x 52 1 50 51),10,0,0⟩,⟨gt 47 (e 53 (.N8 (t 48) [t 49,t 52] [(304,"dustcart/alloc.place",335),(305,"dustcart/alloc.place",340),(306,"dustcart/alloc.place",348),(307,"dustcart/alloc.place",349),(308,"dustcart/alloc.place",353)])),11,3,0⟩,⟨gt 47 (no 54 53),12,0,1⟩,⟨an 55 47 54,13,0,1⟩]) (I 55 .ret)))))) (R [bk 56 .add 28 1,m 28 56])))
abbrev OY:Gq:=T [b 22 .lss 21 20] (S (J 22 (X 0)) (S (B 1 (T [m 23 21,x 24 1 19 21,l 25 1 24,m 3 23,m 4 25] (T [m 26 4,le 27 26,n 28 0] (B 2 (W Fa))))) (R [bk 57 .add 21 1,m 21 57])))
def Gtk:Gl:=⟨58,0,S (D [⟨l 7 1 1,0,1,0⟩,⟨z 8 7,1,0,0⟩,⟨f 9 1 8,2,0,0⟩,⟨l 10 1 9,3,1,0⟩,⟨l 11 1 1,4,1,0⟩,⟨z 12 11,5,0,0⟩,⟨f 13 2 12,6,0,0⟩,⟨l 14 1 13,7,1,0⟩,⟨l 15 1 1,8,1,0⟩,⟨z 16 15,9,0,0⟩,⟨f 17 3 16,10,0,0⟩,⟨l 18 1 17,11,1,0⟩,⟨e 19 (.buildSlice 1 [.Gc,.Gc,.Gc] 3 [(0,1,t 10),(1,1,t 14),(2,1,t 18)]),12,0,0⟩,⟨le 20 19,13,0,0⟩,⟨n 21 0,14,0,0⟩]) (B 0 (W OY)),[]⟩
theorem GsZ:P 224=some Gtk:=by kernel_rfl
end Go.Cs.Tryz
namespace Go.Cs
open Go
theorem Un{l:List CV}{i t:Nat}{v:CV}:entry (l.set i v) t=if t=i then(if i<l.length then v else .undef)else entry l t:=by
 unfold entry
 grind
theorem Vb{n t:Nat}{E:Env}:entry ((List.range n).map E) t=if t<n then E t else .undef:=by
 unfold entry
 grind
theorem Pj{F:Jl}{b z:Nat}{ps env args e1:List CV}{H H1 H2:Gb}(h:H[b]?=some (Je 0 ps env z)) (hl:args.length=ps.length) (r0:F (RB+z) (UA env ps args) H=some (.Jk e1,H1)) (h1:H1[b]?=some (Je 0 ps env z))
  (r1:F (RB+z+1) e1 (H1.set b (Je 1 ps env z))=some (.i 0,H2)) (h2:H2[b]?=some (Je 1 ps env z)):yieldOf F b args H=some (.bool true,H2.set b (Je 0 ps env z)):=by
 unfold yieldOf
 rw[h]
 simp only[Je,hl,and_self,↓reduceIte]
 rw[r0]
 simp only[Option.bind_some,KR,h1,Je,and_self,↓reduceIte]
 simp only[Je]at r1
 rw[r1]
 simp only[Option.bind_some,h2,Je]
 rfl
def rd1(n:Nat)(o:Option (CX×Env×Gb)):Option (CV×Gb):=o.bind fun r=>match r.1 with|.normal=>some (.Jk ((List.range n).map r.2.1),r.2.2)|_=>none
theorem GcP{p:JB}{f n:Nat}{body:Gq}{res:List Ye}(hf:p f=some ⟨n,1,body,res⟩)(a:List CV)(H:Gb)(ha:a.length≤n):run p f a H=rd1 n (den p body (entry a) H):=by
 rw[run_eq hf a ha H];rfl
def rd2(o:Option (CX×Env×Gb)):Option (CV×Gb):=o.map fun r=>(.i r.1.code,r.2.2)
theorem Tx{p:JB}{f n:Nat}{body:Gq}{res:List Ye}(hf:p f=some ⟨n,2,body,res⟩)(a:List CV)(H:Gb)(ha:a.length≤n):run p f a H=rd2 (den p body (entry a) H):=by
 rw[run_eq hf a ha H]
 unfold rd2
 cases den p body (entry a) H<;>rfl
theorem Gkn{n:Nat}{E:Env}{H:Gb}:rd1 n (some (.normal,E,H))=some (.Jk ((List.range n).map E),H):=rfl
theorem Gfv{E:Env}{H:Gb}:rd2 (some (.normal,E,H))=some (.i 0,H):=rfl
theorem Gbh{p:JB}{g:J8}{ps:List Nat}{k z:Nat}{E:Env}{H:Gb}:den p (.Qf g ps k z) E H=(N7 (run p) (E.ev g) ps k z E H).bind (U2 E H.length):=by rw[Yj]
theorem Gac{p:JB}{g:J8}{ps:List Nat}{k z f:Nat}{caps:List CV}{E:Env}{H H':Gb}{v:CV}{P0 N0:List CV}{z0:Nat}(hg:E.ev g=.func f caps)(hf:f<1000000)
  (hr:run p f (.yld H.length::caps) (H++[Je 0 (ps.map fun(t:Nat)=>CV.i (t:Int)) ((List.range k).map E) z])=some (v,H'))(hb:H'[H.length]?=some (Je 0 P0 N0 z0)):
  den p (.Qf g ps k z) E H=some (.normal,E,H'.set H.length ⟨[],.dead,0⟩):=by
 rw[Gbh,hg]
 unfold N7
 simp only[hf,↓reduceIte]
 rw[hr]
 simp only[Option.bind_some,U2,hb,Je,↓reduceIte]
def Ng(l:Nat)(xs:List Int):List (Nat×Nat×Int):=xs.zipIdx.filterMap fun x=>if x.1=0 then none else some (l,x.2,x.1)
def Rt.vis(R:Rt):List (Nat×Nat×Int):=Ng 0 (R.li 0)++(Ng 1 (R.li 1)++Ng 2 (R.li 2))
theorem Rs{l j:Nat}{xs:List Int}{x:Int}(h:xs[j]?=some x):Ng l (xs.take (j+1))=Ng l (xs.take j)++(if x=0 then []else [(l,j,x)]):=by
 unfold Ng
 have hj:j<xs.length:=by
  grind
 rw[QV,h,Yu,List.zipIdx_append,List.filterMap_append]
 grind
theorem Ec{l:Nat}{xs:List Int}{y:Nat×Nat×Int}:y∈Ng l xs↔y.1=l∧xs[y.2.1]?=some y.2.2∧y.2.2≠0:=by
 unfold Ng
 rw[List.mem_filterMap]
 constructor
 ·grind
 ·rintro ⟨h1,h2,h3⟩
  refine⟨(y.2.2,y.2.1),List.mem_zipIdx_iff_getElem?.2 h2,?_⟩
  simp only[h3,↓reduceIte,←h1]
theorem Mw(l:Nat)(xs:List Int):(Ng l xs).length≤xs.length:=by
 unfold Ng
 exact Jm (List.length_filterMap_le _ _) sM
def Qh(x:Nat×Nat×Int):List CV:=if x.1=0 then [.i 0,.i ((x.2.1/16:Nat):Int),.i ((x.2.1 % 16:Nat):Int)]else [.i x.1,.i 0,.i x.2.1]
theorem Rt.Gpk{R:Rt}{l:Nat}(hl:l≤2):∃q,R.vis=(if l=0 then []else if l=1 then Ng 0 (R.li 0)else Ng 0 (R.li 0)++Ng 1 (R.li 1))++(Ng l (R.li l)++q):=by
 unfold Rt.vis
 match l,hl with
 |0,_=>exact⟨_,rfl⟩
 |1,_=>exact⟨Ng 2 (R.li 2),rfl⟩
 |2,_=>exact⟨[],sM⟩
def Rt.QS(R:Rt)(l:Nat):List (Nat×Nat×Int):=if l=0 then []else if l=1 then Ng 0 (R.li 0)else if l=2 then Ng 0 (R.li 0)++Ng 1 (R.li 1)else R.vis
theorem Rt.LV{R:Rt}{l:Nat}(hl:l≤2):R.QS (l+1)=R.QS l++Ng l (R.li l):=by
 match l,hl with
 |0,_=>rfl
 |1,_=>rfl
 |2,_=>simp[Rt.QS,Rt.vis,List.append_assoc]
theorem Rt.Gjq{R:Rt}{l j:Nat}(hl:l≤2){x:Int}(h:(R.li l)[j]?=some x) (hx:x≠0):R.QS l++Ng l ((R.li l).take j)++[(l,j,x)]<+:R.vis:=by
 have e1:Ng l ((R.li l).take (j+1))=Ng l ((R.li l).take j)++[(l,j,x)]:=by rw[Rs h,if_neg hx]
 have e2:Ng l ((R.li l).take (j+1))<+:Ng l (R.li l):=by
  have h1:(R.li l).take (j+1)<+:R.li l:=List.take_prefix _ _
  obtain⟨t,ht⟩:=h1
  refine⟨(t.zipIdx ((R.li l).take (j+1)).length).filterMap fun x=>if x.1=0 then none else some (l,x.2,x.1),?_⟩
  have e0:Ng l (R.li l)=Ng l ((R.li l).take (j+1)++t):=by rw[ht]
  rw[e0]
  unfold Ng
  grind
 obtain⟨q,hq⟩:=e2
 have e3:R.QS (l+1)<+:R.vis:=by
  match l,hl with
  |0,_=>exact⟨_,rfl⟩
  |1,_=>exact⟨Ng 2 (R.li 2),by simp[Rt.QS,Rt.vis,List.append_assoc]⟩
  |2,_=>exact⟨[],by simp[Rt.QS]⟩
 rw[List.append_assoc,←e1]
 refine List.IsPrefix.trans ?_ e3
 rw[Rt.LV hl,←hq]
 grind
end Go.Cs
namespace Go.Cs.Tryz
open Go Go.Cs
section
variable {H : Gb} {o : Tags} {rb : Nat} {R : Rt} {v : Nat → CV}
def Z4(Inv:List (Nat×Nat×Int)→(Nat→Prop)→Gb→Prop)(W0:Nat→Prop)(H:Gb)(k3:JD)(D:List (Nat×Nat×Int))(H':Gb):Prop:=
 ∃W,Inv D W H'∧Keeps H H' W0∧(∀c,W c→W0 c∨H.length<c)∧H'[H.length]?=some k3
structure Yields(b:Nat)(v:Nat→CV)(R:Rt)(Inv:List (Nat×Nat×Int)→(Nat→Prop)→Gb→Prop):Prop where
 gr:∀D W H' BP,Inv D W H'→Gr H' BP→Inv D W BP
 go:∀D W H' x,Inv D W H'→x.2.2≠0→D++[x]<+:R.vis→ld H'[Gn (v x.1)]? x.2.1=some (.i x.2.2)→
  ∃W' BP,yieldOf (run P) b [.agg (Qh x),.ptr (Gn (v x.1)) x.2.1] H'=some (.bool true,BP)∧Inv (D++[x]) W' BP∧Keeps H' BP W∧∀c,W' c→W c∨H'.length≤c
theorem GkS{Inv:List (Nat×Nat×Int)→(Nat→Prop)→Gb→Prop}{W0:Nat→Prop}{b l:Nat}(hl:l≤2)(m:K5 o H rb R v)(k:R.Ok)(y:Yields b v R Inv)(hW:∀c,W0 c→o c=none∧c≠H.length){k3:JD}{H1:Gb}(a:Z4 Inv W0 H k3 (R.QS l) H1)
  {E0:Env}(e0:E0 0=.yld b)(e3:E0 3=.i l)(e4:E0 4=v l)(e27:E0 27=.i (R.li l).length)(e28:E0 28=.i 0){r:Option (CX×Env×Gb)}(hr:den P (.loop Fa) E0 H1=r):
  ∃E' H',r=some (.exit 2,E',H')∧Z4 Inv W0 H k3 (R.QS (l+1)) H'∧∀t,t∉wr Fa→E' t=E0 t:=by
 obtain⟨x',E',H',e,-,⟨rfl,q1⟩,fr⟩:=Gs (p:=P) (c:=Fa) (E0:=E0) (H0:=H1)
  (fun q E H'=>∃j:Nat,E 28=.i j∧j≤(R.li l).length∧q=(R.li l).length-j∧Z4 Inv W0 H k3 (R.QS l++Ng l ((R.li l).take j)) H')
  (fun x' E' H'=>x'=.exit 2∧Z4 Inv W0 H k3 (R.QS (l+1)) H') (by
   rintro q E H' hE ⟨j,e28,hj,rfl,W,iv,kp,nw,t3⟩
   have e0:=(hE 0 dK).trans e0
   have e3:=(hE 3 dK).trans e3
   have e4:=(hE 4 dK).trans e4
   have e27:=(hE 27 dK).trans e27
   have hfl:=k.KC
   have hns:=k.ns
   have hg:=k.g16
   have hq:=k.Po
   have hlen:(R.li l).length≤64:=by
    match l,hl with
    |0,_=>show R.flat.length≤64;omega
    |1,_=>show R.glob.length≤64;omega
    |2,_=>exact hq
   by_cases c:j<(R.li l).length
   ·have c':decide ((j:Int)<((R.li l).length:Int))=true:=G7 oM
    obtain⟨x,hx⟩:∃x,(R.li l)[j]?=some x:=⟨_,JG c⟩
    obtain⟨tl,a1,a2,a3,a4⟩:=(m.li l hl).pos oM
    have hb:=m.dom _ _ a2
    have ix1:∀X,JU 1 (v l) (.i j) X=some (.ptr (Gn (v l)) j,X):=fun X=>by
     rw[a1];exact(if_pos oM).trans (by simp[Gn])
    have ix2:YV 1 (v l) (.i j)=okV (.ptr (Gn (v l)) j):=by
     rw[a1];exact(if_pos oM).trans (by simp[Gn])
    have ldx:∀Y:Gb,Y[Gn (v l)]?=H[Gn (v l)]?→ld Y[Gn (v l)]? j=some (.i x):=fun Y h=>by
     rw[h,a3,Qm];simp[ints,hx]
    have kH:H'[Gn (v l)]?=H[Gn (v l)]?:=kp.keep _ hb fun h=>by rw[(hW _ h).1]at a2;cases a2
    have w1:IntKind.i64.wrap ((j:Int)+1)=((j+1:Nat):Int):=Gh oM
    have d1:(j:Int).tdiv 16=((j/16:Nat):Int):=by grind
    have d2:(j:Int).tmod 16=((j % 16:Nat):Int):=by grind
    have w2:IntKind.i64.wrap ((j/16:Nat):Int)=((j/16:Nat):Int):=Gh oM
    obtain⟨X,hX⟩:∃X:Gb,X=H'++[⟨Qh (l,j,x),.rw,0⟩]:=⟨_,rfl⟩
    have gX:Gr H' X:=by rw[hX];exact Gr.app _ _
    have lX:X.length=H'.length+1:=by rw[hX];simp
    have tX:X[H'.length]?=some ⟨Qh (l,j,x),.rw,0⟩:=by rw[hX];simp
    have hbl:Gn (v l)<H'.length:=JI hb kp.len
    have kX:X[Gn (v l)]?=H[Gn (v l)]?:=(gX.keep _ hbl fun h=>h).trans kH
    have lx:=ldx X kX
    suffices fin:∃E' H2,den P Fa E H'=some (.normal,E',H2)∧E' 28=.i ((j+1:Nat):Int)∧Z4 Inv W0 H k3 (R.QS l++Ng l ((R.li l).take (j+1))) H2 by
     obtain⟨E',H2,f1,f2,f3⟩:=fin
     exact Gp f1 (k':=(R.li l).length-(j+1)) oM ⟨j+1,f2,oM,rfl,f3⟩
    rw[Rs hx]
    have ivX:=y.gr _ _ _ _ iv gX
    have kpX:Keeps H X W0:=kp.trans ⟨gX.len,fun c hc _=>gX.keep c hc fun h=>h⟩
    have hHl:H.length<H'.length:=Gf t3
    have t3X:X[H.length]?=some k3:=(gX.keep _ hHl fun h=>h).trans t3
    by_cases hx0:x=0
    ·have cx0:(x != 0)=false:=by rw[hx0];rfl
     by_cases hl0:l=0
     ·have cl0:((l:Int)==0)=true:=by rw[hl0];rfl
      have hp:Qh (l,j,x)=[.i l,.i ((j/16:Nat):Int),.i ((j % 16:Nat):Int)]:=by rw[hl0];rfl
      rw[hp]at hX tX
      refine W13 e3 e4 e27 e28 c' @J5 @Gu @J9 @GD d1 d2 w2 cl0 ?_
      rw[←hX]
      refine W5 ix2 lx cx0 e28 w1 ?_
      exact⟨_,_,rfl,uA,by rw[if_pos hx0,List.append_nil];exact⟨W,ivX,kpX,nw,t3X⟩⟩
     ·have cl0:((l:Int)==0)=false:=UF.2 oM
      have hp:Qh (l,j,x)=[.i l,.i 0,.i j]:=if_neg hl0
      rw[hp]at hX tX
      refine W8 e3 e4 e27 e28 c' @J5 @Gu cl0 ?_
      rw[←hX]
      refine W5 ix2 lx cx0 e28 w1 ?_
      exact⟨_,_,rfl,uA,by rw[if_pos hx0,List.append_nil];exact⟨W,ivX,kpX,nw,t3X⟩⟩
    ·have cx0:(x != 0)=true:=by simpa using hx0
     obtain⟨W',X2,hy1,hy2,hy3,hy4⟩:=y.go _ _ _ (l,j,x) ivX hx0 (Rt.Gjq hl hx hx0) lx
     have Gop:Z4 Inv W0 H k3 (R.QS l++(Ng l ((R.li l).take j)++[(l,j,x)])) X2:=by
      rw[←List.append_assoc]
      refine⟨W',hy2,⟨Jm kpX.len hy3.len,fun c hc hn=>?_⟩,fun c hc=>?_,?_⟩
      ·rw[hy3.keep c (by have:=kpX.len;omega) fun h=>?_,kpX.keep c hc hn]
       grind
      ·grind
      ·rw[hy3.keep _ oM fun h=>?_,t3X]
       grind
     dsimp only at hy1
     by_cases hl0:l=0
     ·have cl0:((l:Int)==0)=true:=by rw[hl0];rfl
      have hp:Qh (l,j,x)=[.i l,.i ((j/16:Nat):Int),.i ((j % 16:Nat):Int)]:=by rw[hl0];rfl
      rw[hp]at hX tX
      refine W13 e3 e4 e27 e28 c' @J5 @Gu @J9 @GD d1 d2 w2 cl0 ?_
      rw[←hX]
      refine W8 ix2 lx cx0 tX e0 e4 @Ja @WV ?_
      rw[←hp]
      refine W3 hy1 e28 w1 ?_
      exact⟨_,_,rfl,uA,by rw[if_neg hx0];exact Gop⟩
     ·have cl0:((l:Int)==0)=false:=UF.2 oM
      have hp:Qh (l,j,x)=[.i l,.i 0,.i j]:=if_neg hl0
      rw[hp]at hX tX
      refine W8 e3 e4 e27 e28 c' @J5 @Gu cl0 ?_
      rw[←hX]
      refine W8 ix2 lx cx0 tX e0 e4 @Ja @WV ?_
      rw[←hp]
      refine W3 hy1 e28 w1 ?_
      exact⟨_,_,rfl,uA,by rw[if_neg hx0];exact Gop⟩
   ·have c':decide ((j:Int)<((R.li l).length:Int))=false:=G5 oM
    rw[QA oM,←Rt.LV hl]at iv
    apply Gj (x:=.exit 2)
    ·refine WX ?_
     rfl
    ·simp
    ·exact⟨rfl,W,iv,kp,nw,t3⟩) _ ⟨0,e28,oM,rfl,by simpa[Ng]using a⟩
 grind
theorem Gj4{Inv:List (Nat×Nat×Int)→(Nat→Prop)→Gb→Prop}{W0:Nat→Prop}{b:Nat}{X:Gb}(m:K5 o H rb R v)(k:R.Ok)(y:Yields b v R Inv)(hW:∀c,W0 c→o c=none∧c≠H.length)
  (a0:Z4 Inv W0 H ⟨[v 0,v 1,v 2],.rw,1⟩ (R.QS 0) X){E0:Env}(e0:E0 0=.yld b)(e19:E0 19=.slice H.length 0 3 3 1 false)(e20:E0 20=.i 3)(e21:E0 21=.i 0){r:Option (CX×Env×Gb)}(hr:den P (.loop OY) E0 X=r):
  ∃E' H',r=some (.exit 0,E',H')∧Z4 Inv W0 H ⟨[v 0,v 1,v 2],.rw,1⟩ (R.QS 3) H':=by
 obtain⟨x',E',H',e,-,⟨rfl,q1⟩,fr⟩:=Gs (p:=P) (c:=OY) (E0:=E0) (H0:=X)
  (fun q E H'=>∃l:Nat,E 21=.i l∧l≤3∧q=3-l∧Z4 Inv W0 H ⟨[v 0,v 1,v 2],.rw,1⟩ (R.QS l) H')
  (fun x' E' H'=>x'=.exit 0∧Z4 Inv W0 H ⟨[v 0,v 1,v 2],.rw,1⟩ (R.QS 3) H') (by
   rintro q E H' hE ⟨l,e21,hl,rfl,a⟩
   have e0:=(hE 0 dK).trans e0
   have e19:=(hE 19 dK).trans e19
   have e20:=(hE 20 dK).trans e20
   obtain⟨W,iv,kp,nw,t3⟩:=id a
   by_cases c:l<3
   ·have c':decide ((l:Int)<3)=true:=G7 oM
    have ldv:ld (some (⟨[v 0,v 1,v 2],.rw,1⟩:JD)) l=some (v l):=by
     match l,c with
     |0,_=>rfl
     |1,_=>rfl
     |2,_=>rfl
    have vl:=(m.li l oM).len H'
    have w1:IntKind.i64.wrap ((l:Int)+1)=((l+1:Nat):Int):=Gh oM
    suffices fin:∃E' H2,den P OY E H'=some (.normal,E',H2)∧E' 21=.i ((l+1:Nat):Int)∧Z4 Inv W0 H ⟨[v 0,v 1,v 2],.rw,1⟩ (R.QS (l+1)) H2 by
     obtain⟨E',H2,f1,f2,f3⟩:=fin
     exact Gp f1 (k':=3-(l+1)) oM ⟨l+1,f2,oM,rfl,f3⟩
    refine WX ?_
    generalize hr:den P (.loop Fa) _ _=r
    obtain⟨E2,H2,rfl,a2,fr2⟩:=GkS (l:=l) oM m k y hW a (by simp[Gg,e0]) uA uA uA uA hr
    have f21:=fr2 21 dK
    simp only[Gg,Nat.reduceEqDiff,↓reduceIte,e21]at f21
    refine WX ?_
    exact⟨_,_,rfl,uA,a2⟩
   ·have c':decide ((l:Int)<3)=false:=G5 oM
    have h3:l=3:=by omega
    subst h3
    apply Gj (x:=.exit 0)
    ·refine WX ?_
     rfl
    ·simp
    ·exact⟨rfl,a⟩) _ ⟨0,e21,oM,rfl,a0⟩
 exact⟨E',H',hr.symm.trans e,q1⟩
theorem Pf{Inv:List (Nat×Nat×Int)→(Nat→Prop)→Gb→Prop}{W0:Nat→Prop}{b bx:Nat}(m:K5 o H rb R v)(k:R.Ok)(y:Yields b v R Inv)(hW:∀c,W0 c→o c=none∧c≠H.length)(iv:Inv [] W0 H)
  (hbx:H[bx]?=some ⟨[.ptr rb 0],.rw,0⟩):
  ∃W H',run P 224 [.yld b,.ptr bx 0] H=some (.Jk [],H')∧Inv R.vis W H'∧Keeps H H' W0∧(∀c,W c→W0 c∨H.length<c):=by
 have hc:=m.cells
 obtain⟨X,hX⟩:∃X:Gb,X=H++[⟨[v 0,v 1,v 2],.rw,1⟩]:=⟨_,rfl⟩
 have gX:Gr H X:=by rw[hX];exact Gr.app _ _
 have tX:X[H.length]?=some ⟨[v 0,v 1,v 2],.rw,1⟩:=by rw[hX];simp
 have lf:leaf (v 0)=true∧leaf (v 1)=true∧leaf (v 2)=true:=⟨(m.li 0 oM).leaf,(m.li 1 oM).leaf,(m.li 2 oM).leaf⟩
 have a0:Z4 Inv W0 H ⟨[v 0,v 1,v 2],.rw,1⟩ (R.QS 0) X:=⟨W0,y.gr _ _ _ _ iv gX,⟨gX.len,fun c hc _=>gX.keep c hc fun h=>h⟩,fun c h=>.inl h,tX⟩
 obtain⟨lf0,lf1,lf2⟩:=lf
 have cl:∀w:CV,leaf w=true→cellsOf w=[w]:=fun w h=>by cases w<;>first|rfl|cases h
 have c0:=cl _ lf0
 have c1:=cl _ lf1
 have c2:=cl _ lf2
 rw[Gi GsZ _ _ sM]
 refine GH ?_
 rw[←hX]
 generalize hr:den P (.loop OY) _ _=r
 obtain⟨E',H',rfl,q1⟩:=Gj4 m k y hW a0 (by simp[Gg,entry]) uA uA uA hr
 obtain⟨W,iv2,kp,nw,t3⟩:=q1
 refine WX ?_
 exact⟨_,_,rfl,iv2,kp,nw⟩
end
end Go.Cs.Tryz
namespace Go.Cs.Tryz
open Go Go.Cs A
def GhD:Gl:=⟨26,1,R [m 5 12],[]⟩
theorem GhI:P 1001408=some GhD:=by kernel_rfl
def GgQ:Gl:=⟨26,2,B 1 (S (D [⟨l 13 1 3,0,1,0⟩,⟨m 14 5,1,0,0⟩,⟨z 15 14,2,0,0⟩,⟨l 16 1 15,3,1,0⟩,⟨q2 17 108 13 16,4,3,0⟩,⟨no 18 17,5,0,1⟩]) (I 18 (D [⟨l 19 1 3,0,1,0⟩,⟨m 20 5,1,0,0⟩,⟨z 21 20,2,0,0⟩,⟨l 22 1 21,3,1,0⟩,⟨e 23 (.buildSlice 1 [i 0] 1 [(0,1,t 22)]),4,0,0⟩,⟨ap 24 1 19 23,5,3,0⟩,⟨st 1 3 24,6,3,1⟩]))),[]⟩
theorem Gap:P 1001409=some GgQ:=by kernel_rfl
end Go.Cs.Tryz
namespace Go.Cs
open Go
def only(lb:Nat):Tags:=fun c=>if c=lb then some z3 else none
theorem Js{lb c:Nat}{t:Tag}:only lb c=some t↔c=lb∧t=z3:=by
 unfold only
 grind
theorem At.il{o:Tags}{t:Tag}{H:Gb}{v:CV}{e n:Nat}{cs:List CV}(h:At o t H v e n cs):At (Loc 0) z3 H v e n cs:=by
 rcases h with h|⟨b,tl,h0,h1,h2,h3⟩
 ·exact .inl h
 ·exact .inr ⟨b,tl,h0,Gm.2 ⟨Nat.zero_le _,rfl⟩,h2,h3⟩
def Um(acc:List Int)(x:Nat×Nat×Int):List Int:=if x.2.2∈acc then acc else acc++[x.2.2]
def GY(D:List (Nat×Nat×Int)):List Int:=D.foldl Um []
theorem GbD(acc:List Int)(x:Nat×Nat×Int):(Um acc x).length≤acc.length+1:=by
 unfold Um
 split
 ·omega
 ·simp
theorem Qz(D:List (Nat×Nat×Int)):(GY D).length≤D.length:=by
 have key:∀(D:List (Nat×Nat×Int))(acc:List Int),(D.foldl Um acc).length≤acc.length+D.length:=fun D=>by
  induction D with
  |nil=>intro acc;simp
  |cons x D ih=>
   intro acc
   rw[List.foldl_cons]
   have:=ih (Um acc x)
   have:=GbD acc x
   grind
 have:=key D []
 simpa[GY]using this
theorem VY{D:List (Nat×Nat×Int)}{v:Int}:v∈GY D↔∃x∈D,x.2.2=v:=by
 have key:∀(D:List (Nat×Nat×Int))(acc:List Int),v∈D.foldl Um acc↔v∈acc∨∃x∈D,x.2.2=v:=fun D=>by
  induction D with
  |nil=>intro acc;simp
  |cons x D ih=>
   intro acc
   rw[List.foldl_cons,ih]
   have h1:v∈Um acc x↔v∈acc∨x.2.2=v:=by
    unfold Um
    grind
   rw[h1]
   simp[or_assoc]
 have:=key D []
 simpa[GY]using this
theorem Zd(D:List (Nat×Nat×Int))(x:Nat×Nat×Int):GY (D++[x])=Um (GY D) x:=by simp[GY]
theorem Rt.Li{R:Rt}{v:Int}:(∃x∈R.vis,x.2.2=v)↔v∈R.vals∧v≠0:=by
 have h1:∀l:Nat,(∃x∈Ng l (R.li l),x.2.2=v)↔v∈R.li l∧v≠0:=fun l=>by
  constructor
  ·rintro ⟨x,hx,rfl⟩
   obtain⟨-,h2,h3⟩:=Ec.1 hx
   exact⟨JV h2,h3⟩
  ·rintro ⟨h2,h3⟩
   obtain⟨i,hi⟩:=List.mem_iff_getElem?.1 h2
   exact⟨(l,i,v),Ec.2 ⟨rfl,hi,h3⟩,rfl⟩
 have h2:(∃x∈R.vis,x.2.2=v)↔(∃x∈Ng 0 (R.li 0),x.2.2=v)∨(∃x∈Ng 1 (R.li 1),x.2.2=v)∨(∃x∈Ng 2 (R.li 2),x.2.2=v):=by
  unfold Rt.vis
  constructor
  ·grind
  ·rintro (⟨x,h,he⟩|⟨x,h,he⟩|⟨x,h,he⟩)
   ·exact⟨x,by simp[h],he⟩
   ·exact⟨x,by simp[h],he⟩
   ·exact⟨x,by simp[h],he⟩
 rw[h2,h1,h1,h1]
 simp only[Rt.vals,Rt.li,NV]
 grind
theorem Rt.Ok.VJ{R:Rt}(k:R.Ok):R.vis.length≤144:=by
 have h0:=Mw 0 (R.li 0)
 have h1:=Mw 1 (R.li 1)
 have h2:=Mw 2 (R.li 2)
 have e0:(R.li 0).length=16*R.slots.length:=k.KC
 have e1:(R.li 1).length=16:=k.g16
 have e2:(R.li 2).length≤64:=k.Po
 have hns:=k.ns
 unfold Rt.vis
 simp only[QU]
 omega
end Go.Cs
namespace Go.Cs.Tryz
open Go Go.Cs
section
variable {H : Gb} {o : Tags} {rb : Nat} {R : Rt} {v : Nat → CV}
def Gg4(b w:Nat)(ps env:List CV)(D:List (Nat×Nat×Int))(W:Nat→Prop)(H:Gb):Prop:=
 ∃lb lv,H[b]?=some (Je 0 ps env 1408)∧H[w]?=some ⟨[lv],.rw,0⟩∧b≠w∧lb≠b∧lb≠w∧At (only lb) z3 H lv 1 (GY D).length (ints (GY D))∧∀c,W c↔c=b∨c=w∨c=lb
theorem GfJ{b w:Nat}{env:List CV}(he:env.length=26)(h3:entry env 3=.ptr w 0)(k:R.Ok):Yields b v R (Gg4 b w [.i 11,.i 12] env) where
 gr:=fun D W H' BP=>by
  rintro ⟨lb,lv,h1,h2,h3,h4,h5,h6,h7⟩ g
  exact⟨lb,lv,g.get h1,g.get h2,h3,h4,h5,At.keeps h6 g,h7⟩
 go:=fun D W H' x=>by
  rintro ⟨lb,lv,h1,h2,h3',h4,h5,h6,h7⟩ hx hp hl
  have hn:(GY D).length≤144:=by
   have h8:=Qz D
   have h9:=hp.length_le
   have:=k.VJ
   grind
  have r0:run P (1000000+1408) (UA env [.i 11,.i 12] [.agg (Qh x),.ptr (Gn (v x.1)) x.2.1]) H'=some (.Jk ((List.range 26).map ((entry ((env.set 11 (.agg (Qh x))).set 12 (.ptr (Gn (v x.1)) x.2.1))).upd 5 (.ptr (Gn (v x.1)) x.2.1))),H'):=by
   rw[show(1000000+1408:Nat)=1001408 from rfl,GcP GhI _ _ (by simp[UA,he])]
   rw[show UA env [.i 11,.i 12] [.agg (Qh x),.ptr (Gn (v x.1)) x.2.1]=(env.set 11 (.agg (Qh x))).set 12 (.ptr (Gn (v x.1)) x.2.1)from rfl]
   have e12:entry ((env.set 11 (.agg (Qh x))).set 12 (.ptr (Gn (v x.1)) x.2.1)) 12=.ptr (Gn (v x.1)) x.2.1:=by rw[Un,if_pos rfl,if_pos (by rw[List.length_set];omega)]
   have:=@Gkn;exact W0
  obtain⟨e1,he1⟩:∃e1,e1=(List.range 26).map ((entry ((env.set 11 (.agg (Qh x))).set 12 (.ptr (Gn (v x.1)) x.2.1))).upd 5 (.ptr (Gn (v x.1)) x.2.1)):=⟨_,rfl⟩
  rw[←he1]at r0
  have q3:entry e1 3=.ptr w 0:=by
   rw[he1,Vb,if_pos oM]
   simp only[Gg,Nat.reduceEqDiff,↓reduceIte]
   rw[Un,if_neg oM,Un,if_neg oM,h3]
  have q5:entry e1 5=.ptr (Gn (v x.1)) x.2.1:=by
   rw[he1,Vb,if_pos oM]
   simp only[Gg,Nat.reduceEqDiff,↓reduceIte]
  have le1:e1.length≤26:=by rw[he1];simp
  obtain⟨X,hX⟩:∃X:Gb,X=H'.set b (Je 1 [.i 11,.i 12] env 1408):=⟨_,rfl⟩
  have hbl:=Gf h1
  have xb:X[b]?=some (Je 1 [.i 11,.i 12] env 1408):=by rw[hX,ZG hbl]
  have xo:∀c,c≠b→X[c]?=H'[c]?:=fun c hc=>by grind
  have xw:X[w]?=some ⟨[lv],.rw,0⟩:=by rw[xo w (Ne.symm h3'),h2]
  have xl:ld X[Gn (v x.1)]? x.2.1=some (.i x.2.2):=by
   by_cases c:Gn (v x.1)=b
   ·rw[c,h1]at hl;cases hl
   ·rw[xo _ c,hl]
  have x6:At (only lb) z3 X lv 1 (GY D).length (ints (GY D)):=h6.frame (fun _ h=>h) fun c h=>by rw[Js]at h;rw[xo c (by rw[h.1];exact h4)]
  have hcon:=contains (IL.sl (At.il x6)) x.2.2 oM
  have hany:((GY D).any fun y=>x.2.2==y)=decide (x.2.2∈GY D):=by
   grind
  rw[hany]at hcon
  have rr:RB+1408+1=1001409:=rfl
  have lX:X.length=H'.length:=by rw[hX,List.length_set]
  by_cases hc:x.2.2∈GY D
  ·have r1:run P (RB+1408+1) e1 X=some (.i 0,X):=by
    rw[rr,Tx Gap _ _ le1]
    exact V7 q3 q5 xw xl hcon hc @Gfv
   have hy:=Pj (F:=run P) (args:=[.agg (Qh x),.ptr (Gn (v x.1)) x.2.1]) h1 rfl r0 h1 (by rw[←hX];exact r1) xb
   refine⟨W,_,hy,⟨lb,lv,by rw[ZG oM],by rw[NA h3',xw],h3',h4,h5,?_,h7⟩,⟨by rw[List.length_set];omega,fun c hc hn=>?_⟩,fun c h=>.inl h⟩
   ·rw[Zd,Um,if_pos hc]
    exact x6.frame (fun _ h=>h) fun c h=>by rw[Js]at h;grind
   grind
  ·obtain⟨X3,EA⟩:∃X3:Gb,X3=X++[⟨[.i x.2.2],.rw,1⟩]:=⟨_,rfl⟩
   have g3:Gr X X3:=by rw[EA];exact Gr.app _ _
   have l3:X3.length=X.length+1:=by rw[EA];simp
   have lbn:lb=H'.length→(GY D).length=0:=fun h=>by
    rcases x6 with h8|⟨c,f,-,h9,h10,-⟩
    ·exact h8.1
    ·rw[Js]at h9;have:=Gf h10;omega
   obtain⟨X4,a1,a2,a3,a4⟩:=At.append (At.keeps x6 g3) (k:=1) (new:=[.i x.2.2]) oM (by unfold JF;omega) (by simp[Jo]) rfl
   have lwb:=Gf h2
   have t3w:X3[w]?=some ⟨[lv],.rw,0⟩:=g3.get xw
   have a4':∀c,c<X3.length→c≠lb→X4[c]?=X3[c]?:=fun c hc hn=>a4 c hc fun h=>by rw[Js]at h;exact hn h.1
   have t4w:X4[w]?=some ⟨[lv],.rw,0⟩:=by rw[a4' w oM (Ne.symm h5),t3w]
   have t4b:X4[b]?=some (Je 1 [.i 11,.i 12] env 1408):=by grind
   have hel:elems X3 1 (.slice X.length 0 1 1 1 false)=some (1,[.i x.2.2]):=by
    rw[J7 oM,EA]
    have:=@Kc;exact W0
   obtain⟨X5,hX5⟩:∃X5:Gb,X5=X4.set w ⟨[.slice X3.length 0 ((GY D).length+1) ((GY D).length+1) 1 true],.rw,0⟩:=⟨_,rfl⟩
   have l5:X5.length=X4.length:=by rw[hX5,List.length_set]
   have t5b:X5[b]?=some (Je 1 [.i 11,.i 12] env 1408):=by grind
   have t5w:X5[w]?=some ⟨[.slice X3.length 0 ((GY D).length+1) ((GY D).length+1) 1 true],.rw,0⟩:=by grind
   have r1:run P (RB+1408+1) e1 X=some (.i 0,X5):=by
    rw[rr,Tx Gap _ _ le1]
    refine W8 q3 q5 xw xl hcon hc @J5 @Gu ?_
    rw[←EA]
    refine W4 a1 t4w q3 @Gfv ?_
    rw[←hX5]
   have hy:=Pj (F:=run P) (args:=[.agg (Qh x),.ptr (Gn (v x.1)) x.2.1]) h1 rfl r0 h1 (by rw[←hX];exact r1) t5b
   have e5:GY (D++[x])=GY D++[x.2.2]:=by rw[Zd,Um,if_neg hc]
   refine⟨fun c=>c=b∨c=w∨c=X3.length,_,hy,⟨X3.length,_,by rw[ZG oM],by rw[NA h3',t5w],h3',oM,oM,?_,fun c=>Iff.rfl⟩,⟨by rw[List.length_set];omega,fun c hc hn=>?_⟩,fun c h=>?_⟩
   ·rw[e5]
    refine .inr ⟨X3.length,true,sM,Js.2 ⟨rfl,rfl⟩,?_,by simp[ints]⟩
    rw[NA oM,hX5,NA oM,a3,Vg]
    rfl
   ·grind
   grind
end
end Go.Cs.Tryz
namespace Go.Cs.Tryz
open Go Go.Cs A
def C44:Gl:=⟨26,0,T [e 2 (.JR (c .Gc))] (S (T [m 6 0,q1 7 134 6,no 8 7] (I 8 (Q [e 2 (.JR (c .Gc))]))) (T [e 3 (.new [.Gc])] (S (T [m 9 0,q1 10 135 9] (B 0 (.Qf (t 10) [11,12] 26 1408))) (Q [l 25 1 3,m 2 25])))),[r 2]⟩
theorem c44:P 44=some C44:=by kernel_rfl
def Gpy:Gl:=⟨4,0,T [bo 1 0,e 2 (.JR (c .nilFunc))] (Q [e 3 (.NI 224 [t 1]),m 2 3]),[r 2]⟩
theorem GnU:P 135=some Gpy:=by kernel_rfl
def GtM:Gl:=⟨17,0,T [e 2 (.JR (c .Gc))] (S (T [m 5 0,q1 6 134 5,no 7 6] (I 7 (Q [e 2 (.JR (c .Gc))]))) (T [e 3 (.new [.Gc])] (S (T [m 8 0,q1 9 135 8] (B 0 (.Qf (t 9) [10,11] 17 5344))) (Q [l 16 1 3,m 2 16])))),[r 2]⟩
theorem c167:P 167=some GtM:=by kernel_rfl
def Ghe:Gl:=⟨17,1,R [e 4 (.new [i 0,i 0,i 0]),st 3 4 10],[]⟩
theorem GgM:P 1005344=some Ghe:=by kernel_rfl
def GgB:Gl:=⟨17,2,B 1 (R [l 12 1 3,lg 13 3 4,e 14 (.buildSlice 3 [i 0,i 0,i 0] 1 [(0,3,t 13)]),ap 15 3 12 14,st 1 3 15]),[]⟩
theorem Gh5:P 1005345=some GgB:=by kernel_rfl
end Go.Cs.Tryz
namespace Go.Cs
open Go
def Zt(D:List (Nat×Nat×Int)):List CV:=(D.map Qh).flatten
theorem Ea(x:Nat×Nat×Int):(Qh x).length=3:=by unfold Qh;split<;>rfl
theorem L8(D:List (Nat×Nat×Int)):(Zt D).length=D.length*3:=by
 induction D with
 |nil=>rfl
 |cons x D ih=>simp only[Zt,List.map_cons,List.flatten_cons,QU,Ea,List.length_cons]at ih⊢;omega
theorem WB(D D2:List (Nat×Nat×Int)):Zt (D++D2)=Zt D++Zt D2:=by simp[Zt]
theorem T_(x:Nat×Nat×Int):(Qh x).all leaf=true:=by unfold Qh;split<;>simp[Jo]
end Go.Cs
namespace Go.Cs.Tryz
open Go Go.Cs
section
variable {H : Gb} {o : Tags} {rb : Nat} {R : Rt} {v : Nat → CV}
def GdU(b w:Nat)(ps env:List CV)(D:List (Nat×Nat×Int))(W:Nat→Prop)(H:Gb):Prop:=
 ∃lb lv,H[b]?=some (Je 0 ps env 5344)∧H[w]?=some ⟨[lv],.rw,0⟩∧b≠w∧lb≠b∧lb≠w∧At (only lb) z3 H lv 3 D.length (Zt D)∧∀c,W c↔c=b∨c=w∨c=lb
theorem GeI{b w:Nat}{env:List CV}(he:env.length=17)(h3:entry env 3=.ptr w 0)(k:R.Ok):Yields b v R (GdU b w [.i 10,.i 11] env) where
 gr:=fun D W H' BP=>by
  rintro ⟨lb,lv,h1,h2,h3,h4,h5,h6,h7⟩ g
  exact⟨lb,lv,g.get h1,g.get h2,h3,h4,h5,At.keeps h6 g,h7⟩
 go:=fun D W H' x=>by
  rintro ⟨lb,lv,h1,h2,h3',h4,h5,h6,h7⟩ hx hp hl
  have hn:D.length≤144:=by
   have h9:=hp.length_le
   have:=k.VJ
   grind
  obtain⟨Y,hY⟩:∃Y:Gb,Y=H'++[⟨Qh x,.rw,0⟩]:=⟨_,rfl⟩
  have gY:Gr H' Y:=by rw[hY];exact Gr.app _ _
  have lY:Y.length=H'.length+1:=by rw[hY];simp
  have tY:Y[H'.length]?=some ⟨Qh x,.rw,0⟩:=by rw[hY];simp
  have r0:run P (1000000+5344) (UA env [.i 10,.i 11] [.agg (Qh x),.ptr (Gn (v x.1)) x.2.1]) H'=some (.Jk ((List.range 17).map ((entry ((env.set 10 (.agg (Qh x))).set 11 (.ptr (Gn (v x.1)) x.2.1))).upd 4 (.ptr H'.length 0))),Y):=by
   rw[show(1000000+5344:Nat)=1005344 from rfl,GcP GgM _ _ (by simp[UA,he])]
   rw[show UA env [.i 10,.i 11] [.agg (Qh x),.ptr (Gn (v x.1)) x.2.1]=(env.set 10 (.agg (Qh x))).set 11 (.ptr (Gn (v x.1)) x.2.1)from rfl]
   have e10:entry ((env.set 10 (.agg (Qh x))).set 11 (.ptr (Gn (v x.1)) x.2.1)) 10=.agg (Qh x):=by rw[Un,if_neg oM,Un,if_pos rfl,if_pos oM]
   have hpl:∃p0 p1 p2,Qh x=[.i p0,.i p1,.i p2]:=by unfold Qh;split<;>exact⟨_,_,_,rfl⟩
   obtain⟨p0,p1,p2,hpl⟩:=hpl
   generalize entry ((env.set 10 (.agg (Qh x))).set 11 (.ptr (Gn (v x.1)) x.2.1))=EV at e10⊢
   rw[hpl]at e10 hY
   refine W2 @Gkn e10 ?_
   rw[←hY]
  obtain⟨e1,he1⟩:∃e1,e1=(List.range 17).map ((entry ((env.set 10 (.agg (Qh x))).set 11 (.ptr (Gn (v x.1)) x.2.1))).upd 4 (.ptr H'.length 0)):=⟨_,rfl⟩
  rw[←he1]at r0
  have q3:entry e1 3=.ptr w 0:=by
   rw[he1,Vb,if_pos oM]
   simp only[Gg,Nat.reduceEqDiff,↓reduceIte]
   rw[Un,if_neg oM,Un,if_neg oM,h3]
  have q4:entry e1 4=.ptr H'.length 0:=by
   rw[he1,Vb,if_pos oM]
   simp only[Gg,Nat.reduceEqDiff,↓reduceIte]
  have le1:e1.length≤17:=by rw[he1];simp
  obtain⟨X,hX⟩:∃X:Gb,X=Y.set b (Je 1 [.i 10,.i 11] env 5344):=⟨_,rfl⟩
  have hbl:=Gf h1
  have y1:=gY.get h1
  have xb:X[b]?=some (Je 1 [.i 10,.i 11] env 5344):=by grind
  have xo:∀c,c≠b→X[c]?=Y[c]?:=fun c hc=>by grind
  have xw:X[w]?=some ⟨[lv],.rw,0⟩:=by rw[xo w (Ne.symm h3'),gY.get h2]
  have xp:X[H'.length]?=some ⟨Qh x,.rw,0⟩:=by rw[xo _ oM,tY]
  have x6:At (only lb) z3 X lv 3 D.length (Zt D):=(At.keeps h6 gY).frame (fun _ h=>h) fun c h=>by rw[Js]at h;rw[xo c (by rw[h.1];exact h4)]
  have rr:RB+5344+1=1005345:=rfl
  have lX:X.length=Y.length:=by rw[hX,List.length_set]
  obtain⟨X3,EA⟩:∃X3:Gb,X3=X++[⟨Qh x,.rw,3⟩]:=⟨_,rfl⟩
  have g3:Gr X X3:=by rw[EA];exact Gr.app _ _
  have l3:X3.length=X.length+1:=by rw[EA];simp
  obtain⟨X4,a1,a2,a3,a4⟩:=At.append (At.keeps x6 g3) (k:=1) (new:=Qh x) oM (by unfold JF;omega) (T_ x) (Ea x)
  have lwb:=Gf h2
  have t3w:X3[w]?=some ⟨[lv],.rw,0⟩:=g3.get xw
  have a4':∀c,c<X3.length→c≠lb→X4[c]?=X3[c]?:=fun c hc hn=>a4 c hc fun h=>by rw[Js]at h;exact hn h.1
  have t4w:X4[w]?=some ⟨[lv],.rw,0⟩:=by rw[a4' w oM (Ne.symm h5),t3w]
  have t4b:X4[b]?=some (Je 1 [.i 10,.i 11] env 5344):=by grind
  have hel:elems X3 3 (.slice X.length 0 1 1 3 false)=some (1,Qh x):=by
   have hpl:∃p0 p1 p2,Qh x=[.i p0,.i p1,.i p2]:=by unfold Qh;split<;>exact⟨_,_,_,rfl⟩
   obtain⟨p0,p1,p2,hpl⟩:=hpl
   rw[hpl]at EA⊢
   rw[J7 oM,EA]
   have:=@Kc;exact W0
  obtain⟨X5,hX5⟩:∃X5:Gb,X5=X4.set w ⟨[.slice X3.length 0 (D.length+1) (D.length+1) 3 true],.rw,0⟩:=⟨_,rfl⟩
  have l5:X5.length=X4.length:=by rw[hX5,List.length_set]
  have t5b:X5[b]?=some (Je 1 [.i 10,.i 11] env 5344):=by grind
  have t5w:X5[w]?=some ⟨[.slice X3.length 0 (D.length+1) (D.length+1) 3 true],.rw,0⟩:=by grind
  have r1:run P (RB+5344+1) e1 X=some (.i 0,X5):=by
   rw[rr,Tx Gh5 _ _ le1]
   have hpl:∃p0 p1 p2,Qh x=[.i p0,.i p1,.i p2]:=by unfold Qh;split<;>exact⟨_,_,_,rfl⟩
   obtain⟨p0,p1,p2,hpl⟩:=hpl
   rw[hpl]at hel xp EA a1
   refine W6 q3 q4 xw xp @J5 @Gu ?_
   rw[←EA]
   refine W4 a1 t4w q3 @Gfv ?_
   rw[←hX5]
  have hy:=Pj (F:=run P) (args:=[.agg (Qh x),.ptr (Gn (v x.1)) x.2.1]) h1 rfl r0 y1 (by rw[←hX];exact r1) t5b
  refine⟨fun c=>c=b∨c=w∨c=X3.length,_,hy,⟨X3.length,_,by rw[ZG oM],by rw[NA h3',t5w],h3',oM,oM,?_,fun c=>Iff.rfl⟩,⟨by rw[List.length_set];omega,fun c hc hn=>?_⟩,fun c h=>?_⟩
  ·refine .inr ⟨X3.length,true,sM,Js.2 ⟨rfl,rfl⟩,?_,by rw[L8]⟩
   rw[NA oM,hX5,NA oM,a3,WB]
   simp[Zt]
  ·grind
  grind
theorem Gil{X:Gb}{k0 w bx:Nat}(m:K5 o X rb R v)(k:R.Ok)(hk0:k0≤w∧k0≤X.length)(hw:o w=none)(tw:X[w]?=some ⟨[.Gc],.rw,0⟩) (tx:X[bx]?=some ⟨[.ptr rb 0],.rw,0⟩)
  {E0:Env} (e3:E0 3=.ptr w 0) (e10:E0 10=.func 224 [.ptr bx 0]) {r:Option (CX×Env×Gb)} (hr:den P (.Qf (.tmp 10) [11,12] 26 1408) E0 X=r):
  ∃X' lv,r=some (.normal,E0,X')∧Keeps X X' (fun c=>c=w)∧X'[w]?=some ⟨[lv],.rw,0⟩∧IL k0 X' lv (GY R.vis):=by
 obtain⟨H1,hH1⟩:∃H1:Gb,H1=X++[Je 0 [.i 11,.i 12] ((List.range 26).map E0) 1408]:=⟨_,rfl⟩
 have g1:Gr X H1:=by rw[hH1];exact Gr.app _ _
 have l1:H1.length=X.length+1:=by rw[hH1];simp
 have t1:H1[X.length]?=some (Je 0 [.i 11,.i 12] ((List.range 26).map E0) 1408):=by rw[hH1];simp
 have hwl:=Gf tw
 have he3:entry ((List.range 26).map E0) 3=.ptr w 0:=by rw[Vb,if_pos oM,e3]
 obtain⟨W,X2,h1,⟨lb,lv,i1,i2,i3,i4,i5,i6,i7⟩,h3,h4⟩:=Pf (W0:=fun c=>c=X.length∨c=w∨c=X.length+2) (m.gr g1) k (GfJ (b:=X.length) (w:=w) sM he3 k)
  (fun c h=>⟨Jg fun hn=>by
   rcases h with h|h|h
   ·cases e:o c with
    |none=>exact hn e
    |some u=>have:=m.dom c u e;omega
   ·rw[h]at hn;exact hn hw
   ·cases e:o c with
    |none=>exact hn e
    |some u=>have:=m.dom c u e;omega,oM⟩)
  ⟨X.length+2,.Gc,t1,g1.get tw,oM,oM,oM,.inl ⟨rfl,rfl,.inl rfl⟩,fun c=>Iff.rfl⟩ (g1.get tx)
 have hd:=Gac (p:=P) (g:=.tmp 10) (ps:=[11,12]) (k:=26) (z:=1408) (E:=E0) (H:=X) (H':=X2) (by rw[Gb2];exact e10) oM (by rw[←h1,hH1];rfl) i1
 have hl2:=h3.len
 refine⟨_,lv,hr.symm.trans hd,⟨by rw[List.length_set];omega,fun c hc hn=>?_⟩,?_,?_⟩
 ·rw[NA oM,h3.keep c oM oM,g1.keep c hc fun h=>h]
 ·grind
 ·have hlb:k0≤lb:=by
   rcases h4 lb ((i7 lb).2 (.inr (.inr rfl)))with h|h
   ·omega
   ·omega
  exact i6.frame (fun c h=>by rw[Js]at h;exact Gm.2 ⟨oM,h.2.symm⟩) fun c h=>by rw[Js]at h;rw[NA oM]
theorem Ay(m:K5 o H rb R v)(k:R.Ok):∃w H',run P 44 [.ptr rb 0] H=some (w,H')∧Gr H H'∧IL H.length H' w (GY R.vis):=by
 have h1:=Ul m k
 obtain⟨X,hX⟩:∃X:Gb,X=H++[⟨[.Gc],.rw,0⟩]++[⟨[.ptr rb 0],.rw,0⟩]:=⟨_,rfl⟩
 have gX:Gr H X:=by rw[hX];exact(Gr.app H _).app' _
 have lX:X.length=H.length+2:=by rw[hX];simp
 have tX:X[H.length]?=some ⟨[.Gc],.rw,0⟩:=by rw[hX];simp
 have tX2:X[H.length+1]?=some ⟨[.ptr rb 0],.rw,0⟩:=by rw[hX];simp
 have hal:run P 135 [.ptr rb 0] (H++[⟨[.Gc],.rw,0⟩])=some (.func 224 [.ptr (H.length+1) 0],X):=by
  rw[Gi GnU _ _ sM]
  simp(disch:=first|exact dz|fail) only[simprocAttr,Gx,↓reduceIte,Td]
  rw[←hX]
 rw[Gi c44 _ _ sM]
 refine W2 h1 hal ?_
 generalize hr:den P (.Qf _ _ _ _) _ _=r
 obtain⟨X2,lv,rfl,kp,t2,li⟩:=Gil (m.gr gX) k (k0:=H.length) (w:=H.length) oM (Jg fun hn=>by
  cases e:o H.length with
  |none=>exact hn e
  |some u=>have:=m.dom _ u e;omega) tX tX2 uA uA hr
 refine GH ?_
 refine⟨_,_,rfl,⟨by have:=kp.len;have:=gX.len;omega,fun c hc _=>?_⟩,li⟩
 rw[kp.keep c oM oM,gX.keep c hc fun h=>h]
theorem GhT{X:Gb}{k0 w bx:Nat}(m:K5 o X rb R v)(k:R.Ok)(hk0:k0≤w∧k0≤X.length)(hw:o w=none)(tw:X[w]?=some ⟨[.Gc],.rw,0⟩) (tx:X[bx]?=some ⟨[.ptr rb 0],.rw,0⟩)
  {E0:Env} (e3:E0 3=.ptr w 0) (e10:E0 9=.func 224 [.ptr bx 0]) {r:Option (CX×Env×Gb)} (hr:den P (.Qf (.tmp 9) [10,11] 17 5344) E0 X=r):
  ∃X' lv,r=some (.normal,E0,X')∧Keeps X X' (fun c=>c=w)∧X'[w]?=some ⟨[lv],.rw,0⟩∧At (Loc k0) z3 X' lv 3 R.vis.length (Zt R.vis):=by
 obtain⟨H1,hH1⟩:∃H1:Gb,H1=X++[Je 0 [.i 10,.i 11] ((List.range 17).map E0) 5344]:=⟨_,rfl⟩
 have g1:Gr X H1:=by rw[hH1];exact Gr.app _ _
 have l1:H1.length=X.length+1:=by rw[hH1];simp
 have t1:H1[X.length]?=some (Je 0 [.i 10,.i 11] ((List.range 17).map E0) 5344):=by rw[hH1];simp
 have hwl:=Gf tw
 have he3:entry ((List.range 17).map E0) 3=.ptr w 0:=by rw[Vb,if_pos oM,e3]
 obtain⟨W,X2,h1,⟨lb,lv,i1,i2,i3,i4,i5,i6,i7⟩,h3,h4⟩:=Pf (W0:=fun c=>c=X.length∨c=w∨c=X.length+2) (m.gr g1) k (GeI (b:=X.length) (w:=w) sM he3 k)
  (fun c h=>⟨Jg fun hn=>by
   rcases h with h|h|h
   ·cases e:o c with
    |none=>exact hn e
    |some u=>have:=m.dom c u e;omega
   ·rw[h]at hn;exact hn hw
   ·cases e:o c with
    |none=>exact hn e
    |some u=>have:=m.dom c u e;omega,oM⟩)
  ⟨X.length+2,.Gc,t1,g1.get tw,oM,oM,oM,.inl ⟨rfl,rfl,.inl rfl⟩,fun c=>Iff.rfl⟩ (g1.get tx)
 have hd:=Gac (p:=P) (g:=.tmp 9) (ps:=[10,11]) (k:=17) (z:=5344) (E:=E0) (H:=X) (H':=X2) (by rw[Gb2];exact e10) oM (by rw[←h1,hH1];rfl) i1
 have hl2:=h3.len
 refine⟨_,lv,hr.symm.trans hd,⟨by rw[List.length_set];omega,fun c hc hn=>?_⟩,?_,?_⟩
 ·rw[NA oM,h3.keep c oM oM,g1.keep c hc fun h=>h]
 ·grind
 ·have hlb:k0≤lb:=by
   rcases h4 lb ((i7 lb).2 (.inr (.inr rfl)))with h|h
   ·omega
   ·omega
  exact i6.frame (fun c h=>by rw[Js]at h;exact Gm.2 ⟨oM,h.2.symm⟩) fun c h=>by rw[Js]at h;rw[NA oM]
theorem Sn(m:K5 o H rb R v)(k:R.Ok):∃w H',run P 167 [.ptr rb 0] H=some (w,H')∧Gr H H'∧At (Loc H.length) z3 H' w 3 R.vis.length (Zt R.vis):=by
 have h1:=Ul m k
 obtain⟨X,hX⟩:∃X:Gb,X=H++[⟨[.Gc],.rw,0⟩]++[⟨[.ptr rb 0],.rw,0⟩]:=⟨_,rfl⟩
 have gX:Gr H X:=by rw[hX];exact(Gr.app H _).app' _
 have lX:X.length=H.length+2:=by rw[hX];simp
 have tX:X[H.length]?=some ⟨[.Gc],.rw,0⟩:=by rw[hX];simp
 have tX2:X[H.length+1]?=some ⟨[.ptr rb 0],.rw,0⟩:=by rw[hX];simp
 have hal:run P 135 [.ptr rb 0] (H++[⟨[.Gc],.rw,0⟩])=some (.func 224 [.ptr (H.length+1) 0],X):=by
  rw[Gi GnU _ _ sM]
  simp(disch:=first|exact dz|fail) only[simprocAttr,Gx,↓reduceIte,Td]
  rw[←hX]
 rw[Gi c167 _ _ sM]
 refine W2 h1 hal ?_
 generalize hr:den P (.Qf _ _ _ _) _ _=r
 obtain⟨X2,lv,rfl,kp,t2,li⟩:=GhT (m.gr gX) k (k0:=H.length) (w:=H.length) oM (Jg fun hn=>by
  cases e:o H.length with
  |none=>exact hn e
  |some u=>have:=m.dom _ u e;omega) tX tX2 uA uA hr
 refine GH ?_
 refine⟨_,_,rfl,⟨by have:=kp.len;have:=gX.len;omega,fun c hc _=>?_⟩,li⟩
 rw[kp.keep c oM oM,gX.keep c hc fun h=>h]
end
end Go.Cs.Tryz
namespace Go.Cs.Tryz
open Go Go.Cs A
abbrev Ga6:Gq:=S (T [m 27 6,m 28 5,le 29 28,b 30 .lss 27 29] (J 30 (X 0))) (S (B 1 (T [m 34 0,m 35 5,m 36 6,x 37 3 35 36,lg 38 3 37,q2 39 29 34 38,m 33 39,ex 40 33 0,ex 41 33 1,m 7 40,m 8 41] (R [m 42 3,m 43 5,m 44 6,x 45 3 43 44,lg 46 3 45,m 47 7,q3 48 160 42 46 47]))) (R [m 31 6,bk 32 .add 31 1,m 6 32]))
def C68:Gl:=⟨50,0,T [e 2 (.JR (c .nilPtr))] (T [m 10 0,q1 11 130 10,q1 12 56 11,m 9 12,ex 13 9 0,ex 14 9 1,m 3 13,m 4 14] (S (T [m 15 4,bk 16 .neq 15 0] (I 16 (Q [e 17 (.build [.Gc,.Gc,.Gc] []),bo 18 17,m 2 18]))) (T [m 19 3,m 20 0,q1 21 166 20,q1 22 164 21,z 23 19,f 24 2 23,st 1 24 22] (T [m 25 0,q1 26 167 25,m 5 26] (S (T [n 6 0] (B 0 (W Ga6))) (Q [m 49 3,m 2 49])))))),[r 2]⟩
theorem c68:P 68=some C68:=by kernel_rfl
def Grq:Gl:=⟨11,0,T [e 2 (.JR (c .Gc))] (S (T [m 3 0,q1 4 134 3,no 5 4] (I 5 (Q [e 2 (.JR (c .Gc))]))) (Q [m 6 0,z 7 6,f 8 3 7,l 9 1 8,q1 10 245 9,m 2 10])),[r 2]⟩
theorem GrT:P 166=some Grq:=by kernel_rfl
def Gsq:Gl:=⟨8,0,T [e 2 (.JR (c .Gc))] (S (T [m 3 0,e 4 (.eqv false 2 (t 3) (c .Gc))] (I 4 (Q [e 2 (.JR (c .Gc))]))) (Q [e 5 (.buildSlice 1 [] 0 []),m 6 0,ap 7 1 5 6,m 2 7])),[r 2]⟩
theorem Gn8:P 245=some Gsq:=by kernel_rfl
end Go.Cs.Tryz
namespace Go.Cs
open Go
structure Dm(R Q:Rt)(D:List (Nat×Nat×Int)):Prop where
 k:Q.Ok
 ns:Q.slots.length=R.slots.length
 ln:∀l,l≤2→(Q.li l).length=(R.li l).length
 at':∀l,l≤2→∀i y,(R.li l)[i]?=some y→(Q.li l)[i]?=some (if l=2∨(l,i,y)∈D then y else 0)
theorem Dm.all{R Q:Rt}(h:Dm R Q R.vis):∀l,l≤2→Q.li l=R.li l:=fun l hl=>by
 apply List.ext_getElem?
 intro i
 cases e:(R.li l)[i]? with
 |none=>
  rw[List.getElem?_eq_none_iff]at e
  rw[List.getElem?_eq_none_iff,h.ln l hl];exact e
 |some y=>
  rw[h.at' l hl i y e]
  by_cases c:y=0
  ·rw[c];simp
  ·have:(l,i,y)∈R.vis:=by
    have hv:(l,i,y)∈Ng l (R.li l):=Ec.2 ⟨rfl,e,c⟩
    unfold Rt.vis
    grind
   rw[if_pos (.inr this)]
theorem Dm.vals{R Q:Rt}(h:Dm R Q R.vis):Q.vals=R.vals:=by
 have h0:=h.all 0 oM
 have h1:=h.all 1 oM
 have h2:=h.all 2 oM
 simp only[Rt.li]at h0 h1 h2
 unfold Rt.vals
 rw[h0,h1,h2]
theorem Rt.Ok.Go7{R:Rt}(k:R.Ok){l i:Nat}(hl:l≤2){y:Int}(h:(R.li l)[i]?=some y):0≤y∧y≤9223372036854775807:=by
 have hm:=JV h
 match l,hl with
 |0,_=>
  obtain⟨x,hx,hy⟩:=List.mem_flatten.1 (show y∈R.slots.flatten from hm)
  exact k.vs x hx y hy
 |1,_=>exact k.vg y hm
 |2,_=>have:=k.vq y hm;omega
theorem Rt.GbJ{R:Rt}{x:Nat×Nat×Int}(h:x∈R.vis):x.1≤2∧(R.li x.1)[x.2.1]?=some x.2.2∧x.2.2≠0:=by
 unfold Rt.vis at h
 simp only[NV]at h
 rcases h with h|h|h<;>
 ·obtain⟨h1,h2,h3⟩:=Ec.1 h
  grind
theorem WA{D:List (Nat×Nat×Int)}{j:Nat}{x:Nat×Nat×Int}(h:D[j]?=some x):Fw (some (⟨Zt D,.rw,3⟩:JD)) (j*3) 3=some (Qh x):=by
 have hj:=Gf h
 rw[Ur,if_pos (by rw[L8];omega)]
 congr 1
 induction D generalizing j with
 |nil=>cases h
 |cons y D ih=>
  cases j with
  |zero=>
   simp only[List.getElem?_cons_zero,GA]at h
   subst h
   have:=Ea y
   simp only[Zt,List.map_cons,List.flatten_cons,Nat.zero_mul,List.drop_zero]
   grind
  |succ j=>
   simp only[List.getElem?_cons_succ]at h
   have e:=Ea y
   simp only[Zt,List.map_cons,List.flatten_cons]
   rw[List.drop_append,List.drop_eq_nil_of_le oM,List.nil_append,show(j+1)*3-(Qh y).length=j*3 by omega]
   exact ih h (Gf h)
def KV(x:Nat×Nat×Int):Int×Int×Int:=if x.1=0 then(0,((x.2.1/16:Nat):Int),((x.2.1 % 16:Nat):Int))else((x.1:Int),0,(x.2.1:Int))
theorem Gbq(x:Nat×Nat×Int):Qh x=[.i (KV x).1,.i (KV x).2.1,.i (KV x).2.2]:=by
 unfold Qh KV
 split<;>rfl
theorem Rt.Ok.IW{R:Rt}(k:R.Ok){x:Nat×Nat×Int}(hl:x.1≤2)(hi:x.2.1<(R.li x.1).length):R.loc (KV x).1 (KV x).2.1 (KV x).2.2=some (x.1,x.2.1):=by
 obtain⟨l,i,y⟩:=x
 have hf:=k.KC
 match l,hl with
 |0,_=>
  have hi':i<R.flat.length:=hi
  rw[show KV (0,i,y)=(0,((i/16:Nat):Int),((i % 16:Nat):Int))from rfl]
  unfold Rt.loc
  grind
 |1,_=>
  have hi':i<R.glob.length:=hi
  rw[show KV (1,i,y)=(1,0,(i:Int))from rfl]
  unfold Rt.loc
  grind
 |2,_=>
  have hi':i<R.queue.length:=hi
  rw[show KV (2,i,y)=(2,0,(i:Int))from rfl]
  unfold Rt.loc
  grind
theorem Dm.step{R Q:Rt}{D:List (Nat×Nat×Int)}(h:Dm R Q D)(k:R.Ok){x:Nat×Nat×Int}(hx:x∈R.vis):Dm R (Q.set (KV x).1 (KV x).2.1 (KV x).2.2 x.2.2).1 (D++[x]):=by
 obtain⟨h1,h2,h3⟩:=Rt.GbJ hx
 obtain⟨h4,h5⟩:=k.Go7 h1 h2
 have hi:=Gf h2
 have hloc:=h.k.IW (x:=x) h1 (by rw[h.ln _ h1];exact hi)
 obtain⟨l1,l2,l3,l4⟩:=Rt.Dn h.k hloc
 have ok:=h.k.set (KV x).1 (KV x).2.1 (KV x).2.2 x.2.2 h5
 have e:(Q.set (KV x).1 (KV x).2.1 (KV x).2.2 x.2.2).1=Q.setAt (x.1,x.2.1) x.2.2:=by
  unfold Rt.set
  grind
 rw[e]at ok⊢
 have hli:=fun i hi=>Rt.LY h.k l2 l4 x.2.2 i hi
 refine⟨ok,?_,fun l hl=>?_,fun l hl i y hy=>?_⟩
 ·rw[←h.ns]
  unfold Rt.setAt
  split
  ·simp
  ·split<;>rfl
 ·rw[hli l hl]
  split
  ·rw[List.length_set,h.ln l hl]
  ·exact h.ln l hl
 ·rw[hli l hl]
  have h0:=h.at' l hl i y hy
  grind
theorem Dm.new{R:Rt}(k:R.Ok):Dm R {Rt.new R.slots.length with queue:=R.queue} [] where
 k:=by
  have h:=Rt.BX k.ns
  exact⟨h.ns,h.s16,h.g16,k.Po,h.vs,h.vg,k.vq⟩
 ns:=by simp[Rt.new]
 ln:=fun l hl=>by
  have:=k.KC
  have:=k.g16
  match l,hl with
  |0,_=>show(List.replicate R.slots.length (List.replicate 16 (0:Int))).flatten.length=R.flat.length;rw[Zi,List.length_replicate];omega
  |1,_=>show(List.replicate 16 (0:Int)).length=R.glob.length;rw[List.length_replicate];omega
  |2,_=>rfl
 at':=fun l hl i y hy=>by
  have hi:=Gf hy
  have:=k.KC
  have:=k.g16
  match l,hl with
  |0,_=>
   have hi':i<R.flat.length:=hi
   show(List.replicate R.slots.length (List.replicate 16 (0:Int))).flatten[i]?=_
   rw[Zi,List.getElem?_replicate,if_pos oM]
   simp
  |1,_=>
   have hi':i<R.glob.length:=hi
   show(List.replicate 16 (0:Int))[i]?=_
   grind
  |2,_=>
   rw[if_pos (.inl rfl)]
   exact hy
end Go.Cs
namespace Go.Cs.Tryz
open Go Go.Cs
section
variable {H : Gb} {o : Tags} {rb : Nat} {R : Rt} {v : Nat → CV}
theorem Gdr{w:CV}{l:List Int}(h:LI H w l)(hl:l.length≤100000):∃v' H',run P 164 [w] H=some (v',H')∧Gr H H'∧IL H.length H' v' l:=by
 have he:elems (H++[⟨[],.rw,1⟩]) 1 w=some (l.length,ints l):=(h.gr (Gr.app H [⟨[],.rw,1⟩])).elems fun c hc=>rfl
 have h0:IL H.length (H++[⟨[],.rw,1⟩]) (.slice H.length 0 0 0 1 false) []:=.inl ⟨rfl,rfl,.inr ⟨_,_,rfl⟩⟩
 obtain⟨v',H1,a1,a2,a3⟩:=IL.cat h0 sM (l2:=l) (by simp;omega)
 refine⟨v',H1,?_,(Gr.app H _).news a3,a2⟩
 rw[Gi c164 _ _ sM]
 exact W0
theorem slices_Clone{w:CV}{l:List Int}(h:LI H w l)(hl:l.length≤100000):∃v' H',run P 245 [w] H=some (v',H')∧Gr H H'∧IL H.length H' v' l:=by
 by_cases c:w=.Gc
 ·subst c
  have:l=[]:=by
   rcases h with h|⟨b,tl,h,-⟩
   ·exact I4 h.1
   ·cases h
  subst this
  refine⟨.Gc,H,?_,Keeps.refl _ _,IL.nil⟩
  rw[Gi Gn8 _ _ sM]
  have:=show XQ false 2 .Gc .Gc H=some (.bool true,H)from rfl;exact W0
 ·have he:elems (H++[⟨[],.rw,1⟩]) 1 w=some (l.length,ints l):=(h.gr (Gr.app H [⟨[],.rw,1⟩])).elems fun c hc=>rfl
  have h0:IL H.length (H++[⟨[],.rw,1⟩]) (.slice H.length 0 0 0 1 false) []:=.inl ⟨rfl,rfl,.inr ⟨_,_,rfl⟩⟩
  obtain⟨v',H1,a1,a2,a3⟩:=IL.cat h0 sM (l2:=l) (by simp;omega)
  obtain⟨b,f,n,d,t,rfl⟩:∃b f n d t,w=.slice b f n d 1 t:=by
   rcases h with⟨-,-,rfl|⟨b,f,rfl⟩⟩|⟨b,tl,rfl,-⟩
   ·exact absurd rfl c
   ·exact⟨_,_,_,_,_,rfl⟩
   ·exact⟨_,_,_,_,_,rfl⟩
  refine⟨v',H1,?_,(Gr.app H _).news a3,a2⟩
  rw[Gi Gn8 _ _ sM]
  have:=show XQ false 2 (.slice b f n d 1 t) .Gc H=some (.bool false,H)from rfl;exact W0
theorem Gan(m:K5 o H rb R v)(k:R.Ok):∃v' H',run P 166 [.ptr rb 0] H=some (v',H')∧Gr H H'∧IL H.length H' v' R.queue:=by
 have h:=m.cells
 have h1:=Ul m k
 obtain⟨v',H',h2,h3,h4⟩:=slices_Clone (At.il (m.li 2 oM)) (by have:=k.Po;show R.queue.length≤_;omega)
 refine⟨v',H',?_,h3,h4⟩
 rw[Gi GrT _ _ sM]
 exact W0
theorem GdZ{o2:Tags}{qb:Nat}{Q0:Rt}{L0:Z8}(m:K5 o H rb R v)(k:R.Ok)(m2:J_ o2 H qb Q0 L0)(c0:Dm R Q0 [])(hd:∀c,o c≠none→o2 c=none){w:CV}{k0:Nat}(hw:At (Loc k0) z3 H w 3 R.vis.length (Zt R.vis))(hw2:∀c,k0≤c→o2 c=none)
  {E0:Env}(h0:E0 0=.ptr rb 0)(h3:E0 3=.ptr qb 0)(h5:E0 5=w)(h6:E0 6=.i 0){r:Option (CX×Env×Gb)}(hr:den P (.loop Ga6) E0 H=r):
  ∃E' H' o2' Q L',r=some (.exit 0,E',H')∧KY o2 H o2' H'∧J_ o2' H' qb Q L'∧Dm R Q R.vis∧∀t,t∉wr Ga6→E' t=E0 t:=by
 have hvl:=k.VJ
 obtain⟨x',E',H',e,-,⟨rfl,o2',Q,L',q1,q2,q3⟩,fr⟩:=Gs (p:=P) (c:=Ga6) (E0:=E0) (H0:=H)
  (fun q E H'=>∃(j:Nat)(o2':Tags)(Q:Rt)(L':Z8),E 6=.i j∧j≤R.vis.length∧q=R.vis.length-j∧KY o2 H o2' H'∧J_ o2' H' qb Q L'∧Dm R Q (R.vis.take j))
  (fun x' E' H'=>x'=.exit 0∧∃(o2':Tags)(Q:Rt)(L':Z8),KY o2 H o2' H'∧J_ o2' H' qb Q L'∧Dm R Q R.vis) (by
   rintro q E H' hE ⟨j,o2',Q,L',e6,hj,rfl,g,m',cp⟩
   have e0:=(hE 0 dK).trans h0
   have e3:=(hE 3 dK).trans h3
   have e5:=(hE 5 dK).trans h5
   have hwl:=hw.len H'
   by_cases c:j<R.vis.length
   ·have c':decide ((j:Int)<(R.vis.length:Int))=true:=G7 oM
    obtain⟨x,hx⟩:∃x,R.vis[j]?=some x:=⟨_,JG c⟩
    have hxm:=JV hx
    obtain⟨y1,y2,y3⟩:=Rt.GbJ hxm
    have hloc:=k.IW (x:=x) y1 (Gf y2)
    obtain⟨tl,a1,a2,a3,a4⟩:=hw.pos oM
    have hwo:o2 (Gn w)=none:=hw2 _ (Gm.1 a2).1
    have m1:K5 o H' rb R v:=m.frame (fun c t h=>JI (m.dom c t h) g.len) (fun _ _ h=>h) fun c t h=>g.keep c (m.dom c t h) (hd c (by rw[h];simp))
    have Pp:H'[Gn w]?=some ⟨Zt R.vis,.rw,3⟩:=(g.keep _ (Gf a3) hwo).trans a3
    have ix:∀X,JU 3 w (.i j) X=some (.ptr (Gn w) (j*3),X):=fun X=>by
     rw[a1];exact(if_pos oM).trans (by simp[Gn])
    have ldp:∀Y:Gb,Y[Gn w]?=some ⟨Zt R.vis,.rw,3⟩→Fw Y[Gn w]? (j*3) 3=some [.i (KV x).1,.i (KV x).2.1,.i (KV x).2.2]:=fun Y h=>by
     rw[h,←Gbq];exact WA hx
    have l1:=ldp _ Pp
    obtain⟨X1,b1,g1⟩:=Gek m1 k (KV x).1 (KV x).2.1 (KV x).2.2
    have hv:R.get (KV x).1 (KV x).2.1 (KV x).2.2=(x.2.2,0):=by
     unfold Rt.get
     grind
    rw[hv]at b1
    unfold Q9 at b1
    have l2:=ldp X1 (g1.get Pp)
    have m3:=m'.gr g1
    obtain⟨X2,o3,L3,b2,m4,g4⟩:=Gdh m3 cp.k (KV x).1 (KV x).2.1 (KV x).2.2 x.2.2
    have cp2:=cp.step k hxm
    have w1:IntKind.i64.wrap ((j:Int)+1)=((j+1:Nat):Int):=Gh oM
    have htk:R.vis.take (j+1)=R.vis.take j++[x]:=by rw[QV,hx];rfl
    apply Gp (k':=R.vis.length-(j+1))
    ·refine W12 e0 e3 e5 e6 hwl c' ix l1 b1 l2 b2 w1 ?_
     rfl
    ·omega
    ·exact⟨j+1,o3,_,L3,uA,oM,rfl,(g.trans (KY.gr g1)).trans g4,m4,by rw[htk];exact cp2⟩
   ·have c':decide ((j:Int)<(R.vis.length:Int))=false:=G5 oM
    rw[QA oM]at cp
    apply Gj (x:=.exit 0)
    ·refine GH ?_
     rfl
    ·simp
    grind) _ ⟨0,o2,Q0,L0,h6,oM,rfl,⟨Nat.le_refl _,fun _ _=>rfl,fun _ _ _=>rfl⟩,m2,by simpa using c0⟩
 grind
theorem I6(m:K5 o H rb R v)(k:R.Ok):
  ∃qb H' o2 Q L,run P 68 [.ptr rb 0] H=some (.ptr qb 0,H')∧Gr H H'∧J_ o2 H' qb Q L∧Dm R Q R.vis∧∀c t,o2 c=some t→H.length≤c:=by
 have h1:=ZR m k
 obtain⟨qb,X1,o2,L2,h2,g1,m2,f2⟩:=GcT (H:=H) (R.slots.length:Int) (by have:=k.ns;omega)
 rw[K_]at m2
 have mX1:=m.gr g1
 obtain⟨v3,X2,h3,g2,il2⟩:=Gan mX1 k
 obtain⟨v4,X3,h4,g3,il3⟩:=Gdr il2.li (by have:=k.Po;omega)
 have g23:=g2.trans g3
 have m3:=m2.gr g23
 have t3:=m3.cells
 have hq0:=m3.dom _ _ m3.top
 obtain⟨X4,Ib⟩:∃X4:Gb,X4=X3.set qb ⟨[L2.sv,L2.gv,v4],.rw,0⟩:=⟨_,rfl⟩
 have l4:X4.length=X3.length:=by rw[Ib,List.length_set]
 have hqb:=m2.dom _ _ m2.top
 have e1:=g1.len
 have e2:=g2.len
 have e3:=g3.len
 have lf4:=At.leaf il3
 have il4:At (Loc X1.length) z3 X4 v4 1 R.queue.length (ints R.queue):=il3.frame (fun c h=>Gm.2 ⟨by have:=(Gm.1 h).1;omega,(Gm.1 h).2⟩) fun c h=>by
  have:=(Gm.1 h).1
  grind
 obtain⟨o3,L3,m4,g4⟩:=J_.ZJ m2 (Hf:=X4) (l:=R.queue) (w:=v4) il4 oM (by grind) (fun d hd hn hr=>by
  rw[Ib,NA (Ne.symm hr),g23.keep d hd fun h=>h])
 have g04:Gr H X4:=⟨oM,fun c hc _=>by
  rw[Ib,NA (by rintro rfl;have:=f2 _ _ m2.top;omega),g23.keep c oM fun h=>h,g1.keep c hc fun h=>h]⟩
 have f3:∀c t,o3 c=some t→H.length≤c:=fun c t h=>by
  by_cases hc:c<X1.length
  ·rw[g4.tag c hc]at h;exact f2 c t h
  ·omega
 have mX4:=m.gr g04
 obtain⟨w,X5,h5,g5,hw⟩:=Sn mX4 k
 have mX5:=mX4.gr g5
 have m5:=m4.gr g5
 have TD:I_ X3 qb X3[qb]? 2 [v4]=some X4:=by
  rw[t3,Ro lf4 sM,Ib]
  rfl
 rw[Gi c68 _ _ sM]
 refine W6 h1 h2 h3 h4 TD h5 ?_
 generalize hr:den P (.loop Ga6) _ _=r
 obtain⟨E',X6,o6,Q,L6,rfl,g6,m6,cp,fr⟩:=GdZ mX5 k m5 (Dm.new k) (fun c h=>Jg fun hn=>by
  cases e:o c with
  |none=>exact h e
  |some u=>cases e2:o3 c with
   |none=>exact hn e2
   |some u2=>have:=m.dom c u e;have:=f3 c u2 e2;omega) hw (fun c hc=>Jg fun hn=>by
   cases e:o3 c with
   |none=>exact hn e
   |some u=>have:=m4.dom c u e;omega) uA uA uA uA hr
 have a3:=fr 3 dK
 simp only[Gg,Nat.reduceEqDiff,↓reduceIte]at a3
 refine GH ?_
 have e5:=g5.len
 refine⟨qb,X6,o6,Q,L6,rfl,⟨by have:=g6.len;omega,fun c hc _=>?_⟩,m6,cp,fun c t h=>?_⟩
 ·rw[g6.keep c oM (Jg fun hn=>?_),g5.keep c oM fun h=>h,g04.keep c hc fun h=>h]
  cases e:o3 c with
  |none=>exact hn e
  |some u=>have:=f3 c u e;omega
 ·by_cases hc:c<X5.length
  ·rw[g6.tag c hc]at h;exact f3 c t h
  ·omega
end
end Go.Cs.Tryz
namespace Go.Cs.Tryz
open Go Go.Cs A
abbrev MI:Gq:=S (T [m 40 7,m 41 0,z 42 41,f 43 2 42,l 44 1 43,le 45 44,b 46 .lss 40 45] (J 46 (X 6))) (S (B 7 (R [m 49 3,m 50 7,e 51 (.build [i 0,i 0,i 0] [(0,1,k 2),(2,1,t 50)]),e 52 (.buildSlice 3 [i 0,i 0,i 0] 1 [(0,3,t 51)]),ap 53 3 49 52,m 3 53])) (R [m 47 7,bk 48 .add 47 1,m 7 48]))
abbrev M5:Gq:=S (T [m 31 6,bk 32 .lss 31 16] (J 32 (X 4))) (S (B 5 (R [m 35 3,m 36 6,e 37 (.build [i 0,i 0,i 0] [(0,1,k 1),(2,1,t 36)]),e 38 (.buildSlice 3 [i 0,i 0,i 0] 1 [(0,3,t 37)]),ap 39 3 35 38,m 3 39])) (R [m 33 6,bk 34 .add 33 1,m 6 34]))
abbrev MP:Gq:=S (T [m 21 5,bk 22 .lss 21 16] (J 22 (X 2))) (S (B 3 (R [m 25 3,m 26 4,m 27 5,e 28 (.build [i 0,i 0,i 0] [(0,1,k 0),(1,1,t 26),(2,1,t 27)]),e 29 (.buildSlice 3 [i 0,i 0,i 0] 1 [(0,3,t 28)]),ap 30 3 25 29,m 3 30])) (R [m 23 5,bk 24 .add 23 1,m 5 24]))
abbrev Fh:Gq:=S (T [m 12 4,m 13 0,z 14 13,f 15 0 14,l 16 1 15,le 17 16,b 18 .lss 12 17] (J 18 (X 0))) (S (B 1 (T [n 5 0] (B 2 (W MP)))) (R [m 19 4,bk 20 .add 19 1,m 4 20]))
def GuH:Gl:=⟨55,0,T [e 2 (.JR (c .Gc))] (T [e 3 (.JR (c .Gc))] (S (T [m 8 0,q1 9 217 8,no 10 9] (I 10 (Q [m 11 3,m 2 11]))) (S (T [n 4 0] (B 0 (W Fh))) (S (T [n 6 0] (B 4 (W M5))) (S (T [n 7 0] (B 6 (W MI))) (Q [m 54 3,m 2 54])))))),[r 2]⟩
theorem Gsg:P 246=some GuH:=by kernel_rfl
end Go.Cs.Tryz
namespace Go.Cs
open Go
abbrev P3(k:Nat)(H:Gb)(v:CV)(D:List (Nat×Nat×Int)):Prop:=At (Loc k) z3 H v 3 D.length (Zt D)
theorem P3.push{k:Nat}{H:Gb}{v:CV}{D:List (Nat×Nat×Int)}(h:P3 k H v D)(hk:k≤H.length)(hn:D.length≤100000){x:Nat×Nat×Int}{p:List CV}(hp:Qh x=p):
  ∃v' X,Jq (H++[⟨p,.rw,3⟩]) 3 v 1 p=some (v',X)∧P3 k X v' (D++[x])∧Keeps H X (fun c=>k≤c):=by
 subst hp
 have g:Gr H (H++[⟨Qh x,.rw,3⟩]):=Gr.app _ _
 obtain⟨X,a1,a2,a3,a4⟩:=At.append (At.keeps h g) (k:=1) (new:=Qh x) oM (by unfold JF;omega) (T_ x) (Ea x)
 have l1:(H++[(⟨Qh x,.rw,3⟩:JD)]).length=H.length+1:=by simp
 refine⟨_,X,a1,.inr ⟨(H++[(⟨Qh x,.rw,3⟩:JD)]).length,true,sM,Gm.2 ⟨oM,rfl⟩,?_,by rw[L8]⟩,⟨oM,fun c hc hn=>?_⟩⟩
 ·rw[a3,WB];simp[Zt]
 ·rw[a4 c oM fun h=>by have:=(Gm.1 h).1;omega,I7 hc]
def EK(l:Nat)(xs:List Int):List (Nat×Nat×Int):=xs.zipIdx.map fun x=>(l,x.2,x.1)
theorem VG(l:Nat)(xs:List Int):(EK l xs).length=xs.length:=by simp[EK]
theorem Oz{l j:Nat}{xs:List Int}{x:Int}(h:xs[j]?=some x):EK l (xs.take (j+1))=EK l (xs.take j)++[(l,j,x)]:=by
 have hj:=Gf h
 unfold EK
 rw[QV,h,Yu,List.zipIdx_append,Es]
 grind
theorem O7(l:Nat)(xs:List Int):Ng l xs=(EK l xs).filter fun x=>x.2.2 != 0:=by
 unfold Ng EK
 rw[List.filter_map]
 induction xs.zipIdx with
 |nil=>rfl
 |cons x r ih=>
  grind
def Rt.every(R:Rt):List (Nat×Nat×Int):=EK 0 R.flat++(EK 1 R.glob++EK 2 R.queue)
theorem Rt.GdI(R:Rt):R.vis=R.every.filter fun x=>x.2.2 != 0:=by
 unfold Rt.vis Rt.every
 rw[List.filter_append,List.filter_append,←O7,←O7,←O7]
 rfl
theorem Rt.Ok.GeM{R:Rt}(k:R.Ok):R.every.length≤144:=by
 have h0:=k.KC
 have h1:=k.g16
 have h2:=k.Po
 have h3:=k.ns
 unfold Rt.every
 simp only[QU,VG]
 omega
end Go.Cs
namespace Go.Cs.Tryz
open Go Go.Cs
section
variable {H : Gb} {o : Tags} {rb : Nat} {R : Rt} {L : Z8}
theorem Gfu(k:R.Ok){k0 i:Nat}(hk0:k0≤H.length)(hi:i<R.slots.length){w:CV}(hw:P3 k0 H w (EK 0 (R.flat.take (16*i))))
  {E0:Env}(h3:E0 3=w)(h4:E0 4=.i i)(h5:E0 5=.i 0){r:Option (CX×Env×Gb)}(hr:den P (.loop MP) E0 H=r):
  ∃E' H' w',r=some (.exit 2,E',H')∧Keeps H H' (fun c=>k0≤c)∧E' 3=w'∧P3 k0 H' w' (EK 0 (R.flat.take (16*(i+1))))∧∀t,t∉wr MP→E' t=E0 t:=by
 have hfl:=k.KC
 have hns:=k.ns
 obtain⟨x',E',H',e,-,⟨rfl,g,w',q1,q2⟩,fr⟩:=Gs (p:=P) (c:=MP) (E0:=E0) (H0:=H)
  (fun q E H'=>∃(j:Nat)(w':CV),E 5=.i j∧j≤16∧q=16-j∧Keeps H H' (fun c=>k0≤c)∧E 3=w'∧P3 k0 H' w' (EK 0 (R.flat.take (16*i+j))))
  (fun x' E' H'=>x'=.exit 2∧Keeps H H' (fun c=>k0≤c)∧∃w',E' 3=w'∧P3 k0 H' w' (EK 0 (R.flat.take (16*(i+1))))) (by
   rintro q E H' hE ⟨j,w',e5,hj,rfl,g,e3,p3⟩
   have e4:=(hE 4 dK).trans h4
   by_cases c:j<16
   ·have c':decide ((j:Int)<16)=true:=G7 oM
    obtain⟨x,hx⟩:∃x,R.flat[16*i+j]?=some x:=⟨_,JG oM⟩
    have hp:Qh (0,16*i+j,x)=[.i 0,.i (i:Int),.i (j:Int)]:=by
     rw[Qh,if_pos rfl]
     grind
    obtain⟨v',X,a1,a2,a3⟩:=P3.push p3 (Jm hk0 g.len) (by rw[VG,List.length_take];omega) hp
    have w1:IntKind.i64.wrap ((j:Int)+1)=((j+1:Nat):Int):=Gh oM
    apply Gp (k':=16-(j+1))
    ·refine GH ?_
     rfl
    ·omega
    ·exact⟨j+1,v',uA,oM,rfl,g.trans a3,uA,by rw[show 16*i+(j+1)=16*i+j+1 by omega,Oz hx];exact a2⟩
   ·have c':decide ((j:Int)<16)=false:=G5 oM
    apply Gj (x:=.exit 2)
    ·refine GH ?_
     rfl
    ·simp
    ·exact⟨rfl,g,w',by simp[Gg,e3],by grind⟩) _ ⟨0,w,h5,oM,rfl,Keeps.refl _ _,h3,hw⟩
 grind
theorem GfC(m:J_ o H rb R L)(k:R.Ok){k0:Nat}(hk0:k0≤H.length)(hd:∀c t,o c=some t→c<k0)
  {E0:Env}(h0:E0 0=.ptr rb 0)(h3:E0 3=.Gc)(h4:E0 4=.i 0){r:Option (CX×Env×Gb)}(hr:den P (.loop Fh) E0 H=r):
  ∃E' H' w',r=some (.exit 0,E',H')∧Keeps H H' (fun c=>k0≤c)∧E' 3=w'∧P3 k0 H' w' (EK 0 R.flat)∧∀t,t∉wr Fh→E' t=E0 t:=by
 have hfl:=k.KC
 have hns:=k.ns
 obtain⟨x',E',H',e,-,⟨rfl,g,w',q1,q2⟩,fr⟩:=Gs (p:=P) (c:=Fh) (E0:=E0) (H0:=H)
  (fun q E H'=>∃(i:Nat)(w':CV),E 4=.i i∧i≤R.slots.length∧q=R.slots.length-i∧Keeps H H' (fun c=>k0≤c)∧E 3=w'∧P3 k0 H' w' (EK 0 (R.flat.take (16*i))))
  (fun x' E' H'=>x'=.exit 0∧Keeps H H' (fun c=>k0≤c)∧∃w',E' 3=w'∧P3 k0 H' w' (EK 0 R.flat)) (by
   rintro q E H' hE ⟨i,w',e4,hj,rfl,g,e3,p3⟩
   have e0:=(hE 0 dK).trans h0
   have m':J_ o H' rb R L:=m.frame (fun c t h=>JI (m.dom c t h) g.len) (fun _ _ h=>h) fun c t h=>g.keep c (m.dom c t h) (by have:=hd c t h;omega)
   have hc:=m'.cells
   have hsl:=m'.slots.len H'
   by_cases c:i<R.slots.length
   ·have c':decide ((i:Int)<(R.slots.length:Int))=true:=G7 oM
    have w1:IntKind.i64.wrap ((i:Int)+1)=((i+1:Nat):Int):=Gh oM
    suffices fin:∃E' H2 w2,den P Fh E H'=some (.normal,E',H2)∧E' 4=.i ((i+1:Nat):Int)∧Keeps H' H2 (fun c=>k0≤c)∧E' 3=w2∧P3 k0 H2 w2 (EK 0 (R.flat.take (16*(i+1))))by
     obtain⟨E',H2,w2,f1,f2,f3,f4,f5⟩:=fin
     exact Gp f1 (k':=R.slots.length-(i+1)) oM ⟨i+1,w2,f2,oM,rfl,g.trans f3,f4,f5⟩
    refine GH ?_
    generalize hr:den P (.loop MP) _ _=r
    obtain⟨E2,H2,w2,rfl,b1,b2,b3,b4⟩:=Gfu k (Jm hk0 g.len) c p3 (by simp[Gg,e3]) (by simp[Gg,e4]) uA hr
    have f4:=b4 4 dK
    simp only[Gg,Nat.reduceEqDiff,↓reduceIte,e4]at f4
    refine GH ?_
    exact⟨_,_,w2,rfl,uA,b1,by simp[Gg,b2],b3⟩
   ·have c':decide ((i:Int)<(R.slots.length:Int))=false:=G5 oM
    rw[QA oM]at p3
    apply Gj (x:=.exit 0)
    ·refine GH ?_
     rfl
    ·simp
    ·exact⟨rfl,g,w',by simp[Gg,e3],p3⟩) _ ⟨0,.Gc,h4,oM,rfl,Keeps.refl _ _,h3,.inl ⟨rfl,rfl,.inl rfl⟩⟩
 grind
theorem Gfz(k:R.Ok){k0:Nat}(hk0:k0≤H.length){D:List (Nat×Nat×Int)}(hD:D.length≤100){w:CV}(hw:P3 k0 H w D)
  {E0:Env}(h3:E0 3=w)(hv:E0 6=.i 0){r:Option (CX×Env×Gb)}(hr:den P (.loop M5) E0 H=r):
  ∃E' H' w',r=some (.exit 4,E',H')∧Keeps H H' (fun c=>k0≤c)∧E' 3=w'∧P3 k0 H' w' (D++EK 1 R.glob)∧∀t,t∉wr M5→E' t=E0 t:=by
 have hg:=k.g16
 have hq:=k.Po
 obtain⟨x',E',H',e,-,⟨rfl,g,w',q1,q2⟩,fr⟩:=Gs (p:=P) (c:=M5) (E0:=E0) (H0:=H)
  (fun q E H'=>∃(j:Nat)(w':CV),E 6=.i j∧j≤R.glob.length∧q=R.glob.length-j∧Keeps H H' (fun c=>k0≤c)∧E 3=w'∧P3 k0 H' w' (D++EK 1 (R.glob.take j)))
  (fun x' E' H'=>x'=.exit 4∧Keeps H H' (fun c=>k0≤c)∧∃w',E' 3=w'∧P3 k0 H' w' (D++EK 1 R.glob)) (by
   rintro q E H' hE ⟨j,w',e5,hj,rfl,g,e3,p3⟩
   by_cases c:j<R.glob.length
   ·have c':decide ((j:Int)<16)=true:=G7 oM
    obtain⟨x,hx⟩:∃x,R.glob[j]?=some x:=⟨_,JG oM⟩
    have hp:Qh (1,j,x)=[.i 1,.i 0,.i (j:Int)]:=rfl
    obtain⟨v',X,a1,a2,a3⟩:=P3.push p3 (Jm hk0 g.len) (by rw[QU,VG,List.length_take];omega) hp
    have w1:IntKind.i64.wrap ((j:Int)+1)=((j+1:Nat):Int):=Gh oM
    apply Gp (k':=R.glob.length-(j+1))
    ·refine GH ?_
     rfl
    ·omega
    ·exact⟨j+1,v',uA,oM,rfl,g.trans a3,uA,by rw[Oz hx,←List.append_assoc];exact a2⟩
   ·have c':decide ((j:Int)<16)=false:=G5 oM
    rw[QA oM]at p3
    apply Gj (x:=.exit 4)
    ·refine GH ?_
     rfl
    ·simp
    ·exact⟨rfl,g,w',by simp[Gg,e3],p3⟩) _ ⟨0,w,hv,oM,rfl,Keeps.refl _ _,h3,by simpa[EK]using hw⟩
 grind
theorem Gf_(m:J_ o H rb R L)(k:R.Ok){k0:Nat}(hk0:k0≤H.length)(hd:∀c t,o c=some t→c<k0){D:List (Nat×Nat×Int)}(hD:D.length≤100){w:CV}(hw:P3 k0 H w D)
  {E0:Env}(h0:E0 0=.ptr rb 0)(h3:E0 3=w)(hv:E0 7=.i 0){r:Option (CX×Env×Gb)}(hr:den P (.loop MI) E0 H=r):
  ∃E' H' w',r=some (.exit 6,E',H')∧Keeps H H' (fun c=>k0≤c)∧E' 3=w'∧P3 k0 H' w' (D++EK 2 R.queue)∧∀t,t∉wr MI→E' t=E0 t:=by
 have hg:=k.g16
 have hq:=k.Po
 obtain⟨x',E',H',e,-,⟨rfl,g,w',q1,q2⟩,fr⟩:=Gs (p:=P) (c:=MI) (E0:=E0) (H0:=H)
  (fun q E H'=>∃(j:Nat)(w':CV),E 7=.i j∧j≤R.queue.length∧q=R.queue.length-j∧Keeps H H' (fun c=>k0≤c)∧E 3=w'∧P3 k0 H' w' (D++EK 2 (R.queue.take j)))
  (fun x' E' H'=>x'=.exit 6∧Keeps H H' (fun c=>k0≤c)∧∃w',E' 3=w'∧P3 k0 H' w' (D++EK 2 R.queue)) (by
   rintro q E H' hE ⟨j,w',e5,hj,rfl,g,e3,p3⟩
   have e0:=(hE 0 dK).trans h0
   have m':J_ o H' rb R L:=m.frame (fun c t h=>JI (m.dom c t h) g.len) (fun _ _ h=>h) fun c t h=>g.keep c (m.dom c t h) (by have:=hd c t h;omega)
   have hc:=m'.cells
   have hql:=m'.queue.len H'
   by_cases c:j<R.queue.length
   ·have c':decide ((j:Int)<(R.queue.length:Int))=true:=G7 oM
    obtain⟨x,hx⟩:∃x,R.queue[j]?=some x:=⟨_,JG oM⟩
    have hp:Qh (2,j,x)=[.i 2,.i 0,.i (j:Int)]:=rfl
    obtain⟨v',X,a1,a2,a3⟩:=P3.push p3 (Jm hk0 g.len) (by rw[QU,VG,List.length_take];omega) hp
    have w1:IntKind.i64.wrap ((j:Int)+1)=((j+1:Nat):Int):=Gh oM
    apply Gp (k':=R.queue.length-(j+1))
    ·refine GH ?_
     rfl
    ·omega
    ·exact⟨j+1,v',uA,oM,rfl,g.trans a3,uA,by rw[Oz hx,←List.append_assoc];exact a2⟩
   ·have c':decide ((j:Int)<(R.queue.length:Int))=false:=G5 oM
    rw[QA oM]at p3
    apply Gj (x:=.exit 6)
    ·refine GH ?_
     rfl
    ·simp
    ·exact⟨rfl,g,w',by simp[Gg,e3],p3⟩) _ ⟨0,w,hv,oM,rfl,Keeps.refl _ _,h3,by simpa[EK]using hw⟩
 grind
theorem Gew(m:J_ o H rb R L)(k:R.Ok):∃w H',run P 246 [.ptr rb 0] H=some (w,H')∧Gr H H'∧P3 H.length H' w R.every:=by
 have h1:=ZI m k
 have hfl:=k.KC
 have hns:=k.ns
 have hg:=k.g16
 rw[Gi Gsg _ _ sM]
 refine GH ?_
 generalize hr:den P (.loop Fh) _ _=r
 obtain⟨E1,H1,w1,rfl,g1,a1,p1,f1⟩:=GfC m k (Nat.le_refl _) m.dom uA uA uA hr
 have b0:=f1 0 dK
 simp only[Gg,Nat.reduceEqDiff,↓reduceIte]at b0
 refine GH ?_
 generalize hr:den P (.loop M5) _ _=r
 obtain⟨E2,H2,w2,rfl,g2,a2,p2,f2⟩:=Gfz k g1.len (by rw[VG];omega) p1 (by simp[Gg,a1]) uA hr
 have b2:=f2 0 dK
 simp only[Gg,Nat.reduceEqDiff,↓reduceIte,b0]at b2
 refine GH ?_
 generalize hr:den P (.loop MI) _ _=r
 have g12:=g1.trans g2
 have m2:J_ o H2 rb R L:=m.frame (fun c t h=>JI (m.dom c t h) g12.len) (fun _ _ h=>h) fun c t h=>g12.keep c (m.dom c t h) (by have:=m.dom c t h;omega)
 obtain⟨E3,H3,w3,rfl,g3,a3,p3,f3⟩:=Gf_ m2 k g12.len m.dom (by rw[QU,VG,VG];omega) p2 (by simp[Gg,b2]) (by simp[Gg,a2]) uA hr
 refine GH ?_
 have g:=g12.trans g3
 refine⟨w3,H3,rfl,⟨g.len,fun c hc _=>g.keep c hc oM⟩,?_⟩
 unfold Rt.every
 rw[←List.append_assoc]
 exact p3
end
end Go.Cs.Tryz
namespace Go.Cs.Tryz
open Go Go.Cs A
abbrev EU:Gq:=S (T [m 8 5,m 9 4,le 10 9,b 11 .lss 8 10] (J 11 (X 0))) (S (B 1 (T [m 14 0,m 15 4,m 16 5,x 17 3 15 16,lg 18 3 17,q2 19 169 14 18,bk 20 .neq 19 0] (I 20 (R [m 21 3,m 22 4,m 23 5,x 24 3 22 23,lg 25 3 24,e 26 (.buildSlice 3 [i 0,i 0,i 0] 1 [(0,3,t 25)]),ap 27 3 21 26,m 3 27])))) (R [m 12 5,bk 13 .add 12 1,m 5 13]))
def Gup:Gl:=⟨29,0,T [e 2 (.JR (c .Gc))] (T [e 3 (.JR (c .Gc))] (T [m 6 0,q1 7 246 6,m 4 7] (S (T [n 5 0] (B 0 (W EU))) (Q [m 28 3,m 2 28])))),[r 2]⟩
theorem c168:P 168=some Gup:=by kernel_rfl
end Go.Cs.Tryz
namespace Go.Cs
open Go
theorem GiR{l:Nat}{xs:List Int}{y:Nat×Nat×Int}(h:y∈EK l xs):y.1=l∧xs[y.2.1]?=some y.2.2:=by
 unfold EK at h
 grind
theorem Rt.GfF{R:Rt}{x:Nat×Nat×Int}(h:x∈R.every):x.1≤2∧(R.li x.1)[x.2.1]?=some x.2.2:=by
 unfold Rt.every at h
 simp only[NV]at h
 rcases h with h|h|h<;>
 ·obtain⟨h1,h2⟩:=GiR h
  refine⟨oM,?_⟩
  rw[h1];exact h2
theorem Aa{α:Type}{p:α→Bool}{l:List α}{j:Nat}{x:α}(h:l[j]?=some x):(l.take (j+1)).filter p=(l.take j).filter p++(if p x then [x]else []):=by
 rw[QV,h,Yu,List.filter_append]
 congr 1
 cases e:p x<;>simp[e]
end Go.Cs
namespace Go.Cs.Tryz
open Go Go.Cs
section
variable {H : Gb} {o : Tags} {rb : Nat} {R : Rt} {L : Z8}
theorem P3.at{k:Nat}{w:CV}{D:List (Nat×Nat×Int)}(h:P3 k H w D){j:Nat}{x:Nat×Nat×Int}(hx:D[j]?=some x):
  k≤Gn w∧Gn w<H.length∧(∀X,JU 3 w (.i j) X=some (.ptr (Gn w) (j*3),X))∧∀Y:Gb,Y[Gn w]?=H[Gn w]?→Fw Y[Gn w]? (j*3) 3=some [.i (KV x).1,.i (KV x).2.1,.i (KV x).2.2]:=by
 have hj:=Gf hx
 obtain⟨tl,a1,a2,a3,a4⟩:=h.pos oM
 refine⟨(Gm.1 a2).1,Gf a3,fun X=>?_,fun Y hY=>?_⟩
 ·rw[a1];exact(if_pos oM).trans (by simp[Gn])
 ·rw[hY,a3,←Gbq];exact WA hx
theorem GdM(m:J_ o H rb R L)(k:R.Ok){k0 k1:Nat}(hk0:k0≤H.length)(hd:∀c t,o c=some t→c<k0){w:CV}(hw:P3 k1 H w R.every)(hwk:R.every≠[]→Gn w<k0)
  {E0:Env}(h0:E0 0=.ptr rb 0)(h3:E0 3=.Gc)(h4:E0 4=w)(h5:E0 5=.i 0){r:Option (CX×Env×Gb)}(hr:den P (.loop EU) E0 H=r):
  ∃E' H' w',r=some (.exit 0,E',H')∧Keeps H H' (fun c=>k0≤c)∧E' 3=w'∧P3 k0 H' w' R.vis∧∀t,t∉wr EU→E' t=E0 t:=by
 have hel:=k.GeM
 obtain⟨x',E',H',e,-,⟨rfl,g,w',q1,q2⟩,fr⟩:=Gs (p:=P) (c:=EU) (E0:=E0) (H0:=H)
  (fun q E H'=>∃(j:Nat)(w':CV),E 5=.i j∧j≤R.every.length∧q=R.every.length-j∧Keeps H H' (fun c=>k0≤c)∧E 3=w'∧P3 k0 H' w' ((R.every.take j).filter fun x=>x.2.2 != 0))
  (fun x' E' H'=>x'=.exit 0∧Keeps H H' (fun c=>k0≤c)∧∃w',E' 3=w'∧P3 k0 H' w' R.vis) (by
   rintro q E H' hE ⟨j,w',e5,hj,rfl,g,e3,p3⟩
   have e0:=(hE 0 dK).trans h0
   have e4:=(hE 4 dK).trans h4
   have m':J_ o H' rb R L:=m.frame (fun c t h=>JI (m.dom c t h) g.len) (fun _ _ h=>h) fun c t h=>g.keep c (m.dom c t h) (by have:=hd c t h;omega)
   have hwl:=hw.len H'
   by_cases c:j<R.every.length
   ·have c':decide ((j:Int)<(R.every.length:Int))=true:=G7 oM
    obtain⟨x,hx⟩:∃x,R.every[j]?=some x:=⟨_,JG c⟩
    obtain⟨y1,y2⟩:=Rt.GfF (JV hx)
    have hloc:=k.IW (x:=x) y1 (Gf y2)
    obtain⟨i1,i2,i3,i4⟩:=P3.at hw hx
    have IC:=hwk (fun h=>by rw[h]at c;exact absurd c sM)
    have Pp:H'[Gn w]?=H[Gn w]?:=g.keep _ i2 oM
    have l1:=i4 H' Pp
    have b1:=GcB m' k hloc
    rw[WE,y2]at b1
    simp only[Option.getD_some]at b1
    obtain⟨X,hX⟩:∃X:Gb,X=H'++[⟨[.i (KV x).1,.i (KV x).2.1,.i (KV x).2.2],.rw,0⟩]:=⟨_,rfl⟩
    have gX:Gr H' X:=by rw[hX];exact Gr.app _ _
    rw[←hX]at b1
    have hlen:=g.len
    have l2:=i4 X ((gX.keep _ oM fun h=>h).trans Pp)
    have p3X:=At.keeps p3 gX
    have w1:IntKind.i64.wrap ((j:Int)+1)=((j+1:Nat):Int):=Gh oM
    have gX':Keeps H' X (fun c=>k0≤c):=⟨gX.len,fun c hc _=>gX.keep c hc fun h=>h⟩
    suffices fin:∃E' H2 w2,den P EU E H'=some (.normal,E',H2)∧E' 5=.i ((j+1:Nat):Int)∧Keeps H' H2 (fun c=>k0≤c)∧E' 3=w2∧P3 k0 H2 w2 ((R.every.take (j+1)).filter fun x=>x.2.2 != 0)by
     obtain⟨E',H2,w2,f1,f2,f3,f4,f5⟩:=fin
     exact Gp f1 (k':=R.every.length-(j+1)) oM ⟨j+1,w2,f2,oM,rfl,g.trans f3,f4,f5⟩
    rw[Aa hx]
    by_cases hz:x.2.2=0
    ·have hz':(x.2.2 != 0)=false:=by rw[hz];rfl
     refine W10 e0 e4 e5 hwl c' i3 l1 b1 hz' w1 ?_
     exact⟨_,_,w',rfl,uA,gX',by simp[Gg,e3],p3X⟩
    ·have hz':(x.2.2 != 0)=true:=by simpa using hz
     have hfl:((R.every.take j).filter fun x=>x.2.2 != 0).length≤144:=Jm (List.length_filter_le _ _) (by rw[List.length_take];omega)
     obtain⟨v',X2,a1,a2,a3⟩:=P3.push p3X (Jm hk0 (Jm g.len gX.len)) oM (Gbq x)
     refine W15 e0 e3 e4 e5 hwl c' i3 l1 b1 hz' l2 @J5 @Gu a1 w1 ?_
     exact⟨_,_,v',rfl,uA,gX'.trans a3,uA,a2⟩
   ·have c':decide ((j:Int)<(R.every.length:Int))=false:=G5 oM
    rw[QA oM,←Rt.GdI]at p3
    apply Gj (x:=.exit 0)
    ·refine GH ?_
     rfl
    ·simp
    ·exact⟨rfl,g,w',by simp[Gg,e3],p3⟩) _ ⟨0,.Gc,h5,oM,rfl,Keeps.refl _ _,h3,.inl ⟨rfl,rfl,.inl rfl⟩⟩
 grind
theorem Gcg(m:J_ o H rb R L)(k:R.Ok):∃w H',run P 168 [.ptr rb 0] H=some (w,H')∧Gr H H'∧P3 H.length H' w R.vis:=by
 obtain⟨w,H1,h1,g1,p1⟩:=Gew m k
 have m1:=m.gr g1
 have hel:R.every≠[]:=fun h=>by
  have:=k.g16
  have e:R.every.length=0:=by rw[h];rfl
  unfold Rt.every at e
  simp only[QU,VG]at e
  omega
 have hwb:Gn w<H1.length:=by
  have h0:0<R.every.length:=A7.2 hel
  obtain⟨tl,a1,a2,a3,a4⟩:=p1.pos h0
  exact Gf a3
 rw[Gi c168 _ _ sM]
 refine GH ?_
 generalize hr:den P (.loop EU) _ _=r
 obtain⟨E2,H2,w2,rfl,g2,a2,p2,f2⟩:=GdM m1 k (Nat.le_refl _) m1.dom p1 (fun _=>hwb) uA uA uA uA hr
 refine GH ?_
 refine⟨w2,H2,rfl,⟨Jm g1.len g2.len,fun c hc _=>?_⟩,p2.frame (fun c h=>Gm.2 ⟨Jm g1.len (Gm.1 h).1,(Gm.1 h).2⟩) fun _ _=>rfl⟩
 have:=g1.len
 rw[g2.keep c oM oM,g1.keep c hc fun h=>h]
end
end Go.Cs.Tryz
namespace Go.Cs.Tryz
open Go Go.Cs A
abbrev RD:Gq:=S (T [m 23 8,m 24 3,le 25 24,b 26 .lss 23 25] (J 26 (X 2))) (S (B 3 (R [m 29 7,m 30 29,gf 30 (m 31 3),gf 30 (m 32 8),gf 30 (x 33 1 31 32),gf 30 (l 34 1 33),gf 30 (m 35 6),gf 30 (b 36 .eql 34 35),or 37 30 36,m 7 37])) (R [m 27 8,bk 28 .add 27 1,m 8 28]))
abbrev R6:Gq:=S (T [m 11 5,m 12 4,le 13 12,b 14 .lss 11 13] (J 14 (X 0))) (S (B 1 (T [m 17 0,m 18 4,m 19 5,x 20 3 18 19,lg 21 3 20,q2 22 169 17 21,m 6 22] (T [nb 7 false] (S (T [n 8 0] (B 2 (W RD))) (T [m 38 7,no 39 38] (I 39 (R [m 40 3,m 41 6,e 42 (.buildSlice 1 [i 0] 1 [(0,1,t 41)]),ap 43 1 40 42,m 3 43]))))))) (R [m 15 5,bk 16 .add 15 1,m 5 16]))
def C69:Gl:=⟨45,0,T [e 2 (.JR (c .Gc))] (T [e 3 (.JR (c .Gc))] (T [m 9 0,q1 10 168 9,m 4 10] (S (T [n 5 0] (B 0 (W R6))) (Q [m 44 3,m 2 44])))),[r 2]⟩
theorem c69:P 69=some C69:=by kernel_rfl
end Go.Cs.Tryz
namespace Go.Cs
open Go
theorem Gg8{l:List Int}{j:Nat}{y x:Int}(h:l[j]?=some y):(l.take (j+1)).any (fun z=>z==x)=((l.take j).any (fun z=>z==x)||y==x):=by
 rw[QV,h,Yu,List.any_append]
 simp
end Go.Cs
namespace Go.Cs.Tryz
open Go Go.Cs
section
variable {H : Gb} {o : Tags} {rb : Nat} {R : Rt} {L : Z8}
theorem Gef{l:List Int}{w:CV}(h:LI H w l)(hl:l.length≤100000){x:Int}{E0:Env}(h3:E0 3=w)(h6:E0 6=.i x)(h7:E0 7=.bool false)(h8:E0 8=.i 0){r:Option (CX×Env×Gb)}(hr:den P (.loop RD) E0 H=r):
  ∃E',r=some (.exit 2,E',H)∧E' 7=.bool (decide (x∈l))∧∀t,t∉wr RD→E' t=E0 t:=by
 obtain⟨x',E',H',e,-,⟨rfl,rfl,hf⟩,fr⟩:=Gs (p:=P) (c:=RD) (E0:=E0) (H0:=H)
  (fun q E H'=>H'=H∧∃j:Nat,E 8=.i j∧j≤l.length∧q=l.length-j∧E 7=.bool ((l.take j).any fun z=>z==x))
  (fun x' E' H'=>x'=.exit 2∧H'=H∧E' 7=.bool (decide (x∈l))) (by
   rintro q E H' hE ⟨rfl,j,e8,hj,rfl,e7⟩
   have e3:=(hE 3 dK).trans h3
   have e6:=(hE 6 dK).trans h6
   have hvl:=h.len H'
   by_cases c:j<l.length
   ·have c':decide ((j:Int)<(l.length:Int))=true:=G7 oM
    have hx:l[j]?=some l[j]:=JG c
    obtain⟨b,o,i1,i2,i3⟩:=h.at hx
    have AZ:=i3 H' (Keeps.refl _ _)
    have w1:IntKind.i64.wrap ((j:Int)+1)=((j+1:Nat):Int):=Gh oM
    suffices fin:∃E',den P RD E H'=some (.normal,E',H')∧E' 8=.i ((j+1:Nat):Int)∧E' 7=.bool ((l.take j).any (fun z=>z==x)||l[j]==x)by
     obtain⟨E',f1,f2,f3⟩:=fin
     exact Gp f1 (k':=l.length-(j+1)) oM ⟨rfl,j+1,f2,oM,rfl,by rw[Gg8 hx];exact f3⟩
    cases ha:(l.take j).any fun z=>z==x with
    |true=>
     rw[ha]at e7
     refine GH ?_
     exact⟨_,rfl,uA,uA⟩
    |false=>
     rw[ha]at e7
     refine GH ?_
     exact⟨_,rfl,uA,uA⟩
   ·have c':decide ((j:Int)<(l.length:Int))=false:=G5 oM
    rw[QA oM]at e7
    apply Gj (x:=.exit 2)
    ·refine GH ?_
     rfl
    ·simp
    ·refine⟨rfl,rfl,?_⟩
     have:(l.any fun z=>z==x)=decide (x∈l):=by
      grind
     rw[←this]
     simp[Gg,e7]) _ ⟨rfl,0,h8,oM,rfl,by simpa using h7⟩
 exact⟨E',hr.symm.trans e,hf,fr⟩
theorem GeF(m:J_ o H rb R L)(k:R.Ok){k0 k1:Nat}(hk0:k0≤H.length)(hd:∀c t,o c=some t→c<k0){w:CV}(hw:P3 k1 H w R.vis)(hwk:R.vis≠[]→Gn w<k0)
  {E0:Env}(h0:E0 0=.ptr rb 0)(h3:E0 3=.Gc)(h4:E0 4=w)(h5:E0 5=.i 0){r:Option (CX×Env×Gb)}(hr:den P (.loop R6) E0 H=r):
  ∃E' H' w',r=some (.exit 0,E',H')∧Keeps H H' (fun c=>k0≤c)∧E' 3=w'∧IL k0 H' w' (GY R.vis)∧∀t,t∉wr R6→E' t=E0 t:=by
 have hel:=k.VJ
 obtain⟨x',E',H',e,-,⟨rfl,g,w',q1,q2⟩,fr⟩:=Gs (p:=P) (c:=R6) (E0:=E0) (H0:=H)
  (fun q E H'=>∃(j:Nat)(w':CV),E 5=.i j∧j≤R.vis.length∧q=R.vis.length-j∧Keeps H H' (fun c=>k0≤c)∧E 3=w'∧IL k0 H' w' (GY (R.vis.take j)))
  (fun x' E' H'=>x'=.exit 0∧Keeps H H' (fun c=>k0≤c)∧∃w',E' 3=w'∧IL k0 H' w' (GY R.vis)) (by
   rintro q E H' hE ⟨j,w',e5,hj,rfl,g,e3,p3⟩
   have e0:=(hE 0 dK).trans h0
   have e4:=(hE 4 dK).trans h4
   have m':J_ o H' rb R L:=m.frame (fun c t h=>JI (m.dom c t h) g.len) (fun _ _ h=>h) fun c t h=>g.keep c (m.dom c t h) (by have:=hd c t h;omega)
   have hwl:=hw.len H'
   by_cases c:j<R.vis.length
   ·have c':decide ((j:Int)<(R.vis.length:Int))=true:=G7 oM
    obtain⟨x,hx⟩:∃x,R.vis[j]?=some x:=⟨_,JG c⟩
    obtain⟨y1,y2,y3⟩:=Rt.GbJ (JV hx)
    have hloc:=k.IW (x:=x) y1 (Gf y2)
    obtain⟨i1,i2,i3,i4⟩:=P3.at hw hx
    have IC:=hwk (fun h=>by rw[h]at c;exact absurd c sM)
    have Pp:H'[Gn w]?=H[Gn w]?:=g.keep _ i2 oM
    have l1:=i4 H' Pp
    have b1:=GcB m' k hloc
    rw[WE,y2]at b1
    simp only[Option.getD_some]at b1
    obtain⟨X,hX⟩:∃X:Gb,X=H'++[⟨[.i (KV x).1,.i (KV x).2.1,.i (KV x).2.2],.rw,0⟩]:=⟨_,rfl⟩
    have gX:Gr H' X:=by rw[hX];exact Gr.app _ _
    rw[←hX]at b1
    have hlen:=g.len
    have p3X:=At.keeps p3 gX
    have hll:=Qz (R.vis.take j)
    rw[List.length_take]at hll
    have w1:IntKind.i64.wrap ((j:Int)+1)=((j+1:Nat):Int):=Gh oM
    have gX':Keeps H' X (fun c=>k0≤c):=⟨gX.len,fun c hc _=>gX.keep c hc fun h=>h⟩
    suffices fin:∃E' H2 w2,den P R6 E H'=some (.normal,E',H2)∧E' 5=.i ((j+1:Nat):Int)∧Keeps H' H2 (fun c=>k0≤c)∧E' 3=w2∧IL k0 H2 w2 (GY (R.vis.take (j+1)))by
     obtain⟨E',H2,w2,f1,f2,f3,f4,f5⟩:=fin
     exact Gp f1 (k':=R.vis.length-(j+1)) oM ⟨j+1,w2,f2,oM,rfl,g.trans f3,f4,f5⟩
    rw[show R.vis.take (j+1)=R.vis.take j++[x]by rw[QV,hx];rfl,Zd]
    refine W8 e0 e4 e5 hwl c' i3 l1 b1 ?_
    generalize hr:den P (.loop RD) _ _=r
    obtain⟨E2,rfl,a7,f2⟩:=Gef (x:=x.2.2) (IL.li p3X) oM (by simp[Gg,e3]) uA uA uA hr
    have b3:=f2 3 dK
    have b5:=f2 5 dK
    have b6:=f2 6 dK
    simp only[Gg,Nat.reduceEqDiff,↓reduceIte,e3,e5]at b3 b5 b6
    by_cases hm:x.2.2∈GY (R.vis.take j)
    ·rw[G7 hm]at a7
     refine W3 a7 b5 w1 ?_
     exact⟨_,_,w',rfl,uA,gX',by simp[Gg,b3],by rw[Um,if_pos hm];exact p3X⟩
    ·rw[G5 hm]at a7
     obtain⟨v',X2,a1,a2,a3⟩:=IL.push p3X (Jm hk0 (Jm g.len gX.len)) oM x.2.2
     have hel:elems (X++[⟨[.i x.2.2],.rw,1⟩]) 1 (.slice X.length 0 1 1 1 false)=some (1,[.i x.2.2]):=by
      rw[J7 oM]
      have:=@Kc;exact W0
     refine W9 a7 b3 b5 b6 @J5 @Gu hel a1 w1 ?_
     exact⟨_,_,v',rfl,uA,gX'.trans a3,uA,by rw[Um,if_neg hm];exact a2⟩
   ·have c':decide ((j:Int)<(R.vis.length:Int))=false:=G5 oM
    rw[QA oM]at p3
    apply Gj (x:=.exit 0)
    ·refine GH ?_
     rfl
    ·simp
    ·exact⟨rfl,g,w',by simp[Gg,e3],p3⟩) _ ⟨0,.Gc,h5,oM,rfl,Keeps.refl _ _,h3,.inl ⟨rfl,rfl,.inl rfl⟩⟩
 grind
theorem Gd3(m:J_ o H rb R L)(k:R.Ok):∃w H',run P 69 [.ptr rb 0] H=some (w,H')∧Gr H H'∧IL H.length H' w (GY R.vis):=by
 obtain⟨w,H1,h1,g1,p1⟩:=Gcg m k
 have m1:=m.gr g1
 have hwb:R.vis≠[]→Gn w<H1.length:=fun h=>by
  obtain⟨tl,a1,a2,a3,a4⟩:=p1.pos (A7.2 h)
  exact Gf a3
 rw[Gi c69 _ _ sM]
 refine GH ?_
 generalize hr:den P (.loop R6) _ _=r
 obtain⟨E2,H2,w2,rfl,g2,a2,p2,f2⟩:=GeF m1 k (Nat.le_refl _) m1.dom p1 hwb uA uA uA uA hr
 refine GH ?_
 refine⟨w2,H2,rfl,⟨Jm g1.len g2.len,fun c hc _=>?_⟩,p2.frame (fun c h=>Gm.2 ⟨Jm g1.len (Gm.1 h).1,(Gm.1 h).2⟩) fun _ _=>rfl⟩
 have:=g1.len
 rw[g2.keep c oM oM,g1.keep c hc fun h=>h]
end
end Go.Cs.Tryz

namespace Go.Cs
open Go
inductive Kp(s:Hp)(st:Int→Prop)(tb:Bool):Int→Prop
 |start {a:Int}:st a→s.has a=true→Kp s st tb a
 |ref {a b:Int} {o:Ob} {j:Nat}:Kp s st tb a→s.obj a=some o→o.refs[j]?=some b→Jh o.kd j=true→s.has b=true→Kp s st tb b
 |pair {a b c:Int} {o:Ob}:tb=true→Kp s st tb a→s.obj a=some o→o.kd=2→o.refs[0]?=some c→Kp s st tb c→o.refs[1]?=some b→s.has b=true→Kp s st tb b
theorem Kp.has{s:Hp}{st:Int→Prop}{tb:Bool}{a:Int}(h:Kp s st tb a):s.has a=true:=by
 cases h<;>assumption
theorem Kp.mono{s:Hp}{st st':Int→Prop}{tb:Bool}(hs:∀a,st a→st' a){a:Int}(h:Kp s st tb a):Kp s st' tb a:=by
 induction h with
 |start h1 h2=>exact .start (hs _ h1) h2
 |ref _ h2 h3 h4 h5 ih=>exact .ref ih h2 h3 h4 h5
 |pair h1 _ h3 h4 h5 _ h7 h8 ih1 ih2=>exact .pair h1 ih1 h3 h4 h5 ih2 h7 h8
def incl(s:Hp)(l:List Int)(a:Int):List Int:=if s.has a=true then BZ a l else l
def Nn(s:Hp)(o:Ob)(j:Nat)(l:List Int):List Int:=((o.refs.take j).zipIdx).foldl (fun l x=>if Jh o.kd x.2=true then incl s l x.1 else l) l
def U9(s:Hp)(tb:Bool)(l:List Int)(o:Ob):List Int:=
 if tb=true∧o.kd=2∧o.refs.getD 0 0∈Nn s o o.refs.length l then incl s (Nn s o o.refs.length l) (o.refs.getD 1 0)else Nn s o o.refs.length l
def KX(s:Hp)(tb:Bool)(all:List Int)(j:Nat)(l:List Int):List Int:=(all.take j).foldl (fun l a=>match s.obj a with|some o=>U9 s tb l o|none=>l) l
structure Bw(l k:List Int):Prop where
 XO:ZC l→ZC k
 sub:∀x∈l,x∈k
 len:l.length≤k.length
 eq:ZC l→k.length=l.length→k=l
theorem Bw.refl(l:List Int):Bw l l:=⟨fun h=>h,fun _ h=>h,Nat.le_refl _,fun _ _=>rfl⟩
theorem Bw.trans{l k m:List Int}(a:Bw l k)(b:Bw k m):Bw l m:=
 ⟨fun h=>b.XO (a.XO h),fun x h=>b.sub x (a.sub x h),Jm a.len b.len,fun h e=>by
  have h1:=a.len
  have h2:=b.len
  have e1:=a.eq h oM
  subst e1
  exact b.eq h e⟩
theorem Ga7(n:Int)(l:List Int):BZ n l=l∧n∈l∨(BZ n l).length=l.length+1:=by
 rw[Tq]
 grind
theorem AJ(s:Hp)(l:List Int)(a:Int):Bw l (incl s l a):=by
 unfold incl
 split
 ·refine⟨Xa,fun x h=>Y9.2 (.inr h),?_,fun _ h=>?_⟩
  ·rcases Ga7 a l with h|h
   ·rw[h.1];exact Nat.le_refl _
   ·omega
  ·rcases Ga7 a l with h1|h1
   ·exact h1.1
   ·omega
 ·exact .refl l
theorem Rl{s:Hp}{l:List Int}{a:Int}(h:incl s l a=l)(ha:s.has a=true):a∈l:=by
 rw[incl,if_pos ha]at h
 rw[←h];exact Y9.2 (.inl rfl)
theorem Og{s:Hp}{l:List Int}{a x:Int}(h:x∈incl s l a):(x=a∧s.has a=true)∨x∈l:=by
 unfold incl at h
 split at h
 ·rcases Y9.1 h with h|h
  ·exact .inl ⟨h,by assumption⟩
  ·exact .inr h
 ·exact .inr h
theorem YU{s:Hp}{o:Ob}{j:Nat}{l:List Int}{r:Int}(h:o.refs[j]?=some r):Nn s o (j+1) l=if Jh o.kd j=true then incl s (Nn s o j l) r else Nn s o j l:=by
 have hj:=Gf h
 unfold Nn
 rw[QV,h,Yu,List.zipIdx_append,List.foldl_append]
 grind
theorem Gb3{s:Hp}{o:Ob}{j:Nat}{l:List Int}(hj:j<o.refs.length):Bw (Nn s o j l) (Nn s o (j+1) l):=by
 rw[YU (JG hj)]
 split
 ·exact AJ _ _ _
 ·exact .refl _
theorem NT{s:Hp}{o:Ob}{l:List Int}:∀{i j:Nat},i≤j→j≤o.refs.length→Bw (Nn s o i l) (Nn s o j l):=by
 intro i j hi
 induction hi with
 |refl=>intro _;exact .refl _
 |step h ih=>intro hj;exact(ih oM).trans (Gb3 oM)
theorem Gbr(s:Hp)(tb:Bool)(l:List Int)(o:Ob):Bw l (U9 s tb l o):=by
 have h:Bw l (Nn s o o.refs.length l):=NT (Nat.zero_le _) (Nat.le_refl _)
 unfold U9
 split
 ·exact h.trans (AJ _ _ _)
 ·exact h
theorem YQ{s:Hp}{tb:Bool}{all:List Int}{j:Nat}{l:List Int}{a:Int}(h:all[j]?=some a):KX s tb all (j+1) l=match s.obj a with|some o=>U9 s tb (KX s tb all j l) o|none=>KX s tb all j l:=by
 unfold KX
 rw[QV,h,Yu,List.foldl_append]
 rfl
theorem Gbl{s:Hp}{tb:Bool}{all:List Int}{j:Nat}{l:List Int}(hj:j<all.length):Bw (KX s tb all j l) (KX s tb all (j+1) l):=by
 rw[YQ (JG hj)]
 split
 ·exact Gbr _ _ _ _
 ·exact .refl _
theorem Uo{s:Hp}{tb:Bool}{all:List Int}{l:List Int}:∀{i j:Nat},i≤j→j≤all.length→Bw (KX s tb all i l) (KX s tb all j l):=by
 intro i j hi
 induction hi with
 |refl=>intro _;exact .refl _
 |step h ih=>intro hj;exact(ih oM).trans (Gbl oM)
theorem squeeze{l k m:List Int}(hs:ZC l)(a:Bw l k)(b:Bw k m)(e:m=l):k=l:=by
 have h1:=a.len
 have h2:=b.len
 exact a.eq hs (by rw[e]at h2;omega)
theorem Wm{s:Hp}{o:Ob}{l:List Int}(hs:ZC l)(h:Nn s o o.refs.length l=l){j:Nat}{r:Int}(hr:o.refs[j]?=some r) (hst:Jh o.kd j=true) (hh:s.has r=true):r∈l:=by
 have hj:=Gf hr
 have e0:Nn s o j l=l:=squeeze hs (NT (Nat.zero_le _) oM) (NT oM (Nat.le_refl _)) h
 have e1:Nn s o (j+1) l=l:=squeeze hs (NT (Nat.zero_le _) oM) (NT oM (Nat.le_refl _)) h
 rw[YU hr,if_pos hst,e0]at e1
 exact Rl e1 hh
theorem Ih{s:Hp}{tb:Bool}{l:List Int}(hs:ZC l)(h:KX s tb l l.length l=l){a:Int}{o:Ob}(ha:a∈l)(ho:s.obj a=some o):U9 s tb l o=l:=by
 obtain⟨j,hj⟩:=List.mem_iff_getElem?.1 ha
 have hl:=Gf hj
 have e0:KX s tb l j l=l:=squeeze hs (Uo (Nat.zero_le _) oM) (Uo oM (Nat.le_refl _)) h
 have e1:KX s tb l (j+1) l=l:=squeeze hs (Uo (Nat.zero_le _) oM) (Uo oM (Nat.le_refl _)) h
 rw[YQ hj,ho,e0]at e1
 exact e1
theorem Ge2{s:Hp}{st:Int→Prop}{tb:Bool}{l:List Int}(hs:ZC l)(h0:∀a,st a→s.has a=true→a∈l)(h:KX s tb l l.length l=l){a:Int}(ha:Kp s st tb a):a∈l:=by
 induction ha with
 |start h1 h2=>exact h0 _ h1 h2
 |@ref a b o j _ h2 h3 h4 h5 ih=>
  have e:=Ih hs h ih h2
  have e1:Nn s o o.refs.length l=l:=by
   refine squeeze hs (NT (Nat.zero_le _) (Nat.le_refl _)) ?_ e
   unfold U9
   split
   ·exact AJ _ _ _
   ·exact .refl _
  exact Wm hs e1 h3 h4 h5
 |@pair a b c o h1 _ h3 h4 h5 _ h7 h8 ih1 ih2=>
  have e:=Ih hs h ih1 h3
  have e1:Nn s o o.refs.length l=l:=by
   refine squeeze hs (NT (Nat.zero_le _) (Nat.le_refl _)) ?_ e
   unfold U9
   split
   ·exact AJ _ _ _
   ·exact .refl _
  unfold U9 at e
  rw[e1,if_pos ⟨h1,h4,by grind⟩,WE,h7]at e
  exact Rl e h8
theorem ME{s:Hp}{st:Int→Prop}{tb:Bool}{o:Ob}{a:Int}(ha:Kp s st tb a)(ho:s.obj a=some o){l:List Int}(hl:∀x∈l,Kp s st tb x):∀{j:Nat},j≤o.refs.length→∀x∈Nn s o j l,Kp s st tb x:=by
 intro j
 induction j with
 |zero=>intro _;exact hl
 |succ j ih=>
  intro hj x hx
  have hr:o.refs[j]?=some o.refs[j]:=JG oM
  rw[YU hr]at hx
  split at hx
  ·rename_i c
   rcases Og hx with⟨rfl,h⟩|h
   ·exact .ref ha ho hr c h
   ·exact ih oM x h
  ·exact ih oM x hx
theorem GdJ{s:Hp}{st:Int→Prop}{tb:Bool}{o:Ob}{a:Int}(ha:Kp s st tb a)(ho:s.obj a=some o)(hk:o.kd=2→2≤o.refs.length){l:List Int}(hl:∀x∈l,Kp s st tb x):∀x∈U9 s tb l o,Kp s st tb x:=by
 intro x hx
 have h1:=ME ha ho hl (Nat.le_refl _)
 unfold U9 at hx
 split at hx
 ·rename_i c
  rcases Og hx with⟨rfl,h⟩|h
  ·obtain⟨c1,c2,c3⟩:=c
   have h2:=hk c2
   have e0:o.refs[0]?=some (o.refs.getD 0 0):=by grind
   have e1:o.refs[1]?=some (o.refs.getD 1 0):=by grind
   exact .pair c1 ha ho c2 e0 (h1 _ c3) e1 h
  ·exact h1 x h
 ·exact h1 x hx
theorem Hp.Ok.Pd{s:Hp}(k:s.Ok){a:Int}{o:Ob}(h:s.obj a=some o):(o.kd=1→1≤o.refs.length)∧(o.kd=2→2≤o.refs.length):=
 (k.ob o (Hp.GV h).1).kd.2
theorem Wp{s:Hp}(k:s.Ok){st:Int→Prop}{tb:Bool}{all l:List Int}(hall:∀x∈all,Kp s st tb x)(hl:∀x∈l,Kp s st tb x):∀{j:Nat},j≤all.length→∀x∈KX s tb all j l,Kp s st tb x:=by
 intro j
 induction j with
 |zero=>intro _;exact hl
 |succ j ih=>
  intro hj x hx
  have hr:all[j]?=some all[j]:=JG oM
  rw[YQ hr]at hx
  split at hx
  ·rename_i o ho
   exact GdJ (hall _ (JV hr)) ho (k.Pd ho).2 (ih oM) x hx
  ·exact ih oM x hx
theorem Hp.Ok.has_lt{s:Hp}(k:s.Ok){a:Int}(h:s.has a=true):0≤a∧a<4096:=by
 obtain⟨o,ho⟩:=Hp.J2.1 h
 obtain⟨h1,h2⟩:=Hp.GV ho
 have h3:=(k.ob o h1).fits
 have h4:=o.size_pos
 have h5:=k.nb
 have h6:s.nw=64*s.blk.length:=rfl
 omega
theorem Hp.Ok.La{s:Hp}(k:s.Ok){l:List Int}(h:ZC l)(hl:∀x∈l,s.has x=true):l.length≤4096:=by
 rcases Gkb h (a:=0) (b:=4096) (fun x hx=>k.has_lt (hl x hx))with h|h
 ·omega
 ·rw[h];simp
end Go.Cs
namespace Go.Cs.Tryz
open Go Go.Cs A
abbrev RP:Gq:=S (T [m 54 13,f 55 5 12,l 56 1 55,le 57 56,b 58 .lss 54 57] (J 58 (X 6))) (S (B 7 (T [f 61 2 12,lg 62 3 61,m 63 13,q2 64 165 62 63] (I 64 (R [m 65 0,m 66 7,f 67 5 12,l 68 1 67,m 69 13,x 70 1 68 69,l 71 1 70,q3 72 163 65 66 71,m 7 72])))) (R [m 59 13,bk 60 .add 59 1,m 13 60]))
abbrev RJ:Gq:=S (T [m 36 11,m 37 10,le 38 37,b 39 .lss 36 38] (J 39 (X 4))) (S (B 5 (S (D [⟨m 46 0,4,0,0⟩,⟨m 47 10,5,0,0⟩,⟨m 48 11,6,0,0⟩,⟨x 49 1 47 48,7,0,0⟩,⟨l 50 1 49,8,1,0⟩,⟨q2 51 22 46 50,9,3,0⟩,⟨m 42 0,0,0,0⟩,⟨z 43 42,1,0,0⟩,⟨f 44 1 43,2,0,0⟩,⟨l 45 1 44,3,1,0⟩,⟨x 52 8 45 51,10,0,1⟩,⟨lg 53 8 52,11,1,1⟩,⟨e 12 (.new [i 0,i 0,i 0,i 0,i 0,.Gc,.Gc,.bool false]),12,0,0⟩,⟨st 8 12 53,13,3,1⟩]) (S (T [n 13 0] (B 6 (W RP))) (T [m 73 2,m 74 73,gt 74 (f 75 2 12),gt 74 (f 76 2 75),gt 74 (l 77 1 76),gt 74 (bk 78 .eql 77 2),an 79 74 78,m 80 79,gt 80 (m 81 7),gt 80 (f 82 5 12),gt 80 (l 83 1 82),gt 80 (e 84 (.index 1 (t 83) (k 0))),gt 80 (l 85 1 84),gt 80 (q2 86 23 81 85),an 87 80 86] (I 87 (R [m 88 0,m 89 7,f 90 5 12,l 91 1 90,e 92 (.index 1 (t 91) (k 1)),l 93 1 92,q3 94 163 88 89 93,m 7 94])))))) (R [m 40 11,bk 41 .add 40 1,m 11 41]))
abbrev RH:Gq:=S (T [m 28 9,m 29 7,le 30 29,b 31 .neq 28 30] (J 31 (X 2))) (B 3 (T [m 32 7,le 33 32,m 9 33] (T [m 34 7,q1 35 164 34,m 10 35] (T [n 11 0] (B 4 (W RJ))))))
abbrev XU:Gq:=S (T [m 15 8,m 16 1,le 17 16,b 18 .lss 15 17] (J 18 (X 0))) (S (B 1 (R [m 21 0,m 22 7,m 23 1,m 24 8,x 25 1 23 24,l 26 1 25,q3 27 163 21 22 26,m 7 27])) (R [m 19 8,bk 20 .add 19 1,m 8 20]))
def C67:Gl:=⟨96,0,T [e 6 (.JR (c .Gc))] (T [e 14 (.buildSlice 1 [] 0 []),m 7 14] (S (T [n 8 0] (B 0 (W XU))) (S (T [n 9 (-1)] (B 2 (W RH))) (Q [m 95 7,m 6 95])))),[r 6]⟩
theorem c67:P 67=some C67:=by kernel_rfl
end Go.Cs.Tryz
namespace Go.Cs.Tryz
open Go Go.Cs
section
variable {H : Gb} {o : Tags} {rb : Nat} {s : Hp} {L : Qc}
def zOb:List CV:=[.int .i64 0,.int .i64 0,.int .i64 0,.int .i64 0,.int .i64 0,.Gc,.Gc,.bool false]
theorem Got{H:Gb}{r:List CV}(hr:r.length=8)(hl:r.all leaf=true):I_ (H++[⟨zOb,.rw,0⟩]) H.length (some ⟨zOb,.rw,0⟩) 0 r=some (H++[⟨r,.rw,0⟩]):=by
 rw[Ya (by rw[hr];simp[zOb]) hl]
 congr 1
 rw[List.set_append_right _ _ (Nat.le_refl _),Nat.sub_self]
 simp[zOb,splice,hr]
structure Kl(s:Hp)(st:Int→Prop)(tb:Bool)(l:List Int):Prop where
 XO:ZC l
 kp:∀x∈l,Kp s st tb x
theorem Kl.few{st:Int→Prop}{tb:Bool}{l:List Int}(h:Kl s st tb l)(k:s.Ok):l.length≤4096:=k.La h.XO fun x hx=>(h.kp x hx).has
theorem Ggf(m:JL o H rb s L)(k:s.Ok){st:Int→Prop}{tb:Bool}{a:Int}{x:Ob}(ha:Kp s st tb a)(hx:s.obj a=some x){ob:Nat}(VN:H[ob]?=some ⟨G9 L.hv x,.rw,0⟩) {w:CV} {l:List Int} (hw:LI H w l) (kl:Kl s st tb l)
  {E0:Env} (h0:E0 0=.ptr rb 0) (h7:E0 7=w) (h12:E0 12=.ptr ob 0) (h13:E0 13=.i 0) {r:Option (CX×Env×Gb)} (hr:den P (.loop RP) E0 H=r):
  ∃E' H' w',r=some (.exit 6,E',H')∧Gr H H'∧E' 7=w'∧LI H' w' (Nn s x x.refs.length l)∧∀t,t∉wr RP→E' t=E0 t:=by
 have hxm:=(Hp.GV hx).1
 have hok:=k.ob x hxm
 have hnr:=hok.nr
 obtain⟨x',E',H',e,-,⟨rfl,g,w',q1,q2⟩,fr⟩:=Gs (p:=P) (c:=RP) (E0:=E0) (H0:=H)
  (fun q E H'=>∃(j:Nat)(w':CV),E 13=.i j∧j≤x.refs.length∧q=x.refs.length-j∧Gr H H'∧E 7=w'∧LI H' w' (Nn s x j l))
  (fun x' E' H'=>x'=.exit 6∧Gr H H'∧∃w',E' 7=w'∧LI H' w' (Nn s x x.refs.length l)) (by
   rintro q E H' hE ⟨j,w',e13,hj,rfl,g,e7,li⟩
   have e0:=(hE 0 dK).trans h0
   have e12:=(hE 12 dK).trans h12
   have m':=m.gr g
   obtain⟨rv,hrv⟩:∃rv,rv=(L.hv x.id).1:=⟨_,rfl⟩
   have hrf:=(m'.refs x hxm).1
   rw[←hrv]at hrf
   have hvl:=hrf.len H'
   have t0:=g.get VN
   unfold G9 at t0
   rw[←hrv]at t0
   have kl':Kl s st tb (Nn s x j l):=⟨(NT (Nat.zero_le _) hj).XO kl.XO,ME ha hx kl.kp hj⟩
   have WL:=kl'.few k
   by_cases c:j<x.refs.length
   ·have c':decide ((j:Int)<(x.refs.length:Int))=true:=G7 oM
    have hr:x.refs[j]?=some x.refs[j]:=JG c
    obtain⟨r,hre⟩:∃r,r=x.refs[j]:=⟨_,rfl⟩
    rw[←hre]at hr
    obtain⟨b,f,i1,i2,i3⟩:=LI.at (At.il hrf) hr
    have w1:IntKind.i64.wrap ((j:Int)+1)=((j+1:Nat):Int):=Gh oM
    have hst:=GaY (H:=H') x.refs.length x.data.length x.kd j
    obtain⟨X,hX⟩:∃X:Gb,X=H'++[⟨Jb x.refs.length x.data.length x.kd,.rw,0⟩]:=⟨_,rfl⟩
    have gX:Gr H' X:=by rw[hX];exact Gr.app _ _
    rw[←hX]at hst
    unfold Jb at hst
    have i3X:=i3 X gX
    have t0X:=gX.get t0
    suffices fin:∃E' H2 w2,den P RP E H'=some (.normal,E',H2)∧E' 13=.i ((j+1:Nat):Int)∧Gr H' H2∧E' 7=w2∧LI H2 w2 (Nn s x (j+1) l)by
     obtain⟨E',H2,w2,f1,f2,f3,f4,f5⟩:=fin
     exact Gp f1 (k':=x.refs.length-(j+1)) oM ⟨j+1,w2,f2,oM,rfl,g.trans f3,f4,f5⟩
    rw[YU hr]
    cases hsb:Jh x.kd j with
    |true=>
     rw[hsb]at hst
     obtain⟨v',X2,a1,a2,a3⟩:=Ac (m'.gr gX) k (li.gr gX) oM r
     refine W13 e0 e7 e12 e13 t0 hvl c' hst t0X i1 i3X a1 w1 ?_
     exact⟨_,_,v',rfl,uA,gX.trans a2,uA,a3⟩
    |false=>
     rw[hsb]at hst
     refine W7 e12 e13 t0 hvl c' hst w1 ?_
     exact⟨_,_,w',rfl,uA,gX,by simp[Gg,e7],li.gr gX⟩
   ·have c':decide ((j:Int)<(x.refs.length:Int))=false:=G5 oM
    have hjj:j=x.refs.length:=by omega
    rw[hjj]at li
    apply Gj (x:=.exit 6)
    ·refine W5 e12 e13 t0 hvl c' ?_
     rfl
    ·simp
    ·exact⟨rfl,g,w',by simp[Gg,e7],li⟩) _ ⟨0,w,h13,oM,rfl,Keeps.refl _ _,h7,hw⟩
 grind
theorem GfA(m:JL o H rb s L)(k:s.Ok){st:Int→Prop}{tb:Bool}{all:List Int}{w0:CV}(hw0:LI H w0 all)(kla:Kl s st tb all){w:CV}{l:List Int}(hw:LI H w l)(kl:Kl s st tb l)
  {E0:Env}(h0:E0 0=.ptr rb 0)(h2:E0 2=.bool tb)(h7:E0 7=w)(h10:E0 10=w0)(h11:E0 11=.i 0){r:Option (CX×Env×Gb)}(hr:den P (.loop RJ) E0 H=r):
  ∃E' H' w',r=some (.exit 4,E',H')∧Gr H H'∧E' 7=w'∧LI H' w' (KX s tb all all.length l)∧∀t,t∉wr RJ→E' t=E0 t:=by
 have hfa:=kla.few k
 obtain⟨x',E',H',e,-,⟨rfl,g,w',q1,q2⟩,fr⟩:=Gs (p:=P) (c:=RJ) (E0:=E0) (H0:=H)
  (fun q E H'=>∃(j:Nat)(w':CV),E 11=.i j∧j≤all.length∧q=all.length-j∧Gr H H'∧E 7=w'∧LI H' w' (KX s tb all j l))
  (fun x' E' H'=>x'=.exit 4∧Gr H H'∧∃w',E' 7=w'∧LI H' w' (KX s tb all all.length l)) (by
   rintro q E H' hE ⟨j,w',e11,hj,rfl,g,e7,li⟩
   have e0:=(hE 0 dK).trans h0
   have e2:=(hE 2 dK).trans h2
   have e10:=(hE 10 dK).trans h10
   have m':=m.gr g
   have hvl:=hw0.len H'
   have kl':Kl s st tb (KX s tb all j l):=⟨(Uo (Nat.zero_le _) hj).XO kl.XO,Wp k kla.kp kl.kp hj⟩
   have WL:=kl'.few k
   by_cases c:j<all.length
   ·have c':decide ((j:Int)<(all.length:Int))=true:=G7 oM
    have hr:all[j]?=some all[j]:=JG c
    obtain⟨a,hae⟩:∃a,a=all[j]:=⟨_,rfl⟩
    rw[←hae]at hr
    have hka:=kla.kp a (JV hr)
    obtain⟨x,hx⟩:=Hp.J2.1 hka.has
    obtain⟨b,f,i1,i2,i3⟩:=LI.at hw0 hr
    have AZ:=i3 H' g
    have w1:IntKind.i64.wrap ((j:Int)+1)=((j+1:Nat):Int):=Gh oM
    have hix:=Qb m' k a
    unfold Hp.KI at hix
    rw[if_pos hka.has]at hix
    have hxi:=Hp.YT hx
    obtain⟨b2,n,tl,q1,q2,q3,q4,q5,q6⟩:=JL.row m' hxi
    have hc:=m'.cells
    rw[q1]at hc
    have q7:Fw (some (⟨Gv L.hv s.objs,.rw,8⟩:JD)) (s.idx a*8) 8=some (G9 L.hv x):=by
     rw[Ur,if_pos oM,Zu hxi]
    obtain⟨X,hX⟩:∃X:Gb,X=H'++[⟨G9 L.hv x,.rw,0⟩]:=⟨_,rfl⟩
    have gX:Gr H' X:=by rw[hX];exact Gr.app _ _
    have tX:X[H'.length]?=some ⟨G9 L.hv x,.rw,0⟩:=by rw[hX];simp
    have hxm:=(Hp.GV hx).1
    have hrf:=(m'.refs x hxm)
    suffices fin:∃E' H2 w2,den P RJ E H'=some (.normal,E',H2)∧E' 11=.i ((j+1:Nat):Int)∧Gr H' H2∧E' 7=w2∧LI H2 w2 (U9 s tb (KX s tb all j l) x)by
     obtain⟨E',H2,w2,f1,f2,f3,f4,f5⟩:=fin
     exact Gp f1 (k':=all.length-(j+1)) oM ⟨j+1,w2,f2,oM,rfl,g.trans f3,f4,by rw[YQ hr,hx];exact f5⟩
    have hs8:=Got (H:=H') (r:=G9 L.hv x) rfl (by simp[G9,Jo,NZ,hrf.1.leaf,hrf.2.leaf])
    unfold G9 at q7 hX hs8
    unfold zOb at hs8
    have lf1:=hrf.1.leaf
    have lf2:=hrf.2.leaf
    refine W11 e0 e10 e11 hvl c' hc i2 AZ hix q3 q7 ?_
    rw[hs8,←hX]
    simp(disch:=first|exact dz|fail) only[simprocAttr,Gx,↓reduceIte]
    generalize hr:den P (.loop RP) _ _=r
    obtain⟨E2,X2,w2,rfl,g2,a7,a8,f2⟩:=Ggf (m'.gr gX) k hka hx tX (li.gr gX) kl' (by simp[Gg,e0]) (by simp[Gg,e7]) uA uA hr
    have b0:=f2 0 dK
    have b2:=f2 2 dK
    have b12:=f2 12 dK
    have b11:=f2 11 dK
    simp only[Gg,Nat.reduceEqDiff,↓reduceIte,e0,e2,e11]at b0 b2 b12 b11
    have t2:=g2.get tX
    unfold G9 at t2
    have klr:Kl s st tb (Nn s x x.refs.length (KX s tb all j l)):=⟨(NT (Nat.zero_le _) (Nat.le_refl _)).XO kl'.XO,ME hka hx kl'.kp (Nat.le_refl _)⟩
    have hfr:=klr.few k
    unfold U9
    cases htb:tb with
    |false=>
     rw[htb]at b2 a8
     refine GH ?_
     exact⟨_,_,w2,rfl,uA,gX.trans g2,by simp[Gg,a7],by rw[if_neg sM];exact a8⟩
    |true=>
     rw[htb]at b2 a8
     by_cases hkd:x.kd=2
     ·have hk2:((x.kd:Int)==2)=true:=by rw[hkd];rfl
      have h2:=(k.Pd hx).2 hkd
      have hr0:x.refs[0]?=some (x.refs.getD 0 0):=by grind
      have hr1:x.refs[1]?=some (x.refs.getD 1 0):=by grind
      obtain⟨c0,f0,j1,-,j3⟩:=LI.at (At.il hrf.1) hr0
      obtain⟨c1,f1,u1,-,u3⟩:=LI.at (At.il hrf.1) hr1
      have j1:∀X,JU 1 (L.hv x.id).1 (.i 0) X=some (.ptr c0 f0,X):=j1
      have u1:∀X,JU 1 (L.hv x.id).1 (.i 1) X=some (.ptr c1 f1,X):=u1
      have j3':=j3 X2 (gX.trans g2)
      have u3':=u3 X2 (gX.trans g2)
      rw[htb]at hfr
      have hhas:=Gc7 a8 oM (x.refs.getD 0 0)
      by_cases hc0:x.refs.getD 0 0∈Nn s x x.refs.length (KX s true all j l)
      ·rw[G7 hc0]at hhas
       obtain⟨v3,X3,d1,d2,d3⟩:=Ac (m'.gr (gX.trans g2)) k a8 oM (x.refs.getD 1 0)
       refine W14 b0 b2 b11 b12 t2 hk2 a7 j1 j3' hhas u1 u3' d1 w1 ?_
       exact⟨_,_,v3,rfl,uA,(gX.trans g2).trans d2,uA,by rw[if_pos ⟨trivial,hkd,hc0⟩];exact d3⟩
      ·rw[G5 hc0]at hhas
       refine W10 b2 b11 b12 t2 hk2 a7 j1 j3' hhas w1 ?_
       exact⟨_,_,w2,rfl,uA,gX.trans g2,by simp[Gg,a7],by grind⟩
     ·have hk2:((x.kd:Int)==2)=false:=UF.2 oM
      refine W6 b2 b11 b12 t2 hk2 w1 ?_
      exact⟨_,_,w2,rfl,uA,gX.trans g2,by simp[Gg,a7],by rw[if_neg (by simp[hkd])];exact a8⟩
   ·have c':decide ((j:Int)<(all.length:Int))=false:=G5 oM
    have hjj:j=all.length:=by omega
    rw[hjj]at li
    apply Gj (x:=.exit 4)
    ·refine W4 e10 e11 hvl c' ?_
     rfl
    ·simp
    ·exact⟨rfl,g,w',by simp[Gg,e7],li⟩) _ ⟨0,w,h11,oM,rfl,Keeps.refl _ _,h7,hw⟩
 grind
end
end Go.Cs.Tryz

namespace Go.Cs
open Go
def En(s:Hp)(st:List Int)(j:Nat):List Int:=(st.take j).foldl (incl s) []
theorem MG{s:Hp}{st:List Int}{j:Nat}{a:Int}(h:st[j]?=some a):En s st (j+1)=incl s (En s st j) a:=by
 unfold En
 rw[QV,h,Yu,List.foldl_append]
 rfl
end Go.Cs
namespace Go.Cs.Tryz
open Go Go.Cs
section
variable {H : Gb} {o : Tags} {rb : Nat} {s : Hp} {L : Qc}
theorem Gh1(m:JL o H rb s L)(k:s.Ok){tb:Bool}{st:List Int}(hn:st.length≤100000){w0:CV}(hw0:LI H w0 st){w:CV}(hw:LI H w [])
  {E0:Env}(h0:E0 0=.ptr rb 0)(h1:E0 1=w0)(h7:E0 7=w)(h8:E0 8=.i 0){r:Option (CX×Env×Gb)}(hr:den P (.loop XU) E0 H=r):
  ∃E' H' w' l,r=some (.exit 0,E',H')∧Gr H H'∧E' 7=w'∧LI H' w' l∧Kl s (fun a=>a∈st) tb l∧(∀a∈st,s.has a=true→a∈l)∧∀t,t∉wr XU→E' t=E0 t:=by
 have facts:∀j,j≤st.length→Kl s (fun a=>a∈st) tb (En s st j)∧∀i a,i<j→st[i]?=some a→s.has a=true→a∈En s st j:=by
  intro j
  induction j with
  |zero=>intro _;exact⟨⟨List.Pairwise.nil,fun x hx=>by simp[En]at hx⟩,fun i a hi=>by omega⟩
  |succ j ih=>
   intro hj
   obtain⟨i1,i2⟩:=ih oM
   have hr:st[j]?=some st[j]:=JG oM
   rw[MG hr]
   have ex:=AJ s (En s st j) st[j]
   refine⟨⟨ex.XO i1.XO,fun x hx=>?_⟩,fun i a hi ha hh=>?_⟩
   ·rcases Og hx with⟨rfl,h⟩|h
    ·exact .start (JV hr) h
    ·exact i1.kp x h
   ·by_cases c:i=j
    ·subst c
     rw[hr]at ha
     simp only[GA]at ha
     rw[incl,if_pos (by rw[ha];exact hh)]
     exact Y9.2 (.inl ha.symm)
    ·exact ex.sub a (i2 i a oM ha hh)
 obtain⟨x',E',H',e,-,⟨rfl,g,w',q1,q2⟩,fr⟩:=Gs (p:=P) (c:=XU) (E0:=E0) (H0:=H)
  (fun q E H'=>∃(j:Nat)(w':CV),E 8=.i j∧j≤st.length∧q=st.length-j∧Gr H H'∧E 7=w'∧LI H' w' (En s st j))
  (fun x' E' H'=>x'=.exit 0∧Gr H H'∧∃w',E' 7=w'∧LI H' w' (En s st st.length)) (by
   rintro q E H' hE ⟨j,w',e8,hj,rfl,g,e7,li⟩
   have e0:=(hE 0 dK).trans h0
   have e1:=(hE 1 dK).trans h1
   have m':=m.gr g
   have hvl:=hw0.len H'
   have WL:=(facts j hj).1.few k
   by_cases c:j<st.length
   ·have c':decide ((j:Int)<(st.length:Int))=true:=G7 oM
    have hr:st[j]?=some st[j]:=JG c
    obtain⟨a,hae⟩:∃a,a=st[j]:=⟨_,rfl⟩
    rw[←hae]at hr
    obtain⟨b,f,i1,i2,i3⟩:=LI.at hw0 hr
    have AZ:=i3 H' g
    have w1:IntKind.i64.wrap ((j:Int)+1)=((j+1:Nat):Int):=Gh oM
    obtain⟨v',X2,a1,a2,a3⟩:=Ac m' k li oM a
    apply Gp (k':=st.length-(j+1))
    ·refine W10 e0 e1 e7 e8 hvl c' i1 AZ a1 w1 ?_
     rfl
    ·omega
    ·exact⟨j+1,v',uA,oM,rfl,g.trans a2,uA,by rw[MG hr];exact a3⟩
   ·have c':decide ((j:Int)<(st.length:Int))=false:=G5 oM
    have hjj:j=st.length:=by omega
    rw[hjj]at li
    apply Gj (x:=.exit 0)
    ·refine W4 e1 e8 hvl c' ?_
     rfl
    ·simp
    ·exact⟨rfl,g,w',by simp[Gg,e7],li⟩) _ ⟨0,w,h8,oM,rfl,Keeps.refl _ _,h7,hw⟩
 obtain⟨f1,f2⟩:=facts st.length (Nat.le_refl _)
 exact⟨E',H',w',_,hr.symm.trans e,g,q1,q2,f1,fun a ha hh=>by
  obtain⟨i,hi⟩:=List.mem_iff_getElem?.1 ha
  exact f2 i a (Gf hi) hi hh,fr⟩
theorem Gfi(m:JL o H rb s L)(k:s.Ok){tb:Bool}{st:Int→Prop}{w:CV}{l:List Int}(hw:LI H w l)(kl:Kl s st tb l)(hst:∀a,st a→s.has a=true→a∈l)
  {E0:Env}(h0:E0 0=.ptr rb 0)(h2:E0 2=.bool tb)(h7:E0 7=w)(h9:E0 9=.i (-1)){r:Option (CX×Env×Gb)}(hr:den P (.loop RH) E0 H=r):
  ∃E' H' w' l',r=some (.exit 2,E',H')∧Gr H H'∧E' 7=w'∧LI H' w' l'∧ZC l'∧(∀x,x∈l'↔Kp s st tb x)∧∀t,t∉wr RH→E' t=E0 t:=by
 obtain⟨x',E',H',e,-,⟨rfl,g,w',l',q1,q2,q3,q4⟩,fr⟩:=Gs (p:=P) (c:=RH) (E0:=E0) (H0:=H)
  (fun q E H'=>∃(b:Int)(w':CV)(l':List Int),E 9=.i b∧q=2*(5000-l'.length)+(if b=(l'.length:Int)then 0 else 1)∧Gr H H'∧E 7=w'∧LI H' w' l'∧Kl s st tb l'∧(∀a,st a→s.has a=true→a∈l')∧(b=(l'.length:Int)→KX s tb l' l'.length l'=l'))
  (fun x' E' H'=>x'=.exit 2∧Gr H H'∧∃w' l',E' 7=w'∧LI H' w' l'∧ZC l'∧∀x,x∈l'↔Kp s st tb x) (by
   rintro q E H' hE ⟨b,w',l',e9,rfl,g,e7,li,kl,hst,hcl⟩
   have e0:=(hE 0 dK).trans h0
   have e2:=(hE 2 dK).trans h2
   have m':=m.gr g
   have hvl:=li.len H'
   have WL:=kl.few k
   by_cases c:b=(l'.length:Int)
   ·have c':(b != (l'.length:Int))=false:=by rw[c];simp
    apply Gj (x:=.exit 2)
    ·refine W4 e7 e9 hvl c' ?_
     rfl
    ·simp
    ·exact⟨rfl,g,w',l',by simp[Gg,e7],li,kl.XO,fun x=>⟨fun h=>kl.kp x h,fun h=>Ge2 kl.XO hst (hcl c) h⟩⟩
   ·have c':(b != (l'.length:Int))=true:=by simpa using c
    obtain⟨v',X1,a1,g1,li1⟩:=GgE li oM
    have kp2:Kl s st tb (KX s tb l' l'.length l'):=⟨(Uo (Nat.zero_le _) (Nat.le_refl _)).XO kl.XO,Wp k kl.kp kl.kp (Nat.le_refl _)⟩
    have hf2:=kp2.few k
    have ex:Bw l' (KX s tb l' l'.length l'):=Uo (Nat.zero_le _) (Nat.le_refl _)
    suffices fin:∃E' H2 w2,den P RH E H'=some (.normal,E',H2)∧E' 9=.i (l'.length:Int)∧Gr H' H2∧E' 7=w2∧LI H2 w2 (KX s tb l' l'.length l')by
     obtain⟨E',H2,w2,f1,f2,f3,f4,f5⟩:=fin
     have hle:=ex.len
     refine Gp f1 (k':=2*(5000-(KX s tb l' l'.length l').length)+(if(l'.length:Int)=((KX s tb l' l'.length l').length:Int)then 0 else 1)) ?_ ⟨_,w2,_,f2,rfl,g.trans f3,f4,f5,kp2,fun a h1 h2=>ex.sub a (hst a h1 h2),fun h=>?_⟩
     ·grind
     ·have:=ex.eq kl.XO oM
      rw[this];exact this
    refine GH ?_
    generalize hr:den P (.loop RJ) _ _=r
    obtain⟨E2,X2,w2,rfl,g2,a7,a8,f2⟩:=GfA (m'.gr g1) k li1 kl (li.gr g1) kl (by simp[Gg,e0]) (by simp[Gg,e2]) (by simp[Gg,e7]) uA uA hr
    have b9:=f2 9 dK
    simp only[Gg,Nat.reduceEqDiff,↓reduceIte]at b9
    refine GH ?_
    exact⟨_,_,w2,rfl,b9,g1.trans g2,a7,a8⟩) _ ⟨-1,w,l,h9,rfl,Keeps.refl _ _,h7,hw,kl,hst,fun h=>by omega⟩
 grind
theorem GeV(m:JL o H rb s L)(k:s.Ok)(tb:Bool){st:List Int}(hn:st.length≤100000){w0:CV}(hw0:LI H w0 st):
  ∃w' H' l,run P 67 [.ptr rb 0,w0,.bool tb] H=some (w',H')∧Gr H H'∧LI H' w' l∧ZC l∧∀x,x∈l↔Kp s (fun a=>a∈st) tb x:=by
 obtain⟨X,hX⟩:∃X:Gb,X=H++[⟨[],.rw,1⟩]:=⟨_,rfl⟩
 have gX:Gr H X:=by rw[hX];exact Gr.app _ _
 rw[Gi c67 _ _ sM]
 refine GH ?_
 rw[←hX]
 generalize hr:den P (.loop XU) _ _=r
 obtain⟨E1,X1,w1,l1,rfl,g1,a7,li1,kl1,hs1,f1⟩:=Gh1 (tb:=tb) (m.gr gX) k hn (hw0.gr gX) (w:=.slice H.length 0 0 0 1 false) (.inl ⟨rfl,rfl,.inr ⟨_,_,rfl⟩⟩) uA uA uA uA hr
 have b0:=f1 0 dK
 have b2:=f1 2 dK
 simp only[Gg,Nat.reduceEqDiff,↓reduceIte]at b0 b2
 refine GH ?_
 generalize hr:den P (.loop RH) _ _=r
 obtain⟨E2,X2,w2,l2,rfl,g2,c7,li2,s2,k2,f2⟩:=Gfi ((m.gr gX).gr g1) k li1 kl1 hs1 (by simp[Gg,b0]) (by simp[Gg,b2]) (by simp[Gg,a7]) uA hr
 refine GH ?_
 exact⟨w2,X2,l2,rfl,(gX.trans g1).trans g2,li2,s2,k2⟩
end
end Go.Cs.Tryz
namespace Go.Cs.Tryz
open Go Go.Cs A
def C19:Gl:=⟨15,0,T [e 2 (.JR (c .Gc))] (S (D [⟨m 3 0,0,0,0⟩,⟨z 4 3,1,0,0⟩,⟨f 5 0 4,2,0,0⟩,⟨l 6 1 5,3,1,0⟩,⟨q1 7 21 6,4,3,0⟩,⟨m 8 0,5,0,0⟩,⟨z 9 8,6,0,0⟩,⟨f 10 1 9,7,0,0⟩,⟨l 11 1 10,8,1,0⟩,⟨q1 12 68 11,9,3,1⟩,⟨q1 13 69 12,10,3,2⟩,⟨ca 14 67 [t 7,t 13,c (.bool true)],11,3,3⟩,⟨m 2 14,12,0,4⟩]) .ret),[r 2]⟩
theorem c19:P 19=some C19:=by kernel_rfl
abbrev GcJ:Gq:=S (T [m 11 5,m 12 0,le 13 12,b 14 .lss 11 13] (J 14 (X 0))) (S (B 1 (S (D [⟨m 17 0,0,0,0⟩,⟨m 18 5,1,0,0⟩,⟨x 19 1 17 18,2,0,0⟩,⟨l 20 1 19,3,1,0⟩,⟨m 21 1,4,0,0⟩,⟨m 22 5,5,0,0⟩,⟨x 23 1 21 22,6,0,0⟩,⟨l 24 1 23,7,1,0⟩,⟨b 25 .neq 20 24,8,0,0⟩]) (I 25 (Q [nb 4 false])))) (R [m 15 5,bk 16 .add 15 1,m 5 16]))
def C20:Gl:=⟨26,0,T [nb 4 false] (S (T [m 6 0,le 7 6,m 8 1,le 9 8,b 10 .neq 7 9] (I 10 (Q [nb 4 false]))) (S (T [n 5 0] (B 0 (W GcJ))) (Q [nb 4 true]))),[r 4]⟩
theorem c20:P 20=some C20:=by kernel_rfl
end Go.Cs.Tryz
namespace Go.Cs
open Go
def Kpt(s:Hp)(R:Rt)(a:Int):Prop:=Kp s (fun a=>a∈R.vals∧a≠0) true a
end Go.Cs
namespace Go.Cs.Tryz
open Go Go.Cs
section
variable {H : Gb}
theorem LG{o:Tags}{sb hb rb:Nat}{c2 c3:CV}{s:Hp}{L:G6}{R:Rt}{v:Nat→CV}(hsb:H[sb]?=some ⟨[.ptr hb 0,.ptr rb 0,c2,c3],.rw,0⟩) (p:PH H hb s L) (k:s.Ok) (m:K5 o H rb R v) (kr:R.Ok):
  ∃w' H' l,run P 19 [.ptr sb 0] H=some (w',H')∧Gr H H'∧LI H' w' l∧ZC l∧∀x,x∈l↔Kpt s R x:=by
 obtain⟨qb,X1,o1,L1,h1,g1,m1,-⟩:=LJ p k
 obtain⟨ub,X2,o2,Q,L2,h2,g2,m2,cp,-⟩:=I6 (m.gr g1) kr
 obtain⟨w3,X3,h3,g3,li3⟩:=Gd3 m2 cp.k
 have hq:=cp.k.VJ
 have hl:=Qz Q.vis
 obtain⟨w4,X4,l,h4,g4,li4,s4,k4⟩:=GeV ((m1.gr g2).gr g3) k true oM li3.li
 have t1:=g1.get hsb
 have t2:=g2.get t1
 have t3:=g3.get t2
 refine⟨w4,X4,l,?_,((g1.trans g2).trans g3).trans g4,li4,s4,fun x=>?_⟩
 ·rw[Gi c19 _ _ sM]
  exact W0
 ·rw[k4]
  have e:∀a,a∈GY Q.vis↔a∈R.vals∧a≠0:=fun a=>by rw[VY,Rt.Li,cp.vals]
  exact⟨fun h=>h.mono fun a h=>(e a).1 h,fun h=>h.mono fun a h=>(e a).2 h⟩
theorem GmB{w1 w2:CV}{l1 l2:List Int}(h1:LI H w1 l1)(h2:LI H w2 l2)(he:l1.length=l2.length)(hn:l1.length≤100000)
  {E0:Env}(e0:E0 0=w1)(e1:E0 1=w2)(e5:E0 5=.i 0){r:Option (CX×Env×Gb)}(hr:den P (.loop GcJ) E0 H=r):
  (l1=l2∧∃E',r=some (.exit 0,E',H))∨(l1≠l2∧∃E',r=some (.ret,E',H)∧E' 4=.bool false):=by
 obtain⟨x',E',H',e,-,⟨rfl,q⟩,fr⟩:=Gs (p:=P) (c:=GcJ) (E0:=E0) (H0:=H)
  (fun q E H'=>H'=H∧∃j:Nat,E 5=.i j∧j≤l1.length∧q=l1.length-j∧l1.take j=l2.take j)
  (fun x' E' H'=>H'=H∧((l1=l2∧x'=.exit 0)∨(l1≠l2∧x'=.ret∧E' 4=.bool false))) (by
   rintro q E H' hE ⟨rfl,j,e5,hj,rfl,hp⟩
   have e0:=(hE 0 dK).trans e0
   have e1:=(hE 1 dK).trans e1
   have hv1:=h1.len H'
   have hv2:=h2.len H'
   by_cases c:j<l1.length
   ·have c':decide ((j:Int)<(l1.length:Int))=true:=G7 oM
    have hx1:l1[j]?=some l1[j]:=JG c
    have hx2:l2[j]?=some l2[j]:=JG oM
    obtain⟨b1,f1,i1,i2,i3⟩:=h1.at hx1
    obtain⟨b2,f2,u1,u2,u3⟩:=h2.at hx2
    have AZ:=i3 H' (Keeps.refl _ _)
    have u3':=u3 H' (Keeps.refl _ _)
    have w1:IntKind.i64.wrap ((j:Int)+1)=((j+1:Nat):Int):=Gh oM
    by_cases hne:l1[j]=l2[j]
    ·have hne':(l1[j] != l2[j])=false:=by rw[hne];simp
     apply Gp (k':=l1.length-(j+1))
     ·refine W11 e0 e1 e5 hv1 c' i2 AZ u2 u3' hne' w1 ?_
      rfl
     ·omega
     ·exact⟨rfl,j+1,uA,oM,rfl,by rw[QV,QV,hp,hx1,hx2,hne]⟩
    ·have hne':(l1[j] != l2[j])=true:=by simpa using hne
     apply Gj (x:=.ret)
     ·refine W10 e0 e1 e5 hv1 c' i2 AZ u2 u3' hne' ?_
      rfl
     ·simp
     ·exact⟨rfl,.inr ⟨fun h=>hne (by subst h;rfl),rfl,uA⟩⟩
   ·have c':decide ((j:Int)<(l1.length:Int))=false:=G5 oM
    rw[QA oM,QA oM]at hp
    apply Gj (x:=.exit 0)
    ·refine W4 e0 e5 hv1 c' ?_
     rfl
    ·simp
    ·exact⟨rfl,.inl ⟨hp,rfl⟩⟩) _ ⟨rfl,0,e5,oM,rfl,sM⟩
 grind
theorem YS{w1 w2:CV}{l1 l2:List Int}(h1:LI H w1 l1)(h2:LI H w2 l2)(hn:l1.length≤100000):run P 20 [w1,w2] H=some (.bool (decide (l1=l2)),H):=by
 have hv1:=h1.len H
 have hv2:=h2.len H
 rw[Gi c20 _ _ sM]
 by_cases c:l1.length=l2.length
 ·have c':((l1.length:Int) != (l2.length:Int))=false:=by rw[c];simp
  refine W3 hv1 hv2 c' ?_
  generalize hr:den P (.loop GcJ) _ _=r
  rcases GmB h1 h2 c hn uA uA uA hr with⟨q1,E',rfl⟩|⟨q1,E',rfl,q2⟩
  ·rw[G7 q1]
   exact W0
  ·rw[G5 q1]
   exact W0
 ·have c':((l1.length:Int) != (l2.length:Int))=true:=bne_iff_ne.2 oM
  have hne:l1≠l2:=fun h=>c (by rw[h])
  rw[G5 hne]
  exact W0
end
end Go.Cs.Tryz
namespace Go.Cs.Tryz
open Go Go.Cs A
def Gtn:Gl:=⟨15,0,T [n 4 0] (T [m 8 0,m 9 1,q2 10 75 8 9,m 7 10,ex 11 7 0,ex 12 7 1,e 5 (.new [i 0,i 0,i 0]),st 3 5 11,m 6 12] (Q [f 13 2 5,l 14 1 13,m 4 14])),[r 4]⟩
theorem GpT:P 133=some Gtn:=by kernel_rfl
def GqI:Gl:=⟨23,0,T [nb 4 false] (Q [m 5 1,bk 6 .eql 5 0,m 7 6,gt 7 (m 8 0),gt 7 (bk 9 .eql 8 1),gt 7 (m 10 9),gf 10 (m 11 0),gf 10 (bk 12 .eql 11 2),gt 7 (or 13 10 12),an 14 7 13,m 15 14,gf 15 (m 16 1),gf 15 (bk 17 .eql 16 1),gf 15 (m 18 17),gt 18 (m 19 0),gt 18 (bk 20 .eql 19 2),gf 15 (an 21 18 20),or 22 15 21,m 4 22]),[r 4]⟩
theorem GpQ:P 142=some GqI:=by kernel_rfl
abbrev OW:Gq:=T [b 23 .lss 22 21] (S (J 23 (X 0)) (S (B 1 (T [m 24 22,m 8 24] (T [m 26 0,m 27 1,m 28 8,q3 29 76 26 27 28,m 25 29,ex 30 25 0,ex 31 25 1,m 9 30,m 10 31] (R [m 32 7,m 33 9,e 34 (.buildSlice 1 [i 0] 1 [(0,1,t 33)]),ap 35 1 32 34,m 7 35])))) (R [bk 36 .add 22 1,m 22 36])))
def Gqa:Gl:=⟨38,0,T [e 4 (.JR (c .Gc))] (T [m 12 0,m 13 1,q2 14 75 12 13,m 11 14,ex 15 11 0,ex 16 11 1,e 5 (.new [i 0,i 0,i 0]),st 3 5 15,m 6 16] (T [f 17 0 5,l 18 1 17,e 19 (.makeSlice 1 [i 0] (k 0) (t 18)),m 7 19] (S (T [f 20 0 5,l 21 1 20,n 22 0] (B 0 (W OW))) (Q [m 37 7,m 4 37])))),[r 4]⟩
theorem Gsl:P 223=some Gqa:=by kernel_rfl
end Go.Cs.Tryz
namespace Go.Cs
open Go
def Hp.refsOf(s:Hp)(a:Int):List Int:=match s.obj a with|some o=>o.refs|none=>[]
def Hp.VB(s:Hp)(a:Int):Nat:=match s.obj a with|some o=>o.kd|none=>0
def FV(kd j:Nat)(l:List Int):List Int:=((l.take j).zipIdx).filterMap fun x=>if x.1≠0∧Jh kd x.2=true then some x.1 else none
theorem GeR{kd j:Nat}{l:List Int}{r:Int}(h:l[j]?=some r):FV kd (j+1) l=FV kd j l++(if r≠0∧Jh kd j=true then [r]else []):=by
 have hj:=Gf h
 unfold FV
 rw[QV,h,Yu,List.zipIdx_append,List.filterMap_append]
 grind
theorem GfV{kd:Nat}{l:List Int}{r:Int}:r∈FV kd l.length l↔r≠0∧∃j:Nat,l[j]?=some r∧Jh kd j=true:=by
 unfold FV
 rw[List.mem_filterMap,QA (Nat.le_refl _)]
 constructor
 ·grind
 ·rintro ⟨h1,j,h2,h3⟩
  exact⟨(r,j),List.mem_zipIdx_iff_getElem?.2 h2,by simp[h1,h3]⟩
theorem Lp(kd j:Nat)(l:List Int):(FV kd j l).length≤l.length:=by
 unfold FV
 exact Jm (List.length_filterMap_le _ _) (by rw[List.length_zipIdx,List.length_take];omega)
theorem Hp.Ok.Vt{s:Hp}(k:s.Ok)(a:Int):(s.refsOf a).length≤15:=by
 unfold Hp.refsOf
 split
 ·rename_i o h
  exact(k.ob o (Hp.GV h).1).nr
 ·simp
theorem Hp.B_(s:Hp)(a:Int):∃d:Nat,(s.JO a).1=Jb (s.refsOf a).length d (s.VB a):=by
 unfold Hp.JO Hp.refsOf Hp.VB
 grind
theorem Hp.U7{s:Hp}{a:Int}{j:Nat}{r:Int}(h:(s.refsOf a)[j]?=some r):s.GN a j=(r,0):=by
 have hj:=Gf h
 unfold Hp.refsOf at h hj
 unfold Hp.GN
 grind
theorem Gme{H:Gb}{b j cap:Nat}{cs:List CV}{t:Bool}{v:CV}(h:H[b]?=some ⟨cs,.rw,1⟩) (hj:j<cap) (hc:cs.length=cap) (hl:leaf v=true):
  Jq H 1 (.slice b 0 j cap 1 t) 1 [v]=some (.slice b 0 (j+1) cap 1 t,H.set b ⟨cs.set j v,.rw,1⟩):=by
 unfold Jq
 dsimp only
 rw[if_neg oM,if_pos oM,Dg,h,Nat.zero_add,Nat.mul_one,Ro hl oM]
 rfl
end Go.Cs
namespace Go.Cs.Tryz
open Go Go.Cs
section
variable {H : Gb} {hb : Nat} {s : Hp} {L : G6}
theorem Mf{kd i:Nat}(hk:kd≤3):run P 142 [.i kd,.i i] H=some (.bool (!Jh kd i),H):=by
 rw[Gi GpQ _ _ sM]
 have key:∀(a b c d:Bool),a=((i:Int)==0)→b=((kd:Int)==1)→c=((kd:Int)==2)→d=((i:Int)==1)→
   (!Jh kd i)=((a&&(b||c))||(d&&c)):=by
  rintro a b c d rfl rfl rfl rfl
  unfold Jh
  by_cases k1:kd=1
  ·grind
  ·by_cases k2:kd=2
   ·subst k2
    by_cases c0:i=0
    ·subst c0;rfl
    ·by_cases c1:i=1
     ·subst c1;rfl
     ·have e0:((i:Int)==0)=false:=UF.2 oM
      have e1:((i:Int)==1)=false:=UF.2 oM
      have h2:decide ((0:Int)<(i:Int))=true:=G7 oM
      grind
   ·have e1:((kd:Int)==1)=false:=UF.2 oM
    grind
 obtain⟨a,ha⟩:∃a,a=((i:Int)==0):=⟨_,rfl⟩
 obtain⟨b,hb⟩:∃b,b=((kd:Int)==1):=⟨_,rfl⟩
 obtain⟨c,hc⟩:∃c,c=((kd:Int)==2):=⟨_,rfl⟩
 obtain⟨d,hd⟩:∃d,d=((i:Int)==1):=⟨_,rfl⟩
 rw[key a b c d ha hb hc hd]
 cases a<;>cases b<;>cases c<;>cases d<;>simp(disch:=first|exact dz|fail) only[simprocAttr,Gx,↓reduceIte,Ny,←ha,←hb,←hc,←hd]<;>rfl
theorem Mh(p:PH H hb s L)(k:s.Ok)(a:Int)(ha:a≤9223372036854775807):∃H',run P 133 [.ptr hb 0,.i a] H=some (.i (s.VB a),H')∧Gr H H':=by
 obtain⟨X,h1,g1⟩:=NJ p k a ha
 obtain⟨d,hd⟩:=s.B_ a
 rw[hd]at h1
 unfold Jb at h1
 refine⟨X++[⟨Jb (s.refsOf a).length d (s.VB a),.rw,0⟩],?_,g1.app' _⟩
 rw[Gi GpT _ _ sM]
 unfold Jb
 exact W0
theorem Gmu(p:PH H hb s L)(k:s.Ok){a:Int}(ha:a≤9223372036854775807){n b:Nat}(hn:n=(s.refsOf a).length)(hb':b<H.length)(hno:b∉L.all hb)(tb:H[b]?=some ⟨List.replicate n (.i 0),.rw,1⟩)
  {E0:Env} (h0:E0 0=.ptr hb 0) (h1:E0 1=.i a) (h7:E0 7=.slice b 0 0 n 1 false) (h21:E0 21=.i n) (h22:E0 22=.i 0) {r:Option (CX×Env×Gb)} (hr:den P (.loop OW) E0 H=r):
  ∃E' H',r=some (.exit 0,E',H')∧But H H' b∧E' 7=.slice b 0 n n 1 false∧H'[b]?=some ⟨ints (s.refsOf a),.rw,1⟩∧∀t,t∉wr OW→E' t=E0 t:=by
 have hlen:=k.Vt a
 obtain⟨x',E',H',e,-,⟨rfl,g,q1,q2⟩,fr⟩:=Gs (p:=P) (c:=OW) (E0:=E0) (H0:=H)
  (fun q E H'=>∃(j:Nat),E 22=.i j∧j≤n∧q=n-j∧But H H' b∧E 7=.slice b 0 j n 1 false∧H'[b]?=some ⟨ints ((s.refsOf a).take j)++List.replicate (n-j) (CV.i 0),.rw,1⟩)
  (fun x' E' H'=>x'=.exit 0∧But H H' b∧E' 7=.slice b 0 n n 1 false∧H'[b]?=some ⟨ints (s.refsOf a),.rw,1⟩) (by
   rintro q E H' hE ⟨j,e22,hj,rfl,g,e7,t⟩
   have e0:=(hE 0 dK).trans h0
   have e1:=(hE 1 dK).trans h1
   have e21:=(hE 21 dK).trans h21
   have p':=p.but g hno
   by_cases c:j<n
   ·have c':decide ((j:Int)<(n:Int))=true:=G7 oM
    obtain⟨x,hx⟩:∃x,(s.refsOf a)[j]?=some x:=⟨_,JG oM⟩
    obtain⟨X,a1,g1⟩:=KE p' k a j ha
    rw[Hp.U7 hx]at a1
    unfold Q9 at a1
    obtain⟨X2,hX2⟩:∃X2:Gb,X2=X++[⟨[.i x],.rw,1⟩]:=⟨_,rfl⟩
    have g2:Gr X X2:=by rw[hX2];exact Gr.app _ _
    have g12:Gr H' X2:=g1.trans g2
    have t2:=g12.get t
    have hcl:(ints ((s.refsOf a).take j)++List.replicate (n-j) (CV.i 0)).length=n:=by simp[ints];omega
    have hap:=Gme (t:=false) (v:=.i x) t2 c hcl rfl
    obtain⟨X3,EA⟩:∃X3:Gb,X3=X2.set b ⟨(ints ((s.refsOf a).take j)++List.replicate (n-j) (CV.i 0)).set j (.i x),.rw,1⟩:=⟨_,rfl⟩
    rw[←EA]at hap
    have hel:elems X2 1 (.slice X.length 0 1 1 1 false)=some (1,[.i x]):=by
     rw[J7 oM,hX2]
     have:=@Kc;exact W0
    have hset:(ints ((s.refsOf a).take j)++List.replicate (n-j) (CV.i 0)).set j (.i x)=ints ((s.refsOf a).take (j+1))++List.replicate (n-(j+1)) (CV.i 0):=by
     rw[QV,hx,Yu,Vg,List.set_append_right _ _ (by simp[ints];omega),show n-j=(n-(j+1))+1 by omega,List.replicate_succ]
     have:j-(ints ((s.refsOf a).take j)).length=0:=by simp[ints];omega
     rw[this,List.set_cons_zero]
     simp[ints]
    have w1:IntKind.i64.wrap ((j:Int)+1)=((j+1:Nat):Int):=Gh oM
    have hbl:=Gf t2
    apply Gp (k':=n-(j+1))
    ·refine W9 e0 e1 e7 e21 e22 c' a1 @J5 @Gu ?_
     rw[←hX2]
     refine W3 hap e22 w1 ?_
     rfl
    ·omega
    ·refine⟨j+1,uA,oM,rfl,⟨?_,fun d hd hn=>?_⟩,uA,?_⟩
     ·rw[EA,List.length_set];exact Jm g.len g12.len
     ·have:=g.len
      rw[EA,NA (Ne.symm hn),g12.keep d oM fun h=>h,g.keep d hd hn]
     grind
   ·have c':decide ((j:Int)<(n:Int))=false:=G5 oM
    have hjn:j=n:=by omega
    apply Gj (x:=.exit 0)
    ·refine GH ?_
     rfl
    ·simp
    ·refine⟨rfl,g,by simp[Gg,e7,hjn],?_⟩
     simp_all) _ ⟨0,h22,oM,rfl,Keeps.refl _ _,h7,by simpa[ints]using tb⟩
 grind
theorem GbH(p:PH H hb s L)(k:s.Ok)(a:Int)(ha:a≤9223372036854775807):∃w H',run P 223 [.ptr hb 0,.i a] H=some (w,H')∧Gr H H'∧IL H.length H' w (s.refsOf a):=by
 obtain⟨X,h1,g1⟩:=NJ p k a ha
 obtain⟨d,hd⟩:=s.B_ a
 rw[hd]at h1
 unfold Jb at h1
 have hlen:=k.Vt a
 obtain⟨X1,hX1⟩:∃X1:Gb,X1=X++[⟨Jb (s.refsOf a).length d (s.VB a),.rw,0⟩]++[⟨(List.replicate (s.refsOf a).length [.int .i64 0]).flatten,.rw,1⟩]:=⟨_,rfl⟩
 have g2:Gr X X1:=by rw[hX1];exact(Gr.app X _).app' _
 have l1:X1.length=X.length+2:=by rw[hX1];simp
 have hfl:∀n:Nat,(List.replicate n [CV.int .i64 0]).flatten=List.replicate n (.i 0):=fun n=>by
  simp_all
 have t1:X1[X.length+1]?=some ⟨List.replicate (s.refsOf a).length (.i 0),.rw,1⟩:=by rw[hX1,←hfl];simp
 have p1:=(p.gr g1).gr g2
 have hg:=g1.len
 have hno:X.length+1∉L.all hb:=fun h=>by have:=p.lt _ h;omega
 unfold Jb at hX1
 have m1:=ZK (H:=X++[⟨[.i (s.refsOf a).length,.i d,.i (s.VB a)],.rw,0⟩]) (Jd:=1) (z:=[CV.int .i64 0]) (l:=0) (c:=((s.refsOf a).length:Int)) oM
 rw[K_,←hX1]at m1
 have t0:X1[X.length]?=some ⟨[.i (s.refsOf a).length,.i d,.i (s.VB a)],.rw,0⟩:=by rw[hX1];simp
 rw[Gi Gsl _ _ sM]
 refine W3 h1 m1 t0 ?_
 generalize hr:den P (.loop OW) _ _=r
 obtain⟨E2,X2,rfl,g3,a7,t2,f2⟩:=Gmu p1 k ha rfl oM hno t1 uA uA uA uA uA hr
 refine GH ?_
 have g12:Gr H X1:=g1.trans g2
 refine⟨_,X2,rfl,⟨Jm g12.len g3.len,fun c hc _=>?_⟩,.inr ⟨_,_,rfl,Gm.2 ⟨oM,rfl⟩,t2,by simp[ints]⟩⟩
 rw[g3.keep c oM oM,g12.keep c hc fun h=>h]
end
end Go.Cs.Tryz
namespace Go.Cs.Tryz
open Go Go.Cs A
abbrev EW:Gq:=T [b 21 .lss 20 19] (S (J 21 (X 0)) (S (B 1 (T [m 22 20,x 23 1 18 20,l 24 1 23,m 8 22,m 9 24] (T [m 25 9,bk 26 .neq 25 0,m 27 26,gt 27 (f 28 2 5),gt 27 (l 29 1 28),gt 27 (m 30 8),gt 27 (q2 31 142 29 30),gt 27 (no 32 31),an 33 27 32] (I 33 (R [m 34 7,m 35 9,e 36 (.buildSlice 1 [i 0] 1 [(0,1,t 35)]),ap 37 1 34 36,m 7 37]))))) (R [bk 38 .add 20 1,m 20 38])))
def GrC:Gl:=⟨40,0,T [e 4 (.JR (c .Gc))] (T [m 11 0,m 12 1,q2 13 75 11 12,m 10 13,ex 14 10 0,ex 15 10 1,e 5 (.new [i 0,i 0,i 0]),st 3 5 14,m 6 15] (T [e 7 (.JR (c .Gc))] (S (T [m 16 0,m 17 1,q2 18 223 16 17,le 19 18,n 20 0] (B 0 (W EW))) (Q [m 39 7,m 4 39])))),[r 4]⟩
theorem Gq2:P 132=some GrC:=by kernel_rfl
end Go.Cs.Tryz
namespace Go.Cs
open Go
def Hp.strOf(s:Hp)(a:Int):List Int:=FV (s.VB a) (s.refsOf a).length (s.refsOf a)
theorem Hp.Ok.GnM{s:Hp}(k:s.Ok)(a:Int):s.VB a≤3:=by
 unfold Hp.VB
 split
 ·rename_i o h
  exact(k.ob o (Hp.GV h).1).kd.1
 ·omega
end Go.Cs
namespace Go.Cs.Tryz
open Go Go.Cs
section
variable {H : Gb} {hb : Nat} {s : Hp} {L : G6}
theorem GfW{k0:Nat}(hk0:k0≤H.length){kd:Nat}(hkd:kd≤3){n d:Int}{l:List Int}(hl:l.length≤15){w:CV}(hw:LI H w l)(hwb:l≠[]→Gn w<k0){sb:Nat}(hsb:sb<k0)(ts:H[sb]?=some ⟨Jb n d kd,.rw,0⟩)
  {E0:Env} (h5:E0 5=.ptr sb 0) (h7:E0 7=.Gc) (h18:E0 18=w) (h19:E0 19=.i l.length) (h20:E0 20=.i 0) {r:Option (CX×Env×Gb)} (hr:den P (.loop EW) E0 H=r):
  ∃E' H' w',r=some (.exit 0,E',H')∧Keeps H H' (fun c=>k0≤c)∧E' 7=w'∧IL k0 H' w' (FV kd l.length l)∧∀t,t∉wr EW→E' t=E0 t:=by
 obtain⟨x',E',H',e,-,⟨rfl,g,w',q1,q2⟩,fr⟩:=Gs (p:=P) (c:=EW) (E0:=E0) (H0:=H)
  (fun q E H'=>∃(j:Nat)(w':CV),E 20=.i j∧j≤l.length∧q=l.length-j∧Keeps H H' (fun c=>k0≤c)∧E 7=w'∧IL k0 H' w' (FV kd j l))
  (fun x' E' H'=>x'=.exit 0∧Keeps H H' (fun c=>k0≤c)∧∃w',E' 7=w'∧IL k0 H' w' (FV kd l.length l)) (by
   rintro q E H' hE ⟨j,w',e20,hj,rfl,g,e7,p3⟩
   have e5:=(hE 5 dK).trans h5
   have e18:=(hE 18 dK).trans h18
   have e19:=(hE 19 dK).trans h19
   have hlen:=g.len
   by_cases c:j<l.length
   ·have c':decide ((j:Int)<(l.length:Int))=true:=G7 oM
    obtain⟨x,hx⟩:∃x,l[j]?=some x:=⟨_,JG c⟩
    have IC:=hwb (fun h=>by rw[h]at c;exact absurd c sM)
    obtain⟨tl,a1,a2,a3,a4⟩:=hw.pos oM
    have Pp:H'[Gn w]?=H[Gn w]?:=g.keep _ (Gf a3) oM
    have ix:∀X,JU 1 w (.i j) X=some (.ptr (Gn w) j,X):=fun X=>by
     rw[a1];exact(if_pos oM).trans (by simp[Gn])
    have l1:ld H'[Gn w]? j=some (.i x):=by rw[Pp,a3,Qm];simp[ints,hx]
    have ts':H'[sb]?=some ⟨Jb n d kd,.rw,0⟩:=(g.keep _ (Gf ts) oM).trans ts
    unfold Jb at ts'
    have hso:=Mf (H:=H') (kd:=kd) (i:=j) hkd
    have hsl:=Lp kd j l
    have w1:IntKind.i64.wrap ((j:Int)+1)=((j+1:Nat):Int):=Gh oM
    suffices fin:∃E' H2 w2,den P EW E H'=some (.normal,E',H2)∧E' 20=.i ((j+1:Nat):Int)∧Keeps H' H2 (fun c=>k0≤c)∧E' 7=w2∧IL k0 H2 w2 (FV kd (j+1) l)by
     obtain⟨E',H2,w2,f1,f2,f3,f4,f5⟩:=fin
     exact Gp f1 (k':=l.length-(j+1)) oM ⟨j+1,w2,f2,oM,rfl,g.trans f3,f4,f5⟩
    rw[GeR hx]
    by_cases hz:x=0
    ·have hz':(x != 0)=false:=by rw[hz];rfl
     refine W8 e18 e19 e20 c' ix l1 hz' w1 ?_
     exact⟨_,_,w',rfl,uA,Keeps.refl _ _,by simp[Gg,e7],by grind⟩
    ·have hz':(x != 0)=true:=by simpa using hz
     cases hs:Jh kd j with
     |false=>
      rw[hs]at hso
      refine W11 e5 e18 e19 e20 c' ix l1 hz' ts' hso w1 ?_
      exact⟨_,_,w',rfl,uA,Keeps.refl _ _,by simp[Gg,e7],by grind⟩
     |true=>
      rw[hs]at hso
      obtain⟨v',X2,a1,a2,a3⟩:=IL.push p3 (Jm hk0 g.len) oM x
      have hel:elems (H'++[⟨[.i x],.rw,1⟩]) 1 (.slice H'.length 0 1 1 1 false)=some (1,[.i x]):=by
       rw[J7 oM]
       have:=@Kc;exact W0
      refine W16 e5 e7 e18 e19 e20 c' ix l1 hz' ts' hso @J5 @Gu hel a1 w1 ?_
      exact⟨_,_,v',rfl,uA,a3,uA,by rw[if_pos ⟨hz,trivial⟩];exact a2⟩
   ·have c':decide ((j:Int)<(l.length:Int))=false:=G5 oM
    have hjj:j=l.length:=by omega
    rw[hjj]at p3
    apply Gj (x:=.exit 0)
    ·refine GH ?_
     rfl
    ·simp
    ·exact⟨rfl,g,w',by simp[Gg,e7],p3⟩) _ ⟨0,.Gc,h20,oM,rfl,Keeps.refl _ _,h7,by simp[FV];exact IL.nil⟩
 grind
theorem Ed(p:PH H hb s L)(k:s.Ok)(a:Int)(ha:a≤9223372036854775807):∃w H',run P 132 [.ptr hb 0,.i a] H=some (w,H')∧Gr H H'∧IL H.length H' w (s.strOf a):=by
 obtain⟨X,h1,g1⟩:=NJ p k a ha
 obtain⟨d,hd⟩:=s.B_ a
 rw[hd]at h1
 obtain⟨X1,hX1⟩:∃X1:Gb,X1=X++[⟨Jb (s.refsOf a).length d (s.VB a),.rw,0⟩]:=⟨_,rfl⟩
 have g2:Gr X X1:=by rw[hX1];exact Gr.app X _
 have t1:X1[X.length]?=some ⟨Jb (s.refsOf a).length d (s.VB a),.rw,0⟩:=by rw[hX1];simp
 have g12:Gr H X1:=g1.trans g2
 obtain⟨w,X2,h2,g3,li⟩:=GbH (p.gr g12) k a ha
 have t2:=g3.get t1
 have hwb:s.refsOf a≠[]→Gn w<X2.length:=fun h=>by
  obtain⟨tl,a1,a2,a3,a4⟩:=li.pos (A7.2 h)
  exact Gf a3
 have hvl:=li.len X2
 unfold Jb at h1 hX1
 rw[Gi Gq2 _ _ sM]
 refine GH ?_
 rw[←hX1]
 refine W2 h2 hvl ?_
 generalize hr:den P (.loop EW) _ _=r
 obtain⟨E2,X3,w3,rfl,g4,a7,li3,f2⟩:=GfW (k0:=X2.length) (Nat.le_refl _) (k.GnM a) (k.Vt a) li.li hwb (Gf t2) t2 uA uA uA uA uA hr
 refine GH ?_
 have l1:=g12.len
 have l2:=g3.len
 have l3:=g4.len
 refine⟨_,X3,rfl,⟨oM,fun c hc _=>?_⟩,li3.frame (fun c h=>Gm.2 ⟨by have:=(Gm.1 h).1;omega,(Gm.1 h).2⟩) fun _ _=>rfl⟩
 rw[g4.keep c oM oM,g3.keep c oM fun h=>h,g12.keep c hc fun h=>h]
end
end Go.Cs.Tryz

namespace Go.Cs
open Go
section
variable {F : Jl} {E : Env} {H : Gb}
def IZ(m:CV)(H:Gb):Option (CV×Gb):=(entriesOf H m).map fun es=>(.i es.length,H)
theorem Dj{m:J8}:Ky F (.ZW m) E H=IZ (E.ev m) H:=by
 simp only[Ky,VF,G8,IZ]
 cases entriesOf H (E.ev m)<;>rfl
def AV(ok:Bool)(k:IntKind)(z m x:CV)(H:Gb):Option Ra:=(NR H ok k z m x).map fun v=>(none,fun _=>v)
theorem Geb{ok:Bool}{k:IntKind}{z:CV}{m x:J8}:G8 (.Qg ok k z m x) E H=AV ok k z (E.ev m) (E.ev x) H:=rfl
def Gbz(g:Nat)(x:CV)(H:Gb):Option (CV×Gb):=match x with
 |.func f [.ptr b 0]=>if f=g then match H[b]? with
   |some ⟨[m],.rw,0⟩=>(mapOf H m).bind fun y=>(keysOf y.2).bind fun l=>
    if l.length=0 then some (.Gc,H)else if l.length≤JF∧l.all Im=true then some (.slice H.length 0 l.length l.length 1 true,H++[⟨(QN l).map .i,.rw,1⟩])else none
   |_=>none
  else none
 |_=>none
theorem Oh{g:Nat}{x:J8}:Ky F (.KF g x) E H=Gbz g (E.ev x) H:=rfl
end
def Ka(l:List (Int×CV)):List CV:=l.map fun x=>.Jk [.i x.1,x.2]
theorem Us(l:List (Int×CV)):QJ (Ka l)=Ka l∧Yo (Ka l)=false:=by
 match l with
 |[]=>exact⟨rfl,rfl⟩
 |[x]=>exact⟨rfl,rfl⟩
 |x::y::r=>exact⟨rfl,rfl⟩
theorem Y_{n:Int}:∀{l:List (Int×CV)}{i:Nat},(∀v,(n,v)∉l)→U6 .i64 n (Ka l) i=some none
 |[],i,_=>rfl
 |(k,w)::l,i,h=>by
  have hk:(n==k)=false:=by
   grind
  show(if IntKind.i64=IntKind.i64 then(if(n==k)=true then some (some (i,w))else U6 .i64 n (Ka l) (i+1))else none)=_
  rw[if_pos rfl,hk]
  exact Y_ fun v hv=>h v (U5 _ hv)
theorem YK{n:Int}:∀{l:List (Int×CV)}{i:Nat}{v:CV},(l.map (·.1)).Nodup→(n,v)∈l→∃j,l[j]?=some (n,v)∧U6 .i64 n (Ka l) i=some (some (i+j,v))
 |(k,w)::l,i,v,hn,h=>by
  rw[List.map_cons,List.nodup_cons]at hn
  show∃j,_∧(if IntKind.i64=IntKind.i64 then(if(n==k)=true then some (some (i,w))else U6 .i64 n (Ka l) (i+1))else none)=_
  rw[if_pos rfl]
  by_cases hk:n=k
  ·simp_all
  ·have hk':(n==k)=false:=by simpa using hk
   rw[hk']
   have h':(n,v)∈l:=by
    grind
   obtain⟨j,q1,q2⟩:=YK (i:=i+1) hn.2 h'
   refine⟨j+1,q1,?_⟩
   grind
def NQ(H:Gb)(b:Nat)(f:Int→Option CV)(ks:List Int):Prop:=
 ∃l:List (Int×CV),H[b]?=some ⟨Ka l,.map,0⟩∧l.map (·.1)=ks∧ks.Nodup∧∀k v,(k,v)∈l↔f k=some v
section
variable {H : Gb} {b : Nat} {f : Int → Option CV} {ks : List Int}
theorem NQ.frame{H':Gb}(m:NQ H b f ks)(h:H'[b]?=H[b]?):NQ H' b f ks:=by
 obtain⟨l,h1,h2⟩:=m
 exact⟨l,h.trans h1,h2⟩
theorem NQ.lt(m:NQ H b f ks):b<H.length:=by
 obtain⟨l,h1,h2⟩:=m
 exact Gf h1
theorem NQ.entries(m:NQ H b f ks):∃l,H[b]?=some ⟨Ka l,.map,0⟩∧entriesOf H (.GI b)=some (Ka l)∧l.map (·.1)=ks∧ks.Nodup∧∀k v,(k,v)∈l↔f k=some v:=by
 obtain⟨l,h1,h2,h3,h4⟩:=m
 refine⟨l,h1,?_,h2,h3,h4⟩
 unfold entriesOf
 dsimp only
 rw[h1]
 dsimp only
 rw[if_pos ⟨rfl,rfl⟩,(Us l).1]
theorem NQ.mem(m:NQ H b f ks){n:Int}:n∈ks↔∃v,f n=some v:=by
 obtain⟨l,h1,h2,h3,h4⟩:=m
 rw[←h2,VA]
 simp_all
theorem NQ.nodup(m:NQ H b f ks):ks.Nodup:=by
 obtain⟨l,h1,h2,h3,h4⟩:=m
 exact h3
def Giu(ok:Bool)(z:CV):Option CV→CV
 |some v=>if ok then .Jk [v,.bool true]else v
 |none=>if ok then .Jk [z,.bool false]else z
theorem NQ.Gk4(m:NQ H b f ks)(ok:Bool)(z:CV)(n:Int):NR H ok .i64 z (.GI b) (.i n)=some (Giu ok z (f n)):=by
 obtain⟨l,h1,h0,h2,h3,h4⟩:=m.entries
 unfold NR
 dsimp only
 rw[if_pos rfl,h0,Option.bind_some]
 cases e:f n with
 |some v=>
  obtain⟨j,q1,q2⟩:=YK (i:=0) (by rw[h2];exact h3) ((h4 n v).2 e)
  rw[q2];rfl
 |none=>
  rw[Y_ (i:=0) fun v hv=>by rw[(h4 n v).1 hv]at e;cases e];rfl
theorem NQ.get(m:NQ H b f ks)(ok:Bool)(z:CV)(n:Int):Uv ok .i64 z (.GI b) (.i n) H=some (Giu ok z (f n),H):=by
 unfold Uv
 rw[m.Gk4];rfl
theorem NQ.GoR(m:NQ H b f ks)(ok:Bool)(z:CV)(n:Int):AV ok .i64 z (.GI b) (.i n) H=okV (Giu ok z (f n)):=by
 unfold AV
 rw[m.Gk4];rfl
theorem NQ.len(m:NQ H b f ks):IZ (.GI b) H=some (.i ks.length,H):=by
 obtain⟨l,h1,h0,h2,h3,h4⟩:=m.entries
 unfold IZ
 rw[h0,←h2]
 simp[Ka]
theorem NQ.new(H:Gb):NQ (H++[⟨[],.map,0⟩]) H.length (fun _=>none) []:=⟨[],by simp[Ka],rfl,List.nodup_nil,fun k v=>by simp⟩
def Ga8(f:Int→Option CV)(n:Int)(v:CV):Int→Option CV:=fun k=>if k=n then some v else f k
theorem NQ.set(m:NQ H b f ks)(n:Int){v:CV}(hv:leaf v=true):∃H',(∀H0,H0=H→UE .i64 (.GI b) (.i n) v H0=some (.undef,H'))∧Keeps H H' (·=b)∧NQ H' b (Ga8 f n v) (if n∈ks then ks else ks++[n])∧H'.length=H.length:=by
 have hmem:=m.mem (n:=n)
 obtain⟨l,h1,h0,h2,h3,h4⟩:=m.entries
 cases e:f n with
 |none=>
  have hn:n∉ks:=fun h=>by grind
  have hf:=Y_ (n:=n) (l:=l) (i:=0) fun w hw=>by rw[(h4 n w).1 hw]at e;cases e
  refine⟨H.set b ⟨Ka (l++[(n,v)]),.map,0⟩,?_,Keeps.set (w:=fun c=>c=b) (Keeps.refl H _) (.inl rfl) _,⟨l++[(n,v)],by grind,?_,?_,fun k w=>?_⟩,sM⟩
  ·rintro _ rfl
   unfold UE QB
   dsimp only
   rw[if_pos ⟨rfl,hv⟩,h0,Option.bind_some,hf,Option.bind_some]
   dsimp only
   unfold Jy
   rw[h1]
   dsimp only
   rw[if_pos ⟨rfl,rfl,(Us l).2⟩]
   simp[Ka]
  ·grind
  ·grind
  ·rw[NV,h4,Bz,Prod.mk.injEq]
   unfold Ga8
   grind
 |some w0=>
  have hn:n∈ks:=hmem.2 ⟨w0,e⟩
  obtain⟨j,q1,q2⟩:=YK (i:=0) (by rw[h2];exact h3) ((h4 n w0).2 e)
  rw[Nat.zero_add]at q2
  have hj:=Gf q1
  have hks:ks[j]?=some n:=by rw[←h2,K4,q1];rfl
  refine⟨H.set b ⟨Ka (l.set j (n,v)),.map,0⟩,?_,Keeps.set (w:=fun c=>c=b) (Keeps.refl H _) (.inl rfl) _,⟨l.set j (n,v),by grind,?_,?_,fun k w=>?_⟩,sM⟩
  ·rintro _ rfl
   unfold UE QB
   dsimp only
   rw[if_pos ⟨rfl,hv⟩,h0,Option.bind_some,q2,Option.bind_some]
   dsimp only
   unfold Jy
   rw[h1]
   dsimp only
   rw[if_pos ⟨rfl,rfl,(Us l).2⟩]
   simp[Ka,List.map_set]
  ·rw[if_pos hn,List.map_set,h2]
   apply List.ext_getElem?
   grind
  ·rw[if_pos hn];exact h3
  ·unfold Ga8
   rw[List.mem_iff_getElem?]
   constructor
   ·rintro ⟨i,hi⟩
    by_cases c:i=j
    ·grind
    ·rw[NA (Ne.symm c)]at hi
     have hk:k≠n:=by
      rintro rfl
      have e1:ks[i]?=some k:=by rw[←h2,K4,hi];rfl
      exact c ((List.getElem?_inj (Gf e1) h3).1 (e1.trans hks.symm))
     grind
   ·intro h
    split at h
    ·rename_i c
     simp only[GA]at h
     exact⟨j,by rw[ZG hj,c,h]⟩
    ·rename_i c
     obtain⟨i,hi⟩:=List.mem_iff_getElem?.1 ((h4 k w).2 h)
     refine⟨i,?_⟩
     grind
theorem Gay:∀l:List (Int×CV),keysOf (Ka l)=some (l.map (·.1))
 |[]=>rfl
 |(k,v)::l=>by
  show(keysOf (Ka l)).map (k::·)=_
  rw[Gay l];rfl
theorem NQ.keys(m:NQ H b f ks){b0 g:Nat}(h0:H[b0]?=some ⟨[.GI b],.rw,0⟩) (hn:ks.length≤JF) (hi:∀k∈ks,Im k=true):
  ∃w H',Gbz g (.func g [.ptr b0 0]) H=some (w,H')∧Gr H H'∧IL H.length H' w (QN ks):=by
 obtain⟨l,h1,h2,h3,h4⟩:=m
 have hm:mapOf H (.GI b)=some (b,Ka l):=by
  unfold mapOf
  dsimp only
  rw[h1]
  simp only[(Us l).2,Bool.false_eq_true,↓reduceIte]
 unfold Gbz
 simp only[↓reduceIte,h0]
 rw[hm,Option.bind_some,Gay,Option.bind_some,h2]
 by_cases c:ks.length=0
 ·rw[if_pos c,I4 c]
  exact⟨_,_,rfl,Keeps.refl _ _,IL.nil⟩
 ·rw[if_neg c,if_pos ⟨hn,List.all_eq_true.2 hi⟩]
  refine⟨_,_,rfl,Gr.app _ _,.inr ⟨H.length,true,by rw[UW],Gm.2 ⟨Nat.le_refl _,rfl⟩,by simp[ints],by simp[ints]⟩⟩
theorem D9{l:List Int}(h:l.Nodup):ZC (QN l):=by
 have h1:=UO l
 have h2:(QN l).Nodup:=(QZ l).nodup_iff.2 h
 have h3:=h1.and h2
 exact h3.imp fun⟨a,b⟩=>by omega
theorem EJ{l:List Int}{x:Int}:x∈QN l↔x∈l:=(QZ l).mem_iff
end
end Go.Cs
namespace Go.Cs.Tryz
open Go Go.Cs A
abbrev TK:Gq:=T [b 23 .lss 22 21] (S (J 23 (X 0)) (S (B 1 (T [x 24 1 20 22,l 25 1 24,m 6 25] (R [l 26 1 3,m 27 6,e 28 (.N8 (t 26) [t 27] [(304,"dustcart/alloc.place",335),(305,"dustcart/alloc.place",340),(306,"dustcart/alloc.place",348),(307,"dustcart/alloc.place",349),(308,"dustcart/alloc.place",353)])]))) (R [bk 29 .add 22 1,m 22 29])))
def Grl:Gl:=⟨30,0,S (T [l 7 1 1,m 8 0,q2 9 50 7 8,no 10 9,m 11 10,gf 11 (l 12 1 2),gf 11 (m 13 0),gf 11 (e 14 (.Qg false .i64 (.bool false) (t 12) (t 13))),or 15 11 14] (I 15 .ret)) (T [l 16 1 2,m 17 0,u (.Uj .i64 (t 16) (t 17) (c (.bool true)))] (T [l 18 1 1,m 19 0,q2 20 132 18 19,le 21 20,n 22 0] (B 0 (W TK)))),[]⟩
theorem c131:P 131=some Grl:=by kernel_rfl
end Go.Cs.Tryz
namespace Go.Cs
open Go
def Cl(s:Hp)(Q:Int→Prop):Prop:=∀x b,Q x→b∈s.strOf x→s.has b=true→Q b
structure Ht(s:Hp)(ar:Int→Prop)(ks ks':List Int):Prop where
 sub:∀x∈ks,x∈ks'
 got:∀a,ar a→s.has a=true→a∈ks'
 new:∀Q,Cl s Q→(∀a,ar a→s.has a=true→Q a)→∀x∈ks',x∉ks→Q x
 cl:∀x∈ks',x∉ks→∀b∈s.strOf x,s.has b=true→b∈ks'
 pre:ks<+:ks'
theorem Ht.refl(s:Hp)(ks:List Int):Ht s (fun _=>False) ks ks:=⟨fun x h=>h,fun a h=>h.elim,fun Q _ _ x h hn=>absurd h hn,fun x h hn=>absurd h hn,List.prefix_refl _⟩
theorem Ht.trans{s:Hp}{ar br:Int→Prop}{k l m:List Int}(h1:Ht s ar k l)(h2:Ht s br l m):Ht s (fun a=>ar a∨br a) k m where
 sub:=fun x h=>h2.sub x (h1.sub x h)
 got:=fun a h hh=>by
  rcases h with h|h
  ·exact h2.sub a (h1.got a h hh)
  ·exact h2.got a h hh
 new:=fun Q hQ ha x hx hn=>by
  by_cases c:x∈l
  ·exact h1.new Q hQ (fun a h=>ha a (.inl h)) x c hn
  ·exact h2.new Q hQ (fun a h=>ha a (.inr h)) x hx c
 cl:=fun x hx hn b hb hh=>by
  by_cases c:x∈l
  ·exact h2.sub b (h1.cl x c hn b hb hh)
  ·exact h2.cl x hx c b hb hh
 pre:=h1.pre.trans h2.pre
theorem Ht.weaken{s:Hp}{ar br:Int→Prop}{k l:List Int}(h:Ht s ar k l)(e:∀a,br a↔ar a):Ht s br k l:=
 ⟨h.sub,fun a ha=>h.got a ((e a).1 ha),fun Q hQ ha=>h.new Q hQ fun a h1=>ha a ((e a).2 h1),h.cl,h.pre⟩
theorem Ht.mark{s:Hp}{a:Int}{ks ks':List Int}(ha:s.has a=true)(h:Ht s (fun b=>b∈s.strOf a) (ks++[a]) ks'):Ht s (fun b=>b=a) ks ks' where
 sub:=fun x hx=>h.sub x (by simp[hx])
 got:=fun b hb _=>by subst hb;exact h.sub b sM
 new:=fun Q hQ hq x hx hn=>by
  have qa:=hq a rfl ha
  by_cases c:x∈ks++[a]
  ·grind
  ·exact h.new Q hQ (fun b hb hh=>hQ a b qa hb hh) x hx c
 cl:=fun x hx hn b hb hh=>by
  by_cases c:x∈ks++[a]
  ·rw[NV,Bz]at c
   rcases c with c|c
   ·exact absurd c hn
   ·rw[c]at hb;exact h.got b hb hh
  ·exact h.cl x hx c b hb hh
 pre:=(List.prefix_append _ _).trans h.pre
structure N9(H:Gb)(mb:Nat)(s:Hp)(ks:List Int):Prop where
 m:NQ H mb (fun x=>if x∈ks then some (.bool true)else none) ks
 has:∀x∈ks,s.has x=true
theorem N9.few{H:Gb}{mb:Nat}{s:Hp}{ks:List Int}(h:N9 H mb s ks)(k:s.Ok):ks.length≤4096:=by
 rw[←UW]
 exact k.La (D9 h.m.nodup) fun x hx=>h.has x (EJ.1 hx)
theorem N9.frame{H H':Gb}{mb:Nat}{s:Hp}{ks:List Int}(h:N9 H mb s ks)(e:H'[mb]?=H[mb]?):N9 H' mb s ks:=⟨h.m.frame e,h.has⟩
theorem N9.get{H:Gb}{mb:Nat}{s:Hp}{ks:List Int}(h:N9 H mb s ks)(a:Int):Uv false .i64 (.bool false) (.GI mb) (.i a) H=some (.bool (decide (a∈ks)),H):=by
 rw[h.m.get]
 by_cases c:a∈ks
 ·rw[if_pos c,G7 c];rfl
 ·rw[if_neg c,G5 c];rfl
theorem N9.add{H:Gb}{mb:Nat}{s:Hp}{ks:List Int}(h:N9 H mb s ks){a:Int}(ha:s.has a=true)(hn:a∉ks):∃H',UE .i64 (.GI mb) (.i a) (.bool true) H=some (.undef,H')∧Keeps H H' (·=mb)∧N9 H' mb s (ks++[a])∧H'.length=H.length:=by
 obtain⟨H',h1,h2,h3,h4⟩:=h.m.set a (v:=.bool true) rfl
 rw[if_neg hn]at h3
 refine⟨H',h1 H rfl,h2,⟨?_,fun x hx=>?_⟩,h4⟩
 ·have e:Ga8 (fun x=>if x∈ks then some (.bool true)else none) a (.bool true)=fun x=>if x∈ks++[a]then some (.bool true)else none:=by
   funext x
   unfold Ga8
   grind
  rw[←e];exact h3
 ·rw[NV,Bz]at hx
  rcases hx with hx|rfl
  ·exact h.has x hx
  ·exact ha
theorem Hp.Bn{s:Hp}{a b:Int}:b∈s.strOf a↔b≠0∧∃o,s.obj a=some o∧∃j:Nat,o.refs[j]?=some b∧Jh o.kd j=true:=by
 unfold Hp.strOf
 rw[GfV]
 unfold Hp.refsOf Hp.VB
 grind
end Go.Cs
namespace Go.Cs.Tryz
open Go Go.Cs
section
variable {hb : Nat} {s : Hp} {L : G6}
structure PD(H:Gb)(hb:Nat)(s:Hp)(L:G6)(mb c2 c6 c7:Nat):Prop where
 p:PH H hb s L
 no:mb∉L.all hb
 t2:H[c2]?=some ⟨[.ptr hb 0],.rw,0⟩
 t6:H[c6]?=some ⟨[.GI mb],.rw,0⟩
 t7:H[c7]?=some ⟨[.func 131 [.ptr c2 0,.ptr c6 0,.ptr c7 0]],.rw,0⟩
 n:c2≠mb∧c6≠mb∧c7≠mb
theorem PD.frame{H H':Gb}{mb c2 c6 c7:Nat}(v:PD H hb s L mb c2 c6 c7)(g:Keeps H H' (·=mb)):PD H' hb s L mb c2 c6 c7 where
 p:=v.p.but g v.no
 no:=v.no
 t2:=(g.keep _ (Gf v.t2) v.n.1).trans v.t2
 t6:=(g.keep _ (Gf v.t6) v.n.2.1).trans v.t6
 t7:=(g.keep _ (Gf v.t7) v.n.2.2).trans v.t7
 n:=v.n
theorem Gr.mb{H H':Gb}(g:Gr H H')(mb:Nat):Keeps H H' (·=mb):=⟨g.len,fun c hc _=>g.keep c hc fun h=>h⟩
def Ql(s:Hp):Prop:=∀o∈s.objs,∀x∈o.refs,x=0∨s.has x=true
theorem Ql.str{s:Hp}(h:Ql s){a b:Int}(hb:b∈s.strOf a):s.has b=true:=by
 obtain⟨h0,o,ho,j,hj,-⟩:=Hp.Bn.1 hb
 rcases h o (Hp.GV ho).1 b (JV hj)with h|h
 ·exact absurd h h0
 ·exact h
theorem Gjr(k:s.Ok){mb c2 c6 c7:Nat}{n:Nat}
  (ih:∀(H:Gb)(ks:List Int)(a:Int),4097≤n+ks.length→N9 H mb s ks→PD H hb s L mb c2 c6 c7→a≤9223372036854775807→
   ∃ks' H',run P 131 [.i a,.ptr c2 0,.ptr c6 0,.ptr c7 0] H=some (.Jk [],H')∧Keeps H H' (·=mb)∧N9 H' mb s ks'∧Ht s (fun b=>b=a) ks ks')
  {H:Gb} {ks:List Int} (hn:4097≤n+ks.length) (m:N9 H mb s ks) (v:PD H hb s L mb c2 c6 c7) {l:List Int} (hl:l.length≤1000) (hle:∀x∈l,x≤9223372036854775807) {w:CV} (hw:LI H w l) (hwm:l≠[]→Gn w≠mb)
  {E0:Env} (h3:E0 3=.ptr c7 0) (h20:E0 20=w) (h21:E0 21=.i l.length) (h22:E0 22=.i 0) {r:Option (CX×Env×Gb)} (hr:den P (.loop TK) E0 H=r):
  ∃E' H' ks',r=some (.exit 0,E',H')∧Keeps H H' (·=mb)∧N9 H' mb s ks'∧Ht s (fun b=>b∈l) ks ks':=by
 obtain⟨x',E',H',e,-,⟨rfl,g,ks',q1,q2⟩,fr⟩:=Gs (p:=P) (c:=TK) (E0:=E0) (H0:=H)
  (fun q E H'=>∃(j:Nat)(ks':List Int),E 22=.i j∧j≤l.length∧q=l.length-j∧Keeps H H' (·=mb)∧N9 H' mb s ks'∧Ht s (fun b=>b∈l.take j) ks ks')
  (fun x' E' H'=>x'=.exit 0∧Keeps H H' (·=mb)∧∃ks',N9 H' mb s ks'∧Ht s (fun b=>b∈l) ks ks') (by
   rintro q E H' hE ⟨j,ks',e22,hj,rfl,g,m',vi⟩
   have e3:=(hE 3 dK).trans h3
   have e20:=(hE 20 dK).trans h20
   have e21:=(hE 21 dK).trans h21
   have v':=v.frame g
   have t7:=v'.t7
   by_cases c:j<l.length
   ·have c':decide ((j:Int)<(l.length:Int))=true:=G7 oM
    obtain⟨x,hx⟩:∃x,l[j]?=some x:=⟨_,JG c⟩
    have IC:=hwm (fun h=>by rw[h]at c;exact absurd c sM)
    obtain⟨tl,a1,a2,a3,a4⟩:=hw.pos oM
    have Pp:H'[Gn w]?=H[Gn w]?:=g.keep _ (Gf a3) IC
    have ix:∀X,JU 1 w (.i j) X=some (.ptr (Gn w) j,X):=fun X=>by
     rw[a1];exact(if_pos oM).trans (by simp[Gn])
    have l1:ld H'[Gn w]? j=some (.i x):=by rw[Pp,a3,Qm];simp[ints,hx]
    have hpl:=vi.pre.length_le
    obtain⟨ZE,H2,r1,g2,m2,vi2⟩:=ih H' ks' x oM m' v' (hle x (JV hx))
    have w1:IntKind.i64.wrap ((j:Int)+1)=((j+1:Nat):Int):=Gh oM
    apply Gp (k':=l.length-(j+1))
    ·refine W12 e3 e20 e21 e22 c' ix l1 t7 @Ja @JH r1 w1 ?_
     rfl
    ·omega
    ·refine⟨j+1,ZE,uA,oM,rfl,g.trans g2,m2,(vi.trans vi2).weaken fun b=>?_⟩
     rw[QV,hx,Yu,NV,Bz]
   ·have c':decide ((j:Int)<(l.length:Int))=false:=G5 oM
    rw[QA oM]at vi
    apply Gj (x:=.exit 0)
    ·refine GH ?_
     rfl
    ·simp
    ·exact⟨rfl,g,ks',m',vi⟩) _ ⟨0,ks,h22,oM,rfl,Keeps.refl _ _,m,(Ht.refl s ks).weaken fun b=>by simp⟩
 grind
theorem DF(k:s.Ok)(hs:Ql s){mb c2 c6 c7:Nat}:∀(n:Nat)(H:Gb)(ks:List Int)(a:Int),4097≤n+ks.length→N9 H mb s ks→PD H hb s L mb c2 c6 c7→a≤9223372036854775807→
   ∃ks' H',run P 131 [.i a,.ptr c2 0,.ptr c6 0,.ptr c7 0] H=some (.Jk [],H')∧Keeps H H' (·=mb)∧N9 H' mb s ks'∧Ht s (fun b=>b=a) ks ks'
 |0,H,ks,a,hn,m,v,ha=>by have:=m.few k;omega
 |n+1,H,ks,a,hn,m,v,ha=>by
  have t2:=v.t2
  have t6:=v.t6
  have hh:=KP v.p k a ha
  rw[Gi c131 _ _ sM]
  cases ch:s.has a with
  |false=>
   rw[ch]at hh
   refine⟨ks,H,?_,Keeps.refl _ _,m,⟨fun x h=>h,fun b hb hh2=>?_,fun Q _ _ x h hn=>absurd h hn,fun x h hn=>absurd h hn,List.prefix_refl _⟩⟩
   ·exact W0
   ·subst hb;rw[ch]at hh2;cases hh2
  |true=>
   rw[ch]at hh
   have hg:=m.get a
   by_cases c:a∈ks
   ·rw[G7 c]at hg
    refine⟨ks,H,?_,Keeps.refl _ _,m,⟨fun x h=>h,fun b hb hh2=>by subst hb;exact c,fun Q _ _ x h hn=>absurd h hn,fun x h hn=>absurd h hn,List.prefix_refl _⟩⟩
    have:=@Jz;exact W0
   ·rw[G5 c]at hg
    obtain⟨X,h1,g1,m1,l1⟩:=m.add ch c
    have v1:=v.frame g1
    obtain⟨w,X2,h2,g2,li⟩:=Ed v1.p k a ha
    have g2':=Gr.mb g2 mb
    have v2:=v1.frame g2'
    have m2:=m1.frame (g2.keep mb m1.m.lt fun h=>h)
    have t2':=v1.t2
    have hwl:=li.len X2
    have hwm:s.strOf a≠[]→Gn w≠mb:=fun h e=>by
     obtain⟨tl,a1,a2,a3,a4⟩:=li.pos (A7.2 h)
     have:=(Gm.1 a2).1
     have:=m1.m.lt
     omega
    have hsl:(s.strOf a).length≤15:=Jm (Lp _ _ _) (k.Vt a)
    have:=@Jz;have:=@Ue;refine GH ?_
    generalize hr:den P (.loop TK) _ _=r
    obtain⟨E',X3,ks3,rfl,g3,m3,vi⟩:=Gjr k (DF k hs n) (by rw[QU];simp;omega) m2 v2 oM (fun x hx=>by have:=k.has_lt (hs.str hx);omega) li.li hwm uA uA uA uA hr
    refine GH ?_
    exact⟨ks3,X3,rfl,(g1.trans g2').trans g3,m3,Ht.mark ch vi⟩
end
end Go.Cs.Tryz

namespace Go.Cs
open Go
def NP(ks:List Int)(l:List Ob):List Int:=l.filterMap fun o=>if(o.addr:Int)∈ks∧o.kd=2∧o.refs.getD 0 0∈ks then some (o.refs.getD 1 0)else none
theorem Wy{ks:List Int}{l:List Ob}{j:Nat}{o:Ob}(h:l[j]?=some o):NP ks (l.take (j+1))=NP ks (l.take j)++(if(o.addr:Int)∈ks∧o.kd=2∧o.refs.getD 0 0∈ks then [o.refs.getD 1 0]else []):=by
 unfold NP
 rw[QV,h,Yu,List.filterMap_append]
 grind
theorem OI(ks:List Int)(l:List Ob):(NP ks l).length≤l.length:=List.length_filterMap_le _ _
theorem YM{ks:List Int}{l:List Ob}{v:Int}:v∈NP ks l↔∃o∈l,((o.addr:Int)∈ks∧o.kd=2∧o.refs.getD 0 0∈ks)∧o.refs.getD 1 0=v:=by
 unfold NP
 grind
theorem Uh{o:Ob}(h:2≤o.refs.length){i:Nat}(hi:i<2):o.refs[i]?=some (o.refs.getD i 0):=by
 grind
structure MF(s:Hp)(st:Int→Prop)(t:Nat)(ks todo:List Int):Prop where
 kp:∀x∈ks,Kp s st true x
 tk:∀x∈todo,s.has x=true→Kp s st true x
 cl:∀x∈ks,∀b∈s.strOf x,s.has b=true→b∈ks
 st:∀a,st a→s.has a=true→a∈ks∨a∈todo
 pr:∀o∈s.objs,(o.addr:Int)∈ks→o.kd=2→o.refs.getD 0 0∈ks→s.has (o.refs.getD 1 0)=true→o.refs.getD 1 0∈ks∨o.refs.getD 1 0∈todo
 ze:(t=0∧ks=[])∨(0<t∧ks≠[])
 tl:t≤ks.length
theorem GkH{s:Hp}{st:Int→Prop}:Cl s (Kp s st true):=fun x b hx hb hh=>by
 obtain⟨h0,o,ho,j,hj,hs⟩:=Hp.Bn.1 hb
 exact .ref hx ho hj hs hh
theorem MF.visit{s:Hp}{st:Int→Prop}{t:Nat}{ks todo ks':List Int}(h:MF s st t ks todo)(v:Ht s (fun b=>b∈todo) ks ks'):
  (∀x∈ks',Kp s st true x)∧(∀x∈ks',∀b∈s.strOf x,s.has b=true→b∈ks')∧(∀a,st a→s.has a=true→a∈ks'):=by
 refine⟨fun x hx=>?_,fun x hx b hb hh=>?_,fun a ha hh=>?_⟩
 ·by_cases c:x∈ks
  ·exact h.kp x c
  ·exact v.new _ GkH (fun a h1 h2=>h.tk a h1 h2) x hx c
 ·by_cases c:x∈ks
  ·exact v.sub b (h.cl x c b hb hh)
  ·exact v.cl x hx c b hb hh
 ·rcases h.st a ha hh with h1|h1
  ·exact v.sub a h1
  ·exact v.got a h1 hh
theorem MF.fin{s:Hp}(k:s.Ok)(h0:s.has 0=false){st:Int→Prop}{t:Nat}{ks todo ks':List Int}(h:MF s st t ks todo)(v:Ht s (fun b=>b∈todo) ks ks')(e:ks'.length=ks.length):ks'=ks∧∀x,x∈ks↔Kp s st true x:=by
 have e':ks'=ks:=(v.pre.eq_of_length e.symm).symm
 subst e'
 obtain⟨h1,h2,h3⟩:=h.visit v
 refine⟨rfl,fun x=>⟨h1 x,fun hx=>?_⟩⟩
 induction hx with
 |start a1 a2=>exact h3 _ a1 a2
 |@ref a b o j _ a2 a3 a4 a5 ih=>
  by_cases c:b=0
  ·rw[c,h0]at a5;cases a5
  ·exact h2 a ih b (Hp.Bn.2 ⟨c,o,a2,j,a3,a4⟩) a5
 |@pair a b c o _ a2 a3 a4 a5 a6 a7 a8 ih1 ih2=>
  obtain⟨q1,q2⟩:=Hp.GV a3
  have q3:=(k.Pd a3).2 a4
  have e0:c=o.refs.getD 0 0:=by grind
  have e1:b=o.refs.getD 1 0:=by grind
  subst e0 e1
  rcases h.pr o q1 (by rw[q2];exact ih1) a4 ih2 a8 with h|h
  ·exact h
  ·exact v.got _ h a8
theorem MF.next{s:Hp}(k:s.Ok){st:Int→Prop}{t:Nat}{ks todo ks':List Int}(h:MF s st t ks todo)(v:Ht s (fun b=>b∈todo) ks ks')(e:ks'.length≠ks.length):MF s st (t+1) ks' (NP ks' s.objs):=by
 obtain⟨h1,h2,h3⟩:=h.visit v
 have hle:=v.pre.length_le
 refine⟨h1,fun x hx hh=>?_,h2,fun a ha hh=>.inl (h3 a ha hh),fun o ho a1 a2 a3 a4=>.inr (YM.2 ⟨o,ho,⟨a1,a2,a3⟩,rfl⟩),.inr ⟨oM,fun h0=>by grind⟩,by have:=h.tl;omega⟩
 obtain⟨o,ho,⟨a1,a2,a3⟩,rfl⟩:=YM.1 hx
 have VN:=k.obj ho
 have q3:=(k.Pd VN).2 a2
 exact .pair rfl (h1 _ a1) VN a2 (Uh q3 oM) (h1 _ a3) (Uh q3 oM) hh
end Go.Cs
namespace Go.Cs.Tryz
open Go Go.Cs A
abbrev Rn:Gq:=T [b 46 .lss 45 44] (S (J 46 (X 4)) (S (B 5 (T [x 47 1 43 45,l 48 1 47,m 14 48] (S (T [l 49 1 6,m 50 14,e 51 (.Qg false .i64 (.bool false) (t 49) (t 50)),no 52 51,m 53 52,gf 53 (l 54 1 2),gf 53 (m 55 14),gf 53 (q2 56 133 54 55),gf 53 (bk 57 .neq 56 2),or 58 53 57] (I 58 (X 5))) (T [l 60 1 2,m 61 14,ca 62 76 [t 60,t 61,k 0],m 59 62,ex 63 59 0,ex 64 59 1,m 15 63,m 16 64] (T [l 65 1 6,m 66 15,e 67 (.Qg false .i64 (.bool false) (t 65) (t 66))] (I 67 (T [l 69 1 2,m 70 14,ca 71 76 [t 69,t 70,k 1],m 68 71,ex 72 68 0,ex 73 68 1,m 17 72,m 18 73] (R [m 74 9,m 75 17,e 76 (.buildSlice 1 [i 0] 1 [(0,1,t 75)]),ap 77 1 74 76,m 9 77])))))))) (R [bk 78 .add 45 1,m 45 78])))
abbrev Ga1:Gq:=T [b 29 .lss 28 27] (S (J 29 (X 2)) (S (B 3 (T [x 30 1 26 28,l 31 1 30,m 12 31] (R [l 32 1 7,m 33 12,e 34 (.N8 (t 32) [t 33] [(304,"dustcart/alloc.place",335),(305,"dustcart/alloc.place",340),(306,"dustcart/alloc.place",348),(307,"dustcart/alloc.place",349),(308,"dustcart/alloc.place",353)])]))) (R [bk 35 .add 28 1,m 28 35])))
abbrev Gag:Gq:=S (B 1 (T [l 24 1 6,e 25 (.ZW (t 24)),m 10 25] (S (T [m 26 9,le 27 26,n 28 0] (B 2 (W Ga1))) (S (T [l 36 1 6,e 37 (.ZW (t 36)),m 38 10,b 39 .eql 37 38] (I 39 (Q [l 40 1 6,m 41 8,m 4 40,m 5 41]))) (T [e 9 (.JR (c .Gc))] (T [l 42 1 2,q1 43 73 42,le 44 43,n 45 0] (B 4 (W Rn)))))))) (R [m 22 8,bk 23 .add 22 1,m 8 23])
def C43:Gl:=⟨79,0,T [bo 2 0,e 4 (.JR (c .UC)),n 5 0] (T [e 19 .Vp,e 6 (.new [.UC]),st 1 6 19] (T [e 7 (.new [.nilFunc])] (T [e 20 (.NI 131 [t 2,t 6,t 7]),st 1 7 20] (T [n 8 0] (T [m 21 1,m 9 21] (B 0 (W Gag))))))),[r 4,r 5]⟩
theorem c43:P 43=some C43:=by kernel_rfl
end Go.Cs.Tryz
namespace Go.Cs.Tryz
open Go Go.Cs
section
variable {hb : Nat} {s : Hp} {L : G6}
theorem Ge9(k:s.Ok)(hs:Ql s){mb c2 c6 c7:Nat}{H:Gb}{ks:List Int}(m:N9 H mb s ks)(v:PD H hb s L mb c2 c6 c7){l:List Int}(hl:l.length≤100000)(hle:∀x∈l,x≤9223372036854775807){w:CV}(hw:LI H w l)(hwm:l≠[]→Gn w≠mb)
  {E0:Env}(h7:E0 7=.ptr c7 0)(h26:E0 26=w)(h27:E0 27=.i l.length)(h28:E0 28=.i 0){r:Option (CX×Env×Gb)}(hr:den P (.loop Ga1) E0 H=r):
  ∃E' H' ks',r=some (.exit 2,E',H')∧Keeps H H' (·=mb)∧N9 H' mb s ks'∧Ht s (fun b=>b∈l) ks ks'∧∀t,t∉wr Ga1→E' t=E0 t:=by
 obtain⟨x',E',H',e,-,⟨rfl,g,ks',q1,q2⟩,fr⟩:=Gs (p:=P) (c:=Ga1) (E0:=E0) (H0:=H)
  (fun q E H'=>∃(j:Nat)(ks':List Int),E 28=.i j∧j≤l.length∧q=l.length-j∧Keeps H H' (·=mb)∧N9 H' mb s ks'∧Ht s (fun b=>b∈l.take j) ks ks')
  (fun x' E' H'=>x'=.exit 2∧Keeps H H' (·=mb)∧∃ks',N9 H' mb s ks'∧Ht s (fun b=>b∈l) ks ks') (by
   rintro q E H' hE ⟨j,ks',e28,hj,rfl,g,m',vi⟩
   have e7:=(hE 7 dK).trans h7
   have e26:=(hE 26 dK).trans h26
   have e27:=(hE 27 dK).trans h27
   have v':=v.frame g
   have t7:=v'.t7
   by_cases c:j<l.length
   ·have c':decide ((j:Int)<(l.length:Int))=true:=G7 oM
    obtain⟨x,hx⟩:∃x,l[j]?=some x:=⟨_,JG c⟩
    have IC:=hwm (fun h=>by rw[h]at c;exact absurd c sM)
    obtain⟨tl,a1,a2,a3,a4⟩:=hw.pos oM
    have Pp:H'[Gn w]?=H[Gn w]?:=g.keep _ (Gf a3) IC
    have ix:∀X,JU 1 w (.i j) X=some (.ptr (Gn w) j,X):=fun X=>by
     rw[a1];exact(if_pos oM).trans (by simp[Gn])
    have l1:ld H'[Gn w]? j=some (.i x):=by rw[Pp,a3,Qm];simp[ints,hx]
    obtain⟨ZE,H2,r1,g2,m2,vi2⟩:=DF k hs 4097 H' ks' x oM m' v' (hle x (JV hx))
    have w1:IntKind.i64.wrap ((j:Int)+1)=((j+1:Nat):Int):=Gh oM
    apply Gp (k':=l.length-(j+1))
    ·refine W12 e7 e26 e27 e28 c' ix l1 t7 @Ja @JH r1 w1 ?_
     rfl
    ·omega
    ·refine⟨j+1,ZE,uA,oM,rfl,g.trans g2,m2,(vi.trans vi2).weaken fun b=>?_⟩
     rw[QV,hx,Yu,NV,Bz]
   ·have c':decide ((j:Int)<(l.length:Int))=false:=G5 oM
    rw[QA oM]at vi
    apply Gj (x:=.exit 2)
    ·refine GH ?_
     rfl
    ·simp
    ·exact⟨rfl,g,ks',m',vi⟩) _ ⟨0,ks,h28,oM,rfl,Keeps.refl _ _,m,(Ht.refl s ks).weaken fun b=>by simp⟩
 grind
theorem GdY(k:s.Ok){mb c2 c6 c7:Nat}{H:Gb}{ks:List Int}(m:N9 H mb s ks)(v:PD H hb s L mb c2 c6 c7){w:CV}(hw:LI H w s.all)
  {E0:Env}(h2:E0 2=.ptr c2 0)(h6:E0 6=.ptr c6 0)(h9:E0 9=.Gc)(h43:E0 43=w)(h44:E0 44=.i s.objs.length)(h45:E0 45=.i 0){r:Option (CX×Env×Gb)}(hr:den P (.loop Rn) E0 H=r):
  ∃E' H' w',r=some (.exit 4,E',H')∧Gr H H'∧E' 9=w'∧IL H.length H' w' (NP ks s.objs)∧∀t,t∉wr Rn→E' t=E0 t:=by
 have few:=k.few
 have hall:s.all.length=s.objs.length:=by simp[Hp.all]
 obtain⟨x',E',H',e,-,⟨rfl,g,w',q1,q2⟩,fr⟩:=Gs (p:=P) (c:=Rn) (E0:=E0) (H0:=H)
  (fun q E H'=>∃(j:Nat)(w':CV),E 45=.i j∧j≤s.objs.length∧q=s.objs.length-j∧Gr H H'∧E 9=w'∧IL H.length H' w' (NP ks (s.objs.take j)))
  (fun x' E' H'=>x'=.exit 4∧Gr H H'∧∃w',E' 9=w'∧IL H.length H' w' (NP ks s.objs)) (by
   rintro q E H' hE ⟨j,w',e45,hj,rfl,g,e9,p3⟩
   have e2:=(hE 2 dK).trans h2
   have e6:=(hE 6 dK).trans h6
   have e43:=(hE 43 dK).trans h43
   have e44:=(hE 44 dK).trans h44
   have v':=v.frame (Gr.mb g mb)
   have m':=m.frame (g.keep mb m.m.lt fun h=>h)
   have t2:=v'.t2
   have t6:=v'.t6
   by_cases c:j<s.objs.length
   ·have c':decide ((j:Int)<(s.objs.length:Int))=true:=G7 oM
    have hx:s.objs[j]?=some s.objs[j]:=JG c
    obtain⟨x,hxe⟩:∃x,x=s.objs[j]:=⟨_,rfl⟩
    rw[←hxe]at hx
    have hxm:=JV hx
    have Yv:=k.obj hxm
    have hxa:s.all[j]?=some (x.addr:Int):=by simp[Hp.all,hx]
    have hfi:=(k.ob x hxm).fits
    have hnb:=k.nb
    have hnw:s.nw=64*s.blk.length:=rfl
    obtain⟨b,f,i1,i2,i3⟩:=hw.at hxa
    have AZ:=i3 H' g
    have hg:=m'.get (x.addr:Int)
    have w1:IntKind.i64.wrap ((j:Int)+1)=((j+1:Nat):Int):=Gh oM
    have hkd:s.VB (x.addr:Int)=x.kd:=by unfold Hp.VB;rw[Yv]
    have hll:=OI ks (s.objs.take j)
    rw[List.length_take]at hll
    suffices fin:∃E' H2 w2,den P Rn E H'=some (.normal,E',H2)∧E' 45=.i ((j+1:Nat):Int)∧Keeps H' H2 (fun c=>H.length≤c)∧E' 9=w2∧IL H.length H2 w2 (NP ks (s.objs.take (j+1)))by
     obtain⟨E',H2,w2,f1,f2,f3,f4,f5⟩:=fin
     exact Gp f1 (k':=s.objs.length-(j+1)) oM ⟨j+1,w2,f2,oM,rfl,g.news f3,f4,f5⟩
    rw[Wy hx]
    by_cases ck:(x.addr:Int)∈ks
    ·rw[G7 ck]at hg
     obtain⟨X1,h1,g1⟩:=Mh v'.p k (x.addr:Int) oM
     rw[hkd]at h1
     by_cases c2:x.kd=2
     ·have c2':((x.kd:Int) != 2)=false:=by rw[c2];rfl
      have q3:=(k.Pd Yv).2 c2
      have v1:=v'.frame (Gr.mb g1 mb)
      have t2':=v1.t2
      have t6':=v1.t6
      obtain⟨X2,h3,g2⟩:=KE v1.p k (x.addr:Int) 0 oM
      have hr0:s.GN (x.addr:Int) 0=(x.refs.getD 0 0,0):=by
       have hre:s.refsOf (x.addr:Int)=x.refs:=by unfold Hp.refsOf;rw[Yv]
       exact Hp.U7 (j:=0) (by rw[hre];exact Uh q3 oM)
      rw[hr0]at h3
      unfold Q9 at h3
      have v2:=v1.frame (Gr.mb g2 mb)
      have m2:=(m'.frame (g1.keep mb m'.m.lt fun h=>h))
      have m3:=m2.frame (g2.keep mb m2.m.lt fun h=>h)
      have Gqw:=v2.t2
      have Gn2:=v2.t6
      have hg2:=m3.get (x.refs.getD 0 0)
      by_cases c3:x.refs.getD 0 0∈ks
      ·rw[G7 c3]at hg2
       obtain⟨X3,h4,g3⟩:=KE v2.p k (x.addr:Int) 1 oM
       have hr1:s.GN (x.addr:Int) 1=(x.refs.getD 1 0,0):=by
        have hre:s.refsOf (x.addr:Int)=x.refs:=by unfold Hp.refsOf;rw[Yv]
        exact Hp.U7 (j:=1) (by rw[hre];exact Uh q3 oM)
       rw[hr1]at h4
       unfold Q9 at h4
       have gg:Gr H' X3:=(g1.trans g2).trans g3
       obtain⟨v4,X4,a1,a2,a3⟩:=IL.push (At.keeps p3 gg) (Jm g.len gg.len) oM (x.refs.getD 1 0)
       have hel:elems (X3++[⟨[.i (x.refs.getD 1 0)],.rw,1⟩]) 1 (.slice X3.length 0 1 1 1 false)=some (1,[.i (x.refs.getD 1 0)]):=by
        rw[J7 oM]
        have:=@Kc;exact W0
       refine W26 e2 e6 e9 e43 e44 e45 c' i1 AZ t6 @Jz hg t2 h1 c2' t2' h3 Gn2 hg2 Gqw h4 @J5 @Gu hel a1 w1 ?_
       exact⟨_,_,v4,rfl,uA,(gg.weaken fun _ h=>h.elim).trans a3,uA,by rw[if_pos ⟨ck,c2,c3⟩];exact a2⟩
      ·rw[G5 c3]at hg2
       refine W19 e2 e6 e43 e44 e45 c' i1 AZ t6 @Jz hg t2 h1 c2' t2' h3 Gn2 hg2 w1 ?_
       exact⟨_,_,w',rfl,uA,((g1.trans g2).weaken fun _ h=>h.elim),by simp[Gg,e9],by rw[if_neg (fun h=>c3 h.2.2),List.append_nil];exact At.keeps p3 (g1.trans g2)⟩
     ·have c2':((x.kd:Int) != 2)=true:=bne_iff_ne.2 oM
      refine W15 e2 e6 e43 e44 e45 c' i1 AZ t6 @Jz hg t2 h1 c2' w1 ?_
      exact⟨_,_,w',rfl,uA,(g1.weaken fun _ h=>h.elim),by simp[Gg,e9],by rw[if_neg (fun h=>c2 h.2.1),List.append_nil];exact At.keeps p3 g1⟩
    ·rw[G5 ck]at hg
     refine W11 e6 e43 e44 e45 c' i1 AZ t6 @Jz hg w1 ?_
     exact⟨_,_,w',rfl,uA,Keeps.refl _ _,by simp[Gg,e9],by grind⟩
   ·have c':decide ((j:Int)<(s.objs.length:Int))=false:=G5 oM
    rw[QA oM]at p3
    apply Gj (x:=.exit 4)
    ·refine GH ?_
     rfl
    ·simp
    ·exact⟨rfl,g,w',by simp[Gg,e9],p3⟩) _ ⟨0,.Gc,h45,oM,rfl,Keeps.refl _ _,h9,IL.nil⟩
 grind
end
end Go.Cs.Tryz

namespace Go.Cs.Tryz
open Go Go.Cs
section
variable {hb : Nat} {s : Hp} {L : G6}
theorem GjR(k:s.Ok)(hs:Ql s){ks:List Int}:∀x∈NP ks s.objs,x≤9223372036854775807:=fun x hx=>by
 obtain⟨o,ho,⟨-,a2,-⟩,rfl⟩:=YM.1 hx
 have q3:=(k.Pd (k.obj ho)).2 a2
 rcases hs o ho _ (JV (Uh q3 (i:=1) oM))with h|h
 ·omega
 ·have:=k.has_lt h;omega
theorem Gez(k:s.Ok)(hs:Ql s)(h00:s.has 0=false){st:Int→Prop}{mb c2 c6 c7:Nat}{H:Gb}{ks:List Int}(m:N9 H mb s ks)(v:PD H hb s L mb c2 c6 c7){todo:List Int}(hl:todo.length≤100000)(hle:∀x∈todo,x≤9223372036854775807){w:CV}(hw:LI H w todo)(hwm:todo≠[]→Gn w≠mb)
  (rd:MF s st 0 ks todo){C:Prop}(hC:C→∀ks':List Int,(∀x∈ks',Kp s st true x)→∀x∈NP ks' s.objs,s.has x=true→x∈ks')
  {E0:Env}(h2:E0 2=.ptr c2 0)(h6:E0 6=.ptr c6 0)(h7:E0 7=.ptr c7 0)(h8:E0 8=.i 0)(h9:E0 9=w){r:Option (CX×Env×Gb)}(hr:den P (.loop Gag) E0 H=r):
  ∃E' H' ks' t,r=some (.ret,E',H')∧Keeps H H' (·=mb)∧N9 H' mb s ks'∧E' 4=.GI mb∧E' 5=.i (t:Nat)∧(t=0↔ks'=[])∧(∀x,x∈ks'↔Kp s st true x)∧(C→t≤1):=by
 have few:=k.few
 obtain⟨x',E',H',e,-,⟨rfl,g,ks',t,q⟩,fr⟩:=Gs (p:=P) (c:=Gag) (E0:=E0) (H0:=H)
  (fun q E H'=>∃(t:Nat)(ks' todo:List Int)(w:CV),E 8=.i t∧E 9=w∧q=4100-ks'.length∧Keeps H H' (·=mb)∧N9 H' mb s ks'∧LI H' w todo∧(todo≠[]→Gn w≠mb)∧todo.length≤100000∧(∀x∈todo,x≤9223372036854775807)∧MF s st t ks' todo∧(C→t≤1∧(t=1→∀x∈todo,s.has x=true→x∈ks')))
  (fun x' E' H'=>x'=.ret∧Keeps H H' (·=mb)∧∃(ks':List Int)(t:Nat),N9 H' mb s ks'∧E' 4=.GI mb∧E' 5=.i t∧(t=0↔ks'=[])∧(∀x,x∈ks'↔Kp s st true x)∧(C→t≤1)) (by
   rintro q E H' hE ⟨t,ks',todo,w,e8,e9,rfl,g,m',hw,hwm,hl,hle,rd,hct⟩
   have e2:=(hE 2 dK).trans h2
   have e6:=(hE 6 dK).trans h6
   have e7:=(hE 7 dK).trans h7
   have v':=v.frame g
   have t6:=v'.t6
   have hml:=m'.m.len
   have hwl:=hw.len H'
   have WL:=m'.few k
   suffices fin:∃x E' H2,den P Gag E H'=some (x,E',H2)∧((x=.normal∧∃(ZE Ii:List Int)(w2:CV),E' 8=.i ((t+1:Nat):Int)∧E' 9=w2∧ks'.length<ZE.length∧Keeps H' H2 (·=mb)∧N9 H2 mb s ZE∧LI H2 w2 Ii∧(Ii≠[]→Gn w2≠mb)∧Ii.length≤100000∧(∀x∈Ii,x≤9223372036854775807)∧MF s st (t+1) ZE Ii∧(C→t+1≤1∧(t+1=1→∀x∈Ii,s.has x=true→x∈ZE)))∨
     (x=.ret∧Keeps H' H2 (·=mb)∧N9 H2 mb s ks'∧E' 4=.GI mb∧E' 5=.i t∧∀x,x∈ks'↔Kp s st true x))by
    obtain⟨x,E',H2,f1,⟨rfl,ZE,Ii,w2,f2,f3,f4,f5,f6,f7,f8,f9,f10,f11,f12⟩|⟨rfl,f2,f3,f4,f5,f6⟩⟩:=fin
    ·have hf2:=f6.few k
     exact Gp f1 (k':=4100-ZE.length) oM ⟨t+1,ZE,Ii,w2,f2,f3,rfl,g.trans f5,f6,f7,f8,f9,f10,f11,f12⟩
    ·refine Gj f1 sM ⟨rfl,g.trans f2,ks',t,f3,f4,f5,?_,f6,fun hc=>(hct hc).1⟩
     rcases rd.ze with⟨h,h'⟩|⟨h,h'⟩
     ·exact⟨fun _=>h',fun _=>h⟩
     grind
   have:=@Dj;refine GH ?_
   generalize hr:den P (.loop Ga1) _ _=r
   obtain⟨E2,X2,ZE,rfl,g2,m2,vi,f2⟩:=Ge9 k hs m' v' hl hle hw hwm (by simp[Gg,e7]) uA uA uA hr
   have b2:=f2 2 dK
   have b6:=f2 6 dK
   have b8:=f2 8 dK
   have b10:=f2 10 dK
   simp only[Gg,Nat.reduceEqDiff,↓reduceIte,e2,e6,e8]at b2 b6 b8 b10
   have v2:=v'.frame g2
   have t6':=v2.t6
   have t2':=v2.t2
   have GsR:=m2.m.len
   have hle2:=vi.pre.length_le
   have Gv3:=m2.few k
   by_cases c:ZE.length=ks'.length
   ·obtain⟨rfl,hk⟩:=rd.fin k h00 vi c
    have c':((ZE.length:Int)==(ZE.length:Int))=true:=by simp
    refine W7 b6 b8 b10 t6' @Dj GsR c' ?_
    exact⟨_,_,_,rfl,.inr ⟨rfl,g2,m2,uA,uA,hk⟩⟩
   ·have c':((ZE.length:Int)==(ks'.length:Int))=false:=UF.2 oM
    obtain⟨w3,X3,h3,g3,li3⟩:=Oq v2.p k
    have hw3:=li3.len X3
    have hall:s.all.length=s.objs.length:=by simp[Hp.all]
    rw[hall]at hw3
    have v3:=v2.frame (Gr.mb g3 mb)
    have m3:=m2.frame (g3.keep mb m2.m.lt fun h=>h)
    have:=@Dj;refine GH ?_
    generalize hr:den P (.loop Rn) _ _=r
    obtain⟨E4,X4,w4,rfl,g4,a9,li4,f4⟩:=GdY k m3 v3 li3.li (by simp[Gg,b2]) (by simp[Gg,b6]) uA uA uA uA hr
    have d8:=f4 8 dK
    simp only[Gg,Nat.reduceEqDiff,↓reduceIte,b8]at d8
    have htl:=rd.tl
    have w1:IntKind.i64.wrap ((t:Int)+1)=((t+1:Nat):Int):=Gh oM
    refine GH ?_
    have WK:=m3.m.lt
    have hnx:=rd.next k vi c
    refine⟨_,_,_,rfl,.inl ⟨rfl,ZE,NP ZE s.objs,w4,uA,by simp[Gg,a9],oM,(g2.trans (Gr.mb g3 mb)).trans (Gr.mb g4 mb),m3.frame (g4.keep mb WK fun h=>h),li4.li,fun h e=>?_,?_,GjR k hs,hnx,fun hc=>?_⟩⟩
    ·obtain⟨tl,a1,a2,a3,a4⟩:=li4.pos (A7.2 h)
     have:=(Gm.1 a2).1
     omega
    ·have:=OI ZE s.objs
     omega
    ·obtain⟨ht,hq⟩:=hct hc
     rcases Yg t 1 with h|h
     ·exact⟨oM,fun _=>hC hc ZE hnx.kp⟩
     ·exfalso
      have ht1:t=1:=by omega
      obtain⟨rest,hrest⟩:=vi.pre
      have hnd:=m2.m.nodup
      rw[←hrest]at c hnd
      cases rest with
      |nil=>exact c sM
      |cons z rest=>
       have hz:z∉ks':=fun h=>by
        grind
       exact hz (vi.new (fun a=>a∈ks') (fun x b hx hb hh=>rd.cl x hx b hb hh) (hq ht1) z (by rw[←hrest];simp) hz)) _ ⟨0,ks,todo,w,h8,h9,rfl,Keeps.refl _ _,m,hw,hwm,hl,hle,rd,fun _=>⟨oM,fun h=>by omega⟩⟩
 grind
theorem Ges{H:Gb}{b o m:Nat}:MH 1 H (.ptr b o) (.GI m)=(I_ H b H[b]? o [.GI m]).map fun H'=>(.undef,H'):=Lx rfl
theorem GlE{H:Gb}{b o m e:Nat}{cs:List CV}(h:o<cs.length):I_ H b (some ⟨cs,.rw,e⟩) o [.GI m]=some (H.set b ⟨cs.set o (.GI m),.rw,e⟩):=Ro rfl h
theorem TJ{H:Gb}(p:PH H hb s L)(k:s.Ok)(hs:Ql s)(h00:s.has 0=false){starts:List Int}(hn:starts.length≤100000)(hle:∀x∈starts,x≤9223372036854775807){w:CV}(hw:LI H w starts){C:Prop}(hC:C→∀ks':List Int,(∀x∈ks',Kp s (fun a=>a∈starts) true x)→∀x∈NP ks' s.objs,s.has x=true→x∈ks'):
  ∃mb H' ks t,run P 43 [.ptr hb 0,w] H=some (.Jk [.GI mb,.i (t:Nat)],H')∧Gr H H'∧H.length≤mb∧N9 H' mb s ks∧(t=0↔ks=[])∧(∀x,x∈ks↔Kp s (fun a=>a∈starts) true x)∧(C→t≤1):=by
 obtain⟨X,hX⟩:∃X:Gb,X=H++[⟨[.ptr hb 0],.rw,0⟩]++[⟨[],.map,0⟩]++[⟨[.GI (H.length+1)],.rw,0⟩]++[⟨[.func 131 [.ptr H.length 0,.ptr (H.length+2) 0,.ptr (H.length+3) 0]],.rw,0⟩]:=⟨_,rfl⟩
 have gX:Gr H X:=by rw[hX];exact(((Gr.app H _).app' _).app' _).app' _
 have lX:X.length=H.length+4:=by rw[hX];simp
 have v:PD X hb s L (H.length+1) H.length (H.length+2) (H.length+3):=⟨p.gr gX,fun h=>by have:=p.lt _ h;omega,by rw[hX];simp,by rw[hX];simp,by rw[hX];simp,oM,oM,oM⟩
 have m:N9 X (H.length+1) s []:=⟨⟨[],by rw[hX];simp[Ka],rfl,List.nodup_nil,fun k v=>by simp⟩,fun x hx=>(by cases hx)⟩
 have rd:MF s (fun a=>a∈starts) 0 [] starts:=⟨fun x hx=>(by cases hx),fun x hx hh=>.start hx hh,fun x hx=>(by cases hx),fun a ha hh=>.inr ha,fun o ho h=>(by cases h),.inl ⟨rfl,rfl⟩,Nat.le_refl _⟩
 rw[Gi c43 _ _ sM]
 have:=@Dr;have:=@Ges;have:=@GlE;refine GH ?_
 rw[show H.length+1+1=H.length+2 from rfl,show H.length+2+1=H.length+3 from rfl,←hX]
 generalize hr:den P (.loop Gag) _ _=r
 obtain⟨E',X2,ks,t,rfl,g,m2,a4,a5,q1,q2,q3⟩:=Gez k hs h00 m v hn hle (hw.gr gX) (fun h e=>by
  obtain⟨tl,a1,a2,a3,a4⟩:=hw.pos (A7.2 h)
  have:=Gf a3
  omega) rd hC uA uA uA uA uA hr
 refine GH ?_
 exact⟨H.length+1,X2,ks,t,rfl,⟨by have:=g.len;omega,fun c hc _=>by rw[g.keep c oM oM,gX.keep c hc fun h=>h]⟩,oM,m2,q1,q2,q3⟩
end
end Go.Cs.Tryz
namespace Go.Cs.Tryz
open Go Go.Cs A
def C42:Gl:=⟨19,0,T [n 4 0] (S (B 0 (T [m 6 0,q1 7 49 6,bk 8 .leq 7 0,m 9 8,gf 9 (m 10 1),gf 9 (q1 11 130 10),gf 9 (bk 12 .eql 11 0),or 13 9 12,m 5 13] (C 5 (Q [n 4 1]) (T [m 15 0,m 16 1,q2 17 97 15 16,no 18 17,m 14 18] (I 14 (Q [n 4 5])))))) (Q [n 4 0])),[r 4]⟩
theorem c42:P 42=some C42:=by kernel_rfl
abbrev WS:Gq:=T [b 34 .lss 33 32] (S (J 34 (X 2)) (S (B 3 (T [m 35 33,m 10 35] (T [l 37 1 2,m 38 7,m 39 10,q3 40 76 37 38 39,m 36 40,ex 41 36 0,ex 42 36 1,m 11 41,m 12 42] (T [m 43 5,m 44 11,e 45 (.N8 (t 43) [t 44] [(304,"dustcart/alloc.place",335),(305,"dustcart/alloc.place",340),(306,"dustcart/alloc.place",348),(307,"dustcart/alloc.place",349),(308,"dustcart/alloc.place",353)])] (I 45 (Q [nb 4 false])))))) (R [bk 46 .add 33 1,m 33 46])))
abbrev PU:Gq:=T [b 22 .lss 21 20] (S (J 22 (X 0)) (S (B 1 (T [x 23 1 19 21,l 24 1 23,m 7 24] (T [l 26 1 2,m 27 7,q2 28 75 26 27,m 25 28,ex 29 25 0,ex 30 25 1,e 8 (.new [i 0,i 0,i 0]),st 3 8 29,m 9 30] (T [f 31 0 8,l 32 1 31,n 33 0] (B 2 (W WS)))))) (R [bk 47 .add 21 1,m 21 47])))
def C97:Gl:=⟨48,0,T [bo 2 0,nb 4 false] (T [e 13 (.NI 193 [t 2]),m 5 13] (S (T [m 14 1,q1 15 44 14,m 16 5,q2 17 194 15 16] (I 17 (Q [nb 4 false]))) (S (T [l 18 1 2,q1 19 73 18,le 20 19,n 21 0] (B 0 (W PU))) (Q [nb 4 true])))),[r 4]⟩
theorem c97:P 97=some C97:=by kernel_rfl
def Gr5:Gl:=⟨12,0,T [nb 3 false] (Q [m 4 0,bk 5 .neq 4 0,m 6 5,gt 6 (l 7 1 1),gt 6 (m 8 0),gt 6 (q2 9 50 7 8),gt 6 (no 10 9),an 11 6 10,m 3 11]),[r 3]⟩
theorem c193:P 193=some Gr5:=by kernel_rfl
end Go.Cs.Tryz
namespace Go.Cs.Tryz
open Go Go.Cs
section
variable {H : Gb} {hb : Nat} {s : Hp} {L : G6}
theorem OQ(p:PH H hb s L)(k:s.Ok){c2:Nat}(t2:H[c2]?=some ⟨[.ptr hb 0],.rw,0⟩) {x:Int} (hx:x=0∨s.has x=true):run P 193 [.i x,.ptr c2 0] H=some (.bool false,H):=by
 rw[Gi c193 _ _ sM]
 by_cases c:x=0
 ·have c':(x != 0)=false:=by rw[c];rfl
  exact W0
 ·have c':(x != 0)=true:=by simpa using c
  have hh:s.has x=true:=by
   grind
  have h1:=KP p k x (by have:=k.has_lt hh;omega)
  rw[hh]at h1
  exact W0
theorem Ghj(k:s.Ok)(hs:Ql s)(p:PH H hb s L){c2:Nat}(t2:H[c2]?=some ⟨[.ptr hb 0],.rw,0⟩) {x:Ob} (hx:x∈s.objs)
  {E0:Env} (h2:E0 2=.ptr c2 0) (h5:E0 5=.func 193 [.ptr c2 0]) (h7:E0 7=.i x.addr) (h32:E0 32=.i x.refs.length) (h33:E0 33=.i 0) {r:Option (CX×Env×Gb)} (hr:den P (.loop WS) E0 H=r):
  ∃E' H',r=some (.exit 2,E',H')∧Gr H H'∧∀t,t∉wr WS→E' t=E0 t:=by
 have Yv:=k.obj hx
 have hok:=k.ob x hx
 have hnr:=hok.nr
 have hfi:=hok.fits
 have hnb:=k.nb
 have hnw:s.nw=64*s.blk.length:=rfl
 have hre:s.refsOf (x.addr:Int)=x.refs:=by unfold Hp.refsOf;rw[Yv]
 obtain⟨x',E',H',e,-,⟨rfl,g⟩,fr⟩:=Gs (p:=P) (c:=WS) (E0:=E0) (H0:=H)
  (fun q E H'=>∃j:Nat,E 33=.i j∧j≤x.refs.length∧q=x.refs.length-j∧Gr H H')
  (fun x' E' H'=>x'=.exit 2∧Gr H H') (by
   rintro q E H' hE ⟨j,e33,hj,rfl,g⟩
   have e2:=(hE 2 dK).trans h2
   have e5:=(hE 5 dK).trans h5
   have e7:=(hE 7 dK).trans h7
   have e32:=(hE 32 dK).trans h32
   have t2':=g.get t2
   by_cases c:j<x.refs.length
   ·have c':decide ((j:Int)<(x.refs.length:Int))=true:=G7 oM
    have hr:x.refs[j]?=some x.refs[j]:=JG c
    obtain⟨X,h1,g1⟩:=KE (p.gr g) k (x.addr:Int) j oM
    rw[Hp.U7 (by rw[hre];exact hr)]at h1
    unfold Q9 at h1
    have h3:=OQ ((p.gr g).gr g1) k (g1.get t2') (hs x hx _ (JV hr))
    have w1:IntKind.i64.wrap ((j:Int)+1)=((j+1:Nat):Int):=Gh oM
    apply Gp (k':=x.refs.length-(j+1))
    ·have:=@Ja;have:=@JH;refine GH ?_
     rfl
    ·omega
    ·exact⟨j+1,uA,oM,rfl,g.trans g1⟩
   ·have c':decide ((j:Int)<(x.refs.length:Int))=false:=G5 oM
    apply Gj (x:=.exit 2)
    ·refine GH ?_
     rfl
    ·simp
    ·exact⟨rfl,g⟩) _ ⟨0,h33,oM,rfl,Keeps.refl _ _⟩
 grind
theorem Ghs(k:s.Ok)(hs:Ql s)(p:PH H hb s L){c2:Nat}(t2:H[c2]?=some ⟨[.ptr hb 0],.rw,0⟩) {w:CV} (hw:LI H w s.all)
  {E0:Env} (h2:E0 2=.ptr c2 0) (h5:E0 5=.func 193 [.ptr c2 0]) (h19:E0 19=w) (h20:E0 20=.i s.objs.length) (h21:E0 21=.i 0) {r:Option (CX×Env×Gb)} (hr:den P (.loop PU) E0 H=r):
  ∃E' H',r=some (.exit 0,E',H')∧Gr H H'∧∀t,t∉wr PU→E' t=E0 t:=by
 have few:=k.few
 obtain⟨x',E',H',e,-,⟨rfl,g⟩,fr⟩:=Gs (p:=P) (c:=PU) (E0:=E0) (H0:=H)
  (fun q E H'=>∃j:Nat,E 21=.i j∧j≤s.objs.length∧q=s.objs.length-j∧Gr H H')
  (fun x' E' H'=>x'=.exit 0∧Gr H H') (by
   rintro q E H' hE ⟨j,e21,hj,rfl,g⟩
   have e2:=(hE 2 dK).trans h2
   have e5:=(hE 5 dK).trans h5
   have e19:=(hE 19 dK).trans h19
   have e20:=(hE 20 dK).trans h20
   have t2':=g.get t2
   by_cases c:j<s.objs.length
   ·have c':decide ((j:Int)<(s.objs.length:Int))=true:=G7 oM
    have hx:s.objs[j]?=some s.objs[j]:=JG c
    obtain⟨x,hxe⟩:∃x,x=s.objs[j]:=⟨_,rfl⟩
    rw[←hxe]at hx
    have hxm:=JV hx
    have Yv:=k.obj hxm
    have hxa:s.all[j]?=some (x.addr:Int):=by simp[Hp.all,hx]
    have hfi:=(k.ob x hxm).fits
    have hnb:=k.nb
    have hnw:s.nw=64*s.blk.length:=rfl
    obtain⟨b,f,i1,i2,i3⟩:=hw.at hxa
    have AZ:=i3 H' g
    have w1:IntKind.i64.wrap ((j:Int)+1)=((j+1:Nat):Int):=Gh oM
    obtain⟨X,h1,g1⟩:=NJ (p.gr g) k (x.addr:Int) oM
    have hsv:s.JO (x.addr:Int)=(Jb x.refs.length x.data.length x.kd,0):=by unfold Hp.JO;rw[Yv]
    rw[hsv]at h1
    unfold Jb at h1
    obtain⟨X1,hX1⟩:∃X1:Gb,X1=X++[⟨[.i x.refs.length,.i x.data.length,.i x.kd],.rw,0⟩]:=⟨_,rfl⟩
    have g2:Gr X X1:=by rw[hX1];exact Gr.app _ _
    have t1:X1[X.length]?=some ⟨[.i x.refs.length,.i x.data.length,.i x.kd],.rw,0⟩:=by rw[hX1];simp
    have gg:Gr H' X1:=g1.trans g2
    suffices fin:∃E' H2,den P PU E H'=some (.normal,E',H2)∧E' 21=.i ((j+1:Nat):Int)∧Gr H' H2 by
     obtain⟨E',H2,f1,f2,f3⟩:=fin
     exact Gp f1 (k':=s.objs.length-(j+1)) oM ⟨j+1,f2,oM,rfl,g.trans f3⟩
    refine W9 e2 e19 e20 e21 c' i1 AZ t2' h1 ?_
    rw[←hX1]
    generalize hr:den P (.loop WS) _ _=r
    obtain⟨E2,X2,rfl,g3,f2⟩:=Ghj k hs ((p.gr g).gr gg) (gg.get t2') hxm (by simp[Gg,e2]) (by simp[Gg,e5]) uA uA uA hr
    have b21:=f2 21 dK
    simp only[Gg,Nat.reduceEqDiff,↓reduceIte,e21]at b21
    refine GH ?_
    exact⟨_,_,rfl,uA,gg.trans g3⟩
   ·have c':decide ((j:Int)<(s.objs.length:Int))=false:=G5 oM
    apply Gj (x:=.exit 0)
    ·refine GH ?_
     rfl
    ·simp
    ·exact⟨rfl,g⟩) _ ⟨0,h21,oM,rfl,Keeps.refl _ _⟩
 grind
theorem GhB{o:Tags}{rb:Nat}{R:Rt}{v:Nat→CV}(p:PH H hb s L)(k:s.Ok)(m:K5 o H rb R v)(kr:R.Ok)(hs:E_ s R):∃H',run P 97 [.ptr hb 0,.ptr rb 0] H=some (.bool true,H')∧Gr H H':=by
 obtain⟨X,hX⟩:∃X:Gb,X=H++[⟨[.ptr hb 0],.rw,0⟩]:=⟨_,rfl⟩
 have gX:Gr H X:=by rw[hX];exact Gr.app _ _
 have tX:X[H.length]?=some ⟨[.ptr hb 0],.rw,0⟩:=by rw[hX];simp
 obtain⟨w,X1,h1,g1,li⟩:=Ay (m.gr gX) kr
 have p1:=(p.gr gX).gr g1
 have t1:=g1.get tX
 have hvl:=kr.VJ
 have hll:=Qz R.vis
 have hc:=BK (IL.sl li) (fn:=193) oM (caps:=[.ptr H.length 0]) (p:=fun _=>false) (fun x hx=>OQ p1 k t1 (by
  obtain⟨h2,-⟩:=Rt.Li.1 (VY.1 hx)
  exact hs.2.1 x h2)) oM
 have hany:((GY R.vis).any fun _=>false)=false:=by simp
 rw[hany]at hc
 obtain⟨w2,X2,h2,g2,li2⟩:=Oq p1 k
 have hw2:=li2.len X2
 have hall:s.all.length=s.objs.length:=by simp[Hp.all]
 rw[hall]at hw2
 rw[Gi c97 _ _ sM]
 refine GH ?_
 rw[←hX]
 refine W5 h1 hc t1 h2 hw2 ?_
 generalize hr:den P (.loop PU) _ _=r
 obtain⟨E3,X3,rfl,g3,f3⟩:=Ghs k hs.1 (p1.gr g2) (g2.get t1) li2.li uA uA uA uA uA hr
 refine GH ?_
 exact⟨_,rfl,((gX.trans g1).trans g2).trans g3⟩
theorem O8{o:Tags}{rb:Nat}{R:Rt}{v:Nat→CV}(p:PH H hb s L)(k:s.Ok)(m:K5 o H rb R v)(kr:R.Ok)(hs:E_ s R):∃H',run P 42 [.ptr hb 0,.ptr rb 0] H=some (.i 0,H')∧Gr H H':=by
 have h1:=KA p k
 have h2:=ZR m kr
 obtain⟨X,h3,g⟩:=GhB p k m kr hs
 have hnb:=k.nb
 have hns:=kr.ns
 have c1:decide ((s.blk.length:Int)≤0)=false:=G5 oM
 have c2:((R.slots.length:Int)==0)=false:=UF.2 oM
 refine⟨X,?_,g⟩
 rw[Gi c42 _ _ sM]
 exact W0
end
end Go.Cs.Tryz
namespace Go.Cs.Tryz
open Go Go.Cs A
def C13:Gl:=⟨27,0,T [e 4 (.JR (c .Gc)),n 5 0,n 6 0] (S (T [m 10 0,m 11 1,q2 12 42 10 11,m 7 12] (T [m 13 7,bk 14 .neq 13 0] (I 14 (Q [m 15 7,e 4 (.JR (c .Gc)),n 5 0,m 6 15])))) (T [m 17 0,m 18 1,q1 19 44 18,q2 20 43 17 19,m 16 20,ex 21 16 0,ex 22 16 1,m 8 21,m 9 22] (Q [m 23 8,q1 24 46 23,q1 25 45 24,m 26 9,m 4 25,m 5 26,n 6 0]))),[r 4,r 5,r 6]⟩
theorem c13:P 13=some C13:=by kernel_rfl
def C45:Gl:=⟨1,0,R [e 1 (.KF 138 (t 0))],[r 1]⟩
theorem c45:P 45=some C45:=by kernel_rfl
def C46:Gl:=⟨4,0,T [bo 1 0,e 2 (.JR (c .nilFunc))] (Q [e 3 (.NI 138 [t 1]),m 2 3]),[r 2]⟩
theorem c46:P 46=some C46:=by kernel_rfl
end Go.Cs.Tryz
namespace Go.Cs.Tryz
open Go Go.Cs
section
variable {H : Gb} {hb : Nat} {s : Hp} {L : G6}
theorem Gk0{E:Env}{t u v:Nat}:fin [.tmp t,.tmp u,.tmp v] E H=some (.Jk [E t,E u,E v],H):=rfl
theorem Io(k:s.Ok){mb:Nat}{ks:List Int}(m:N9 H mb s ks):
  ∃w H' b,run P 46 [.GI mb] H=some (.func 138 [.ptr b 0],H++[⟨[.GI mb],.rw,0⟩])∧run P 45 [.func 138 [.ptr b 0]] (H++[⟨[.GI mb],.rw,0⟩])=some (w,H')∧Gr H H'∧IL H.length H' w (QN ks):=by
 obtain⟨X,hX⟩:∃X:Gb,X=H++[⟨[.GI mb],.rw,0⟩]:=⟨_,rfl⟩
 have gX:Gr H X:=by rw[hX];exact Gr.app _ _
 have tX:X[H.length]?=some ⟨[.GI mb],.rw,0⟩:=by rw[hX];simp
 have m':=m.frame (gX.keep mb m.m.lt fun h=>h)
 have WL:=m.few k
 obtain⟨w,H',h1,g1,li⟩:=m'.m.keys (b0:=H.length) (g:=138) tX (by unfold JF;omega) (fun x hx=>by
  have:=k.has_lt (m.has x hx)
  unfold Im
  grind)
 have hgl:=gX.len
 refine⟨w,H',H.length,?_,?_,gX.trans g1,li.frame (fun c h=>Gm.2 ⟨by have:=(Gm.1 h).1;omega,(Gm.1 h).2⟩) fun _ _=>rfl⟩
 ·rw[Gi c46 _ _ sM]
  have:=show∀b:Nat,cellsOf (CV.GI b)=[CV.GI b]from fun _=>rfl;exact W0
 ·rw[←hX,Gi c45 _ _ sM]
  exact V2 @Oh h1
theorem LM{o:Tags}{rb:Nat}{R:Rt}{v:Nat→CV}(p:PH H hb s L)(k:s.Ok)(m:K5 o H rb R v)(kr:R.Ok)(hs:E_ s R){C:Prop}(hC:C→∀ks':List Int,(∀x∈ks',Kpt s R x)→∀x∈NP ks' s.objs,s.has x=true→x∈ks'):
  ∃w H' l t,run P 13 [.ptr hb 0,.ptr rb 0] H=some (.Jk [w,.i (t:Nat),.i 0],H')∧Gr H H'∧LI H' w l∧ZC l∧(∀x,x∈l↔Kpt s R x)∧(t=0↔l=[])∧(C→t≤1):=by
 obtain⟨X1,h1,g1⟩:=O8 p k m kr hs
 obtain⟨w2,X2,h2,g2,li2⟩:=Ay (m.gr g1) kr
 have hvl:=kr.VJ
 have hll:=Qz R.vis
 have hmem:∀a,a∈GY R.vis↔a∈R.vals∧a≠0:=fun a=>by rw[VY,Rt.Li]
 obtain⟨mb,X3,ks,t,h3,g3,-,m3,q1,q2,q3⟩:=TJ ((p.gr g1).gr g2) k hs.1 hs.2.2.has (starts:=GY R.vis) oM (fun x hx=>by
  rcases hs.2.1 x ((hmem x).1 hx).1 with h|h
  ·omega
  ·have:=k.has_lt h;omega) li2.li (C:=C) (fun hc ks' hk=>hC hc ks' fun x hx=>(hk x hx).mono fun a h=>(hmem a).1 h)
 obtain⟨w4,X4,b,h4,h5,g4,li4⟩:=Io k m3
 refine⟨w4,X4,QN ks,t,?_,((g1.trans g2).trans g3).trans g4,li4.li,D9 m3.m.nodup,fun x=>?_,?_,q3⟩
 ·rw[Gi c13 _ _ sM]
  have:=@Gk0;exact W0
 ·rw[EJ,q2]
  exact⟨fun h=>h.mono fun a h=>(hmem a).1 h,fun h=>h.mono fun a h=>(hmem a).2 h⟩
 ·rw[q1]
  exact⟨fun h=>by rw[h];rfl,fun h=>I4 (by rw[←UW,h];rfl)⟩
theorem GdH{o:Tags}{rb:Nat}{R:Rt}{v:Nat→CV}(p:PH H hb s L)(k:s.Ok)(m:K5 o H rb R v)(kr:R.Ok)(hs:E_ s R):
  ∃w H' l t,run P 13 [.ptr hb 0,.ptr rb 0] H=some (.Jk [w,.i (t:Nat),.i 0],H')∧Gr H H'∧LI H' w l∧ZC l∧(∀x,x∈l↔Kpt s R x)∧(t=0↔l=[]):=by
 obtain⟨w,H',l,t,h1,h2,h3,h4,h5,h6,-⟩:=LM p k m kr hs (C:=False) (fun h=>h.elim)
 grind
end
end Go.Cs.Tryz

namespace Go.Cs
open Go
def Geh(f:Int→Option CV)(n:Int):Int→Option CV:=fun k=>if k=n then none else f k
theorem NQ.del{H:Gb}{b:Nat}{f:Int→Option CV}{ks:List Int}(m:NQ H b f ks)(n:Int):∃H' ks',VQ .i64 (.GI b) (.i n) H=some (.Jk [],H')∧Keeps H H' (·=b)∧NQ H' b (Geh f n) ks'∧H'.length=H.length:=by
 have hmem:=m.mem (n:=n)
 obtain⟨l,h1,h0,h2,h3,h4⟩:=m.entries
 cases e:f n with
 |none=>
  have hf:=Y_ (n:=n) (l:=l) (i:=0) fun w hw=>by rw[(h4 n w).1 hw]at e;cases e
  refine⟨H.set b ⟨Ka l,.map,0⟩,ks,?_,Keeps.set (w:=fun c=>c=b) (Keeps.refl H _) (.inl rfl) _,⟨l,by grind,h2,h3,fun k w=>?_⟩,sM⟩
  ·unfold VQ Qk
   dsimp only
   rw[if_pos rfl,h0,Option.bind_some,hf,Option.bind_some]
   dsimp only
   unfold Jy
   rw[h1]
   dsimp only
   rw[if_pos ⟨rfl,rfl,(Us l).2⟩]
   rfl
  ·rw[h4]
   unfold Geh
   grind
 |some w0=>
  obtain⟨j,q1,q2⟩:=YK (i:=0) (by rw[h2];exact h3) ((h4 n w0).2 e)
  rw[Nat.zero_add]at q2
  have hj:=Gf q1
  have hks:ks[j]?=some n:=by rw[←h2,K4,q1];rfl
  refine⟨H.set b ⟨Ka (l.eraseIdx j),.map,0⟩,ks.eraseIdx j,?_,Keeps.set (w:=fun c=>c=b) (Keeps.refl H _) (.inl rfl) _,⟨l.eraseIdx j,by grind,?_,h3.sublist (List.eraseIdx_sublist _ _),fun k w=>?_⟩,sM⟩
  ·unfold VQ Qk
   dsimp only
   rw[if_pos rfl,h0,Option.bind_some,q2,Option.bind_some]
   dsimp only
   unfold Jy
   rw[h1]
   dsimp only
   rw[if_pos ⟨rfl,rfl,(Us l).2⟩]
   simp[Ka,AO]
  ·rw[←AO,h2]
  ·rw[List.mem_eraseIdx_iff_getElem?]
   unfold Geh
   constructor
   ·rintro ⟨i,hi,e2⟩
    have hk:k≠n:=by
     rintro rfl
     have e1:ks[i]?=some k:=by rw[←h2,K4,e2];rfl
     exact hi ((List.getElem?_inj (Gf e1) h3).1 (e1.trans hks.symm))
    grind
   ·intro h
    split at h
    ·cases h
    ·rename_i c
     obtain⟨i,hi⟩:=List.mem_iff_getElem?.1 ((h4 k w).2 h)
     grind
structure Vo(o:Tags)(H:Gb)(o':Tags)(H':Gb):Prop where
 len:H.length≤H'.length
 keep:∀c,c<H.length→o c=none→H'[c]?=H[c]?
 own:∀c,c<H.length→o' c≠none→o c≠none
theorem Vo.trans{o o' o'':Tags}{H H' BP:Gb}(a:Vo o H o' H')(b:Vo o' H' o'' BP):Vo o H o'' BP where
 len:=Jm a.len b.len
 keep:=fun c h hn=>by rw[b.keep c (JI h a.len) (Jg fun h2=>a.own c h h2 hn),a.keep c h hn]
 own:=fun c h h2=>a.own c h (b.own c (JI h a.len) h2)
theorem Vo.gr{o:Tags}{H H':Gb}(g:Gr H H'):Vo o H o H':=⟨g.len,fun c h _=>g.keep c h fun h=>h,fun _ _ h=>h⟩
def Ta(o:Tags)(H:Gb)(f:Int→Option CV)(wf:Int→List Int)(key:Int):Prop:=
 (f key=none∧wf key=[])∨∃v,f key=some v∧0≤key∧(wf key).length≤100000∧At o (1,key.toNat,0) H v 1 (wf key).length (ints (wf key))
structure Yc(o:Tags)(H:Gb)(hb:Nat)(s:Hp)(L:G6)(wb mk mw:Nat)(ks:List Int)(wf:Int→List Int)(nt:Nat):Prop where
 p:PH H hb s L
 free:∀c∈L.all hb,o c=none
 dom:∀c t,o c=some t→c<H.length
 ow:o wb=some (0,0,0)
 ok:o mk=some (0,2,0)
 om:o mw=some (0,3,0)
 PE:N9 H mk s ks
 ex:∃lv f wks,H[wb]?=some ⟨[.ptr hb 0,.GI mk,.GI mw,lv,.i nt],.rw,0⟩∧At o (0,1,0) H lv 1 ks.length (ints ks)∧NQ H mw f wks∧∀key,Ta o H f wf key
theorem Ta.frame{o o':Tags}{H H':Gb}{f:Int→Option CV}{wf:Int→List Int}{key:Int}(h:Ta o H f wf key)(ho:∀c,o c=some (1,key.toNat,0)→o' c=some (1,key.toNat,0))(hf:∀c,o c=some (1,key.toNat,0)→H'[c]?=H[c]?):Ta o' H' f wf key:=by
 rcases h with h|⟨v,h1,h2,h3,h4⟩
 ·exact .inl h
 ·exact .inr ⟨v,h1,h2,h3,h4.frame ho hf⟩
theorem Yc.gr{o:Tags}{H H':Gb}{hb:Nat}{s:Hp}{L:G6}{wb mk mw:Nat}{ks:List Int}{wf:Int→List Int}{nt:Nat}(m:Yc o H hb s L wb mk mw ks wf nt)(g:Gr H H'):Yc o H' hb s L wb mk mw ks wf nt:=by
 obtain⟨lv,f,wks,h1,h2,h3,h4⟩:=m.ex
 exact⟨m.p.gr g,m.free,fun c t h=>JI (m.dom c t h) g.len,m.ow,m.ok,m.om,m.PE.frame (g.keep _ (m.dom _ _ m.ok) fun h=>h),lv,f,wks,g.get h1,At.keeps h2 g,h3.frame (g.keep _ (m.dom _ _ m.om) fun h=>h),fun key=>(h4 key).frame (fun _ h=>h) fun c h=>g.keep c (m.dom c _ h) fun h=>h⟩
end Go.Cs

namespace Go.Cs
open Go
def VI(wf:Int→List Int)(a:Int):Int→List Int:=fun k=>if k=a then []else wf k
structure LH(s:Hp)(ar:Int→Prop)(ks:List Int)(wf:Int→List Int)(ks':List Int)(wf':Int→List Int):Prop where
 pre:ks<+:ks'
 got:∀a,ar a→s.has a=true→a∈ks'
 wt:∀key x,x∈wf key→(key∉ks'∧x∈wf' key)∨(key∈ks'∧(s.has x=true→x∈ks'))
 no:∀key,key∈ks'→wf' key=[]
 sub:∀key x,x∈wf' key→x∈wf key
 ln:∀key,(wf' key).length≤(wf key).length
 kp:∀K:Int→Prop,(∀a,ar a→s.has a=true→K a)→(∀x∈ks,K x)→(∀key x,x∈wf key→K key→s.has x=true→K x)→∀x∈ks',K x
theorem LH.refl{s:Hp}{ks:List Int}{wf:Int→List Int}(h:∀key,key∈ks→wf key=[]):LH s (fun _=>False) ks wf ks wf where
 pre:=List.prefix_refl _
 got:=fun a h=>h.elim
 wt:=fun key x hx=>.inl ⟨fun hk=>(by rw[h key hk]at hx;cases hx),hx⟩
 no:=h
 sub:=fun _ _ h=>h
 ln:=fun _=>Nat.le_refl _
 kp:=fun K _ h _=>h
theorem LH.trans{s:Hp}{ar br:Int→Prop}{k l m:List Int}{f g h:Int→List Int}(a:LH s ar k f l g)(b:LH s br l g m h):LH s (fun x=>ar x∨br x) k f m h where
 pre:=a.pre.trans b.pre
 got:=fun x hx hh=>by
  rcases hx with hx|hx
  ·exact b.pre.subset (a.got x hx hh)
  ·exact b.got x hx hh
 wt:=fun key x hx=>by
  rcases a.wt key x hx with⟨h1,h2⟩|⟨h1,h2⟩
  ·exact b.wt key x h2
  ·exact .inr ⟨b.pre.subset h1,fun hh=>b.pre.subset (h2 hh)⟩
 no:=b.no
 sub:=fun key x hx=>a.sub key x (b.sub key x hx)
 ln:=fun key=>Jm (b.ln key) (a.ln key)
 kp:=fun K h1 h2 h3=>b.kp K (fun x hx=>h1 x (.inr hx)) (a.kp K (fun x hx=>h1 x (.inl hx)) h2 h3) fun key x hx=>h3 key x (a.sub key x hx)
theorem LH.weaken{s:Hp}{ar br:Int→Prop}{k l:List Int}{f g:Int→List Int}(a:LH s ar k f l g)(e:∀x,br x↔ar x):LH s br k f l g:=
 ⟨a.pre,fun x hx=>a.got x ((e x).1 hx),a.wt,a.no,a.sub,a.ln,fun K h1=>a.kp K fun x hx=>h1 x ((e x).2 hx)⟩
theorem LH.mark{s:Hp}{a:Int}{ks ks':List Int}{wf wf':Int→List Int}(ha:s.has a=true)(h:LH s (fun x=>x∈wf a) (ks++[a]) (VI wf a) ks' wf'):LH s (fun x=>x=a) ks wf ks' wf' where
 pre:=(List.prefix_append _ _).trans h.pre
 got:=fun x hx _=>by subst hx;exact h.pre.subset sM
 wt:=fun key x hx=>by
  by_cases c:key=a
  ·subst c
   exact .inr ⟨h.pre.subset sM,fun hh=>h.got x hx hh⟩
  ·exact h.wt key x (by unfold VI;rw[if_neg c];exact hx)
 no:=h.no
 sub:=fun key x hx=>by
  have:=h.sub key x hx
  unfold VI at this
  grind
 ln:=fun key=>by
  have:=h.ln key
  unfold VI at this
  grind
 kp:=fun K h1 h2 h3=>by
  have ka:=h1 a rfl ha
  refine h.kp K (fun x hx hh=>h3 a x hx ka hh) (fun x hx=>?_) fun key x hx=>h3 key x ?_
  ·grind
  ·unfold VI at hx
   grind
end Go.Cs
namespace Go.Cs.Tryz
open Go Go.Cs
section
variable {H : Gb} {hb : Nat} {s : Hp} {L : G6} {wb mk mw : Nat} {ks : List Int} {wf : Int → List Int} {nt : Nat} {o : Tags}
theorem GkY(m:Yc o H hb s L wb mk mw ks wf nt)(k:s.Ok){a:Int}(ha:s.has a=true)(hn:a∉ks):
  ∃(H1 H2 H3 H5:Gb)(lv lv2 ws:CV)(o':Tags),
   UE .i64 (.GI mk) (.i a) (.bool true) H=some (.undef,H1)∧H1[wb]?=some ⟨[.ptr hb 0,.GI mk,.GI mw,lv,.i nt],.rw,0⟩∧
   Jq (H1++[⟨[.i a],.rw,1⟩]) 1 lv 1 [.i a]=some (lv2,H2)∧leaf lv2=true∧H2[wb]?=some ⟨[.ptr hb 0,.GI mk,.GI mw,lv,.i nt],.rw,0⟩∧
   H3=H2.set wb ⟨[.ptr hb 0,.GI mk,.GI mw,lv2,.i nt],.rw,0⟩∧H3[wb]?=some ⟨[.ptr hb 0,.GI mk,.GI mw,lv2,.i nt],.rw,0⟩∧
   Uv false .i64 .Gc (.GI mw) (.i a) H3=some (ws,H3)∧VQ .i64 (.GI mw) (.i a) H3=some (.Jk [],H5)∧
   Yc o' H5 hb s L wb mk mw (ks++[a]) (VI wf a) nt∧Vo o H o' H5∧LI H5 ws (wf a)∧(wf a≠[]→o' (Gn ws)=none)∧(wf a).length≤100000:=by
 obtain⟨lv,f,wks,b1,b2,b3,b4⟩:=m.ex
 have WL:=m.PE.few k
 obtain⟨H1,h1,g1,ks1,e1⟩:=m.PE.add ha hn
 have n1:wb≠mk:=fun h=>by have h1:=m.ow;rw[h,m.ok]at h1;simp at h1
 have n2:mw≠mk:=fun h=>by have h1:=m.om;rw[h,m.ok]at h1;simp at h1
 have n3:wb≠mw:=fun h=>by have h1:=m.ow;rw[h,m.om]at h1;simp at h1
 have hwb:=m.dom _ _ m.ow
 have hmk:=m.dom _ _ m.ok
 have hmw:=m.dom _ _ m.om
 have t1:H1[wb]?=_:=(g1.keep wb hwb n1).trans b1
 obtain⟨Y,hY⟩:∃Y:Gb,Y=H1++[⟨[.i a],.rw,1⟩]:=⟨_,rfl⟩
 have gY:Gr H1 Y:=by rw[hY];exact Gr.app _ _
 have lY:Y.length=H.length+1:=by rw[hY];simp[e1]
 have b2':At o (0,1,0) Y lv 1 ks.length (ints ks):=b2.frame (fun _ h=>h) fun c h=>by
  have hc:=m.dom c _ h
  rw[gY.keep c oM fun h=>h,g1.keep c hc fun e=>by rw[e,m.ok]at h;simp at h]
 obtain⟨H2,a1,a2,a3,a4⟩:=At.append b2' (k:=1) (new:=[.i a]) oM (by unfold JF;omega) (by simp[Jo]) rfl
 have k2:∀c,c<H.length→o c≠some (0,1,0)→c≠mk→H2[c]?=H[c]?:=fun c hc hn hm=>by
  rw[a4 c oM hn,gY.keep c oM fun h=>h,g1.keep c hc hm]
 have t2:H2[wb]?=_:=(k2 wb hwb (by rw[m.ow];simp) n1).trans b1
 obtain⟨H3,hH3⟩:∃H3:Gb,H3=H2.set wb ⟨[.ptr hb 0,.GI mk,.GI mw,.slice Y.length 0 (ks.length+1) (ks.length+1) 1 true,.i nt],.rw,0⟩:=⟨_,rfl⟩
 have l3:H3.length=Y.length+1:=by rw[hH3,List.length_set,a2]
 have t3:H3[wb]?=some ⟨[.ptr hb 0,.GI mk,.GI mw,.slice Y.length 0 (ks.length+1) (ks.length+1) 1 true,.i nt],.rw,0⟩:=by grind
 have k3:∀c,c<H.length→o c≠some (0,1,0)→c≠mk→c≠wb→H3[c]?=H[c]?:=fun c hc hn hm hw=>by
  grind
 have m3:NQ H3 mw f wks:=b3.frame (k3 mw hmw (by rw[m.om];simp) n2 (Ne.symm n3))
 have hget:=m3.get false .Gc a
 obtain⟨H5,Gqj,d1,d2,d3,d4⟩:=m3.del a
 have k5:∀c,c<H.length→o c≠some (0,1,0)→c≠mk→c≠wb→c≠mw→H5[c]?=H[c]?:=fun c hc hn hm hw hx=>by
  rw[d2.keep c oM hx,k3 c hc hn hm hw]
 have kl:H5[Y.length]?=some ⟨ints ks++[.i a],.rw,1⟩:=by
  rw[d2.keep _ oM oM,hH3,NA oM,a3]
 have t5:H5[wb]?=some ⟨[.ptr hb 0,.GI mk,.GI mw,.slice Y.length 0 (ks.length+1) (ks.length+1) 1 true,.i nt],.rw,0⟩:=by
  rw[d2.keep wb oM n3,t3]
 have ks5:N9 H5 mk s (ks++[a]):=ks1.frame (by
  rw[d2.keep mk oM (Ne.symm n2),hH3,NA n1,a4 mk oM (by rw[m.ok];simp),gY.keep mk oM fun h=>h])
 obtain⟨o',ho'⟩:∃o':Tags,o'=fun c=>if c=Y.length then some (0,1,0)else if o c=some (1,a.toNat,0)then none else o c:=⟨_,rfl⟩
 have old:∀c t,o c=some t→t≠(1,a.toNat,0)→o' c=some t:=fun c t h hne=>by
  have:=m.dom c t h
  grind
 have new:∀c t,o' c=some t→c=Y.length∨(o c=some t∧t≠(1,a.toNat,0)):=fun c t h=>by
  grind
 have GnG:∀c t,o c=some t→t≠(0,1,0)→t≠(0,0,0)→t≠(0,2,0)→t≠(0,3,0)→H5[c]?=H[c]?:=fun c t h x1 x2 x3 x4=>
  k5 c (m.dom c t h) (by rw[h];simpa using x1) (fun e=>by rw[e,m.ok]at h;grind) (fun e=>by rw[e,m.ow]at h;simp only[GA]at h;exact x2 h.symm) (fun e=>by rw[e,m.om]at h;simp only[GA]at h;exact x4 h.symm)
 have Gvl:H5.length=H.length+2:=by omega
 have nonneg:=k.has_lt ha
 refine⟨H1,H2,H3,H5,lv,_,_,o',h1,t1,by rw[←hY];exact a1,rfl,t2,hH3,t3,hget,d1,?_,?_,?_,?_,?_⟩
 ·refine⟨m.p.frame fun c hc=>?_,fun c hc=>?_,fun c t h=>?_,old _ _ m.ow sM,old _ _ m.ok sM,old _ _ m.om sM,ks5,_,_,Gqj,t5,?_,d3,fun key=>?_⟩
  ·have hf:=m.free c hc
   exact k5 c (m.p.lt c hc) (by rw[hf];simp) (fun e=>by rw[e,m.ok]at hf;cases hf) (fun e=>by rw[e,m.ow]at hf;cases hf) (fun e=>by rw[e,m.om]at hf;cases hf)
  ·have hf:=m.free c hc
   have:=m.p.lt c hc
   grind
  ·rcases new c t h with h|h
   ·omega
   ·have:=m.dom c t h.1;omega
  ·refine .inr ⟨Y.length,true,sM,by rw[ho'];simp,?_,by simp[ints]⟩
   rw[kl,Vg];rfl
  ·by_cases c:key=a
   ·left
    exact⟨by unfold Geh;rw[if_pos c],by unfold VI;rw[if_pos c]⟩
   ·rcases b4 key with⟨q1,q2⟩|⟨v,q1,q2,q3,q4⟩
    ·left
     exact⟨by unfold Geh;rw[if_neg c,q1],by unfold VI;rw[if_neg c,q2]⟩
    ·right
     have hne:((1,key.toNat,0):Nat×Nat×Nat)≠(1,a.toNat,0):=fun h=>by
      grind
     have e:VI wf a key=wf key:=by unfold VI;rw[if_neg c]
     rw[e]
     exact⟨v,by unfold Geh;rw[if_neg c,q1],q2,q3,q4.frame (fun c h=>old c _ h hne) fun c h=>GnG c _ h sM sM sM sM⟩
 ·refine⟨oM,fun c hc h=>k5 c hc (by rw[h];simp) (fun e=>by rw[e,m.ok]at h;cases h) (fun e=>by rw[e,m.ow]at h;cases h) (fun e=>by rw[e,m.om]at h;cases h),fun c hc h=>?_⟩
  grind
 ·rcases b4 a with⟨q1,q2⟩|⟨v,q1,q2,q3,q4⟩
  ·rw[q1,q2]
   exact .inl ⟨rfl,rfl,.inl rfl⟩
  ·rw[q1]
   exact At.il (q4.frame (fun _ h=>h) fun c h=>GnG c _ h sM sM sM sM)
 ·intro hne
  rcases b4 a with⟨q1,q2⟩|⟨v,q1,q2,q3,q4⟩
  ·exact absurd q2 hne
  ·rw[q1]
   show o' (Gn v)=none
   obtain⟨tl,x1,x2,x3,x4⟩:=q4.pos (A7.2 hne)
   grind
 ·rcases b4 a with⟨q1,q2⟩|⟨v,q1,q2,q3,q4⟩
  ·rw[q2];simp
  ·exact q3
end
end Go.Cs.Tryz
namespace Go.Cs.Tryz
open Go Go.Cs A
abbrev GcL:Gq:=T [b 51 .lss 50 49] (S (J 51 (X 0)) (S (B 1 (T [x 52 1 48 50,l 53 1 52,m 6 53] (R [m 54 0,m 55 6,q2 56 47 54 55]))) (R [bk 57 .add 50 1,m 50 57])))
def C47:Gl:=⟨58,0,S (T [m 7 0,z 8 7,f 9 0 8,l 10 1 9,m 11 1,q2 12 50 10 11,no 13 12,m 14 13,gf 14 (m 15 0),gf 14 (z 16 15),gf 14 (f 17 1 16),gf 14 (l 18 1 17),gf 14 (m 19 1),gf 14 (e 20 (.Qg false .i64 (.bool false) (t 18) (t 19))),or 21 14 20] (I 21 .ret)) (T [m 22 0,z 23 22,f 24 1 23,l 25 1 24,m 26 1,u (.Uj .i64 (t 25) (t 26) (c (.bool true)))] (T [m 27 0,m 28 0,z 29 28,f 30 3 29,l 31 1 30,m 32 1,e 33 (.buildSlice 1 [i 0] 1 [(0,1,t 32)]),ap 34 1 31 33,z 35 27,f 36 3 35,st 1 36 34] (T [m 37 0,z 38 37,f 39 2 38,l 40 1 39,m 41 1,e 42 (.Qg false .i64 .Gc (t 40) (t 41)),m 4 42] (T [m 43 0,z 44 43,f 45 2 44,l 46 1 45,m 47 1,u (.Yf .i64 (t 46) (t 47))] (T [m 48 4,le 49 48,n 50 0] (B 0 (W GcL))))))),[]⟩
theorem c47:P 47=some C47:=by kernel_rfl
end Go.Cs.Tryz
namespace Go.Cs.Tryz
open Go Go.Cs
section
variable {hb : Nat} {s : Hp} {L : G6} {wb mk mw : Nat} {nt : Nat}
def Z0(s:Hp)(hb:Nat)(L:G6)(wb mk mw nt:Nat)(ar:Int→Prop)(o:Tags)(H:Gb)(ks:List Int)(wf:Int→List Int)(H':Gb):Prop:=
 ∃o' ks' wf',Yc o' H' hb s L wb mk mw ks' wf' nt∧Vo o H o' H'∧LH s ar ks wf ks' wf'
structure WOk(nt:Nat)(ks:List Int)(wf:Int→List Int):Prop where
 no:∀key,key∈ks→wf key=[]
 ln:∀key,(wf key).length≤nt
 le:∀key x,x∈wf key→x≤9223372036854775807
theorem WOk.next{ks ks':List Int}{wf wf':Int→List Int}{ar:Int→Prop}(h:WOk nt ks wf)(r:LH s ar ks wf ks' wf'):WOk nt ks' wf':=⟨r.no,fun key=>Jm (r.ln key) (h.ln key),fun key x hx=>h.le key x (r.sub key x hx)⟩
theorem GhG(k:s.Ok){n:Nat}
  (ih:∀(o:Tags)(H:Gb)(ks:List Int)(wf:Int→List Int)(a:Int),4097≤n+ks.length→Yc o H hb s L wb mk mw ks wf nt→WOk nt ks wf→a≤9223372036854775807→
   ∃H',run P 47 [.ptr wb 0,.i a] H=some (.Jk [],H')∧Z0 s hb L wb mk mw nt (fun x=>x=a) o H ks wf H')
  {o:Tags} {H:Gb} {ks:List Int} {wf:Int→List Int} (hn:4097≤n+ks.length) (m:Yc o H hb s L wb mk mw ks wf nt) (wk:WOk nt ks wf) {l:List Int} (hl:l.length≤100000) (hle:∀x∈l,x≤9223372036854775807) {w:CV} (hw:LI H w l) (hwo:l≠[]→o (Gn w)=none)
  {E0:Env} (h0:E0 0=.ptr wb 0) (h48:E0 48=w) (h49:E0 49=.i l.length) (h50:E0 50=.i 0) {r:Option (CX×Env×Gb)} (hr:den P (.loop GcL) E0 H=r):
  ∃E' H',r=some (.exit 0,E',H')∧Z0 s hb L wb mk mw nt (fun x=>x∈l) o H ks wf H':=by
 obtain⟨x',E',H',e,-,⟨rfl,q⟩,fr⟩:=Gs (p:=P) (c:=GcL) (E0:=E0) (H0:=H)
  (fun q E H'=>∃j:Nat,E 50=.i j∧j≤l.length∧q=l.length-j∧Z0 s hb L wb mk mw nt (fun x=>x∈l.take j) o H ks wf H')
  (fun x' E' H'=>x'=.exit 0∧Z0 s hb L wb mk mw nt (fun x=>x∈l) o H ks wf H') (by
   rintro q E H' hE ⟨j,e50,hj,rfl,o',ks',wf',m',g,rc⟩
   have e0:=(hE 0 dK).trans h0
   have e48:=(hE 48 dK).trans h48
   have e49:=(hE 49 dK).trans h49
   by_cases c:j<l.length
   ·have c':decide ((j:Int)<(l.length:Int))=true:=G7 oM
    obtain⟨x,hx⟩:∃x,l[j]?=some x:=⟨_,JG c⟩
    have IC:=hwo (fun h=>by rw[h]at c;exact absurd c sM)
    obtain⟨tl,a1,a2,a3,a4⟩:=hw.pos oM
    have Pp:H'[Gn w]?=H[Gn w]?:=g.keep _ (Gf a3) IC
    have ix:∀X,JU 1 w (.i j) X=some (.ptr (Gn w) j,X):=fun X=>by
     rw[a1];exact(if_pos oM).trans (by simp[Gn])
    have l1:ld H'[Gn w]? j=some (.i x):=by rw[Pp,a3,Qm];simp[ints,hx]
    have hpl:=rc.pre.length_le
    obtain⟨H2,r1,o2,ZE,wf2,m2,g2,rc2⟩:=ih o' H' ks' wf' x oM m' (wk.next rc) (hle x (JV hx))
    have w1:IntKind.i64.wrap ((j:Int)+1)=((j+1:Nat):Int):=Gh oM
    apply Gp (k':=l.length-(j+1))
    ·refine W9 e0 e48 e49 e50 c' ix l1 r1 w1 ?_
     rfl
    ·omega
    ·refine⟨j+1,uA,oM,rfl,o2,ZE,wf2,m2,g.trans g2,(rc.trans rc2).weaken fun b=>?_⟩
     rw[QV,hx,Yu,NV,Bz]
   ·have c':decide ((j:Int)<(l.length:Int))=false:=G5 oM
    rw[QA oM]at rc
    apply Gj (x:=.exit 0)
    ·refine GH ?_
     rfl
    ·simp
    ·exact⟨rfl,o',ks',wf',m',g,rc⟩) _ ⟨0,h50,oM,rfl,o,ks,wf,m,Vo.gr (Keeps.refl _ _),(LH.refl wk.no).weaken fun b=>by simp⟩
 exact⟨E',H',hr.symm.trans e,q⟩
theorem YZ(k:s.Ok):∀(n:Nat)(o:Tags)(H:Gb)(ks:List Int)(wf:Int→List Int)(a:Int),4097≤n+ks.length→Yc o H hb s L wb mk mw ks wf nt→WOk nt ks wf→a≤9223372036854775807→
   ∃H',run P 47 [.ptr wb 0,.i a] H=some (.Jk [],H')∧Z0 s hb L wb mk mw nt (fun x=>x=a) o H ks wf H'
 |0,o,H,ks,wf,a,hn,m,wk,ha=>by have:=m.PE.few k;omega
 |n+1,o,H,ks,wf,a,hn,m,wk,ha=>by
  obtain⟨lv,f,wks,b1,b2,b3,b4⟩:=m.ex
  have hh:=KP m.p k a ha
  have hg:=m.PE.get a
  have triv:(s.has a=true→a∈ks)→Z0 s hb L wb mk mw nt (fun x=>x=a) o H ks wf H:=fun h=>⟨o,ks,wf,m,Vo.gr (Keeps.refl _ _),List.prefix_refl _,fun x hx h2=>by rw[hx]at h2⊢;exact h h2,(LH.refl (s:=s) wk.no).wt,wk.no,fun _ _ h=>h,fun _=>Nat.le_refl _,fun K _ h _=>h⟩
  rw[Gi c47 _ _ sM]
  cases ch:s.has a with
  |false=>
   rw[ch]at hh
   refine⟨H,?_,triv fun h=>by rw[ch]at h;cases h⟩
   exact W0
  |true=>
   rw[ch]at hh
   by_cases c:a∈ks
   ·rw[G7 c]at hg
    refine⟨H,?_,triv fun _=>c⟩
    have:=@Jz;exact W0
   ·rw[G5 c]at hg
    obtain⟨H1,H2,H3,H5,lv1,lv2,ws,o',q1,q2,q3,q4,q5,q6,q7,q8,q9,q10,q11,q12,q13,q14⟩:=GkY m k ch c
    have hwl:=q12.len H5
    have hel:elems (H1++[⟨[.i a],.rw,1⟩]) 1 (.slice H1.length 0 1 1 1 false)=some (1,[.i a]):=by
     rw[J7 oM]
     have:=@Kc;exact W0
    have:=@Jz;have:=@Ue;refine GH ?_
    rw[←q6]
    refine W6 q7 @Jz q8 @MU q9 hwl ?_
    generalize hr:den P (.loop GcL) _ _=r
    have wk':WOk nt (ks++[a]) (VI wf a):=⟨fun key hk=>by
     unfold VI
     split
     ·rfl
     ·rename_i hc
      rw[NV,Bz]at hk
      rcases hk with hk|hk
      ·exact wk.no key hk
      ·exact absurd hk hc,fun key=>by
     unfold VI
     split
     ·simp
     ·exact wk.ln key,fun key x hx=>by
     unfold VI at hx
     split at hx
     ·cases hx
     ·exact wk.le key x hx⟩
    obtain⟨E',H6,rfl,o6,ks6,wf6,m6,g6,rc6⟩:=GhG k (YZ k n) (by rw[QU];simp;omega) q10 wk' q14 (wk.le a) q12 q13 uA uA uA uA hr
    refine GH ?_
    exact⟨H6,rfl,o6,ks6,wf6,m6,q11.trans g6,LH.mark ch rc6⟩
end
end Go.Cs.Tryz
namespace Go.Cs.Tryz
open Go Go.Cs A
abbrev XV:Gq:=T [b 18 .lss 17 16] (S (J 18 (X 0)) (S (B 1 (T [x 19 1 15 17,l 20 1 19,m 5 20] (R [m 21 0,m 22 5,q2 23 47 21 22]))) (R [bk 24 .add 17 1,m 17 24])))
def C48:Gl:=⟨84,0,S (T [m 10 0,z 11 10,f 12 0 11,l 13 1 12,m 14 1,q2 15 132 13 14,le 16 15,n 17 0] (B 0 (W XV))) (S (T [m 25 0,z 26 25,f 27 0 26,l 28 1 27,m 29 1,q2 30 133 28 29,bk 31 .neq 30 2] (I 31 .ret)) (T [m 33 0,z 34 33,f 35 0 34,l 36 1 35,m 37 1,ca 38 76 [t 36,t 37,k 0],m 32 38,ex 39 32 0,ex 40 32 1,m 6 39,m 7 40] (T [m 42 0,z 43 42,f 44 0 43,l 45 1 44,m 46 1,ca 47 76 [t 45,t 46,k 1],m 41 47,ex 48 41 0,ex 49 41 1,m 8 48,m 9 49] (B 2 (T [m 72 6,bk 73 .eql 72 0,m 71 73] (J 71 (T [m 75 0,z 76 75,f 77 1 76,l 78 1 77,m 79 6,e 80 (.Qg false .i64 (.bool false) (t 78) (t 79)),m 74 80] (C 74 (R [m 81 0,m 82 8,q2 83 47 81 82]) (S (D [⟨m 55 0,5,0,0⟩,⟨z 56 55,6,0,0⟩,⟨f 57 2 56,7,0,0⟩,⟨l 58 1 57,8,1,0⟩,⟨m 59 6,9,0,0⟩,⟨e 60 (.Qg false .i64 .Gc (t 58) (t 59)),10,1,0⟩,⟨m 61 8,11,0,0⟩,⟨e 62 (.buildSlice 1 [i 0] 1 [(0,1,t 61)]),12,0,0⟩,⟨ap 63 1 60 62,13,3,0⟩,⟨m 50 0,0,0,0⟩,⟨z 51 50,1,0,0⟩,⟨f 52 2 51,2,0,0⟩,⟨l 53 1 52,3,1,0⟩,⟨m 54 6,4,0,0⟩,⟨u (.Uj .i64 (t 53) (t 54) (t 63)),14,3,1⟩]) (R [m 64 0,z 65 64,f 66 4 65,l 67 1 66,bk 68 .add 67 1,z 69 64,f 70 4 69,st 1 70 68])))))))))),[]⟩
theorem c48:P 48=some C48:=by kernel_rfl
end Go.Cs.Tryz
namespace Go.Cs
open Go
def F5(wf:Int→List Int)(key val:Int):Int→List Int:=fun k=>if k=key then wf k++[val]else wf k
end Go.Cs
namespace Go.Cs.Tryz
open Go Go.Cs
section
variable {hb : Nat} {s : Hp} {L : G6} {wb mk mw : Nat} {nt : Nat} {ks : List Int} {wf : Int → List Int} {o : Tags} {H : Gb}
theorem Glx(m:Yc o H hb s L wb mk mw ks wf nt)(k:s.Ok){key val:Int}(hk:s.has key=true)(hl:(wf key).length<100000):
  ∃(X2 X3:Gb)(v lv lv2:CV)(o':Tags),
   AV false .i64 .Gc (.GI mw) (.i key) H=okV v∧(∀Y:Gb,Y[mw]?=H[mw]?→AV false .i64 .Gc (.GI mw) (.i key) Y=okV v)∧Jq (H++[⟨[.i val],.rw,1⟩]) 1 v 1 [.i val]=some (lv2,X2)∧X2[wb]?=some ⟨[.ptr hb 0,.GI mk,.GI mw,lv,.i nt],.rw,0⟩∧H[wb]?=some ⟨[.ptr hb 0,.GI mk,.GI mw,lv,.i nt],.rw,0⟩∧
   UE .i64 (.GI mw) (.i key) lv2 X2=some (.undef,X3)∧X3[wb]?=some ⟨[.ptr hb 0,.GI mk,.GI mw,lv,.i nt],.rw,0⟩∧
   Yc o' (X3.set wb ⟨[.ptr hb 0,.GI mk,.GI mw,lv,.i (nt+1:Nat)],.rw,0⟩) hb s L wb mk mw ks (F5 wf key val) (nt+1)∧Vo o H o' (X3.set wb ⟨[.ptr hb 0,.GI mk,.GI mw,lv,.i (nt+1:Nat)],.rw,0⟩):=by
 obtain⟨lv,f,wks,b1,b2,b3,b4⟩:=m.ex
 have hnn:=k.has_lt hk
 have n1:wb≠mk:=fun h=>by have h1:=m.ow;rw[h,m.ok]at h1;simp at h1
 have n2:mw≠mk:=fun h=>by have h1:=m.om;rw[h,m.ok]at h1;simp at h1
 have n3:wb≠mw:=fun h=>by have h1:=m.ow;rw[h,m.om]at h1;simp at h1
 have hwb:=m.dom _ _ m.ow
 have hmk:=m.dom _ _ m.ok
 have hmw:=m.dom _ _ m.om
 obtain⟨v,hv,hat⟩:∃v,Giu false .Gc (f key)=v∧At o (1,key.toNat,0) H v 1 (wf key).length (ints (wf key)):=by
  rcases b4 key with⟨q1,q2⟩|⟨v,q1,q2,q3,q4⟩
  ·exact⟨.Gc,by rw[q1];rfl,by rw[q2];exact .inl ⟨rfl,rfl,.inl rfl⟩⟩
  ·exact⟨v,by rw[q1];rfl,q4⟩
 have hget:AV false .i64 .Gc (.GI mw) (.i key) H=okV v:=by rw[b3.GoR,hv]
 obtain⟨Y,hY⟩:∃Y:Gb,Y=H++[⟨[.i val],.rw,1⟩]:=⟨_,rfl⟩
 have gY:Gr H Y:=by rw[hY];exact Gr.app _ _
 have lY:Y.length=H.length+1:=by rw[hY];simp
 obtain⟨X2,a1,a2,a3,a4⟩:=At.append (At.keeps hat gY) (k:=1) (new:=[.i val]) oM (by unfold JF;omega) (by simp[Jo]) rfl
 have k2:∀c,c<H.length→o c≠some (1,key.toNat,0)→X2[c]?=H[c]?:=fun c hc hn=>by
  grind
 have t2:X2[wb]?=_:=(k2 wb hwb (by rw[m.ow];simp)).trans b1
 have m2:NQ X2 mw f wks:=b3.frame (k2 mw hmw (by rw[m.om];simp))
 obtain⟨X3,d1,d2,d3,d4⟩:=m2.set key (v:=.slice Y.length 0 ((wf key).length+1) ((wf key).length+1) 1 true) rfl
 have t3:X3[wb]?=_:=(d2.keep wb oM n3).trans t2
 obtain⟨X4,Ib⟩:∃X4:Gb,X4=X3.set wb ⟨[.ptr hb 0,.GI mk,.GI mw,lv,.i (nt+1:Nat)],.rw,0⟩:=⟨_,rfl⟩
 have l4:X4.length=H.length+2:=by rw[Ib,List.length_set];omega
 have t4:X4[wb]?=some ⟨[.ptr hb 0,.GI mk,.GI mw,lv,.i (nt+1:Nat)],.rw,0⟩:=by grind
 have k4:∀c,c<H.length→o c≠some (1,key.toNat,0)→c≠mw→c≠wb→X4[c]?=H[c]?:=fun c hc hn hx hw=>by
  rw[Ib,NA (Ne.symm hw),d2.keep c oM hx,k2 c hc hn]
 have kl:X4[Y.length]?=some ⟨ints (wf key)++[.i val],.rw,1⟩:=by
  rw[Ib,NA oM,d2.keep _ oM oM,a3]
 obtain⟨o',ho'⟩:∃o':Tags,o'=fun c=>if c=Y.length then some (1,key.toNat,0)else o c:=⟨_,rfl⟩
 have old:∀c t,o c=some t→o' c=some t:=fun c t h=>by
  have:=m.dom c t h
  grind
 have new:∀c t,o' c=some t→c=Y.length∨o c=some t:=fun c t h=>by
  grind
 have GkO:∀c t,o c=some t→t≠(1,key.toNat,0)→t≠(0,0,0)→t≠(0,3,0)→X4[c]?=H[c]?:=fun c t h x1 x2 x4=>
  k4 c (m.dom c t h) (by rw[h];simpa using x1) (fun e=>by rw[e,m.om]at h;grind) (fun e=>by rw[e,m.ow]at h;simp only[GA]at h;exact x2 h.symm)
 refine⟨X2,X3,v,lv,_,o',hget,fun Y' hY'=>?_,by rw[←hY];exact a1,t2,b1,d1 X2 rfl,t3,?_,?_⟩
 ·rw[(b3.frame hY').GoR,hv]
 ·rw[←Ib]
  refine⟨m.p.frame fun c hc=>?_,fun c hc=>?_,fun c t h=>?_,old _ _ m.ow,old _ _ m.ok,old _ _ m.om,m.PE.frame (GkO mk _ m.ok sM sM sM),lv,_,_,t4,b2.frame (fun c h=>old c _ h) fun c h=>GkO c _ h sM sM sM,d3.frame (by rw[Ib,NA n3]),fun k'=>?_⟩
  ·have hf:=m.free c hc
   exact k4 c (m.p.lt c hc) (by rw[hf];simp) (fun e=>by rw[e,m.om]at hf;cases hf) (fun e=>by rw[e,m.ow]at hf;cases hf)
  ·have hf:=m.free c hc
   have:=m.p.lt c hc
   grind
  ·rcases new c t h with h|h
   ·omega
   ·have:=m.dom c t h;omega
  ·by_cases c:k'=key
   ·subst c
    refine .inr ⟨_,by unfold Ga8;rw[if_pos rfl],hnn.1,?_,?_⟩
    ·unfold F5
     grind
    ·have e:F5 wf k' val k'=wf k'++[val]:=by unfold F5;rw[if_pos rfl]
     rw[e]
     refine .inr ⟨Y.length,true,sM,by rw[ho'];simp,?_,by simp[ints]⟩
     rw[kl,Vg];rfl
   ·have e:F5 wf key val k'=wf k':=by unfold F5;rw[if_neg c]
    rcases b4 k' with⟨q1,q2⟩|⟨v',q1,q2,q3,q4⟩
    ·exact .inl ⟨by unfold Ga8;rw[if_neg c,q1],by rw[e,q2]⟩
    ·have hne:((1,k'.toNat,0):Nat×Nat×Nat)≠(1,key.toNat,0):=fun h=>by
      grind
     right
     rw[e]
     exact⟨v',by unfold Ga8;rw[if_neg c,q1],q2,q3,q4.frame (fun c h=>old c _ h) fun c h=>GkO c _ h hne sM sM⟩
 ·rw[←Ib]
  refine⟨oM,fun c hc h=>k4 c hc (by rw[h];simp) (fun e=>by rw[e,m.om]at h;cases h) (fun e=>by rw[e,m.ow]at h;cases h),fun c hc h=>?_⟩
  grind
theorem Gi_(k:s.Ok){o:Tags}{H:Gb}{ks:List Int}{wf:Int→List Int}(m:Yc o H hb s L wb mk mw ks wf nt)(wk:WOk nt ks wf){l:List Int}(hl:l.length≤100000)(hle:∀x∈l,x≤9223372036854775807){w:CV}(hw:LI H w l)(hwo:l≠[]→o (Gn w)=none)
  {E0:Env}(h0:E0 0=.ptr wb 0)(h48:E0 15=w)(h49:E0 16=.i l.length)(h50:E0 17=.i 0){r:Option (CX×Env×Gb)}(hr:den P (.loop XV) E0 H=r):
  ∃E' H',r=some (.exit 0,E',H')∧Z0 s hb L wb mk mw nt (fun x=>x∈l) o H ks wf H'∧∀t,t∉wr XV→E' t=E0 t:=by
 obtain⟨x',E',H',e,-,⟨rfl,q⟩,fr⟩:=Gs (p:=P) (c:=XV) (E0:=E0) (H0:=H)
  (fun q E H'=>∃j:Nat,E 17=.i j∧j≤l.length∧q=l.length-j∧Z0 s hb L wb mk mw nt (fun x=>x∈l.take j) o H ks wf H')
  (fun x' E' H'=>x'=.exit 0∧Z0 s hb L wb mk mw nt (fun x=>x∈l) o H ks wf H') (by
   rintro q E H' hE ⟨j,e50,hj,rfl,o',ks',wf',m',g,rc⟩
   have e0:=(hE 0 dK).trans h0
   have e48:=(hE 15 dK).trans h48
   have e49:=(hE 16 dK).trans h49
   by_cases c:j<l.length
   ·have c':decide ((j:Int)<(l.length:Int))=true:=G7 oM
    obtain⟨x,hx⟩:∃x,l[j]?=some x:=⟨_,JG c⟩
    have IC:=hwo (fun h=>by rw[h]at c;exact absurd c sM)
    obtain⟨tl,a1,a2,a3,a4⟩:=hw.pos oM
    have Pp:H'[Gn w]?=H[Gn w]?:=g.keep _ (Gf a3) IC
    have ix:∀X,JU 1 w (.i j) X=some (.ptr (Gn w) j,X):=fun X=>by
     rw[a1];exact(if_pos oM).trans (by simp[Gn])
    have l1:ld H'[Gn w]? j=some (.i x):=by rw[Pp,a3,Qm];simp[ints,hx]
    obtain⟨H2,r1,o2,ZE,wf2,m2,g2,rc2⟩:=YZ k 4097 o' H' ks' wf' x oM m' (wk.next rc) (hle x (JV hx))
    have w1:IntKind.i64.wrap ((j:Int)+1)=((j+1:Nat):Int):=Gh oM
    apply Gp (k':=l.length-(j+1))
    ·refine W9 e0 e48 e49 e50 c' ix l1 r1 w1 ?_
     rfl
    ·omega
    ·refine⟨j+1,uA,oM,rfl,o2,ZE,wf2,m2,g.trans g2,(rc.trans rc2).weaken fun b=>?_⟩
     rw[QV,hx,Yu,NV,Bz]
   ·have c':decide ((j:Int)<(l.length:Int))=false:=G5 oM
    rw[QA oM]at rc
    apply Gj (x:=.exit 0)
    ·refine GH ?_
     rfl
    ·simp
    ·exact⟨rfl,o',ks',wf',m',g,rc⟩) _ ⟨0,h50,oM,rfl,o,ks,wf,m,Vo.gr (Keeps.refl _ _),(LH.refl wk.no).weaken fun b=>by simp⟩
 grind
end
end Go.Cs.Tryz

namespace Go.Cs
open Go
def Hp.keyOf(s:Hp)(a:Int):Int:=(s.refsOf a).getD 0 0
def Hp.valOf(s:Hp)(a:Int):Int:=(s.refsOf a).getD 1 0
structure Sd(s:Hp)(st:Int→Prop)(ks:List Int)(wf:Int→List Int):Prop where
 kp:∀x∈ks,Kp s st true x
 wk:∀key x,x∈wf key→Kp s st true key→s.has x=true→Kp s st true x
def Gd0(s:Hp)(a:Int)(ks:List Int)(wf:Int→List Int):Prop:=
 s.VB a=2→s.keyOf a≠0→(s.keyOf a∈ks∧(s.has (s.valOf a)=true→s.valOf a∈ks))∨(s.keyOf a∉ks∧s.valOf a∈wf (s.keyOf a))
structure Lk(s:Hp)(ks:List Int)(wf:Int→List Int)(ks':List Int)(wf':Int→List Int):Prop where
 pre:ks<+:ks'
 wt:∀key x,x∈wf key→(key∉ks'∧x∈wf' key)∨(key∈ks'∧(s.has x=true→x∈ks'))
theorem Lk.tb{s:Hp}{a:Int}{ks ks':List Int}{wf wf':Int→List Int}(l:Lk s ks wf ks' wf')(h:Gd0 s a ks wf):Gd0 s a ks' wf':=fun h1 h2=>by
 rcases h h1 h2 with⟨q1,q2⟩|⟨q1,q2⟩
 ·exact .inl ⟨l.pre.subset q1,fun hh=>l.pre.subset (q2 hh)⟩
 ·rcases l.wt _ _ q2 with⟨r1,r2⟩|⟨r1,r2⟩
  ·exact .inr ⟨r1,r2⟩
  ·exact .inl ⟨r1,r2⟩
theorem LH.lk{s:Hp}{ar:Int→Prop}{ks ks':List Int}{wf wf':Int→List Int}(r:LH s ar ks wf ks' wf'):Lk s ks wf ks' wf':=⟨r.pre,r.wt⟩
theorem LH.sd{s:Hp}{st:Int→Prop}{ar:Int→Prop}{ks ks':List Int}{wf wf':Int→List Int}(r:LH s ar ks wf ks' wf')(ha:∀a,ar a→s.has a=true→Kp s st true a)(h:Sd s st ks wf):Sd s st ks' wf':=
 ⟨r.kp _ ha h.kp h.wk,fun key x hx=>h.wk key x (r.sub key x hx)⟩
theorem Lk.trans{s:Hp}{k l m:List Int}{f g h:Int→List Int}(a:Lk s k f l g)(b:Lk s l g m h):Lk s k f m h where
 pre:=a.pre.trans b.pre
 wt:=fun key x hx=>by
  rcases a.wt key x hx with⟨h1,h2⟩|⟨h1,h2⟩
  ·exact b.wt key x h2
  ·exact .inr ⟨b.pre.subset h1,fun hh=>b.pre.subset (h2 hh)⟩
end Go.Cs
namespace Go.Cs.Tryz
open Go Go.Cs
section
variable {hb : Nat} {s : Hp} {L : G6} {wb mk mw : Nat} {nt : Nat} {ks : List Int} {wf : Int → List Int} {o : Tags} {H : Gb}
theorem GeE(m:Yc o H hb s L wb mk mw ks wf nt)(k:s.Ok)(hs:Ql s)(wk:WOk nt ks wf)(hnt:nt≤50000){st:Int→Prop}(sd:Sd s st ks wf){a:Int}(ha:a∈ks):
  ∃H' o' ks' wf' Xn,run P 48 [.ptr wb 0,.i a] H=some (.Jk [],H')∧Yc o' H' hb s L wb mk mw ks' wf' Xn∧Vo o H o' H'∧Xn≤nt+1∧WOk Xn ks' wf'∧Sd s st ks' wf'∧Lk s ks wf ks' wf'∧(∀b∈s.strOf a,s.has b=true→b∈ks')∧Gd0 s a ks' wf':=by
 obtain⟨lv,f,wks,b1,b2,b3,b4⟩:=m.ex
 have hka:=sd.kp a ha
 have hnn:=k.has_lt hka.has
 obtain⟨w,X1,h1,g1,li⟩:=Ed m.p k a oM
 have m1:=m.gr g1
 have hwl:=li.len X1
 have hwo:s.strOf a≠[]→o (Gn w)=none:=fun h=>Jg fun hn=>by
  obtain⟨tl,a1,a2,a3,a4⟩:=li.pos (A7.2 h)
  have h2:=(Gm.1 a2).1
  cases e:o (Gn w)with
  |none=>exact hn e
  |some u=>have:=m.dom _ u e;omega
 have hsl:(s.strOf a).length≤15:=Jm (Lp _ _ _) (k.Vt a)
 rw[Gi c48 _ _ sM]
 refine GH ?_
 generalize hr:den P (.loop XV) _ _=r
 obtain⟨E2,X2,rfl,⟨o2,ZE,wf2,m2,c2,rc2⟩,f2⟩:=Gi_ k m1 wk oM (fun x hx=>by have:=k.has_lt (hs.str hx);omega) li.li hwo uA uA uA uA hr
 have d0:=f2 0 dK
 have d1:=f2 1 dK
 simp only[Gg,Nat.reduceEqDiff,↓reduceIte]at d0 d1
 have cc2:Vo o H o2 X2:=(Vo.gr g1).trans c2
 have wk2:=wk.next rc2
 have sd2:Sd s st ZE wf2:=rc2.sd (fun b hb hh=>GkH a b hka hb hh) sd
 have str2:∀b∈s.strOf a,s.has b=true→b∈ZE:=rc2.got
 obtain⟨lv2,fm2,Gx8,t2,-,-,-⟩:=m2.ex
 obtain⟨X3,h3,g3⟩:=Mh m2.p k a oM
 have m3:=m2.gr g3
 have t3:=g3.get t2
 have cc3:Vo o H o2 X3:=cc2.trans (.gr g3)
 by_cases hkd:s.VB a=2
 ·have Gnp:((s.VB a:Int) != 2)=false:=by rw[hkd];rfl
  obtain⟨ob,VN⟩:=Hp.J2.1 hka.has
  have hre:s.refsOf a=ob.refs:=by unfold Hp.refsOf;rw[VN]
  have Gne:ob.kd=2:=by unfold Hp.VB at hkd;rw[VN]at hkd;exact hkd
  have q3:=(k.Pd VN).2 Gne
  have r0:(s.refsOf a)[0]?=some (s.keyOf a):=by unfold Hp.keyOf;rw[hre];exact Uh q3 oM
  have r1:(s.refsOf a)[1]?=some (s.valOf a):=by unfold Hp.valOf;rw[hre];exact Uh q3 oM
  have bd:∀x,x∈s.refsOf a→x=0∨s.has x=true:=fun x hx=>by rw[hre]at hx;exact hs ob (Hp.GV VN).1 x hx
  have vle:s.valOf a≤9223372036854775807:=by
   rcases bd _ (JV r1)with h|h
   ·omega
   ·have:=k.has_lt h;omega
  have Go4:Kp s st true (s.keyOf a)→s.has (s.valOf a)=true→Kp s st true (s.valOf a):=fun h1 h2=>
   .pair rfl hka VN Gne (by rw[←hre];exact r0) h1 (by rw[←hre];exact r1) h2
  obtain⟨X4,h4,g4⟩:=KE m3.p k a 0 oM
  have e0:=Hp.U7 (s:=s) (a:=a) (j:=0) r0
  rw[show(((0:Nat):Int))=0 from rfl]at e0
  rw[e0]at h4
  unfold Q9 at h4
  have m4:=m3.gr g4
  have t4:=g4.get t3
  obtain⟨X5,h5,g5⟩:=KE m4.p k a 1 oM
  have e1:=Hp.U7 (s:=s) (a:=a) (j:=1) r1
  rw[show(((1:Nat):Int))=1 from rfl]at e1
  rw[e1]at h5
  unfold Q9 at h5
  have m5:=m4.gr g5
  have t5:=g5.get t4
  have cc5:Vo o H o2 X5:=(cc3.trans (.gr g4)).trans (.gr g5)
  by_cases hk0:s.keyOf a=0
  ·have hk0':(s.keyOf a==0)=true:=by rw[hk0];rfl
   refine GH ?_
   exact⟨X5,o2,ZE,wf2,nt,rfl,m5,cc5,Nat.le_succ _,wk2,sd2,rc2.lk,str2,fun _ h=>absurd hk0 h⟩
  ·have hk0':(s.keyOf a==0)=false:=by simpa using hk0
   have hkh:s.has (s.keyOf a)=true:=by
    grind
   have hg:=m5.PE.get (s.keyOf a)
   by_cases hki:s.keyOf a∈ZE
   ·rw[G7 hki]at hg
    obtain⟨X6,h6,o6,ks6,wf6,m6,c6,rc6⟩:=YZ k 4097 o2 X5 ZE wf2 (s.valOf a) oM m5 wk2 vle
    have:=@Jz;refine GH ?_
    exact⟨X6,o6,ks6,wf6,nt,rfl,m6,cc5.trans c6,Nat.le_succ _,wk2.next rc6,rc6.sd (fun b hb hh=>by subst hb;exact Go4 (sd2.kp _ hki) hh) sd2,rc2.lk.trans rc6.lk,fun b hb hh=>rc6.pre.subset (str2 b hb hh),fun _ _=>.inl ⟨rc6.pre.subset hki,fun hh=>rc6.got _ rfl hh⟩⟩
   ·rw[G5 hki]at hg
    obtain⟨X6,X7,v,lv6,lv7,o7,q1,q2,q3',q4,q5,q6,q7,q8,q9⟩:=Glx (val:=s.valOf a) m5 k hkh (by have:=wk2.ln (s.keyOf a);omega)
    have hel:elems (X5++[⟨[.i (s.valOf a)],.rw,1⟩]) 1 (.slice X5.length 0 1 1 1 false)=some (1,[.i (s.valOf a)]):=by
     rw[J7 oM]
     have:=@Kc;exact W0
    have w1:IntKind.i64.wrap ((nt:Int)+1)=((nt+1:Nat):Int):=Gh oM
    obtain⟨X8,hX8⟩:∃X8:Gb,X8=X7.set wb ⟨[.ptr hb 0,.GI mk,.GI mw,lv6,.i (nt+1:Nat)],.rw,0⟩:=⟨_,rfl⟩
    rw[←hX8]at q8 q9
    have GlZ:∃H' o' ks' wf' Xn,(some (CV.Jk [],X8):Option (CV×Gb))=some (.Jk [],H')∧Yc o' H' hb s L wb mk mw ks' wf' Xn∧Vo o H o' H'∧Xn≤nt+1∧WOk Xn ks' wf'∧Sd s st ks' wf'∧Lk s ks wf ks' wf'∧(∀b∈s.strOf a,s.has b=true→b∈ks')∧Gd0 s a ks' wf':=by
     refine⟨X8,o7,ZE,F5 wf2 (s.keyOf a) (s.valOf a),nt+1,rfl,q8,cc5.trans q9,Nat.le_refl _,⟨fun key hk=>?_,fun key=>?_,fun key x hx=>?_⟩,⟨sd2.kp,fun key x hx h1 h2=>?_⟩,⟨rc2.pre,fun key x hx=>?_⟩,str2,fun _ _=>.inr ⟨hki,?_⟩⟩
     ·unfold F5
      rw[if_neg (fun h=>hki (by rw[←h];exact hk))]
      exact wk2.no key hk
     ·unfold F5
      have:=wk2.ln key
      grind
     ·unfold F5 at hx
      split at hx
      ·rw[NV,Bz]at hx
       rcases hx with hx|hx
       ·exact wk2.le key x hx
       ·rw[hx];exact vle
      ·exact wk2.le key x hx
     ·unfold F5 at hx
      split at hx
      ·rename_i ce
       rw[NV,Bz]at hx
       rcases hx with hx|hx
       ·exact sd2.wk key x hx h1 h2
       grind
      ·exact sd2.wk key x hx h1 h2
     ·rcases rc2.wt key x hx with⟨r1,r2⟩|r1
      ·refine .inl ⟨r1,?_⟩
       unfold F5
       grind
      ·exact .inr r1
     ·unfold F5
      grind
    rw[q5]at t5
    simp only[GA,JD.mk.injEq,List.cons.injEq,and_true,true_and]at t5
    subst t5
    refine W17 d0 d1 t2 h3 Gnp t3 h4 t4 h5 hk0' q5 @Jz hg @Geb q1 @J5 @Gu ?_
    have GxA:=Gf q5
    have:=@Ue;refine GH ?_
    rw[←hX8]
    exact GlZ
 ·have Gnp:((s.VB a:Int) != 2)=true:=bne_iff_ne.2 oM
  refine GH ?_
  exact⟨X3,o2,ZE,wf2,nt,rfl,m3,cc3,Nat.le_succ _,wk2,sd2,rc2.lk,str2,fun h=>absurd h hkd⟩
end
end Go.Cs.Tryz
namespace Go.Cs.Tryz
open Go Go.Cs A
abbrev W_:Gq:=S (T [m 34 11,m 35 8,z 36 35,f 37 3 36,l 38 1 37,le 39 38,b 40 .lss 34 39] (J 40 (X 2))) (S (B 3 (R [m 43 8,m 44 8,z 45 44,f 46 3 45,l 47 1 46,m 48 11,x 49 1 47 48,l 50 1 49,q2 51 48 43 50])) (R [m 41 11,bk 42 .add 41 1,m 11 42]))
abbrev XY:Gq:=T [b 27 .lss 26 25] (S (J 27 (X 0)) (S (B 1 (T [x 28 1 24 26,l 29 1 28,m 10 29] (R [m 30 8,m 31 10,q2 32 47 30 31]))) (R [bk 33 .add 26 1,m 26 33])))
def C14:Gl:=⟨62,0,T [e 4 (.JR (c .Gc)),n 5 0,n 6 0] (S (T [m 12 0,m 13 1,q2 14 42 12 13,m 7 14] (T [m 15 7,bk 16 .neq 15 0] (I 16 (Q [m 17 7,e 4 (.JR (c .Gc)),n 5 0,m 6 17])))) (T [m 18 0,e 19 .Vp,e 20 .Vp,e 21 (.build [.nilPtr,.UC,.UC,.Gc,i 0] [(0,1,t 18),(1,1,t 19),(2,1,t 20)]),bo 22 21,m 8 22] (S (T [m 23 1,q1 24 44 23,le 25 24,n 26 0] (B 0 (W XY))) (S (T [n 11 0] (B 2 (W W_))) (S (D [⟨m 52 8,0,0,0⟩,⟨z 53 52,1,0,0⟩,⟨f 54 1 53,2,0,0⟩,⟨l 55 1 54,3,1,0⟩,⟨q1 56 46 55,4,3,0⟩,⟨q1 57 45 56,5,3,1⟩,⟨m 58 8,6,0,0⟩,⟨z 59 58,7,0,0⟩,⟨f 60 4 59,8,0,0⟩,⟨l 61 1 60,9,1,0⟩,⟨m 4 57,10,0,2⟩,⟨m 5 61,11,0,2⟩,⟨n 6 0,12,0,2⟩]) .ret))))),[r 4,r 5,r 6]⟩
theorem c14:P 14=some C14:=by kernel_rfl
end Go.Cs.Tryz
