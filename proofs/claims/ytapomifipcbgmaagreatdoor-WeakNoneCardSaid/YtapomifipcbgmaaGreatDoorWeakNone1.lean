/- A part of the proof: WeakNone returns true for every input: all functions return ErrArg for a heap or roots that are nil or zero; those of tables ErrNone where there is no object (R1) Conditions: none. -/
import Derived.Test.YtapomifipcbgmaaGreatDoorWeakNone0
import Derived.Maps.RangeRun
import Derived.Sort.Grow
set_option linter.unusedVariables false
set_option linter.unusedSimpArgs false
set_option linter.defProp false
/- Every operation, calls among them. -/
namespace Go.Cs
open Go Go.RowKit

section
variable {P : Program} {F : CallF} {ν : Mu} {E : Env} {a : Act} {w : World} {H : CHeap} {K : Nat → Option Obj} {B : Bs} {L : Nat} {rd : Option Nat} {dp : Nat}

theorem callFunc_run {f : Nat} {fn : Func} (h1 : P.funcs[f]? = some fn) (h2 : fn.name ≠ "runtime.NumGoroutine") (h3 : fn.body.isSome = true) (args : Array Value) :
    (callFunc f args).run P w = .ok (.enter f args) w := by
  obtain ⟨c, hc⟩ := Option.isSome_iff_exists.1 h3
  simp [callFunc, h1, h2, hc]

theorem call_after (hF : SimF P F) (hBr : BOk P B) (hS : St K B L ν H w) {o : Oper} (hnd : ∀ c, o.op ≠ .defer c) {f : Nat} {args : List CV} {args' : Array Value} {r : CV × CHeap} (hf : f < RB) (h : F f args H = some r) (hL : r.2.length ≤ L) (hv : VL ν args args'.toList)
    (hr : ∀ fn, P.funcs[f]? = some fn → fn.name ≠ "runtime.NumGoroutine" → fn.body.isSome = true → (execOp a.eval o).run P w = .ok (.enter f args') w) : Next.after rd dp P o a w K B L H ν r := by
  obtain ⟨⟨fn, h1, h2, h3⟩, hcalls⟩ := (hF f args H r h).2.1 hf
  intro next Q hn
  refine ⟨fun _ _ => trivial, ?_⟩
  rw [Oper.semAt_eq _ _ _ hnd, hr fn h1 h2 h3, Oper.uponIn_enter]
  refine ⟨Fr_depth, ?_⟩
  have hc : CallsIn Fence.wide (dp - 1) P f args' w _ := callsIn_wide.2 (hcalls K B L ν w args' hBr hL hS hv)
  refine CallsIn.mono (show CallsIn (Fr rd) (dp - 1) P f args' w _ from hc) fun e w' he => ?_
  obtain ⟨v', ν', rfl, hS', hV, hx⟩ := he
  exact hn v' w' ν' hS' hV hx

theorem getD_set (l : List CV) (p t : Nat) (v : CV) (hp : p < l.length) : (l.set p v).getD t .undef = if t = p then v else l.getD t .undef := by
  simp only [List.getD_eq_getElem?_getD]
  by_cases h : t = p
  · subst h; rw [List.getElem?_set_self hp, if_pos rfl]; rfl
  · rw [List.getElem?_set_ne (Ne.symm h), if_neg h]

theorem setAll_V : ∀ (ps : List Nat) (args : List CV) (vals : List Value) (env : List CV) (tmps : Array Value), VL ν args vals → args.length = ps.length → (∀ t ∈ ps, t < env.length) → env.length ≤ tmps.size →
    (∀ t, V ν (env.getD t .undef) (tmps.getD t undef)) →
    ((ps.zip vals).foldl (fun (tm : Array Value) (q : Nat × Value) => tm.setIfInBounds q.1 q.2) tmps).size = tmps.size ∧
    ∀ t, V ν ((setAll env (ps.map fun (t : Nat) => CV.i (t : Int)) args).getD t .undef) (((ps.zip vals).foldl (fun (tm : Array Value) (q : Nat × Value) => tm.setIfInBounds q.1 q.2) tmps).getD t undef)
  | [], args, vals, env, tmps, _, _, _, _, h => ⟨by simp, by cases args <;> simpa [setAll] using h⟩
  | p :: ps, [], vals, env, tmps, _, hl, _, _, _ => by simp at hl
  | p :: ps, c :: args, vals, env, tmps, hv, hl, hp, hs, h => by
    simp only [VL] at hv
    obtain ⟨v, rest, rfl, hv1, hv2⟩ := hv
    have hpl : p < env.length := hp p List.mem_cons_self
    obtain ⟨e1, e2⟩ := setAll_V ps args rest (env.set p c) (tmps.setIfInBounds p v) hv2 (by simpa using hl) (fun t ht => by rw [List.length_set]; exact hp t (List.mem_cons_of_mem _ ht)) (by simpa using hs) (fun t => by
      rw [getD_set _ _ _ _ hpl]
      by_cases ht : t = p
      · subst ht; rw [if_pos rfl, Array.getD_eq_getD_getElem?, Array.getElem?_setIfInBounds_self_of_lt (by omega)]; exact hv1
      · rw [if_neg ht, Array.getD_eq_getD_getElem?, Array.getElem?_setIfInBounds_ne (Ne.symm ht), ← Array.getD_eq_getD_getElem?]; exact h t)
    refine ⟨by simpa using e1, fun t => ?_⟩
    have := e2 t
    simpa [setAll] using this

/-- The block of a loop, turned. -/
theorem St.turn (hS : St K B L ν H w) {b : Nat} {k : Blk} {m : Tgt} (hb : H[b]? = some k) (hk : k.mode = .map) (hm : ν b = some m) {k2 : Blk} (hk2 : k2.mode = .map) {x : Obj} (hr : ObjR B ν m.c k2 x) :
    St K B L ν (H.set b k2) (w.putObj m.c x) :=
  ⟨hS.sim.setObj hb hk hm hk2 hr, fun b' hb' hl => hS.dom b' (by simpa using hb') hl⟩

theorem loopBlk_inj {s s' : Int} {ps ps' env env' : List CV} {z z' : Nat} (h : (⟨[.int .i64 s, .tup ps, .tup env], .map, z + 1⟩ : Blk) = loopBlk s' ps' env' z') : s = s' ∧ ps = ps' ∧ env = env' ∧ z = z' := by
  simp only [loopBlk, Blk.mk.injEq, List.cons.injEq, CV.int.injEq, CV.tup.injEq, Nat.add_right_cancel_iff, and_true, true_and] at h
  exact ⟨h.1.1, h.1.2.1, h.1.2.2, h.2⟩

theorem loop_rec (hS : St K B L ν H w) {b : Nat} {s : Int} {ps env : List CV} {z : Nat} {m : Tgt} (hb : H[b]? = some ⟨[.int .i64 s, .tup ps, .tup env], .map, z + 1⟩) (hm : ν b = some m) :
    ∃ r, w.heap[m.c]? = some (.loop r) ∧ ps = (r.params.toList.map fun (t : Nat) => CV.i (t : Int)) ∧ StR s r ∧ (∀ t, V ν (env.getD t .undef) (r.tmps.getD t undef)) ∧ env.length ≤ r.tmps.size ∧ B.rnd z env.length r.fn r.params r.assign r.body := by
  obtain ⟨ob, hw, hob, -, -⟩ := hS.sim.mp b _ m hb rfl hm
  obtain ⟨r, rfl, s', env', z', h1, h2, h3, h4, h5⟩ := hob.loop (by simp)
  obtain ⟨rfl, rfl, rfl, rfl⟩ := loopBlk_inj h1
  exact ⟨r, hw, rfl, h2, h3, h4, h5⟩

theorem StR.ready {r : Loop} (h : StR 0 r) : r.state = .ready ∧ r.pending = none := by
  rcases h with ⟨_, h⟩ | h | ⟨h, _⟩ | ⟨id, h, _⟩
  · exact h
  · cases h
  · cases h
  · omega

theorem yield_after (hF : SimF P F) (hBr : BOk P B) (hS : St K B L ν H w) {o : Oper} (hnd : ∀ c, o.op ≠ .defer c) {b : Nat} {m : Tgt} (hm : ν b = some m) {args : List CV} {args' : Array Value} {r : CV × CHeap} (h : yieldOf F b args H = some r)
    (hL : r.2.length ≤ L) (hv : VL ν args args'.toList) (hr : (execOp a.eval o).run P w = (Instr.yield m.c args').run P w) : Next.after rd dp P o a w K B L H ν r := by
  unfold yieldOf at h
  split at h
  case h_2 => cases h
  rename_i s ps env z hb
  split at h
  case isFalse => cases h
  rename_i hc
  obtain ⟨rfl, hlen⟩ := hc
  rw [Option.bind_eq_some_iff] at h
  obtain ⟨q, hq, h⟩ := h
  obtain ⟨r0, hw0, rfl, hst0, hV0, hsz0, hrnd⟩ := loop_rec hS hb hm
  obtain ⟨hready, -⟩ := hst0.ready
  rw [hBr.rnd] at hrnd
  have hasz : args'.size = r0.params.size := by have := hv.length; simp at this hlen; omega
  -- what the round begins with
  obtain ⟨hq1, -, hq2⟩ := hF _ _ _ _ hq
  obtain ⟨env1, he1, hl1, hassign⟩ := (hq2 z _ _ _ _ _ hrnd).1 rfl
  obtain ⟨q1, qH⟩ := q
  simp only at he1 hq1
  subst he1
  obtain ⟨hsz1, hV1⟩ := setAll_V (ν := ν) r0.params.toList args args'.toList env r0.tmps hv (by simpa using hlen) hrnd.2.1 hsz0 hV0
  intro next Q hn
  refine ⟨fun _ _ => trivial, ?_⟩
  rw [Oper.semAt_eq _ _ _ hnd, hr, run_yield hw0 hasz, Oper.uponIn_round]
  refine ⟨Fr_depth, ?_⟩
  -- the body
  unfold yieldBody at h
  split at h
  case h_2 => cases h
  rename_i env1' s2 ps2 e2 z2 hh1 hb2
  simp only [CV.tup.injEq] at hh1
  subst hh1
  simp only at hb2
  split at h
  case isFalse => cases h
  rename_i hc2
  obtain ⟨rfl, rfl⟩ := hc2
  rw [Option.bind_eq_some_iff] at h
  obtain ⟨p, hp, h⟩ := h
  obtain ⟨hp1, -, hp2⟩ := hF _ _ _ _ hp
  have hbody := (hp2 z2 _ _ _ _ _ hrnd).2 rfl
  obtain ⟨p1, pH⟩ := p
  simp only at h hp1
  split at h
  case h_2 => cases h
  rename_i j s3 ps3 e3 z3 hb3
  simp only [Option.some.injEq] at h
  subst h
  simp only [List.length_set] at hL hp1
  have hbl : b < H.length := (List.getElem?_eq_some_iff.1 hb).1
  have hF2 : F.le F := fun _ _ _ => Le.refl _
  refine roundIn_of_wpIn (F := Fr rd) trivial (wpIn_mono (hassign K B L ν w ((r0.params.zip args').foldl (fun tmps (t, a) => tmps.setIfInBounds t a) r0.tmps) m.c (dp - 1) hBr (by dsimp only; omega) hS ?_ ?_) fun x a1 w1 hx => ?_)
  · intro t
    have := hV1 t
    rw [← Array.foldl_toList, Array.toList_zip]
    exact this
  · rw [← Array.foldl_toList, Array.toList_zip]
    exact Nat.le_trans hsz0 (Nat.le_of_eq hsz1.symm)
  obtain ⟨ν1, rfl, hd1, hs1, hVa, hS1, hE1⟩ := hx
  have hm1 : ν1 b = some m := by rw [hE1.same b hbl]; exact hm
  obtain ⟨r1, hw1, rfl, hst1, hV1', hsz1', hrnd1⟩ := loop_rec hS1 hb2 hm1
  obtain ⟨hready1, hpend1⟩ := hst1.ready
  refine ⟨_, run_beginRound hw1 hready1, ?_⟩
  have hS1' := hS1.turn hb2 rfl hm1 (k2 := loopBlk 1 (r1.params.toList.map fun (t : Nat) => CV.i (t : Int)) e2 z2) rfl (x := .loop { r1 with state := .busy }) (.inr ⟨_, rfl, 1, e2, z2, rfl, .inr (.inl rfl), hV1', hsz1', hrnd1⟩)
  obtain ⟨t1, d1⟩ := a1
  simp only at hd1 hs1 hVa
  subst hd1
  refine wpIn_mono (hbody K B L ν1 _ t1 m.c (dp - 1) hBr (by omega) hS1' hVa hs1) fun x a2 w2 hx => ?_
  obtain ⟨ν2, hxc, hS2, hE2⟩ := hx
  have hm2 : ν2 b = some m := by rw [hE2.same b (by simp only [List.length_set]; omega)]; exact hm1
  obtain ⟨r3, hw3, rfl, hst3, hV3, hsz3, hrnd3⟩ := loop_rec hS2 hb3 hm2
  have hE : ∀ k2 : Blk, Ext L H ν (pH.set b k2) ν2 := fun k2 => hE1.trans (Ext.trans (⟨by simp, fun _ _ => rfl, fun _ _ => rfl⟩ : Ext L qH ν1 (qH.set b (loopBlk 1 (r1.params.toList.map fun (t : Nat) => CV.i (t : Int)) e2 z2)) ν1) (hE2.trans ⟨by simp, fun _ _ => rfl, fun _ _ => rfl⟩))
  have fin : ∀ (jump : Option Code) (s' : Int), StR s' { r3 with state := if jump.isNone then .ready else .done, pending := jump } → ∃ v w', (Instr.endRound m.c jump).run P w2 = .ok v w' ∧ v = .bool jump.isNone ∧ St K B L ν2 (pH.set b (loopBlk s' (r3.params.toList.map fun (t : Nat) => CV.i (t : Int)) e3 z3)) w' := by
    intro jump s' hs'
    exact ⟨_, _, run_endRound jump hw3, rfl, hS2.turn hb3 rfl hm2 rfl (.inr ⟨_, rfl, s', e3, z3, rfl, hs', hV3, hsz3, hrnd3⟩)⟩
  rcases hxc with ⟨hj, rfl⟩ | ⟨hj, rfl⟩ | ⟨id, hj, rfl⟩
  · simp only [CV.i, CV.int.injEq, true_and] at hj
    subst hj
    obtain ⟨v, w', e1, rfl, e3⟩ := fin none 0 (.inl ⟨rfl, rfl, rfl⟩)
    exact ⟨_, _, e1, hn _ _ ν2 e3 (by simp [V]) (hE _)⟩
  · simp only [CV.i, CV.int.injEq, true_and] at hj
    subst hj
    obtain ⟨v, w', e1, rfl, e3⟩ := fin (some .ret) 2 (.inr (.inr (.inl ⟨rfl, rfl, rfl⟩)))
    exact ⟨_, _, e1, hn _ _ ν2 e3 (by simp [V]) (hE _)⟩
  · simp only [CV.i, CV.int.injEq, true_and] at hj
    subst hj
    obtain ⟨v, w', e1, rfl, e3⟩ := fin (some (.exit id)) (id + 3) (.inr (.inr (.inr ⟨id, rfl, rfl, rfl⟩)))
    refine ⟨_, _, e1, hn _ _ ν2 ?_ ?_ (hE _)⟩
    · rw [if_neg (by omega), show (id : Int) + 2 + 1 = id + 3 from by omega]; exact e3
    · simp only [V]; simp; omega

theorem methIn_table {t : Nat} {name : String} {f : Nat} (h : methIn (methTable P) t name = some f) :
    ∃ i m fs, P.info? t = some i ∧ P.underlying t = some (.struct fs) ∧ i.methods.find? (fun m => m.name == name) = some m ∧ m.func = some (f, false) ∧ m.path.isEmpty = true ∧ f < RB := by
  unfold methIn at h
  rw [Option.map_eq_some_iff] at h
  obtain ⟨e, he, rfl⟩ := h
  have hm := List.mem_of_find?_eq_some he
  have hp := List.find?_some he
  simp only [Bool.and_eq_true, beq_iff_eq] at hp
  obtain ⟨hp1, hp2⟩ := hp
  unfold methTable at hm
  rw [List.mem_flatMap] at hm
  obtain ⟨u, _, hm⟩ := hm
  split at hm
  · rename_i i fs hi hu
    split at hm
    · rw [List.mem_filterMap] at hm
      obtain ⟨m0, _, hm⟩ := hm
      split at hm
      · rename_i m hf
        split at hm
        · rename_i g hg
          split at hm
          · rename_i hpath
            simp only [Option.some.injEq] at hm
            subst hm
            simp only at hp1 hp2
            subst hp1; subst hp2
            simp only [Bool.and_eq_true, decide_eq_true_eq] at hpath
            exact ⟨i, m, fs, hi, hu, hf, hg, hpath.1, hpath.2⟩
          · cases hm
        · cases hm
      · cases hm
    · cases hm
  · cases hm

theorem callMethod_run {t : Nat} {name : String} {f : Nat} (h : methIn (methTable P) t name = some f) (v : Value) (args : Array Value) :
    (callMethod (.iface t v) name args).run P w = (callFunc f (#[v] ++ args)).run P w := by
  obtain ⟨i, m, fs, hi, hu, hf, hg, hpath, -⟩ := methIn_table h
  have hp : m.path = #[] := by simpa using hpath
  have hd : 0 < Made.depth := by decide
  obtain ⟨n, hn⟩ : ∃ n, P.types.size + Made.depth = n + 1 := ⟨P.types.size + Made.depth - 1, by omega⟩
  simp [callMethod, hn, method, typeInfo_run hi, hf, hp, follow, hg, receiverAt, run_underlying hu, Place.get]

def steadyOp : COp → Bool
  | .store .. | .append .. | .copy .. | .clear .. | .call .. | .callv .. | .callm .. | .invk .. | .mapSet .. | .mapDel .. | .mapClear .. | .sortI .. | .keysSorted .. => false
  | _ => true

theorem opc_steady {op : COp} (h : steadyOp op = true) : opc F op E H = (mkOf op E H).map (made H) := by
  cases op <;> first | rfl | cases h

theorem comp_cases {oop : Op} {op : COp} (h : compOp P oop = some op) : steadyOp op = true ∨ (∃ t x v, oop = .store t x v) ∨ (∃ c, oop = .call c) ∨ ∃ t p x v, oop = .mapUpdate t p x v := by
  cases oop with
  | store t x v => exact .inr (.inl ⟨t, x, v, rfl⟩)
  | call c => exact .inr (.inr (.inl ⟨c, rfl⟩))
  | makeMap t r =>
    cases r with
    | none =>
      simp only [compOp, Option.map_eq_some_iff] at h
      obtain ⟨_, _, rfl⟩ := h
      exact .inl rfl
    | some r => cases h
  | mapUpdate t p x v => exact .inr (.inr (.inr ⟨t, p, x, v, rfl⟩))
  | index t x i =>
    refine .inl ?_
    cases x with
    | const v =>
      cases v with
      | string s =>
        simp only [compOp] at h
        split at h
        · rw [Option.map_eq_some_iff] at h
          obtain ⟨_, _, rfl⟩ := h
          rfl
        · cases h
      | _ => cases h
    | tmp x =>
      simp only [compOp] at h
      split at h
      · obtain ⟨_, h⟩ := guardB_some h
        simp only [Option.bind_eq_some_iff, Option.map_eq_some_iff] at h
        obtain ⟨_, _, _, _, rfl⟩ := h
        rfl
      · cases h
    | _ => cases h
  | load t x =>
    refine .inl ?_
    cases x <;> simp only [compOp, globLoad, Option.bind_eq_some_iff, Option.map_eq_some_iff] at h
    case global =>
      obtain ⟨zs, _, h⟩ := h
      split at h
      · simp only [Option.some.injEq] at h; subst h; rfl
      · cases h
    all_goals (obtain ⟨_, _, _, _, _, _, rfl⟩ := h; rfl)
  | binOp op' t x y yt =>
    simp only [compOp, Option.bind_eq_some_iff] at h
    obtain ⟨_, _, _, _, h⟩ := h
    refine .inl ?_
    split at h
    · cases op' <;> simp at h <;> (subst h; rfl)
    · cases op' <;> simp at h <;> (subst h; rfl)
    · cases op' <;> simp at h <;> (subst h; rfl)
    · cases op' <;> simp at h <;> (subst h; rfl)
    · obtain ⟨_, h⟩ := guardB_some h
      cases op' <;> simp at h <;> (subst h; rfl)
    · obtain ⟨_, h⟩ := guardB_some h
      cases op' <;> simp at h <;> (subst h; rfl)
    · cases h
  | build t parts =>
    simp only [compOp] at h
    split at h
    · simp only [Option.bind_eq_some_iff, Option.map_eq_some_iff] at h
      obtain ⟨_, _, _, _, _, _, rfl⟩ := h
      exact .inl rfl
    · simp only [Option.bind_eq_some_iff, Option.map_eq_some_iff] at h
      obtain ⟨_, _, _, _, _, _, rfl⟩ := h
      exact .inl rfl
    · cases h
  | fieldAddr t x f =>
    simp only [compOp] at h
    split at h
    · simp only [Option.bind_eq_some_iff] at h
      obtain ⟨_, _, _, _, _, _, h⟩ := h
      obtain ⟨_, h⟩ := guardB_some h
      simp only [Option.some.injEq] at h
      subst h
      exact .inl rfl
    · cases h
  | buildSlice t n parts =>
    simp only [compOp, Option.bind_eq_some_iff] at h
    obtain ⟨_, _, _, _, _, _, _, _, h⟩ := h
    obtain ⟨_, h⟩ := guardB_some h
    simp only [Option.some.injEq] at h
    subst h
    exact .inl rfl
  | makeSlice t l c =>
    simp only [compOp, Option.bind_eq_some_iff] at h
    obtain ⟨_, _, _, _, _, _, _, _, _, _, _, _, h⟩ := h
    obtain ⟨_, h⟩ := guardB_some h
    simp only [Option.some.injEq] at h
    subst h
    exact .inl rfl
  | convert s d x =>
    simp only [compOp] at h
    split at h
    · simp only [Option.map_eq_some_iff] at h
      obtain ⟨_, _, rfl⟩ := h
      exact .inl rfl
    · cases h
  | indexAddr t x ix =>
    simp only [compOp] at h
    split at h
    · simp only [Option.bind_eq_some_iff, Option.map_eq_some_iff] at h
      obtain ⟨_, _, _, _, _, _, rfl⟩ := h
      exact .inl rfl
    · simp only [Option.bind_eq_some_iff, Option.map_eq_some_iff] at h
      obtain ⟨_, _, _, _, _, _, rfl⟩ := h
      exact .inl rfl
    · cases h
  | unOp op' t x =>
    cases op' <;> simp only [compOp, Option.map_eq_some_iff] at h <;> first | cases h; done | (obtain ⟨_, _, rfl⟩ := h; exact .inl rfl)
  | makeInterface t x =>
    simp only [compOp] at h
    split at h
    · simp only [Option.map_eq_some_iff] at h
      obtain ⟨_, _, rfl⟩ := h
      exact .inl rfl
    · cases h
  | makeFunc fn first caps =>
    cases fn <;> simp only [compOp] at h <;> first | cases h; done | skip
    · split at h
      · simp only [Option.map_eq_some_iff] at h
        obtain ⟨_, _, rfl⟩ := h
        exact .inl rfl
      · cases h
    · split at h
      · split at h
        · simp only [Option.map_eq_some_iff] at h
          obtain ⟨_, _, rfl⟩ := h
          exact .inl rfl
        · cases h
      · cases h
  | _ =>
    simp only [compOp, Option.bind_eq_some_iff, Option.map_eq_some_iff] at h
    first
    | cases h; done
    | (obtain ⟨_, _, rfl⟩ := h; exact .inl rfl)
    | (obtain ⟨_, _, _, _, rfl⟩ := h; exact .inl rfl)
    | (obtain ⟨_, _, _, _, _, _, rfl⟩ := h; exact .inl rfl)
    | (obtain ⟨_, _, _, _, _, _, _, _, rfl⟩ := h; exact .inl rfl)
    | (obtain ⟨_, _, _, _, _, _, _, _, _, _, rfl⟩ := h; exact .inl rfl)
    | (obtain ⟨_, _, _, _, _, _, _, _, _, _, _, _, rfl⟩ := h; exact .inl rfl)

/-- Every operation of the model that the clean machine has. -/
theorem op_sim (hF : SimF P F) (hBr : BOk P B) (hS : St K B L ν H w) {o : Oper} {op : COp} (hc : compOp P o.op = some op) (hE : ∀ t ∈ op.tmps, V ν (E t) (a.tmps.getD t undef)) {r : CV × CHeap} (h : opc F op E H = some r) (hL : r.2.length ≤ L) :
    Next.after rd dp P o a w K B L H ν r := by
  have hnd := comp_nodefer hc
  rcases comp_cases hc with hst | ⟨t, x, v, ho⟩ | ⟨c, ho⟩ | ⟨t, p, x, v, ho⟩
  rotate_left 3
  · have hc' := hc
    rw [ho] at hc'
    simp only [compOp, Option.bind_eq_some_iff, Option.map_eq_some_iff] at hc'
    obtain ⟨q, hq, p', hp, x', hx, v', hv, rfl⟩ := hc'
    have h1 := opd_V hp (fun t ht => hE t (by simp [COp.tmps, ht]))
    have h2 := opd_V hx (fun t ht => hE t (by simp [COp.tmps, ht]))
    have h3 := opd_V hv (fun t ht => hE t (by simp [COp.tmps, ht]))
    simp only [opc, opv, Option.map_eq_some_iff] at h
    obtain ⟨H', hH, rfl⟩ := h
    obtain ⟨w', hr, hS'⟩ := mapSet_run (P := P) hS.sim h1 h2 h3 hq hH
    have hlen := mapSetOf_len hH
    refine after_skip hnd (w' := w') (ν' := ν) ?_ ⟨hS', fun b' hb' hl' => hS.dom b' (by dsimp only at hb'; omega) hl'⟩ rfl ⟨by dsimp only; omega, fun _ _ => rfl, fun _ _ => rfl⟩
    simp [execOp, ho, hr]
  · rw [opc_steady hst, Option.map_eq_some_iff] at h
    obtain ⟨m, hm, rfl⟩ := h
    exact steady_sim hBr.glob hS hc hE hm hL
  · have hc' := hc
    rw [ho] at hc'
    simp only [compOp, Option.bind_eq_some_iff, Option.map_eq_some_iff] at hc'
    obtain ⟨n, hn, x', hx, v', hv, rfl⟩ := hc'
    have h1 := opd_V hx (fun t ht => hE t (by simp [COp.tmps, ht]))
    have h2 := opd_V hv (fun t ht => hE t (by simp [COp.tmps, ht]))
    simp only [opc, opv] at h
    split at h
    · rename_i b off hb
      split at h
      · rename_i hl
        rw [Option.map_eq_some_iff] at h
        obtain ⟨H', hs, rfl⟩ := h
        rw [hb] at h1
        simp only [V] at h1
        obtain ⟨m, hm, he⟩ := h1
        obtain ⟨w', hr, hS', hlen⟩ := store_sim (P := P) hS hn hm h2 hl hs
        refine after_skip hnd (w' := w') (ν' := ν) ?_ hS' rfl ⟨by dsimp only; omega, fun _ _ => rfl, fun _ _ => rfl⟩
        simp [execOp, ho, Instr.storeAt, he, Instr.sureAddr, hr]
      · cases h
    · cases h
  · obtain ⟨callee, args, argTypes⟩ := c
    have hc' := hc
    rw [ho] at hc'
    simp only [compOp, compCall] at hc'
    split at hc'
    · rename_i f
      rw [Option.bind_eq_some_iff] at hc'
      obtain ⟨l, hl, hc'⟩ := hc'
      obtain ⟨hfb, hc'⟩ := guardB_some hc'
      simp only [Option.some.injEq] at hc'
      subst hc'
      simp only [opc] at h
      refine call_after hF hBr hS hnd (of_decide_eq_true hfb) h hL (opds_VL hl (fun t ht => hE t (by simpa [COp.tmps] using ht))) fun fn h1 h2 h3 => ?_
      simp [execOp, ho, resolve, Act.eval, Deferred.ofValue, invoke, callFunc_run h1 h2 h3]
    · rename_i t
      simp only [Option.map_eq_some_iff] at hc'
      obtain ⟨l, hl, hop⟩ := hc'
      split at hop
      · subst hop
        simp only [opc] at h
        split at h
        · rename_i f caps hf
          have h1 : V ν (E t) (a.tmps.getD t undef) := hE t (by simp [COp.tmps, opdTmps])
          simp only [Env.ev] at hf
          rw [hf] at h1
          simp only [V] at h1
          obtain ⟨vs, hvs, hvl⟩ := h1
          split at h
          case isFalse => cases h
          rename_i hfb
          have hargs := opds_VL (a := a) (ν := ν) (E := E) hl (fun t ht => hE t (by simp [COp.tmps] at ht ⊢; exact .inr ht))
          refine call_after (args' := args.map a.eval ++ vs) hF hBr hS hnd hfb h hL (by rw [Array.toList_append]; exact hargs.append hvl) fun fn h1 h2 h3 => ?_
          have he : a.eval (.tmp t) = .func (.func f) #[] vs := hvs
          simp [execOp, ho, resolve, he, Deferred.ofValue, invoke, callFunc_run h1 h2 h3]
        · rename_i b hf
          have h1 : V ν (E t) (a.tmps.getD t undef) := hE t (by simp [COp.tmps, opdTmps])
          simp only [Env.ev] at hf
          rw [hf] at h1
          simp only [V] at h1
          obtain ⟨m, hm, hvs⟩ := h1
          have hargs := opds_VL (a := a) (ν := ν) (E := E) hl (fun t ht => hE t (by simp [COp.tmps] at ht ⊢; exact .inr ht))
          refine yield_after (args' := args.map a.eval) hF hBr hS hnd hm h hL hargs ?_
          have he : a.eval (.tmp t) = .func (.yield m.c) #[] #[] := hvs
          simp [execOp, ho, resolve, he, Deferred.ofValue, invoke]
        · cases h
      · rename_i htb
        subst hop
        simp only [opc] at h
        split at h
        · rename_i f caps hf
          have h1 : V ν (E t) (a.tmps.getD t undef) := hE t (by simp [COp.tmps, opdTmps])
          simp only [Env.ev] at hf
          rw [hf] at h1
          simp only [V] at h1
          obtain ⟨vs, hvs, hvl⟩ := h1
          split at h
          case isFalse => cases h
          rename_i hfb
          have hargs := opds_VL (a := a) (ν := ν) (E := E) hl (fun t ht => hE t (by simp [COp.tmps] at ht ⊢; exact .inr ht))
          refine call_after (args' := args.map a.eval ++ vs) hF hBr hS hnd hfb h hL (by rw [Array.toList_append]; exact hargs.append hvl) fun fn h1 h2 h3 => ?_
          have he : a.eval (.tmp t) = .func (.func f) #[] vs := hvs
          simp [execOp, ho, resolve, he, Deferred.ofValue, invoke, callFunc_run h1 h2 h3]
        · rename_i name ty x hf
          rw [Option.bind_eq_some_iff] at h
          obtain ⟨f, hmf, h⟩ := h
          have h1 : V ν (E t) (a.tmps.getD t undef) := hE t (by simp [COp.tmps, opdTmps])
          simp only [Env.ev] at hf
          rw [hf] at h1
          simp only [V] at h1
          obtain ⟨u, hu, u', rfl, hux⟩ := h1
          have hargs := opds_VL (a := a) (ν := ν) (E := E) hl (fun t ht => hE t (by simp [COp.tmps] at ht ⊢; exact .inr ht))
          refine call_after (args' := #[u'] ++ args.map a.eval) hF hBr hS hnd (methIn_table hmf).choose_spec.choose_spec.choose_spec.2.2.2.2.2 h hL (by rw [Array.toList_append]; simp only [VL, List.cons_append, List.nil_append]; exact ⟨_, _, rfl, hux, hargs⟩) fun fn h1 h2 h3 => ?_
          have he : a.eval (.tmp t) = .func (.method name) #[.iface ty u'] #[] := hu
          have hcm := callMethod_run (w := w) hmf u' (args.map a.eval)
          have hex : (#[Value.iface ty u'] ++ args.map a.eval).extract 1 (#[Value.iface ty u'] ++ args.map a.eval).size = args.map a.eval := by
            apply Array.ext'
            simp
            exact List.take_of_length_le (by simp)
          have hget : (#[Value.iface ty u'] ++ args.map a.eval)[0]? = some (.iface ty u') := by rw [Array.getElem?_append_left (by simp)]; rfl
          simp only [execOp, ho, resolve, he, Deferred.ofValue, Sem.run_bind, Sem.run_pure, Result.andThen_ok, invoke, hget, hex, hcm, callFunc_run h1 h2 h3]
        · rename_i b hf
          have h1 : V ν (E t) (a.tmps.getD t undef) := hE t (by simp [COp.tmps, opdTmps])
          simp only [Env.ev] at hf
          rw [hf] at h1
          simp only [V] at h1
          obtain ⟨m, hm, hvs⟩ := h1
          have hargs := opds_VL (a := a) (ν := ν) (E := E) hl (fun t ht => hE t (by simp [COp.tmps] at ht ⊢; exact .inr ht))
          refine yield_after (args' := args.map a.eval) hF hBr hS hnd hm h hL hargs ?_
          have he : a.eval (.tmp t) = .func (.yield m.c) #[] #[] := hvs
          simp [execOp, ho, resolve, he, Deferred.ofValue, invoke]
        · cases h
    · rename_i recv name
      simp only [Option.bind_eq_some_iff, Option.map_eq_some_iff] at hc'
      obtain ⟨x, hx, l, hl, rfl⟩ := hc'
      simp only [opc] at h
      split at h
      · rename_i ty y hf
        rw [Option.bind_eq_some_iff] at h
        obtain ⟨f, hmf, h⟩ := h
        have h1 := opd_V hx (fun t ht => hE t (by simp [COp.tmps, ht]))
        rw [hf] at h1
        simp only [V] at h1
        obtain ⟨u', hu, hux⟩ := h1
        have hargs := opds_VL (a := a) (ν := ν) (E := E) hl (fun t ht => hE t (by simp [COp.tmps] at ht ⊢; exact .inr ht))
        refine call_after (args' := #[u'] ++ args.map a.eval) hF hBr hS hnd (methIn_table hmf).choose_spec.choose_spec.choose_spec.2.2.2.2.2 h hL (by rw [Array.toList_append]; simp only [VL, List.cons_append, List.nil_append]; exact ⟨_, _, rfl, hux, hargs⟩) fun fn h1 h2 h3 => ?_
        have hcm := callMethod_run (w := w) hmf u' (args.map a.eval)
        have hex : (#[Value.iface ty u'] ++ args.map a.eval).extract 1 (#[Value.iface ty u'] ++ args.map a.eval).size = args.map a.eval := by
          apply Array.ext'
          simp
          exact List.take_of_length_le (by simp)
        have hget : (#[Value.iface ty u'] ++ args.map a.eval)[0]? = some (.iface ty u') := by rw [Array.getElem?_append_left (by simp)]; rfl
        simp only [execOp, ho, resolve, hu, Sem.run_bind, Sem.run_pure, Result.andThen_ok, invoke, hget, hex, hcm, callFunc_run h1 h2 h3]
      · cases h
    · split at hc'
      · rename_i p x t hxs hts
        simp only [Option.bind_eq_some_iff, Option.map_eq_some_iff] at hc'
        obtain ⟨q, hq, p', hp, x', hx, rfl⟩ := hc'
        have ha : args = #[p, x] := by rw [← Array.toArray_toList (xs := args), hxs]
        subst ha
        have h1 := opd_V hp (fun t ht => hE t (by simp [COp.tmps, ht]))
        have h2 := opd_V hx (fun t ht => hE t (by simp [COp.tmps, ht]))
        simp only [opc, opv, Option.map_eq_some_iff] at h
        obtain ⟨H', hH, rfl⟩ := h
        obtain ⟨w', hr, hS'⟩ := mapDel_run (P := P) hS.sim h1 h2 (ty := o.type) (t2 := t) hq hH (ts := argTypes) hts
        have hlen := mapDelOf_len hH
        refine after_value hnd (v' := .tuple #[]) (w' := w') (ν' := ν) ?_ ⟨hS', fun b' hb' hl' => hS.dom b' (by dsimp only at hb'; omega) hl'⟩ (by simp [V, VL]) ⟨by dsimp only; omega, fun _ _ => rfl, fun _ _ => rfl⟩
        simp [execOp, ho, resolve, invoke, builtin, hr]
      · cases hc'
    · split at hc'
      · split at hc'
        · simp only [Option.map_eq_some_iff] at hc'
          obtain ⟨_, _, rfl⟩ := hc'
          rw [opc_steady rfl, Option.map_eq_some_iff] at h
          obtain ⟨m, hm, rfl⟩ := h
          exact steady_sim hBr.glob hS hc hE hm hL
        simp only [Option.bind_eq_some_iff, Option.map_eq_some_iff] at hc'
        obtain ⟨_, _, _, _, rfl⟩ := hc'
        rw [opc_steady rfl, Option.map_eq_some_iff] at h
        obtain ⟨m, hm, rfl⟩ := h
        exact steady_sim hBr.glob hS hc hE hm hL
      · cases hc'
    · split at hc'
      · split at hc'
        · simp only [Option.map_eq_some_iff] at hc'
          obtain ⟨_, _, rfl⟩ := hc'
          rw [opc_steady rfl, Option.map_eq_some_iff] at h
          obtain ⟨m, hm, rfl⟩ := h
          exact steady_sim hBr.glob hS hc hE hm hL
        · cases hc'
      · cases hc'
    · split at hc'
      · split at hc'
        · simp only [Option.map_eq_some_iff] at hc'
          obtain ⟨_, _, rfl⟩ := hc'
          rw [opc_steady rfl, Option.map_eq_some_iff] at h
          obtain ⟨m, hm, rfl⟩ := h
          exact steady_sim hBr.glob hS hc hE hm hL
        · cases hc'
      · cases hc'
    · split at hc'
      · rename_i s x t u hxs hts
        simp only [Option.bind_eq_some_iff] at hc'
        obtain ⟨e, he, e', he', n, hn, b, hb, z, hz, s', hs, x', hx, hg⟩ := hc'
        obtain ⟨hgd, hop⟩ := guardB_some hg
        simp only [Option.some.injEq] at hop
        subst hop
        simp only [Bool.and_eq_true, decide_eq_true_eq] at hgd
        obtain ⟨⟨⟨hn0, hb0⟩, hb4⟩, hzl⟩ := hgd
        obtain ⟨i, v, hi, hv, hV⟩ := zeroOf_V ν hz
        have ha : args = #[s, x] := by rw [← Array.toArray_toList (xs := args), hxs]
        have hat : argTypes = #[t, u] := by rw [← Array.toArray_toList (xs := argTypes), hts]
        subst ha; subst hat
        have h1 := opd_V hs (fun t ht => hE t (by simp [COp.tmps, ht]))
        have h2 := opd_V hx (fun t ht => hE t (by simp [COp.tmps, ht]))
        simp only [opc, opv, Option.bind_eq_some_iff] at h
        obtain ⟨q, hq, h⟩ := h
        have hT : AppT P t u n e i v := by
          refine ⟨sliceElem_und he, ⟨e', sliceElem_und he'⟩, hi, hv, ?_, ?_, ?_, hn0⟩
          · obtain ⟨i', hi', rfl⟩ := sizeT_info hn
            rw [hi] at hi'; simp only [Option.some.injEq] at hi'; subst hi'; rfl
          · have := hV.length; simp at this; omega
          · simp only [bytesT, hi, Option.map_some, Option.some.injEq] at hb; omega
        obtain ⟨v', w', ν', hr, hS', hV', hx'⟩ := append_sim (P := P) (ty := o.type) hS hT h1 h2 hq h hL
        exact after_value hnd (v' := v') (by simp [execOp, ho, resolve, invoke, builtin, hr]) hS' hV' hx'
      · cases hc'
    · split at hc'
      · rename_i d s t u hxs hts
        simp only [Option.bind_eq_some_iff, Option.map_eq_some_iff] at hc'
        obtain ⟨e, he, e', he', n, hn, d', hd, s', hs, rfl⟩ := hc'
        have ha : args = #[d, s] := by rw [← Array.toArray_toList (xs := args), hxs]
        have hat : argTypes = #[t, u] := by rw [← Array.toArray_toList (xs := argTypes), hts]
        subst ha; subst hat
        have h1 := opd_V hd (fun t ht => hE t (by simp [COp.tmps, ht]))
        have h2 := opd_V hs (fun t ht => hE t (by simp [COp.tmps, ht]))
        have hu := sliceElem_und he
        have idle : ∀ (db sb : Option Addr) (dl dc sl sc : Nat), a.eval d = .slice db dl dc → a.eval s = .slice sb sl sc → Nat.min sl dl = 0 → (execOp a.eval o).run P w = .ok (.value (.int .i64 0)) w := by
          intro db sb dl dc sl sc e1 e2 e3
          have hf : (Builtin.firstCells n 0 (.slice sb sl sc)).run P w = .ok #[] w := by
            cases sb with
            | none => exact run_firstCells_none w _ _ _ _
            | some ad => exact run_firstCells_some w n 0 ad sl sc [] (by simp) (by simp)
          cases db <;> simp [execOp, ho, resolve, invoke, builtin, Builtin.copy_, run_underlying hu, e1, e2, Builtin.lenOf, e3, sizeT_run hn, hf, goInt, storeCells]
        simp only [opc, opv] at h
        split at h
        · rename_i b1 o1 l1 c1 z1 t1 b2 o2 l2 c2 z2 t2 e1 e2
          rw [e1] at h1
          rw [e2] at h2
          simp only [V] at h1 h2
          obtain ⟨m1, k1, f1, hm1, hz1, hv1, hl1, ht1, ho1, hfit1⟩ := h1
          obtain ⟨m2, k2, f2, hm2, hz2, hv2, hl2, ht2, ho2, hfit2⟩ := h2
          split at h
          · rename_i h0
            simp only [Option.some.injEq] at h
            subst h
            exact after_value hnd (idle _ _ _ _ _ _ hv1 hv2 h0) hS (by simp [V]) (Ext.refl _ _ _)
          · rename_i h0
            rw [Option.bind_eq_some_iff] at h
            obtain ⟨cs, hcs, h⟩ := h
            rw [Option.map_eq_some_iff] at h
            obtain ⟨H', hH', rfl⟩ := h
            have f1' := ho1.resolve_left (by omega)
            have f2' := ho2.resolve_left (by omega)
            obtain ⟨hlen, vs, hvs, hcell⟩ := hS.sim.loadN hcs hm2
            obtain ⟨w', hst, hS', hle⟩ := row_sim (P := P) hS hm1 hvs hH'
            have hf : (Builtin.firstCells n (Nat.min l2 l1) (.slice (some ⟨m2.c, f2, none⟩) l2 k2)).run P w = .ok vs.toArray w :=
              run_firstCells_some w n _ _ _ _ vs (by rw [hvs.length, hlen]) fun j u hu => by rw [Addr.add_lit, f2']; exact hcell j u hu
            refine after_value hnd (v' := .int .i64 (min l2 l1 : Nat)) (w' := w') (ν' := ν) ?_ hS' (by simp [V]) ⟨by dsimp only; omega, fun _ _ => rfl, fun _ _ => rfl⟩
            have hst' : (storeCells ⟨m1.c, f1, none⟩ vs).run P w = .ok () w' := by rw [f1']; exact hst
            simp [execOp, ho, resolve, invoke, builtin, Builtin.copy_, run_underlying hu, hv1, hv2, Builtin.lenOf, sizeT_run hn, hf, goInt, hst']
        · rename_i b2 o2 l2 c2 z2 t2 e1 e2
          rw [e1] at h1
          rw [e2] at h2
          simp only [V] at h1 h2
          obtain ⟨m2, k2, f2, hm2, hz2, hv2, _⟩ := h2
          simp only [Option.some.injEq] at h
          subst h
          exact after_value hnd (idle _ _ _ _ _ _ h1 hv2 (Nat.min_zero _)) hS (by simp [V]) (Ext.refl _ _ _)
        · rename_i b2 o2 l2 c2 z2 t2 e1 e2
          rw [e1] at h1
          rw [e2] at h2
          simp only [V] at h1 h2
          obtain ⟨m2, k2, f2, hm2, hz2, hv2, _⟩ := h1
          simp only [Option.some.injEq] at h
          subst h
          exact after_value hnd (idle _ _ _ _ _ _ hv2 h2 (Nat.zero_min _)) hS (by simp [V]) (Ext.refl _ _ _)
        · rename_i e1 e2
          rw [e1] at h1
          rw [e2] at h2
          simp only [V] at h1 h2
          simp only [Option.some.injEq] at h
          subst h
          exact after_value hnd (idle _ _ _ _ _ _ h1 h2 (Nat.zero_min _)) hS (by simp [V]) (Ext.refl _ _ _)
        · cases h
      · cases hc'
    · split at hc'
      · rename_i s t hxs hts
        have ha : args = #[s] := by rw [← Array.toArray_toList (xs := args), hxs]
        subst ha
        split at hc'
        · rename_i q hq
          simp only [Option.map_eq_some_iff] at hc'
          obtain ⟨s', hs, rfl⟩ := hc'
          have h1 := opd_V hs hE
          obtain ⟨k, e, _, _, hu, _⟩ := mapT_und hq
          simp only [opc, opv] at h
          split at h
          · rename_i b hb
            rw [Option.map_eq_some_iff] at h
            obtain ⟨H', hH, rfl⟩ := h
            rw [hb] at h1
            obtain ⟨w', hr, hS'⟩ := mapClear_run (P := P) hS.sim h1 (ty := o.type) hq hH (ts := argTypes) hts
            have hlen := setEntries_len hH
            refine after_value hnd (v' := .tuple #[]) (w' := w') (ν' := ν) ?_ ⟨hS', fun b' hb' hl' => hS.dom b' (by dsimp only at hb'; omega) hl'⟩ (by simp [V, VL]) ⟨by dsimp only; omega, fun _ _ => rfl, fun _ _ => rfl⟩
            simp [execOp, ho, resolve, invoke, builtin, hr]
          · rename_i hb
            simp only [Option.some.injEq] at h
            subst h
            rw [hb] at h1
            simp only [V] at h1
            refine after_value hnd (v' := .tuple #[]) (w' := w) (ν' := ν) ?_ hS (by simp [V, VL]) (Ext.refl _ _ _)
            simp [execOp, ho, resolve, invoke, builtin, Builtin.clear_, hts, run_underlying hu, h1]
          · cases h
        simp only [Option.bind_eq_some_iff, Option.map_eq_some_iff] at hc'
        obtain ⟨e, he, z, hz, s', hs, rfl⟩ := hc'
        have h1 := opd_V hs hE
        obtain ⟨i, v, hi, hv, hV⟩ := zeroOf_V ν hz
        have hu := sliceElem_und he
        simp only [opc, opv] at h
        split at h
        · rename_i b1 o1 l1 c1 z1 t1 e1
          rw [e1] at h1
          simp only [V] at h1
          obtain ⟨m1, k1, f1, hm1, hz1, hv1, hl1, ht1, ho1, hfit1⟩ := h1
          split at h
          · rename_i h0
            subst h0
            simp only [Option.some.injEq] at h
            subst h
            refine after_value hnd (v' := .tuple #[]) (w' := w) (ν' := ν) ?_ hS (by simp [V, VL]) (Ext.refl _ _ _)
            simp [execOp, ho, resolve, invoke, builtin, Builtin.clear_, hts, run_underlying hu, hv1]
          · rename_i h0
            rw [Option.map_eq_some_iff] at h
            obtain ⟨H', hH', rfl⟩ := h
            have f1' := ho1.resolve_left (by omega)
            have hz0 := VL_replicate hV l1
            rw [← range_mod] at hz0
            obtain ⟨w', hst, hS', hle⟩ := row_sim (P := P) hS hm1 hz0 hH'
            refine after_value hnd (v' := .tuple #[]) (w' := w') (ν' := ν) ?_ hS' (by simp [V, VL]) ⟨by dsimp only; omega, fun _ _ => rfl, fun _ _ => rfl⟩
            have hst' : (storeCells ⟨m1.c, f1, none⟩ (Builtin.zeroCells v.cells l1).toList).run P w = .ok () w' := by rw [f1']; exact hst
            obtain ⟨l, rfl⟩ : ∃ l, l1 = l + 1 := ⟨l1 - 1, by omega⟩
            refine execOp_value (s := Builtin.clear_ argTypes o.type #[a.eval s]) (by simp [execOp, ho, resolve, invoke, builtin]) ?_
            simp only [Builtin.clear_, hv1]
            simp [hts, run_underlying hu, zeroValue_run hi hv, hst']
        · rename_i e1
          rw [e1] at h1
          simp only [V] at h1
          simp only [Option.some.injEq] at h
          subst h
          refine after_value hnd (v' := .tuple #[]) (w' := w) (ν' := ν) ?_ hS (by simp [V, VL]) (Ext.refl _ _ _)
          simp [execOp, ho, resolve, invoke, builtin, Builtin.clear_, hts, run_underlying hu, h1]
        · cases h
      · cases hc'
    · cases hc'
end
end Go.Cs

/- A region that draws its order: what the compiler asks of it, and the clean machine's way through it. -/
namespace Go.Cs
open Go Go.RowKit

/-- How many changing operations there are among the first ones. -/
def cntM (l : List DStmt) (q : Nat) : Nat := ((l.take q).filter fun x => x.kind == 3).length

theorem cntM_succ {l : List DStmt} {q : Nat} {d : DStmt} (h : l[q]? = some d) : cntM l (q + 1) = cntM l q + if d.kind = 3 then 1 else 0 := by
  unfold cntM
  rw [List.take_add_one, h]
  simp only [Option.toList_some, List.filter_append, List.length_append]
  congr 1
  by_cases h3 : d.kind = 3 <;> simp [h3]

structure DFacts (P : Program) (N : Nat) (ops : Array Oper) (an : List (List Nat)) (l : List DStmt) : Prop where
  len : l.length = ops.size
  stmt : ∀ (q : Nat) (d : DStmt), l[q]? = some d → ∃ o, ops[d.no]? = some o ∧ compStmt P N ops o = some d.s
  kind : ∀ (q : Nat) (d : DStmt), l[q]? = some d → (d.kind = 0 ∨ d.kind = 1 ∨ d.kind = 3) ∧ (d.kind = 0 → kindOf d.s.op = 0)
  all : ∀ j, j < ops.size → ∃ (q : Nat) (d : DStmt), l[q]? = some d ∧ d.no = j
  inj : ∀ (q r : Nat) (d c : DStmt), l[q]? = some d → l[r]? = some c → d.no = c.no → q = r
  dst : ∀ (q r : Nat) (d c : DStmt) (t : Nat), l[q]? = some d → l[r]? = some c → c.s.dst = some t → d.s.dst = some t → q = r
  reads : ∀ (q r : Nat) (d c : DStmt) (t : Nat), l[q]? = some d → l[r]? = some c → c.s.dst = some t → t ∈ d.s.reads → (r < q ∧ c.no ∈ an.getD d.no []) ∨ (q ≤ r ∧ (q = r ∨ d.no ∈ an.getD c.no []))
  chain : ∀ (q r : Nat) (d c : DStmt), l[q]? = some d → l[r]? = some c → c.kind = 3 → r < q → (d.kind = 3 ∨ cntM l r < d.low) → c.no ∈ an.getD d.no []
  before : ∀ (q r : Nat) (d c : DStmt), l[q]? = some d → l[r]? = some c → d.kind = 3 → c.kind ≠ 3 → r < q → c.no ∈ an.getD d.no []
  low : ∀ (q : Nat) (d : DStmt), l[q]? = some d → d.low ≤ cntM l q
  anc : ∀ (j i : Nat) (o : Oper), ops[j]? = some o → i ∈ an.getD j [] → ∃ e ∈ edgesOf o, e < j ∧ (i = e ∨ i ∈ an.getD e [])
  edges : ∀ (j : Nat) (o : Oper), ops[j]? = some o → ∀ e ∈ edgesOf o, e < j

theorem zipIdx_all {α : Type} {l : List α} {f : α × Nat → Bool} (h : l.zipIdx.all f = true) {i : Nat} {x : α} (hx : l[i]? = some x) : f (x, i) = true := by
  rw [List.all_eq_true] at h
  exact h _ (List.mem_iff_getElem?.2 ⟨i, by simp [List.getElem?_zipIdx, hx]⟩)

theorem dFacts {P : Program} {N : Nat} {ops : Array Oper} {ss : List CStmt} (hc : allSome (ops.toList.map (compStmt P N ops)) = some ss) {l : List DStmt} (hl : ∃ ks, l = compD ss (ancs ops.toList) ks)
    (hok : dOk ops.toList ss (ancs ops.toList) l = true) : DFacts P N ops (ancs ops.toList) l := by
  generalize han : ancs ops.toList = an at *
  unfold dOk at hok
  simp only [Bool.and_eq_true] at hok
  obtain ⟨⟨⟨⟨⟨⟨⟨hanc, hedge⟩, hlen⟩, hsl⟩, hkind⟩, hall⟩, hpair⟩, hlow⟩ := hok
  simp only [decide_eq_true_eq, Array.length_toList] at hlen hsl
  have hno : ∀ (q : Nat) (d : DStmt), l[q]? = some d → d.no < ops.size ∧ (d.kind = 0 ∨ d.kind = 1 ∨ d.kind = 3) ∧ (d.kind = 0 → kindOf d.s.op = 0) := by
    intro q d hd
    rw [List.all_eq_true] at hkind
    have := hkind d (List.mem_of_getElem? hd)
    simp only [Bool.and_eq_true, decide_eq_true_eq, Array.length_toList] at this
    refine ⟨this.1.1, by have h := this.1.2; simp only [Bool.or_eq_true, beq_iff_eq] at h; omega, fun h0 => ?_⟩
    have h2 := this.2
    rw [h0] at h2
    simpa using h2
  have hpr : ∀ (q r : Nat) (d c : DStmt), l[q]? = some d → l[r]? = some c → _ := fun q r d c hd hc => zipIdx_all (zipIdx_all hpair hd) hc
  refine ⟨hlen, fun q d hd => ?_, fun q d hd => (hno q d hd).2, fun j hj => ?_, fun q r d c hd hc' he => ?_, fun q r d c t hd hc' h1 h2 => ?_, fun q r d c t hd hc' h1 h2 => ?_, fun q r d c hd hc' h1 h2 h3 => ?_,
    fun q r d c hd hc' h1 h2 h3 => ?_, fun q d hd => ?_, fun j i o ho hi => ?_, fun j o ho e he => ?_⟩
  · obtain ⟨ks, rfl⟩ := hl
    unfold compD at hd
    rw [List.getElem?_map, Option.map_eq_some_iff] at hd
    obtain ⟨j, hj, rfl⟩ := hd
    dsimp only
    have hj2 : j < ops.size := (hno q _ (by unfold compD; rw [List.getElem?_map, hj]; rfl)).1
    have hs : ss[j]? = some (ss.getD j default) := by rw [List.getD_eq_getElem?_getD, List.getElem?_eq_getElem (by omega)]; rfl
    have hx := allSome_get hc hs
    rw [List.getElem?_map, Option.map_eq_some_iff] at hx
    obtain ⟨o, ho, hso⟩ := hx
    exact ⟨o, by simpa using ho, hso⟩
  · rw [List.all_eq_true] at hall
    have := hall j (List.mem_range.2 (by simpa using hj))
    rw [List.any_eq_true] at this
    obtain ⟨d, hd, hdj⟩ := this
    obtain ⟨q, hq⟩ := List.mem_iff_getElem?.1 hd
    simp only [Bool.and_eq_true, beq_iff_eq] at hdj
    exact ⟨q, d, hq, hdj.1⟩
  · have := hpr q r d c hd hc'
    simp only [Bool.and_eq_true] at this
    have h1 := this.1.1.1
    simp only [Bool.or_eq_true, decide_eq_true_eq, bne_iff_ne] at h1
    exact h1.resolve_right (fun h => h he)
  · have := hpr q r d c hd hc'
    simp only [Bool.and_eq_true] at this
    have h3 := this.1.1.2
    rw [h1] at h3
    simp only [Bool.and_eq_true, Bool.or_eq_true, decide_eq_true_eq, bne_iff_ne] at h3
    exact h3.1.resolve_right (fun h => h h2)
  · have := hpr q r d c hd hc'
    simp only [Bool.and_eq_true] at this
    have h3 := this.1.1.2
    rw [h1] at h3
    simp only [Bool.and_eq_true, Bool.or_eq_true, decide_eq_true_eq, Bool.not_eq_true', List.contains_iff_mem] at h3
    rcases h3.2 with (h | h) | h
    · rw [List.contains_iff_mem.2 h2] at h; cases h
    · exact .inl h
    · exact .inr h
  · have := hpr q r d c hd hc'
    simp only [Bool.and_eq_true] at this
    have h4 := this.1.2
    simp only [Bool.or_eq_true, Bool.not_eq_true', List.contains_iff_mem] at h4
    rcases h4 with h | h
    · have h5 : (c.kind == 3 && decide (r < q) && (d.kind == 3 || decide (((l.take r).filter fun x => x.kind == 3).length < d.low))) = true := by
        simp only [Bool.and_eq_true, beq_iff_eq, decide_eq_true_eq, Bool.or_eq_true]
        exact ⟨⟨h1, h2⟩, h3⟩
      rw [h5] at h; cases h
    · exact h
  · have := hpr q r d c hd hc'
    simp only [Bool.and_eq_true] at this
    have h4 := this.2
    simp only [Bool.or_eq_true, Bool.not_eq_true', List.contains_iff_mem] at h4
    rcases h4 with h | h
    · have h5 : (d.kind == 3 && c.kind != 3 && decide (r < q)) = true := by
        simp only [Bool.and_eq_true, beq_iff_eq, decide_eq_true_eq, bne_iff_ne]
        exact ⟨⟨h1, h2⟩, h3⟩
      rw [h5] at h; cases h
    · exact h
  · have := zipIdx_all hlow hd
    unfold cntM
    simpa using this
  · have h1 := zipIdx_all hanc (i := j) (x := o) (by simpa using ho)
    dsimp only at h1
    rw [List.all_eq_true] at h1
    have h2 := h1 i hi
    rw [List.any_eq_true] at h2
    obtain ⟨e, he, h3⟩ := h2
    simp only [Bool.and_eq_true, Bool.or_eq_true, decide_eq_true_eq, List.contains_iff_mem] at h3
    exact ⟨e, he, h3.1, h3.2⟩
  · have h1 := zipIdx_all hedge (i := j) (x := o) (by simpa using ho)
    dsimp only at h1
    rw [List.all_eq_true] at h1
    simpa using h1 e he

theorem load1_app {H : CHeap} {b o : Nat} {v : CV} (bs : List Blk) (h : load1 H b o = some v) : load1 (H ++ bs) b o = some v := by
  unfold load1 at *
  split at h
  · rename_i blk hb
    rw [List.getElem?_append_left (List.getElem?_eq_some_iff.1 hb).1, hb]
    exact h
  · cases h

theorem loadN_app {H : CHeap} {b o n : Nat} {v : List CV} (bs : List Blk) (h : loadN H b o n = some v) : loadN (H ++ bs) b o n = some v := by
  unfold loadN at *
  split at h
  · rename_i blk hb
    rw [List.getElem?_append_left (List.getElem?_eq_some_iff.1 hb).1, hb]
    exact h
  · cases h

theorem elems_app {H : CHeap} {n : Nat} {c : CV} {q : Nat × List CV} (bs : List Blk) (h : elems H n c = some q) : elems (H ++ bs) n c = some q := by
  unfold elems at *
  split at h
  · exact h
  · split at h
    · rename_i h0; rw [if_pos h0]; exact h
    · rename_i h0
      rw [if_neg h0]
      rw [Option.map_eq_some_iff] at h ⊢
      obtain ⟨cs, hcs, rfl⟩ := h
      exact ⟨cs, loadN_app bs hcs, rfl⟩
  · cases h

theorem appendMk_app {H : CHeap} {esz n : Nat} {s : CV} {new : List CV} {m : Option Blk × (Nat → CV)} (bs : List Blk) (h : appendMk H esz s n new = some m) : appendMk (H ++ bs) esz s n new = some m := by
  unfold appendMk at *
  split at h
  · exact h
  · split at h
    · rename_i h0; rw [if_pos h0]; exact h
    · rename_i h0
      rw [if_neg h0]
      split at h
      · rename_i hc
        rw [if_pos hc]
        rw [Option.map_eq_some_iff] at h ⊢
        obtain ⟨old, ho, rfl⟩ := h
        refine ⟨old, ?_, rfl⟩
        split at ho
        · rename_i h0; rw [if_pos h0]; exact ho
        · rename_i h0; rw [if_neg h0]; exact loadN_app bs ho
      · cases h
  · cases h

/-- A steady operation comes to the same where blocks have been added. -/
theorem entriesOf_app {H : CHeap} {c : CV} {es : List CV} (bs : List Blk) (h : entriesOf H c = some es) : entriesOf (H ++ bs) c = some es := by
  unfold entriesOf at h ⊢
  split at h
  · exact h
  · split at h
    · rename_i k hk
      rw [List.getElem?_append_left (List.getElem?_eq_some_iff.1 hk).1]
      simp only [hk]
      exact h
    · cases h
  · cases h
theorem mkOf_app {op : COp} {E : Env} {H : CHeap} {m : Option Blk × (Nat → CV)} (bs : List Blk) (h : mkOf op E H = some m) : mkOf op E (H ++ bs) = some m := by
  cases op with
  | load g n a =>
    simp only [mkOf] at h ⊢
    split at h
    · split at h
      · rename_i hg
        rw [if_pos hg]
        rw [Option.map_eq_some_iff] at h ⊢
        obtain ⟨cs, hcs, rfl⟩ := h
        exact ⟨cs, loadN_app bs hcs, rfl⟩
      · rename_i hg
        rw [if_neg hg]
        rw [Option.map_eq_some_iff] at h ⊢
        obtain ⟨v, hv, rfl⟩ := h
        exact ⟨v, load1_app bs hv, rfl⟩
    · cases h
  | append n s x =>
    simp only [mkOf, Option.bind_eq_some_iff] at h ⊢
    obtain ⟨q, hq, h⟩ := h
    exact ⟨q, elems_app bs hq, appendMk_app bs h⟩
  | mapLen m =>
    simp only [mkOf, Option.map_eq_some_iff] at h ⊢
    obtain ⟨es, hes, rfl⟩ := h
    exact ⟨es, entriesOf_app bs hes, rfl⟩
  | mapGet ok k z m x =>
    simp only [mkOf, Option.map_eq_some_iff] at h ⊢
    obtain ⟨v, hv, rfl⟩ := h
    refine ⟨v, ?_, rfl⟩
    unfold mapGetOf at hv ⊢
    split at hv
    · split at hv
      · rename_i hk
        subst hk
        rw [Option.bind_eq_some_iff] at hv
        obtain ⟨es, hes, hv⟩ := hv
        simp only [if_true, entriesOf_app bs hes, Option.bind_some]
        exact hv
      · cases hv
    · cases hv
  | _ => exact h

/-- An operation that looks at its operands alone. -/
theorem mkOf_pure {op : COp} (hk : kindOf op = 0) (E : Env) (H H' : CHeap) : mkOf op E H = mkOf op E H' := by
  cases op <;> first | rfl | cases hk

/-! ### The way of the clean machine -/

abbrev DSt := Env × CHeap × List CHeap

open Classical in
noncomputable def stepD (F : CallF) (d : DStmt) (s : DSt) : Option DSt :=
  if wanted d.s.guard s.1 = false then some (s.1.put d.s.dst .undef, s.2.1, if d.kind = 3 then s.2.1 :: s.2.2 else s.2.2)
  else if d.kind = 3 then (opc F d.s.op s.1 s.2.1).map fun p => (s.1.put d.s.dst p.1, p.2, s.2.1 :: s.2.2)
  else (mkOf d.s.op s.1 s.2.1).bind fun m =>
    if d.kind = 1 → ∀ H' ∈ s.2.2.take (s.2.2.length - d.low), mkOf d.s.op s.1 H' = some m then some (s.1.put d.s.dst (made s.2.1 m).1, (made s.2.1 m).2, s.2.2) else none

structure Way (F : CallF) (l : List DStmt) (st : Nat → DSt) : Prop where
  step : ∀ (q : Nat) (d : DStmt), l[q]? = some d → stepD F d (st q) = some (st (q + 1))

theorem evD_way {F : CallF} : ∀ {l : List DStmt} {E : Env} {H : CHeap} {hs : List CHeap} {r : Env × CHeap}, evD F l E H hs = some r → ∃ st, st 0 = (E, H, hs) ∧ (st l.length).1 = r.1 ∧ (st l.length).2.1 = r.2 ∧ Way F l st
  | [], E, H, hs, r, h => by
    simp only [evD, Option.some.injEq] at h
    subst h
    exact ⟨fun _ => (E, H, hs), rfl, rfl, rfl, ⟨fun q d hd => by simp at hd⟩⟩
  | d :: l, E, H, hs, r, h => by
    have key : ∃ s, stepD F d (E, H, hs) = some s ∧ evD F l s.1 s.2.1 s.2.2 = some r := by
      unfold evD at h
      unfold stepD
      dsimp only
      split at h
      · rename_i hw
        rw [if_pos hw]
        exact ⟨_, rfl, h⟩
      · rename_i hw
        rw [if_neg hw]
        split at h
        · rename_i h3
          rw [if_pos h3]
          rw [Option.bind_eq_some_iff] at h
          obtain ⟨p, hp, h⟩ := h
          exact ⟨_, by rw [hp]; rfl, h⟩
        · rename_i h3
          rw [if_neg h3]
          rw [Option.bind_eq_some_iff] at h
          obtain ⟨m, hm, h⟩ := h
          split at h
          · rename_i hck
            exact ⟨_, by rw [hm, Option.bind_some, if_pos hck], h⟩
          · cases h
    obtain ⟨s, hs1, hs2⟩ := key
    obtain ⟨st, h0, h1, h2, h3⟩ := evD_way hs2
    refine ⟨fun q => match q with | 0 => (E, H, hs) | q + 1 => st q, rfl, h1, h2, ⟨fun q c hc => ?_⟩⟩
    cases q with
    | zero =>
      simp at hc
      subst hc
      dsimp only
      rw [hs1, h0]
    | succ q =>
      simp at hc
      exact h3.step q c hc

section
variable {F : CallF} {l : List DStmt} {st : Nat → DSt}

theorem stepD_env {d : DStmt} {s s' : DSt} (h : stepD F d s = some s') : ∃ v, s'.1 = s.1.put d.s.dst v := by
  unfold stepD at h
  split at h
  · simp only [Option.some.injEq] at h; subst h; exact ⟨_, rfl⟩
  · split at h
    · rw [Option.map_eq_some_iff] at h; obtain ⟨p, _, rfl⟩ := h; exact ⟨_, rfl⟩
    · rw [Option.bind_eq_some_iff] at h
      obtain ⟨m, _, h⟩ := h
      split at h
      · simp only [Option.some.injEq] at h; subst h; exact ⟨_, rfl⟩
      · cases h

theorem stepD_len (hF : LenF F) {d : DStmt} {s s' : DSt} (h : stepD F d s = some s') : s.2.1.length ≤ s'.2.1.length := by
  unfold stepD at h
  split at h
  · simp only [Option.some.injEq] at h; subst h; exact Nat.le_refl _
  · split at h
    · rw [Option.map_eq_some_iff] at h; obtain ⟨p, hp, rfl⟩ := h; exact opc_len hF hp
    · rw [Option.bind_eq_some_iff] at h
      obtain ⟨m, _, h⟩ := h
      split at h
      · simp only [Option.some.injEq] at h; subst h; exact made_len _ _
      · cases h

theorem stepD_steady {d : DStmt} {s s' : DSt} (h : stepD F d s = some s') (h3 : d.kind ≠ 3) : s'.2.1 = s.2.1 ∨ ∃ b, s'.2.1 = s.2.1 ++ [b] := by
  unfold stepD at h
  split at h
  · simp only [Option.some.injEq] at h; subst h; exact .inl rfl
  · rw [Option.bind_eq_some_iff] at h
    obtain ⟨m, _, h⟩ := h
    split at h
    · simp only [Option.some.injEq] at h; subst h
      unfold made
      split
      · exact .inl rfl
      · exact .inr ⟨_, rfl⟩
    · cases h

theorem stepD_hs {d : DStmt} {s s' : DSt} (h : stepD F d s = some s') : s'.2.2 = if d.kind = 3 then s.2.1 :: s.2.2 else s.2.2 := by
  unfold stepD at h
  split at h
  · simp only [Option.some.injEq] at h; subst h; rfl
  · split at h
    · rename_i h3; rw [Option.map_eq_some_iff] at h; obtain ⟨p, _, rfl⟩ := h; rw [if_pos h3]
    · rename_i h3
      rw [Option.bind_eq_some_iff] at h
      obtain ⟨m, _, h⟩ := h
      split at h
      · simp only [Option.some.injEq] at h; subst h; rw [if_neg h3]
      · cases h

theorem Way.len_mono (hw : Way F l st) (hF : LenF F) {q q' : Nat} (h : q ≤ q') (hl : q' ≤ l.length) : (st q).2.1.length ≤ (st q').2.1.length := by
  induction h with
  | refl => exact Nat.le_refl _
  | @step k hk ih =>
    exact Nat.le_trans (ih (by omega)) (stepD_len hF (hw.step k _ (List.getElem?_eq_getElem (by omega))))

theorem Way.env_keep (hw : Way F l st) (hd : ∀ (q r : Nat) (d c : DStmt) (t : Nat), l[q]? = some d → l[r]? = some c → c.s.dst = some t → d.s.dst = some t → q = r) {r q : Nat} {c : DStmt} {t : Nat} (hc : l[r]? = some c) (ht : c.s.dst = some t) (h : r < q) (hl : q ≤ l.length) :
    (st q).1 t = (st (r + 1)).1 t := by
  induction h with
  | refl => rfl
  | @step k hk ih =>
    have hx : l[k]? = some (l[k]'(by omega)) := List.getElem?_eq_getElem (by omega)
    obtain ⟨v, hv⟩ := stepD_env (hw.step k _ hx)
    rw [← ih (by omega), hv]
    cases hd' : l[k].s.dst with
    | some d =>
      simp only [Env.put, Env.upd]
      rw [if_neg]
      intro e
      subst e
      have := hd k r _ c t hx hc ht hd'
      have hk' : r + 1 ≤ k := hk
      omega
    | none => rfl

theorem Way.env_init (hw : Way F l st) {q : Nat} {t : Nat} (hl : q ≤ l.length) (h : ∀ (r : Nat) (d : DStmt), l[r]? = some d → d.s.dst ≠ some t) : (st q).1 t = (st 0).1 t := by
  induction q with
  | zero => rfl
  | succ k ih =>
    have hx : l[k]? = some (l[k]'(by omega)) := List.getElem?_eq_getElem (by omega)
    obtain ⟨v, hv⟩ := stepD_env (hw.step k _ hx)
    rw [← ih (by omega), hv]
    cases hd' : l[k].s.dst with
    | some d =>
      simp only [Env.put, Env.upd]
      rw [if_neg]
      intro e
      subst e
      exact h k _ hx hd'
    | none => rfl

theorem Way.env_init' (hw : Way F l st) {q : Nat} {t : Nat} (hl : q ≤ l.length) (h : ∀ (r : Nat) (d : DStmt), r < q → l[r]? = some d → d.s.dst ≠ some t) : (st q).1 t = (st 0).1 t := by
  induction q with
  | zero => rfl
  | succ k ih =>
    have hx : l[k]? = some (l[k]'(by omega)) := List.getElem?_eq_getElem (by omega)
    obtain ⟨v, hv⟩ := stepD_env (hw.step k _ hx)
    rw [← ih (by omega) (fun r d hr => h r d (by omega)), hv]
    cases hd' : l[k].s.dst with
    | some d =>
      simp only [Env.put, Env.upd]
      rw [if_neg]
      intro e
      subst e
      exact h k _ (by omega) hx hd'
    | none => rfl

theorem Way.hs_len (hw : Way F l st) (h0 : (st 0).2.2 = []) {q : Nat} (hl : q ≤ l.length) : (st q).2.2.length = cntM l q := by
  induction q with
  | zero => rw [h0]; simp [cntM]
  | succ k ih =>
    have hx : l[k]? = some (l[k]'(by omega)) := List.getElem?_eq_getElem (by omega)
    rw [stepD_hs (hw.step k _ hx), cntM_succ hx, ← ih (by omega)]
    split <;> simp

theorem Way.hs_mem (hw : Way F l st) (h0 : (st 0).2.2 = []) {e q low : Nat} {d : DStmt} (hd : l[e]? = some d) (h3 : d.kind = 3) (hlow : low ≤ cntM l e) (h : e < q) (hl : q ≤ l.length) :
    (st e).2.1 ∈ (st q).2.2.take ((st q).2.2.length - low) := by
  induction h with
  | refl =>
    have hle := hw.hs_len h0 (q := e) (by omega)
    rw [stepD_hs (hw.step e _ hd), if_pos h3, List.length_cons, hle, show cntM l e + 1 - low = (cntM l e - low) + 1 from by omega, List.take_succ_cons]
    exact List.mem_cons_self
  | @step k hk ih =>
    have hx : l[k]? = some (l[k]'(by omega)) := List.getElem?_eq_getElem (by omega)
    have ih' := ih (by omega)
    rw [stepD_hs (hw.step k _ hx)]
    split
    · have hle : low ≤ (st k).2.2.length := by
        rcases Nat.lt_or_ge (st k).2.2.length low with hlt | hge
        · rw [show (st k).2.2.length - low = 0 from by omega] at ih'; simp at ih'
        · exact hge
      rw [List.length_cons, show (st k).2.2.length + 1 - low = ((st k).2.2.length - low) + 1 from by omega, List.take_succ_cons]
      exact List.mem_cons_of_mem _ ih'
    · exact ih'

/-- Within a phase blocks are only added. -/
theorem Way.grows (hw : Way F l st) {p q : Nat} (h : p ≤ q) (hl : q ≤ l.length) (hs : ∀ (r : Nat) (d : DStmt), p ≤ r → r < q → l[r]? = some d → d.kind ≠ 3) : ∃ bs, (st q).2.1 = (st p).2.1 ++ bs := by
  induction h with
  | refl => exact ⟨[], by simp⟩
  | @step k hk ih =>
    obtain ⟨bs, hb⟩ := ih (by omega) (fun r d h1 h2 => hs r d h1 (by omega))
    have hx : l[k]? = some (l[k]'(by omega)) := List.getElem?_eq_getElem (by omega)
    rcases stepD_steady (hw.step k _ hx) (hs k _ hk (by omega) hx) with h | ⟨b, h⟩
    · exact ⟨bs, by rw [h, hb]⟩
    · exact ⟨bs ++ [b], by rw [h, hb, List.append_assoc]⟩
end

/-! ### What comes ahead -/

section
variable {P : Program} {N : Nat} {ops : Array Oper} {an : List (List Nat)} {l : List DStmt}

/-- What has come up is closed. -/
def Closed (ops : Array Oper) (listed : Array Bool) : Prop := ∀ (j : Nat) (o : Oper), ops[j]? = some o → listed.getD j false = true → ∀ e ∈ edgesOf o, listed.getD e false = true

theorem anc_listed (hd : DFacts P N ops an l) {listed : Array Bool} (hc : Closed ops listed) : ∀ (j : Nat) (o : Oper), ops[j]? = some o → (∀ e ∈ edgesOf o, listed.getD e false = true) → ∀ i ∈ an.getD j [], listed.getD i false = true := by
  intro j
  induction j using Nat.strongRecOn with
  | _ j ih =>
    intro o ho he i hi
    obtain ⟨e, hee, hlt, h⟩ := hd.anc j i o ho hi
    rcases h with rfl | h
    · exact he _ hee
    · have hj : j < ops.size := (Array.getElem?_eq_some_iff.1 ho).1
      have hx : ops[e]? = some (ops[e]'(by omega)) := Array.getElem?_eq_getElem (by omega)
      exact ih e hlt _ hx (hc e _ hx (he e hee)) i h
end
end Go.Cs

/- A region that draws its order. -/
namespace Go.Cs
open Go Go.RowKit

/-- The temporaries. -/
structure ER (D : List Deferred) (ν : Mu) (n : Nat) (E : Env) (a : Act) : Prop where
  defers : a.defers = D
  size : n ≤ a.tmps.size
  val : ∀ t, V ν (E t) (a.tmps.getD t undef)
  top : ∀ t, n ≤ t → E t = .undef

theorem V_undef (ν : Mu) : V ν CV.undef undef := by simp [V, VL, undef]

section
variable {P : Program} {F : CallF} {K : Nat → Option Obj} {B : Bs} {L N : Nat} {rd : Option Nat} {dp : Nat} {D : List Deferred}

theorem ER.mono {ν ν' : Mu} {E : Env} {a : Act} (h : ER D ν N E a) (hm : ∀ b m, ν b = some m → ν' b = some m) : ER D ν' N E a := ⟨h.defers, h.size, fun t => V.mono hm _ _ (h.val t), h.top⟩

theorem ER.put {ν : Mu} {E : Env} {a : Act} (h : ER D ν N E a) {dst : Option Nat} (hd : ∀ d, dst = some d → d < N) {v : CV} {v' : Value} (hv : V ν v v') : ER D ν N (E.put dst v) (a.put dst v') := by
  cases dst with
  | none => exact h
  | some d =>
    refine ⟨h.defers, by simp only [Act.put, Array.size_setIfInBounds]; exact h.size, fun t => ?_, fun t ht => by
      simp only [Env.put, Env.upd]
      rw [if_neg (by have := hd d rfl; omega)]
      exact h.top t ht⟩
    simp only [Act.put, Env.put, Env.upd]
    have hlt : d < a.tmps.size := Nat.lt_of_lt_of_le (hd d rfl) h.size
    by_cases ht : t = d
    · subst ht
      rw [if_pos rfl, Array.getD_eq_getD_getElem?, Array.getElem?_setIfInBounds_self_of_lt hlt]
      exact hv
    · rw [if_neg ht, Array.getD_eq_getD_getElem?, Array.getElem?_setIfInBounds_ne (Ne.symm ht), ← Array.getD_eq_getD_getElem?]
      exact h.val t

theorem V_bool {ν : Mu} {c : CV} {v : Value} (h : V ν c v) (b : Bool) : v = .bool b ↔ c = .bool b := by
  cases c <;> simp only [V] at h
  case bool b' => subst h; simp
  all_goals
    constructor
    · intro e
      first
      | (subst h; cases e; done)
      | (obtain ⟨m, _, rfl⟩ := h; cases e; done)
      | (obtain ⟨m, c', off, _, _, rfl, _⟩ := h; cases e; done)
      | (obtain ⟨vs, rfl, _⟩ := h; cases e; done)
    · intro e; cases e

theorem compStmt_inv {ops : Array Oper} {o : Oper} {s : CStmt} (h : compStmt P N ops o = some s) : ∃ g op, compGuard ops o.guard = some g ∧ compOp P o.op = some op ∧ (∀ d, o.dst = some d → d < N) ∧ s = ⟨o.dst, g, op⟩ := by
  unfold compStmt at h
  rw [Option.bind_eq_some_iff] at h
  obtain ⟨g, hg, h⟩ := h
  rw [Option.bind_eq_some_iff] at h
  obtain ⟨op, hop, h⟩ := h
  obtain ⟨hd, h⟩ := guardB_some h
  simp only [Option.some.injEq] at h
  refine ⟨g, op, hg, hop, fun d e => ?_, h.symm⟩
  rw [e] at hd
  simpa using hd

theorem wanted_V {ν : Mu} {ops : Array Oper} {g : Option (Nat × Bool)} {g' : Option (Nat × Bool)} {o : Oper} (ho : o.guard = g) (hg : compGuard ops g = some g') {E : Env} {a : Act} (hV : ∀ t b, g' = some (t, b) → V ν (E t) (a.tmps.getD t undef)) :
    Region.wanted o (yielded ops a.tmps) = wanted g' E := by
  unfold Region.wanted wanted
  rw [ho]
  cases g with
  | none => simp only [compGuard, Option.some.injEq] at hg; subst hg; rfl
  | some q =>
    obtain ⟨j, b⟩ := q
    simp only [compGuard, Option.map_eq_some_iff] at hg
    obtain ⟨t, ht, rfl⟩ := hg
    have h1 := hV t b rfl
    dsimp only
    unfold yielded
    rw [ht]
    simp only [Option.bind_some]
    cases hx : a.tmps[t]? with
    | none =>
      rw [Array.getD_eq_getD_getElem?, hx] at h1
      have h2 : ∀ b', E t ≠ .bool b' := fun b' e => by have := (V_bool h1 b').2 e; cases this
      dsimp only
      split
      · rename_i b' e; exact absurd e (h2 b')
      · rfl
    | some v =>
      rw [Array.getD_eq_getD_getElem?, hx] at h1
      simp only [Option.getD_some] at h1
      cases hE : E t with
      | bool b' =>
        have := (V_bool h1 b').2 hE
        subst this
        simp
      | _ =>
        have h2 : ∀ b', v ≠ .bool b' := fun b' e => by have := (V_bool h1 b').1 e; rw [hE] at this; cases this
        dsimp only
        split
        · rename_i b' e; simp only [Option.some.injEq] at e; exact absurd e (h2 b')
        · rfl

theorem wanted_sim {ν : Mu} {ops : Array Oper} {o : Oper} {g : Option (Nat × Bool)} (hg : compGuard ops o.guard = some g) {E : Env} {a : Act} (hR : ER D ν N E a) :
    Region.wanted o (yielded ops a.tmps) = wanted g E := wanted_V rfl hg fun t _ _ => hR.val t

theorem wpOp_post {ops : Array Oper} {Q Q' : Exit → Act → World → Prop} (hq : ∀ x a w, Q x a w → Q' x a w) {i : Nat} {K K' : Act → World → Prop} (hk : ∀ a w, K a w → K' a w) {a : Act} {w : World} (h : wpOpIn (Fr rd) dp P ops Q i K a w) : wpOpIn (Fr rd) dp P ops Q' i K' a w := by
  unfold wpOpIn at *
  split
  · rename_i ho; simp only [ho] at h; exact hk _ _ h
  · rename_i o ho
    simp only [ho] at h
    split
    · rename_i hw
      rw [if_pos hw] at h
      refine ⟨h.1, ?_⟩
      have h := h.2
      generalize (o.semAt (Fr rd).round a.eval).run P w = r at *
      cases r with
      | ok n w' =>
        cases n <;> simp only [Oper.uponIn] at h ⊢ <;> first
          | exact hk _ _ h
          | (refine ⟨h.1, CallsIn.mono h.2 fun e w'' he => ?_⟩
             cases e with
             | returned v => exact hk _ _ he
             | panicked c => exact hq _ _ _ he
             | outgrown => obtain ⟨a0, w0, h2⟩ := he; exact ⟨a0, w0, hq _ _ _ h2⟩)
          | exact ⟨h.1, RowsIn.mono h.2 fun v w'' he => hk _ _ he⟩
          | (refine ⟨h.1, RoundIn.mono h.2 fun e w'' he => ?_⟩
             cases e with
             | returned v => exact hk _ _ he
             | panicked c => exact hq _ _ _ he
             | outgrown => obtain ⟨a0, w0, h2⟩ := he; exact ⟨a0, w0, hq _ _ _ h2⟩)
      | halt x w' => cases x <;> simp only [Oper.uponIn] at h ⊢ <;> exact hq _ _ _ h
    · rename_i hw
      rw [if_neg hw] at h
      exact ⟨h.1, hk _ _ h.2⟩

theorem wpOps_mono {ops : Array Oper} {Q Q' : Exit → Act → World → Prop} (hq : ∀ x a w, Q x a w → Q' x a w) : ∀ (l : List Nat) (a : Act) (w : World), wpOpsIn (Fr rd) dp P ops Q l a w → wpOpsIn (Fr rd) dp P ops Q' l a w
  | [], a, w, h => hq _ _ _ h
  | i :: l, a, w, h => by
    rw [wpOpsIn_cons] at h ⊢
    exact wpOp_post hq (fun a w h => wpOps_mono hq l a w h) h

/-! ### The relation while operations come up in whatever order -/

def lis (listed : Array Bool) (j : Nat) : Prop := listed.getD j false = true

theorem lis_set {listed : Array Bool} {j : Nat} (hj : j < listed.size) (i : Nat) : lis (listed.setIfInBounds j true) i ↔ i = j ∨ lis listed i := by
  unfold lis
  by_cases hi : i = j
  · subst hi
    simp [hj]
  · rw [getD_set_ne false (Ne.symm hi)]
    simp [hi]

/-- A steady operation that has come up and has made a block. -/
def Mk (l : List DStmt) (st : Nat → DSt) (listed : Array Bool) (q : Nat) : Prop := ∃ d, l[q]? = some d ∧ lis listed d.no ∧ d.kind ≠ 3 ∧ (st (q + 1)).2.1.length = (st q).2.1.length + 1

structure Inv (D : List Deferred) (K : Nat → Option Obj) (B : Bs) (L N : Nat) (l : List DStmt) (st : Nat → DSt) (ν0 : Mu) (listed : Array Bool) (a : Act) (w : World) (p e : Nat) (ν : Mu) (K' : Nat → Option Obj) : Prop where
  pe : p ≤ e
  en : e ≤ l.length
  donep : ∀ (q : Nat) (d : DStmt), l[q]? = some d → q < p → lis listed d.no
  steady : ∀ (q : Nat) (d : DStmt), p ≤ q → q < e → l[q]? = some d → d.kind ≠ 3
  endk : ∀ (d : DStmt), l[e]? = some d → d.kind = 3
  later : ∀ (q : Nat) (d : DStmt), e ≤ q → l[q]? = some d → d.kind = 3 → ¬ lis listed d.no
  sim : Sim K' B ν (st e).2.1 w
  keeps : ∀ c o, K c = some o → K' c = some o
  only : ∀ c o, K' c = some o → K c = some o ∨ ∃ q m, e ≤ q ∧ Mk l st listed q ∧ ν (st q).2.1.length = some m ∧ m.c = c
  extra : ∀ q, e ≤ q → Mk l st listed q → ∃ m blk x, ν (st q).2.1.length = some m ∧ (st (q + 1)).2.1[(st q).2.1.length]? = some blk ∧ Fresh ν blk m x ∧
    K' m.c = some x ∧ K m.c = none ∧ B.heap.size ≤ m.c
  apart : ∀ q q' m m', e ≤ q → e ≤ q' → q ≠ q' → Mk l st listed q → Mk l st listed q' → ν (st q).2.1.length = some m → ν (st q').2.1.length = some m' → m.c ≠ m'.c
  dom : ∀ b m, ν b = some m → b < (st p).2.1.length ∨ (∃ q, p ≤ q ∧ Mk l st listed q ∧ b = (st q).2.1.length) ∨ L ≤ b
  low : ∀ b, b < (st 0).2.1.length → ν b = ν0 b
  far : ∀ b, L ≤ b → ν b = ν0 b
  defers : a.defers = D
  size : N ≤ a.tmps.size
  wrote : ∀ (q : Nat) (d : DStmt) (t : Nat), l[q]? = some d → lis listed d.no → d.s.dst = some t → V ν ((st (q + 1)).1 t) (a.tmps.getD t undef)
  unwrote : ∀ t, (∀ (q : Nat) (d : DStmt), l[q]? = some d → d.s.dst = some t → ¬ lis listed d.no) → V ν ((st 0).1 t) (a.tmps.getD t undef)

theorem V_put {ν : Mu} {a : Act} (hN : N ≤ a.tmps.size) {dst : Option Nat} (hd : ∀ d, dst = some d → d < N) (v' : Value) (t : Nat) :
    (a.put dst v').tmps.getD t undef = if dst = some t then v' else a.tmps.getD t undef := by
  cases dst with
  | none => simp [Act.put]
  | some d =>
    simp only [Act.put]
    have hlt : d < a.tmps.size := Nat.lt_of_lt_of_le (hd d rfl) hN
    by_cases ht : d = t
    · subst ht
      rw [if_pos rfl, Array.getD_eq_getD_getElem?, Array.getElem?_setIfInBounds_self_of_lt hlt]; rfl
    · rw [if_neg (by simpa using ht), Array.getD_eq_getD_getElem?, Array.getElem?_setIfInBounds_ne ht, ← Array.getD_eq_getD_getElem?]

section
variable {ops : Array Oper} {an : List (List Nat)} {l : List DStmt} {st : Nat → DSt} {ν0 : Mu} {listed : Array Bool} {a : Act} {w : World} {p e : Nat} {ν : Mu} {K' : Nat → Option Obj} {F : CallF}

/-- The temporaries behind an operation. -/
theorem Inv.wrote_next (h : Inv D K B L N l st ν0 listed a w p e ν K') (hd : DFacts P N ops an l) {q : Nat} {d : DStmt} (hq : l[q]? = some d) (hls : d.no < listed.size) (hdst : ∀ t, d.s.dst = some t → t < N) {ν' : Mu} (hm : ∀ b m, ν b = some m → ν' b = some m)
    {v : CV} {v' : Value} (hv : V ν' v v') (hst : (st (q + 1)).1 = (st q).1.put d.s.dst v) :
    (∀ (r : Nat) (c : DStmt) (t : Nat), l[r]? = some c → lis (listed.setIfInBounds d.no true) c.no → c.s.dst = some t → V ν' ((st (r + 1)).1 t) ((a.put d.s.dst v').tmps.getD t undef)) ∧
    (∀ t, (∀ (r : Nat) (c : DStmt), l[r]? = some c → c.s.dst = some t → ¬ lis (listed.setIfInBounds d.no true) c.no) → V ν' ((st 0).1 t) ((a.put d.s.dst v').tmps.getD t undef)) := by
  refine ⟨fun r c t hr hl ht => ?_, fun t ht => ?_⟩
  · rw [V_put (ν := ν) h.size hdst]
    by_cases he : d.s.dst = some t
    · rw [if_pos he]
      have : r = q := hd.dst r q c d t hr hq he ht
      subst this
      rw [hst, he]
      simpa [Env.put, Env.upd] using hv
    · rw [if_neg he]
      rcases (lis_set hls c.no).1 hl with h1 | h1
      · have : r = q := hd.inj r q c d hr hq h1
        subst this
        rw [hq] at hr
        simp only [Option.some.injEq] at hr
        subst hr
        exact absurd ht he
      · exact V.mono hm _ _ (h.wrote r c t hr h1 ht)
  · rw [V_put (ν := ν) h.size hdst]
    by_cases he : d.s.dst = some t
    · exact absurd ((lis_set hls d.no).2 (.inl rfl)) (ht q d hq he)
    · rw [if_neg he]
      exact V.mono hm _ _ (h.unwrote t fun r c hr hc hl => ht r c hr hc ((lis_set hls c.no).2 (.inr hl)))

/-- The operands of an operation that may come up. -/
theorem Inv.reads (h : Inv D K B L N l st ν0 listed a w p e ν K') (hd : DFacts P N ops an l) (hw : Way F l st) (hcl : Closed ops listed) {q : Nat} {d : DStmt} (hq : l[q]? = some d) {o : Oper} (ho : ops[d.no]? = some o)
    (hr : ∀ i ∈ edgesOf o, lis listed i) (hnl : ¬ lis listed d.no) : ∀ t ∈ d.s.reads, V ν ((st q).1 t) (a.tmps.getD t undef) := by
  intro t ht
  have hql : q < l.length := (List.getElem?_eq_some_iff.1 hq).1
  by_cases hx : ∃ (r : Nat) (c : DStmt), l[r]? = some c ∧ c.s.dst = some t
  · obtain ⟨r, c, hrc, hc⟩ := hx
    rcases hd.reads q r d c t hq hrc hc ht with ⟨hlt, han⟩ | ⟨hle, han⟩
    case inr =>
      have hcn : ¬ lis listed c.no := by
        intro hcl'
        rcases han with rfl | han
        · rw [hq] at hrc
          simp only [Option.some.injEq] at hrc
          subst hrc
          exact hnl hcl'
        · obtain ⟨oc, hoc, _⟩ := hd.stmt r c hrc
          exact hnl (anc_listed hd hcl c.no oc hoc (hcl c.no oc hoc hcl') d.no han)
      rw [hw.env_init' (by omega) fun r' c' hr' hrc' hc' => by
        have := hd.dst r' r c' c t hrc' hrc hc hc'
        omega]
      refine h.unwrote t fun r' c' hrc' hc' => ?_
      have := hd.dst r' r c' c t hrc' hrc hc hc'
      subst this
      rw [hrc] at hrc'
      simp only [Option.some.injEq] at hrc'
      subst hrc'
      exact hcn
    have hl := anc_listed hd hcl d.no o ho hr c.no han
    rw [hw.env_keep hd.dst hrc hc hlt (by omega)]
    exact h.wrote r c t hrc hl hc
  · rw [hw.env_init (by omega) fun r c hrc hc => hx ⟨r, c, hrc, hc⟩]
    exact h.unwrote t fun r c hrc hc => absurd ⟨r, c, hrc, hc⟩ hx

theorem Sim.fill {μ : Mu} {H : CHeap} (h : Sim K B μ H w) {b : Nat} {k : Blk} (hb : H[b]? = some k) (hμ : μ b = none) {w' : World} {x : Obj} (hh : w'.heap = w.heap.push x) (hs : Streams w w')
    (hf : Fresh μ k ⟨w.heap.size, 0, k.esz, sizeOfObj x⟩ x) :
    Sim K B (μ.set b ⟨w.heap.size, 0, k.esz, sizeOfObj x⟩) H w' := by
  have hmono : ∀ b' m, μ b' = some m → (μ.set b ⟨w.heap.size, 0, k.esz, sizeOfObj x⟩) b' = some m := by
    intro b' m hm
    have : b' ≠ b := fun e => by rw [e, hμ] at hm; cases hm
    rw [Mu.set_ne _ _ this]; exact hm
  have old : ∀ {c : Nat}, c < w.heap.size → w'.heap[c]? = w.heap[c]? := fun {c} hc => by rw [hh]; exact alloc_old' w x _ hc
  have hnew : w'.heap[w.heap.size]? = some x := by rw [hh]; exact alloc_new' w _
  have lt : ∀ {b' : Nat} {k' : Blk} {m' : Tgt}, H[b']? = some k' → k'.mode ≠ .dead → μ b' = some m' → m'.c < w.heap.size := by
    intro b' k' m' h1 h2 h3
    exact h.there h1 h2 h3
  refine ⟨?_, fun c o hc => ?_, fun b' k' m' hb' hd hd' hm => ?_, fun b1 b2 k1 k2 m1 m2 h1 h2 r1 r2 hne e1 e2 => ?_, fun b' k' m' hb' hd hm => ?_⟩
  rotate_left 4
  · by_cases hbb : b' = b
    · subst hbb
      rw [hb] at hb'
      simp only [Option.some.injEq] at hb'
      subst hb'
      rw [Mu.set_self] at hm
      simp only [Option.some.injEq] at hm
      subst hm
      rcases hf with ⟨h1, _⟩ | ⟨h1, h0, es, cl, rfl, h3⟩
      · rw [hd] at h1; cases h1
      · exact ⟨_, hnew, MapR.objR h0 ⟨h3.1.mono hmono, h3.2⟩, h.base.size, h.free⟩
    · rw [Mu.set_ne _ _ hbb] at hm
      obtain ⟨ob, hw, hr, hB', hK'⟩ := h.mp b' k' m' hb' hd hm
      exact ⟨ob, by rw [old (lt hb' (by rw [hd]; decide) hm)]; exact hw, hr.mono hmono, hB', hK'⟩
  · exact h.base.trans ⟨hs.os, hs.tape, hs.output, by rw [hh]; simp, fun q hq => old (Nat.lt_of_lt_of_le hq h.base.size)⟩
  · have := h.kept c o hc
    rw [old (Array.getElem?_eq_some_iff.1 this).1]; exact this
  · by_cases hbb : b' = b
    · subst hbb
      rw [Mu.set_self] at hm
      simp only [Option.some.injEq] at hm
      subst hm
      rw [hb] at hb'
      simp only [Option.some.injEq] at hb'
      subst hb'
      rcases hf with ⟨hk, _, _, arr, T, rfl, h5, h6, h7⟩ | ⟨hk, _⟩
      · refine ⟨arr, T, (0, 0), hnew, fun i x hx => ?_, fun _ => ⟨rfl, rfl, by simpa [sizeOfObj] using h6, rfl, h.base.size, h.free⟩, fun e => by rw [hk] at e; cases e⟩
        obtain ⟨v, hv1, hv2⟩ := h7 i x hx
        exact ⟨v, by simpa using hv1, V.mono hmono _ _ hv2⟩
      · exact absurd hk hd'
    · rw [Mu.set_ne _ _ hbb] at hm
      obtain ⟨a, T', fz, hw, hc, hr⟩ := h.blk b' k' m' hb' hd hd' hm
      exact ⟨a, T', fz, by rw [old (lt hb' hd hm)]; exact hw, fun i x hx => let ⟨v, h1, h2⟩ := hc i x hx; ⟨v, h1, V.mono hmono _ _ h2⟩, hr⟩
  · have d1 : k1.mode ≠ .dead := by rcases r1 with r1 | r1 <;> (rw [r1]; decide)
    by_cases hb1 : b1 = b
    · have hb2 : b2 ≠ b := fun e => hne (hb1.trans e.symm)
      rw [hb1, Mu.set_self] at e1
      simp only [Option.some.injEq] at e1
      subst e1
      rw [Mu.set_ne _ _ hb2] at e2
      have := lt h2 r2 e2
      dsimp only
      omega
    · rw [Mu.set_ne _ _ hb1] at e1
      by_cases hb2 : b2 = b
      · rw [hb2, Mu.set_self] at e2
        simp only [Option.some.injEq] at e2
        subst e2
        have := lt h1 d1 e1
        dsimp only
        omega
      · rw [Mu.set_ne _ _ hb2] at e2
        exact h.inj b1 b2 k1 k2 m1 m2 h1 h2 r1 r2 hne e1 e2

/-- Blocks that lie there already are joined to the clean machine's heap. -/
theorem Sim.join {μ : Mu} {H : CHeap} (h : Sim K' B μ H w) {ν : Mu} (hsame : ∀ b, b < H.length → ν b = μ b) (hmono : ∀ b m, μ b = some m → ν b = some m) {bs : List Blk}
    (hex : ∀ (b : Nat) (blk : Blk) (m : Tgt), H.length ≤ b → (H ++ bs)[b]? = some blk → ν b = some m → ∃ x, Fresh ν blk m x ∧ K' m.c = some x ∧ B.heap.size ≤ m.c)
    (hinj : ∀ b1 b2 m1 m2, H.length ≤ b1 → H.length ≤ b2 → b1 < (H ++ bs).length → b2 < (H ++ bs).length → b1 ≠ b2 → ν b1 = some m1 → ν b2 = some m2 → m1.c ≠ m2.c)
    {K2 : Nat → Option Obj} (hK : ∀ c o, K2 c = some o → K' c = some o) (hK2 : ∀ b m, H.length ≤ b → b < (H ++ bs).length → ν b = some m → K2 m.c = none) : Sim K2 B ν (H ++ bs) w := by
  have hKn : ∀ c, K' c = none → K2 c = none := by
    intro c hc
    cases h2 : K2 c with
    | none => rfl
    | some o => rw [hK c o h2] at hc; cases hc
  have lt : ∀ {b : Nat} {k : Blk}, (H ++ bs)[b]? = some k → b < (H ++ bs).length := fun e => (List.getElem?_eq_some_iff.1 e).1
  have oldb : ∀ {b : Nat}, b < H.length → (H ++ bs)[b]? = H[b]? := fun hb => List.getElem?_append_left hb
  refine ⟨h.base, fun c o hc => h.kept c o (hK c o hc), fun b k m hb hd hd' hm => ?_, fun b1 b2 k1 k2 m1 m2 h1 h2 r1 r2 hne e1 e2 => ?_, fun b k m hb hd hm => ?_⟩
  rotate_left 2
  · rcases Nat.lt_or_ge b H.length with hlt | hge
    · rw [oldb hlt] at hb
      rw [hsame b hlt] at hm
      obtain ⟨ob, hw, hr, hB', hK'⟩ := h.mp b k m hb hd hm
      exact ⟨ob, hw, hr.mono hmono, hB', hKn _ hK'⟩
    · obtain ⟨x, hf, h5, h6⟩ := hex b k m hge hb hm
      rcases hf with ⟨h1, _⟩ | ⟨h1, h0, es, cl, rfl, h3⟩
      · rw [hd] at h1; cases h1
      · exact ⟨_, h.kept _ _ h5, MapR.objR h0 h3, h6, hK2 b m hge (lt hb) hm⟩
  · rcases Nat.lt_or_ge b H.length with hlt | hge
    · rw [oldb hlt] at hb
      rw [hsame b hlt] at hm
      obtain ⟨arr, T, fz, hw, hc, hr, hro⟩ := h.blk b k m hb hd hd' hm
      refine ⟨arr, T, fz, hw, fun i x hx => let ⟨v, h1, h2⟩ := hc i x hx; ⟨v, h1, V.mono hmono _ _ h2⟩, fun e => ?_, hro⟩
      obtain ⟨c1, c2, c3, c4, c5, c6⟩ := hr e
      exact ⟨c1, c2, c3, c4, c5, hKn _ c6⟩
    · obtain ⟨x, hf, h5, h6⟩ := hex b k m hge hb hm
      rcases hf with ⟨h1, h2, h3, arr, T, rfl, h4, h7, h8⟩ | ⟨h1, _⟩
      case inr => exact absurd h1 hd'
      refine ⟨arr, T, (0, 0), h.kept _ _ h5, fun i x hx => ?_, fun _ => ⟨h3, h4.symm, by omega, rfl, h6, hK2 b m hge (lt hb) hm⟩, fun e => by rw [h1] at e; cases e⟩
      rw [h2, Nat.zero_add]
      exact h8 i x hx
  · rcases Nat.lt_or_ge b1 H.length with hl1 | hg1 <;> rcases Nat.lt_or_ge b2 H.length with hl2 | hg2
    · rw [oldb hl1] at h1; rw [oldb hl2] at h2
      rw [hsame _ hl1] at e1; rw [hsame _ hl2] at e2
      exact h.inj b1 b2 k1 k2 m1 m2 h1 h2 r1 r2 hne e1 e2
    · rw [oldb hl1] at h1
      rw [hsame _ hl1] at e1
      have hn := h.loose h1 r1 e1
      obtain ⟨x, _, h5, _⟩ := hex b2 k2 m2 hg2 h2 e2
      intro e; rw [e, h5] at hn; cases hn
    · rw [oldb hl2] at h2
      rw [hsame _ hl2] at e2
      obtain ⟨x, _, h5, h6⟩ := hex b1 k1 m1 hg1 h1 e1
      exact Ne.symm (h.kept_ne h5 h6 h2 r2 e2)
    · exact hinj b1 b2 m1 m2 hg1 hg2 (lt h1) (lt h2) hne e1 e2

theorem Way.apart (hw : Way F l st) (hLF : LenF F) {q q' : Nat} (h1 : Mk l st listed q) (hle : q' ≤ l.length) (h : q < q') : (st q).2.1.length < (st q').2.1.length := by
  obtain ⟨d, hd, _, _, hlen⟩ := h1
  have := hw.len_mono hLF (show q + 1 ≤ q' from h) hle
  omega

theorem Mk.lt {q : Nat} (h : Mk l st listed q) : q < l.length := by
  obtain ⟨d, hd, _⟩ := h
  exact (List.getElem?_eq_some_iff.1 hd).1

theorem Mk.up {q : Nat} (h : Mk l st listed q) {d : DStmt} (hd : l[q]? = some d) : lis listed d.no := by
  obtain ⟨d', hd', hl, _⟩ := h
  rw [hd] at hd'
  simp only [Option.some.injEq] at hd'
  subst hd'
  exact hl

theorem Mk.inj (hw : Way F l st) (hLF : LenF F) {q q' : Nat} (h1 : Mk l st listed q) (h2 : Mk l st listed q') (h : (st q).2.1.length = (st q').2.1.length) : q = q' := by
  rcases Nat.lt_trichotomy q q' with h' | h' | h'
  · have := Way.apart hw hLF h1 (Nat.le_of_lt h2.lt) h'; omega
  · exact h'
  · have := Way.apart hw hLF h2 (Nat.le_of_lt h1.lt) h'; omega

/-- A steady operation may come up. -/
theorem Inv.step_steady (hG : GlobOk P B.toWorld) (h : Inv D K B L N l st ν0 listed a w p e ν K') (hd : DFacts P N ops an l) (hw : Way F l st) (hLF : LenF F) (hcl : Closed ops listed) (h0 : (st 0).2.2 = []) (hend : (st l.length).2.1.length ≤ L)
    {q : Nat} {d : DStmt} (hq : l[q]? = some d) (hk : d.kind ≠ 3) (hnl : ¬ lis listed d.no) (hls : d.no < listed.size) {o : Oper} (ho : ops[d.no]? = some o) (hr : ∀ i ∈ edgesOf o, lis listed i) {Q : Exit → Act → World → Prop} :
    wpOpIn (Fr rd) dp P ops Q d.no (fun a' w' => ∃ ν' K2, Inv D K B L N l st ν0 (listed.setIfInBounds d.no true) a' w' p e ν' K2) a w := by
  have hql : q < l.length := (List.getElem?_eq_some_iff.1 hq).1
  have hpq : p ≤ q := Nat.le_of_not_lt fun hlt => hnl (h.donep q d hq hlt)
  have hreads := h.reads hd hw hcl hq ho hr hnl
  obtain ⟨o', ho', hcs⟩ := hd.stmt q d hq
  rw [ho] at ho'
  simp only [Option.some.injEq] at ho'
  subst ho'
  obtain ⟨g, op, hg, hop, hdN, hs⟩ := compStmt_inv hcs
  have hdst : d.s.dst = o.dst := by rw [hs]
  have hgd : d.s.guard = g := by rw [hs]
  have hopd : d.s.op = op := by rw [hs]
  have hdN' : ∀ t, d.s.dst = some t → t < N := fun t ht => hdN t (by rw [← hdst]; exact ht)
  have hstep := hw.step q d hq
  unfold stepD at hstep
  have hwant : Region.wanted o (yielded ops a.tmps) = wanted d.s.guard (st q).1 := by
    rw [hgd]
    refine wanted_V rfl hg fun t b hgt => hreads t ?_
    unfold CStmt.reads
    rw [hgd, hgt]
    simp
  unfold wpOpIn
  simp only [ho]
  rw [hwant]
  have hset := lis_set hls
  -- what of the blocks is as before
  have mkold : ∀ {r : Nat}, Mk l st listed r → Mk l st (listed.setIfInBounds d.no true) r := fun {r} ⟨c, h1, h2, h3, h4⟩ => ⟨c, h1, (hset c.no).2 (.inr h2), h3, h4⟩
  have mknew : ∀ {r : Nat}, Mk l st (listed.setIfInBounds d.no true) r → Mk l st listed r ∨ r = q := fun {r} ⟨c, h1, h2, h3, h4⟩ => by
    rcases (hset c.no).1 h2 with h5 | h5
    · exact .inr (hd.inj r q c d h1 hq h5)
    · exact .inl ⟨c, h1, h5, h3, h4⟩
  -- where no block is made
  have plain : ∀ (v : CV) (v' : Value) (w' : World), (st (q + 1)).1 = (st q).1.put d.s.dst v → (st (q + 1)).2.1.length ≠ (st q).2.1.length + 1 → V ν v v' → Sim K' B ν (st e).2.1 w' →
      Inv D K B L N l st ν0 (listed.setIfInBounds d.no true) (a.put d.s.dst v') w' p e ν K' := by
    intro v v' w' hst hlen hv hS
    obtain ⟨w1, w2⟩ := h.wrote_next hd hq hls hdN' (ν' := ν) (fun _ _ h => h) hv hst
    have mk : ∀ {r : Nat}, Mk l st (listed.setIfInBounds d.no true) r → Mk l st listed r := fun {r} hm => by
      rcases mknew hm with h1 | h1
      · exact h1
      · subst h1; obtain ⟨_, _, _, _, h4⟩ := hm; exact absurd h4 hlen
    refine ⟨h.pe, h.en, fun r c hr hlt => (hset c.no).2 (.inr (h.donep r c hr hlt)), h.steady, h.endk, fun r c hge hr hk3 hl => ?_, hS, h.keeps, fun c x hx => ?_, fun r hge hm => h.extra r hge (mk hm), fun r r' m m' a1 a2 a3 a4 a5 => h.apart r r' m m' a1 a2 a3 (mk a4) (mk a5), fun b m hb => ?_, h.low, h.far, ?_, ?_, w1, w2⟩
    · rcases (hset c.no).1 hl with h1 | h1
      · have := hd.inj r q c d hr hq h1
        subst this
        rw [hq] at hr
        simp only [Option.some.injEq] at hr
        subst hr
        exact hk hk3
      · exact h.later r c hge hr hk3 h1
    · rcases h.only c x hx with h1 | ⟨r, m, h1, h2, h3, h4⟩
      · exact .inl h1
      · exact .inr ⟨r, m, h1, mkold h2, h3, h4⟩
    · rcases h.dom b m hb with h1 | ⟨r, h1, h2, h3⟩ | h1
      · exact .inl h1
      · exact .inr (.inl ⟨r, h1, mkold h2, h3⟩)
      · exact .inr (.inr h1)
    · cases hdd : d.s.dst <;> exact h.defers
    · cases hdd : d.s.dst with
      | none => exact h.size
      | some t => simp only [Act.put, Array.size_setIfInBounds]; exact h.size
  cases hwd : wanted d.s.guard (st q).1 with
  | false =>
    rw [if_pos hwd] at hstep
    simp only [Option.some.injEq] at hstep
    simp only [Bool.false_eq_true, if_false]
    rw [← hdst]
    exact ⟨fun _ _ => trivial, ν, K', plain .undef undef w (by rw [← hstep]) (by rw [← hstep]; simp) (V_undef ν) h.sim⟩
  | true =>
    rw [if_neg (by rw [hwd]; simp), if_neg hk, Option.bind_eq_some_iff] at hstep
    obtain ⟨m, hm, hstep⟩ := hstep
    split at hstep
    · rename_i hck
      simp only [Option.some.injEq] at hstep
      simp only [if_true]
      -- at the heap at this phase's end it comes to the same
      have hme : mkOf d.s.op (st q).1 (st e).2.1 = some m := by
        rcases Nat.lt_or_ge q e with hlt | hge
        · obtain ⟨bs, hb⟩ := hw.grows (Nat.le_of_lt hlt) h.en (fun r c h1 h2 h3 => h.steady r c (by omega) h2 h3)
          rw [hb]
          exact mkOf_app bs hm
        · rcases (hd.kind q d hq).1 with h1 | h1 | h1
          · rw [mkOf_pure ((hd.kind q d hq).2 h1) (st q).1 (st e).2.1 (st q).2.1]; exact hm
          · have hel : e < l.length := by omega
            have hle : l[e]? = some (l[e]'hel) := List.getElem?_eq_getElem hel
            have hk3 := h.endk _ hle
            have hne : e ≠ q := fun heq => by
              subst heq
              rw [hq] at hle
              simp only [Option.some.injEq] at hle
              rw [← hle] at hk3
              exact hk hk3
            have hlow : d.low ≤ cntM l e := by
              refine Nat.le_of_not_lt fun hlt => ?_
              have han := hd.chain q e d _ hq hle hk3 (by omega) (.inr hlt)
              exact h.later e _ (Nat.le_refl _) hle hk3 (anc_listed hd hcl d.no o ho hr _ han)
            exact hck h1 _ (hw.hs_mem h0 hle hk3 hlow (by omega) (by omega))
          · exact absurd h1 hk
      rw [hopd] at hme
      have hE : ∀ t ∈ op.tmps, V ν ((st q).1 t) (a.tmps.getD t undef) := fun t ht => hreads t (by unfold CStmt.reads; rw [hopd]; simp [ht])
      obtain ⟨v', w', hrun, hstr, hres⟩ := mk_sim (P := P) hG h.sim hop hE hme
      refine ⟨fun _ _ => trivial, ?_⟩
      rw [Oper.semAt_eq _ _ _ (comp_nodefer hop), hrun, Oper.uponIn_value, ← hdst]
      show ∃ ν' K2, Inv D K B L N l st ν0 (listed.setIfInBounds d.no true) (a.put d.s.dst v') w' p e ν' K2
      obtain ⟨ob, f⟩ := m
      cases ob with
      | none =>
        obtain ⟨hwh, hv⟩ := hres
        exact ⟨ν, K', plain (f (st q).2.1.length) v' w' (by rw [← hstep]; rfl) (by rw [← hstep]; simp [made]) (hv _) (h.sim.same hwh hstr.os hstr.tape hstr.output)⟩
      | some k =>
        obtain ⟨xo, hwh, hfr, hval⟩ := hres
        have hst2 : (st (q + 1)).2.1 = (st q).2.1 ++ [k] := by rw [← hstep]; rfl
        have hst1 : (st (q + 1)).1 = (st q).1.put d.s.dst (f (st q).2.1.length) := by rw [← hstep]; rfl
        have hlen1 : (st (q + 1)).2.1.length = (st q).2.1.length + 1 := by rw [hst2]; simp
        have hq1L : (st q).2.1.length < L := by
          have := hw.len_mono hLF (show q + 1 ≤ l.length from hql) (Nat.le_refl _)
          omega
        have hplen : (st p).2.1.length ≤ (st q).2.1.length := hw.len_mono hLF hpq (by omega)
        have hfree : ν (st q).2.1.length = none := by
          cases hb : ν (st q).2.1.length with
          | none => rfl
          | some mm =>
            rcases h.dom _ mm hb with h1 | ⟨r, h1, h2, h3⟩ | h1
            · omega
            · have hrl := h2.lt
              rcases Nat.lt_trichotomy r q with h4 | h4 | h4
              · have := Way.apart hw hLF h2 (by omega) h4; omega
              · subst h4; exact absurd (h2.up hq) hnl
              · have := hw.len_mono hLF (show q + 1 ≤ r from h4) (by omega); omega
            · omega
        generalize hν' : ν.set (st q).2.1.length ⟨w.heap.size, 0, k.esz, sizeOfObj xo⟩ = ν'
        have hmono : ∀ b mm, ν b = some mm → ν' b = some mm := by
          intro b mm hb
          have : b ≠ (st q).2.1.length := fun e' => by rw [e', hfree] at hb; cases hb
          rw [← hν', Mu.set_ne _ _ this]; exact hb
        have hself : ν' (st q).2.1.length = some ⟨w.heap.size, 0, k.esz, sizeOfObj xo⟩ := by rw [← hν']; exact Mu.set_self _ _ _
        have hother : ∀ b, b ≠ (st q).2.1.length → ν' b = ν b := fun b hb => by rw [← hν']; exact Mu.set_ne _ _ hb
        have hvv := hval ν' (st q).2.1.length hmono hself
        obtain ⟨w1, w2⟩ := h.wrote_next hd hq hls hdN' hmono hvv hst1
        have hmkq : Mk l st (listed.setIfInBounds d.no true) q := ⟨d, hq, (hset d.no).2 (.inl rfl), hk, hlen1⟩
        have hKfree := h.sim.free
        have hne : ∀ {r : Nat}, Mk l st listed r → (st r).2.1.length ≠ (st q).2.1.length := fun {r} hmr he => by
          have := Mk.inj hw hLF (mkold hmr) hmkq he
          subst this
          exact hnl (hmr.up hq)
        have common : ∀ K2, Sim K2 B ν' (st e).2.1 w' → (∀ c x, K c = some x → K2 c = some x) →
            (∀ c x, K2 c = some x → K c = some x ∨ ∃ r mm, e ≤ r ∧ Mk l st (listed.setIfInBounds d.no true) r ∧ ν' (st r).2.1.length = some mm ∧ mm.c = c) →
            (∀ c x, K' c = some x → K2 c = some x) →
            (e ≤ q → K2 w.heap.size = some xo ∧ K w.heap.size = none) →
            Inv D K B L N l st ν0 (listed.setIfInBounds d.no true) (a.put d.s.dst v') w' p e ν' K2 := by
          intro K2 hS2 hk1 hk2 hk3 hk4
          refine ⟨h.pe, h.en, fun r c hr hlt => (hset c.no).2 (.inr (h.donep r c hr hlt)), h.steady, h.endk, fun r c hge hr hk3 hl => ?_, hS2, hk1, hk2, fun r hge hm => ?_, fun r r' m1 m2 a1 a2 a3 a4 a5 a6 a7 => ?_, fun b mm hb => ?_, fun b hb => ?_, fun b hb => ?_, ?_, ?_, w1, w2⟩
          · rcases (hset c.no).1 hl with h1 | h1
            · have := hd.inj r q c d hr hq h1
              subst this
              rw [hq] at hr
              simp only [Option.some.injEq] at hr
              subst hr
              exact hk hk3
            · exact h.later r c hge hr hk3 h1
          · rcases mknew hm with h1 | h1
            · obtain ⟨mm, blk, x', c1, c2, c3, c7, c8, c9⟩ := h.extra r hge h1
              exact ⟨mm, blk, x', hmono _ _ c1, c2, c3.mono hmono, hk3 _ _ c7, c8, c9⟩
            · subst h1
              exact ⟨_, k, xo, hself, by rw [hst2, List.getElem?_concat_length], hfr.mono hmono, (hk4 hge).1, (hk4 hge).2, h.sim.base.size⟩
          · have old : ∀ {r : Nat} {mm : Tgt}, e ≤ r → Mk l st listed r → ν' (st r).2.1.length = some mm → mm.c < w.heap.size := by
              intro r mm hge hmk hm'
              rw [hother _ (hne hmk)] at hm'
              obtain ⟨m3, blk, x', c1, _, _, c7, _⟩ := h.extra r hge hmk
              rw [c1] at hm'
              simp only [Option.some.injEq] at hm'
              subst hm'
              exact (Array.getElem?_eq_some_iff.1 (h.sim.kept _ _ c7)).1
            rcases mknew a4 with h1 | h1 <;> rcases mknew a5 with h2 | h2
            · rw [hother _ (hne h1)] at a6
              rw [hother _ (hne h2)] at a7
              exact h.apart r r' m1 m2 a1 a2 a3 h1 h2 a6 a7
            · subst h2
              rw [hself] at a7
              simp only [Option.some.injEq] at a7
              subst a7
              have := old a1 h1 a6
              dsimp only
              omega
            · subst h1
              rw [hself] at a6
              simp only [Option.some.injEq] at a6
              subst a6
              have := old a2 h2 a7
              dsimp only
              omega
            · exact absurd (h1.trans h2.symm) a3
          · by_cases hbq : b = (st q).2.1.length
            · exact .inr (.inl ⟨q, hpq, hmkq, hbq⟩)
            · rw [hother b hbq] at hb
              rcases h.dom b mm hb with h1 | ⟨r, h1, h2, h3⟩ | h1
              · exact .inl h1
              · exact .inr (.inl ⟨r, h1, mkold h2, h3⟩)
              · exact .inr (.inr h1)
          · have := hw.len_mono hLF (Nat.zero_le q) (by omega)
            rw [hother b (by omega)]; exact h.low b hb
          · rw [hother b (by omega)]; exact h.far b hb
          · cases hdd : d.s.dst <;> exact h.defers
          · cases hdd : d.s.dst with
            | none => exact h.size
            | some t => simp only [Act.put, Array.size_setIfInBounds]; exact h.size
        rcases Nat.lt_or_ge q e with hlt | hge
        · obtain ⟨bs, hb⟩ := hw.grows (show q + 1 ≤ e from hlt) h.en (fun r c h1 h2 h3 => h.steady r c (by omega) h2 h3)
          have hblk : (st e).2.1[(st q).2.1.length]? = some k := by
            rw [hb, hst2, List.append_assoc, List.getElem?_append_right (Nat.le_refl _)]
            simp
          have hS2 := h.sim.fill hblk hfree hwh hstr hfr
          rw [hν'] at hS2
          refine ⟨ν', K', common K' hS2 h.keeps (fun c x hx => ?_) (fun _ _ h => h) (fun hge => by omega)⟩
          rcases h.only c x hx with h1 | ⟨r, mm, h1, h2, h3, h4⟩
          · exact .inl h1
          · exact .inr ⟨r, mm, h1, mkold h2, hmono _ _ h3, h4⟩
        · have hS1 := (h.sim.alloc xo).same (w' := w') hwh hstr.os hstr.tape hstr.output
          have hel : (st e).2.1.length ≤ (st q).2.1.length := hw.len_mono hLF hge (by omega)
          have hS2 := hS1.congr (ν := ν') (fun b hb => hother b (by omega)) hmono
          refine ⟨ν', _, common _ hS2 (fun c x hx => ?_) (fun c x hx => ?_) (fun c x hx => ?_) (fun _ => ⟨by simp, ?_⟩)⟩
          · have h1 := h.keeps c x hx
            have : c ≠ w.heap.size := fun e' => by rw [e', hKfree] at h1; cases h1
            rw [if_neg this]; exact h1
          · split at hx
            · rename_i hc
              exact .inr ⟨q, _, hge, hmkq, hself, hc.symm⟩
            · rcases h.only c x hx with h1 | ⟨r, mm, h1, h2, h3, h4⟩
              · exact .inl h1
              · exact .inr ⟨r, mm, h1, mkold h2, hmono _ _ h3, h4⟩
          · have : c ≠ w.heap.size := fun e' => by rw [e', hKfree] at hx; cases hx
            rw [if_neg this]; exact hx
          · cases hK : K w.heap.size with
            | none => rfl
            | some x => have := h.keeps _ _ hK; rw [hKfree] at this; cases this
    · cases hstep

/-- The next changing operation. -/
theorem next_change (l : List DStmt) (p : Nat) (hp : p ≤ l.length) : ∃ e, p ≤ e ∧ e ≤ l.length ∧ (∀ (q : Nat) (d : DStmt), p ≤ q → q < e → l[q]? = some d → d.kind ≠ 3) ∧ ∀ (d : DStmt), l[e]? = some d → d.kind = 3 := by
  obtain ⟨n, hn⟩ : ∃ n, n = l.length - p := ⟨_, rfl⟩
  induction n generalizing p with
  | zero =>
    have : p = l.length := by omega
    exact ⟨p, Nat.le_refl _, hp, fun q d h1 h2 => by omega, fun d hd => by rw [this, List.getElem?_eq_none (Nat.le_refl _)] at hd; cases hd⟩
  | succ n ih =>
    have hlt : p < l.length := by omega
    have hx : l[p]? = some (l[p]'hlt) := List.getElem?_eq_getElem hlt
    by_cases h3 : (l[p]'hlt).kind = 3
    · exact ⟨p, Nat.le_refl _, hp, fun q d h1 h2 => by omega, fun d hd => by rw [hx] at hd; simp only [Option.some.injEq] at hd; rw [← hd]; exact h3⟩
    · obtain ⟨e, h1, h2, h4, h5⟩ := ih (p + 1) hlt (by omega)
      refine ⟨e, by omega, h2, fun q d g1 g2 g3 => ?_, h5⟩
      rcases Nat.eq_or_lt_of_le g1 with heq | hgt
      · subst heq; rw [hx] at g3; simp only [Option.some.injEq] at g3; rw [← g3]; exact h3
      · exact h4 q d hgt g2 g3

/-- A changing operation may come up: the clean machine goes on to the end of the next phase. -/
theorem Inv.step_change (h : Inv D K B L N l st ν0 listed a w p e ν K') (hd : DFacts P N ops an l) (hw : Way F l st) (hF : SimF P F) (hBr : BOk P B) (hLF : LenF F) (hcl : Closed ops listed) (hend : (st l.length).2.1.length ≤ L)
    {q : Nat} {d : DStmt} (hq : l[q]? = some d) (hk : d.kind = 3) (hnl : ¬ lis listed d.no) (hls : d.no < listed.size) {o : Oper} (ho : ops[d.no]? = some o) (hed : ∀ i ∈ edgesOf o, lis listed i) {Q : Exit → Act → World → Prop} :
    wpOpIn (Fr rd) dp P ops Q d.no (fun a' w' => ∃ p' e' ν' K2, Inv D K B L N l st ν0 (listed.setIfInBounds d.no true) a' w' p' e' ν' K2) a w := by
  have hql : q < l.length := (List.getElem?_eq_some_iff.1 hq).1
  have hpq : p ≤ q := Nat.le_of_not_lt fun hlt => hnl (h.donep q d hq hlt)
  have heq : e = q := by
    rcases Nat.lt_trichotomy e q with hlt | heq | hgt
    · have hle : l[e]? = some (l[e]'(by omega)) := List.getElem?_eq_getElem (by omega)
      have hk3 := h.endk _ hle
      exact absurd (anc_listed hd hcl d.no o ho hed _ (hd.chain q e d _ hq hle hk3 hlt (.inl hk))) (h.later e _ (Nat.le_refl _) hle hk3)
    · exact heq
    · exact absurd hk (h.steady q d hpq hgt hq)
  subst heq
  have hreads := h.reads hd hw hcl hq ho hed hnl
  obtain ⟨o', ho', hcs⟩ := hd.stmt e d hq
  rw [ho] at ho'
  simp only [Option.some.injEq] at ho'
  subst ho'
  obtain ⟨g, op, hg, hop, hdN, hs⟩ := compStmt_inv hcs
  have hdst : d.s.dst = o.dst := by rw [hs]
  have hgd : d.s.guard = g := by rw [hs]
  have hopd : d.s.op = op := by rw [hs]
  have hdN' : ∀ t, d.s.dst = some t → t < N := fun t ht => hdN t (by rw [← hdst]; exact ht)
  have hstep := hw.step e d hq
  unfold stepD at hstep
  have hwant : Region.wanted o (yielded ops a.tmps) = wanted d.s.guard (st e).1 := by
    rw [hgd]
    refine wanted_V rfl hg fun t b hgt => hreads t ?_
    unfold CStmt.reads
    rw [hgd, hgt]
    simp
  unfold wpOpIn
  simp only [ho]
  rw [hwant]
  have hset := lis_set hls
  have mkiff : ∀ {r : Nat}, Mk l st (listed.setIfInBounds d.no true) r ↔ Mk l st listed r := by
    intro r
    constructor
    · rintro ⟨c, h1, h2, h3, h4⟩
      rcases (hset c.no).1 h2 with h5 | h5
      · have := hd.inj r e c d h1 hq h5
        subst this
        rw [hq] at h1
        simp only [Option.some.injEq] at h1
        subst h1
        exact absurd hk h3
      · exact ⟨c, h1, h5, h3, h4⟩
    · rintro ⟨c, h1, h2, h3, h4⟩
      exact ⟨c, h1, (hset c.no).2 (.inr h2), h3, h4⟩
  obtain ⟨e', he1, he2, he3, he4⟩ := next_change l (e + 1) hql
  have hlen1 := hw.len_mono hLF (show e ≤ e + 1 by omega) hql
  have hlen2 := hw.len_mono hLF he1 he2
  have hlen3 := hw.len_mono hLF he2 (Nat.le_refl _)
  have hplen := hw.len_mono hLF hpq h.en
  have h0len := hw.len_mono hLF (Nat.zero_le e) h.en
  obtain ⟨bs, hbs⟩ := hw.grows he1 he2 he3
  have mkne : ∀ {r : Nat}, Mk l st listed r → r ≠ e := fun {r} hm he => by subst he; exact hnl (hm.up hq)
  -- nothing is laid down yet where the operation makes its blocks
  have hfree : ∀ b, (st e).2.1.length ≤ b → b < (st (e + 1)).2.1.length → ν b = none := by
    intro b h1 h2
    cases hb : ν b with
    | none => rfl
    | some mm =>
      rcases h.dom b mm hb with g1 | ⟨r, g1, g2, g3⟩ | g1
      · omega
      · have hrl := g2.lt
        rcases Nat.lt_trichotomy r e with g4 | g4 | g4
        · have := Way.apart hw hLF g2 h.en g4; omega
        · exact absurd g4 (mkne g2)
        · have := hw.len_mono hLF (show e + 1 ≤ r from g4) (by omega); omega
      · omega
  -- the new phase, out of what the operation leaves
  have finish : ∀ (v : CV) (v' : Value) (w' : World) (ν' : Mu), (st (e + 1)).1 = (st e).1.put d.s.dst v → Sim K' B ν' (st (e + 1)).2.1 w' → V ν' v v' → (∀ b, b < (st e).2.1.length → ν' b = ν b) → (∀ b, (st (e + 1)).2.1.length ≤ b → ν' b = ν b) →
      ∃ p' e' ν' K2, Inv D K B L N l st ν0 (listed.setIfInBounds d.no true) (a.put d.s.dst v') w' p' e' ν' K2 := by
    intro v v' w' ν' hst hS hv hlow hfar
    have hmono : ∀ b mm, ν b = some mm → ν' b = some mm := by
      intro b mm hb
      rcases Nat.lt_or_ge b (st e).2.1.length with g1 | g1
      · rw [hlow b g1]; exact hb
      · rcases Nat.lt_or_ge b (st (e + 1)).2.1.length with g2 | g2
        · rw [hfree b g1 g2] at hb; cases hb
        · rw [hfar b g2]; exact hb
    obtain ⟨w1, w2⟩ := h.wrote_next hd hq hls hdN' hmono hv hst
    -- what is known of a block beyond the operation's own
    have beyond : ∀ b mm, (st (e + 1)).2.1.length ≤ b → b < L → ν' b = some mm → ∃ r, e + 1 ≤ r ∧ Mk l st listed r ∧ b = (st r).2.1.length ∧ ν b = some mm := by
      intro b mm g1 g2 hb
      rw [hfar b g1] at hb
      rcases h.dom b mm hb with g3 | ⟨r, g3, g4, g5⟩ | g3
      · omega
      · refine ⟨r, ?_, g4, g5, hb⟩
        rcases Nat.lt_trichotomy r e with g6 | g6 | g6
        · have := Way.apart hw hLF g4 h.en g6; omega
        · exact absurd g6 (mkne g4)
        · exact g6
      · omega
    classical
    let K2 : Nat → Option Obj := fun c => if ∃ r mm, e + 1 ≤ r ∧ r < e' ∧ Mk l st listed r ∧ ν (st r).2.1.length = some mm ∧ mm.c = c then none else K' c
    have hK2 : ∀ c x, K2 c = some x → K' c = some x := by
      intro c x hx
      simp only [K2] at hx
      split at hx
      · cases hx
      · exact hx
    have hS2 : Sim K2 B ν' ((st (e + 1)).2.1 ++ bs) w' := by
      refine hS.join (fun _ _ => rfl) (fun _ _ h => h) (fun b blk mm g1 g2 g3 => ?_) (fun b1 b2 m1 m2 g1 g2 g3 g4 g5 g6 g7 => ?_) hK2 (fun b mm g1 g2 g3 => ?_)
      · have hbl : b < ((st (e + 1)).2.1 ++ bs).length := (List.getElem?_eq_some_iff.1 g2).1
        rw [← hbs] at hbl
        obtain ⟨r, f1, f2, f3, f4⟩ := beyond b mm g1 (by omega) g3
        obtain ⟨m3, blk3, xo, c1, c2, c3, c7, c8, c9⟩ := h.extra r (by omega) f2
        rw [← f3] at c1 c2
        rw [f4] at c1
        simp only [Option.some.injEq] at c1
        subst c1
        have hre : r < e' := by
          refine Nat.lt_of_not_le fun hle => ?_
          have := hw.len_mono hLF hle (Nat.le_of_lt f2.lt)
          omega
        obtain ⟨bs', hbs'⟩ := hw.grows (show r + 1 ≤ e' from hre) he2 (fun q c h1 h2 h3 => he3 q c (by omega) h2 h3)
        have hb2 : b < (st (r + 1)).2.1.length := (List.getElem?_eq_some_iff.1 c2).1
        have : blk = blk3 := by
          rw [← hbs, hbs', List.getElem?_append_left hb2, c2] at g2
          simpa using g2.symm
        subst this
        exact ⟨xo, c3.mono hmono, c7, c9⟩
      · rw [← hbs] at g3 g4
        obtain ⟨r1, f1, f2, f3, f4⟩ := beyond b1 m1 g1 (by omega) g6
        obtain ⟨r2, k1, k2, k3, k4⟩ := beyond b2 m2 g2 (by omega) g7
        refine h.apart r1 r2 m1 m2 (by omega) (by omega) (fun he => g5 (by rw [f3, k3, he])) f2 k2 (by rw [← f3]; exact f4) (by rw [← k3]; exact k4)
      · rw [← hbs] at g2
        obtain ⟨r, f1, f2, f3, f4⟩ := beyond b mm g1 (by omega) g3
        have hre : r < e' := by
          refine Nat.lt_of_not_le fun hle => ?_
          have := hw.len_mono hLF hle (Nat.le_of_lt f2.lt)
          omega
        simp only [K2]
        rw [if_pos ⟨r, mm, f1, hre, f2, by rw [← f3]; exact f4, rfl⟩]
    rw [← hbs] at hS2
    have farK : ∀ {r : Nat} {mm : Tgt}, e' ≤ r → Mk l st listed r → ν (st r).2.1.length = some mm → K2 mm.c = K' mm.c := by
      intro r mm hge hmk hm'
      simp only [K2]
      rw [if_neg]
      rintro ⟨r2, m2, f1, f2, f3, f4, f5⟩
      exact h.apart r2 r m2 mm (by omega) (by omega) (by omega) f3 hmk f4 hm' f5
    refine ⟨e + 1, e', ν', K2, he1, he2, fun r c hr hlt => (hset c.no).2 ?_, he3, he4, fun r c hge hr hk3 hl => ?_, hS2, fun c x hx => ?_, fun c x hx => ?_, fun r hge hm => ?_, fun r r' m1 m2 a1 a2 a3 a4 a5 a6 a7 => ?_, fun b mm hb => ?_, fun b hb => ?_, fun b hb => ?_, ?_, ?_, w1, w2⟩
    · rcases Nat.lt_or_ge r e with h1 | h1
      · by_cases hck : c.kind = 3
        · exact .inr (anc_listed hd hcl d.no o ho hed _ (hd.chain e r d c hq hr hck h1 (.inl hk)))
        · exact .inr (anc_listed hd hcl d.no o ho hed _ (hd.before e r d c hq hr hk hck h1))
      · have : r = e := by omega
        subst this
        rw [hq] at hr
        simp only [Option.some.injEq] at hr
        subst hr
        exact .inl rfl
    · rcases (hset c.no).1 hl with h1 | h1
      · have := hd.inj r e c d hr hq h1
        omega
      · exact h.later r c (by omega) hr hk3 h1
    · have h1 := h.keeps c x hx
      simp only [K2]
      rw [if_neg]
      · exact h1
      · rintro ⟨r2, m2, f1, f2, f3, f4, f5⟩
        obtain ⟨m3, blk3, xo, c1, _, _, _, c8, _⟩ := h.extra r2 (by omega) f3
        rw [f4] at c1
        simp only [Option.some.injEq] at c1
        subst c1
        rw [f5, hx] at c8
        cases c8
    · rcases h.only c x (hK2 c x hx) with h1 | ⟨r, mm, h1, h2, h3, h4⟩
      · exact .inl h1
      · refine .inr ⟨r, mm, ?_, mkiff.2 h2, hmono _ _ h3, h4⟩
        refine Nat.le_of_not_lt fun hlt => ?_
        have hre : e + 1 ≤ r := by
          have := mkne h2
          omega
        have : K2 c = none := by simp only [K2]; rw [if_pos ⟨r, mm, hre, hlt, h2, h3, h4⟩]
        rw [this] at hx
        cases hx
    · have hm' := mkiff.1 hm
      obtain ⟨m3, blk3, xo, c1, c2, c3, c7, c8, c9⟩ := h.extra r (by omega) hm'
      exact ⟨m3, blk3, xo, hmono _ _ c1, c2, c3.mono hmono, by rw [farK hge hm' c1]; exact c7, c8, c9⟩
    · have g1 := hw.len_mono hLF a1 (Nat.le_of_lt a4.lt)
      have g2 := hw.len_mono hLF a2 (Nat.le_of_lt a5.lt)
      rw [hfar _ (by omega)] at a6 a7
      exact h.apart r r' m1 m2 (by omega) (by omega) a3 (mkiff.1 a4) (mkiff.1 a5) a6 a7
    · rcases Nat.lt_or_ge b (st (e + 1)).2.1.length with g1 | g1
      · exact .inl g1
      · rcases Nat.lt_or_ge b L with g2 | g2
        · obtain ⟨r, f1, f2, f3, _⟩ := beyond b mm g1 g2 hb
          exact .inr (.inl ⟨r, f1, mkiff.2 f2, f3⟩)
        · exact .inr (.inr g2)
    · rw [hlow b (by omega)]; exact h.low b hb
    · rw [hfar b (by omega)]; exact h.far b hb
    · cases hdd : d.s.dst <;> exact h.defers
    · cases hdd : d.s.dst with
      | none => exact h.size
      | some t => simp only [Act.put, Array.size_setIfInBounds]; exact h.size
  cases hwd : wanted d.s.guard (st e).1 with
  | false =>
    rw [if_pos hwd] at hstep
    simp only [Option.some.injEq] at hstep
    simp only [Bool.false_eq_true, if_false]
    rw [← hdst]
    refine ⟨fun _ _ => trivial, ?_⟩
    refine finish .undef undef w ν (by rw [← hstep]) ?_ (V_undef ν) (fun _ _ => rfl) (fun _ _ => rfl)
    have : (st (e + 1)).2.1 = (st e).2.1 := by rw [← hstep]
    rw [this]
    exact h.sim
  | true =>
    rw [if_neg (by rw [hwd]; simp), if_pos hk, Option.map_eq_some_iff] at hstep
    obtain ⟨r, hrr, hstep⟩ := hstep
    simp only [if_true]
    have hr2 : (st (e + 1)).2.1 = r.2 := by rw [← hstep]
    rw [hopd] at hrr
    have hE : ∀ t ∈ op.tmps, V ν ((st e).1 t) (a.tmps.getD t undef) := fun t ht => hreads t (by unfold CStmt.reads; rw [hopd]; simp [ht])
    have hSt : St K' B (st (e + 1)).2.1.length ν (st e).2.1 w := ⟨h.sim, hfree⟩
    refine (op_sim hF hBr hSt hop hE hrr (by rw [hr2]; exact Nat.le_refl _) _ _ fun v' w' ν' hS' hV' hX' => ?_)
    rw [← hdst]
    refine finish r.1 v' w' ν' (by rw [← hstep]) (by rw [hr2]; exact hS'.sim) hV' hX'.same hX'.far
end

def unlisted (n : Nat) (listed : Array Bool) : Nat := ((List.range n).filter fun i => !listed.getD i false).length

theorem unlisted_set {n : Nat} {listed : Array Bool} {j : Nat} (hs : listed.size = n) (hj : j < n) (hn : ¬ lis listed j) : unlisted n (listed.setIfInBounds j true) < unlisted n listed := by
  unfold unlisted
  have hset := lis_set (listed := listed) (j := j) (by omega)
  have key : ∀ (l : List Nat), l.Nodup → j ∈ l → (l.filter fun i => !(listed.setIfInBounds j true).getD i false).length < (l.filter fun i => !listed.getD i false).length ∧ True := by
    intro l hnd hm
    have e : (l.filter fun i => !(listed.setIfInBounds j true).getD i false) = (l.filter fun i => !listed.getD i false).filter fun i => i ≠ j := by
      rw [List.filter_filter]
      refine List.filter_congr fun i _ => ?_
      have := hset i
      unfold lis at this
      by_cases hi : i = j
      · subst hi; simp [this.2 (.inl rfl)]
      · cases hb : listed.getD i false with
        | true => simp [this.2 (.inr hb)]
        | false =>
          have : (listed.setIfInBounds j true).getD i false = false := by
            cases hc : (listed.setIfInBounds j true).getD i false with
            | false => rfl
            | true => rcases this.1 hc with h | h; exact absurd h hi; rw [hb] at h; cases h
          simp [this, hi]
    rw [e]
    refine ⟨?_, trivial⟩
    have hmem : j ∈ l.filter fun i => !listed.getD i false := by
      rw [List.mem_filter]
      refine ⟨hm, ?_⟩
      unfold lis at hn
      simpa using hn
    exact List.length_filter_lt_length_iff_exists.2 ⟨j, hmem, by simp⟩
  exact (key _ List.nodup_range (List.mem_range.2 hj)).1

theorem unlisted_zero {n : Nat} {listed : Array Bool} (h : unlisted n listed = 0) {i : Nat} (hi : i < n) : lis listed i := by
  unfold unlisted at h
  rw [List.length_eq_zero_iff, List.filter_eq_nil_iff] at h
  have := h i (List.mem_range.2 hi)
  unfold lis
  simpa using this

theorem lis_none (n i : Nat) : ¬ lis (Array.replicate n false) i := by
  intro hi
  unfold lis at hi
  rw [Array.getD_eq_getD_getElem?, Array.getElem?_replicate] at hi
  split at hi <;> cases hi

section
variable {ops : Array Oper} {an : List (List Nat)} {l : List DStmt} {st : Nat → DSt} {ν0 : Mu} {F : CallF}

/-- Where all have come up. -/
theorem Inv.done {listed : Array Bool} {a : Act} {w : World} {p e : Nat} {ν : Mu} {K' : Nat → Option Obj} (h : Inv D K B L N l st ν0 listed a w p e ν K') (hd : DFacts P N ops an l) (hw : Way F l st) (hLF : LenF F) (hend : (st l.length).2.1.length ≤ L) (htop : ∀ t, N ≤ t → (st 0).1 t = .undef)
    (hall : ∀ i, i < ops.size → lis listed i) : ∃ ν', St K B L ν' (st l.length).2.1 w ∧ ER D ν' N (st l.length).1 a ∧ Ext L (st 0).2.1 ν0 (st l.length).2.1 ν' := by
  have hno : ∀ {q : Nat} {d : DStmt}, l[q]? = some d → lis listed d.no := by
    intro q d hq
    obtain ⟨o, ho, _⟩ := hd.stmt q d hq
    exact hall _ (Array.getElem?_eq_some_iff.1 ho).1
  have he : e = l.length := by
    refine Nat.le_antisymm h.en (Nat.le_of_not_lt fun hlt => ?_)
    have hx : l[e]? = some (l[e]'hlt) := List.getElem?_eq_getElem hlt
    exact h.later e _ (Nat.le_refl _) hx (h.endk _ hx) (hno hx)
  subst he
  have hK : K' = K := by
    funext c
    cases hk : K' c with
    | none =>
      cases hk2 : K c with
      | none => rfl
      | some x => rw [h.keeps c x hk2] at hk; cases hk
    | some x =>
      rcases h.only c x hk with h1 | ⟨r, m, h1, h2, _⟩
      · exact h1.symm
      · have := h2.lt; omega
  have hsim := h.sim
  rw [hK] at hsim
  have hpl := hw.len_mono hLF h.pe (Nat.le_refl _)
  refine ⟨ν, ⟨hsim, fun b h1 h2 => ?_⟩, ⟨h.defers, h.size, fun t => ?_, fun t ht => by
    rw [hw.env_init (Nat.le_refl _) fun r c hrc hc => ?_]
    · exact htop t ht
    · obtain ⟨o, _, ho⟩ := hd.stmt r c hrc
      obtain ⟨g, op, _, _, hdl, he⟩ := compStmt_inv ho
      rw [he] at hc
      exact absurd (hdl t hc) (Nat.not_lt.2 ht)⟩, ⟨hw.len_mono hLF (Nat.zero_le _) (Nat.le_refl _), h.low, h.far⟩⟩
  · cases hb : ν b with
    | none => rfl
    | some m =>
      rcases h.dom b m hb with g | ⟨r, g1, g2, g3⟩ | g
      · omega
      · have := Way.apart hw hLF g2 (Nat.le_refl _) g2.lt; omega
      · omega
  · by_cases hx : ∃ (r : Nat) (c : DStmt), l[r]? = some c ∧ c.s.dst = some t
    · obtain ⟨r, c, hrc, hc⟩ := hx
      rw [hw.env_keep hd.dst hrc hc (List.getElem?_eq_some_iff.1 hrc).1 (Nat.le_refl _)]
      exact h.wrote r c t hrc (hno hrc) hc
    · rw [hw.env_init (Nat.le_refl _) fun r c hrc hc => hx ⟨r, c, hrc, hc⟩]
      exact h.unwrote t fun r c hrc hc => absurd ⟨r, c, hrc, hc⟩ hx

theorem any_sim (hd : DFacts P N ops an l) (hw : Way F l st) (hF : SimF P F) (hBr : BOk P B) (hLF : LenF F) (h0 : (st 0).2.2 = []) (hend : (st l.length).2.1.length ≤ L) (htop : ∀ t, N ≤ t → (st 0).1 t = .undef) {Q : Exit → Act → World → Prop}
    (hQ : ∀ a w, (∃ ν', St K B L ν' (st l.length).2.1 w ∧ ER D ν' N (st l.length).1 a ∧ Ext L (st 0).2.1 ν0 (st l.length).2.1 ν') → Q .normal a w) :
    ∀ (fuel : Nat) (listed : Array Bool) (a : Act) (w : World), listed.size = ops.size → Closed ops listed → unlisted ops.size listed ≤ fuel → (∃ p e ν K', Inv D K B L N l st ν0 listed a w p e ν K') →
    wpAnyIn (Fr rd) dp P .any ops Q fuel listed a w := by
  intro fuel
  induction fuel with
  | zero =>
    intro listed a w hs hcl hu ⟨p, e, ν, K', h⟩
    have hall : ∀ i, i < ops.size → lis listed i := fun i hi => unlisted_zero (by omega) hi
    refine ⟨?_, hQ _ _ (h.done hd hw hLF hend htop hall)⟩
    rw [List.eq_nil_iff_forall_not_mem]
    intro j hj
    obtain ⟨h1, o, ho, _⟩ := mem_ready.1 hj
    have hlt := (Array.getElem?_eq_some_iff.1 ho).1
    have := hall j hlt
    unfold lis at this
    rw [Array.getD_eq_getD_getElem?, Array.getElem?_eq_getElem (by omega)] at h1 this
    simp at h1 this
    rw [h1] at this
    cases this
  | succ fuel ih =>
    intro listed a w hs hcl hu ⟨p, e, ν, K', h⟩
    have edges : ∀ (o : Oper), (∀ e ∈ o.after, Region.binds .any e = true → listed.getD e.on false = true) ↔ ∀ i ∈ edgesOf o, lis listed i := by
      intro o
      unfold edgesOf lis
      simp only [List.mem_map, List.mem_filter, Array.mem_toList_iff]
      constructor
      · rintro hx i ⟨e, ⟨he, hb⟩, rfl⟩; exact hx e he hb
      · intro hx e he hb; exact hx e.on ⟨e, ⟨he, hb⟩, rfl⟩
    refine ⟨fun hr => hQ _ _ (h.done hd hw hLF hend htop fun i => ?_), fun j hj => ?_⟩
    · induction i using Nat.strongRecOn with
      | _ i ihi =>
        intro hi
        have hx : ops[i]? = some (ops[i]'hi) := Array.getElem?_eq_getElem hi
        by_cases hlis : lis listed i
        · exact hlis
        · have : i ∈ Region.ready .any ops listed := by
            refine mem_ready.2 ⟨?_, _, hx, ?_⟩
            · unfold lis at hlis
              rw [Array.getD_eq_getD_getElem?, Array.getElem?_eq_getElem (by omega)] at hlis ⊢
              simpa using hlis
            · exact (edges _).2 fun e he => ihi e (hd.edges i _ hx e he) (by have := hd.edges i _ hx e he; omega)
          rw [hr] at this
          cases this
    · obtain ⟨h1, o, ho, h2⟩ := mem_ready.1 hj
      have hlt := (Array.getElem?_eq_some_iff.1 ho).1
      have hnl : ¬ lis listed j := by
        unfold lis
        rw [Array.getD_eq_getD_getElem?, Array.getElem?_eq_getElem (by omega)] at h1 ⊢
        simpa using h1
      have hed := (edges o).1 h2
      obtain ⟨q, d, hq, hdj⟩ := hd.all j hlt
      subst hdj
      have hcl' : Closed ops (listed.setIfInBounds d.no true) := by
        intro i o' ho' hi e he
        have hset := lis_set (listed := listed) (j := d.no) (by omega)
        rcases (hset i).1 hi with h3 | h3
        · subst h3
          rw [ho] at ho'
          simp only [Option.some.injEq] at ho'
          subst ho'
          exact (hset e).2 (.inr (hed e he))
        · exact (hset e).2 (.inr (hcl i o' ho' h3 e he))
      have hu' := unlisted_set hs hlt hnl
      have hgo : ∀ a' w', (∃ p e ν K', Inv D K B L N l st ν0 (listed.setIfInBounds d.no true) a' w' p e ν K') → wpAnyIn (Fr rd) dp P .any ops Q fuel (listed.setIfInBounds d.no true) a' w' :=
        fun a' w' hI => ih _ a' w' (by simpa using hs) hcl' (by omega) hI
      by_cases hk : d.kind = 3
      · exact wpOpIn_mono hgo (h.step_change hd hw hF hBr hLF hcl hend hq hk hnl (by omega) ho hed)
      · refine wpOpIn_mono (fun a' w' hI => hgo a' w' ?_) (h.step_steady hBr.glob hd hw hLF hcl h0 hend hq hk hnl (by omega) ho hed)
        obtain ⟨ν', K2, hI⟩ := hI
        exact ⟨p, e, ν', K2, hI⟩
end

theorem dregion_sim (hm : P.follows .mixedOrders = true) (hF : SimF P F) (hBr : BOk P B) (hLF : LenF F) {id : Nat} {ops : Array Oper} {ss : List CStmt} (hc : allSome (ops.toList.map (compStmt P N ops)) = some ss) {l : List DStmt} (hl : ∃ ks, l = compD ss (ancs ops.toList) ks)
    (hok : dOk ops.toList ss (ancs ops.toList) l = true)
    {E : Env} {H : CHeap} {ν : Mu} {a : Act} {w : World} {r : Env × CHeap} (he : evD F l E H [] = some r) (hL : r.2.length ≤ L) (hS : St K B L ν H w) (hR : ER D ν N E a) :
    (Code.region id ops true).wpIn (Fr rd) dp P (fun x a' w' => ∃ ν', x = .normal ∧ St K B L ν' r.2 w' ∧ ER D ν' N r.1 a' ∧ Ext L H ν r.2 ν') a w := by
  have hd := dFacts hc hl hok
  obtain ⟨st, h0, h1, h2, hw⟩ := evD_way he
  have hH0 : (st 0).2.1 = H := by rw [h0]
  have hE0 : (st 0).1 = E := by rw [h0]
  have hend : (st l.length).2.1.length ≤ L := by rw [h2]; exact hL
  obtain ⟨e, he1, he2, he3, he4⟩ := next_change l 0 (Nat.zero_le _)
  refine wpIn_region_any hm (any_sim (D := D) (K := K) (B := B) (ν0 := ν) hd hw hF hBr hLF (by rw [h0]) hend (by rw [hE0]; exact hR.top) (fun a' w' hq => ?_) ops.size _ a _ (by simp) (fun j o ho hj e he => ?_) ?_ ⟨0, e, ν, K, ?_⟩)
  · obtain ⟨ν', g1, g2, g3⟩ := hq
    rw [h2] at g1 g3
    rw [h1] at g2
    rw [hH0] at g3
    exact ⟨ν', rfl, g1, g2, g3⟩
  · exact (lis_none _ _ hj).elim
  · unfold unlisted
    exact Nat.le_trans (List.length_filter_le _ _) (by simp)
  · have nl : ∀ i, ¬ lis (Array.replicate ops.size false) i := lis_none _
    have nmk : ∀ q, ¬ Mk l st (Array.replicate ops.size false) q := fun q ⟨d, _, h2, _⟩ => nl _ h2
    obtain ⟨bs, hbs⟩ := hw.grows he1 he2 he3
    have hlen := hw.len_mono hLF he2 (Nat.le_refl _)
    have hS0 := hS.sim.same (w' := { w with drawn := w.drawn + 1 }) rfl rfl rfl rfl
    have none_at : ∀ b m, H.length ≤ b → b < ((st 0).2.1 ++ bs).length → ν b = some m → False := by
      intro b m g1 g2 g3
      rw [← hbs] at g2
      rw [hS.dom b g1 (by omega)] at g3
      cases g3
    have hS2 : Sim K B ν ((st 0).2.1 ++ bs) { w with drawn := w.drawn + 1 } := by
      rw [hH0]
      rw [hH0] at none_at
      exact hS0.join (fun _ _ => rfl) (fun _ _ h => h) (fun b blk m g1 g2 g3 => (none_at b m g1 (List.getElem?_eq_some_iff.1 g2).1 g3).elim) (fun b1 b2 m1 m2 g1 _ g3 _ _ g6 _ => (none_at b1 m1 g1 g3 g6).elim) (fun _ _ h => h)
        (fun b m g1 g2 g3 => (none_at b m g1 g2 g3).elim)
    rw [← hbs] at hS2
    refine ⟨Nat.zero_le _, he2, fun q d hq hlt => by omega, fun q d g1 g2 g3 => he3 q d g1 g2 g3, he4, fun q d _ _ _ h => nl _ h, hS2, fun _ _ h => h, fun c o h => .inl h, fun q _ hm => (nmk q hm).elim, fun q q' m m' _ _ _ hm => (nmk q hm).elim, fun b m hb => ?_,
      fun _ _ => rfl, fun _ _ => rfl, hR.defers, hR.size, fun q d t _ hl => (nl _ hl).elim, fun t _ => by rw [hE0]; exact hR.val t⟩
    rw [hH0]
    rcases Nat.lt_or_ge b H.length with g | g
    · exact .inl g
    · rcases Nat.lt_or_ge b L with g2 | g2
      · rw [hS.dom b g g2] at hb; cases hb
      · exact .inr (.inr g2)
end
end Go.Cs

/- Code and functions: what the clean machine comes to, the model comes to. -/
namespace Go.Cs
open Go Go.RowKit

def XR : CX → Exit → Prop
  | .normal, x => x = .normal
  | .exit id, x => x = .exit id
  | .ret, x => x = .ret

/-- The blocks for rounds' deferred calls, of the loops over functions that an activation has begun: nothing is in them. -/
def Marks (K : Nat → Option Obj) (B : Bs) (K' : Nat → Option Obj) (D : List Deferred) : Prop :=
  ∃ rs : List Nat, D = rs.map (fun r => { target := .collected r, args := #[] }) ∧ rs.Nodup ∧ ∀ r ∈ rs, K' r = some (.deferred (some [])) ∧ K r = none ∧ B.heap.size ≤ r

def KLe (K K' : Nat → Option Obj) : Prop := ∀ c o, K c = some o → K' c = some o

/-- What holds behind a piece of code. -/
def CQ (top : Bool) (D0 : List Deferred) (K0 : Nat → Option Obj) (B : Bs) (L N : Nat) (H : CHeap) (ν : Mu) (r : CX × Env × CHeap) : Exit → Act → World → Prop :=
  fun x a w => ∃ ν' K D, XR r.1 x ∧ St K B L ν' r.2.2 w ∧ ER D ν' N r.2.1 a ∧ Ext L H ν r.2.2 ν' ∧ KLe K0 K ∧ Marks K0 B K D ∧ (top = false → D = D0)

section
variable {P : Program} {F : CallF} {K K0 : Nat → Option Obj} {B : Bs} {L N : Nat} {rd : Option Nat} {dp : Nat} {D D0 : List Deferred} {top : Bool}

theorem CQ.later {H H1 : CHeap} {ν ν1 : Mu} {r : CX × Env × CHeap} (h : Ext L H ν H1 ν1) {x : Exit} {a : Act} {w : World} (hq : CQ top D0 K B L N H1 ν1 r x a w) : CQ top D0 K B L N H ν r x a w := by
  obtain ⟨ν', K', D, h1, h2, h3, h4, h5⟩ := hq
  exact ⟨ν', K', D, h1, h2, h3, h.trans h4, h5⟩

/-- The operations of a region in the text's order. -/
theorem ops_sim (hF : SimF P F) (hBr : BOk P B) (hLF : LenF F) (hK : KLe K0 K) (hM : Marks K0 B K D) (hD : top = false → D = D0) {ops : Array Oper} : ∀ (l : List Nat) (ss : List CStmt), ss.length = l.length → (∀ (q : Nat) (i : Nat) (s : CStmt), l[q]? = some i → ss[q]? = some s → ∃ o, ops[i]? = some o ∧ compStmt P N ops o = some s) →
    ∀ (E : Env) (H : CHeap) (ν : Mu) (a : Act) (w : World) (r : Env × CHeap), evOps F ss E H = some r → r.2.length ≤ L → St K B L ν H w → ER D ν N E a →
    wpOpsIn (Fr rd) dp P ops (CQ top D0 K0 B L N H ν (.normal, r.1, r.2)) l a w
  | [], [], _, _, E, H, ν, a, w, r, he, _, hS, hR => by
    simp only [evOps, Option.some.injEq] at he
    subst he
    exact ⟨ν, K, D, rfl, hS, hR, Ext.refl _ _ _, hK, hM, hD⟩
  | i :: l, s :: ss, hl, hs, E, H, ν, a, w, r, he, hL, hS, hR => by
    obtain ⟨o, ho, hc⟩ := hs 0 i s rfl rfl
    have ih := ops_sim hF hBr hLF hK hM hD (ops := ops) l ss (by simpa using hl) (fun q j t h1 h2 => hs (q + 1) j t (by simpa using h1) (by simpa using h2))
    simp only [evOps, Option.bind_eq_some_iff] at he
    obtain ⟨⟨E1, H1⟩, he1, he2⟩ := he
    obtain ⟨g, op, hg, hop, hd, rfl⟩ := compStmt_inv hc
    rw [wpOpsIn_cons]
    unfold wpOpIn
    simp only [ho]
    rw [wanted_sim hg hR]
    unfold evStmt at he1
    dsimp only at he1
    split at he1
    · rename_i hw
      rw [if_pos hw]
      rw [Option.map_eq_some_iff] at he1
      obtain ⟨v, hv, he1⟩ := he1
      simp only [Prod.mk.injEq] at he1
      obtain ⟨rfl, rfl⟩ := he1
      refine op_sim hF hBr hS hop (fun t _ => hR.val t) hv (Nat.le_trans (evOps_len hLF he2) hL) _ _ fun v' w' ν' hS' hV' hx' => ?_
      have hm := hx'.mono hS
      refine wpOps_mono ?_ _ _ _ (ih _ _ ν' _ w' r he2 hL hS' ((hR.mono hm).put hd hV'))
      exact fun x a w hq => CQ.later hx' hq
    · rename_i hw
      rw [if_neg hw]
      simp only [Option.some.injEq, Prod.mk.injEq] at he1
      obtain ⟨rfl, rfl⟩ := he1
      exact ⟨fun _ _ => trivial, ih _ _ ν _ w r he2 hL hS (hR.put hd (by simp [V, VL, undef]))⟩
  | [], _ :: _, hl, _, _, _, _, _, _, _, _, _, _, _ => by simp at hl
  | _ :: _, [], hl, _, _, _, _, _, _, _, _, _, _, _ => by simp at hl

theorem region_sim (hF : SimF P F) (hBr : BOk P B) (hLF : LenF F) (hK : KLe K0 K) (hM : Marks K0 B K D) (hD : top = false → D = D0) {id : Nat} {ops : Array Oper} {ss : List CStmt} (hc : allSome (ops.toList.map (compStmt P N ops)) = some ss) {E : Env} {H : CHeap} {ν : Mu} {a : Act} {w : World} {r : Env × CHeap} (he : evOps F ss E H = some r) (hL : r.2.length ≤ L)
    (hS : St K B L ν H w) (hR : ER D ν N E a) : (Code.region id ops false).wpIn (Fr rd) dp P (CQ top D0 K0 B L N H ν (.normal, r.1, r.2)) a w := by
  refine wpIn_region (ops_sim hF hBr hLF hK hM hD (List.range ops.size) ss (by simp [allSome_length hc]) (fun q i s h1 h2 => ?_) E H ν a w r he hL hS hR)
  have hx := allSome_get hc h2
  rw [List.getElem?_map, Option.map_eq_some_iff] at hx
  obtain ⟨o, ho, hs⟩ := hx
  have hq : q < ops.size := by have := (List.getElem?_eq_some_iff.1 h1).1; simpa using this
  rw [List.getElem?_range hq] at h1
  simp only [Option.some.injEq] at h1
  subst h1
  exact ⟨o, by simpa using ho, hs⟩

theorem least {p : Nat → Prop} (h : ∃ n, p n) : ∃ n, p n ∧ ∀ m, p m → n ≤ m := by
  obtain ⟨n, hn⟩ := h
  induction n using Nat.strongRecOn with
  | _ n ih =>
    by_cases hx : ∃ m, m < n ∧ p m
    · obtain ⟨m, hlt, hp⟩ := hx; exact ih m hlt hp
    · exact ⟨n, hn, fun m hm => Nat.le_of_not_lt fun hlt => hx ⟨m, hlt, hm⟩⟩

/-- The loops over functions of a piece of code are those of the function, from the k-th on. -/
def RndAt (P : Program) (f N : Nat) (c : Code) (k : Nat) : Prop := ∀ i x, (roundsIn c)[i]? = some x → k + i < 16 → ∃ fn, roundAt P ((f * 16 + (k + i)) * 2) = some (f, fn, x) ∧ fn.ntmps = N

theorem RndAt.left {f : Nat} {c x y : Code} {k : Nat} (h : RndAt P f N c k) (e : roundsIn c = roundsIn x ++ roundsIn y) : RndAt P f N x k := fun i q hi hk =>
  h i q (by rw [e, List.getElem?_append_left (List.getElem?_eq_some_iff.1 hi).1]; exact hi) hk
theorem RndAt.right {f : Nat} {c x y : Code} {k : Nat} (h : RndAt P f N c k) (e : roundsIn c = roundsIn x ++ roundsIn y) : RndAt P f N y (k + (roundsIn x).length) := fun i q hi hk => by
  have := h ((roundsIn x).length + i) q (by rw [e, List.getElem?_append_right (by omega)]; simpa using hi) (by omega)
  rw [← Nat.add_assoc k] at this
  exact this

theorem KLe.refl (K : Nat → Option Obj) : KLe K K := fun _ _ h => h
theorem KLe.trans {K1 K2 K3 : Nat → Option Obj} (h : KLe K1 K2) (k : KLe K2 K3) : KLe K1 K3 := fun c o e => k c o (h c o e)
theorem KLe.none {K1 K2 : Nat → Option Obj} (h : KLe K1 K2) {c : Nat} (e : K2 c = none) : K1 c = none := by
  cases hk : K1 c with
  | none => rfl
  | some o => rw [h c o hk] at e; cases e

/-- Less is left alone. -/
theorem Sim.less {μ : Mu} {H : CHeap} {w : World} (h : Sim K B μ H w) (hk : KLe K0 K) : Sim K0 B μ H w :=
  ⟨h.base, fun c o e => h.kept c o (hk c o e), fun b blk m h1 h2 h3 h4 => by
    obtain ⟨arr, T, fz, e1, e2, e3, e4⟩ := h.blk b blk m h1 h2 h3 h4
    exact ⟨arr, T, fz, e1, e2, fun e => by obtain ⟨c1, c2, c3, c4, c5, c6⟩ := e3 e; exact ⟨c1, c2, c3, c4, c5, hk.none c6⟩, e4⟩,
    h.inj, fun b blk m h1 h2 h3 => by obtain ⟨ob, e1, e2, e3, e4⟩ := h.mp b blk m h1 h2 h3; exact ⟨ob, e1, e2, e3, hk.none e4⟩⟩

/-- A mark is laid for a loop over a function, and the loop's record. -/
theorem St.enter {ν : Mu} {H : CHeap} {w : World} (hS : St K B L ν H w) (hL : H.length < L) {k : Blk} (hk : k.mode = .map) {r : Loop} (hr : ∀ ν', (∀ b m, ν b = some m → ν' b = some m) → LoopR B ν' k r) :
    ∃ ν', St (fun c => if c = w.heap.size then some (.deferred (some [])) else K c) B L ν' (H ++ [k]) ((w.alloc (.deferred (some []))).alloc (.loop r)) ∧ Ext L H ν (H ++ [k]) ν' ∧ ν' H.length = some ⟨w.heap.size + 1, 0, k.esz, 0⟩ := by
  have h1 := hS.sim.alloc (.deferred (some []))
  have hsz : (w.alloc (.deferred (some []))).heap.size = w.heap.size + 1 := World.size_alloc _ _
  have hmono : ∀ b m, ν b = some m → (ν.set H.length ⟨w.heap.size + 1, 0, k.esz, 0⟩) b = some m := by
    intro b m hm
    have hb : b ≠ H.length := fun e => by rw [e, hS.dom _ (Nat.le_refl _) hL] at hm; cases hm
    rw [Mu.set_ne _ _ hb]; exact hm
  have h2 := h1.congr (ν := ν.set H.length ⟨w.heap.size + 1, 0, k.esz, 0⟩) (fun b hb => Mu.set_ne _ _ (by omega)) hmono
  have h3 := h2.newObj (e := k.esz) (z := 0) (by rw [hsz]; exact Mu.set_self _ _ _) (by
    rw [hsz, if_neg (by omega)]
    cases hk : K (w.heap.size + 1) with
    | none => rfl
    | some o => have := (Array.getElem?_eq_some_iff.1 (hS.sim.kept _ _ hk)).1; omega) hk (x := .loop r) (.inr ⟨r, rfl, hr _ hmono⟩)
  exact ⟨_, ⟨h3, fun b hb hl => by simp at hb; rw [Mu.set_ne _ _ (by omega)]; exact hS.dom b (by omega) hl⟩, ⟨by simp, fun b hb => Mu.set_ne _ _ (by omega), fun b hb => Mu.set_ne _ _ (by omega)⟩, Mu.set_self _ _ _⟩

/-- A loop that is over. -/
theorem Sim.shut {μ : Mu} {H : CHeap} {w : World} (h : Sim K B μ H w) {b : Nat} {k : Blk} {m : Tgt} (hb : H[b]? = some k) (hk : k.mode = .map) (hm : μ b = some m) (x : Obj) : Sim K B μ (H.set b ⟨[], .dead, 0⟩) (w.putObj m.c x) := by
  obtain ⟨ob, hw, hob, hB, hK⟩ := h.mp b k m hb hk hm
  have hlt := (Array.getElem?_eq_some_iff.1 hw).1
  have oth : ∀ {c : Nat}, c ≠ m.c → (w.heap.setIfInBounds m.c x)[c]? = w.heap[c]? := fun hc => by simp [Ne.symm hc]
  have get : ∀ {b' : Nat} {k' : Blk}, (H.set b ⟨[], .dead, 0⟩)[b']? = some k' → k'.mode ≠ .dead → b' ≠ b ∧ H[b']? = some k' := by
    intro b' k' hb' hd
    by_cases hbb : b' = b
    · subst hbb
      rw [List.getElem?_set_self ((List.getElem?_eq_some_iff.1 hb).1)] at hb'
      simp only [Option.some.injEq] at hb'
      subst hb'
      exact absurd rfl hd
    · rw [List.getElem?_set_ne (Ne.symm hbb)] at hb'
      exact ⟨hbb, hb'⟩
  refine ⟨h.base.trans ⟨rfl, rfl, rfl, by simp [World.putObj], fun q hq => oth (by omega)⟩, fun c o hc => ?_, fun b' k' m' hb' hd hd' hm' => ?_, fun b1 b2 k1 k2 m1 m2 h1 h2 r1 r2 hne e1 e2 => ?_, fun b' k' m' hb' hd hm' => ?_⟩
  · have hne : c ≠ m.c := fun e => by rw [e, hK] at hc; cases hc
    exact (oth hne).trans (h.kept c o hc)
  · obtain ⟨hbb, hb'⟩ := get hb' hd
    obtain ⟨arr, T, fz, e1, e2⟩ := h.blk b' k' m' hb' hd hd' hm'
    exact ⟨arr, T, fz, (oth (Ne.symm (h.inj b b' k k' m m' hb hb' (.inr hk) hd (Ne.symm hbb) hm hm'))).trans e1, e2⟩
  · obtain ⟨g1, h1⟩ := get h1 (by rcases r1 with r1 | r1 <;> (rw [r1]; decide))
    obtain ⟨g2, h2⟩ := get h2 r2
    exact h.inj b1 b2 k1 k2 m1 m2 h1 h2 r1 r2 hne e1 e2
  · obtain ⟨hbb, hb'⟩ := get hb' (by rw [hd]; decide)
    obtain ⟨ob', e1, e2⟩ := h.mp b' k' m' hb' hd hm'
    exact ⟨ob', (oth (Ne.symm (h.inj b b' k k' m m' hb hb' (.inr hk) (by rw [hd]; decide) (Ne.symm hbb) hm hm'))).trans e1, e2⟩

theorem StR.leaves {s : Int} {r : Loop} (h : StR s r) (h1 : s ≠ 1) : r.state ≠ .busy ∧ ((s = 0 ∧ r.pending = none) ∨ (s = 2 ∧ r.pending = some .ret) ∨ ∃ id : Nat, s = id + 3 ∧ r.pending = some (.exit id)) := by
  rcases h with ⟨e, h2, h3⟩ | e | ⟨e, h2, h3⟩ | ⟨id, e, h2, h3⟩
  · exact ⟨by rw [h2]; simp, .inl ⟨e, h3⟩⟩
  · exact absurd e h1
  · exact ⟨by rw [h2]; simp, .inr (.inl ⟨e, h3⟩)⟩
  · exact ⟨by rw [h2]; simp, .inr (.inr ⟨id, e, h3⟩)⟩

theorem code_sim (hm : P.follows .mixedOrders = true) (hBr : BOk P B) {f : Nat} {top : Bool} (htop : top = true → rd = none) {D0 : List Deferred} : ∀ (n : Nat), (∀ k, k < n → SimF P (callN (cprog P) k)) → ∀ (c : Code) (k : Nat) (cc : CCode) (E : Env) (H : CHeap) (r : CX × Env × CHeap), compCode P f N top k c = some cc → (top = true → RndAt P f N c k) → ev (cprog P) n cc E H = some r → r.2.2.length ≤ L →
    ∀ (K : Nat → Option Obj) (D : List Deferred) (ν : Mu) (a : Act) (w : World), KLe K0 K → Marks K0 B K D → (top = false → D = D0) → St K B L ν H w → ER D ν N E a → c.wpIn (Fr rd) dp P (fun x a w => ∃ ν' K' D', XR r.1 x ∧ St K' B L ν' r.2.2 w ∧ ER D' ν' N r.2.1 a ∧ Ext L H ν r.2.2 ν' ∧ KLe K0 K' ∧ Marks K0 B K' D' ∧ (top = false → D' = D0)) a w
  | 0, _, _, _, _, _, _, _, _, _, he, _, _, _, _, _, _, _, _, _, _, _ => by cases he
  | n + 1, hF, c, k, cc, E, H, r, hc, hrn, he, hL, K, D, ν, a, w, hK, hM, hD, hS, hR => by
    have ih := code_sim hm hBr (f := f) htop (D0 := D0) n (fun k hk => hF k (by omega))
    have hFn := hF n (by omega)
    rw [ev_succ] at he
    cases c with
    | skip =>
      simp only [compCode, Option.some.injEq] at hc; subst hc
      simp only [Option.some.injEq] at he; subst he
      exact wpIn_skip ⟨ν, K, D, rfl, hS, hR, Ext.refl _ _ _, hK, hM, hD⟩
    | region id ops draw =>
      simp only [compCode, Option.bind_eq_some_iff] at hc
      obtain ⟨ss, hss, hc⟩ := hc
      cases draw with
      | false =>
        simp only [Bool.false_eq_true, if_false, Option.some.injEq] at hc; subst hc
        rw [Option.map_eq_some_iff] at he
        obtain ⟨q, hq, rfl⟩ := he
        exact wpIn_mono (region_sim hFn hBr (callN_len _ n) hK hM (fun h => hD h) hss hq hL hS hR) fun x a w h => h
      | true =>
        simp only [if_true] at hc
        obtain ⟨hok, hc⟩ := guardB_some hc
        simp only [Option.some.injEq] at hc; subst hc
        rw [Option.map_eq_some_iff] at he
        obtain ⟨q, hq, rfl⟩ := he
        refine wpIn_mono (dregion_sim hm hFn hBr (callN_len _ n) hss ⟨_, rfl⟩ hok hq hL hS hR) fun x a w hq => ?_
        obtain ⟨ν', rfl, h1, h2, h3⟩ := hq
        exact ⟨ν', K, D, rfl, h1, h2, h3, hK, hM, hD⟩
    | seq x y =>
      simp only [compCode, Option.bind_eq_some_iff, Option.map_eq_some_iff] at hc
      obtain ⟨x', hx, y', hy, rfl⟩ := hc
      rw [Option.bind_eq_some_iff] at he
      obtain ⟨q, hq, he⟩ := he
      have hqL : q.2.2.length ≤ L := by
        split at he
        · exact Nat.le_trans (ev_len _ n he) hL
        · simp only [Option.some.injEq] at he; subst he; exact hL
      refine wpIn_seq (wpIn_mono (ih x k x' E H q hx (fun h => (hrn h).left rfl) hq hqL K D ν a w hK hM hD hS hR) fun e a1 w1 h1 => ?_)
      obtain ⟨ν1, K1, D1, hx1, hS1, hR1, hE1, hK1, hM1, hD1⟩ := h1
      obtain ⟨cx, E1, H1⟩ := q
      cases cx with
      | normal =>
        simp only [XR] at hx1; subst hx1
        refine wpIn_mono (ih y _ y' E1 H1 r hy (fun h => (hrn h).right rfl) he hL K1 D1 ν1 a1 w1 hK1 hM1 hD1 hS1 hR1) fun e a2 w2 h2 => ?_
        obtain ⟨ν2, K2, D2, g1, g2, g3, g4, g5⟩ := h2
        exact ⟨ν2, K2, D2, g1, g2, g3, hE1.trans g4, g5⟩
      | exit id =>
        simp only [Option.some.injEq] at he; subst he
        simp only [XR] at hx1; subst hx1
        exact ⟨ν1, K1, D1, rfl, hS1, hR1, hE1, hK1, hM1, hD1⟩
      | ret =>
        simp only [Option.some.injEq] at he; subst he
        simp only [XR] at hx1; subst hx1
        exact ⟨ν1, K1, D1, rfl, hS1, hR1, hE1, hK1, hM1, hD1⟩
    | cond c x y =>
      simp only [compCode, Option.bind_eq_some_iff, Option.map_eq_some_iff] at hc
      obtain ⟨c', hcc, x', hx, y', hy, rfl⟩ := hc
      dsimp only at he
      split at he
      · rename_i t ht
        have h1 := opd_V hcc (fun t _ => hR.val t)
        rw [ht] at h1
        simp only [V] at h1
        refine wpIn_cond h1 ?_
        cases t with
        | true => exact ih x _ x' E H r hx (fun h => (hrn h).left rfl) he hL K D ν a w hK hM hD hS hR
        | false => exact ih y _ y' E H r hy (fun h => (hrn h).right rfl) he hL K D ν a w hK hM hD hS hR
      · cases he
    | block id c =>
      simp only [compCode, Option.map_eq_some_iff] at hc
      obtain ⟨c', hcc, rfl⟩ := hc
      rw [Option.map_eq_some_iff] at he
      obtain ⟨q, hq, rfl⟩ := he
      refine wpIn_block (wpIn_mono (ih c _ c' E H q hcc (fun h => hrn h) hq hL K D ν a w hK hM hD hS hR) fun e a1 w1 h1 => ?_)
      obtain ⟨ν1, K1, D1, hx1, hr1⟩ := h1
      obtain ⟨cx, E1, H1⟩ := q
      cases cx with
      | normal => simp only [XR] at hx1; subst hx1; exact ⟨ν1, K1, D1, rfl, hr1⟩
      | exit id' =>
        simp only [XR] at hx1; subst hx1
        by_cases hid : id' = id
        · simp only [Exit.inBlock, hid, if_true]; exact ⟨ν1, K1, D1, by simp [CX.inBlock, XR], hr1⟩
        · simp only [Exit.inBlock, hid, if_false]; exact ⟨ν1, K1, D1, by simp [CX.inBlock, XR, hid], hr1⟩
      | ret => simp only [XR] at hx1; subst hx1; exact ⟨ν1, K1, D1, rfl, hr1⟩
    | loop c =>
      have hc0 := hc
      simp only [compCode, Option.map_eq_some_iff] at hc
      obtain ⟨c', hcc, rfl⟩ := hc
      -- the rounds: by the fuel that is left
      let J : Nat → Act → World → Prop := fun m a w => m ≤ n + 1 ∧ ∃ E H1 ν1 K1 D1, ev (cprog P) m (.loop c') E H1 = some r ∧ St K1 B L ν1 H1 w ∧ ER D1 ν1 N E a ∧ Ext L H ν H1 ν1 ∧ KLe K0 K1 ∧ Marks K0 B K1 D1 ∧ (top = false → D1 = D0)
      classical
      refine wpIn_loop (fun a w => ∃ m, J m a w) (fun a w => if h : ∃ m, J m a w then (least h).choose else 0) ⟨n + 1, Nat.le_refl _, E, H, ν, K, D, by rw [ev_succ]; exact he, hS, hR, Ext.refl _ _ _, hK, hM, hD⟩ fun a1 w1 hI => ?_
      rw [dif_pos hI]
      obtain ⟨hle, E1, H1, ν1, K1, D1, hev, hS1, hR1, hE1, hK1, hM1, hD1⟩ := (least hI).choose_spec.1
      generalize (least hI).choose = m at *
      cases m with
      | zero => cases hev
      | succ m =>
        rw [ev_succ] at hev
        dsimp only at hev
        rw [Option.bind_eq_some_iff] at hev
        obtain ⟨q, hq, hev⟩ := hev
        have hq' := ev_le (cprog P) (show m ≤ n by omega) c' E1 H1 q hq
        have hqL : q.2.2.length ≤ L := by
          split at hev
          · exact Nat.le_trans (ev_len _ m hev) hL
          · simp only [Option.some.injEq] at hev; subst hev; exact hL
        refine wpIn_mono (ih c _ c' E1 H1 q hcc (fun h => hrn h) hq' hqL K1 D1 ν1 a1 w1 hK1 hM1 hD1 hS1 hR1) fun e a2 w2 h2 => ?_
        obtain ⟨ν2, K2, D2, hx2, hS2, hR2, hE2, hK2, hM2, hD2⟩ := h2
        obtain ⟨cx, E2, H2⟩ := q
        cases cx with
        | normal =>
          simp only [XR] at hx2; subst hx2
          have hJ : J m a2 w2 := ⟨by omega, E2, H2, ν2, K2, D2, hev, hS2, hR2, hE1.trans hE2, hK2, hM2, hD2⟩
          refine ⟨⟨m, hJ⟩, ?_⟩
          rw [dif_pos ⟨m, hJ⟩]
          exact Nat.lt_succ_of_le ((least ⟨m, hJ⟩).choose_spec.2 m hJ)
        | exit id =>
          simp only [Option.some.injEq] at hev; subst hev
          simp only [XR] at hx2; subst hx2
          exact ⟨ν2, K2, D2, rfl, hS2, hR2, hE1.trans hE2, hK2, hM2, hD2⟩
        | ret =>
          simp only [Option.some.injEq] at hev; subst hev
          simp only [XR] at hx2; subst hx2
          exact ⟨ν2, K2, D2, rfl, hS2, hR2, hE1.trans hE2, hK2, hM2, hD2⟩
    | rangeFunc g ps x y =>
      simp only [compCode, Option.bind_eq_some_iff] at hc
      obtain ⟨g', hg, hc⟩ := hc
      obtain ⟨hgd, hc⟩ := guardB_some hc
      simp only [Option.some.injEq] at hc; subst hc
      simp only [Bool.and_eq_true, decide_eq_true_eq, List.all_eq_true] at hgd
      obtain ⟨⟨ht, hk16⟩, hps⟩ := hgd
      have hrd := htop ht
      subst hrd
      obtain ⟨fn, hat, hnt⟩ := hrn ht 0 (ps, x, y) rfl (by omega)
      simp only [Nat.add_zero] at hat
      have hrnd : RndOf P (ridOf f k) N f ps x y := ⟨by unfold ridOf; omega, hps, f, fn, hat, hnt⟩
      dsimp only at he
      rw [Option.bind_eq_some_iff] at he
      obtain ⟨q, hq, he⟩ := he
      have hgv := opd_V hg (fun t _ => hR.val t)
      unfold rangeIn at hq
      split at hq
      case h_2 => cases hq
      rename_i gf caps hgc
      split at hq
      case isFalse => cases hq
      rename_i hgf
      rw [hgc] at hgv
      simp only [V] at hgv
      obtain ⟨lb, hge, hlb⟩ := hgv
      obtain ⟨hl1, hl2⟩ := rangeOut_len he
      obtain ⟨hq1, hq2, -⟩ := hFn _ _ _ _ hq
      obtain ⟨⟨gfn, e1, e2, e3⟩, hcalls⟩ := hq2 hgf
      simp only [List.length_append, List.length_singleton] at hq1
      have henv : ((List.range N).map E).length = N := by simp
      refine wpIn_rangeFunc fun f0 _ => ?_
      obtain ⟨ν1, hS1, hE1, hν1⟩ := hS.enter (k := loopBlk 0 (ps.toList.map fun (t : Nat) => CV.i (t : Int)) ((List.range N).map E) (ridOf f k)) (by omega) rfl
        (r := { state := .ready, pending := none, fn := f0, tmps := a.tmps, params := ps, assign := x, body := y, defers := w.heap.size })
        (fun ν' hmono => ⟨0, (List.range N).map E, ridOf f k, rfl, .inl ⟨rfl, rfl, rfl⟩, fun t => by
          rw [List.getD_eq_getElem?_getD]
          rcases Nat.lt_or_ge t N with h | h
          · rw [List.getElem?_map, List.getElem?_range h]; exact V.mono hmono _ _ (hR.val t)
          · rw [List.getElem?_eq_none (by rw [henv]; exact h)]
            have := hR.val t
            rw [hR.top t h] at this
            exact V.mono hmono _ _ this, by rw [henv]; exact hR.size, by rw [henv, hBr.rnd]; exact hrnd⟩)
      have hfree := hS.sim.free
      have hmono1 := hE1.mono hS
      have hen := run_enterLoop_outer (P := P) (w := w) f0 a.tmps ps x y
      generalize (w.alloc (.deferred (some []))).alloc (.loop { state := .ready, pending := none, fn := f0, tmps := a.tmps, params := ps, assign := x, body := y, defers := w.heap.size }) = W1 at hen hS1
      refine ⟨_, _, W1, { target := .fn (.func gf) lb, args := #[.func (.yield (w.heap.size + 1)) #[] #[]] }, W1, gf, #[.func (.yield (w.heap.size + 1)) #[] #[]] ++ lb, W1, hen, ?_, fun _ _ => trivial, ?_, Fr_depth, ?_⟩
      · simp only [resolve, hge]
        simp [go_sem]
      · simp [invoke, go_sem, callFunc_run e1 e2 e3]
      have hcl := hcalls _ B L ν1 _ (#[.func (.yield (w.heap.size + 1)) #[] #[]] ++ lb) hBr (by omega) hS1 (by
        rw [Array.toList_append]
        simp only [VL, V, List.cons_append, List.nil_append]
        exact ⟨_, _, rfl, ⟨_, hν1, rfl⟩, VL.mono hmono1 _ _ hlb⟩)
      have hci : CallsIn Fence.wide (dp - 1) P gf (#[.func (.yield (w.heap.size + 1)) #[] #[]] ++ lb) _ _ := callsIn_wide.2 hcl
      refine CallsIn.mono (show CallsIn (Fr none) (dp - 1) P gf _ _ _ from hci) fun e w2 hx => ?_
      obtain ⟨v', ν2, rfl, hS2, -, hE2⟩ := hx
      have hm2 : ν2 H.length = some ⟨w.heap.size + 1, 0, ridOf f k + 1, 0⟩ := by rw [hE2.same _ (by simp)]; exact hν1
      obtain ⟨q1, qH⟩ := q
      unfold rangeOut at he
      simp only at he hq1 hl1 hS2
      split at he
      case h_2 => cases he
      rename_i s ps' env' z' hb
      obtain ⟨r2, hw2, rfl, hst2, -, -, -⟩ := loop_rec hS2 hb hm2
      have hs1 : s ≠ 1 := by
        rintro rfl
        rw [if_neg (by decide), if_neg (by decide), if_neg (by decide)] at he
        cases he
      obtain ⟨hnb, hcases⟩ := hst2.leaves hs1
      obtain ⟨jump, hj⟩ : ∃ j, j = r2.pending := ⟨_, rfl⟩
      refine ⟨jump, _, by rw [hj]; exact run_endLoop hw2 hnb, ?_⟩
      rw [← hj] at hcases
      have hS4 : St _ B L ν2 (qH.set H.length ⟨[], .dead, 0⟩) (w2.putObj (w.heap.size + 1) (.loop { r2 with state := .exhausted })) := ⟨hS2.sim.shut hb rfl hm2 _, fun b' hb' hl => hS2.dom b' (by simpa using hb') hl⟩
      have hEx : Ext L H ν (qH.set H.length ⟨[], .dead, 0⟩) ν2 := hE1.trans (hE2.trans ⟨by simp, fun _ _ => rfl, fun _ _ => rfl⟩)
      have hKs : ∀ {c : Nat} {o : Obj}, K c = some o → c < w.heap.size := fun h => (Array.getElem?_eq_some_iff.1 (hS.sim.kept _ _ h)).1
      have post : ∀ (cx : CX) (xx : Exit), XR cx xx → ∃ ν' K' D', XR cx xx ∧ St K' B L ν' (qH.set H.length ⟨[], .dead, 0⟩) (w2.putObj (w.heap.size + 1) (.loop { r2 with state := .exhausted })) ∧ ER D' ν' N E { a with defers := [{ target := .collected w.heap.size, args := #[] }] ++ a.defers } ∧ Ext L H ν (qH.set H.length ⟨[], .dead, 0⟩) ν' ∧ KLe K0 K' ∧ Marks K0 B K' D' ∧ (top = false → D' = D0) := by
        intro cx xx hxr
        refine ⟨ν2, _, { target := .collected w.heap.size, args := #[] } :: D, hxr, hS4, ⟨by rw [hR.defers]; rfl, hR.size, fun t => V.mono (hEx.mono hS) _ _ (hR.val t), hR.top⟩, hEx, fun c o h => ?_, ?_, fun h => by rw [ht] at h; cases h⟩
        · have := hKs (hK c o h)
          exact (if_neg (by omega)).trans (hK c o h)
        · obtain ⟨rs, rfl, hnd, hrs⟩ := hM
          refine ⟨w.heap.size :: rs, rfl, List.nodup_cons.2 ⟨fun hin => ?_, hnd⟩, fun r' hr' => ?_⟩
          · have := hKs (hrs _ hin).1; omega
          · rcases List.mem_cons.1 hr' with rfl | hr'
            · exact ⟨if_pos rfl, hK.none hfree, hS.sim.base.size⟩
            · obtain ⟨g2, g3, g4⟩ := hrs r' hr'
              have := hKs g2
              exact ⟨(if_neg (by omega)).trans g2, g3, g4⟩
      rcases hcases with ⟨rfl, hp⟩ | ⟨rfl, hp⟩ | ⟨id, rfl, hp⟩
      · rw [if_pos rfl, Option.some.injEq] at he
        subst he
        rw [hp]
        exact post .normal .normal rfl
      · rw [if_neg (by decide), if_pos rfl, Option.some.injEq] at he
        subst he
        rw [hp]
        exact wpIn_ret (post .ret .ret rfl)
      · rw [if_neg (by omega), if_neg (by omega), if_pos (by omega), Option.some.injEq, show ((id : Int) + 3 - 3).toNat = id from by omega] at he
        subst he
        rw [hp]
        exact wpIn_exit (post (.exit id) (.exit id) rfl)
    | exit id =>
      simp only [compCode, Option.some.injEq] at hc; subst hc
      simp only [Option.some.injEq] at he; subst he
      exact wpIn_exit ⟨ν, K, D, rfl, hS, hR, Ext.refl _ _ _, hK, hM, hD⟩
    | ret =>
      simp only [compCode, Option.some.injEq] at hc; subst hc
      simp only [Option.some.injEq] at he; subst he
      exact wpIn_ret ⟨ν, K, D, rfl, hS, hR, Ext.refl _ _ _, hK, hM, hD⟩
    | _ => cases hc
end
end Go.Cs

/- Ranges over maps: whatever order the model takes, the clean machine comes to the same. -/
namespace Go.Cs
open Go Go.RowKit
section
variable {P : Program} {F : CallF} {K K0 : Nat → Option Obj} {B : Bs} {L N : Nat} {rd : Option Nat} {dp : Nat} {D D0 : List Deferred}

/-! ### Pieces of a function without loops over functions -/

theorem Marks.nil (K : Nat → Option Obj) (B : Bs) : Marks K B K [] := ⟨[], rfl, List.nodup_nil, fun _ h => by cases h⟩

theorem code_sim0 (hm : P.follows .mixedOrders = true) (hBr : BOk P B) {f n : Nat} (hF : ∀ k, k < n → SimF P (callN (cprog P) k)) {c : Code} {k : Nat} {cc : CCode} (hc : compCode P f N false k c = some cc) {E : Env} {H : CHeap} {r : CX × Env × CHeap} (he : ev (cprog P) n cc E H = some r) (hL : r.2.2.length ≤ L) {ν : Mu} {a : Act} {w : World} (hS : St K B L ν H w) (hR : ER [] ν N E a) :
    c.wpIn (Fr none) 0 P (fun x a w => ∃ ν', XR r.1 x ∧ St K B L ν' r.2.2 w ∧ ER [] ν' N r.2.1 a ∧ Ext L H ν r.2.2 ν') a w := by
  refine wpIn_mono (code_sim (rd := none) (K0 := K) (D0 := []) (top := false) hm hBr (fun h => by cases h) n hF c k cc E H r hc (fun h => by cases h) he hL K [] ν a w (KLe.refl K) (Marks.nil K B) (fun _ => rfl) hS hR) fun x a w h => ?_
  obtain ⟨ν', K', D', h1, h2, h3, h4, h5, -, h7⟩ := h
  have := h7 rfl
  subst this
  exact ⟨ν', h1, ⟨h2.sim.less h5, h2.dom⟩, h3, h4⟩

/-- Operations of a region, and what comes behind them. -/
theorem ops_simK (hF : SimF P F) (hBr : BOk P B) (hLF : LenF F) {ops : Array Oper} {Q : Exit → Act → World → Prop} {l2 : List Nat} : ∀ (l : List Nat) (ss : List CStmt), ss.length = l.length → (∀ (q : Nat) (i : Nat) (s : CStmt), l[q]? = some i → ss[q]? = some s → ∃ o, ops[i]? = some o ∧ compStmt P N ops o = some s) →
    ∀ (E : Env) (H : CHeap) (ν : Mu) (a : Act) (w : World) (r : Env × CHeap), evOps F ss E H = some r → r.2.length ≤ L → St K B L ν H w → ER D ν N E a →
    (∀ ν' a' w', St K B L ν' r.2 w' → ER D ν' N r.1 a' → Ext L H ν r.2 ν' → wpOpsIn (Fr rd) dp P ops Q l2 a' w') → wpOpsIn (Fr rd) dp P ops Q (l ++ l2) a w
  | [], [], _, _, E, H, ν, a, w, r, he, _, hS, hR, hk => by
    simp only [evOps, Option.some.injEq] at he
    subst he
    exact hk ν a w hS hR (Ext.refl _ _ _)
  | i :: l, s :: ss, hl, hs, E, H, ν, a, w, r, he, hL, hS, hR, hk => by
    obtain ⟨o, ho, hc⟩ := hs 0 i s rfl rfl
    have ih := ops_simK hF hBr hLF (ops := ops) (Q := Q) (l2 := l2) l ss (by simpa using hl) (fun q j t h1 h2 => hs (q + 1) j t (by simpa using h1) (by simpa using h2))
    simp only [evOps, Option.bind_eq_some_iff] at he
    obtain ⟨⟨E1, H1⟩, he1, he2⟩ := he
    obtain ⟨g, op, hg, hop, hd, rfl⟩ := compStmt_inv hc
    rw [List.cons_append, wpOpsIn_cons]
    unfold wpOpIn
    simp only [ho]
    rw [wanted_sim hg hR]
    unfold evStmt at he1
    dsimp only at he1
    split at he1
    · rename_i hw
      rw [if_pos hw]
      rw [Option.map_eq_some_iff] at he1
      obtain ⟨v, hv, he1⟩ := he1
      simp only [Prod.mk.injEq] at he1
      obtain ⟨rfl, rfl⟩ := he1
      refine op_sim hF hBr hS hop (fun t _ => hR.val t) hv (Nat.le_trans (evOps_len hLF he2) hL) _ _ fun v' w' ν' hS' hV' hx' => ?_
      have hm := hx'.mono hS
      exact ih _ _ ν' _ w' r he2 hL hS' ((hR.mono hm).put hd hV') fun ν2 a2 w2 h1 h2 h3 => hk ν2 a2 w2 h1 h2 (hx'.trans h3)
    · rename_i hw
      rw [if_neg hw]
      simp only [Option.some.injEq, Prod.mk.injEq] at he1
      obtain ⟨rfl, rfl⟩ := he1
      exact ⟨fun _ _ => trivial, ih _ _ ν _ w r he2 hL hS (hR.put hd (by simp [V, VL, undef])) hk⟩
  | [], _ :: _, hl, _, _, _, _, _, _, _, _, _, _, _, _ => by simp at hl
  | _ :: _, [], hl, _, _, _, _, _, _, _, _, _, _, _, _ => by simp at hl

/-! ### What changes in the relation -/

theorem isFrz_false {cs : List CV} (h : isFrz cs = false) : entCells cs = cs := by
  unfold isFrz at h
  unfold entCells
  split at h
  · cases h
  · rename_i hn
    rfl

/-- A block of the model's that the clean machine knows nothing of is another one now. -/
theorem Sim.turnKept {μ : Mu} {H : CHeap} {w : World} (h : Sim K B μ H w) {c : Nat} {o : Obj} (hc : K c = some o) (hB : B.heap.size ≤ c) (x : Obj) : Sim (fun d => if d = c then some x else K d) B μ H (w.putObj c x) := by
  have hlt : c < w.heap.size := (Array.getElem?_eq_some_iff.1 (h.kept c o hc)).1
  have oth : ∀ {d : Nat}, d ≠ c → (w.heap.setIfInBounds c x)[d]? = w.heap[d]? := fun hd => by simp [Ne.symm hd]
  refine ⟨h.base.trans ⟨rfl, rfl, rfl, by simp [World.putObj], fun q hq => oth (by omega)⟩, fun d y hy => ?_, fun b blk m h1 h2 h3 h4 => ?_, h.inj, fun b blk m h1 h2 h3 => ?_⟩
  · split at hy
    · rename_i hd
      subst hd
      simp only [Option.some.injEq] at hy
      subst hy
      simp [World.putObj, hlt]
    · rename_i hd; exact (oth hd).trans (h.kept d y hy)
  · have hne := h.kept_ne hc hB h1 h2 h4
    obtain ⟨arr, T, fz, e1, e2, e3, e4⟩ := h.blk b blk m h1 h2 h3 h4
    exact ⟨arr, T, fz, (oth hne).trans e1, e2, fun e => by obtain ⟨c1, c2, c3, c4, c5, c6⟩ := e3 e; exact ⟨c1, c2, c3, c4, c5, by rw [if_neg hne]; exact c6⟩, e4⟩
  · have hne := h.kept_ne hc hB h1 (by rw [h2]; decide) h3
    obtain ⟨ob, e1, e2, e3, e4⟩ := h.mp b blk m h1 h2 h3
    exact ⟨ob, (oth hne).trans e1, e2, e3, by rw [if_neg hne]; exact e4⟩

/-- The world of a loop over a map: its object stays as it is. -/
def frzAt (B : Bs) (c : Nat) (o : Obj) : Bs := { B with frz := fun d x => if d = c then x = o else B.frz d x }

theorem LoopR.frz {B B' : Bs} (hB : B'.rnd = B.rnd) {μ : Mu} {blk : Blk} {r : Loop} (h : LoopR B μ blk r) : LoopR B' μ blk r := by
  obtain ⟨s, env, z, h1, h2, h3, h4, h5⟩ := h
  exact ⟨s, env, z, h1, h2, h3, h4, by rw [hB]; exact h5⟩

/-- A map is ranged over. -/
theorem Sim.freeze {μ : Mu} {H : CHeap} {w : World} (h : Sim K B μ H w) {b : Nat} {es : List CV} {m : Tgt} (hb : H[b]? = some ⟨es, .map, 0⟩) (hz : isFrz es = false) (hm : μ b = some m) {xs : Array MapEntry} {cl : Nat} (hw : w.heap[m.c]? = some (.map xs cl)) :
    Sim K (frzAt B m.c (.map xs cl)) μ (H.set b ⟨[.agg es], .map, 0⟩) w := by
  have hlb := (List.getElem?_eq_some_iff.1 hb).1
  have get : ∀ {b' : Nat} {k' : Blk}, (H.set b ⟨[.agg es], .map, 0⟩)[b']? = some k' → (b' = b ∧ k' = ⟨[.agg es], .map, 0⟩) ∨ (b' ≠ b ∧ H[b']? = some k') := by
    intro b' k' hb'
    by_cases hbb : b' = b
    · subst hbb
      rw [List.getElem?_set_self hlb] at hb'
      exact .inl ⟨rfl, by simpa using hb'.symm⟩
    · rw [List.getElem?_set_ne (Ne.symm hbb)] at hb'
      exact .inr ⟨hbb, hb'⟩
  refine ⟨h.base, h.kept, fun b' k' m' h1 h2 h3 h4 => ?_, fun b1 b2 k1 k2 m1 m2 h1 h2 r1 r2 hne e1 e2 => ?_, fun b' k' m' h1 h2 h3 => ?_⟩
  · rcases get h1 with ⟨rfl, rfl⟩ | ⟨_, g⟩
    · exact absurd rfl h3
    · exact h.blk b' k' m' g h2 h3 h4
  · have up : ∀ {b' : Nat} {k' : Blk}, (H.set b ⟨[.agg es], .map, 0⟩)[b']? = some k' → ∃ k'', H[b']? = some k'' ∧ k''.mode = k'.mode := by
      intro b' k' hb'
      rcases get hb' with ⟨rfl, rfl⟩ | ⟨_, g⟩
      · exact ⟨_, hb, rfl⟩
      · exact ⟨_, g, rfl⟩
    obtain ⟨q1, g1, f1⟩ := up h1
    obtain ⟨q2, g2, f2⟩ := up h2
    exact h.inj b1 b2 q1 q2 m1 m2 g1 g2 (by rw [f1]; exact r1) (by rw [f2]; exact r2) hne e1 e2
  · rcases get h1 with ⟨rfl, rfl⟩ | ⟨hbb, g⟩
    · rw [hm] at h3
      simp only [Option.some.injEq] at h3
      subst h3
      obtain ⟨ob, e1, e2, e3, e4⟩ := h.mp b' _ m hb rfl hm
      obtain ⟨xs', cl', rfl, f1, f2, f3⟩ := e2.map rfl
      rw [hw] at e1
      simp only [Option.some.injEq, Obj.map.injEq] at e1
      obtain ⟨rfl, rfl⟩ := e1
      rw [isFrz_false hz] at f1
      exact ⟨_, hw, .inl ⟨rfl, xs, cl, rfl, f1, f2, fun _ => by simp [frzAt]⟩, e3, e4⟩
    · obtain ⟨ob, e1, e2, e3, e4⟩ := h.mp b' k' m' g h2 h3
      refine ⟨ob, e1, ?_, e3, e4⟩
      rcases e2 with ⟨f0, xs', cl', rfl, f1, f2, f3⟩ | ⟨r, rfl, hr⟩
      · have hne : m'.c ≠ m.c := Ne.symm (h.inj b b' _ k' m m' hb g (.inr rfl) (by rw [h2]; decide) (Ne.symm hbb) hm h3)
        exact .inl ⟨f0, xs', cl', rfl, f1, f2, fun e => by simp only [frzAt, if_neg hne]; exact f3 e⟩
      · exact .inr ⟨r, rfl, hr.frz rfl⟩

/-- It is no longer ranged over. -/
theorem Sim.thaw {μ : Mu} {H : CHeap} {w : World} {m : Tgt} {o : Obj} (h : Sim K (frzAt B m.c o) μ H w) {b : Nat} {es : List CV} (hb : H[b]? = some ⟨[.agg es], .map, 0⟩) (hm : μ b = some m) (hz : isFrz es = false) :
    Sim K B μ (H.set b ⟨es, .map, 0⟩) w := by
  have hlb := (List.getElem?_eq_some_iff.1 hb).1
  have get : ∀ {b' : Nat} {k' : Blk}, (H.set b ⟨es, .map, 0⟩)[b']? = some k' → (b' = b ∧ k' = ⟨es, .map, 0⟩) ∨ (b' ≠ b ∧ H[b']? = some k') := by
    intro b' k' hb'
    by_cases hbb : b' = b
    · subst hbb
      rw [List.getElem?_set_self hlb] at hb'
      exact .inl ⟨rfl, by simpa using hb'.symm⟩
    · rw [List.getElem?_set_ne (Ne.symm hbb)] at hb'
      exact .inr ⟨hbb, hb'⟩
  refine ⟨h.base, h.kept, fun b' k' m' h1 h2 h3 h4 => ?_, fun b1 b2 k1 k2 m1 m2 h1 h2 r1 r2 hne e1 e2 => ?_, fun b' k' m' h1 h2 h3 => ?_⟩
  · rcases get h1 with ⟨rfl, rfl⟩ | ⟨_, g⟩
    · exact absurd rfl h3
    · exact h.blk b' k' m' g h2 h3 h4
  · have up : ∀ {b' : Nat} {k' : Blk}, (H.set b ⟨es, .map, 0⟩)[b']? = some k' → ∃ k'', H[b']? = some k'' ∧ k''.mode = k'.mode := by
      intro b' k' hb'
      rcases get hb' with ⟨rfl, rfl⟩ | ⟨_, g⟩
      · exact ⟨_, hb, rfl⟩
      · exact ⟨_, g, rfl⟩
    obtain ⟨q1, g1, f1⟩ := up h1
    obtain ⟨q2, g2, f2⟩ := up h2
    exact h.inj b1 b2 q1 q2 m1 m2 g1 g2 (by rw [f1]; exact r1) (by rw [f2]; exact r2) hne e1 e2
  · rcases get h1 with ⟨rfl, rfl⟩ | ⟨hbb, g⟩
    · rw [hm] at h3
      simp only [Option.some.injEq] at h3
      subst h3
      obtain ⟨ob, e1, e2, e3, e4⟩ := h.mp b' _ m hb rfl hm
      obtain ⟨xs', cl', rfl, f1, f2, f3⟩ := e2.map rfl
      exact ⟨_, e1, .inl ⟨rfl, xs', cl', rfl, by rw [isFrz_false hz]; exact f1, f2, fun e => by rw [hz] at e; cases e⟩, e3, e4⟩
    · obtain ⟨ob, e1, e2, e3, e4⟩ := h.mp b' k' m' g h2 h3
      refine ⟨ob, e1, ?_, e3, e4⟩
      rcases e2 with ⟨f0, xs', cl', rfl, f1, f2, f3⟩ | ⟨r, rfl, hr⟩
      · have hne : m'.c ≠ m.c := Ne.symm (h.inj b b' _ k' m m' hb g (.inr rfl) (by rw [h2]; decide) (Ne.symm hbb) hm h3)
        exact .inl ⟨f0, xs', cl', rfl, f1, f2, fun e => by have := f3 e; simp only [frzAt, if_neg hne] at this; exact this⟩
      · exact .inr ⟨r, rfl, hr.frz rfl⟩

/-- A dead block more. -/
theorem Sim.pushDead {μ : Mu} {H : CHeap} {w : World} (h : Sim K B μ H w) : Sim K B μ (H ++ [⟨[], .dead, 0⟩]) w := by
  have get : ∀ {b : Nat} {k : Blk}, (H ++ [⟨[], .dead, 0⟩])[b]? = some k → k.mode ≠ .dead → H[b]? = some k := by
    intro b k hb hd
    rcases Nat.lt_trichotomy b H.length with hlt | rfl | hgt
    · rwa [List.getElem?_append_left hlt] at hb
    · rw [List.getElem?_append_right (Nat.le_refl _)] at hb
      simp only [Nat.sub_self, List.getElem?_cons_zero, Option.some.injEq] at hb
      subst hb
      exact absurd rfl hd
    · rw [List.getElem?_append_right (by omega), List.getElem?_eq_none (by simp; omega)] at hb
      cases hb
  exact ⟨h.base, h.kept, fun b k m h1 h2 h3 h4 => h.blk b k m (get h1 h2) h2 h3 h4, fun b1 b2 k1 k2 m1 m2 h1 h2 r1 r2 hne e1 e2 => h.inj b1 b2 k1 k2 m1 m2 (get h1 (by rcases r1 with r1 | r1 <;> (rw [r1]; decide))) (get h2 r2) r1 r2 hne e1 e2,
    fun b k m h1 h2 h3 => h.mp b k m (get h1 (by rw [h2]; decide)) h2 h3⟩

/-- What is newer is used no more. -/
theorem Sim.killNew {μ : Mu} {H : CHeap} {w : World} (h : Sim K B μ H w) (n : Nat) : Sim K B μ (killFrom n H) w := by
  have get : ∀ {b : Nat} {k : Blk}, (killFrom n H)[b]? = some k → k.mode ≠ .dead → H[b]? = some k := by
    intro b k hb hd
    unfold killFrom at hb
    rcases Nat.lt_or_ge b (H.take n).length with hlt | hge
    · rw [List.getElem?_append_left hlt] at hb
      rw [List.getElem?_take] at hb
      split at hb
      · exact hb
      · cases hb
    · rw [List.getElem?_append_right hge] at hb
      have := List.mem_of_getElem? hb
      rw [List.mem_replicate] at this
      rw [this.2] at hd
      exact absurd rfl hd
  exact ⟨h.base, h.kept, fun b k m h1 h2 h3 h4 => h.blk b k m (get h1 h2) h2 h3 h4, fun b1 b2 k1 k2 m1 m2 h1 h2 r1 r2 hne e1 e2 => h.inj b1 b2 k1 k2 m1 m2 (get h1 (by rcases r1 with r1 | r1 <;> (rw [r1]; decide))) (get h2 r2) r1 r2 hne e1 e2,
    fun b k m h1 h2 h3 => h.mp b k m (get h1 (by rw [h2]; decide)) h2 h3⟩

/-- The entries of a map, one taken out. -/
theorem MapR.split {μ : Mu} : ∀ {cs : List CV} {s t : List MapEntry} {e : MapEntry}, MapR μ cs (s ++ e :: t) → ∃ cs1 c cs2, cs = cs1 ++ c :: cs2 ∧ MapR μ (cs1 ++ cs2) (s ++ t) ∧ ∃ k n v, c = .tup [.int k n, v] ∧ e.key = .int k n ∧ V μ v e.val
  | [], s, t, e, h => by
    simp only [MapR] at h
    simp at h
  | c :: cs, [], t, e, h => by
    obtain ⟨k, n, v, x, rest, rfl, h2, h3, h4, h5, h6⟩ := h
    simp only [List.nil_append, List.cons.injEq] at h2
    obtain ⟨rfl, rfl⟩ := h2
    exact ⟨[], _, cs, rfl, h6, k, n, v, rfl, h3, h4⟩
  | c :: cs, y :: s, t, e, h => by
    obtain ⟨k, n, v, x, rest, rfl, h2, h3, h4, h5, h6⟩ := h
    simp only [List.cons_append, List.cons.injEq] at h2
    obtain ⟨rfl, rfl⟩ := h2
    obtain ⟨cs1, c', cs2, rfl, g1, g2⟩ := MapR.split h6
    exact ⟨.tup [.int k n, v] :: cs1, c', cs2, rfl, ⟨k, n, v, y, _, rfl, rfl, h3, h4, h5, g1⟩, g2⟩

theorem MapR.nil_of {μ : Mu} {cs : List CV} (h : MapR μ cs []) : cs = [] := by
  cases cs with
  | nil => rfl
  | cons c cs => obtain ⟨k, n, v, x, rest, -, h2, -⟩ := h; cases h2

/-- Those that are left behind one of them. -/
theorem left_push {xs : Array MapEntry} {seen : Array Nat} {e : MapEntry} (hn : (xs.toList.map (·.born)).Nodup) (he : e ∈ (leftOf xs seen).toList) :
    ∃ s t, (leftOf xs seen).toList = s ++ e :: t ∧ (leftOf xs (seen.push e.born)).toList = s ++ t := by
  obtain ⟨s, t, hst⟩ := List.append_of_mem he
  refine ⟨s, t, hst, ?_⟩
  have h1 : (leftOf xs (seen.push e.born)).toList = (leftOf xs seen).toList.filter fun x => !(x.born == e.born) := by
    simp only [leftOf, Array.toList_filter, List.filter_filter]
    refine List.filter_congr fun x _ => ?_
    rw [contains_push]
    cases seen.contains x.born <;> cases hx : x.born == e.born <;> rfl
  have h2 : ((leftOf xs seen).toList.map (·.born)).Nodup := by
    simp only [leftOf, Array.toList_filter]
    exact (List.filter_sublist.map _).nodup hn
  rw [hst, List.map_append, List.map_cons, List.nodup_append] at h2
  obtain ⟨g1, g2, g3⟩ := h2
  rw [List.nodup_cons] at g2
  rw [h1, hst, List.filter_append, List.filter_cons]
  simp only [BEq.rfl, Bool.not_true, Bool.false_eq_true, if_false]
  rw [List.filter_eq_self.2, List.filter_eq_self.2]
  · intro x hx
    have : x.born ≠ e.born := fun h => g2.1 (h ▸ List.mem_map_of_mem hx)
    simpa using this
  · intro x hx
    have : x.born ≠ e.born := fun h => g3 _ (List.mem_map_of_mem hx) _ List.mem_cons_self h
    simpa using this

theorem env_same {E : Env} {d : Nat} {v : CV} : (E.upd d v) d = v := by simp [Env.upd]
theorem env_ne {E : Env} {d t : Nat} {v : CV} (h : t ≠ d) : (E.upd d v) t = E t := by simp [Env.upd, h]

/-! ### The rounds -/

/-- How such a function goes on behind the rounds. -/
def finM (Rr : Env → CHeap → Option (CX × Env × CHeap)) (q : RM) (mb : Nat) (es : List CV) (n0 : Nat) (o : Option (CX × Env × CHeap)) : Option (CX × Env × CHeap) :=
  (o.bind fun u => thenRest q.id Rr (u.1, u.2.1, u.2.2.set mb ⟨es, .map, 0⟩)).map fun r => (r.1, keepE q.live r.2.1, killFrom n0 r.2.2)

/-- The rounds that are left, and the rest of the function: in whatever order, it comes to one thing. -/
def AllTo (Rb Rr : Env → CHeap → Option (CX × Env × CHeap)) (q : RM) (mb : Nat) (es : List CV) (n0 : Nat) (r : CX × Env × CHeap) (left : List CV) (E : Env) (H : CHeap) : Prop :=
  ∀ l, l.Perm left → finM Rr q mb es n0 (runKeys Rb q mb es n0 l E H) = some r

section
variable {Rb Rr : Env → CHeap → Option (CX × Env × CHeap)} {q : RM} {mb n0 : Nat} {es : List CV} {r : CX × Env × CHeap} {E : Env} {H : CHeap}
theorem AllTo.nil (h : AllTo Rb Rr q mb es n0 r [] E H) : finM Rr q mb es n0 (some (.normal, q.fin E, H)) = some r := h [] (List.Perm.refl _)

theorem AllTo.step {cs1 cs2 : List CV} {c : CV} (h : AllTo Rb Rr q mb es n0 r (cs1 ++ c :: cs2) E H) :
    ∃ u, Rb (q.beg c E) H = some u ∧ u.2.2[mb]? = some ⟨[.agg es], .map, 0⟩ ∧ u.2.1 q.it = .ptr n0 0 ∧ (u.1 = .normal → AllTo Rb Rr q mb es n0 r (cs1 ++ cs2) u.2.1 u.2.2) ∧ (u.1 ≠ .normal → finM Rr q mb es n0 (some u) = some r) := by
  have key : ∀ l', l'.Perm (cs1 ++ cs2) → ∃ u, Rb (q.beg c E) H = some u ∧ u.2.2[mb]? = some ⟨[.agg es], .map, 0⟩ ∧ u.2.1 q.it = .ptr n0 0 ∧ (u.1 = .normal → finM Rr q mb es n0 (runKeys Rb q mb es n0 l' u.2.1 u.2.2) = some r) ∧ (u.1 ≠ .normal → finM Rr q mb es n0 (some u) = some r) := by
    intro l' hl
    have h1 := h (c :: l') ((List.Perm.cons c hl).trans List.perm_middle.symm)
    cases hb : Rb (q.beg c E) H with
    | none => simp [finM, runKeys, hb] at h1
    | some u =>
      refine ⟨u, rfl, ?_⟩
      unfold runKeys at h1
      rw [hb, Option.bind_some] at h1
      split at h1
      case isFalse => simp [finM] at h1
      rename_i hc
      refine ⟨hc.1, hc.2, fun hn => ?_, fun hn => ?_⟩
      · simp only [hn] at h1; exact h1
      · cases hx : u.1 with
        | normal => exact absurd hx hn
        | exit id => simp only [hx] at h1; exact h1
        | ret => simp only [hx] at h1; exact h1
  obtain ⟨u, h1, h2, h3, h4, h5⟩ := key _ (List.Perm.refl _)
  refine ⟨u, h1, h2, h3, fun hn l' hl => ?_, h5⟩
  obtain ⟨u', g1, _, _, g4, _⟩ := key l' hl
  rw [h1] at g1
  simp only [Option.some.injEq] at g1
  subst g1
  exact g4 hn
end

/-- What holds behind such a function's body. -/
def RangeQ (K : Nat → Option Obj) (B : Bs) (L : Nat) (H : CHeap) (ν : Mu) (live : List Nat) (r : CX × Env × CHeap) : Exit → Act → World → Prop :=
  fun x a w => ∃ ν', XR r.1 x ∧ St K B L ν' r.2.2 w ∧ (a.defers = [] ∧ ∀ t ∈ live, V ν' (r.2.1 t) (a.tmps.getD t undef)) ∧ Ext L H ν r.2.2 ν'

/-- An operation that leaves the rest of the state alone. -/
theorem wpOp_value {ops : Array Oper} {Q : Exit → Act → World → Prop} {i : Nat} {l : List Nat} {a : Act} {w : World} {o : Oper} (ho : ops[i]? = some o) (hg : o.guard = none) (hnd : ∀ c, o.op ≠ .defer c) {v : Value} {w' : World} (h : (execOp a.eval o).run P w = .ok (.value v) w')
    (hk : wpOpsIn (Fr rd) dp P ops Q l (a.put o.dst v) w') : wpOpsIn (Fr rd) dp P ops Q (i :: l) a w := by
  rw [wpOpsIn_cons]
  unfold wpOpIn
  simp only [ho]
  rw [if_pos (by unfold Region.wanted; rw [hg])]
  refine ⟨fun _ _ => trivial, ?_⟩
  rw [Oper.semAt_eq _ _ _ hnd, h]
  exact hk

theorem mops_inv {l : MLoop} {o : MOps} (h : mops l = some o) : ∃ rg o1 o2 e, l.ops.back? = some rg ∧ l.ops2.toList = [o1, o2] ∧ l.ops3[0]? = some e ∧
    rg.op = .range o.t o.m ∧ o1.op = .next (.tmp o.it) false ∧ o2.op = .extract (.tmp o.nx) 0 ∧ e.op = .entry (.tmp o.it) ∧ rg.dst = some o.it ∧ o1.dst = some o.nx ∧ o2.dst = some o.more ∧ e.dst = some o.pair ∧
    l.more = o.more ∧ l.out2 = l.out ∧ rg.guard = none ∧ o1.guard = none ∧ o2.guard = none ∧ e.guard = none ∧ o.it ≠ o.nx ∧ o.it ≠ o.more ∧ o.it ≠ o.pair ∧ o.nx ≠ o.more ∧ o.nx ≠ o.pair ∧ o.more ≠ o.pair := by
  unfold mops at h
  split at h
  case h_2 => cases h
  rename_i rg o1 o2 e h1 h2 h3
  split at h
  case h_2 => cases h
  rename_i t m it1 nx1 it2 it nx more pair e1 e2 e3 e4 e5 e6 e7 e8
  obtain ⟨hc, h⟩ := guardB_some h
  simp only [Option.some.injEq] at h
  subst h
  simp only [Bool.and_eq_true, beq_iff_eq, bne_iff_ne, ne_eq, Option.isNone_iff_eq_none] at hc
  obtain ⟨⟨⟨⟨⟨⟨⟨⟨⟨⟨⟨⟨⟨⟨c1, c2⟩, c3⟩, c4⟩, c5⟩, c6⟩, c7⟩, c8⟩, c9⟩, c10⟩, c11⟩, c12⟩, c13⟩, c14⟩, c15⟩ := hc
  subst c1; subst c2; subst c3; subst c4
  exact ⟨rg, o1, o2, e, h1, h2, h3, e1, e2, e3, e4, e5, e6, e7, e8, rfl, c5, c6, c7, c8, c9, c10, c11, c12, c13, c14, c15⟩

theorem mloop_rounds (hm : P.follows .mixedOrders = true) (hBr : BOk P B) {f n : Nat} (hF : ∀ k, k < n + 2 → SimF P (callN (cprog P) k)) {l : MLoop} {o : MOps} (ho : mops l = some o) {m : Opd}
    {as : List CStmt} (has : allSome (l.ops3.toList.tail.map (compStmt P N l.ops3)) = some as) {cc : CCode} (hcc : compCode P f N false 0 l.code = some cc) {b : Code} {rr : CCode} (hrr : compCode P f N false 0 b = some rr) {live : List Nat}
    (hlt : o.it < N ∧ o.nx < N ∧ o.more < N ∧ o.pair < N) {mb : Nat} {es : List CV} {r : CX × Env × CHeap} (hz : isFrz es = false) (hL : r.2.2.length ≤ L) {H0 : CHeap} {ν0 : Mu} {mt : Tgt} {rb : Nat} (hrb : B.heap.size ≤ rb) (hKr : K rb = none) {xs : Array MapEntry} {cl : Nat} (hst : MapKept.Stamped xs cl)
    {q : RM} (hq : q = ⟨m, o.it, o.nx, o.more, o.pair, l.out, live⟩) :
    ∀ (a : Act) (w : World), (∃ left E H ν seen c0, AllTo (ev (cprog P) (n + 2) (.block l.nid (.seq (.region as) cc))) (ev (cprog P) (n + 2) rr) q mb es H0.length r left E H ∧
      St (fun c => if c = rb then some (.mapIter (some mt.c) cl seen c0) else K c) (frzAt B mt.c (.map xs cl)) L ν H w ∧ ER [] ν N E a ∧ Ext L H0 ν0 H ν ∧ MapR ν left (leftOf xs seen).toList ∧ cl ≤ c0 ∧
      H[mb]? = some ⟨[.agg es], .map, 0⟩ ∧ E o.it = .ptr H0.length 0 ∧ ν H0.length = some ⟨rb, 0, 0, 0⟩ ∧ ν mb = some mt ∧ mb < H0.length) →
    (Code.block l.out (.loop (.seq (.region l.j l.ops2 false) (.seq (.cond (.tmp l.more) .skip (.exit l.out2)) (.block l.nid (.seq (.region l.k l.ops3 false) l.code)))))).wpIn (Fr none) 0 P (Exit.then (b.wpIn (Fr none) 0 P (RangeQ K B L H0 ν0 live r)) (RangeQ K B L H0 ν0 live r)) a w := by
  obtain ⟨rg, o1, o2, e, p1, p2, p3, p4, p5, p6, p7, p8, p9, p10, p11, p12, p13, p14, p15, p16, p17, p18, p19, p20, p21, p22, p23⟩ := mops_inv ho
  subst hq
  intro a w hinv
  -- behind the rounds
  have finish : ∀ (u : CX × Env × CHeap) (x : Exit) (a : Act) (w : World) (ν : Mu) (seen : Array Nat) (c0 : Nat), XR u.1 x → finM (ev (cprog P) (n + 2) rr) ⟨m, o.it, o.nx, o.more, o.pair, l.out, live⟩ mb es H0.length (some u) = some r →
      St (fun c => if c = rb then some (.mapIter (some mt.c) cl seen c0) else K c) (frzAt B mt.c (.map xs cl)) L ν u.2.2 w → ER [] ν N u.2.1 a → Ext L H0 ν0 u.2.2 ν → u.2.2[mb]? = some ⟨[.agg es], .map, 0⟩ → ν mb = some mt → mb < H0.length → H0.length ≤ u.2.2.length →
      (match x with
        | .normal => b.wpIn (Fr none) 0 P (RangeQ K B L H0 ν0 live r) a w
        | .exit id => if id = l.out then b.wpIn (Fr none) 0 P (RangeQ K B L H0 ν0 live r) a w else RangeQ K B L H0 ν0 live r (.exit id) a w
        | x => RangeQ K B L H0 ν0 live r x a w) := by
    intro u x a w ν seen c0 hx hf hS hR hE hfz hmb hmlt hlen
    unfold finM at hf
    rw [Option.bind_some, Option.map_eq_some_iff] at hf
    obtain ⟨y, hy, rfl⟩ := hf
    have hKL : KLe K (fun c => if c = rb then some (.mapIter (some mt.c) cl seen c0) else K c) := fun c ob hc => by
      dsimp only
      rw [if_neg (fun e => by rw [e, hKr] at hc; cases hc)]; exact hc
    have hS' : St K B L ν (u.2.2.set mb ⟨es, .map, 0⟩) w := ⟨(hS.sim.less hKL).thaw hfz hmb hz, fun b' hb' hl => hS.dom b' (by simpa using hb') hl⟩
    have hE' : Ext L H0 ν0 (u.2.2.set mb ⟨es, .map, 0⟩) ν := hE.trans ⟨by simp, fun _ _ => rfl, fun _ _ => rfl⟩
    have hkl : (killFrom H0.length y.2.2).length = y.2.2.length := killFrom_len (by
      refine Nat.le_trans hlen (Nat.le_trans (Nat.le_of_eq (by simp)) (thenRest_len (R := ev (cprog P) (n + 2) rr) (fun E H r h => ev_len _ _ h) hy)))
    -- the rest of the function
    have rest : ∀ (y : CX × Env × CHeap), ev (cprog P) (n + 2) rr u.2.1 (u.2.2.set mb ⟨es, .map, 0⟩) = some y → (y.1, keepE live y.2.1, killFrom H0.length y.2.2).2.2.length ≤ L → H0.length ≤ y.2.2.length → b.wpIn (Fr none) 0 P (RangeQ K B L H0 ν0 live (y.1, keepE live y.2.1, killFrom H0.length y.2.2)) a w := by
      intro y hy hL hl
      have hkl : (killFrom H0.length y.2.2).length = y.2.2.length := killFrom_len hl
      dsimp only at hL
      rw [hkl] at hL
      refine wpIn_mono (code_sim0 hm hBr hF hrr hy hL hS' hR) fun x a w hx => ?_
      obtain ⟨ν', h1, h2, h3, h4⟩ := hx
      refine ⟨ν', h1, ⟨h2.sim.killNew _, fun b' hb' hl' => h2.dom b' (by dsimp only at hb'; rw [hkl] at hb'; exact hb') hl'⟩, ⟨h3.defers, fun t ht => ?_⟩, ?_⟩
      · simp only [keepE, List.contains_iff_mem.2 ht, if_true]
        exact h3.val t
      · exact ⟨by dsimp only; rw [hkl]; exact hl, (hE'.trans h4).same, (hE'.trans h4).far⟩
    -- leaving at once
    have out : ∀ (cx : CX) (xx : Exit), XR cx xx → u.2.2.length ≤ L → RangeQ K B L H0 ν0 live (cx, keepE live u.2.1, killFrom H0.length (u.2.2.set mb ⟨es, .map, 0⟩)) xx a w := by
      intro cx xx hxx hul
      have hk2 : (killFrom H0.length (u.2.2.set mb ⟨es, .map, 0⟩)).length = u.2.2.length := by rw [killFrom_len (by simpa using hlen)]; simp
      refine ⟨ν, hxx, ⟨hS'.sim.killNew _, fun b' hb' hl' => hS.dom b' (by dsimp only at hb'; rw [hk2] at hb'; exact hb') hl'⟩, ⟨hR.defers, fun t ht => ?_⟩, ⟨by dsimp only; rw [hk2]; exact hlen, hE.same, hE.far⟩⟩
      simp only [keepE, List.contains_iff_mem.2 ht, if_true]
      exact hR.val t
    unfold thenRest at hy
    obtain ⟨cx, E', H'⟩ := u
    cases cx with
    | normal =>
      simp only [XR] at hx; subst hx
      simp only [CX.inBlock] at hy
      exact rest y hy hL (by dsimp only at hkl hL; exact Nat.le_trans (by simpa using hlen) (ev_len _ _ hy))
    | exit id =>
      simp only [XR] at hx; subst hx
      simp only [CX.inBlock] at hy
      by_cases hid : id = l.out
      · simp only [hid, if_true] at hy ⊢
        exact rest y hy hL (by dsimp only at hkl hL; exact Nat.le_trans (by simpa using hlen) (ev_len _ _ hy))
      · simp only [hid, if_false, Option.some.injEq] at hy ⊢
        subst hy
        exact out _ _ rfl (by dsimp only at hL; rw [killFrom_len (by simpa using hlen)] at hL; simpa using hL)
    | ret =>
      simp only [XR] at hx; subst hx
      simp only [CX.inBlock, Option.some.injEq] at hy
      subst hy
      exact out _ _ rfl (by dsimp only at hL; rw [killFrom_len (by simpa using hlen)] at hL; simpa using hL)
  refine wpIn_block ?_
  classical
  let J : Nat → Act → World → Prop := fun k a w => ∃ left E H ν seen c0, left.length = k ∧ AllTo (ev (cprog P) (n + 2) (.block l.nid (.seq (.region as) cc))) (ev (cprog P) (n + 2) rr) ⟨m, o.it, o.nx, o.more, o.pair, l.out, live⟩ mb es H0.length r left E H ∧
      St (fun c => if c = rb then some (.mapIter (some mt.c) cl seen c0) else K c) (frzAt B mt.c (.map xs cl)) L ν H w ∧ ER [] ν N E a ∧ Ext L H0 ν0 H ν ∧ MapR ν left (leftOf xs seen).toList ∧ cl ≤ c0 ∧
      H[mb]? = some ⟨[.agg es], .map, 0⟩ ∧ E o.it = .ptr H0.length 0 ∧ ν H0.length = some ⟨rb, 0, 0, 0⟩ ∧ ν mb = some mt ∧ mb < H0.length
  obtain ⟨left0, E0', H0', ν0', seen0, c00, hinv⟩ := hinv
  refine wpIn_loop (fun a w => ∃ k, J k a w) (fun a w => if h : ∃ k, J k a w then (least h).choose else 0) ⟨_, left0, E0', H0', ν0', seen0, c00, rfl, hinv⟩ fun a1 w1 hI => ?_
  rw [dif_pos hI]
  have hmin := (least hI).choose_spec
  generalize (least hI).choose = k at hmin ⊢
  obtain ⟨⟨left, E, H, ν, seen, c0, hk, hall, hS, hR, hE, hMR, hc0, hfz, hit, hνr, hmb, hmlt⟩, -⟩ := hmin
  have hrow : w1.heap[rb]? = some (.mapIter (some mt.c) cl seen c0) := hS.sim.kept rb _ (if_pos rfl)
  have hmap : w1.heap[mt.c]? = some (.map xs cl) := by
    obtain ⟨ob, g1, g2, -, -⟩ := hS.sim.mp mb _ mt hfz rfl hmb
    obtain ⟨xs', cl', rfl, -, -, g3⟩ := g2.map rfl
    have := g3 rfl
    simp only [frzAt, if_true] at this
    rw [g1, this]
  have hiv : a1.eval (.tmp o.it) = .pointer (some ⟨rb, 0, none⟩) := by
    have := hR.val o.it
    rw [hit] at this
    simp only [V] at this
    obtain ⟨mm, h1, h2⟩ := this
    rw [hνr] at h1
    simp only [Option.some.injEq] at h1
    subst h1
    exact h2
  have hsz : List.range l.ops2.size = [0, 1] := by
    have : l.ops2.size = 2 := by rw [← Array.length_toList, p2]; rfl
    rw [this]; rfl
  have hget : l.ops2[0]? = some o1 ∧ l.ops2[1]? = some o2 := by
    constructor <;> (rw [← Array.getElem?_toList, p2]; rfl)
  have hnd1 : ∀ c, o1.op ≠ .defer c := fun c e => by rw [p5] at e; cases e
  have hnd2 : ∀ c, o2.op ≠ .defer c := fun c e => by rw [p6] at e; cases e
  have hnd3 : ∀ c, e.op ≠ .defer c := fun c h => by rw [p7] at h; cases h
  have hasz : N ≤ a1.tmps.size := hR.size
  refine wpIn_seq (wpIn_region ?_)
  rw [hsz]
  rcases run_next_at (P := P) w1 o1.type rb mt.c cl c0 seen xs cl hrow hmap hst.1 hc0 with ⟨hl0, hrun⟩ | ⟨x, hx, w2, hw2, hrun⟩
  · -- none is left
    refine wpOp_value hget.1 p15 hnd1 (v := .tuple #[.bool false]) (w' := w1) (by simp [execOp, p5, hiv, hrun]) ?_
    have hR1 : ER [] ν N (E.upd o.nx (.tup [.bool false])) (a1.put o1.dst (.tuple #[.bool false])) := by
      rw [p9]; exact hR.put (dst := some o.nx) (fun d hd => by simp only [Option.some.injEq] at hd; rw [← hd]; exact hlt.2.1) (by simp [V, VL])
    have hnv : (a1.put o1.dst (.tuple #[.bool false])).eval (.tmp o.nx) = .tuple #[.bool false] := by
      rw [p9]
      simp [Act.put, Act.eval, Array.getD_eq_getD_getElem?, Array.getElem?_setIfInBounds_self_of_lt (Nat.lt_of_lt_of_le hlt.2.1 hasz)]
    refine wpOp_value hget.2 p16 hnd2 (v := .bool false) (w' := w1) (by simp [execOp, p6, hnv, Instr.extract]) ?_
    have hR2 : ER [] ν N ((E.upd o.nx (.tup [.bool false])).upd o.more (.bool false)) ((a1.put o1.dst (.tuple #[.bool false])).put o2.dst (.bool false)) := by
      rw [p10]; exact hR1.put (dst := some o.more) (fun d hd => by simp only [Option.some.injEq] at hd; rw [← hd]; exact hlt.2.2.1) (by simp [V])
    show Exit.then _ _ .normal _ _
    refine wpIn_seq (wpIn_cond (t := false) ?_ ?_)
    · have := hR2.val o.more
      rw [env_same] at this
      simp only [V] at this
      rw [p12]; exact this
    · simp only [Bool.false_eq_true, if_false]
      refine wpIn_exit ?_
      have hle0 : left = [] := by
        have : (leftOf xs seen).toList = [] := List.eq_nil_of_length_eq_zero (by simpa using hl0)
        rw [this] at hMR
        exact hMR.nil_of
      subst hle0
      have := finish (.normal, _, H) .normal _ w1 ν seen c0 rfl hall.nil hS hR2 hE hfz hmb hmlt hE.len
      simp only at this
      show Exit.then _ _ (.exit l.out2) _ _
      show Exit.inBlock l.out _ (.exit l.out2) _ _
      simp only [Exit.inBlock, p13, if_true]
      exact this
  · -- an entry comes
    obtain ⟨s, t, hs1, hs2⟩ := left_push hst.2.1 hx
    rw [hs1] at hMR
    obtain ⟨cs1, c, cs2, rfl, hMR2, kd, kn, vv, rfl, hkey, hval⟩ := hMR.split
    obtain ⟨u, hu1, hu2, hu3, hu4, hu5⟩ := hall.step
    have hw2' : w2.heap = w1.heap ∧ w2.os = w1.os ∧ w2.tape = w1.tape ∧ w2.output = w1.output := by rcases hw2 with rfl | rfl <;> exact ⟨rfl, rfl, rfl, rfl⟩
    have hS2 : St (fun c => if c = rb then some (.mapIter (some mt.c) cl (seen.push x.born) cl) else K c) (frzAt B mt.c (.map xs cl)) L ν H (ChangeMaps.setBlock w2 rb (.mapIter (some mt.c) cl (seen.push x.born) cl)) := by
      have h1 := (hS.sim.same hw2'.1 hw2'.2.1 hw2'.2.2.1 hw2'.2.2.2).turnKept (c := rb) (if_pos rfl) hrb (.mapIter (some mt.c) cl (seen.push x.born) cl)
      refine ⟨h1.less fun c ob hc => ?_, hS.dom⟩
      dsimp only at hc ⊢
      by_cases hcr : c = rb
      · rw [if_pos hcr] at hc ⊢; exact hc
      · rw [if_neg hcr] at hc ⊢; rw [if_neg hcr]; exact hc
    generalize hw3 : ChangeMaps.setBlock w2 rb (.mapIter (some mt.c) cl (seen.push x.born) cl) = w3 at hrun hS2
    have hrow3 : w3.heap[rb]? = some (.mapIter (some mt.c) cl (seen.push x.born) cl) := hS2.sim.kept rb _ (if_pos rfl)
    have hmap3 : w3.heap[mt.c]? = some (.map xs cl) := by
      obtain ⟨ob, g1, g2, -, -⟩ := hS2.sim.mp mb _ mt hfz rfl hmb
      obtain ⟨xs', cl', rfl, -, -, g3⟩ := g2.map rfl
      have := g3 rfl
      simp only [frzAt, if_true] at this
      rw [g1, this]
    have hent := run_entry_at (P := P) w3 rb mt.c cl seen xs cl x hrow3 hmap3 (mem_left hx).1 hst.2.1
    refine wpOp_value hget.1 p15 hnd1 (v := .tuple #[.bool true, x.key, x.val]) (w' := w3) (by simp [execOp, p5, hiv, hrun]) ?_
    have hR1 : ER [] ν N (E.upd o.nx (.tup [.bool true, .int kd kn, vv])) (a1.put o1.dst (.tuple #[.bool true, x.key, x.val])) := by
      rw [p9]; exact hR.put (dst := some o.nx) (fun d hd => by simp only [Option.some.injEq] at hd; rw [← hd]; exact hlt.2.1) (by
        simp only [V, VL]
        exact ⟨_, rfl, _, _, rfl, rfl, _, _, rfl, hkey, _, _, rfl, hval, rfl⟩)
    have hnv : (a1.put o1.dst (.tuple #[.bool true, x.key, x.val])).eval (.tmp o.nx) = .tuple #[.bool true, x.key, x.val] := by
      rw [p9]
      simp [Act.put, Act.eval, Array.getD_eq_getD_getElem?, Array.getElem?_setIfInBounds_self_of_lt (Nat.lt_of_lt_of_le hlt.2.1 hasz)]
    refine wpOp_value hget.2 p16 hnd2 (v := .bool true) (w' := w3) (by simp [execOp, p6, hnv, Instr.extract]) ?_
    have hR2 : ER [] ν N ((E.upd o.nx (.tup [.bool true, .int kd kn, vv])).upd o.more (.bool true)) ((a1.put o1.dst (.tuple #[.bool true, x.key, x.val])).put o2.dst (.bool true)) := by
      rw [p10]; exact hR1.put (dst := some o.more) (fun d hd => by simp only [Option.some.injEq] at hd; rw [← hd]; exact hlt.2.2.1) (by simp [V])
    show Exit.then _ _ .normal _ _
    refine wpIn_seq (wpIn_cond (t := true) ?_ ?_)
    · have := hR2.val o.more
      rw [env_same] at this
      simp only [V] at this
      rw [p12]; exact this
    · simp only [if_true]
      refine wpIn_skip ?_
      show Exit.then _ _ .normal _ _
      generalize ha2 : (a1.put o1.dst (.tuple #[.bool true, x.key, x.val])).put o2.dst (.bool true) = a2 at hR2
      have hiv2 : a2.eval (.tmp o.it) = .pointer (some ⟨rb, 0, none⟩) := by
        have := hR2.val o.it
        rw [env_ne p19, env_ne p18, hit] at this
        simp only [V] at this
        obtain ⟨mm, h1, h2⟩ := this
        rw [hνr] at h1
        simp only [Option.some.injEq] at h1
        subst h1
        exact h2
      refine wpIn_block ?_
      -- the entry, the other operations, the code
      rw [ev_succ] at hu1
      dsimp only at hu1
      rw [Option.map_eq_some_iff] at hu1
      obtain ⟨u1, hu1, rfl⟩ := hu1
      rw [ev_succ] at hu1
      dsimp only at hu1
      rw [Option.bind_eq_some_iff] at hu1
      obtain ⟨u0, hu0, hu1⟩ := hu1
      cases n with
      | zero => cases hu0
      | succ n =>
      rw [ev_succ] at hu0
      dsimp only at hu0
      rw [Option.map_eq_some_iff] at hu0
      obtain ⟨v0, hv0, rfl⟩ := hu0
      dsimp only at hu1 hu2 hu3 hu4 hu5
      have huL : u1.2.2.length ≤ L := by
        by_cases hn : (u1.1.inBlock l.nid) = .normal
        · have h1 := hu4 hn (cs1 ++ cs2) (List.Perm.refl _)
          unfold finM at h1
          rw [Option.map_eq_some_iff] at h1
          obtain ⟨y, hy, rfl⟩ := h1
          rw [Option.bind_eq_some_iff] at hy
          obtain ⟨z, hz1, hy⟩ := hy
          have g1 := runKeys_len (fun E H r h => ev_len _ _ h) hz1
          have g2 := thenRest_len (R := ev (cprog P) (n + 1 + 2) rr) (fun E H r h => ev_len _ _ h) hy
          simp only [List.length_set] at g2
          dsimp only at hL
          have hu1l := ev_len _ _ hu1
          have hv0l := evOps_len (callN_len _ _) hv0
          have := hE.len
          rw [killFrom_len (by omega)] at hL
          omega
        · have h1 := hu5 hn
          unfold finM at h1
          rw [Option.bind_some, Option.map_eq_some_iff] at h1
          obtain ⟨y, hy, rfl⟩ := h1
          have g2 := thenRest_len (R := ev (cprog P) (n + 1 + 2) rr) (fun E H r h => ev_len _ _ h) hy
          simp only [List.length_set] at g2
          dsimp only at hL
          have hu1l := ev_len _ _ hu1
          have hv0l := evOps_len (callN_len _ _) hv0
          have := hE.len
          rw [killFrom_len (by omega)] at hL
          omega
      have hvL : v0.2.length ≤ L := Nat.le_trans (ev_len _ _ hu1) huL
      refine wpIn_seq (wpIn_region ?_)
      have hops : List.range l.ops3.size = 0 :: (List.range' 1 (l.ops3.size - 1) ++ []) := by
        have : 0 < l.ops3.size := (Array.getElem?_eq_some_iff.1 p3).1
        rw [List.append_nil, List.range_eq_range', show l.ops3.size = (l.ops3.size - 1) + 1 from by omega, List.range'_succ]
        simp
      rw [hops]
      refine wpOp_value p3 p17 hnd3 (v := .tuple #[x.key, x.val]) (w' := w3) (by simp [execOp, p7, hiv2, hent]) ?_
      have hR3 : ER [] ν N (RM.beg ⟨m, o.it, o.nx, o.more, o.pair, l.out, live⟩ (.tup [.int kd kn, vv]) E) (a2.put e.dst (.tuple #[x.key, x.val])) := by
        rw [p11]; exact hR2.put (dst := some o.pair) (fun d hd => by simp only [Option.some.injEq] at hd; rw [← hd]; exact hlt.2.2.2) (by
          simp only [V, VL]
          exact ⟨_, rfl, _, _, rfl, hkey, _, _, rfl, hval, rfl⟩)
      have hB' : BOk P (frzAt B mt.c (.map xs cl)) := ⟨hBr.rnd, hBr.glob⟩
      refine ops_simK (hF n (by omega)) hB' (callN_len _ _) (List.range' 1 (l.ops3.size - 1)) as ?_ ?_ _ H ν _ w3 v0 hv0 hvL hS2 hR3 fun ν4 a4 w4 hS4 hR4 hE4 => ?_
      · have := allSome_length has
        simp at this
        simp [this]
      · intro j i st hj hst'
        have h1 := allSome_get has hst'
        rw [List.getElem?_map, Option.map_eq_some_iff] at h1
        obtain ⟨oo, hoo, hco⟩ := h1
        have hjl : j < l.ops3.size - 1 := by have := (List.getElem?_eq_some_iff.1 hj).1; simpa using this
        rw [List.getElem?_range' hjl] at hj
        simp only [Option.some.injEq] at hj
        subst hj
        refine ⟨oo, ?_, hco⟩
        rw [List.getElem?_tail] at hoo
        rw [← Array.getElem?_toList, ← hoo]
        congr 1
        omega
      · show Exit.then _ _ .normal _ _
        refine wpIn_mono (code_sim0 hm hB' (fun k hk => hF k (by omega)) hcc hu1 huL hS4 hR4) fun xx a5 w5 h5 => ?_
        obtain ⟨ν5, hx5, hS5, hR5, hE5⟩ := h5
        have hE6 : Ext L H0 ν0 u1.2.2 ν5 := hE.trans (hE4.trans hE5)
        have hmono : ∀ b m, ν b = some m → ν5 b = some m := fun b m h => hE5.mono hS4 b m (hE4.mono hS2 b m h)
        have go : ∀ (hn : u1.1.inBlock l.nid = .normal), (∃ k, J k a5 w5) ∧ (if h : ∃ k, J k a5 w5 then (least h).choose else 0) < k := by
          intro hn
          have hJ : J (cs1 ++ cs2).length a5 w5 := ⟨cs1 ++ cs2, u1.2.1, u1.2.2, ν5, seen.push x.born, cl, rfl, hu4 hn, hS5, hR5, hE6, by rw [hs2]; exact hMR2.mono hmono, Nat.le_refl _, hu2, hu3, hmono _ _ hνr, hmono _ _ hmb, hmlt⟩
          refine ⟨⟨_, hJ⟩, ?_⟩
          rw [dif_pos ⟨_, hJ⟩]
          have h1 := (least (p := fun k => J k a5 w5) ⟨_, hJ⟩).choose_spec.2 _ hJ
          have h2 : (cs1 ++ cs2).length < k := by rw [← hk]; simp
          omega
        have stop : ∀ (hn : u1.1.inBlock l.nid ≠ .normal) (xx : Exit), XR (u1.1.inBlock l.nid) xx → _ := fun hn xx hxx => finish (u1.1.inBlock l.nid, u1.2) xx a5 w5 ν5 (seen.push x.born) cl hxx (hu5 hn) hS5 hR5 hE6 hu2 (hmono _ _ hmb) hmlt hE6.len
        obtain ⟨cx, E5, H5⟩ := u1
        cases cx with
        | normal =>
          simp only [XR] at hx5; subst hx5
          exact go rfl
        | exit id =>
          simp only [XR] at hx5; subst hx5
          by_cases hid : id = l.nid
          · have hb : (CX.exit id).inBlock l.nid = .normal := by simp [CX.inBlock, hid]
            simp only [Exit.then, Exit.inBlock, hid, if_true]
            exact go hb
          · have hb : (CX.exit id).inBlock l.nid = .exit id := by simp [CX.inBlock, hid]
            simp only [Exit.then, Exit.inBlock, hid, if_false]
            have := stop (by rw [hb]; simp) (.exit id) (by rw [hb]; rfl)
            exact this
        | ret =>
          simp only [XR] at hx5; subst hx5
          have hb : CX.ret.inBlock l.nid = .ret := rfl
          exact stop (by rw [hb]; simp) .ret (by rw [hb]; rfl)

theorem mloop_inv {c : Code} {l : MLoop} (h : mloop c = some l) : c = l.of := by
  unfold mloop at h
  split at h
  · simp only [Option.some.injEq] at h; subst h; rfl
  · cases h

theorem mapOf_inv {H : CHeap} {c : CV} {b : Nat} {es : List CV} (h : mapOf H c = some (b, es)) : c = .mapv b ∧ H[b]? = some ⟨es, .map, 0⟩ ∧ isFrz es = false := by
  unfold mapOf at h
  split at h
  · rename_i b'
    split at h
    · rename_i es' hb
      split at h
      · cases h
      · rename_i hz
        simp only [Option.some.injEq, Prod.mk.injEq] at h
        obtain ⟨rfl, rfl⟩ := h
        exact ⟨rfl, hb, by simpa using hz⟩
    · cases h
  · cases h

theorem RangeQ.later {H H1 : CHeap} {ν ν1 : Mu} {live : List Nat} {r : CX × Env × CHeap} (h : Ext L H ν H1 ν1) {x : Exit} {a : Act} {w : World} (hq : RangeQ K B L H1 ν1 live r x a w) : RangeQ K B L H ν live r x a w := by
  obtain ⟨ν', h1, h2, h3, h4⟩ := hq
  exact ⟨ν', h1, h2, h3, h.trans h4⟩

theorem body_sim (hm : P.follows .mixedOrders = true) (hBr : BOk P B) {f : Nat} {live : List Nat} : ∀ (c : Code) (n : Nat), (∀ k, k < n → SimF P (callN (cprog P) k)) → ∀ (cc : CCode) (E : Env) (H : CHeap) (r : CX × Env × CHeap), compBody P f N live c = some cc → ev (cprog P) n cc E H = some r → r.2.2.length ≤ L →
    ∀ (ν : Mu) (a : Act) (w : World), St K B L ν H w → ER [] ν N E a → c.wpIn (Fr none) 0 P (RangeQ K B L H ν live r) a w := by
  intro c
  induction c with
  | seq x y ihx ihy =>
    intro n hF cc E H r hc he hL ν a w hS hR
    unfold compBody at hc
    cases n with
    | zero => cases he
    | succ n =>
    split at hc
    · rename_i l hl
      have := mloop_inv hl
      subst this
      simp only [Option.bind_eq_some_iff] at hc
      obtain ⟨o, ho, kz, hT, m, hom, pre, hpre, as, has, c', hc', rr, hrr, hc⟩ := hc
      obtain ⟨hg, hc⟩ := guardB_some hc
      simp only [Option.some.injEq] at hc
      subst hc
      simp only [Bool.and_eq_true, decide_eq_true_eq] at hg
      obtain ⟨⟨⟨g1, g2⟩, g3⟩, g4⟩ := hg
      obtain ⟨rg, o1, o2, e, p1, p2, p3, p4, p5, p6, p7, p8, p9, p10, p11, p12, p13, p14, p15, p16, p17, p18, p19, p20, p21, p22, p23⟩ := mops_inv ho
      rw [ev_succ] at he
      dsimp only at he
      rw [Option.bind_eq_some_iff] at he
      obtain ⟨q0, hq0, he⟩ := he
      cases n with
      | zero => cases hq0
      | succ n =>
      rw [ev_succ] at hq0
      dsimp only at hq0
      rw [Option.map_eq_some_iff] at hq0
      obtain ⟨⟨E1, H1⟩, hv, rfl⟩ := hq0
      dsimp only at he
      rw [ev_succ] at he
      dsimp only at he
      have he := rangeAll_le (fun E H => ev_le (cprog P) (show n ≤ n + 2 by omega) _ E H) (fun E H => ev_le (cprog P) (show n ≤ n + 2 by omega) _ E H) _ _ _ _ _ he
      obtain ⟨mb, es, hmo, hall⟩ := rangeAll_some.1 he
      obtain ⟨hmv, hmb, hz⟩ := mapOf_inv hmo
      have hlen1 : H1.length + 1 ≤ L := by
        have h1 := hall es (List.Perm.refl _)
        unfold rangeOne at h1
        rw [Option.map_eq_some_iff] at h1
        obtain ⟨y, hy, rfl⟩ := h1
        rw [Option.bind_eq_some_iff] at hy
        obtain ⟨u, hu, hy⟩ := hy
        have k1 := runKeys_len (fun E H r h => ev_len _ _ h) hu
        have k2 := thenRest_len (R := ev (cprog P) (n + 2) rr) (fun E H r h => ev_len _ _ h) hy
        simp only [List.length_append, List.length_cons, List.length_nil, List.length_set] at k1 k2
        dsimp only at hL
        rw [killFrom_len (by omega)] at hL
        omega
      refine wpIn_seq (wpIn_seq (wpIn_region ?_))
      have hsz : 0 < l.ops.size := by
        rcases Nat.eq_zero_or_pos l.ops.size with h | h
        · rw [Array.back?_eq_getElem?, h] at p1
          simp [Array.eq_empty_of_size_eq_zero h] at p1
        · exact h
      have hops : List.range l.ops.size = List.range (l.ops.size - 1) ++ [l.ops.size - 1] := by
        rw [← List.range_succ]; congr 1; omega
      rw [hops]
      refine ops_simK (hF n (by omega)) hBr (callN_len _ _) (List.range (l.ops.size - 1)) pre ?_ ?_ _ H ν _ w (E1, H1) hv (by dsimp only; omega) hS hR fun ν1 a1 w1 hS1 hR1 hE1 => ?_
      · have := allSome_length hpre
        simp at this
        simp [this]
      · intro j i st hj hst'
        have h1 := allSome_get hpre hst'
        rw [List.getElem?_map, Option.map_eq_some_iff] at h1
        obtain ⟨oo, hoo, hco⟩ := h1
        have hjl : j < l.ops.size - 1 := by have := (List.getElem?_eq_some_iff.1 hj).1; simpa using this
        rw [List.getElem?_range hjl] at hj
        simp only [Option.some.injEq] at hj
        subst hj
        refine ⟨oo, ?_, hco⟩
        rw [List.getElem?_dropLast] at hoo
        split at hoo
        · rw [← Array.getElem?_toList]; exact hoo
        · cases hoo
      · dsimp only at hS1 hR1 hE1
        have hmV := opd_V hom (fun t _ => hR1.val t)
        rw [hmv] at hmV
        simp only [V] at hmV
        obtain ⟨mt, hmt, hev⟩ := hmV
        obtain ⟨ob, hob, hobr, hBm, hKm⟩ := hS1.sim.mp mb _ mt hmb rfl hmt
        obtain ⟨xs, cl, rfl, hMR, hst, -⟩ := hobr.map rfl
        rw [isFrz_false hz] at hMR
        obtain ⟨kt, et, _, _, hut, -⟩ := mapT_und hT
        have hrun := run_range_map (P := P) w1 o.t kt et mt.c xs cl hut hob
        have hrg : l.ops[l.ops.size - 1]? = some rg := by rw [← Array.back?_eq_getElem?]; exact p1
        refine wpOp_value hrg p14 (fun c h => by rw [p4] at h; cases h) (v := .pointer (some ⟨w1.heap.size, 0, none⟩)) (w' := w1.alloc (.mapIter (some mt.c) cl #[] cl)) (by simp [execOp, p4, hev, hrun]) ?_
        show Exit.then _ _ .normal _ _
        have hfree := hS1.sim.free
        have hmlt := (List.getElem?_eq_some_iff.1 hmb).1
        -- the state in which the rounds begin
        let ν2 : Mu := ν1.set H1.length ⟨w1.heap.size, 0, 0, 0⟩
        have hmono : ∀ b m, ν1 b = some m → ν2 b = some m := by
          intro b m hm
          have hb : b ≠ H1.length := fun e => by rw [e, hS1.dom _ (Nat.le_refl _) (by omega)] at hm; cases hm
          show ν1.set _ _ b = _
          rw [Mu.set_ne _ _ hb]; exact hm
        have hsame : ∀ b, b ≠ H1.length → ν2 b = ν1 b := fun b hb => Mu.set_ne _ _ hb
        have h1 := (hS1.sim.freeze hmb hz hmt hob).alloc (.mapIter (some mt.c) cl #[] cl)
        have h2 := (h1.congr (ν := ν2) (fun b hb => hsame b (by simp at hb; omega)) hmono).pushDead
        have hS2 : St (fun c => if c = w1.heap.size then some (.mapIter (some mt.c) cl #[] cl) else K c) (frzAt B mt.c (.map xs cl)) L ν2 (H1.set mb ⟨[.agg es], .map, 0⟩ ++ [⟨[], .dead, 0⟩]) (w1.alloc (.mapIter (some mt.c) cl #[] cl)) :=
          ⟨h2, fun b hb hl => by simp at hb; rw [hsame b (by omega)]; exact hS1.dom b (by omega) hl⟩
        have hR2 : ER [] ν2 N (E1.upd o.it (.ptr H1.length 0)) (a1.put rg.dst (.pointer (some ⟨w1.heap.size, 0, none⟩))) := by
          rw [p8]
          refine (hR1.mono hmono).put (dst := some o.it) (fun d hd => by simp only [Option.some.injEq] at hd; rw [← hd]; exact g1) ?_
          simp only [V]
          exact ⟨_, Mu.set_self _ _ _, rfl⟩
        have hE2 : Ext L H1 ν1 (H1.set mb ⟨[.agg es], .map, 0⟩ ++ [⟨[], .dead, 0⟩]) ν2 := ⟨by simp, fun b hb => hsame b (by omega), fun b hb => hsame b (by omega)⟩
        refine wpIn_mono (mloop_rounds (K := K) (B := B) (L := L) (N := N) hm hBr (n := n) (fun k hk => hF k (by omega)) ho has hc' hrr (live := live) ⟨g1, g2, g3, g4⟩ (mb := mb) (es := es) (r := r) hz hL (H0 := H1) (ν0 := ν1) (mt := mt) (rb := w1.heap.size) hS1.sim.base.size hfree hst (q := _) rfl _ _
          ⟨es, _, _, ν2, #[], cl, fun l' hl' => hall l' hl', hS2, hR2, hE2, ?_, Nat.le_refl _, ?_, env_same, Mu.set_self _ _ _, hmono _ _ hmt, hmlt⟩) fun x a w hx => ?_
        · have : (leftOf xs #[]).toList = xs.toList := by simp [leftOf]
          rw [this]; exact hMR.mono hmono
        · rw [List.getElem?_append_left (by simpa using hmlt), List.getElem?_set_self hmlt]
        · cases x with
          | normal => exact wpIn_mono hx fun x a w h => RangeQ.later hE1 h
          | _ => exact RangeQ.later hE1 hx
    · rename_i hl
      simp only [Option.bind_eq_some_iff, Option.map_eq_some_iff] at hc
      obtain ⟨x', hx', y', hy', rfl⟩ := hc
      rw [ev_succ] at he
      dsimp only at he
      rw [Option.bind_eq_some_iff] at he
      obtain ⟨q, hq, he⟩ := he
      have hqL : q.2.2.length ≤ L := by
        split at he
        · exact Nat.le_trans (ev_len _ n he) hL
        · simp only [Option.some.injEq] at he; subst he; exact hL
      refine wpIn_seq (wpIn_mono (code_sim0 hm hBr (fun k hk => hF k (by omega)) hx' hq hqL hS hR) fun e a1 w1 h1 => ?_)
      obtain ⟨ν1, hx1, hS1, hR1, hE1⟩ := h1
      obtain ⟨cx, E1, H1⟩ := q
      cases cx with
      | normal =>
        simp only [XR] at hx1; subst hx1
        exact wpIn_mono (ihy n (fun k hk => hF k (by omega)) y' E1 H1 r hy' he hL ν1 a1 w1 hS1 hR1) fun x a w h => RangeQ.later hE1 h
      | exit id =>
        simp only [Option.some.injEq] at he; subst he
        simp only [XR] at hx1; subst hx1
        exact ⟨ν1, rfl, hS1, ⟨hR1.defers, fun t _ => hR1.val t⟩, hE1⟩
      | ret =>
        simp only [Option.some.injEq] at he; subst he
        simp only [XR] at hx1; subst hx1
        exact ⟨ν1, rfl, hS1, ⟨hR1.defers, fun t _ => hR1.val t⟩, hE1⟩
  | _ => intro n hF cc E H r hc; simp [compBody] at hc
end
end Go.Cs

/- Functions of Go's library that stand in the clean machine as one operation. -/
namespace Go.Cs
open Go Go.RowKit

/-! ### Sorting -/

theorem layZ_perm (a : Int) : ∀ l, (layZ a l).Perm (a :: l)
  | [] => .refl _
  | b :: l => by
    unfold layZ
    split
    · exact .refl _
    · exact ((layZ_perm a l).cons b).trans (.swap a b l)
theorem sortZ_perm : ∀ l, (sortZ l).Perm l
  | [] => .refl _
  | a :: l => (layZ_perm a _).trans ((sortZ_perm l).cons a)
theorem layZ_sorted (a : Int) : ∀ l : List Int, l.Pairwise (· ≤ ·) → (layZ a l).Pairwise (· ≤ ·)
  | [], _ => by simp [layZ]
  | b :: l, h => by
    obtain ⟨h1, h2⟩ := List.pairwise_cons.1 h
    unfold layZ
    split
    · rename_i hab
      refine List.pairwise_cons.2 ⟨fun x hx => ?_, h⟩
      rcases List.mem_cons.1 hx with rfl | hx
      · exact hab
      · exact Int.le_trans hab (h1 x hx)
    · rename_i hab
      refine List.pairwise_cons.2 ⟨fun x hx => ?_, layZ_sorted a l h2⟩
      rcases List.mem_cons.1 ((layZ_perm a l).mem_iff.1 hx) with rfl | hx
      · omega
      · exact h1 x hx
theorem sortZ_sorted : ∀ l, (sortZ l).Pairwise (· ≤ ·)
  | [] => .nil
  | a :: l => layZ_sorted a _ (sortZ_sorted l)
theorem sortZ_len (l : List Int) : (sortZ l).length = l.length := (sortZ_perm l).length_eq
/-- A sorted list of the same integers is the same. -/
theorem sortZ_unique {l m : List Int} (hp : m.Perm l) (hs : m.Pairwise (· ≤ ·)) : m = sortZ l :=
  List.Perm.eq_of_pairwise (le := fun a b => a ≤ b) (fun a b _ _ h1 h2 => Int.le_antisymm h1 h2) hs (sortZ_sorted l) (hp.trans (sortZ_perm l).symm)
theorem mergeSort_sortZ (l : List Int) : l.mergeSort (fun x y => decide (x ≤ y)) = sortZ l :=
  sortZ_unique (List.mergeSort_perm _ _) (by
    have := List.pairwise_mergeSort (le := fun x y : Int => decide (x ≤ y)) (fun a b c h1 h2 => by simp at *; omega) (fun a b => by simp; omega) l
    exact this.imp (by simp))

theorem intsOf_some : ∀ {cs : List CV} {l : List Int}, intsOf cs = some l → cs = l.map .i
  | [], l, h => by simp only [intsOf, Option.some.injEq] at h; subst h; rfl
  | c :: cs, l, h => by
    unfold intsOf at h
    split at h
    · rename_i heq; cases heq
    · rename_i n r heq
      simp only [List.cons.injEq] at heq
      obtain ⟨rfl, rfl⟩ := heq
      rw [Option.map_eq_some_iff] at h
      obtain ⟨l', h', rfl⟩ := h
      rw [intsOf_some h']
      rfl
    · cases h

/-- slices.Sort at integers, in the model: what lies in the slice is sorted. -/
def SortC (P : Program) (f : Nat) : Prop :=
  (∀ (blk off cap : Nat) (zs : List Int) (w : World), Go.Sort.Holds (Value.int .i64) w blk off zs.toArray → blk < w.heap.size → zs.length ≤ 16777216 →
    Calls P f #[.slice (some ⟨blk, off, none⟩) zs.length cap] w fun e w' => e = .returned (.tuple #[]) ∧ ∃ n os, w' = Go.Sort.grow (Go.Sort.putRow (Value.int .i64) (Go.Sort.ahead w n) blk off (zs.mergeSort fun x y => decide (x ≤ y)).toArray) os) ∧
  ∀ (p : Option Addr) (cap : Nat) (w : World), Calls P f #[.slice p 0 cap] w fun e w' => e = .returned (.tuple #[]) ∧ w' = w

/-- slices.Sorted(maps.Keys(m)), in the model: the keys in a new slice, sorted. -/
def KeysC (P : Program) (f g : Nat) : Prop :=
  ∀ (w : World) (Bm b : Nat) (es : Array MapEntry) (cl : Nat) (ks : List Int), w.cell? ⟨Bm, 0, none⟩ = some (.map (some b)) → w.heap[b]? = some (.map es cl) → MapKept.Stamped es cl → es.toList.map (·.key) = ks.map (Value.int .i64) → ks.length ≤ 16777216 → ks.all inI64 = true → Bm < w.heap.size →
    Calls P f #[.func (.func g) #[] #[.pointer (some ⟨Bm, 0, none⟩)]] w fun e w' => ∃ v, e = .returned v ∧ Below w.heap.size w w' ∧
      ((ks = [] ∧ v = .slice none 0 0) ∨ ks ≠ [] ∧ ∃ c cap arr T, v = .slice (some ⟨c, 0, none⟩) ks.length cap ∧ w.heap.size ≤ c ∧ w'.heap[c]? = some (.cells arr T (0, 0)) ∧ ks.length ≤ cap ∧ arr.size = cap ∧ arr.toList.take ks.length = (ks.mergeSort fun x y => decide (x ≤ y)).map (Value.int .i64))

def PrimsOk (P : Program) : Prop := ∀ f fn, P.funcs[f]? = some fn → (isSort fn = true → SortC P f) ∧ (isSorted fn = true → ∀ g, keysFn P = some g → KeysC P f g)

section
variable {P : Program} {K : Nat → Option Obj} {B : Bs} {L : Nat}

theorem Sim.grow {μ : Mu} {H : CHeap} {w : World} (h : Sim K B μ H w) (os : Array Obj) : Sim K B μ H (Go.Sort.grow w os) := by
  have old : ∀ {c : Nat} {o : Obj}, w.heap[c]? = some o → (Go.Sort.grow w os).heap[c]? = some o := fun hc => by
    rw [Go.Sort.heap_grow_old _ _ (Array.getElem?_eq_some_iff.1 hc).1]; exact hc
  exact ⟨h.base.trans ⟨rfl, rfl, rfl, by simp [Go.Sort.grow], fun q hq => Go.Sort.heap_grow_old _ _ (Nat.lt_of_lt_of_le hq h.base.size)⟩, fun c o hc => old (h.kept c o hc), fun b k m h1 h2 h3 h4 => by
    obtain ⟨arr, T, fz, e1, e2⟩ := h.blk b k m h1 h2 h3 h4
    exact ⟨arr, T, fz, old e1, e2⟩, h.inj, fun b k m h1 h2 h3 => by
    obtain ⟨ob, e1, e2⟩ := h.mp b k m h1 h2 h3
    exact ⟨ob, old e1, e2⟩⟩

theorem sort_sim {f : Nat} (hc : SortC P f) {x : CV} {E : Env} {H : CHeap} {r : CV × CHeap} (hx : E 0 = x) (h : opv (.sortI (.tmp 0)) E H = some r) {ν : Mu} {w : World} (hS : St K B L ν H w) {v : Value} (hv : V ν x v) :
    r.1 = .tup [] ∧ Calls P f #[v] w fun e w' => ∃ v' ν', e = .returned v' ∧ St K B L ν' r.2 w' ∧ V ν' (.tup []) v' ∧ Ext L H ν r.2 ν' := by
  simp only [opv, Env.ev, hx] at h
  have hu : V ν (.tup []) (.tuple #[]) := by simp [V, VL]
  split at h
  · rename_i b o len cap e tail
    simp only [V] at hv
    obtain ⟨m, cap', off, hm, hesz, rfl, hlc, -, hoff, hfit⟩ := hv
    split at h
    · rename_i h0
      simp only [Option.some.injEq] at h
      subst h; subst h0
      refine ⟨rfl, (hc.2 _ cap' w).mono ?_⟩
      rintro e w' ⟨rfl, rfl⟩
      exact ⟨_, ν, rfl, hS, hu, Ext.refl _ _ _⟩
    · rename_i h0
      split at h
      case isFalse => cases h
      rename_i hme
      obtain ⟨rfl, hmax⟩ := hme
      simp only [Option.bind_eq_some_iff, Option.map_eq_some_iff] at h
      obtain ⟨cs, hcs, l, hl, H', hst, rfl⟩ := h
      have hcl := intsOf_some hl
      subst hcl
      have hoff' : off = m.s + o := hoff.resolve_left (by omega)
      subst hoff'
      have hlen : l.length = len := by
        have := (hS.sim.loadN hcs hm).1; simpa using this
      subst hlen
      obtain ⟨arr, T, hw, hfit2, -, hsim, hHl⟩ := hS.sim.write (vs := (sortZ l).map (Value.int .i64)) hst hm (by
        refine VL.of_get (by simp) fun i c hi => ?_
        rw [List.getElem?_map, Option.map_eq_some_iff] at hi
        obtain ⟨z, hz, rfl⟩ := hi
        exact ⟨.int .i64 z, by simp [hz], by simp [V]⟩)
      have hcells : ∀ j z, l[j]? = some z → arr[m.s + o + j]? = some (.int .i64 z) := by
        intro j z hz
        unfold loadN at hcs
        split at hcs
        case h_2 => cases hcs
        rename_i blk hb
        split at hcs
        · cases hcs
        rename_i hmode
        split at hcs
        case isFalse => cases hcs
        simp only [Option.some.injEq] at hcs
        have hj : j < l.length := (List.getElem?_eq_some_iff.1 hz).1
        have h1 : blk.cells[o + j]? = some (.i z) := by
          have : (l.map CV.i)[j]? = some (.i z) := by simp [hz]
          rw [← hcs, List.getElem?_take, if_pos (by omega), List.getElem?_drop] at this
          exact this
        obtain ⟨arr', T', fz', e1, e2, -⟩ := hS.sim.blk b blk m hb (fun e => hmode (.inl e)) (fun e => hmode (.inr e)) hm
        rw [hw] at e1
        simp only [Option.some.injEq, Obj.cells.injEq] at e1
        obtain ⟨rfl, rfl, rfl⟩ := e1
        obtain ⟨u, hu1, hu2⟩ := e2 _ _ h1
        simp only [V] at hu2
        rw [Nat.add_assoc, hu1, hu2]
      have hH : Go.Sort.Holds (Value.int .i64) w m.c (m.s + o) l.toArray := by
        intro j hj
        have hj' : j < l.length := by simpa using hj
        have hz := hcells j l[j] (List.getElem?_eq_getElem hj')
        refine ⟨?_, by simp [World.frozen?, hw]⟩
        simp only [World.cell?, hw, Option.isSome_none, Bool.false_eq_true, if_false]
        rw [hz]
        simp [hj']
      refine ⟨rfl, (hc.1 m.c (m.s + o) cap' l w hH (Array.getElem?_eq_some_iff.1 hw).1 hmax).mono ?_⟩
      rintro e w' ⟨rfl, n, os, rfl⟩
      rw [mergeSort_sortZ]
      refine ⟨_, ν, rfl, ⟨Sim.grow (hsim.same (w' := Go.Sort.putRow (Value.int .i64) (Go.Sort.ahead w n) m.c (m.s + o) (sortZ l).toArray) ?_ rfl rfl rfl) os, fun b' hb' hl' => hS.dom b' (by dsimp only at hb'; omega) hl'⟩, hu, ⟨by dsimp only; omega, fun _ _ => rfl, fun _ _ => rfl⟩⟩
      apply Array.ext_getElem?
      intro k
      by_cases hk : k = m.c
      · subst hk
        rw [setRow_heap w m.c arr _ T (0, 0) hw]
        simp only [Go.Sort.putRow, Go.Sort.mapBlock, Go.Sort.ahead, Array.getElem?_modify, if_true, hw, Option.map_some, Go.Sort.onCells, Option.some.injEq, Obj.cells.injEq, and_true]
        have hsl := sortZ_len l
        simp only [List.length_map, hsl] at hfit2
        apply Array.ext_getElem?
        intro i
        simp only [Go.Sort.putCells, Array.getElem?_mapIdx, List.size_toArray, hsl, List.getElem?_toArray, List.length_map]
        have hlt : m.s + o ≤ arr.toList.length := by simp; omega
        rcases Nat.lt_or_ge i (m.s + o) with h1 | h1
        · rw [List.append_assoc, List.getElem?_append_left (by simp; omega), List.getElem?_take, if_pos h1, Array.getElem?_toList]
          cases arr[i]? with
          | none => rfl
          | some y => rw [Option.map_some, if_neg (by omega)]
        · rcases Nat.lt_or_ge i (m.s + o + l.length) with h2 | h2
          · rw [List.append_assoc, List.getElem?_append_right (by simp; omega), List.getElem?_append_left (by simp [hsl]; omega)]
            rw [Array.getElem?_eq_getElem (by omega), Option.map_some, if_pos ⟨h1, h2⟩]
            simp only [List.length_take, Array.length_toList, Nat.min_eq_left (show m.s + o ≤ arr.size by omega), List.getElem?_map]
            have h3 : i - (m.s + o) < (sortZ l).length := by omega
            rw [List.getElem?_eq_getElem h3, Option.map_some]
            simp [h3]
          · rw [List.append_assoc, List.getElem?_append_right (by simp; omega), List.getElem?_append_right (by simp [hsl]; omega), List.getElem?_drop]
            have h3 : m.s + o + l.length + (i - ((List.take (m.s + o) arr.toList).length) - ((sortZ l).map (Value.int .i64)).length) = i := by simp [hsl]; omega
            rw [h3, Array.getElem?_toList]
            cases arr[i]? with
            | none => rfl
            | some y => rw [Option.map_some, if_neg (by omega)]
      · rw [setRow_other w m.c k _ hk]
        simp [Go.Sort.putRow, Go.Sort.mapBlock, Go.Sort.ahead, Array.getElem?_modify, Ne.symm hk]
  · simp only [Option.some.injEq] at h
    subst h
    simp only [V] at hv
    subst hv
    refine ⟨rfl, (hc.2 _ 0 w).mono ?_⟩
    rintro e w' ⟨rfl, rfl⟩
    exact ⟨_, ν, rfl, hS, hu, Ext.refl _ _ _⟩
  · cases h

theorem keysOf_some {μ : Mu} : ∀ {es : List CV} {l : List Int} {xs : List MapEntry}, keysOf es = some l → MapR μ es xs → xs.map (·.key) = l.map (Value.int .i64)
  | [], l, xs, h, hr => by
    simp only [keysOf, Option.some.injEq] at h; subst h
    simp only [MapR] at hr; subst hr; rfl
  | e :: es, l, xs, h, hr => by
    obtain ⟨k, n, v, x, rest, rfl, rfl, h3, -, -, h6⟩ := hr
    unfold keysOf at h
    split at h
    · rename_i heq; cases heq
    · rename_i n' y r heq
      simp only [List.cons.injEq, CV.tup.injEq, CV.int.injEq, and_true] at heq
      obtain ⟨⟨⟨rfl, rfl⟩, rfl⟩, rfl⟩ := heq
      rw [Option.map_eq_some_iff] at h
      obtain ⟨l', h', rfl⟩ := h
      rw [List.map_cons, List.map_cons, h3, keysOf_some h' h6]
    · cases h

theorem Sim.below {μ : Mu} {H : CHeap} {w w' : World} (h : Sim K B μ H w) (hb : Below w.heap.size w w') : Sim K B μ H w' := by
  have old : ∀ {c : Nat} {o : Obj}, w.heap[c]? = some o → w'.heap[c]? = some o := fun hc => by
    rw [hb.block _ (Array.getElem?_eq_some_iff.1 hc).1]; exact hc
  exact ⟨⟨hb.os.trans h.base.os, hb.tape.trans h.base.tape, hb.output.trans h.base.output, Nat.le_trans h.base.size hb.size, fun k hk => by rw [hb.block k (Nat.lt_of_lt_of_le hk h.base.size)]; exact h.base.block k hk⟩, fun c o hc => old (h.kept c o hc), fun b k m h1 h2 h3 h4 => by
    obtain ⟨arr, T, fz, e1, e2⟩ := h.blk b k m h1 h2 h3 h4
    exact ⟨arr, T, fz, old e1, e2⟩, h.inj, fun b k m h1 h2 h3 => by
    obtain ⟨ob, e1, e2⟩ := h.mp b k m h1 h2 h3
    exact ⟨ob, old e1, e2⟩⟩

theorem keys_sim {f g : Nat} (hc : KeysC P f g) {x : CV} {E : Env} {H : CHeap} {r : CV × CHeap} (hx : E 0 = x) (h : opv (.keysSorted g (.tmp 0)) E H = some r) {ν : Mu} {w : World} (hL : r.2.length ≤ L) (hS : St K B L ν H w) {v : Value} (hv : V ν x v) :
    Calls P f #[v] w fun e w' => ∃ v' ν', e = .returned v' ∧ St K B L ν' r.2 w' ∧ V ν' r.1 v' ∧ Ext L H ν r.2 ν' := by
  simp only [opv, Env.ev, hx] at h
  split at h
  case h_2 => cases h
  rename_i f' b
  split at h
  case isFalse => cases h
  rename_i hfg
  subst hfg
  split at h
  case h_2 => cases h
  rename_i m' hb
  simp only [Option.bind_eq_some_iff] at h
  obtain ⟨⟨mb, es⟩, hmo, l, hl, h⟩ := h
  obtain ⟨rfl, hmb, hz⟩ := mapOf_inv hmo
  simp only [V, VL] at hv
  obtain ⟨vs, rfl, u, rest, hvs, ⟨mt, hmt, rfl⟩, rfl⟩ := hv
  have hvs' : vs = #[.pointer (some ⟨mt.c, mt.s + 0, none⟩)] := by rw [← Array.toArray_toList (xs := vs), hvs]
  subst hvs'
  obtain ⟨arr, T, fz, hw, hcell, hrw, -⟩ := hS.sim.blk b _ mt hb (fun e => by cases e) (fun e => by cases e) hmt
  obtain ⟨-, -, hs0, rfl, -, -⟩ := hrw rfl
  have hs : mt.s = 0 := hs0.1 rfl
  obtain ⟨v0, hv0, hV0⟩ := hcell 0 _ rfl
  simp only [V] at hV0
  obtain ⟨m2, hm2, rfl⟩ := hV0
  obtain ⟨ob, hob, hobr, -, -⟩ := hS.sim.mp mb _ m2 hmb rfl hm2
  obtain ⟨xs, cl, rfl, hMR, hst, -⟩ := hobr.map rfl
  rw [isFrz_false hz] at hMR
  rw [hs, Nat.add_zero] at hv0 ⊢
  have hcl : w.cell? ⟨mt.c, 0, none⟩ = some (.map (some m2.c)) := by
    simp only [World.cell?, hw, Option.isSome_none, Bool.false_eq_true, if_false]
    exact hv0
  have hks := keysOf_some hl hMR
  have hmax : l.length ≤ 16777216 ∧ l.all inI64 = true := by
    split at h
    · rename_i h0
      have : l = [] := List.eq_nil_of_length_eq_zero h0
      subst this
      exact ⟨by simp, rfl⟩
    · split at h
      · rename_i hh; exact hh
      · cases h
  refine (hc w mt.c m2.c xs cl l hcl hob hst hks hmax.1 hmax.2 (Array.getElem?_eq_some_iff.1 hw).1).mono ?_
  rintro e w' ⟨v, rfl, hbel, hcase⟩
  have hSb := hS.sim.below hbel
  rcases hcase with ⟨rfl, rfl⟩ | ⟨hne, c, cap, arr2, T2, rfl, hcw, hw2, hcap, harr, htake⟩
  · simp only [List.length_nil, if_true] at h
    simp only [Option.some.injEq] at h
    subst h
    exact ⟨_, ν, rfl, ⟨hSb, hS.dom⟩, by simp [V], Ext.refl _ _ _⟩
  · by_cases hl0 : l.length = 0
    · exact absurd (List.eq_nil_of_length_eq_zero hl0) hne
    · rw [if_neg hl0, if_pos hmax] at h
      simp only [Option.some.injEq] at h
      subst h
      rw [mergeSort_sortZ] at htake
      simp only [List.length_append, List.length_cons, List.length_nil] at hL
      have hfree : ∀ d, w.heap.size ≤ d → K d = none := fun d hd => by
        cases hk : K d with
        | none => rfl
        | some o => have := (Array.getElem?_eq_some_iff.1 (hS.sim.kept d o hk)).1; omega
      -- the new row is left alone, and taken over
      have hk1 : Sim (fun d => if d = c then some (.cells arr2 T2) else K d) B ν H w' := by
        refine ⟨hSb.base, fun d o hd => ?_, fun b k m h1 h2 h3 h4 => ?_, hSb.inj, fun b k m h1 h2 h3 => ?_⟩
        · split at hd
          · rename_i e; subst e; simp only [Option.some.injEq] at hd; subst hd; exact hw2
          · exact hSb.kept d o hd
        · have hlt := hS.sim.there h1 h2 h4
          obtain ⟨a1, a2, a3, a4, a5, a6, a7⟩ := hSb.blk b k m h1 h2 h3 h4
          exact ⟨a1, a2, a3, a4, a5, fun e => by obtain ⟨c1, c2, c3, c4, c5, c6⟩ := a6 e; exact ⟨c1, c2, c3, c4, c5, by rw [if_neg (by omega)]; exact c6⟩, a7⟩
        · have hlt := hS.sim.there h1 (by rw [h2]; decide) h3
          obtain ⟨ob, a1, a2, a3, a4⟩ := hSb.mp b k m h1 h2 h3
          exact ⟨ob, a1, a2, a3, by rw [if_neg (by omega)]; exact a4⟩
      have hmono : ∀ b m, ν b = some m → (ν.set H.length ⟨c, 0, 1, arr2.size⟩) b = some m := by
        intro b m hm
        have hbn : b ≠ H.length := fun e => by rw [e, hS.dom _ (Nat.le_refl _) (by omega)] at hm; cases hm
        rw [Mu.set_ne _ _ hbn]; exact hm
      have hk2 := hk1.congr (ν := ν.set H.length ⟨c, 0, 1, arr2.size⟩) (fun b hb => Mu.set_ne _ _ (by omega)) hmono
      have hsl := sortZ_len l
      have hk3 := hk2.adopt (c := c) (arr := arr2) (T := T2) (k := ⟨(sortZ l).map .i, .rw, 1⟩) (s := 0) (by simp) (Nat.le_trans hS.sim.base.size hcw) rfl ⟨fun _ => rfl, by simp [hsl]; omega⟩ (Mu.set_self _ _ _) (fun i y hi => by
        dsimp only at hi
        rw [List.getElem?_map, Option.map_eq_some_iff] at hi
        obtain ⟨z, hz', rfl⟩ := hi
        have hil : i < l.length := by have := (List.getElem?_eq_some_iff.1 hz').1; omega
        have h1 : (arr2.toList.take l.length)[i]? = some (.int .i64 z) := by rw [htake]; simp [hz']
        rw [List.getElem?_take, if_pos hil, Array.getElem?_toList] at h1
        exact ⟨_, by rw [Nat.zero_add]; exact h1, by simp [V]⟩)
      refine ⟨_, ν.set H.length ⟨c, 0, 1, arr2.size⟩, rfl, ⟨hk3.less fun d o hd => ?_, fun b' hb' hl' => ?_⟩, ?_, ⟨by simp, fun b' hb' => Mu.set_ne _ _ (by omega), fun b' hb' => Mu.set_ne _ _ (by omega)⟩⟩
      · have : d ≠ c := fun e => by rw [e, hfree c hcw] at hd; cases hd
        dsimp only
        rw [if_neg this, if_neg this]; exact hd
      · simp at hb'
        rw [Mu.set_ne _ _ (by omega)]; exact hS.dom b' (by omega) hl'
      · simp only [V]
        exact ⟨_, cap, 0, Mu.set_self _ _ _, rfl, rfl, hcap, by simpa using hcap, .inr rfl, by dsimp only; omega⟩
end
end Go.Cs

/- Functions: what the clean machine comes to, the model comes to. -/
namespace Go.Cs
open Go Go.RowKit
section
variable {P : Program} {F : CallF} {K K0 : Nat → Option Obj} {B : Bs} {L N : Nat} {rd : Option Nat} {dp : Nat} {D D0 : List Deferred} {top : Bool}

/-- What a result variable reads as. -/
def resSem (tmps : Array Value) : ResultVar → Sem Value
  | .tmp t => pure (tmps.getD t undef)
  | .cell a t => do loadVar t (← asAddr (tmps.getD a undef))

/-- A block that both leave alone is used no more. -/
theorem Sim.unkeep {μ : Mu} {H : CHeap} {w : World} (h : Sim K B μ H w) {c : Nat} {o : Obj} (hc : K c = some o) (hB : B.heap.size ≤ c) (x : Obj) : Sim (fun d => if d = c then none else K d) B μ H (w.putObj c x) := by
  have oth : ∀ {d : Nat}, d ≠ c → (w.heap.setIfInBounds c x)[d]? = w.heap[d]? := fun hd => by simp [Ne.symm hd]
  refine ⟨h.base.trans ⟨rfl, rfl, rfl, by simp [World.putObj], fun q hq => oth (by omega)⟩, fun d y hy => ?_, fun b blk m h1 h2 h3 h4 => ?_, h.inj, fun b blk m h1 h2 h3 => ?_⟩
  · split at hy
    · cases hy
    · rename_i hd; exact (oth hd).trans (h.kept d y hy)
  · have hne := h.kept_ne hc hB h1 h2 h4
    obtain ⟨arr, T, fz, e1, e2, e3, e4⟩ := h.blk b blk m h1 h2 h3 h4
    exact ⟨arr, T, fz, (oth hne).trans e1, e2, fun e => by obtain ⟨c1, c2, c3, c4, c5, c6⟩ := e3 e; exact ⟨c1, c2, c3, c4, c5, by rw [if_neg hne]; exact c6⟩, e4⟩
  · have hne := h.kept_ne hc hB h1 (by rw [h2]; decide) h3
    obtain ⟨ob, e1, e2, e3, e4⟩ := h.mp b blk m h1 h2 h3
    exact ⟨ob, (oth hne).trans e1, e2, e3, by rw [if_neg hne]; exact e4⟩

theorem marks_leave {fn : Func} {tmps : Array Value} {R : Ending → World → Prop} {n : Nat} {ν : Mu} {H : CHeap} : ∀ (rs : List Nat) (K' : Nat → Option Obj) (w : World), rs.Nodup → (∀ r ∈ rs, K' r = some (.deferred (some [])) ∧ K r = none ∧ B.heap.size ≤ r) → KLe K K' → St K' B L ν H w →
    (∀ w', St K B L ν H w' → ∃ v, (Go.results fn tmps).run P w' = .ok v w' ∧ R (.returned v) w') → LeavesInM Fence.wide n P fn tmps R (rs.map fun r => { target := .collected r, args := #[] }) .returning w
  | [], K', w, _, _, hK, hS, hR => hR w ⟨hS.sim.less hK, hS.dom⟩
  | r :: rs, K', w, hn, hrs, hK, hS, hR => by
    obtain ⟨h1, h2, h3⟩ := hrs r List.mem_cons_self
    refine ⟨by simp, .inl ⟨r, _, rfl, run_takeDeferred (hS.sim.kept r _ h1), ?_⟩⟩
    refine marks_leave rs (fun d => if d = r then none else K' d) _ (List.nodup_cons.1 hn).2 (fun r' hr' => ?_) (fun c o hc => ?_) ⟨hS.sim.unkeep h1 h3 _, hS.dom⟩ hR
    · have hne : r' ≠ r := fun e => (List.nodup_cons.1 hn).1 (e ▸ hr')
      obtain ⟨g1, g2, g3⟩ := hrs r' (List.mem_cons_of_mem _ hr')
      exact ⟨by rw [if_neg hne]; exact g1, g2, g3⟩
    · have hne : c ≠ r := fun e => by rw [e, h2] at hc; cases hc
      exact (if_neg hne).trans (hK c o hc)


theorem ER.entry {ν : Mu} {args : List CV} {tmps : Array Value} (hl : args.length ≤ N) (hs : N ≤ tmps.size) (hv : ∀ t, V ν (args.getD t .undef) (tmps.getD t undef)) : ER [] ν N (entry args) { tmps, defers := [] } :=
  ⟨rfl, hs, hv, fun t ht => by unfold Cs.entry; rw [List.getD_eq_getElem?_getD, List.getElem?_eq_none (by omega)]; rfl⟩

theorem roundAt_inv {z f0 : Nat} {fn : Func} {x : Array Tmp × Code × Code} (h : roundAt P z = some (f0, fn, x)) : P.funcs[f0]? = some fn ∧ f0 = z / 2 / 16 := by
  unfold roundAt at h
  rw [Option.bind_eq_some_iff] at h
  obtain ⟨g, hg, h⟩ := h
  rw [Option.bind_eq_some_iff] at h
  obtain ⟨c, hc, h⟩ := h
  rw [Option.map_eq_some_iff] at h
  obtain ⟨y, hy, h⟩ := h
  simp only [Prod.mk.injEq] at h
  obtain ⟨rfl, rfl, rfl⟩ := h
  exact ⟨hg, rfl⟩

theorem resAll_run' {ν : Mu} {E : Env} {H : CHeap} {w : World} {tmps : Array Value} (hS : St K B L ν H w) {live : List Nat} (hV : ∀ t ∈ live, V ν (E t) (tmps.getD t undef)) {l : List ResultVar} {rs : List CRes} {vs : List CV} (h : allSome (l.map (compRes P)) = some rs) (hl : ∀ r ∈ rs, r.tmp' ∈ live) (hr : resAll E H rs = some vs) :
    ∃ us, (l.mapM (resSem tmps)).run P w = .ok us w ∧ VL ν vs us := by
  induction l generalizing rs vs with
  | nil =>
    simp only [List.map_nil, allSome, Option.some.injEq] at h; subst h
    simp only [resAll, Option.some.injEq] at hr; subst hr
    exact ⟨[], by simp, by simp [VL]⟩
  | cons x l ih =>
    simp only [List.map_cons] at h
    cases hx : compRes P x with
    | none => rw [hx] at h; cases h
    | some y =>
      rw [hx] at h
      simp only [allSome, Option.map_eq_some_iff] at h
      obtain ⟨ys, hys, rfl⟩ := h
      simp only [resAll, Option.bind_eq_some_iff, Option.map_eq_some_iff] at hr
      obtain ⟨v, hv, us', hus', rfl⟩ := hr
      obtain ⟨us, hrun, hVL⟩ := ih hys (fun r hr => hl r (List.mem_cons_of_mem _ hr)) hus'
      have hy := hl y List.mem_cons_self
      rw [List.mapM_cons]
      cases x with
      | tmp t =>
        simp only [compRes, Option.some.injEq] at hx; subst hx
        simp only [resOf, Option.some.injEq] at hv; subst hv
        refine ⟨tmps.getD t undef :: us, by simp only [resSem, Sem.run_bind, Sem.run_pure, Result.andThen_ok, hrun], ?_⟩
        simp only [VL]
        exact ⟨_, _, rfl, hV t hy, hVL⟩
      | cell ad t =>
        simp only [compRes, Option.bind_eq_some_iff, Option.map_eq_some_iff] at hx
        obtain ⟨g, hg, n, hn, rfl⟩ := hx
        simp only [resOf] at hv
        split at hv
        · rename_i b o hb
          have h1 := hV ad hy
          rw [hb] at h1
          simp only [V] at h1
          obtain ⟨m, hm, he⟩ := h1
          obtain ⟨v', hr', hV'⟩ := load_run (P := P) hS.sim hg hn hv hm
          refine ⟨v' :: us, ?_, ?_⟩
          · have h2 : (resSem tmps (.cell ad t)).run P w = .ok v' w := by simp only [resSem, he, asAddr, Sem.run_bind, Sem.run_pure, Result.andThen_ok, hr']
            simp only [Sem.run_bind, Sem.run_pure, Result.andThen_ok, h2, hrun]
          · simp only [VL]; exact ⟨_, _, rfl, hV', hVL⟩
        · cases hv

/-- A function's results are read, and it is left. -/
theorem leave_sim {fn : Func} {cc : CCode} {rs : List CRes} (hrs : allSome (fn.results.toList.map (compRes P)) = some rs) {live : List Nat} (hl : ∀ r ∈ rs, r.tmp' ∈ live) {ν ν' : Mu} {H H' : CHeap} {E' : Env} {ms : List Nat} {K' : Nat → Option Obj} {w' : World} {a : Act} (hnd : ms.Nodup) (hms : ∀ r ∈ ms, K' r = some (.deferred (some [])) ∧ K r = none ∧ B.heap.size ≤ r) (hK' : KLe K K') (hS' : St K' B L ν' H' w')
    (hV : ∀ t ∈ live, V ν' (E' t) (a.tmps.getD t undef)) (hd : a.defers = ms.map (fun r => { target := .collected r, args := #[] })) (hE' : Ext L H ν H' ν') {r : CV × CHeap} (hr : (Cs.results ⟨fn.ntmps, 0, cc, rs⟩ E' H').map (fun v => (v, H')) = some r) :
    LeavesInM Fence.wide 0 P fn a.tmps (fun e w' => ∃ v' ν'', e = .returned v' ∧ St K B L ν'' r.2 w' ∧ V ν'' r.1 v' ∧ Ext L H ν r.2 ν'') a.defers .returning w' := by
  rw [Option.map_eq_some_iff] at hr
  obtain ⟨v, hv, rfl⟩ := hr
  unfold Cs.results at hv
  rw [Option.map_eq_some_iff] at hv
  obtain ⟨vs, hvs, rfl⟩ := hv
  rw [hd]
  refine marks_leave (K := K) (B := B) (L := L) (ν := ν') (H := H') ms K' w' hnd hms hK' hS' fun w2 hS2 => ?_
  obtain ⟨us, hrun, hVL⟩ := resAll_run' (P := P) hS2 hV hrs hl hvs
  have hrun' : (Go.results fn a.tmps).run P w2 = .ok (if h : us.toArray.size = 1 then us.toArray[0] else .tuple us.toArray) w2 := by
    show (Array.mapM (resSem a.tmps) fn.results >>= fun vs => pure (if h : vs.size = 1 then vs[0] else .tuple vs) : Sem Value).run P w2 = _
    rw [Array.mapM_eq_mapM_toList]
    simp only [Sem.run_bind, Sem.run_map, hrun, Result.andThen_ok, Sem.run_pure]
  refine ⟨_, hrun', _, ν', rfl, hS2, ?_, hE'⟩
  match vs, us, hVL with
  | [], us, hVL => simp only [VL] at hVL; subst hVL; simp [V, VL]
  | [v], us, hVL =>
    simp only [VL] at hVL
    obtain ⟨u, rest, rfl, hV, rfl⟩ := hVL
    simpa using hV
  | v1 :: v2 :: vs, us, hVL =>
    have hl := hVL.length
    have h1 : ¬ (us.toArray.size = 1) := by simp at hl ⊢; omega
    rw [dif_neg h1]
    simp only [V]
    exact ⟨_, rfl, by simpa using hVL⟩

theorem nm_ne {fn : Func} {p : String} {n : Nat} (h : isNm fn.name p n = true) (hd : (p.toList == "runtime.NumGoroutine".toList.take p.toList.length) = false := by decide +kernel) : fn.name ≠ "runtime.NumGoroutine" := by
  intro e
  unfold isNm at h
  rw [e] at h
  simp only [Bool.and_eq_true, beq_iff_eq] at h
  rw [← h.1] at hd
  simp at hd

theorem prim_sim (hp : PrimsOk P) {f : Nat} {fn : Func} (hfn : P.funcs[f]? = some fn) {cf : CFunc} (hcf : primOf P fn = some cf) {n : Nat} {args : List CV} {H : CHeap} {q : CX × Env × CHeap} {r : CV × CHeap} (hal : args.length ≤ cf.n) (hq : ev (cprog P) n cf.body (entry args) H = some q) (hleave : leave cf q = some r) :
    (∃ fn, P.funcs[f]? = some fn ∧ fn.name ≠ "runtime.NumGoroutine" ∧ fn.body.isSome = true) ∧
    ∀ K B L ν w (args' : Array Value), BOk P B → r.2.length ≤ L → St K B L ν H w → VL ν args args'.toList → Calls P f args' w fun e w' => ∃ v' ν', e = .returned v' ∧ St K B L ν' r.2 w' ∧ V ν' r.1 v' ∧ Ext L H ν r.2 ν' := by
  obtain ⟨hp1, hp2⟩ := hp f fn hfn
  unfold primOf at hcf
  cases n with
  | zero => cases hq
  | succ n =>
  have key : ∀ {x : COp} {d : Option Nat} {rs : List CRes}, cf = ⟨1, 0, .region [⟨d, none, x⟩], rs⟩ → ∃ v, opc (callN (cprog P) n) x (entry args) H = some v ∧ q = (.normal, (entry args).put d v.1, v.2) := by
    intro x d rs e
    subst e
    rw [ev_succ] at hq
    dsimp only at hq
    rw [Option.map_eq_some_iff] at hq
    obtain ⟨y, hy, rfl⟩ := hq
    simp only [evOps, evStmt, wanted, if_true, Option.bind_eq_some_iff, Option.map_eq_some_iff] at hy
    obtain ⟨z, ⟨v, hv, rfl⟩, hy⟩ := hy
    simp only [Option.some.injEq] at hy
    subst hy
    exact ⟨v, hv, rfl⟩
  split at hcf
  · rename_i hn
    simp only [Option.some.injEq] at hcf
    obtain ⟨v, hv, rfl⟩ := key hcf.symm
    subst hcf
    refine ⟨⟨fn, hfn, nm_ne hn.1, hn.2⟩, fun K B L ν w args' _ hL hS hva => ?_⟩
    have hr : r = (.tup [], v.2) := by
      simp only [leave, Cs.results, resAll, Option.map_some] at hleave
      simpa using hleave.symm
    subst hr
    match args, args', hva with
    | [], args', hva => simp only [opc, opv, Env.ev, entry] at hv; simp at hv
    | [x], args', hva =>
      have hl := hva.length
      simp only [VL] at hva
      obtain ⟨u, rest, h1, h2, rfl⟩ := hva
      have : args' = #[u] := by rw [← Array.toArray_toList (xs := args'), h1]
      subst this
      obtain ⟨h3, h4⟩ := sort_sim (hp1 hn.1) (x := x) (E := entry [x]) rfl hv hS h2
      exact h4
    | x :: y :: l, args', hva =>
      simp only [List.length_cons] at hal
      omega
  · split at hcf
    · rename_i hn
      rw [Option.map_eq_some_iff] at hcf
      obtain ⟨g, hg, hcf⟩ := hcf
      obtain ⟨v, hv, rfl⟩ := key hcf.symm
      subst hcf
      refine ⟨⟨fn, hfn, nm_ne hn.1, hn.2⟩, fun K B L ν w args' _ hL hS hva => ?_⟩
      have hr : r = v := by
        simp only [leave, Cs.results, resAll, resOf, Option.map_some, Option.bind_some, Env.put, Env.upd] at hleave
        simpa using hleave.symm
      subst hr
      match args, args', hva with
      | [], args', hva => simp only [opc, opv, Env.ev, entry] at hv; simp at hv
      | [x], args', hva =>
        have hl := hva.length
        simp only [VL] at hva
        obtain ⟨u, rest, h1, h2, rfl⟩ := hva
        have : args' = #[u] := by rw [← Array.toArray_toList (xs := args'), h1]
        subst this
        exact keys_sim (hp2 hn.1 g hg) (x := x) (E := entry [x]) rfl hv hL hS h2
      | x :: y :: l, args', hva =>
        simp only [List.length_cons] at hal
        omega
    · cases hcf

theorem call_sim (hm : P.follows .mixedOrders = true) (hp : PrimsOk P) : ∀ n, SimF P (callN (cprog P) n) := by
  intro n
  induction n using Nat.strongRecOn with
  | _ n ih =>
    intro f args H r h
    refine ⟨callN_len _ n _ _ _ _ h, fun hfb => ?_, fun z N fn ps a c hrnd => ?_⟩
    · unfold callN at h
      rw [Option.bind_eq_some_iff] at h
      obtain ⟨cf, hcf, h⟩ := h
      split at h
      case isFalse => cases h
      rename_i hal
      rw [Option.bind_eq_some_iff] at h
      obtain ⟨q, hq, hleave⟩ := h
      unfold cprog at hcf
      rw [if_pos hfb, Option.bind_eq_some_iff] at hcf
      obtain ⟨fn, hfn, hcf⟩ := hcf
      split at hcf
      · rename_i cf' hprim
        simp only [Option.some.injEq] at hcf
        subst hcf
        exact prim_sim hp hfn hprim hal hq hleave
      unfold compFunc at hcf
      obtain ⟨hname, hcf⟩ := guardB_some hcf
      rw [Option.bind_eq_some_iff] at hcf
      obtain ⟨c, hbody, hcf⟩ := hcf
      rw [Option.bind_eq_some_iff] at hcf
      obtain ⟨rs, hrs, hcf⟩ := hcf
      have hlenr : q.2.2 = r.2 := (leave_len hleave).symm
      refine ⟨⟨fn, hfn, by simpa using hname, by simp [hbody]⟩, fun K B L ν w args' hBr hL hS hv => callsIn_wide (n := 0) |>.1 ?_⟩
      refine callsIn_of_wp_marks hfn hbody trivial ?_
      have hlen : args'.size = args.length := by have := hv.length; simpa using this
      have hn : cf.n = fn.ntmps ∧ cf.round = 0 ∧ cf.res = rs := by
        split at hcf
        · simp only [Option.some.injEq] at hcf; subst hcf; exact ⟨rfl, rfl, rfl⟩
        · rw [Option.map_eq_some_iff] at hcf; obtain ⟨b, _, rfl⟩ := hcf; exact ⟨rfl, rfl, rfl⟩
      have hR : ER [] ν fn.ntmps (entry args) { tmps := args' ++ Array.replicate (fn.ntmps - args'.size) undef, defers := [] } := by
        refine ER.entry (by rw [← hn.1]; exact hal) (by simp; omega) fun t => ?_
        rcases Nat.lt_or_ge t args.length with ht | ht
        · have hx : args[t]? = some (args[t]'ht) := List.getElem?_eq_getElem ht
          obtain ⟨u, hu, hV⟩ := hv.get hx
          have hu' : args'[t]? = some u := by simpa using hu
          rw [List.getD_eq_getElem?_getD, hx, Array.getD_eq_getD_getElem?, Array.getElem?_append_left (by omega), hu']
          exact hV
        · rw [List.getD_eq_getElem?_getD, List.getElem?_eq_none ht, Array.getD_eq_getD_getElem?, Array.getElem?_append_right (by omega), Array.getElem?_replicate]
          have : V ν CV.undef undef := by simp [V, VL, undef]
          split <;> exact this
      have hlive : ∀ r ∈ rs, r.tmp' ∈ rs.map CRes.tmp' := fun r hr => List.mem_map_of_mem hr
      split at hcf
      · rename_i cc hcc
        simp only [Option.some.injEq] at hcf
        subst hcf
        have hrn : RndAt P f fn.ntmps c 0 := fun i x hi hk => ⟨fn, by
          unfold roundAt
          rw [show (f * 16 + (0 + i)) * 2 / 2 / 16 = f from by omega, show (f * 16 + (0 + i)) * 2 / 2 % 16 = i from by omega, hfn, Option.bind_some, hbody, Option.bind_some, hi]
          rfl, rfl⟩
        refine wpIn_mono (code_sim (rd := none) (K0 := K) (D0 := []) (N := fn.ntmps) hm hBr (f := f) (top := true) (fun _ => rfl) n ih c 0 cc (entry args) H q hcc (fun _ => hrn) hq (by rw [hlenr]; exact hL) K [] ν _ w (KLe.refl K) (Marks.nil K B) (fun h => by cases h) hS hR) fun x a w' hx => ?_
        obtain ⟨ν', K', D', hxr, hS', hR', hE', hK', ⟨ms, rfl, hnd, hms⟩, -⟩ := hx
        obtain ⟨cx, E', H'⟩ := q
        have fin := fun hr => leave_sim (cc := cc) hrs hlive hnd hms hK' hS' (fun t _ => hR'.val t) hR'.defers hE' (r := r) hr
        cases cx with
        | normal => simp only [XR] at hxr; subst hxr; exact fin hleave
        | ret => simp only [XR] at hxr; subst hxr; exact fin hleave
        | exit id => cases hleave
      · rename_i hcc
        rw [Option.map_eq_some_iff] at hcf
        obtain ⟨cc, hcc, rfl⟩ := hcf
        refine wpIn_mono (body_sim (N := fn.ntmps) hm hBr (f := f) (live := rs.map CRes.tmp') c n ih cc (entry args) H q hcc hq (by rw [hlenr]; exact hL) ν _ w hS hR) fun x a w' hx => ?_
        obtain ⟨ν', hxr, hS', ⟨hd', hV'⟩, hE'⟩ := hx
        obtain ⟨cx, E', H'⟩ := q
        have fin := fun hr => leave_sim (cc := cc) hrs hlive (ms := []) List.nodup_nil (fun _ h => by cases h) (KLe.refl K) hS' hV' hd' hE' (r := r) hr
        cases cx with
        | normal => simp only [XR] at hxr; subst hxr; exact fin hleave
        | ret => simp only [XR] at hxr; subst hxr; exact fin hleave
        | exit id => cases hleave
    · obtain ⟨hz2, hps, f0, fn0, hat, rfl⟩ := hrnd
      obtain ⟨hfn0, hf0⟩ := roundAt_inv hat
      constructor
      · rintro rfl
        unfold callN at h
        rw [Option.bind_eq_some_iff] at h
        obtain ⟨cf, hcf, h⟩ := h
        split at h
        case isFalse => cases h
        rename_i hal
        rw [Option.bind_eq_some_iff] at h
        obtain ⟨q, hq, hleave⟩ := h
        unfold cprog at hcf
        rw [if_neg (by omega), Nat.add_sub_cancel_left] at hcf
        unfold compRound at hcf
        rw [hat, Option.bind_some, if_pos hz2, Option.map_eq_some_iff] at hcf
        obtain ⟨cc, hcc, rfl⟩ := hcf
        simp only at hal hq hcc
        obtain ⟨cx, E', H'⟩ := q
        unfold leave at hleave
        simp only at hleave
        rw [if_neg (by decide), if_pos trivial] at hleave
        split at hleave
        case h_2 => cases hleave
        simp only [Option.some.injEq] at hleave
        subst hleave
        refine ⟨_, rfl, by simp, fun K B L ν w tmps l dp hBr hL hS hv hs => ?_⟩
        refine wpIn_mono (code_sim (rd := some l) (K0 := K) (D0 := []) hm hBr (f := f0) (top := false) (fun h => by cases h) n ih a 0 cc (entry args) H _ hcc (fun h => by cases h) hq hL K [] ν _ w (KLe.refl K) (Marks.nil K B) (fun _ => rfl) hS (ER.entry hal hs hv)) fun x a1 w1 hx => ?_
        obtain ⟨ν', K', D', hxr, hS', hR', hE', hK', -, hD'⟩ := hx
        have := hD' rfl
        subst this
        refine ⟨ν', hxr, hR'.defers, hR'.size, fun t => ?_, ⟨hS'.sim.less hK', hS'.dom⟩, hE'⟩
        rw [List.getD_eq_getElem?_getD]
        rcases Nat.lt_or_ge t fn0.ntmps with ht | ht
        · rw [List.getElem?_map, List.getElem?_range ht]; exact hR'.val t
        · rw [List.getElem?_eq_none (by simpa using ht)]
          have := hR'.val t
          rw [hR'.top t ht] at this
          exact this
      · rintro rfl
        unfold callN at h
        rw [Option.bind_eq_some_iff] at h
        obtain ⟨cf, hcf, h⟩ := h
        split at h
        case isFalse => cases h
        rename_i hal
        rw [Option.bind_eq_some_iff] at h
        obtain ⟨q, hq, hleave⟩ := h
        have hat1 : roundAt P (z + 1) = some (f0, fn0, ps, a, c) := by
          rw [← hat]
          unfold roundAt
          rw [show (z + 1) / 2 = z / 2 from by omega]
        unfold cprog at hcf
        rw [if_neg (by omega), Nat.add_assoc, Nat.add_sub_cancel_left] at hcf
        unfold compRound at hcf
        rw [hat1, Option.bind_some, if_neg (by omega), Option.map_eq_some_iff] at hcf
        obtain ⟨cc, hcc, rfl⟩ := hcf
        simp only at hal hq hcc
        obtain ⟨cx, E', H'⟩ := q
        unfold leave at hleave
        simp only at hleave
        rw [if_pos trivial, Option.some.injEq] at hleave
        subst hleave
        intro K B L ν w tmps l dp hBr hL hS hv hs
        refine wpIn_mono (code_sim (rd := some l) (K0 := K) (D0 := []) hm hBr (f := f0) (top := false) (fun h => by cases h) n ih c 0 cc (entry args) H _ hcc (fun h => by cases h) hq hL K [] ν _ w (KLe.refl K) (Marks.nil K B) (fun _ => rfl) hS (ER.entry hal hs hv)) fun x a1 w1 hx => ?_
        obtain ⟨ν', K', D', hxr, hS', hR', hE', hK', -, -⟩ := hx
        refine ⟨ν', ?_, ⟨hS'.sim.less hK', hS'.dom⟩, hE'⟩
        cases cx with
        | normal => exact .inl ⟨rfl, hxr⟩
        | ret => exact .inr (.inl ⟨rfl, hxr⟩)
        | exit id => exact .inr (.inr ⟨id, rfl, hxr⟩)
end
end Go.Cs

/- From a run of the clean machine to the call in the model. -/
namespace Go.Cs
open Go Go.RowKit

theorem bridge {P : Program} {W : World} (hm : P.follows .mixedOrders = true) (hp : PrimsOk P) (hG : GlobOk P W) {f : Nat} (hfb : f < RB) {args : List CV} {args' : Array Value} {H0 H1 : CHeap} {μ : Mu} {v : CV}
    (h0 : ∀ b blk m, H0[b]? = some blk → blk.mode ≠ .dead → μ b = some m → blk.mode = .ro ∧ m.c < W.heap.size ∧ ∃ arr T fz, W.heap[m.c]? = some (.cells arr T fz) ∧ ∀ (i : Nat) (c : CV), blk.cells[i]? = some c → ∃ v, arr[m.s + i]? = some v ∧ V μ c v)
    (hμ : ∀ b, H0.length ≤ b → μ b = none) (hrun : run (cprog P) f args H0 = some (v, H1)) (hv : VL μ args args'.toList) :
    Calls P f args' W fun e w' => (∃ ν v', e = .returned v' ∧ V ν v v') ∧ Below W.heap.size W w' := by
  obtain ⟨n, hn⟩ := run_some.1 hrun
  obtain ⟨_, h⟩ := (call_sim hm hp n f args H0 (v, H1) hn).2.1 hfb
  have sim : Sim (fun _ => none) ⟨W, RndOf P, fun _ _ => False⟩ μ H0 W := by
    refine ⟨Below.refl _ _, (fun c o h => by cases h), fun b blk m hb hd _ hm => ?_, fun b1 b2 k1 k2 m1 m2 h1 h2 r1 r2 _ e1 e2 => ?_, fun b blk m hb hd hm => ?_⟩
    · obtain ⟨q1, q2, arr, T, fz, q3, q4⟩ := h0 b blk m hb hd hm
      exact ⟨arr, T, fz, q3, q4, (fun e => by rw [q1] at e; cases e), fun _ => q2⟩
    · have := (h0 b1 k1 m1 h1 (by rcases r1 with r1 | r1 <;> (rw [r1]; decide)) e1).1
      rcases r1 with r1 | r1 <;> (rw [r1] at this; cases this)
    · have := (h0 b blk m hb (by rw [hd]; decide) hm).1
      rw [hd] at this; cases this
  refine (h (fun _ => none) ⟨W, RndOf P, fun _ _ => False⟩ H1.length μ W args' ⟨rfl, hG⟩ (Nat.le_refl _) ⟨sim, fun b hb _ => hμ b hb⟩ hv).mono fun e w' he => ?_
  obtain ⟨v', ν', rfl, hS, hV, _⟩ := he
  exact ⟨⟨ν', v', rfl, hV⟩, hS.sim.base⟩
end Go.Cs

/- Reasoning about the clean machine: its denotation as equations that a simplifier can walk. -/
namespace Go.Cs
open Go

section
variable {α : Type} {p : CProg} {F : CallF} {E : Env} {H : CHeap}

/-! ### Sequencing -/

/-- What stands behind such a word a simplifier leaves alone: later arguments hang on it. -/
structure Keep {β : Type} (b : β) : Type where

def sq (o : Option (CX × Env × CHeap)) (k : Env → CHeap → Option (CX × Env × CHeap)) (_ : Keep k) : Option (CX × Env × CHeap) :=
  o.bind fun r => match r.1 with | .normal => k r.2.1 r.2.2 | _ => some r

def opk (o : Option (CV × CHeap)) (k : CV → CHeap → Option α) (_ : Keep k) : Option α := o.bind fun q => k q.1 q.2

/-- Whether a guarded operation is carried out. -/
def gk (v : CV) (b : Bool) (x y : α) (_ : Keep (x, y)) : α := match v with | .bool c => if c = b then x else y | _ => y

/-- A test. -/
def ck (v : CV) (x y : Option α) (_ : Keep (x, y)) : Option α := match v with | .bool t => if t then x else y | _ => none

def seqOps (F : CallF) (l : List CStmt) (E : Env) (H : CHeap) (k : Env → CHeap → Option α) (_ : Keep (l, k)) : Option α := (evOps F l E H).bind fun q => k q.1 q.2

theorem seqOps_nil {k : Env → CHeap → Option α} {h : Keep (([] : List CStmt), k)} : seqOps F [] E H k h = k E H := rfl

theorem seqOps_cons {d : Option Nat} {op : COp} {r : List CStmt} {k : Env → CHeap → Option α} {h : Keep ((⟨d, none, op⟩ :: r : List CStmt), k)} : seqOps F (⟨d, none, op⟩ :: r) E H k h = opk (opc F op E H) (fun v H' => seqOps F r (E.put d v) H' k ⟨⟩) ⟨⟩ := by
  show (evOps F (⟨d, none, op⟩ :: r) E H).bind _ = _
  unfold evOps evStmt wanted opk
  simp only [if_true]
  cases opc F op E H <;> rfl

theorem seqOps_guard {d : Option Nat} {op : COp} {t : Nat} {b : Bool} {r : List CStmt} {k : Env → CHeap → Option α} {h : Keep ((⟨d, some (t, b), op⟩ :: r : List CStmt), k)} :
    seqOps F (⟨d, some (t, b), op⟩ :: r) E H k h = gk (E t) b (opk (opc F op E H) (fun v H' => seqOps F r (E.put d v) H' k ⟨⟩) ⟨⟩) (seqOps F r (E.put d .undef) H k ⟨⟩) ⟨⟩ := by
  show (evOps F (⟨d, some (t, b), op⟩ :: r) E H).bind _ = _
  unfold evOps evStmt wanted gk opk
  cases hE : E t <;> simp only [hE, Bool.false_eq_true, if_false, Option.bind_some] <;> try rfl
  rename_i c
  by_cases hc : c = b
  · simp only [hc, beq_self_eq_true, if_true]
    cases opc F op E H <;> rfl
  · have : (c == b) = false := by simpa using hc
    simp only [this, Bool.false_eq_true, if_false, hc, Option.bind_some]
    rfl

/-- Regions that draw their order. -/
noncomputable def seqD (F : CallF) (l : List DStmt) (E : Env) (H : CHeap) (hs : List CHeap) (k : Env → CHeap → Option α) (_ : Keep (l, k)) : Option α := (evD F l E H hs).bind fun q => k q.1 q.2

theorem evD_cons {d : DStmt} {r : List DStmt} {hs : List CHeap} : evD F (d :: r) E H hs = (open Classical in
    if wanted d.s.guard E = false then evD F r (E.put d.s.dst .undef) H (if d.kind = 3 then H :: hs else hs)
    else if d.kind = 3 then (opc F d.s.op E H).bind fun p => evD F r (E.put d.s.dst p.1) p.2 (H :: hs)
    else (mkOf d.s.op E H).bind fun m =>
      if d.kind = 1 → ∀ H' ∈ hs.take (hs.length - d.low), mkOf d.s.op E H' = some m then
        evD F r (E.put d.s.dst (made H m).1) (made H m).2 hs else none) := by rw [evD]

theorem seqD_nil {hs : List CHeap} {k : Env → CHeap → Option α} {h : Keep (([] : List DStmt), k)} : seqD F [] E H hs k h = k E H := rfl

/-- A condition that is to be shown. -/
noncomputable def must (c : Prop) (x : Option α) (_ : Keep x) : Option α := open Classical in if c then x else none

theorem must_true {x : Option α} {h : Keep x} : must True x h = x := by unfold must; exact if_pos trivial
theorem must_of {c : Prop} {x : Option α} {k : Keep x} (h : c) : must c x k = x := by unfold must; exact if_pos h

/-- The steady operations of such a region. -/
def mk1 (o : Option (Option Blk × (Nat → CV))) (k : (Option Blk × (Nat → CV)) → Option α) (_ : Keep k) : Option α := o.bind k
theorem mk1_some {m : Option Blk × (Nat → CV)} {k : (Option Blk × (Nat → CV)) → Option α} {h : Keep k} : mk1 (some m) k h = k m := rfl

theorem seqD_0 {d : Option Nat} {op : COp} {no low : Nat} {r : List DStmt} {hs : List CHeap} {k : Env → CHeap → Option α} {h : Keep ((⟨⟨d, none, op⟩, no, 0, low⟩ :: r : List DStmt), k)} :
    seqD F (⟨⟨d, none, op⟩, no, 0, low⟩ :: r) E H hs k h = mk1 (mkOf op E H) (fun m => seqD F r (E.put d (made H m).1) (made H m).2 hs k ⟨⟩) ⟨⟩ := by
  unfold seqD mk1
  rw [evD_cons]
  unfold wanted
  dsimp only
  rw [if_neg (by simp), if_neg (by simp)]
  cases mkOf op E H with
  | none => rfl
  | some m => simp only [Option.bind_some]; rw [if_pos (by intro h; simp at h)]

theorem seqD_1 {d : Option Nat} {op : COp} {no low : Nat} {r : List DStmt} {hs : List CHeap} {k : Env → CHeap → Option α} {h : Keep ((⟨⟨d, none, op⟩, no, 1, low⟩ :: r : List DStmt), k)} :
    seqD F (⟨⟨d, none, op⟩, no, 1, low⟩ :: r) E H hs k h = mk1 (mkOf op E H) (fun m => must (∀ H' ∈ hs.take (hs.length - low), mkOf op E H' = some m) (seqD F r (E.put d (made H m).1) (made H m).2 hs k ⟨⟩) ⟨⟩) ⟨⟩ := by
  unfold seqD mk1 must
  rw [evD_cons]
  unfold wanted
  dsimp only
  rw [if_neg (by simp), if_neg (by simp)]
  cases mkOf op E H with
  | none => rfl
  | some m =>
    simp only [Option.bind_some]
    by_cases hc : ∀ H' ∈ hs.take (hs.length - low), mkOf op E H' = some m
    · rw [if_pos (fun _ => hc), if_pos hc]
    · rw [if_neg (fun h => hc (h rfl)), if_neg hc]; rfl

theorem seqD_3 {d : Option Nat} {op : COp} {no low : Nat} {r : List DStmt} {hs : List CHeap} {k : Env → CHeap → Option α} {h : Keep ((⟨⟨d, none, op⟩, no, 3, low⟩ :: r : List DStmt), k)} :
    seqD F (⟨⟨d, none, op⟩, no, 3, low⟩ :: r) E H hs k h = opk (opc F op E H) (fun v H' => seqD F r (E.put d v) H' (H :: hs) k ⟨⟩) ⟨⟩ := by
  unfold seqD opk
  rw [evD_cons]
  unfold wanted
  dsimp only
  rw [if_neg (by simp), if_pos rfl]
  cases opc F op E H <;> rfl

theorem seqD_g {d : Option Nat} {op : COp} {no kind low t : Nat} {b : Bool} {r : List DStmt} {hs : List CHeap} {k : Env → CHeap → Option α} {h : Keep ((⟨⟨d, some (t, b), op⟩, no, kind, low⟩ :: r : List DStmt), k)} :
    seqD F (⟨⟨d, some (t, b), op⟩, no, kind, low⟩ :: r) E H hs k h = gk (E t) b (seqD F (⟨⟨d, none, op⟩, no, kind, low⟩ :: r) E H hs k ⟨⟩) (seqD F r (E.put d .undef) H (if kind = 3 then H :: hs else hs) k ⟨⟩) ⟨⟩ := by
  unfold seqD gk
  cases hE : E t <;> (rw [evD_cons]; simp only [wanted, hE, if_true])
  rename_i c
  by_cases hc : c = b
  · simp only [hc, beq_self_eq_true, if_true, Bool.true_eq_false, if_false]
    rw [evD_cons]
    simp only [wanted, Bool.true_eq_false, if_false]
  · have : (c == b) = false := by simpa using hc
    simp only [this, if_true, hc, if_false]

theorem den_skip : den p .skip E H = some (.normal, E, H) := by rw [den_eq]
theorem den_ret : den p .ret E H = some (.ret, E, H) := by rw [den_eq]
theorem den_exit {id : Nat} : den p (.exit id) E H = some (.exit id, E, H) := by rw [den_eq]
theorem den_region {ops : List CStmt} : den p (.region ops) E H = seqOps (run p) ops E H (fun E H => some (.normal, E, H)) ⟨⟩ := by
  rw [den_eq]
  unfold seqOps
  dsimp only
  cases evOps (run p) ops E H <;> rfl
theorem den_dregion {ops : List DStmt} : den p (.dregion ops) E H = seqD (run p) ops E H [] (fun E H => some (.normal, E, H)) ⟨⟩ := by
  rw [den_eq]
  unfold seqD
  dsimp only
  cases evD (run p) ops E H [] <;> rfl
theorem den_seq {a b : CCode} : den p (.seq a b) E H = sq (den p a E H) (fun E H => den p b E H) ⟨⟩ := by rw [den_eq]; rfl
theorem den_cond {c : Opd} {a b : CCode} : den p (.cond c a b) E H = ck (E.ev c) (den p a E H) (den p b E H) ⟨⟩ := by
  rw [den_eq]
  unfold ck
  dsimp only
  cases E.ev c <;> first | rfl | (rename_i t; cases t <;> rfl)
def blk (id : Nat) (o : Option (CX × Env × CHeap)) : Option (CX × Env × CHeap) := o.map fun r => (r.1.inBlock id, r.2)
theorem den_block {id : Nat} {c : CCode} : den p (.block id c) E H = blk id (den p c E H) := by rw [den_eq]; rfl
theorem blk_normal {id : Nat} : blk id (some (.normal, E, H)) = some (.normal, E, H) := rfl
theorem blk_ret {id : Nat} : blk id (some (.ret, E, H)) = some (.ret, E, H) := rfl
theorem blk_exit {id i : Nat} : blk id (some (.exit i, E, H)) = some (if i = id then .normal else .exit i, E, H) := rfl
section
variable {k : Env → CHeap → Option (CX × Env × CHeap)} {h : Keep k}
theorem sq_normal : sq (some (.normal, E, H)) k h = k E H := rfl
theorem sq_ret : sq (some (.ret, E, H)) k h = some (.ret, E, H) := rfl
theorem sq_exit {i : Nat} : sq (some (.exit i, E, H)) k h = some (.exit i, E, H) := rfl
end
theorem opk_some {v : CV} {k : CV → CHeap → Option α} {h : Keep k} : opk (some (v, H)) k h = k v H := rfl
section
variable {x y : α} {h : Keep (x, y)}
theorem gk_tt : gk (.bool true) true x y h = x := rfl
theorem gk_tf : gk (.bool true) false x y h = y := rfl
theorem gk_ft : gk (.bool false) true x y h = y := rfl
theorem gk_ff : gk (.bool false) false x y h = x := rfl
theorem gk_tup {l : List CV} {b : Bool} : gk (.tup l) b x y h = y := rfl
end
section
variable {x y : Option α} {h : Keep (x, y)}
theorem ck_t : ck (.bool true) x y h = x := rfl
theorem ck_f : ck (.bool false) x y h = y := rfl
end

/-! ### Leaving a function -/

def lv (rs : List CRes) (o : Option (CX × Env × CHeap)) : Option (CV × CHeap) := o.bind fun r => leave ⟨0, 0, .skip, rs⟩ r
theorem run_lv {f n : Nat} {body : CCode} {res : List CRes} (hf : p f = some ⟨n, 0, body, res⟩) (a : List CV) (H : CHeap) (ha : a.length ≤ n) : run p f a H = lv res (den p body (entry a) H) := run_eq hf a ha H

def fin (rs : List CRes) (E : Env) (H : CHeap) : Option (CV × CHeap) := (resAll E H rs).map fun vs => ((match vs with | [v] => v | vs => .tup vs), H)
theorem lv_ret {rs : List CRes} : lv rs (some (.ret, E, H)) = fin rs E H := by
  unfold lv leave results fin
  simp only [Option.bind_some]
  cases resAll E H rs <;> rfl
theorem lv_normal {rs : List CRes} : lv rs (some (.normal, E, H)) = fin rs E H := by
  unfold lv leave results fin
  simp only [Option.bind_some]
  cases resAll E H rs <;> rfl
theorem fin_0 : fin [] E H = some (.tup [], H) := rfl
theorem fin_1 {t : Nat} : fin [.tmp t] E H = some (E t, H) := rfl
theorem fin_2 {t u : Nat} : fin [.tmp t, .tmp u] E H = some (.tup [E t, E u], H) := rfl
def rc (H : CHeap) (agg : Bool) (n : Nat) : CV → Option CV
  | .ptr b o => if agg then (loadN H b o n).map .agg else load1 H b o
  | _ => none
theorem fin_c {t n : Nat} {g : Bool} : fin [.cell t g n] E H = (rc H g n (E t)).map fun v => (v, H) := by
  unfold fin
  simp only [resAll, resOf, rc]
  cases E t <;> simp only [Option.bind_none, Option.map_none]
  split <;> first | (cases load1 _ _ _ <;> rfl) | (cases loadN _ _ _ _ <;> rfl)
theorem fin_ct {t n u : Nat} {g : Bool} : fin [.cell t g n, .tmp u] E H = (rc H g n (E t)).map fun v => (.tup [v, E u], H) := by
  unfold fin
  simp only [resAll, resOf, rc]
  cases E t <;> simp only [Option.bind_none, Option.map_none]
  split <;> first | (cases load1 _ _ _ <;> rfl) | (cases loadN _ _ _ _ <;> rfl)

/-! ### The temporaries -/

theorem put_some {d : Nat} {v : CV} : E.put (some d) v = E.upd d v := rfl
theorem put_none {v : CV} : E.put none v = E := rfl
theorem ev_tmp {t : Nat} : E.ev (.tmp t) = E t := rfl
theorem ev_const {v : CV} : E.ev (.const v) = v := rfl
theorem upd_apply {d t : Nat} {v : CV} : (E.upd d v) t = if t = d then v else E t := rfl
def base : Env := fun _ => .undef
theorem entry_1 {a : CV} : entry [a] = base.upd 0 a := by
  funext t; unfold entry Env.upd base
  match t with | 0 => rfl | t + 1 => simp [List.getD_eq_getElem?_getD]
theorem entry_2 {a b : CV} : entry [a, b] = (base.upd 0 a).upd 1 b := by
  funext t; unfold entry Env.upd base
  match t with | 0 => rfl | 1 => rfl | t + 2 => simp [List.getD_eq_getElem?_getD]
/-! ### Operations over values -/

def vPick (c a b : CV) (H : CHeap) : Option (CV × CHeap) := match c with | .bool t => some (if t then a else b, H) | _ => none
def vLoad (g : Bool) (n : Nat) (H : CHeap) : CV → Option (CV × CHeap)
  | .ptr b o => if g then (loadN H b o n).map fun cs => (.agg cs, H) else (load1 H b o).map fun v => (v, H)
  | _ => none
def vStore (n : Nat) (H : CHeap) (a v : CV) : Option (CV × CHeap) := match a with
  | .ptr b o => if (cellsOf v).length = n then (storeN H b o (cellsOf v)).map fun H' => (.undef, H') else none
  | _ => none
def vNil (H : CHeap) : CV → Option (CV × CHeap)
  | .ptr b o => some (.ptr b o, H)
  | .iface t c => some (.iface t c, H)
  | _ => none
def vBin (op : BinOp) (x y : CV) (H : CHeap) : Option (CV × CHeap) := match x, y with
  | .int k a, .int k' b => if k = k' then (intOp op k a b).map fun v => (v, H) else none
  | _, _ => none
def vEqv (g : Bool) (ty : Nat) (x y : CV) (H : CHeap) : Option (CV × CHeap) := (eqVal ty x y).map fun t => (.bool (if g then !t else t), H)
def vEqs (g : Bool) (n : Nat) (x y : CV) (H : CHeap) : Option (CV × CHeap) := match x, y with
  | .agg xs, .agg ys => if xs.length = n then (eqCells xs ys).map fun t => (.bool (if g then !t else t), H) else none
  | _, _ => none
def vNot (x : CV) (H : CHeap) : Option (CV × CHeap) := match x with | .bool t => some (.bool !t, H) | _ => none
def vMake (esz : Nat) (z : List CV) (l c : CV) (H : CHeap) : Option (CV × CHeap) := match l, c with
  | .int .i64 l, .int .i64 c => if 0 ≤ l ∧ l ≤ c ∧ c ≤ (maxEls : Int) then some (.slice H.length 0 l.toNat c.toNat esz false, H ++ [⟨(List.replicate c.toNat z).flatten, .rw, esz⟩]) else none
  | _, _ => none
def vField (off : Nat) (H : CHeap) : CV → Option (CV × CHeap)
  | .ptr b o => some (.ptr b (o + off), H)
  | _ => none
def vIndex (esz : Nat) (x i : CV) (H : CHeap) : Option (CV × CHeap) := match x, i with
  | .slice b o len _ _ _, .int _ i => if 0 ≤ i ∧ i < (len : Int) then some (.ptr b (o + i.toNat * esz), H) else none
  | _, _ => none
def vExtract (x : CV) (i : Nat) (H : CHeap) : Option (CV × CHeap) := match x with | .tup vs => vs[i]?.map fun v => (v, H) | _ => none
def vLen (x : CV) (H : CHeap) : Option (CV × CHeap) := match x with
  | .slice _ _ len _ _ _ => some (.i len, H)
  | .nilSlice => some (.i 0, H)
  | _ => none
def vCallv (F : CallF) (g : CV) (args : List CV) (H : CHeap) : Option (CV × CHeap) := match g with
  | .func f caps => if f < RB then F f (args ++ caps) H else none
  | .yld b => yieldOf F b args H
  | _ => none
def vBuild (o : Option (List CV)) (H : CHeap) : Option (CV × CHeap) := o.map fun cs => (.agg cs, H)
def vBuildS (o : Option (List CV)) (esz len : Nat) (H : CHeap) : Option (CV × CHeap) := o.map fun cs => (.slice H.length 0 len len esz false, H ++ [⟨cs, .rw, esz⟩])
def vSlice (o : Option CV) (H : CHeap) : Option (CV × CHeap) := o.map fun v => (v, H)
def vAppend (esz : Nat) (s : CV) (o : Option (Nat × List CV)) (H : CHeap) : Option (CV × CHeap) := o.bind fun q => appendTo H esz s q.1 q.2

theorem opc_mov {x : Opd} : opc F (.mov x) E H = some (E.ev x, H) := rfl
theorem opc_pick {c a b : Opd} : opc F (.pick c a b) E H = vPick (E.ev c) (E.ev a) (E.ev b) H := by
  simp only [opc, opv, mkOf, vPick] <;> cases E.ev c <;> rfl
theorem opc_new {cs : List CV} : opc F (.new cs) E H = some (.ptr H.length 0, H ++ [⟨cs, .rw, 0⟩]) := rfl
theorem opc_box {x : Opd} : opc F (.box x) E H = some (.ptr H.length 0, H ++ [⟨cellsOf (E.ev x), .rw, 0⟩]) := rfl
theorem opc_build {z : List CV} {ps : List (Nat × Nat × Opd)} : opc F (.build z ps) E H = vBuild (fill z (evParts E ps)) H := by
  simp only [opc, opv, mkOf, vBuild] <;> cases fill z (evParts E ps) <;> rfl
theorem opc_buildSlice {esz len : Nat} {z : List CV} {ps : List (Nat × Nat × Opd)} : opc F (.buildSlice esz z len ps) E H = vBuildS (fill z (evParts E ps)) esz len H := by
  simp only [opc, opv, mkOf, vBuildS] <;> cases fill z (evParts E ps) <;> rfl
theorem opc_load {g : Bool} {n : Nat} {a : Opd} : opc F (.load g n a) E H = vLoad g n H (E.ev a) := by
  simp only [opc, opv, mkOf, vLoad]
  cases E.ev a <;> first | rfl | skip
  rename_i b o
  cases g
  · simp only [Bool.false_eq_true, if_false]; cases load1 H b o <;> rfl
  · simp only [if_true]; cases loadN H b o n <;> rfl
theorem opc_store {n : Nat} {a v : Opd} : opc F (.store n a v) E H = vStore n H (E.ev a) (E.ev v) := rfl
theorem opc_nilCheck {x : Opd} : opc F (.nilCheck x) E H = vNil H (E.ev x) := by
  simp only [opc, opv, mkOf, vNil] <;> cases E.ev x <;> rfl
theorem opc_bin {op : BinOp} {x y : Opd} : opc F (.bin op x y) E H = vBin op (E.ev x) (E.ev y) H := by
  simp only [opc, opv, mkOf, vBin]
  cases E.ev x <;> cases E.ev y <;> first | rfl | skip
  rename_i k a k' b
  by_cases h : k = k'
  · simp only [h, if_true]; cases intOp op k' a b <;> rfl
  · simp only [h, if_false]; rfl
theorem opc_eqv {g : Bool} {ty : Nat} {x y : Opd} : opc F (.eqv g ty x y) E H = vEqv g ty (E.ev x) (E.ev y) H := by
  simp only [opc, opv, mkOf, vEqv] <;> cases eqVal ty (E.ev x) (E.ev y) <;> rfl
theorem opc_eqs {g : Bool} {n : Nat} {x y : Opd} : opc F (.eqs g n x y) E H = vEqs g n (E.ev x) (E.ev y) H := by
  simp only [opc, opv, mkOf, vEqs]
  cases E.ev x <;> cases E.ev y <;> first | rfl | skip
  rename_i xs ys
  dsimp only
  by_cases h : xs.length = n
  · rw [if_pos h, if_pos h]; cases eqCells xs ys <;> rfl
  · rw [if_neg h, if_neg h]; rfl
theorem opc_not {x : Opd} : opc F (.not x) E H = vNot (E.ev x) H := by
  simp only [opc, opv, mkOf, vNot] <;> cases E.ev x <;> rfl
theorem opc_mkfunc {f : Nat} {cs : List Opd} : opc F (.mkfunc f cs) E H = some (.func f (cs.map E.ev), H) := rfl
theorem opc_makeSlice {esz : Nat} {z : List CV} {l c : Opd} : opc F (.makeSlice esz z l c) E H = vMake esz z (E.ev l) (E.ev c) H := by
  show (mkOf (.makeSlice esz z l c) E H).map (made H) = _
  unfold mkOf vMake
  dsimp only
  generalize E.ev l = a
  generalize E.ev c = b
  cases a <;> try rfl
  rename_i k n
  cases k <;> try rfl
  cases b <;> try rfl
  rename_i k' n'
  cases k' <;> try rfl
  dsimp only
  by_cases h : 0 ≤ n ∧ n ≤ n' ∧ n' ≤ (maxEls : Int)
  · simp only [if_pos h]; rfl
  · simp only [if_neg h]; rfl
theorem opc_slice {esz : Nat} {x : Opd} {lo hi mx : Option Opd} : opc F (.slice esz x lo hi mx) E H = vSlice (sliceTo E esz (E.ev x) lo hi mx) H := by
  simp only [opc, opv, mkOf, vSlice] <;> cases sliceTo E esz (E.ev x) lo hi mx <;> rfl
theorem opc_field {off : Nat} {x : Opd} : opc F (.field off x) E H = vField off H (E.ev x) := by
  simp only [opc, opv, mkOf, vField] <;> cases E.ev x <;> rfl
theorem opc_index {esz : Nat} {x i : Opd} : opc F (.index esz x i) E H = vIndex esz (E.ev x) (E.ev i) H := by
  simp only [opc, opv, mkOf, vIndex]
  cases E.ev x <;> cases E.ev i <;> first | rfl | skip
  rename_i b o len cap ez tl k i
  dsimp only
  by_cases h : 0 ≤ i ∧ i < (len : Int)
  · rw [if_pos h, if_pos h]; rfl
  · rw [if_neg h, if_neg h]; rfl
theorem opc_extract {x : Opd} {i : Nat} : opc F (.extract x i) E H = vExtract (E.ev x) i H := by
  simp only [opc, opv, mkOf, vExtract]
  cases E.ev x <;> first | rfl | skip
  rename_i vs
  dsimp only
  cases vs[i]? <;> rfl
theorem opc_length {x : Opd} : opc F (.len x) E H = vLen (E.ev x) H := by
  simp only [opc, opv, mkOf, vLen] <;> cases E.ev x <;> rfl
theorem opc_append {esz : Nat} {s x : Opd} : opc F (.append esz s x) E H = vAppend esz (E.ev s) (elems H esz (E.ev x)) H := rfl
theorem opc_call {f : Nat} {l : List Opd} : opc F (.call f l) E H = F f (l.map E.ev) H := rfl
theorem opc_callv {g : Opd} {l : List Opd} : opc F (.callv g l) E H = vCallv F (E.ev g) (l.map E.ev) H := by
  simp only [opc, vCallv]
  cases E.ev g <;> rfl

end
end Go.Cs

/- The heap, and the rules of a walk in one bundle. -/
namespace Go.Cs
open Go

section
variable {α : Type} {p : CProg} {F : CallF} {E : Env} {H : CHeap}

def ld (x : Option Blk) (o : Nat) : Option CV := match x with
  | some k => if k.mode = .dead ∨ k.mode = .map then none else k.cells[o]?
  | none => none
def ldN (x : Option Blk) (o n : Nat) : Option (List CV) := match x with
  | some k => if k.mode = .dead ∨ k.mode = .map then none else if o + n ≤ k.cells.length then some ((k.cells.drop o).take n) else none
  | none => none
def stN (H : CHeap) (b : Nat) (x : Option Blk) (o : Nat) (vs : List CV) : Option CHeap := match x with
  | some k => if k.mode = .rw ∧ o + vs.length ≤ k.cells.length ∧ vs.all leaf = true then some (H.set b { k with cells := splice k.cells o vs }) else none
  | none => none

theorem load1_ld {b o : Nat} : load1 H b o = ld H[b]? o := rfl
theorem loadN_ldN {b o n : Nat} : loadN H b o n = ldN H[b]? o n := rfl
theorem storeN_stN {b o : Nat} {vs : List CV} : storeN H b o vs = stN H b H[b]? o vs := rfl
theorem ld_rw {cs : List CV} {e o : Nat} : ld (some ⟨cs, .rw, e⟩) o = cs[o]? := rfl
theorem ld_ro {cs : List CV} {e o : Nat} : ld (some ⟨cs, .ro, e⟩) o = cs[o]? := rfl
theorem ldN_rw {cs : List CV} {e o n : Nat} : ldN (some ⟨cs, .rw, e⟩) o n = if o + n ≤ cs.length then some ((cs.drop o).take n) else none := rfl
theorem ldN_ro {cs : List CV} {e o n : Nat} : ldN (some ⟨cs, .ro, e⟩) o n = if o + n ≤ cs.length then some ((cs.drop o).take n) else none := rfl
/-! ### What a value is worth in an operation -/

theorem vPick_b {t : Bool} {a b : CV} : vPick (.bool t) a b H = some (if t then a else b, H) := rfl
theorem vLoad_1 {n b o : Nat} : vLoad false n H (.ptr b o) = (load1 H b o).map fun v => (v, H) := rfl
theorem vLoad_n {n b o : Nat} : vLoad true n H (.ptr b o) = (loadN H b o n).map fun cs => (.agg cs, H) := rfl
theorem vStore_p {n b o : Nat} {v : CV} : vStore n H (.ptr b o) v = if (cellsOf v).length = n then (storeN H b o (cellsOf v)).map fun H' => (.undef, H') else none := rfl
theorem vNil_p {b o : Nat} : vNil H (.ptr b o) = some (.ptr b o, H) := rfl
theorem vBin_add {k : IntKind} {a b : Int} : vBin .add (.int k a) (.int k b) H = some (.int k (k.wrap (a + b)), H) := by simp [vBin, intOp]
theorem vBin_sub {k : IntKind} {a b : Int} : vBin .sub (.int k a) (.int k b) H = some (.int k (k.wrap (a - b)), H) := by simp [vBin, intOp]
theorem vBin_mul {k : IntKind} {a b : Int} : vBin .mul (.int k a) (.int k b) H = some (.int k (k.wrap (a * b)), H) := by simp [vBin, intOp]
theorem vBin_quo {k : IntKind} {a b : Int} (h : b ≠ 0) : vBin .quo (.int k a) (.int k b) H = some (.int k (k.wrap (a.tdiv b)), H) := by simp [vBin, intOp, h]
theorem vBin_rem {k : IntKind} {a b : Int} (h : b ≠ 0) : vBin .rem (.int k a) (.int k b) H = some (.int k (a.tmod b), H) := by simp [vBin, intOp, h]
theorem vBin_eql {k : IntKind} {a b : Int} : vBin .eql (.int k a) (.int k b) H = some (.bool (a == b), H) := by simp [vBin, intOp]
theorem vBin_neq {k : IntKind} {a b : Int} : vBin .neq (.int k a) (.int k b) H = some (.bool (a != b), H) := by simp [vBin, intOp]
theorem vBin_lss {k : IntKind} {a b : Int} : vBin .lss (.int k a) (.int k b) H = some (.bool (decide (a < b)), H) := by simp [vBin, intOp]
theorem vBin_leq {k : IntKind} {a b : Int} : vBin .leq (.int k a) (.int k b) H = some (.bool (decide (a ≤ b)), H) := by simp [vBin, intOp]
theorem vBin_gtr {k : IntKind} {a b : Int} : vBin .gtr (.int k a) (.int k b) H = some (.bool (decide (b < a)), H) := by simp [vBin, intOp]
theorem vBin_geq {k : IntKind} {a b : Int} : vBin .geq (.int k a) (.int k b) H = some (.bool (decide (b ≤ a)), H) := by simp [vBin, intOp]
theorem vEqv_bb {g a b : Bool} : vEqv g 0 (.bool a) (.bool b) H = some (.bool (if g then !(a == b) else a == b), H) := rfl
theorem vEqv_nn {g : Bool} : vEqv g 1 .nilPtr .nilPtr H = some (.bool (if g then false else true), H) := by cases g <;> rfl
theorem vEqv_np {g : Bool} {b o : Nat} : vEqv g 1 .nilPtr (.ptr b o) H = some (.bool (if g then true else false), H) := by cases g <;> rfl
theorem vEqv_pn {g : Bool} {b o : Nat} : vEqv g 1 (.ptr b o) .nilPtr H = some (.bool (if g then true else false), H) := by cases g <;> rfl
theorem vNot_b {t : Bool} : vNot (.bool t) H = some (.bool !t, H) := rfl
theorem vField_p {off b o : Nat} : vField off H (.ptr b o) = some (.ptr b (o + off), H) := rfl
theorem vIndex_s {e b o len cap z : Nat} {t : Bool} {k : IntKind} {i : Int} : vIndex e (.slice b o len cap z t) (.int k i) H = if 0 ≤ i ∧ i < (len : Int) then some (.ptr b (o + i.toNat * e), H) else none := rfl
theorem vExtract_t {vs : List CV} {i : Nat} : vExtract (.tup vs) i H = vs[i]?.map fun v => (v, H) := rfl
theorem vLen_s {b o len cap z : Nat} {t : Bool} : vLen (.slice b o len cap z t) H = some (.i len, H) := rfl
theorem vLen_n : vLen .nilSlice H = some (.i 0, H) := rfl
theorem vCallv_f {f : Nat} {caps args : List CV} (hf : f < 1000000) : vCallv F (.func f caps) args H = F f (args ++ caps) H := if_pos hf
theorem vBuild_s {cs : List CV} : vBuild (some cs) H = some (.agg cs, H) := rfl
theorem vBuildS_s {cs : List CV} {e len : Nat} : vBuildS (some cs) e len H = some (.slice H.length 0 len len e false, H ++ [⟨cs, .rw, e⟩]) := rfl
theorem vSlice_s {v : CV} : vSlice (some v) H = some (v, H) := rfl
theorem vAppend_s {e n : Nat} {s : CV} {new : List CV} : vAppend e s (some (n, new)) H = appendTo H e s n new := rfl
theorem rc_1 {n b o : Nat} : rc H false n (.ptr b o) = load1 H b o := rfl
theorem rc_n {n b o : Nat} : rc H true n (.ptr b o) = (loadN H b o n).map .agg := rfl
theorem wrap_id {n : Int} (h : -9223372036854775808 ≤ n ∧ n ≤ 9223372036854775807) : IntKind.i64.wrap n = n := by
  by_cases h0 : 0 ≤ n
  · have e : n % (2 ^ 64 : Int) = n := by omega
    simp only [IntKind.wrap, IntKind.bits, IntKind.signed, e]
    split
    · rename_i hc; simp only [Bool.and_eq_true, decide_eq_true_eq, true_and] at hc; omega
    · rfl
  · have e : n % (2 ^ 64 : Int) = n + 18446744073709551616 := by omega
    simp only [IntKind.wrap, IntKind.bits, IntKind.signed, e]
    split
    · omega
    · rename_i hc; simp only [Bool.and_eq_true, decide_eq_true_eq, true_and] at hc; omega

end

/-! The rules of a walk, in bundles. -/
def csA := And.intro @den_skip <| And.intro @den_ret <| And.intro @den_exit <| And.intro @den_region <| And.intro @den_dregion <| And.intro @den_seq <| And.intro @den_cond <| And.intro @den_block <| And.intro @blk_normal <| And.intro @blk_ret <| And.intro @blk_exit <| And.intro @sq_normal <| And.intro @sq_ret <| And.intro @sq_exit <| And.intro @opk_some <| And.intro @gk_tt <| And.intro @gk_tf <| And.intro @gk_ft <| And.intro @gk_ff <| And.intro @gk_tup <| And.intro @ck_t <| And.intro @ck_f <| And.intro @lv_ret <| And.intro @lv_normal <| And.intro @fin_0 <| And.intro @fin_1 <| And.intro @fin_2 <| And.intro @fin_c <| And.intro @fin_ct <| And.intro @put_some <| And.intro @put_none <| And.intro @ev_tmp <| And.intro @ev_const @upd_apply
def csB := And.intro @seqOps_nil <| And.intro @seqOps_cons <| And.intro @seqOps_guard <| And.intro @opc_mov <| And.intro @opc_pick <| And.intro @opc_new <| And.intro @opc_box <| And.intro @opc_build <| And.intro @opc_buildSlice <| And.intro @opc_load <| And.intro @opc_store <| And.intro @opc_nilCheck <| And.intro @opc_bin <| And.intro @opc_eqv <| And.intro @opc_eqs <| And.intro @opc_not <| And.intro @opc_mkfunc <| And.intro @opc_makeSlice <| And.intro @opc_slice <| And.intro @opc_field <| And.intro @opc_index <| And.intro @opc_extract <| And.intro @opc_length <| And.intro @opc_append <| And.intro @opc_call @opc_callv
def csV := And.intro @vPick_b <| And.intro @vLoad_1 <| And.intro @vLoad_n <| And.intro @vNil_p <| And.intro @vBin_add <| And.intro @vBin_sub <| And.intro @vBin_mul <| And.intro @vBin_eql <| And.intro @vBin_neq <| And.intro @vBin_lss <| And.intro @vBin_leq <| And.intro @vBin_gtr <| And.intro @vBin_geq <| And.intro @vEqv_bb <| And.intro @vEqv_nn <| And.intro @vEqv_np <| And.intro @vEqv_pn <| And.intro @vNot_b <| And.intro @vField_p <| And.intro @vExtract_t <| And.intro @vLen_s <| And.intro @vLen_n <| And.intro @vCallv_f <| And.intro @vBuild_s <| And.intro @vBuildS_s <| And.intro @vSlice_s <| And.intro @vAppend_s <| And.intro @rc_1 <| And.intro @rc_n <| And.intro @load1_ld <| And.intro @loadN_ldN <| And.intro @storeN_stN <| And.intro @ld_rw @ld_ro
end Go.Cs
