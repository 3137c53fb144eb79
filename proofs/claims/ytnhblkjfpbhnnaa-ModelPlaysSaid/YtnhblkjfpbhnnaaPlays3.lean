/- A part of the proof: ModelPlays returns true for every input: whatever is called, a model returns what the chapter says, and is in the state that it says. (Functions; at most 120 calls) Conditions: none. -/
import Derived.Test.YtnhblkjfpbhnnaaPlays2
set_option linter.unusedVariables false
set_option linter.unusedSimpArgs false
set_option linter.defProp false
/- The contract of Do. -/
namespace Go.Cs.Try
open Go Go.Cs
set_option maxRecDepth 100000
section
variable {o : Tags} {g : Nat} {H : CHeap} {b : Nat} {M : Mdl} {L : Lay} {x : Act} {mu : Int}

theorem doAt (m : MRep o g H b M L) (w : M.Ok) : ∃ t2, L.sl = .slice (blkOf L.sl) 0 M.slots.length M.slots.length 1 t2 ∧ DoAt b H M.slots.length (blkOf L.sl) t2 L.gl L.qv L.ov L.sv := by
  have hn := w.ns
  obtain ⟨t2, e1, e2, e3, e4⟩ := m.slots.pos (by omega)
  have hc := m.cells
  rw [e1] at hc
  exact ⟨t2, e1, fun J => f41 (m.app J) w, hc, e3⟩

/-- A failed act: nothing happens. -/
theorem failed {r : Option (CV × CHeap)} {n : Int} {J : CHeap} (m : MRep o g H b M L) (hr : r = some (.tup [.agg zEff, .i n], H ++ J)) : DoesD o g H b M e0 n r :=
  ⟨_, o, L, .nilSlice, hr, m.app J, .grow m.dom (by simp) (fun c hc => List.getElem?_append_left hc), At.nil⟩

theorem app5 {a b c d e : CHeap} : H ++ a ++ b ++ c ++ d ++ e = H ++ (a ++ b ++ c ++ d ++ e) := by simp only [List.append_assoc]
theorem app6 {a b c d e f : CHeap} : H ++ a ++ b ++ c ++ d ++ e ++ f = H ++ (a ++ b ++ c ++ d ++ e ++ f) := by simp only [List.append_assoc]
theorem app3 {a b c : CHeap} : H ++ a ++ b ++ c = H ++ (a ++ b ++ c) := by simp only [List.append_assoc]

/-- A done act. -/
theorem finished {r : Option (CV × CHeap)} {J : CHeap} {M' : Mdl} {e : Eff} {q : Option (CV × CHeap)} (m : MRep o g H b M L) (hJ : 2 ≤ J.length) (hd : DoesE o g (H ++ J) b M' e q)
    (hz : (H ++ J)[H.length + 1]? = some ⟨zEff, .rw, 0⟩)
    (hr : ∀ tv H', q = some (effOf tv e, H') → H'[H.length + 1]? = some ⟨zEff, .rw, 0⟩ → leaf tv = true → r = some (.tup [effOf tv e, .i 0], H'.set (H.length + 1) ⟨[tv, .i e.o, .i e.i, .i e.old, .i e.new, .i e.made, .i e.loaded], .rw, 0⟩)) :
    DoesD o g H b M' e 0 r := by
  obtain ⟨H', o', L', tv, e1, m1, fr, at1⟩ := hd
  have hfree : ∀ c, H.length ≤ c → ∀ t, o c ≠ some t := fun c hc t h => by have := m.dom c t h; omega
  have hl : H.length + 1 < (H ++ J).length := by simp; omega
  have hk : H'[H.length + 1]? = some ⟨zEff, .rw, 0⟩ := by
    rw [fr.keep _ hl (fun k h => hfree _ (by omega) _ h), hz]
  have hl' := lt_of_get hk
  have ho' : ∀ t, o' (H.length + 1) ≠ some t := fun t h => by
    rw [fr.tag _ hl] at h; exact hfree _ (by omega) _ h
  refine ⟨_, o', L', tv, hr tv H' e1 hk at1.leaf, ?_, ?_, ?_⟩
  · refine m1.frame (fun c t h => by rw [List.length_set]; exact m1.dom c t h) (fun _ _ h => h) (fun c k h => ?_)
    rw [List.getElem?_set_ne]
    rintro rfl; exact ho' _ h
  · have f1 : Frm g o H o (H ++ J) := .grow m.dom (by simp) (fun c hc => List.getElem?_append_left hc)
    have f2 := f1.trans fr
    refine ⟨by rw [List.length_set]; exact f2.len, f2.tag, f2.new, fun c hc hk' => ?_⟩
    rw [List.getElem?_set_ne (by omega), f2.keep c hc hk']
  · rcases at1 with h | ⟨k, t, rfl, h1, h2, h3⟩
    · exact .inl h
    · have := (Loc_some.1 h1).1
      refine .inr ⟨k, t, rfl, Loc_some.2 ⟨by simp at this; omega, rfl⟩, ?_, h3⟩
      rw [List.getElem?_set_ne (by omega), h2]

/-- Do. -/
theorem f40 (m : MRep o g H b M L) (w : M.Ok) (hf : M.objs.length < 100000) : DoesD o g H b (M.doAct mu x).1 (M.doAct mu x).2.1 (M.doAct mu x).2.2 (run P 40 [.ptr b 0, .i mu, .agg [.i x.k, .i x.a, .i x.b, .i x.i, .i x.n, .i x.nr, .i x.nd, .i x.sk]] H) := by
  obtain ⟨t2, e1, D⟩ := doAt m w
  have fail : ∀ n, M.errOf mu x = n → n ≠ 0 → M.doAct mu x = (M, e0, n) := fun n h hn => by unfold Mdl.doAct; rw [if_neg (by rw [h]; exact hn), h]
  by_cases c : 0 ≤ mu ∧ mu < (M.slots.length : Int) ∧ 0 ≤ x.k ∧ x.k < 12
  case neg =>
    rw [fail 1 (by unfold Mdl.errOf; rw [if_pos c]) (by omega)]
    have h := d_mu (x := x) (mu := mu) D (by omega)
    rw [app3] at h
    exact failed m h
  have hs := getD_of (l := M.slots) (i := mu.toNat) [] (by omega)
  obtain ⟨v, hv, ha⟩ := m.slot _ _ hs
  obtain ⟨tl, d1, d2, d3, d4⟩ := ha.pos (by omega)
  have h16 := (w.s16 _ (List.mem_of_getElem? hs)).1
  have hsl := hv
  rw [d1] at hsl
  generalize hS : M.slots.getD mu.toNat [] = s at *
  by_cases ca : (0 ≤ x.a ∧ x.a < 16) ∧ (wB x.k = true → 0 ≤ x.b ∧ x.b < 16)
  case neg =>
    rw [fail 1 (by unfold Mdl.errOf; rw [if_neg (fun h => h c), if_pos ca]) (by omega)]
    have h := d_slot D rfl c hsl (by
      by_cases h : 0 ≤ x.a ∧ x.a < 16
      · cases hw : wB x.k with
        | true => exact .inr ⟨rfl, fun h' => ca ⟨h, fun _ => h'⟩⟩
        | false => exact absurd ⟨h, fun h' => by rw [hw] at h'; cases h'⟩ ca
      · exact .inl h)
    rw [app5] at h
    exact failed m h
  have hnd : ∀ c, H.length ≤ c → o c = none := fun c hc => by
    cases h : o c with
    | none => rfl
    | some t => have := m.dom c t h; omega
  have hl5 := m.dom _ _ d2
  have hlb := m.dom _ _ m.top
  have A : ActAt o g (H ++ [⟨[.i x.k, .i x.a, .i x.b, .i x.i, .i x.n, .i x.nr, .i x.nd, .i x.sk], .rw, 0⟩] ++ [⟨zEff, .rw, 0⟩] ++ [⟨wayCells, .rw, 4⟩] ++ [⟨[.bool (wB x.k), .func (wN x.k) [], .func (wU x.k) [], .func (wE x.k) []], .rw, 0⟩] ++ [⟨[.i x.k, .i x.a, .i x.b, .i x.i, .i x.n, .i x.nr, .i x.nd, .i x.sk, .ptr b 0, .slice (blkOf v) 0 16 16 1 tl], .rw, 0⟩]) b M L (H.length + 4) x mu.toNat s v tl :=
    ⟨((((m.app _).app _).app _).app _).app _, w, by rw [← d1]; simp (disch := first | omega | rfl | assumption | (simp only [csN, Nat.reduceAdd, Nat.reduceMul, Nat.reduceLeDiff, Nat.reduceEqDiff] <;> omega) | (simp only [csF]; done) | (simp only [csF] <;> assumption) | fail) only [Nat.reduceEqDiff, Nat.reduceAdd, Nat.reduceMul, Nat.reduceSub, Nat.reduceLeDiff, Int.reduceAdd, Int.reduceSub, Int.reduceMul, Int.reduceLT, Int.reduceLE, Int.reduceGT, Int.reduceGE, Int.reduceEq, Int.reduceBEq, Int.reduceBNe, Int.reduceNeg, Int.reduceToNat, csAll, ↓reduceIte], hnd _ (by omega), hs, hv, d1, d2, by simp (disch := first | omega | rfl | assumption | (simp only [csN, Nat.reduceAdd, Nat.reduceMul, Nat.reduceLeDiff, Nat.reduceEqDiff] <;> omega) | (simp only [csF]; done) | (simp only [csF] <;> assumption) | fail) only [Nat.reduceEqDiff, Nat.reduceAdd, Nat.reduceMul, Nat.reduceSub, Nat.reduceLeDiff, Int.reduceAdd, Int.reduceSub, Int.reduceMul, Int.reduceLT, Int.reduceLE, Int.reduceGT, Int.reduceGE, Int.reduceEq, Int.reduceBEq, Int.reduceBNe, Int.reduceNeg, Int.reduceToNat, csAll, ↓reduceIte, d3], h16⟩
  by_cases ck : x.k = 0 ∧ ¬ validS x.nr x.nd x.sk
  · rw [fail 2 (by unfold Mdl.errOf; rw [if_neg (fun h => h c), if_neg (fun h => h ca), if_pos ck]) (by omega)]
    have h := d_form D rfl c hsl ca ck.1 ck.2
    rw [app6] at h
    exact failed m h
  have hk12 : 0 ≤ x.k ∧ x.k < 12 := ⟨c.2.2.1, c.2.2.2⟩
  have hneed : wNeed x < 0 ∨ 0 ≤ wNeed x ∧ wNeed x < 16 := by
    unfold wNeed
    by_cases h1 : x.k = 1
    · rw [if_pos h1]; exact .inr (ca.2 (by rw [h1]; rfl))
    · rw [if_neg h1]
      split
      · exact .inr ca.1
      · exact .inl (by omega)
  have hk0 : x.k = 0 → wNeed x = -1 ∧ M.bound s x = -1 := fun h => by
    unfold wNeed Mdl.bound; simp [h]
  by_cases cz : 0 ≤ wNeed x ∧ s.getD (wNeed x).toNat 0 = 0
  · rw [fail 7 (by unfold Mdl.errOf; rw [if_neg (fun h => h c), if_neg (fun h => h ca), if_neg ck, hS, if_pos cz]) (by omega)]
    have hr := hneed.resolve_left (by omega)
    have h := d_nil D rfl c hsl ca (fun h => by have := (hk0 h).1; omega) (needs_ok A hk12) hr d3 (by rw [slotGet h16 hr, cz.2])
    rw [app5] at h
    exact failed m h
  have hz : 0 ≤ wNeed x → s.getD (wNeed x).toNat 0 ≠ 0 := fun h h' => cz ⟨h, h'⟩
  have hnd' : wNeed x < 0 ∨ (0 ≤ wNeed x ∧ wNeed x < 16 ∧ ∃ z, (Go.Cs.ints s)[(wNeed x).toNat]? = some (.i z) ∧ z ≠ 0) := by
    rcases hneed with h | h
    · exact .inl h
    · exact .inr ⟨h.1, h.2, _, slotGet h16 h, hz h.1⟩
  by_cases ci : 0 ≤ M.bound s x ∧ ¬ (0 ≤ x.i ∧ x.i < M.bound s x)
  · rw [fail 1 (by unfold Mdl.errOf; rw [if_neg (fun h => h c), if_neg (fun h => h ca), if_neg ck, hS, if_neg cz, if_pos ci]) (by omega)]
    have h := d_index D rfl c hsl ca (fun h => by have := (hk0 h).2; omega) (needs_ok A hk12) hnd' d3 (bound_ok A hk12 ca.1 ca.2 hz) ci
    rw [app5] at h
    exact failed m h
  have hi : 0 ≤ M.bound s x → 0 ≤ x.i ∧ x.i < M.bound s x := fun h => by
    by_cases h' : 0 ≤ x.i ∧ x.i < M.bound s x
    · exact h'
    · exact absurd ⟨h, h'⟩ ci
  have hbd : M.bound s x < 0 ∨ (0 ≤ M.bound s x ∧ 0 ≤ x.i ∧ x.i < M.bound s x) := by
    by_cases h : 0 ≤ M.bound s x
    · exact .inr ⟨h, hi h⟩
    · exact .inl (by omega)
  have hok : M.doAct mu x = ((M.eff mu.toNat s x).1, (M.eff mu.toNat s x).2, 0) := by
    unfold Mdl.doAct
    rw [if_pos (by unfold Mdl.errOf; rw [if_neg (fun h => h c), if_neg (fun h => h ca), if_neg ck, hS, if_neg cz, if_neg ci]), hS]
  rw [hok]
  by_cases k0 : x.k = 0
  · have hv0 : validS x.nr x.nd x.sk := by
      by_cases h : validS x.nr x.nd x.sk
      · exact h
      · exact absurd ⟨k0, h⟩ ck
    have A' := A.app [⟨[.i x.nr, .i x.nd, .i x.sk], .rw, 0⟩]
    have he := eff_ok A' hk12 ca.1 ca.2 (fun _ => hv0) hz hi hf
    have hn := needs_ok A' hk12
    have hu := bound_ok A' hk12 ca.1 ca.2 hz
    refine finished (J := [⟨[.i x.k, .i x.a, .i x.b, .i x.i, .i x.n, .i x.nr, .i x.nd, .i x.sk], .rw, 0⟩] ++ [⟨zEff, .rw, 0⟩] ++ [⟨wayCells, .rw, 4⟩] ++ [⟨[.bool (wB x.k), .func (wN x.k) [], .func (wU x.k) [], .func (wE x.k) []], .rw, 0⟩] ++ [⟨[.i x.k, .i x.a, .i x.b, .i x.i, .i x.n, .i x.nr, .i x.nd, .i x.sk, .ptr b 0, .slice (blkOf v) 0 16 16 1 tl], .rw, 0⟩] ++ [⟨[.i x.nr, .i x.nd, .i x.sk], .rw, 0⟩]) m (by simp) (by rw [← app6]; exact he) (by rw [← app6]; simp (disch := first | omega | rfl | assumption | (simp only [csN, Nat.reduceAdd, Nat.reduceMul, Nat.reduceLeDiff, Nat.reduceEqDiff] <;> omega) | (simp only [csF]; done) | (simp only [csF] <;> assumption) | fail) only [Nat.reduceEqDiff, Nat.reduceAdd, Nat.reduceMul, Nat.reduceSub, Nat.reduceLeDiff, Int.reduceAdd, Int.reduceSub, Int.reduceMul, Int.reduceLT, Int.reduceLE, Int.reduceGT, Int.reduceGE, Int.reduceEq, Int.reduceBEq, Int.reduceBNe, Int.reduceNeg, Int.reduceToNat, csAll, ↓reduceIte]) ?_
    intro tv H' hq hr htv
    exact d_new D rfl c hsl ca k0 hv0 hn hnd' d3 hu hbd hq hr htv
  · have he := eff_ok A hk12 ca.1 ca.2 (fun h => absurd h k0) hz hi hf
    have hn := needs_ok A hk12
    have hu := bound_ok A hk12 ca.1 ca.2 hz
    refine finished (J := [⟨[.i x.k, .i x.a, .i x.b, .i x.i, .i x.n, .i x.nr, .i x.nd, .i x.sk], .rw, 0⟩] ++ [⟨zEff, .rw, 0⟩] ++ [⟨wayCells, .rw, 4⟩] ++ [⟨[.bool (wB x.k), .func (wN x.k) [], .func (wU x.k) [], .func (wE x.k) []], .rw, 0⟩] ++ [⟨[.i x.k, .i x.a, .i x.b, .i x.i, .i x.n, .i x.nr, .i x.nd, .i x.sk, .ptr b 0, .slice (blkOf v) 0 16 16 1 tl], .rw, 0⟩]) m (by simp) (by rw [← app5]; exact he) (by rw [← app5]; simp (disch := first | omega | rfl | assumption | (simp only [csN, Nat.reduceAdd, Nat.reduceMul, Nat.reduceLeDiff, Nat.reduceEqDiff] <;> omega) | (simp only [csF]; done) | (simp only [csF] <;> assumption) | fail) only [Nat.reduceEqDiff, Nat.reduceAdd, Nat.reduceMul, Nat.reduceSub, Nat.reduceLeDiff, Int.reduceAdd, Int.reduceSub, Int.reduceMul, Int.reduceLT, Int.reduceLE, Int.reduceGT, Int.reduceGE, Int.reduceEq, Int.reduceBEq, Int.reduceBNe, Int.reduceNeg, Int.reduceToNat, csAll, ↓reduceIte]) ?_
    intro tv H' hq hr htv
    exact d_ok D rfl c hsl ca k0 hn hnd' d3 hu hbd hq hr htv
end
end Go.Cs.Try

/- Loops. -/
namespace Go.Cs
open Go

/-- A loop that comes to an end: its invariant by a measure, and what holds when it is left. -/
def LoopOk (p : CProg) (c : CCode) (Inv : Nat → Env → CHeap → Prop) (Post : CX → Env → CHeap → Prop) : Prop :=
  ∀ k E H, Inv k E H → ∃ x E' H', den p (.loop c) E H = some (x, E', H') ∧ x ≠ .normal ∧ Post x E' H'

theorem loop_ind {p : CProg} {c : CCode} {Inv : Nat → Env → CHeap → Prop} {Post : CX → Env → CHeap → Prop}
    (step : ∀ k E H, Inv k E H → ∃ x E' H', den p c E H = some (x, E', H') ∧ ((x = .normal ∧ ∃ k', k' < k ∧ Inv k' E' H') ∨ (x ≠ .normal ∧ Post x E' H'))) : LoopOk p c Inv Post := by
  intro k
  induction k using Nat.strongRecOn with
  | _ k ih =>
    intro E H hi
    obtain ⟨x, E', H', e, h⟩ := step k E H hi
    rcases h with ⟨rfl, k', hk, hi'⟩ | ⟨hx, hp⟩
    · obtain ⟨x2, E2, H2, e2, h2⟩ := ih k' hk E' H' hi'
      refine ⟨x2, E2, H2, ?_, h2⟩
      rw [den_loop, e, sq_normal, e2]
    · refine ⟨x, E', H', ?_, hx, hp⟩
      rw [den_loop, e]
      cases x with
      | normal => exact absurd rfl hx
      | exit i => rfl
      | ret => rfl

theorem LoopOk.at {p : CProg} {c : CCode} {Inv : Nat → Env → CHeap → Prop} {Post : CX → Env → CHeap → Prop} (h : LoopOk p c Inv Post) {E : Env} {H : CHeap} {r : Option (CX × Env × CHeap)} (hr : den p (.loop c) E H = r) (k : Nat) (hi : Inv k E H) :
    ∃ x E' H', r = some (x, E', H') ∧ x ≠ .normal ∧ Post x E' H' := by
  obtain ⟨x, E', H', e, h⟩ := h k E H hi
  exact ⟨x, E', H', hr.symm.trans e, h⟩

theorem step_go {p : CProg} {c : CCode} {Inv : Nat → Env → CHeap → Prop} {Post : CX → Env → CHeap → Prop} {k k' : Nat} {E E' : Env} {H H' : CHeap} (e : den p c E H = some (.normal, E', H')) (hk : k' < k) (hi : Inv k' E' H') :
    ∃ x E' H', den p c E H = some (x, E', H') ∧ ((x = .normal ∧ ∃ k', k' < k ∧ Inv k' E' H') ∨ (x ≠ .normal ∧ Post x E' H')) := ⟨_, _, _, e, .inl ⟨rfl, k', hk, hi⟩⟩
theorem step_out {p : CProg} {c : CCode} {Inv : Nat → Env → CHeap → Prop} {Post : CX → Env → CHeap → Prop} {k : Nat} {x : CX} {E E' : Env} {H H' : CHeap} (e : den p c E H = some (x, E', H')) (hx : x ≠ .normal) (hp : Post x E' H') :
    ∃ x E' H', den p c E H = some (x, E', H') ∧ ((x = .normal ∧ ∃ k', k' < k ∧ Inv k' E' H') ∨ (x ≠ .normal ∧ Post x E' H')) := ⟨_, _, _, e, .inr ⟨hx, hp⟩⟩

theorem ex_env {p : CProg} {c : CCode} {E : Env} {H H2 : CHeap} {x : CX} {Q : Env → Prop} {E2 : Env} (e : den p c E H = some (x, E2, H2)) (q : Q E2) : ∃ E2, den p c E H = some (x, E2, H2) ∧ Q E2 := ⟨_, e, q⟩
end Go.Cs

/- ints: whether two lists are equal. -/
namespace Go.Cs.Try
open Go Go.Cs
set_option maxRecDepth 100000
section
variable {H : CHeap} {o o' : Tags} {t t' : Tag} {v v' : CV} {l l' : List Int}

theorem f26_1 (a : At o t H v 1 l.length (Go.Cs.ints l)) (a' : At o' t' H v' 1 l'.length (Go.Cs.ints l')) (hl : l.length = l'.length) (hm : l.length ≤ 16777216) :
    LoopOk P C26_1 (fun k E H' => E 0 = v ∧ E 1 = v' ∧ H' = H ∧ ∃ i : Nat, E 5 = .i i ∧ i ≤ l.length ∧ k = l.length - i ∧ ∀ j, j < i → l[j]? = l'[j]?)
      (fun x E' H' => H' = H ∧ ((x = .exit 0 ∧ l = l') ∨ (x = .ret ∧ l ≠ l' ∧ E' 4 = .bool false))) := by
  refine loop_ind ?_
  rintro k E H' ⟨h0, h1, rfl, i, h5, hi, hk, hj⟩
  have h2 := a.len
  by_cases c : i < l.length
  · obtain ⟨tl, d1, -, d3, d4⟩ := a.pos (by omega)
    obtain ⟨tl', d1', -, d3', d4'⟩ := a'.pos (by omega)
    have e1 : (Go.Cs.ints l)[i]? = some (.i (l.getD i 0)) := by rw [ints_get, getD_of 0 c]; rfl
    have e2 : (Go.Cs.ints l')[i]? = some (.i (l'.getD i 0)) := by rw [ints_get, getD_of 0 (by omega)]; rfl
    rw [d1] at h2 h0
    rw [d1'] at h1
    by_cases q : l.getD i 0 = l'.getD i 0
    · apply step_go (k' := l.length - (i + 1))
      · have hw : IntKind.i64.wrap ((i : Int) + 1) = ((i + 1 : Nat) : Int) := by rw [wrap_id (by omega)]; rfl
        simp (disch := first | omega | rfl | assumption | (simp only [csN, Nat.reduceAdd, Nat.reduceMul, Nat.reduceLeDiff, Nat.reduceEqDiff] <;> omega) | (simp only [csF]; done) | (simp only [csF] <;> assumption) | fail) only [Nat.reduceEqDiff, Nat.reduceAdd, Nat.reduceMul, Nat.reduceSub, Nat.reduceLeDiff, Int.reduceAdd, Int.reduceSub, Int.reduceMul, Int.reduceLT, Int.reduceLE, Int.reduceGT, Int.reduceGE, Int.reduceEq, Int.reduceBEq, Int.reduceBNe, Int.reduceNeg, Int.reduceToNat, csAll, ↓reduceIte, C26_1, h0, h1, h2, h5, d3, d3', e1, e2, hw]
        rfl
      · omega
      · refine ⟨by simp [upd_apply, h0]; exact d1.symm, by simp [upd_apply, h1]; exact d1'.symm, rfl, i + 1, by simp [upd_apply], by omega, rfl, fun j hjl => ?_⟩
        by_cases hji : j = i
        · subst hji
          rw [getD_of 0 c, getD_of 0 (by omega : j < l'.length), q]
        · exact hj j (by omega)
    · apply step_out (x := .ret)
      · simp (disch := first | omega | rfl | assumption | (simp only [csN, Nat.reduceAdd, Nat.reduceMul, Nat.reduceLeDiff, Nat.reduceEqDiff] <;> omega) | (simp only [csF]; done) | (simp only [csF] <;> assumption) | fail) only [Nat.reduceEqDiff, Nat.reduceAdd, Nat.reduceMul, Nat.reduceSub, Nat.reduceLeDiff, Int.reduceAdd, Int.reduceSub, Int.reduceMul, Int.reduceLT, Int.reduceLE, Int.reduceGT, Int.reduceGE, Int.reduceEq, Int.reduceBEq, Int.reduceBNe, Int.reduceNeg, Int.reduceToNat, csAll, ↓reduceIte, C26_1, h0, h1, h2, h5, d3, d3', e1, e2]
        rfl
      · simp
      · exact ⟨rfl, .inr ⟨rfl, by rintro rfl; exact q rfl, by simp [upd_apply]⟩⟩
  · apply step_out (x := .exit 0)
    · rw [← h0] at h2
      simp (disch := first | omega | rfl | assumption | (simp only [csN, Nat.reduceAdd, Nat.reduceMul, Nat.reduceLeDiff, Nat.reduceEqDiff] <;> omega) | (simp only [csF]; done) | (simp only [csF] <;> assumption) | fail) only [Nat.reduceEqDiff, Nat.reduceAdd, Nat.reduceMul, Nat.reduceSub, Nat.reduceLeDiff, Int.reduceAdd, Int.reduceSub, Int.reduceMul, Int.reduceLT, Int.reduceLE, Int.reduceGT, Int.reduceGE, Int.reduceEq, Int.reduceBEq, Int.reduceBNe, Int.reduceNeg, Int.reduceToNat, csAll, ↓reduceIte, C26_1, h2, h5]
      rfl
    · simp
    · refine ⟨rfl, .inl ⟨rfl, ?_⟩⟩
      apply List.ext_getElem?
      intro j
      by_cases hjl : j < l.length
      · exact hj j (by omega)
      · rw [List.getElem?_eq_none (by omega), List.getElem?_eq_none (by omega)]

/-- ints. -/
theorem f26 (a : At o t H v 1 l.length (Go.Cs.ints l)) (a' : At o' t' H v' 1 l'.length (Go.Cs.ints l')) (hm : l.length ≤ 16777216) : run P 26 [v, v'] H = some (.bool (decide (l = l')), H) := by
  have h2 := a.len
  have h2' := a'.len
  rw [run_lv c26]
  by_cases hl : l.length = l'.length
  · simp (disch := first | omega | rfl | assumption | (simp only [csN, Nat.reduceAdd, Nat.reduceMul, Nat.reduceLeDiff, Nat.reduceEqDiff] <;> omega) | (simp only [csF]; done) | (simp only [csF] <;> assumption) | fail) only [Nat.reduceEqDiff, Nat.reduceAdd, Nat.reduceMul, Nat.reduceSub, Nat.reduceLeDiff, Int.reduceAdd, Int.reduceSub, Int.reduceMul, Int.reduceLT, Int.reduceLE, Int.reduceGT, Int.reduceGE, Int.reduceEq, Int.reduceBEq, Int.reduceBNe, Int.reduceNeg, Int.reduceToNat, csAll, ↓reduceIte, C26, entry_2, h2, h2']
    generalize hr : den P (.loop C26_1) _ _ = r
    obtain ⟨x, E', H', e, hx, rfl, hp⟩ := (f26_1 a a' hl hm).at hr _ ⟨by simp [upd_apply], by simp [upd_apply], rfl, 0, by simp [upd_apply], by omega, rfl, fun j hj => by omega⟩
    subst e
    rcases hp with ⟨rfl, he⟩ | ⟨rfl, he, h4⟩
    · have hd : decide (l = l') = true := decide_eq_true he
      simp (disch := first | omega | rfl | assumption | (simp only [csN, Nat.reduceAdd, Nat.reduceMul, Nat.reduceLeDiff, Nat.reduceEqDiff] <;> omega) | (simp only [csF]; done) | (simp only [csF] <;> assumption) | fail) only [Nat.reduceEqDiff, Nat.reduceAdd, Nat.reduceMul, Nat.reduceSub, Nat.reduceLeDiff, Int.reduceAdd, Int.reduceSub, Int.reduceMul, Int.reduceLT, Int.reduceLE, Int.reduceGT, Int.reduceGE, Int.reduceEq, Int.reduceBEq, Int.reduceBNe, Int.reduceNeg, Int.reduceToNat, csAll, ↓reduceIte, hd]
    · have hd : decide (l = l') = false := decide_eq_false he
      simp (disch := first | omega | rfl | assumption | (simp only [csN, Nat.reduceAdd, Nat.reduceMul, Nat.reduceLeDiff, Nat.reduceEqDiff] <;> omega) | (simp only [csF]; done) | (simp only [csF] <;> assumption) | fail) only [Nat.reduceEqDiff, Nat.reduceAdd, Nat.reduceMul, Nat.reduceSub, Nat.reduceLeDiff, Int.reduceAdd, Int.reduceSub, Int.reduceMul, Int.reduceLT, Int.reduceLE, Int.reduceGT, Int.reduceGE, Int.reduceEq, Int.reduceBEq, Int.reduceBNe, Int.reduceNeg, Int.reduceToNat, csAll, ↓reduceIte, hd, h4]
  · have hd : decide (l = l') = false := decide_eq_false (fun h => hl (by rw [h]))
    simp (disch := first | omega | rfl | assumption | (simp only [csN, Nat.reduceAdd, Nat.reduceMul, Nat.reduceLeDiff, Nat.reduceEqDiff] <;> omega) | (simp only [csF]; done) | (simp only [csF] <;> assumption) | fail) only [Nat.reduceEqDiff, Nat.reduceAdd, Nat.reduceMul, Nat.reduceSub, Nat.reduceLeDiff, Int.reduceAdd, Int.reduceSub, Int.reduceMul, Int.reduceLT, Int.reduceLE, Int.reduceGT, Int.reduceGE, Int.reduceEq, Int.reduceBEq, Int.reduceBNe, Int.reduceNeg, Int.reduceToNat, csAll, ↓reduceIte, C26, entry_2, h2, h2', hd]
end
end Go.Cs.Try

/- The walk of kept: its parts. -/
namespace Go.Cs
open Go

theorem At.grow {o : Tags} {t : Tag} {H H' : CHeap} {v : CV} {e n : Nat} {cs : List CV} (h : At o t H v e n cs) (hf : ∀ c, c < H.length → o c = some t → H'[c]? = H[c]?) : At o t H' v e n cs := by
  rcases h with h | ⟨b, tl, rfl, h1, h2, h3⟩
  · exact .inl h
  · exact .inr ⟨b, tl, rfl, h1, by rw [hf b (lt_of_get h2) h1, h2], h3⟩
theorem At.app {o : Tags} {t : Tag} {H : CHeap} {v : CV} {e n : Nat} {cs : List CV} (h : At o t H v e n cs) (J : CHeap) : At o t (H ++ J) v e n cs := h.grow fun _ hc _ => List.getElem?_append_left hc

/-- A stack of integers in memory that is newer than B. -/
def Stk (B : Nat) (H : CHeap) (sv : CV) (st : List Int) : Prop :=
  (st = [] ∧ sv = .nilSlice) ∨ ∃ lb cap cs, sv = .slice lb 0 st.length cap 1 true ∧ B ≤ lb ∧ H[lb]? = some ⟨cs, .rw, 1⟩ ∧ cs.length = cap ∧ cs.take st.length = ints st ∧ st.length ≤ cap

theorem Stk.push {B : Nat} {H : CHeap} {sv : CV} {st : List Int} (h : Stk B H sv st) (hm : st.length + 1 ≤ maxEls) (hB : B ≤ H.length) (v : Int) :
    ∃ sv' H', appendTo H 1 sv 1 [.i v] = some (sv', H') ∧ leaf sv' = true ∧ Stk B H' sv' (st ++ [v]) ∧ H.length ≤ H'.length ∧ ∀ c, c < B → H'[c]? = H[c]? := by
  rcases h with ⟨rfl, rfl⟩ | ⟨lb, cap, cs, rfl, h1, h5, h6, h7, h8⟩
  · refine ⟨.slice H.length 0 1 1 1 true, H ++ [⟨[.i v], .rw, 1⟩], ?_, rfl, .inr ⟨H.length, 1, [.i v], rfl, hB, by simp, rfl, rfl, by simp⟩, by simp, fun c hc => by rw [List.getElem?_append_left (by omega)]⟩
    unfold appendTo
    dsimp only
    rw [if_neg (by omega), if_pos (by simp at hm; exact hm)]
  · have hb := lt_of_get h5
    by_cases hc : st.length + 1 ≤ cap
    · refine ⟨.slice lb 0 (st.length + 1) cap 1 true, H.set lb ⟨cs.set st.length (.i v), .rw, 1⟩, ?_, rfl, .inr ⟨lb, cap, cs.set st.length (.i v), by simp, h1, ?_, by simp [h6], ?_, by simpa using hc⟩, by simp, ?_⟩
      · unfold appendTo
        dsimp only
        rw [if_neg (by omega), if_pos hc, Nat.zero_add, Nat.mul_one, storeN_stN, h5, stN_1 rfl (by omega)]
        rfl
      · rw [List.getElem?_set_self hb]
      · simp only [List.length_append, List.length_singleton]
        rw [ints_app, ← h7, List.take_succ_eq_append_getElem (by simp; omega)]
        rw [List.take_set_of_le (by omega)]
        simp [ints]
      · intro c hc'
        rw [List.getElem?_set_ne (by omega)]
    · have hl : (if st.length = 0 then some [] else loadN H lb 0 (st.length * 1)) = some (ints st) := by
        by_cases hz : st.length = 0
        · rw [if_pos hz]
          have : st = [] := List.eq_nil_of_length_eq_zero hz
          subst this; rfl
        · rw [if_neg hz, loadN_ldN, h5, ldN_rw, if_pos (by omega), Nat.mul_one, List.drop_zero, h7]
      refine ⟨.slice H.length 0 (st.length + 1) (st.length + 1) 1 true, H.set lb ⟨cs, .dead, 1⟩ ++ [⟨ints st ++ [.i v], .rw, 1⟩], ?_, rfl, .inr ⟨H.length, st.length + 1, ints st ++ [.i v], by simp, hB, ?_, by simp [ints_len], ?_, by simp⟩, by simp, ?_⟩
      · unfold appendTo
        dsimp only
        rw [if_neg (by omega), if_neg hc, if_pos hm, hl, Option.bind_some, if_pos rfl, h5]
        dsimp only
        rw [if_pos ⟨rfl, rfl, by omega, rfl⟩]
      · rw [List.getElem?_append_right (by simp)]; simp
      · rw [List.take_of_length_le (by simp [ints_len]), ints_app]; rfl
      · intro c hc'
        rw [List.getElem?_append_left (by simp; omega), List.getElem?_set_ne (by omega)]

theorem Stk.frame {B : Nat} {H H' : CHeap} {sv : CV} {st : List Int} (h : Stk B H sv st) (hf : ∀ c, c < H.length → B ≤ c → H'[c]? = H[c]?) : Stk B H' sv st := by
  rcases h with h | ⟨lb, cap, cs, e, h1, h5, h6, h7, h8⟩
  · exact .inl h
  · exact .inr ⟨lb, cap, cs, e, h1, by rw [hf lb (lt_of_get h5) h1, h5], h6, h7, h8⟩

def bools (l : List Bool) : List CV := l.map CV.bool
theorem bools_len (l : List Bool) : (bools l).length = l.length := by simp [bools]
theorem bools_get (l : List Bool) (i : Nat) : (bools l)[i]? = l[i]?.map CV.bool := by simp [bools]
theorem bools_set (l : List Bool) (i : Nat) (v : Bool) : bools (l.set i v) = (bools l).set i (.bool v) := by simp [bools, List.map_set]

/-- The state of the search in memory. -/
structure KS (H0 : CHeap) (b3 b4 ob : Nat) (H : CHeap) (s : KSt) : Prop where
  low : ∀ c, c < H0.length → c ≠ b3 → c ≠ b4 → c ≠ ob → H[c]? = H0[c]?
  bs : b3 < H0.length ∧ b4 < H0.length ∧ ob < H0.length ∧ b3 ≠ b4 ∧ b3 ≠ ob ∧ b4 ≠ ob
  len : H0.length ≤ H.length
  o3 : H[b3]? = some ⟨[.slice ob 0 s.1.length s.1.length 1 false], .rw, 0⟩
  oo : H[ob]? = some ⟨bools s.1, .rw, 1⟩
  o4 : ∃ sv, H[b4]? = some ⟨[sv], .rw, 0⟩ ∧ Stk H0.length H sv s.2

theorem KS.app {H0 : CHeap} {b3 b4 ob : Nat} {H : CHeap} {s : KSt} (k : KS H0 b3 b4 ob H s) (J : CHeap) : KS H0 b3 b4 ob (H ++ J) s := by
  have h3 := lt_of_get k.o3
  have ho := lt_of_get k.oo
  obtain ⟨sv, h4, h5⟩ := k.o4
  have hl4 := lt_of_get h4
  have hl := k.len
  exact ⟨fun c hc d3 d4 d5 => by rw [List.getElem?_append_left (by omega), k.low c hc d3 d4 d5], k.bs, by simp; omega, by rw [List.getElem?_append_left h3, k.o3], by rw [List.getElem?_append_left ho, k.oo], sv, by rw [List.getElem?_append_left hl4, h4], h5.frame (fun c hc _ => List.getElem?_append_left hc)⟩
end Go.Cs
namespace Go.Cs.Try
open Go Go.Cs
set_option maxRecDepth 100000
section
/-- slices.Clone of a list of lists. -/
theorem f73 {H : CHeap} {v : CV} {n : Nat} {cs : List CV} (hv : v = .nilSlice ∧ n = 0 ∧ cs = [] ∨ ∃ b f l c z t, v = .slice b f l c z t) (he : ∀ J, elems (H ++ J) 1 v = some (n, cs)) (hc : cs.length = n) (hl : cs.all leaf = true) (hn : n ≤ maxEls) :
    ∃ v' J, run P 73 [v] H = some (v', H ++ J) ∧ At (Loc H.length) z3 (H ++ J) v' 1 n cs := by
  rcases hv with ⟨rfl, rfl, rfl⟩ | ⟨b, f, l, c, z, t, rfl⟩
  · refine ⟨.nilSlice, [], ?_, .inl ⟨rfl, rfl, .inl rfl⟩⟩
    rw [run_lv c73, List.append_nil]
    have e : ∀ H, vEqv false 2 .nilSlice .nilSlice H = some (.bool true, H) := fun _ => rfl
    simp (disch := first | omega | rfl | assumption | (simp only [csN, Nat.reduceAdd, Nat.reduceMul, Nat.reduceLeDiff, Nat.reduceEqDiff] <;> omega) | (simp only [csF]; done) | (simp only [csF] <;> assumption) | fail) only [Nat.reduceEqDiff, Nat.reduceAdd, Nat.reduceMul, Nat.reduceSub, Nat.reduceLeDiff, Int.reduceAdd, Int.reduceSub, Int.reduceMul, Int.reduceLT, Int.reduceLE, Int.reduceGT, Int.reduceGE, Int.reduceEq, Int.reduceBEq, Int.reduceBNe, Int.reduceNeg, Int.reduceToNat, csAll, ↓reduceIte, C73, entry_1, e]
  · have e : ∀ H, vEqv false 2 (.slice b f l c z t) .nilSlice H = some (.bool false, H) := fun _ => rfl
    have he' := he [⟨[], .rw, 1⟩]
    have ha : At (Loc H.length) z3 (H ++ [⟨[], .rw, 1⟩]) (.slice H.length 0 0 0 1 false) 1 0 [] := .inl ⟨rfl, rfl, .inr ⟨_, _, rfl⟩⟩
    rcases Nat.eq_zero_or_pos n with rfl | hp
    · have : cs = [] := List.eq_nil_of_length_eq_zero hc
      subst this
      refine ⟨.slice H.length 0 0 0 1 false, [⟨[], .rw, 1⟩], ?_, ?_⟩
      · rw [run_lv c73]
        have ea : ∀ H', appendTo H' 1 (.slice H.length 0 0 0 1 false) 0 [] = some (.slice H.length 0 0 0 1 false, H') := fun _ => rfl
        simp (disch := first | omega | rfl | assumption | (simp only [csN, Nat.reduceAdd, Nat.reduceMul, Nat.reduceLeDiff, Nat.reduceEqDiff] <;> omega) | (simp only [csF]; done) | (simp only [csF] <;> assumption) | fail) only [Nat.reduceEqDiff, Nat.reduceAdd, Nat.reduceMul, Nat.reduceSub, Nat.reduceLeDiff, Int.reduceAdd, Int.reduceSub, Int.reduceMul, Int.reduceLT, Int.reduceLE, Int.reduceGT, Int.reduceGE, Int.reduceEq, Int.reduceBEq, Int.reduceBNe, Int.reduceNeg, Int.reduceToNat, csAll, ↓reduceIte, C73, entry_1, e, he', ea]
      · exact .inl ⟨rfl, rfl, .inr ⟨_, _, rfl⟩⟩
    · have ea : appendTo (H ++ [⟨[], .rw, 1⟩]) 1 (.slice H.length 0 0 0 1 false) n cs = some (.slice (H.length + 1) 0 n n 1 true, H ++ [⟨[], .rw, 1⟩] ++ [⟨cs, .rw, 1⟩]) := by
        unfold appendTo
        dsimp only
        rw [if_neg (by omega), if_neg (by omega), if_pos (by omega)]
        simp
      refine ⟨.slice (H.length + 1) 0 n n 1 true, [⟨[], .rw, 1⟩, ⟨cs, .rw, 1⟩], ?_, ?_⟩
      · rw [run_lv c73]
        simp (disch := first | omega | rfl | assumption | (simp only [csN, Nat.reduceAdd, Nat.reduceMul, Nat.reduceLeDiff, Nat.reduceEqDiff] <;> omega) | (simp only [csF]; done) | (simp only [csF] <;> assumption) | fail) only [Nat.reduceEqDiff, Nat.reduceAdd, Nat.reduceMul, Nat.reduceSub, Nat.reduceLeDiff, Int.reduceAdd, Int.reduceSub, Int.reduceMul, Int.reduceLT, Int.reduceLE, Int.reduceGT, Int.reduceGE, Int.reduceEq, Int.reduceBEq, Int.reduceBNe, Int.reduceNeg, Int.reduceToNat, csAll, ↓reduceIte, C73, entry_1, e, he', ea]
        simp
      · refine .inr ⟨_, _, rfl, ?_, ?_, by omega⟩
        · rw [Loc_some]; exact ⟨by omega, rfl⟩
        · rw [List.getElem?_append_right (by omega)]; simp


/-- softs. -/
theorem f50 {nr nd kd : Int} {H : CHeap} : run P 50 [.agg [.i nr, .i nd, .i kd]] H = some (.i (soft kd), H ++ [⟨[.i nr, .i nd, .i kd], .rw, 0⟩]) := by
  rw [run_lv c50]
  by_cases h1 : kd = 1
  · have hs : (soft kd : Int) = 1 := by unfold soft; rw [if_pos h1]; rfl
    simp (disch := first | omega | rfl | assumption | (simp only [csN, Nat.reduceAdd, Nat.reduceMul, Nat.reduceLeDiff, Nat.reduceEqDiff] <;> omega) | (simp only [csF]; done) | (simp only [csF] <;> assumption) | fail) only [Nat.reduceEqDiff, Nat.reduceAdd, Nat.reduceMul, Nat.reduceSub, Nat.reduceLeDiff, Int.reduceAdd, Int.reduceSub, Int.reduceMul, Int.reduceLT, Int.reduceLE, Int.reduceGT, Int.reduceGE, Int.reduceEq, Int.reduceBEq, Int.reduceBNe, Int.reduceNeg, Int.reduceToNat, csAll, ↓reduceIte, C50, entry_1, hs]
  · by_cases h2 : kd = 2
    · have hs : (soft kd : Int) = 2 := by unfold soft; rw [if_neg h1, if_pos h2]; rfl
      simp (disch := first | omega | rfl | assumption | (simp only [csN, Nat.reduceAdd, Nat.reduceMul, Nat.reduceLeDiff, Nat.reduceEqDiff] <;> omega) | (simp only [csF]; done) | (simp only [csF] <;> assumption) | fail) only [Nat.reduceEqDiff, Nat.reduceAdd, Nat.reduceMul, Nat.reduceSub, Nat.reduceLeDiff, Int.reduceAdd, Int.reduceSub, Int.reduceMul, Int.reduceLT, Int.reduceLE, Int.reduceGT, Int.reduceGE, Int.reduceEq, Int.reduceBEq, Int.reduceBNe, Int.reduceNeg, Int.reduceToNat, csAll, ↓reduceIte, C50, entry_1, hs]
    · have hs : (soft kd : Int) = 0 := by unfold soft; rw [if_neg h1, if_neg h2]; rfl
      simp (disch := first | omega | rfl | assumption | (simp only [csN, Nat.reduceAdd, Nat.reduceMul, Nat.reduceLeDiff, Nat.reduceEqDiff] <;> omega) | (simp only [csF]; done) | (simp only [csF] <;> assumption) | fail) only [Nat.reduceEqDiff, Nat.reduceAdd, Nat.reduceMul, Nat.reduceSub, Nat.reduceLeDiff, Int.reduceAdd, Int.reduceSub, Int.reduceMul, Int.reduceLT, Int.reduceLE, Int.reduceGT, Int.reduceGE, Int.reduceEq, Int.reduceBEq, Int.reduceBNe, Int.reduceNeg, Int.reduceToNat, csAll, ↓reduceIte, C50, entry_1, hs]

theorem on_get {ks : List Bool} {v : Int} (h : v.toNat < ks.length) : (bools ks)[v.toNat]? = some (.bool (on ks v)) := by
  rw [bools_get, getD_of false h]; rfl

/-- Marking one. -/
theorem f72 {H0 : CHeap} {b3 b4 ob : Nat} {H : CHeap} {s : KSt} (k : KS H0 b3 b4 ob H s) {v : Int} (hv : 0 ≤ v ∧ v < s.1.length) (hm : s.2.length + 1 ≤ maxEls) :
    ∃ H', run P 72 [.i v, .ptr b3 0, .ptr b4 0] H = some (.tup [], H') ∧ KS H0 b3 b4 ob H' (reach s v) := by
  have h3 := k.o3
  have ho := k.oo
  have hl3 := lt_of_get h3
  have hlo := lt_of_get ho
  have hg := on_get (ks := s.1) (v := v) (by omega)
  have hd := k.bs
  by_cases hz : v = 0
  · refine ⟨H, ?_, by unfold reach; rw [if_neg (fun h => h.1 hz)]; exact k⟩
    rw [run_lv c72]
    simp (disch := first | omega | rfl | assumption | (simp only [csN, Nat.reduceAdd, Nat.reduceMul, Nat.reduceLeDiff, Nat.reduceEqDiff] <;> omega) | (simp only [csF]; done) | (simp only [csF] <;> assumption) | fail) only [Nat.reduceEqDiff, Nat.reduceAdd, Nat.reduceMul, Nat.reduceSub, Nat.reduceLeDiff, Int.reduceAdd, Int.reduceSub, Int.reduceMul, Int.reduceLT, Int.reduceLE, Int.reduceGT, Int.reduceGE, Int.reduceEq, Int.reduceBEq, Int.reduceBNe, Int.reduceNeg, Int.reduceToNat, csAll, ↓reduceIte, C72, entry_3]
  · cases hon : on s.1 v with
    | true =>
      rw [hon] at hg
      refine ⟨H, ?_, by unfold reach; rw [if_neg (fun h => by rw [hon] at h; cases h.2)]; exact k⟩
      rw [run_lv c72]
      simp (disch := first | omega | rfl | assumption | (simp only [csN, Nat.reduceAdd, Nat.reduceMul, Nat.reduceLeDiff, Nat.reduceEqDiff] <;> omega) | (simp only [csF]; done) | (simp only [csF] <;> assumption) | fail) only [Nat.reduceEqDiff, Nat.reduceAdd, Nat.reduceMul, Nat.reduceSub, Nat.reduceLeDiff, Int.reduceAdd, Int.reduceSub, Int.reduceMul, Int.reduceLT, Int.reduceLE, Int.reduceGT, Int.reduceGE, Int.reduceEq, Int.reduceBEq, Int.reduceBNe, Int.reduceNeg, Int.reduceToNat, csAll, ↓reduceIte, C72, entry_3, h3, ho, hg]
    | false =>
      rw [hon] at hg
      obtain ⟨sv, h4, h5⟩ := k.o4
      have hl4 := lt_of_get h4
      have hb : (bools s.1).length = s.1.length := bools_len _
      have hk := k.len
      have hst : Stk H0.length (H.set ob ⟨(bools s.1).set v.toNat (.bool true), .rw, 1⟩ ++ [⟨[.i v], .rw, 1⟩]) sv s.2 := h5.frame (fun c hc h => by
        rw [List.getElem?_append_left (by simpa using hc), List.getElem?_set_ne (by omega)])
      obtain ⟨sv', H', a1, a2, a3, a4, a5⟩ := hst.push hm (by simp; omega) v
      have hlen : (H.set ob ⟨(bools s.1).set v.toNat (.bool true), .rw, 1⟩ ++ [⟨[.i v], .rw, 1⟩] : CHeap).length = H.length + 1 := by simp
      rw [hlen] at a4
      have c3 : H'[b3]? = some ⟨[.slice ob 0 s.1.length s.1.length 1 false], .rw, 0⟩ := by rw [a5 b3 hd.1]; simp (disch := first | omega | rfl | assumption | (simp only [csN, Nat.reduceAdd, Nat.reduceMul, Nat.reduceLeDiff, Nat.reduceEqDiff] <;> omega) | (simp only [csF]; done) | (simp only [csF] <;> assumption) | fail) only [Nat.reduceEqDiff, Nat.reduceAdd, Nat.reduceMul, Nat.reduceSub, Nat.reduceLeDiff, Int.reduceAdd, Int.reduceSub, Int.reduceMul, Int.reduceLT, Int.reduceLE, Int.reduceGT, Int.reduceGE, Int.reduceEq, Int.reduceBEq, Int.reduceBNe, Int.reduceNeg, Int.reduceToNat, csAll, ↓reduceIte, h3]
      have co : H'[ob]? = some ⟨(bools s.1).set v.toNat (.bool true), .rw, 1⟩ := by rw [a5 ob hd.2.2.1]; simp (disch := first | omega | rfl | assumption | (simp only [csN, Nat.reduceAdd, Nat.reduceMul, Nat.reduceLeDiff, Nat.reduceEqDiff] <;> omega) | (simp only [csF]; done) | (simp only [csF] <;> assumption) | fail) only [Nat.reduceEqDiff, Nat.reduceAdd, Nat.reduceMul, Nat.reduceSub, Nat.reduceLeDiff, Int.reduceAdd, Int.reduceSub, Int.reduceMul, Int.reduceLT, Int.reduceLE, Int.reduceGT, Int.reduceGE, Int.reduceEq, Int.reduceBEq, Int.reduceBNe, Int.reduceNeg, Int.reduceToNat, csAll, ↓reduceIte]
      have c4 : H'[b4]? = some ⟨[sv], .rw, 0⟩ := by rw [a5 b4 hd.2.1]; simp (disch := first | omega | rfl | assumption | (simp only [csN, Nat.reduceAdd, Nat.reduceMul, Nat.reduceLeDiff, Nat.reduceEqDiff] <;> omega) | (simp only [csF]; done) | (simp only [csF] <;> assumption) | fail) only [Nat.reduceEqDiff, Nat.reduceAdd, Nat.reduceMul, Nat.reduceSub, Nat.reduceLeDiff, Int.reduceAdd, Int.reduceSub, Int.reduceMul, Int.reduceLT, Int.reduceLE, Int.reduceGT, Int.reduceGE, Int.reduceEq, Int.reduceBEq, Int.reduceBNe, Int.reduceNeg, Int.reduceToNat, csAll, ↓reduceIte, h4]
      have hr : reach s v = (s.1.set v.toNat true, s.2 ++ [v]) := by unfold reach; rw [if_pos ⟨hz, hon⟩]
      refine ⟨H'.set b4 ⟨[sv'], .rw, 0⟩, ?_, ?_⟩
      · rw [run_lv c72]
        simp (disch := first | omega | rfl | assumption | (simp only [csN, Nat.reduceAdd, Nat.reduceMul, Nat.reduceLeDiff, Nat.reduceEqDiff] <;> omega) | (simp only [csF]; done) | (simp only [csF] <;> assumption) | fail) only [Nat.reduceEqDiff, Nat.reduceAdd, Nat.reduceMul, Nat.reduceSub, Nat.reduceLeDiff, Int.reduceAdd, Int.reduceSub, Int.reduceMul, Int.reduceLT, Int.reduceLE, Int.reduceGT, Int.reduceGE, Int.reduceEq, Int.reduceBEq, Int.reduceBNe, Int.reduceNeg, Int.reduceToNat, csAll, ↓reduceIte, C72, entry_3, h3, ho, hg, hb, h4, a1, c4]
      · rw [hr]
        refine ⟨fun c hc d3 d4 d5 => ?_, k.bs, by simp; omega, ?_, ?_, sv', ?_, a3.frame (fun c _ h => List.getElem?_set_ne (by omega))⟩
        · rw [List.getElem?_set_ne (by omega), a5 c hc, ← k.low c hc d3 d4 d5]
          simp (disch := first | omega | rfl | assumption | (simp only [csN, Nat.reduceAdd, Nat.reduceMul, Nat.reduceLeDiff, Nat.reduceEqDiff] <;> omega) | (simp only [csF]; done) | (simp only [csF] <;> assumption) | fail) only [Nat.reduceEqDiff, Nat.reduceAdd, Nat.reduceMul, Nat.reduceSub, Nat.reduceLeDiff, Int.reduceAdd, Int.reduceSub, Int.reduceMul, Int.reduceLT, Int.reduceLE, Int.reduceGT, Int.reduceGE, Int.reduceEq, Int.reduceBEq, Int.reduceBNe, Int.reduceNeg, Int.reduceToNat, csAll, ↓reduceIte]
        · rw [List.getElem?_set_ne (Ne.symm hd.2.2.2.1), c3]; simp
        · rw [List.getElem?_set_ne hd.2.2.2.2.2, co, bools_set]
        · rw [List.getElem?_set_self (by omega)]

theorem reaches_take {s : KSt} {l : List Int} {i : Nat} (h : i < l.length) : reaches s (l.take (i + 1)) = reach (reaches s (l.take i)) (l.getD i 0) := by
  unfold reaches
  rw [List.take_succ_eq_append_getElem h, List.foldl_append]
  simp [List.getD_eq_getElem?_getD, h]

/-- The references of one object. -/
theorem l42_2 {H0 : CHeap} {b3 b4 ob : Nat} {s : KSt} {n : Nat} (hk : KOk n s) (hn : n ≤ 100000) {lst full : List Int} {rb off cap : Nat} {tl : Bool} (hsz : lst.length ≤ 100000) (hl : ∀ v ∈ lst, 0 ≤ v ∧ v ≤ (n : Int)) (hr : lst ≠ [] → rb < H0.length ∧ rb ≠ b3 ∧ rb ≠ b4 ∧ rb ≠ ob ∧ H0[rb]? = some ⟨Go.Cs.ints full, .rw, 1⟩) (hf : lst = full.drop off) (E0 : Env) :
    LoopOk P C42_2 (fun k E H => E 5 = .func 72 [.ptr b3 0, .ptr b4 0] ∧ (lst ≠ [] → E 81 = .slice rb off lst.length cap 1 tl) ∧ E 82 = .i lst.length ∧ ∃ i : Nat, E 83 = .i i ∧ i ≤ lst.length ∧ k = lst.length - i ∧ KS H0 b3 b4 ob H (reaches s (lst.take i)) ∧ ∀ t, t < 13 → E t = E0 t)
      (fun x E' H' => x = .exit 8 ∧ KS H0 b3 b4 ob H' (reaches s lst) ∧ ∀ t, t < 13 → E' t = E0 t) := by
  refine loop_ind ?_
  rintro k E H ⟨h5, h81, h82, i, h83, hi, rfl, K, hE⟩
  by_cases c : i < lst.length
  · have hne : lst ≠ [] := by rintro rfl; simp at c
    obtain ⟨r1, r2, r3, r4, r5⟩ := hr hne
    have h81' := h81 hne
    have hg : (Go.Cs.ints full)[off + i]? = some (.i (lst.getD i 0)) := by
      rw [ints_get]
      have : full[off + i]? = lst[i]? := by rw [hf, List.getElem?_drop]
      rw [this, getD_of 0 c]; rfl
    have hb : H[rb]? = some ⟨Go.Cs.ints full, .rw, 1⟩ := by rw [K.low rb r1 r2 r3 r4, r5]
    have hx := hl _ (List.mem_of_getElem? (getD_of (l := lst) (i := i) 0 c))
    obtain ⟨k1, -⟩ := hk.reaches (l := lst.take i) (fun v hv => hl v (List.mem_of_mem_take hv))
    have hlen := k1.len
    have hfew := k1.few
    obtain ⟨H', e1, K'⟩ := f72 K (v := lst.getD i 0) (by omega) (Nat.le_trans (by omega : _ ≤ 100002) (by decide))
    rw [← reaches_take c] at K'
    apply step_go (k' := lst.length - (i + 1))
    · have hw : IntKind.i64.wrap ((i : Int) + 1) = ((i + 1 : Nat) : Int) := by rw [wrap_id (by omega)]; rfl
      simp (disch := first | omega | rfl | assumption | (simp only [csN, Nat.reduceAdd, Nat.reduceMul, Nat.reduceLeDiff, Nat.reduceEqDiff] <;> omega) | (simp only [csF]; done) | (simp only [csF] <;> assumption) | fail) only [Nat.reduceEqDiff, Nat.reduceAdd, Nat.reduceMul, Nat.reduceSub, Nat.reduceLeDiff, Int.reduceAdd, Int.reduceSub, Int.reduceMul, Int.reduceLT, Int.reduceLE, Int.reduceGT, Int.reduceGE, Int.reduceEq, Int.reduceBEq, Int.reduceBNe, Int.reduceNeg, Int.reduceToNat, csAll, ↓reduceIte, C42_2, h5, h81', h82, h83, hb, hg, e1, hw]
      rfl
    · omega
    · refine ⟨by simp [upd_apply, h5], fun _ => by simp [upd_apply, h81'], by simp [upd_apply, h82], i + 1, by simp [upd_apply], by omega, rfl, K', fun t ht => ?_⟩
      have := hE t ht
      simp only [upd_apply]
      rw [if_neg (by omega), if_neg (by omega), if_neg (by omega), if_neg (by omega), if_neg (by omega), if_neg (by omega), if_neg (by omega), if_neg (by omega), if_neg (by omega)]
      exact this
  · apply step_out (x := .exit 8)
    · simp (disch := first | omega | rfl | assumption | (simp only [csN, Nat.reduceAdd, Nat.reduceMul, Nat.reduceLeDiff, Nat.reduceEqDiff] <;> omega) | (simp only [csF]; done) | (simp only [csF] <;> assumption) | fail) only [Nat.reduceEqDiff, Nat.reduceAdd, Nat.reduceMul, Nat.reduceSub, Nat.reduceLeDiff, Int.reduceAdd, Int.reduceSub, Int.reduceMul, Int.reduceLT, Int.reduceLE, Int.reduceGT, Int.reduceGE, Int.reduceEq, Int.reduceBEq, Int.reduceBNe, Int.reduceNeg, Int.reduceToNat, csAll, ↓reduceIte, C42_2, h82, h83]
      rfl
    · simp
    · have : lst.take i = lst := List.take_of_length_le (by omega)
      rw [this] at K
      exact ⟨rfl, K, fun t ht => by simp only [upd_apply]; rw [if_neg (by omega)]; exact hE t ht⟩
end
end Go.Cs.Try

/- The walk of kept: its loops. -/
namespace Go.Cs
open Go
/-- A list that is read while a search runs. -/
structure RdL (H0 : CHeap) (b3 b4 ob : Nat) (v : CV) (l : List Int) : Prop where
  len : ∀ H, vLen v H = some (.i l.length, H)
  get : l ≠ [] → ∃ rb cap tl, v = .slice rb 0 l.length cap 1 tl ∧ rb < H0.length ∧ rb ≠ b3 ∧ rb ≠ b4 ∧ rb ≠ ob ∧ H0[rb]? = some ⟨ints l, .rw, 1⟩

theorem At.rd {o : Tags} {t : Tag} {H0 : CHeap} {v : CV} {l : List Int} {b3 b4 ob n : Nat} (a : At o t H0 v 1 n (ints l)) (hn : l.length = n) (h3 : o b3 = none) (h4 : o b4 = none) (ho : o ob = none) : RdL H0 b3 b4 ob v l := by
  subst hn
  refine ⟨a.len, fun hne => ?_⟩
  have hp : 0 < l.length := by
    cases l with
    | nil => exact absurd rfl hne
    | cons => simp
  obtain ⟨tl, d1, d2, d3, -⟩ := a.pos hp
  refine ⟨blkOf v, _, tl, d1, lt_of_get d3, ?_, ?_, ?_, d3⟩ <;> (intro e; rw [e] at d2; simp_all)

theorem KS.rep {o : Tags} {g : Nat} {b : Nat} {M : Mdl} {L : Lay} {H0 : CHeap} {b3 b4 ob : Nat} {H : CHeap} {s : KSt} (m : MRep o g H0 b M L) (k : KS H0 b3 b4 ob H s) (h3 : o b3 = none) (h4 : o b4 = none) (ho : o ob = none) : MRep o g H b M L :=
  m.frame (fun c t h => Nat.lt_of_lt_of_le (m.dom c t h) k.len) (fun _ _ h => h) (fun c t h => k.low c (m.dom c _ h) (by rintro rfl; rw [h3] at h; cases h) (by rintro rfl; rw [h4] at h; cases h) (by rintro rfl; rw [ho] at h; cases h))
end Go.Cs
namespace Go.Cs.Try
open Go Go.Cs
set_option maxRecDepth 100000
section
variable {H0 : CHeap} {b3 b4 ob : Nat}

/-- The places of one list. -/
theorem l42_5 {s : KSt} {n : Nat} (hk : KOk n s) (hn : n ≤ 100000) {lst : List Int} {v : CV} (hsz : lst.length ≤ 100000) (hl : ∀ v ∈ lst, 0 ≤ v ∧ v ≤ (n : Int)) (hr : RdL H0 b3 b4 ob v lst) (E0 : Env) :
    LoopOk P C42_5 (fun k E H => E 5 = .func 72 [.ptr b3 0, .ptr b4 0] ∧ E 44 = v ∧ E 45 = .i lst.length ∧ ∃ i : Nat, E 46 = .i i ∧ i ≤ lst.length ∧ k = lst.length - i ∧ KS H0 b3 b4 ob H (reaches s (lst.take i)) ∧ ∀ t, t < 7 ∨ (38 ≤ t ∧ t ≤ 40) → E t = E0 t)
      (fun x E' H' => x = .exit 2 ∧ KS H0 b3 b4 ob H' (reaches s lst) ∧ ∀ t, t < 7 ∨ (38 ≤ t ∧ t ≤ 40) → E' t = E0 t) := by
  refine loop_ind ?_
  rintro k E H ⟨h5, h44, h45, i, h46, hi, rfl, K, hE⟩
  by_cases c : i < lst.length
  · have hne : lst ≠ [] := by rintro rfl; simp at c
    obtain ⟨rb, cap, tl, r0, r1, r2, r3, r4, r5⟩ := hr.get hne
    have hv := h44
    rw [r0] at hv
    have hg : (Go.Cs.ints lst)[i]? = some (.i (lst.getD i 0)) := by rw [ints_get, getD_of 0 c]; rfl
    have hb : H[rb]? = some ⟨Go.Cs.ints lst, .rw, 1⟩ := by rw [K.low rb r1 r2 r3 r4, r5]
    have hx := hl _ (List.mem_of_getElem? (getD_of (l := lst) (i := i) 0 c))
    obtain ⟨k1, -⟩ := hk.reaches (l := lst.take i) (fun v hv => hl v (List.mem_of_mem_take hv))
    have hlen := k1.len
    have hfew := k1.few
    obtain ⟨H', e1, K'⟩ := f72 K (v := lst.getD i 0) (by omega) (Nat.le_trans (by omega : _ ≤ 100002) (by decide))
    rw [← reaches_take c] at K'
    apply step_go (k' := lst.length - (i + 1))
    · have hw : IntKind.i64.wrap ((i : Int) + 1) = ((i + 1 : Nat) : Int) := by rw [wrap_id (by omega)]; rfl
      simp (disch := first | omega | rfl | assumption | (simp only [csN, Nat.reduceAdd, Nat.reduceMul, Nat.reduceLeDiff, Nat.reduceEqDiff] <;> omega) | (simp only [csF]; done) | (simp only [csF] <;> assumption) | fail) only [Nat.reduceEqDiff, Nat.reduceAdd, Nat.reduceMul, Nat.reduceSub, Nat.reduceLeDiff, Int.reduceAdd, Int.reduceSub, Int.reduceMul, Int.reduceLT, Int.reduceLE, Int.reduceGT, Int.reduceGE, Int.reduceEq, Int.reduceBEq, Int.reduceBNe, Int.reduceNeg, Int.reduceToNat, csAll, ↓reduceIte, C42_5, h5, hv, h45, h46, hb, hg, e1, hw]
      rfl
    · omega
    · refine ⟨by simp [upd_apply, h5], by simp [upd_apply, h44], by simp [upd_apply, h45], i + 1, by simp [upd_apply], by omega, rfl, K', fun t ht => ?_⟩
      have := hE t ht
      simp only [upd_apply]
      rw [if_neg (by omega), if_neg (by omega), if_neg (by omega), if_neg (by omega), if_neg (by omega), if_neg (by omega), if_neg (by omega), if_neg (by omega), if_neg (by omega)]
      exact this
  · apply step_out (x := .exit 2)
    · simp (disch := first | omega | rfl | assumption | (simp only [csN, Nat.reduceAdd, Nat.reduceMul, Nat.reduceLeDiff, Nat.reduceEqDiff] <;> omega) | (simp only [csF]; done) | (simp only [csF] <;> assumption) | fail) only [Nat.reduceEqDiff, Nat.reduceAdd, Nat.reduceMul, Nat.reduceSub, Nat.reduceLeDiff, Int.reduceAdd, Int.reduceSub, Int.reduceMul, Int.reduceLT, Int.reduceLE, Int.reduceGT, Int.reduceGE, Int.reduceEq, Int.reduceBEq, Int.reduceBNe, Int.reduceNeg, Int.reduceToNat, csAll, ↓reduceIte, C42_5, h45, h46]
      rfl
    · simp
    · have : lst.take i = lst := List.take_of_length_le (by omega)
      rw [this] at K
      exact ⟨rfl, K, fun t ht => by simp only [upd_apply]; rw [if_neg (by omega)]; exact hE t ht⟩

theorem take_flatten {α : Type} {ls : List (List α)} {i : Nat} (h : i < ls.length) : (ls.take (i + 1)).flatten = (ls.take i).flatten ++ ls.getD i [] := by
  rw [List.take_succ_eq_append_getElem h, List.flatten_append]
  simp [List.getD_eq_getElem?_getD, h]

/-- The places of all lists. -/
theorem l42_6 {s : KSt} {n : Nat} (hk : KOk n s) (hn : n ≤ 100000) {ls : List (List Int)} {svs : List CV} {qb cap : Nat} {tl : Bool} (hsz : ls.length ≤ 100000 ∧ ∀ l ∈ ls, l.length ≤ 100000) (hl : ∀ l ∈ ls, ∀ v ∈ l, 0 ≤ v ∧ v ≤ (n : Int))
    (hq : qb < H0.length ∧ qb ≠ b3 ∧ qb ≠ b4 ∧ qb ≠ ob ∧ H0[qb]? = some ⟨svs, .rw, 1⟩) (hr : ∀ (i : Nat) (l : List Int), ls[i]? = some l → ∃ v, svs[i]? = some v ∧ RdL H0 b3 b4 ob v l) (E0 : Env) :
    LoopOk P C42_6 (fun k E H => E 5 = .func 72 [.ptr b3 0, .ptr b4 0] ∧ E 38 = .slice qb 0 ls.length cap 1 tl ∧ E 39 = .i ls.length ∧ ∃ i : Nat, E 40 = .i i ∧ i ≤ ls.length ∧ k = ls.length - i ∧ KS H0 b3 b4 ob H (reaches s (ls.take i).flatten) ∧ ∀ t, t < 7 → E t = E0 t)
      (fun x E' H' => x = .exit 0 ∧ KS H0 b3 b4 ob H' (reaches s ls.flatten) ∧ ∀ t, t < 7 → E' t = E0 t) := by
  refine loop_ind ?_
  rintro k E H ⟨h5, h38, h39, i, h40, hi, rfl, K, hE⟩
  by_cases c : i < ls.length
  · obtain ⟨r1, r2, r3, r4, r5⟩ := hq
    have hli := getD_of (l := ls) (i := i) [] c
    obtain ⟨v, hv, hrd⟩ := hr i _ hli
    have hb : H[qb]? = some ⟨svs, .rw, 1⟩ := by rw [K.low qb r1 r2 r3 r4, r5]
    obtain ⟨k1, -⟩ := hk.reaches (l := (ls.take i).flatten) (fun v hv => by
      simp only [List.mem_flatten] at hv
      obtain ⟨l, h1, h2⟩ := hv
      exact hl l (List.mem_of_mem_take h1) v h2)
    have hmem := List.mem_of_getElem? hli
    have hlen := hrd.len
    have L5 := l42_5 k1 hn (hsz.2 _ hmem) (hl _ hmem) hrd
    have hw : IntKind.i64.wrap ((i : Int) + 1) = ((i + 1 : Nat) : Int) := by rw [wrap_id (by omega)]; rfl
    generalize hg : ls.getD i [] = lst at *
    -- the inner loop
    obtain ⟨x, E2, H2, e2, -, rfl, K2, hE2⟩ := L5 ((((((((E.upd 41 (.bool true)).upd 42 (.ptr qb i)).upd 43 v).upd 7 v).upd 44 v).upd 45 (.i lst.length)).upd 46 (.i 0))) lst.length
      ((((((((E.upd 41 (.bool true)).upd 42 (.ptr qb i)).upd 43 v).upd 7 v).upd 44 v).upd 45 (.i lst.length)).upd 46 (.i 0))) H
      ⟨by simp [upd_apply, h5], by simp [upd_apply], by simp [upd_apply], 0, by simp [upd_apply], by omega, by omega, K, fun t ht => rfl⟩
    rw [← reaches_append, ← hg, ← take_flatten c] at K2
    have q5 := hE2 5 (by omega)
    have q38 := hE2 38 (by omega)
    have q39 := hE2 39 (by omega)
    have q40 := hE2 40 (by omega)
    simp [upd_apply, h5, h38, h39, h40] at q5 q38 q39 q40
    apply step_go (k' := ls.length - (i + 1))
    · simp (disch := first | omega | rfl | assumption | (simp only [csN, Nat.reduceAdd, Nat.reduceMul, Nat.reduceLeDiff, Nat.reduceEqDiff] <;> omega) | (simp only [csF]; done) | (simp only [csF] <;> assumption) | fail) only [Nat.reduceEqDiff, Nat.reduceAdd, Nat.reduceMul, Nat.reduceSub, Nat.reduceLeDiff, Int.reduceAdd, Int.reduceSub, Int.reduceMul, Int.reduceLT, Int.reduceLE, Int.reduceGT, Int.reduceGE, Int.reduceEq, Int.reduceBEq, Int.reduceBNe, Int.reduceNeg, Int.reduceToNat, csAll, ↓reduceIte, C42_6, h38, h39, h40, hb, hv, hlen, e2, q40, hw]
      rfl
    · omega
    · refine ⟨by simp [upd_apply, q5], by simp [upd_apply, q38], by simp [upd_apply, q39], i + 1, by simp [upd_apply], by omega, rfl, K2, fun t ht => ?_⟩
      have h1 := hE t ht
      have h2 := hE2 t (.inl ht)
      simp only [upd_apply] at h2 ⊢
      rw [if_neg (by omega), if_neg (by omega), if_neg (by omega), if_neg (by omega), if_neg (by omega), if_neg (by omega), if_neg (by omega)] at h2
      rw [if_neg (by omega), if_neg (by omega), h2, h1]
  · apply step_out (x := .exit 0)
    · simp (disch := first | omega | rfl | assumption | (simp only [csN, Nat.reduceAdd, Nat.reduceMul, Nat.reduceLeDiff, Nat.reduceEqDiff] <;> omega) | (simp only [csF]; done) | (simp only [csF] <;> assumption) | fail) only [Nat.reduceEqDiff, Nat.reduceAdd, Nat.reduceMul, Nat.reduceSub, Nat.reduceLeDiff, Int.reduceAdd, Int.reduceSub, Int.reduceMul, Int.reduceLT, Int.reduceLE, Int.reduceGT, Int.reduceGE, Int.reduceEq, Int.reduceBEq, Int.reduceBNe, Int.reduceNeg, Int.reduceToNat, csAll, ↓reduceIte, C42_6, h39, h40]
      rfl
    · simp
    · have : ls.take i = ls := List.take_of_length_le (by omega)
      rw [this] at K
      exact ⟨rfl, K, fun t ht => by simp only [upd_apply]; rw [if_neg (by omega)]; exact hE t ht⟩
end
end Go.Cs.Try

/- The walk of kept: the search. -/
namespace Go.Cs
open Go
/-- The rest of a list behind some elements. -/
theorem At.drop {o : Tags} {t : Tag} {H0 : CHeap} {v : CV} {l : List Int} (a : At o t H0 v 1 l.length (ints l)) {j : Nat} (hj : j ≤ l.length) :
    ∃ v', (sliceV 1 v (some (.i j)) none none = some v') ∧ (∀ H, vLen v' H = some (.i (l.drop j).length, H)) ∧
      (l.drop j ≠ [] → ∃ rb cap tl, v' = .slice rb j (l.drop j).length cap 1 tl ∧ o rb = some t ∧ H0[rb]? = some ⟨ints l, .rw, 1⟩) := by
  rcases a with ⟨h1, h2, rfl | ⟨b, f, rfl⟩⟩ | ⟨b, tl, rfl, h1, h2, h3⟩
  · have hl : l = [] := List.eq_nil_of_length_eq_zero h1
    subst hl
    have : j = 0 := by simpa using hj
    subst this
    refine ⟨.nilSlice, ?_, fun H => rfl, fun h => absurd rfl h⟩
    simp [sliceV, sliceBndsV, boundOV, boundV]
  · have hl : l = [] := List.eq_nil_of_length_eq_zero h1
    subst hl
    have : j = 0 := by simpa using hj
    subst this
    refine ⟨.slice b f 0 0 1 false, ?_, fun H => rfl, fun h => absurd rfl h⟩
    simp [sliceV, sliceBndsV, boundOV, boundV]
  · refine ⟨.slice b j (l.length - j) (l.length - j) 1 tl, ?_, fun H => by simp [vLen], fun _ => ⟨b, l.length - j, tl, by simp, h1, h2⟩⟩
    simp [sliceV, sliceBndsV, boundOV, boundV]
    rw [if_pos (by omega)]
    simp

theorem snoc_of {α : Type} {l : List α} (h : 0 < l.length) : ∃ k x, l = k ++ [x] := by
  refine ⟨l.dropLast, l.getLast (by intro e; subst e; simp at h), ?_⟩
  rw [List.dropLast_concat_getLast]
end Go.Cs
namespace Go.Cs.Try
open Go Go.Cs
set_option maxRecDepth 100000
section
variable {o : Tags} {g : Nat} {b : Nat} {M : Mdl} {L : Lay} {H0 : CHeap} {b3 b4 ob : Nat}

/-- The stack is worked off. -/
theorem l42_3 (m : MRep o g H0 b M L) (w : M.Ok) (f3 : o b3 = none) (f4 : o b4 = none) (fo : o ob = none) (N : Nat) (E0 : Env) (h0 : E0 0 = .ptr b 0) (h4 : E0 4 = .ptr b4 0) (h5 : E0 5 = .func 72 [.ptr b3 0, .ptr b4 0]) :
    LoopOk P C42_3 (fun k E H => ∃ s, KS H0 b3 b4 ob H s ∧ KInv M s ∧ k = meas s ∧ falses s.1 ≤ N ∧ ∀ t, t < 11 → E t = E0 t)
      (fun x E' H' => x = .exit 6 ∧ ∃ ks, KS H0 b3 b4 ob H' (ks, []) ∧ KInv M (ks, []) ∧ falses ks ≤ N ∧ ∀ t, t < 11 → E' t = E0 t) := by
  refine loop_ind ?_
  rintro k E H ⟨⟨ks, st⟩, K, I, rfl, hN, hE⟩
  have e0 := (hE 0 (by omega)).trans h0
  have e4 := (hE 4 (by omega)).trans h4
  have e5 := (hE 5 (by omega)).trans h5
  have hfew := w.few
  rcases Nat.eq_zero_or_pos st.length with hz | hp
  · have : st = [] := List.eq_nil_of_length_eq_zero hz
    subst this
    obtain ⟨sv, k4, k5⟩ := K.o4
    have hv : ∀ H, vLen sv H = some (.i 0, H) := by
      rcases k5 with ⟨_, rfl⟩ | ⟨lb, cap, cs, rfl, _⟩ <;> exact fun _ => rfl
    apply step_out (x := .exit 6)
    · simp (disch := first | omega | rfl | assumption | (simp only [csN, Nat.reduceAdd, Nat.reduceMul, Nat.reduceLeDiff, Nat.reduceEqDiff] <;> omega) | (simp only [csF]; done) | (simp only [csF] <;> assumption) | fail) only [Nat.reduceEqDiff, Nat.reduceAdd, Nat.reduceMul, Nat.reduceSub, Nat.reduceLeDiff, Int.reduceAdd, Int.reduceSub, Int.reduceMul, Int.reduceLT, Int.reduceLE, Int.reduceGT, Int.reduceGE, Int.reduceEq, Int.reduceBEq, Int.reduceBNe, Int.reduceNeg, Int.reduceToNat, csAll, ↓reduceIte, C42_3, e4, k4, hv]
      rfl
    · simp
    · refine ⟨rfl, ks, K, I, hN, fun t ht => ?_⟩
      simp only [upd_apply]
      rw [if_neg (by omega), if_neg (by omega), if_neg (by omega)]
      exact hE t ht
  · obtain ⟨st', v, rfl⟩ := snoc_of hp
    have hv := I.ok.stk v (by simp)
    obtain ⟨sv, k4, k5⟩ := K.o4
    rcases k5 with ⟨h, _⟩ | ⟨lb, cap, cs, rfl, q1, q2, q3, q4, q5⟩
    · simp at h
    simp only [List.length_append, List.length_singleton] at k4 q4 q5
    have hcs : cs[st'.length]? = some (.i v) := by
      have : (cs.take (st'.length + 1))[st'.length]? = (Go.Cs.ints (st' ++ [v]))[st'.length]? := by rw [q4]
      rw [List.getElem?_take_of_lt (by omega)] at this
      rw [this, ints_get]; simp
    have hkv := I.snd v (by omega) hv.2.2
    have hhas := Kp.has w hkv
    have hob := w.obj hhas
    have hb4 := K.bs.2.1
    have hl4 := lt_of_get k4
    -- the stack without its last one
    have K1 : KS H0 b3 b4 ob (H.set b4 ⟨[.slice lb 0 st'.length cap 1 true], .rw, 0⟩) (ks, st') := by
      have hbs := K.bs
      refine ⟨fun c hc d3 d4 d5 => by rw [List.getElem?_set_ne (Ne.symm d4), K.low c hc d3 d4 d5], K.bs, by simp [K.len], by rw [List.getElem?_set_ne (Ne.symm hbs.2.2.2.1), K.o3], by rw [List.getElem?_set_ne hbs.2.2.2.2.2, K.oo], _, by rw [List.getElem?_set_self hl4], .inr ⟨lb, cap, cs, rfl, q1, by rw [List.getElem?_set_ne (by omega), q2], q3, ?_, by show st'.length ≤ cap; omega⟩⟩
      show cs.take st'.length = Go.Cs.ints st'
      have : cs.take st'.length = (cs.take (st'.length + 1)).take st'.length := by rw [List.take_take]; congr 1; omega
      rw [this, q4, ints_app, List.take_append_of_le_length (by simp [ints_len]), List.take_of_length_le (by simp [ints_len])]
    have m0 := K.rep m f3 f4 fo
    have m1 := K1.rep m f3 f4 fo
    have K2 := K1.app [⟨[.i (M.obj v).nr, .i (M.obj v).nd, .i (M.obj v).kd], .rw, 0⟩]
    have c74 := f74 m0 w v hhas
    obtain ⟨hh, rest, g0, g1, g2, g3, g4, g5, g6⟩ := m0.objAt v hhas
    have g42 : b4 ≠ blkOf L.ov := by intro e; rw [e, g4] at f4; cases f4
    have g21 := drop0 g2
    have g4' := m1.dom _ _ g4
    obtain ⟨hh', rest', g0', -, -, -, -, g5', -⟩ := m.objAt v hhas
    have : hh = hh' := by rw [g0] at g0'; simpa using g0'
    subst this
    have hsoft : soft (M.obj v).kd ≤ (M.obj v).refs.length := by
      unfold soft
      have h1 := hob.nr
      have h2 := hob.kd
      split
      · have := h2.2.2.1 (by assumption); omega
      · split
        · have := h2.2.2.2 (by assumption); omega
        · omega
    obtain ⟨v', s1, s2, s3⟩ := g5'.drop hsoft
    obtain ⟨Ipop, hme⟩ := I.pop w
    have kpop : KOk M.objs.length (ks, st') := by
      refine ⟨I.ok.len, I.ok.zero, fun u hu => I.ok.stk u (by simp [hu]), ?_⟩
      have := I.ok.few
      simp only [List.length_append, List.length_singleton] at this ⊢
      omega
    generalize hlst : (M.obj v).refs.drop (soft (M.obj v).kd) = lst at *
    have hlr : lst.length ≤ 15 := by rw [← hlst, List.length_drop]; have := hob.nr; omega
    have hids : ∀ u ∈ lst, 0 ≤ u ∧ u ≤ (M.objs.length : Int) := fun u hu => hob.ids u (List.mem_of_mem_drop (by rw [hlst]; exact hu))
    -- the inner loop, whatever its slice is
    have inner : ∀ (E1 : Env) (r : Option (CX × Env × CHeap)), den P (.loop C42_2) E1 (H.set b4 ⟨[.slice lb 0 st'.length cap 1 true], .rw, 0⟩ ++ [⟨[.i (M.obj v).nr, .i (M.obj v).nd, .i (M.obj v).kd], .rw, 0⟩]) = r → E1 5 = .func 72 [.ptr b3 0, .ptr b4 0] → E1 81 = v' → E1 82 = .i lst.length → E1 83 = .i 0 →
        ∃ E2 H2, r = some (.exit 8, E2, H2) ∧ KS H0 b3 b4 ob H2 (reaches (ks, st') lst) ∧ ∀ t, t < 13 → E2 t = E1 t := by
      intro E1 r hr i5 i81 i82 i83
      by_cases hne : lst = []
      · obtain ⟨x, E2, H2, e2, -, rfl, K3, hE2⟩ := l42_2 (H0 := H0) (b3 := b3) (b4 := b4) (ob := ob) kpop hfew (lst := lst) (full := (M.obj v).refs) (off := soft (M.obj v).kd) (rb := 0) (cap := 0) (tl := true) (by omega) hids (fun h => absurd hne h) hlst.symm E1 lst.length E1 _
          ⟨i5, fun h => absurd hne h, i82, 0, i83, by omega, by omega, K2, fun _ _ => rfl⟩
        exact ⟨E2, H2, hr.symm.trans e2, K3, hE2⟩
      · obtain ⟨rb, cap', tl', t1, t2, t3⟩ := s3 hne
        obtain ⟨x, E2, H2, e2, -, rfl, K3, hE2⟩ := l42_2 (H0 := H0) (b3 := b3) (b4 := b4) (ob := ob) kpop hfew (lst := lst) (full := (M.obj v).refs) (off := soft (M.obj v).kd) (rb := rb) (cap := cap') (tl := tl') (by omega) hids (fun _ => ⟨lt_of_get t3, (by intro e; rw [e, f3] at t2; cases t2), (by intro e; rw [e, f4] at t2; cases t2), (by intro e; rw [e, fo] at t2; cases t2), t3⟩) hlst.symm E1 lst.length E1 _
          ⟨i5, fun _ => by rw [i81, t1], i82, 0, i83, by omega, by omega, K2, fun _ _ => rfl⟩
        exact ⟨E2, H2, hr.symm.trans e2, K3, hE2⟩
    have hlen := s2
    have hw1 : IntKind.i64.wrap (((st'.length + 1 : Nat) : Int) - 1) = (st'.length : Int) := by
      have := I.ok.few
      simp only [List.length_append, List.length_singleton] at this
      rw [wrap_id (by omega)]; omega
    have hsl : sliceV 1 (.slice lb 0 (st'.length + 1) cap 1 true) none (some (.i st'.length)) none = some (.slice lb 0 st'.length cap 1 true) := by
      simp [sliceV, sliceBndsV, boundOV, boundV]
      refine ⟨by omega, ?_⟩
      rw [if_pos (by omega)]
      simp
    have hnn : ((st'.length + 1 : Nat) : Int) - 1 = (st'.length : Int) := by omega
    have key : ∃ E2 H2, den P C42_3 E H = some (.normal, E2, H2) ∧ KS H0 b3 b4 ob H2 (reaches (ks, st') lst) ∧ ∀ t, t < 11 → E2 t = E t := by
      simp (disch := first | omega | rfl | assumption | (simp only [csN, Nat.reduceAdd, Nat.reduceMul, Nat.reduceLeDiff, Nat.reduceEqDiff] <;> omega) | (simp only [csF]; done) | (simp only [csF] <;> assumption) | fail) only [Nat.reduceEqDiff, Nat.reduceAdd, Nat.reduceMul, Nat.reduceSub, Nat.reduceLeDiff, Int.reduceAdd, Int.reduceSub, Int.reduceMul, Int.reduceLT, Int.reduceLE, Int.reduceGT, Int.reduceGE, Int.reduceEq, Int.reduceBEq, Int.reduceBNe, Int.reduceNeg, Int.reduceToNat, csAll, ↓reduceIte, C42_3, e0, e4, e5, k4, q2, hcs, hw1, c74, hsl, g1, g2, g21, g3, f50, drop_get, s1, s2, mLen_of s2]
      generalize hr : den P (.loop C42_2) _ _ = r
      obtain ⟨E2, H2, rfl, K3, hE2⟩ := inner _ _ hr (by simp only [upd_apply, Nat.reduceEqDiff, ↓reduceIte]; exact e5) (by simp only [upd_apply, Nat.reduceEqDiff, ↓reduceIte]) (by simp only [upd_apply, Nat.reduceEqDiff, ↓reduceIte]) (by simp only [upd_apply, Nat.reduceEqDiff, ↓reduceIte])
      refine ⟨E2, H2, by simp (disch := first | omega | rfl | assumption | (simp only [csN, Nat.reduceAdd, Nat.reduceMul, Nat.reduceLeDiff, Nat.reduceEqDiff] <;> omega) | (simp only [csF]; done) | (simp only [csF] <;> assumption) | fail) only [Nat.reduceEqDiff, Nat.reduceAdd, Nat.reduceMul, Nat.reduceSub, Nat.reduceLeDiff, Int.reduceAdd, Int.reduceSub, Int.reduceMul, Int.reduceLT, Int.reduceLE, Int.reduceGT, Int.reduceGE, Int.reduceEq, Int.reduceBEq, Int.reduceBNe, Int.reduceNeg, Int.reduceToNat, csAll, ↓reduceIte], K3, fun t ht => ?_⟩
      rw [hE2 t (by omega)]
      simp only [upd_apply]
      repeat rw [if_neg (by omega)]
    obtain ⟨E2, H2, e2, K3, hE2⟩ := key
    apply step_go (k' := meas (reaches (ks, st') lst)) e2
    · omega
    · exact ⟨_, K3, Ipop, rfl, Nat.le_trans falses_reaches hN, fun t ht => (hE2 t ht).trans (hE t ht)⟩
end
end Go.Cs.Try

/- The walk of kept: ephemerons, and all of it. -/
namespace Go.Cs.Try
open Go Go.Cs
set_option maxRecDepth 100000
set_option maxHeartbeats 4000000
section
variable {o : Tags} {g : Nat} {b : Nat} {M : Mdl} {L : Lay} {H0 : CHeap} {b3 b4 ob : Nat}

/-- Ephemerons lead on. -/
theorem l42_1 (m : MRep o g H0 b M L) (w : M.Ok) (f3 : o b3 = none) (f4 : o b4 = none) (fo : o ob = none) (s1 : KSt) (E0 : Env) (h3 : E0 3 = .ptr b3 0) (h5 : E0 5 = .func 72 [.ptr b3 0, .ptr b4 0]) :
    LoopOk P C42_1 (fun k E H => ∃ s, KS H0 b3 b4 ob H s ∧ KInv M s ∧ meas s = meas s1 ∧ falses s.1 ≤ falses s1.1 ∧ E 94 = L.ov ∧ E 95 = .i M.objs.length ∧ ∃ i : Nat, E 96 = .i i ∧ i ≤ M.objs.length ∧ k = M.objs.length - i ∧ (s.2 = [] → ∀ n : Int, 1 ≤ n → n ≤ (i : Int) → ephOk M s.1 n) ∧ ∀ t, t < 11 → E t = E0 t)
      (fun x E' H' => x = .exit 10 ∧ ∃ s, KS H0 b3 b4 ob H' s ∧ KInv M s ∧ meas s = meas s1 ∧ falses s.1 ≤ falses s1.1 ∧ (s.2 = [] → ∀ n : Int, 1 ≤ n → n ≤ (M.objs.length : Int) → ephOk M s.1 n) ∧ ∀ t, t < 11 → E' t = E0 t) := by
  refine loop_ind ?_
  rintro k E H ⟨s, K, I, hme, hfa, h94, h95, i, h96, hi, rfl, hp, hE⟩
  have e3 := (hE 3 (by omega)).trans h3
  have e5 := (hE 5 (by omega)).trans h5
  have hfew := w.few
  by_cases c : i < M.objs.length
  · have hhas : M.has ((i + 1 : Nat) : Int) := by unfold Mdl.has; omega
    have m0 := K.rep m f3 f4 fo
    obtain ⟨hh, rest, g0, g1, g2, g3, g4, g5, g6⟩ := m0.objAt _ hhas
    have hio : (((i + 1 : Nat) : Int) - 1).toNat = i := by omega
    rw [hio] at g0 g2 g3 g5 g6
    obtain ⟨tl, d1, -, -, -⟩ := m0.objs.pos (by omega)
    have hov := h94
    rw [d1] at hov
    have hob := w.obj hhas
    have k3 := K.o3
    have ko := K.oo
    have hb3 := lt_of_get k3
    have hbo := lt_of_get ko
    have hlen := I.ok.len
    have hfw := I.ok.few
    have hw : IntKind.i64.wrap ((i : Int) + 1) = ((i + 1 : Nat) : Int) := by rw [wrap_id (by omega)]; rfl
    have hon : (bools s.1)[i + 1]? = some (.bool (on s.1 ((i + 1 : Nat) : Int))) := on_get (v := ((i + 1 : Nat) : Int)) (by simp; omega)
    have hg1 := lt_of_get g1
    have hall : ([.i (M.obj ((i + 1 : Nat) : Int)).nr, .i (M.obj ((i + 1 : Nat) : Int)).nd, .i (M.obj ((i + 1 : Nat) : Int)).kd, hh.1, hh.2] : List CV).all leaf = true := by
      simp only [List.all_cons, List.all_nil, g5.leaf, g6.leaf, leaf_int, Bool.and_true]
    generalize hx : M.obj ((i + 1 : Nat) : Int) = xx at *
    -- what stays the same
    have frame : ∀ (E2 : Env) (H2 : CHeap) (s2 : KSt), den P C42_1 E H = some (.normal, E2, H2) → KS H0 b3 b4 ob H2 s2 → KInv M s2 → meas s2 = meas s1 → falses s2.1 ≤ falses s1.1 → E2 94 = L.ov → E2 95 = .i M.objs.length → E2 96 = .i ((i + 1 : Nat) : Int) → (s2.2 = [] → s2 = s ∧ ephOk M s.1 ((i + 1 : Nat) : Int)) → (∀ t, t < 11 → E2 t = E t) →
        ∃ x E' H', den P C42_1 E H = some (x, E', H') ∧ ((x = .normal ∧ ∃ k', k' < M.objs.length - i ∧ ∃ s, KS H0 b3 b4 ob H' s ∧ KInv M s ∧ meas s = meas s1 ∧ falses s.1 ≤ falses s1.1 ∧ E' 94 = L.ov ∧ E' 95 = .i M.objs.length ∧ ∃ i : Nat, E' 96 = .i i ∧ i ≤ M.objs.length ∧ k' = M.objs.length - i ∧ (s.2 = [] → ∀ n : Int, 1 ≤ n → n ≤ (i : Int) → ephOk M s.1 n) ∧ ∀ t, t < 11 → E' t = E0 t) ∨
          (x ≠ .normal ∧ x = .exit 10 ∧ ∃ s, KS H0 b3 b4 ob H' s ∧ KInv M s ∧ meas s = meas s1 ∧ falses s.1 ≤ falses s1.1 ∧ (s.2 = [] → ∀ n : Int, 1 ≤ n → n ≤ (M.objs.length : Int) → ephOk M s.1 n) ∧ ∀ t, t < 11 → E' t = E0 t)) := by
      intro E2 H2 s2 e K2 I2 q1 q2 q3 q4 q5 q6 q7
      refine ⟨_, E2, H2, e, .inl ⟨rfl, M.objs.length - (i + 1), by omega, s2, K2, I2, q1, q2, q3, q4, i + 1, q5, by omega, rfl, fun hz n hn1 hn2 => ?_, fun t ht => (q7 t ht).trans (hE t ht)⟩⟩
      obtain ⟨rfl, he⟩ := q6 hz
      by_cases hni : n ≤ (i : Int)
      · exact hp hz n hn1 hni
      · have : n = ((i + 1 : Nat) : Int) := by omega
        subst this
        exact he
    have K1 := K.app [⟨[.i xx.nr, .i xx.nd, .i xx.kd, hh.1, hh.2], .rw, 5⟩]
    have K1' := K.app [⟨[.i xx.nr, .i xx.nd, .i xx.kd, hh.1, hh.2], .rw, 0⟩]
    cases hon1 : on s.1 ((i + 1 : Nat) : Int) with
    | false =>
      rw [hon1] at hon
      have key : ∃ E2, den P C42_1 E H = some (.normal, E2, H ++ [⟨[.i xx.nr, .i xx.nd, .i xx.kd, hh.1, hh.2], .rw, 0⟩]) ∧ E2 94 = L.ov ∧ E2 95 = .i M.objs.length ∧ E2 96 = .i ((i + 1 : Nat) : Int) ∧ ∀ t, t < 11 → E2 t = E t := by
        apply ex_env
        · simp (disch := first | omega | rfl | assumption | (simp only [csN, Nat.reduceAdd, Nat.reduceMul, Nat.reduceLeDiff, Nat.reduceEqDiff] <;> omega) | (simp only [csF]; done) | (simp only [csF] <;> assumption) | fail) only [Nat.reduceEqDiff, Nat.reduceAdd, Nat.reduceMul, Nat.reduceSub, Nat.reduceLeDiff, Int.reduceAdd, Int.reduceSub, Int.reduceMul, Int.reduceLT, Int.reduceLE, Int.reduceGT, Int.reduceGE, Int.reduceEq, Int.reduceBEq, Int.reduceBNe, Int.reduceNeg, Int.reduceToNat, csAll, ↓reduceIte, C42_1, e3, e5, hov, h95, h96, g1, g2, g3, k3, ko, hw, hon, hlen]
          rfl
        · refine ⟨by simp only [upd_apply, Nat.reduceEqDiff, ↓reduceIte, h94], by simp only [upd_apply, Nat.reduceEqDiff, ↓reduceIte, h95], by simp only [upd_apply, Nat.reduceEqDiff, ↓reduceIte], fun t ht => ?_⟩
          simp only [upd_apply]
          repeat rw [if_neg (by omega)]
      obtain ⟨E2, e, q3, q4, q5, q7⟩ := key
      exact frame E2 _ s e K1' I hme hfa q3 q4 q5 (fun hz => ⟨rfl, fun h => by rw [hon1] at h; cases h⟩) q7
    | true =>
      rw [hon1] at hon
      by_cases hkd : xx.kd = 2
      case neg =>
        have key : ∃ E2, den P C42_1 E H = some (.normal, E2, H ++ [⟨[.i xx.nr, .i xx.nd, .i xx.kd, hh.1, hh.2], .rw, 0⟩]) ∧ E2 94 = L.ov ∧ E2 95 = .i M.objs.length ∧ E2 96 = .i ((i + 1 : Nat) : Int) ∧ ∀ t, t < 11 → E2 t = E t := by
          apply ex_env
          · simp (disch := first | omega | rfl | assumption | (simp only [csN, Nat.reduceAdd, Nat.reduceMul, Nat.reduceLeDiff, Nat.reduceEqDiff] <;> omega) | (simp only [csF]; done) | (simp only [csF] <;> assumption) | fail) only [Nat.reduceEqDiff, Nat.reduceAdd, Nat.reduceMul, Nat.reduceSub, Nat.reduceLeDiff, Int.reduceAdd, Int.reduceSub, Int.reduceMul, Int.reduceLT, Int.reduceLE, Int.reduceGT, Int.reduceGE, Int.reduceEq, Int.reduceBEq, Int.reduceBNe, Int.reduceNeg, Int.reduceToNat, csAll, ↓reduceIte, C42_1, e3, e5, hov, h95, h96, g1, g2, g3, k3, ko, hw, hon, hlen]
            rfl
          · refine ⟨by simp only [upd_apply, Nat.reduceEqDiff, ↓reduceIte, h94], by simp only [upd_apply, Nat.reduceEqDiff, ↓reduceIte, h95], by simp only [upd_apply, Nat.reduceEqDiff, ↓reduceIte], fun t ht => ?_⟩
            simp only [upd_apply]
            repeat rw [if_neg (by omega)]
        obtain ⟨E2, e, q3, q4, q5, q7⟩ := key
        exact frame E2 _ s e K1' I hme hfa q3 q4 q5 (fun hz => ⟨rfl, fun _ h2 => by rw [hx] at h2; exact absurd h2 hkd⟩) q7
      -- an ephemeron that is kept
      have hnr := hob.kd.2.2.2 hkd
      have hnl := hob.nr
      obtain ⟨tl6, p1, p2, p3, p4⟩ := g5.pos (by omega)
      have hl6 := lt_of_get p3
      have r0 : (Go.Cs.ints xx.refs)[0]? = some (.i (xx.refs.getD 0 0)) := by rw [ints_get, getD_of 0 (by omega)]; rfl
      have r1 : (Go.Cs.ints xx.refs)[1]? = some (.i (xx.refs.getD 1 0)) := by rw [ints_get, getD_of 0 (by omega)]; rfl
      have i0 := hob.ids _ (List.mem_of_getElem? (getD_of (l := xx.refs) (i := 0) 0 (by omega)))
      have i1 := hob.ids _ (List.mem_of_getElem? (getD_of (l := xx.refs) (i := 1) 0 (by omega)))
      have hon0 := on_get (ks := s.1) (v := xx.refs.getD 0 0) (by omega)
      rw [p1] at g2 hall K1'
      cases hk0 : on s.1 (xx.refs.getD 0 0) with
      | false =>
        rw [hk0] at hon0
        have key : ∃ E2, den P C42_1 E H = some (.normal, E2, H ++ [⟨[.i xx.nr, .i xx.nd, .i xx.kd, .slice (blkOf hh.1) 0 xx.refs.length xx.refs.length 1 tl6, hh.2], .rw, 0⟩]) ∧ E2 94 = L.ov ∧ E2 95 = .i M.objs.length ∧ E2 96 = .i ((i + 1 : Nat) : Int) ∧ ∀ t, t < 11 → E2 t = E t := by
          apply ex_env
          · simp (disch := first | omega | rfl | assumption | (simp only [csN, Nat.reduceAdd, Nat.reduceMul, Nat.reduceLeDiff, Nat.reduceEqDiff] <;> omega) | (simp only [csF]; done) | (simp only [csF] <;> assumption) | fail) only [Nat.reduceEqDiff, Nat.reduceAdd, Nat.reduceMul, Nat.reduceSub, Nat.reduceLeDiff, Int.reduceAdd, Int.reduceSub, Int.reduceMul, Int.reduceLT, Int.reduceLE, Int.reduceGT, Int.reduceGE, Int.reduceEq, Int.reduceBEq, Int.reduceBNe, Int.reduceNeg, Int.reduceToNat, csAll, ↓reduceIte, C42_1, e3, e5, hov, h95, h96, g1, g2, g3, k3, ko, hw, hon, hlen, p3, r0, hon0]
            rfl
          · refine ⟨by simp only [upd_apply, Nat.reduceEqDiff, ↓reduceIte, h94], by simp only [upd_apply, Nat.reduceEqDiff, ↓reduceIte, h95], by simp only [upd_apply, Nat.reduceEqDiff, ↓reduceIte], fun t ht => ?_⟩
            simp only [upd_apply]
            repeat rw [if_neg (by omega)]
        obtain ⟨E2, e, q3, q4, q5, q7⟩ := key
        exact frame E2 _ s e K1' I hme hfa q3 q4 q5 (fun hz => ⟨rfl, fun _ _ h3 => by rw [hx, hk0] at h3; cases h3⟩) q7
      | true =>
        rw [hk0] at hon0
        obtain ⟨H', e1, K2⟩ := f72 K1' (v := xx.refs.getD 1 0) (by omega) (Nat.le_trans (by omega : _ ≤ 100002) (by decide))
        obtain ⟨a1, a2, a3, a4, a5, a6, a7⟩ := I.ok.reach (v := xx.refs.getD 1 0) i1
        have hkk := I.snd _ (by omega) hon1
        have I2 : KInv M (reach s (xx.refs.getD 1 0)) := I.reach w i1 (fun hz => by
          have h0 := I.snd _ i0.1 hk0
          have := Kp.eph hkk (by rw [hx]; exact hkd) (by rw [hx]; exact h0) (by rw [hx]; exact hz)
          rw [hx] at this; exact this)
        have key : ∃ E2, den P C42_1 E H = some (.normal, E2, H') ∧ E2 94 = L.ov ∧ E2 95 = .i M.objs.length ∧ E2 96 = .i ((i + 1 : Nat) : Int) ∧ ∀ t, t < 11 → E2 t = E t := by
          apply ex_env
          · simp (disch := first | omega | rfl | assumption | (simp only [csN, Nat.reduceAdd, Nat.reduceMul, Nat.reduceLeDiff, Nat.reduceEqDiff] <;> omega) | (simp only [csF]; done) | (simp only [csF] <;> assumption) | fail) only [Nat.reduceEqDiff, Nat.reduceAdd, Nat.reduceMul, Nat.reduceSub, Nat.reduceLeDiff, Int.reduceAdd, Int.reduceSub, Int.reduceMul, Int.reduceLT, Int.reduceLE, Int.reduceGT, Int.reduceGE, Int.reduceEq, Int.reduceBEq, Int.reduceBNe, Int.reduceNeg, Int.reduceToNat, csAll, ↓reduceIte, C42_1, e3, e5, hov, h95, h96, g1, g2, g3, k3, ko, hw, hon, hlen, p3, r0, r1, hon0, e1]
            rfl
          · refine ⟨by simp only [upd_apply, Nat.reduceEqDiff, ↓reduceIte, h94], by simp only [upd_apply, Nat.reduceEqDiff, ↓reduceIte, h95], by simp only [upd_apply, Nat.reduceEqDiff, ↓reduceIte], fun t ht => ?_⟩
            simp only [upd_apply]
            repeat rw [if_neg (by omega)]
        obtain ⟨E2, e, q3, q4, q5, q7⟩ := key
        refine frame E2 _ _ e K2 I2 (a2.trans hme) (Nat.le_trans falses_reach hfa) q3 q4 q5 (fun hz => ⟨a7 hz, fun _ _ _ => ?_⟩) q7
        rw [hx]
        by_cases hz1 : xx.refs.getD 1 0 = 0
        · exact .inl hz1
        · have := a4 hz1
          rw [a7 hz] at this
          exact .inr this
  · apply step_out (x := .exit 10)
    · simp (disch := first | omega | rfl | assumption | (simp only [csN, Nat.reduceAdd, Nat.reduceMul, Nat.reduceLeDiff, Nat.reduceEqDiff] <;> omega) | (simp only [csF]; done) | (simp only [csF] <;> assumption) | fail) only [Nat.reduceEqDiff, Nat.reduceAdd, Nat.reduceMul, Nat.reduceSub, Nat.reduceLeDiff, Int.reduceAdd, Int.reduceSub, Int.reduceMul, Int.reduceLT, Int.reduceLE, Int.reduceGT, Int.reduceGE, Int.reduceEq, Int.reduceBEq, Int.reduceBNe, Int.reduceNeg, Int.reduceToNat, csAll, ↓reduceIte, C42_1, h95, h96]
      rfl
    · simp
    · have : i = M.objs.length := by omega
      subst this
      exact ⟨rfl, s, K, I, hme, hfa, hp, fun t ht => by simp only [upd_apply]; rw [if_neg (by omega)]; exact hE t ht⟩
end
end Go.Cs.Try

/- The walk of kept, all of it; Kept. -/
namespace Go.Cs
open Go
theorem Stk.len {B : Nat} {H : CHeap} {sv : CV} {st : List Int} (h : Stk B H sv st) : ∀ H', vLen sv H' = some (.i st.length, H') := by
  rcases h with ⟨rfl, rfl⟩ | ⟨lb, cap, cs, rfl, _⟩ <;> exact fun _ => rfl
end Go.Cs
namespace Go.Cs.Try
open Go Go.Cs
set_option maxRecDepth 100000
set_option maxHeartbeats 4000000
section
variable {o : Tags} {g : Nat} {b : Nat} {M : Mdl} {L : Lay} {H0 : CHeap} {b3 b4 ob : Nat}

/-- The search goes on until nothing more is found. -/
theorem l42_4 (m : MRep o g H0 b M L) (w : M.Ok) (f3 : o b3 = none) (f4 : o b4 = none) (fo : o ob = none) (E0 : Env) (h0 : E0 0 = .ptr b 0) (h3 : E0 3 = .ptr b3 0) (h4 : E0 4 = .ptr b4 0) (h5 : E0 5 = .func 72 [.ptr b3 0, .ptr b4 0]) :
    LoopOk P C42_4 (fun k E H => ∃ s, KS H0 b3 b4 ob H s ∧ KInv M s ∧ ∃ again : Bool, E 10 = .bool again ∧ (again = false → s.2 = [] ∧ ∀ n : Int, 1 ≤ n → n ≤ (M.objs.length : Int) → ephOk M s.1 n) ∧ k = 2 * falses s.1 + (if again = true then 1 else 0) ∧ ∀ t, t < 10 → E t = E0 t)
      (fun x E' H' => x = .exit 4 ∧ KS H0 b3 b4 ob H' (M.keptL, []) ∧ ∀ t, t < 10 → E' t = E0 t) := by
  refine loop_ind ?_
  rintro k E H ⟨s, K, I, again, h10, hag, rfl, hE⟩
  have e0 := (hE 0 (by omega)).trans h0
  have e3 := (hE 3 (by omega)).trans h3
  have e4 := (hE 4 (by omega)).trans h4
  have e5 := (hE 5 (by omega)).trans h5
  cases again with
  | false =>
    obtain ⟨hz, he⟩ := hag rfl
    obtain ⟨ks, st⟩ := s
    dsimp only at hz he
    subst hz
    apply step_out (x := .exit 4)
    · simp (disch := first | omega | rfl | assumption | (simp only [csN, Nat.reduceAdd, Nat.reduceMul, Nat.reduceLeDiff, Nat.reduceEqDiff] <;> omega) | (simp only [csF]; done) | (simp only [csF] <;> assumption) | fail) only [Nat.reduceEqDiff, Nat.reduceAdd, Nat.reduceMul, Nat.reduceSub, Nat.reduceLeDiff, Int.reduceAdd, Int.reduceSub, Int.reduceMul, Int.reduceLT, Int.reduceLE, Int.reduceGT, Int.reduceGE, Int.reduceEq, Int.reduceBEq, Int.reduceBNe, Int.reduceNeg, Int.reduceToNat, csAll, ↓reduceIte, C42_4, h10]
      rfl
    · simp
    · rw [← I.keptL w he]
      exact ⟨rfl, K, fun t ht => by simp only [upd_apply]; rw [if_neg (by omega)]; exact hE t ht⟩
  | true =>
    have key : ∃ E2 H2 s2 ag, den P C42_4 E H = some (.normal, E2, H2) ∧ KS H0 b3 b4 ob H2 s2 ∧ KInv M s2 ∧ E2 10 = .bool ag ∧ (ag = false → s2.2 = [] ∧ ∀ n : Int, 1 ≤ n → n ≤ (M.objs.length : Int) → ephOk M s2.1 n) ∧ 2 * falses s2.1 + (if ag = true then 1 else 0) < 2 * falses s.1 + 1 ∧ ∀ t, t < 10 → E2 t = E t := by
      simp (disch := first | omega | rfl | assumption | (simp only [csN, Nat.reduceAdd, Nat.reduceMul, Nat.reduceLeDiff, Nat.reduceEqDiff] <;> omega) | (simp only [csF]; done) | (simp only [csF] <;> assumption) | fail) only [Nat.reduceEqDiff, Nat.reduceAdd, Nat.reduceMul, Nat.reduceSub, Nat.reduceLeDiff, Int.reduceAdd, Int.reduceSub, Int.reduceMul, Int.reduceLT, Int.reduceLE, Int.reduceGT, Int.reduceGE, Int.reduceEq, Int.reduceBEq, Int.reduceBNe, Int.reduceNeg, Int.reduceToNat, csAll, ↓reduceIte, C42_4, h10]
      generalize hr : den P (.loop C42_3) _ _ = r
      obtain ⟨x, E1, H1, rfl, -, rfl, ks, K1, I1, hf1, hE1⟩ := (l42_3 m w f3 f4 fo (falses s.1) (E.upd 55 (.bool true)) (by simp [upd_apply, e0]) (by simp [upd_apply, e4]) (by simp [upd_apply, e5])).at hr _ ⟨s, K, I, rfl, Nat.le_refl _, fun t ht => rfl⟩
      have m1 := K1.rep m f3 f4 fo
      have hc := m1.cells
      have hl := m1.objs.len
      have q0 : E1 0 = .ptr b 0 := by rw [hE1 0 (by omega)]; simp [upd_apply, e0]
      have q3 : E1 3 = .ptr b3 0 := by rw [hE1 3 (by omega)]; simp [upd_apply, e3]
      have q4 : E1 4 = .ptr b4 0 := by rw [hE1 4 (by omega)]; simp [upd_apply, e4]
      have q5 : E1 5 = .func 72 [.ptr b3 0, .ptr b4 0] := by rw [hE1 5 (by omega)]; simp [upd_apply, e5]
      simp (disch := first | omega | rfl | assumption | (simp only [csN, Nat.reduceAdd, Nat.reduceMul, Nat.reduceLeDiff, Nat.reduceEqDiff] <;> omega) | (simp only [csF]; done) | (simp only [csF] <;> assumption) | fail) only [Nat.reduceEqDiff, Nat.reduceAdd, Nat.reduceMul, Nat.reduceSub, Nat.reduceLeDiff, Int.reduceAdd, Int.reduceSub, Int.reduceMul, Int.reduceLT, Int.reduceLE, Int.reduceGT, Int.reduceGE, Int.reduceEq, Int.reduceBEq, Int.reduceBNe, Int.reduceNeg, Int.reduceToNat, csAll, ↓reduceIte, q0, hc, hl]
      generalize hr2 : den P (.loop C42_1) _ _ = r2
      obtain ⟨x, E2, H2, rfl, -, rfl, s2, K2, I2, hm2, hf2, he2, hE2⟩ := (l42_1 m w f3 f4 fo (ks, []) _ (by simp only [upd_apply, Nat.reduceEqDiff, ↓reduceIte]; exact q3) (by simp only [upd_apply, Nat.reduceEqDiff, ↓reduceIte]; exact q5)).at hr2 _
        ⟨(ks, []), K1, I1, rfl, Nat.le_refl _, by simp only [upd_apply, Nat.reduceEqDiff, ↓reduceIte], by simp only [upd_apply, Nat.reduceEqDiff, ↓reduceIte], 0, by simp only [upd_apply, Nat.reduceEqDiff, ↓reduceIte]; rfl, by omega, rfl, fun _ n h1 h2 => by omega, fun t ht => rfl⟩
      have p4 : E2 4 = .ptr b4 0 := by rw [hE2 4 (by omega)]; simp [upd_apply, q4]
      obtain ⟨sv, k4, k5⟩ := K2.o4
      have hsl := k5.len
      have hst : ∀ t, t < 10 → E2 t = E t := fun t ht => by
        rw [hE2 t (by omega)]
        simp only [upd_apply]
        repeat rw [if_neg (by omega)]
        rw [hE1 t (by omega)]
        simp only [upd_apply]
        rw [if_neg (by omega)]
      unfold meas at hm2
      simp only [List.length_nil, Nat.add_zero] at hm2
      rcases Nat.eq_zero_or_pos s2.2.length with hz | hp
      · refine ⟨(((E2.upd 128 sv).upd 129 (.i s2.2.length)).upd 130 (.bool false)).upd 10 (.bool false), H2, s2, false, ?_, K2, I2, by simp [upd_apply], fun _ => ⟨List.eq_nil_of_length_eq_zero hz, he2 (List.eq_nil_of_length_eq_zero hz)⟩, (by simp; omega), fun t ht => ?_⟩
        · simp (disch := first | omega | rfl | assumption | (simp only [csN, Nat.reduceAdd, Nat.reduceMul, Nat.reduceLeDiff, Nat.reduceEqDiff] <;> omega) | (simp only [csF]; done) | (simp only [csF] <;> assumption) | fail) only [Nat.reduceEqDiff, Nat.reduceAdd, Nat.reduceMul, Nat.reduceSub, Nat.reduceLeDiff, Int.reduceAdd, Int.reduceSub, Int.reduceMul, Int.reduceLT, Int.reduceLE, Int.reduceGT, Int.reduceGE, Int.reduceEq, Int.reduceBEq, Int.reduceBNe, Int.reduceNeg, Int.reduceToNat, csAll, ↓reduceIte, p4, k4, hsl]
        · simp only [upd_apply]
          repeat rw [if_neg (by omega)]
          exact hst t ht
      · refine ⟨(((E2.upd 128 sv).upd 129 (.i s2.2.length)).upd 130 (.bool true)).upd 10 (.bool true), H2, s2, true, ?_, K2, I2, by simp [upd_apply], (fun h => by cases h), (by simp; omega), fun t ht => ?_⟩
        · simp (disch := first | omega | rfl | assumption | (simp only [csN, Nat.reduceAdd, Nat.reduceMul, Nat.reduceLeDiff, Nat.reduceEqDiff] <;> omega) | (simp only [csF]; done) | (simp only [csF] <;> assumption) | fail) only [Nat.reduceEqDiff, Nat.reduceAdd, Nat.reduceMul, Nat.reduceSub, Nat.reduceLeDiff, Int.reduceAdd, Int.reduceSub, Int.reduceMul, Int.reduceLT, Int.reduceLE, Int.reduceGT, Int.reduceGE, Int.reduceEq, Int.reduceBEq, Int.reduceBNe, Int.reduceNeg, Int.reduceToNat, csAll, ↓reduceIte, p4, k4, hsl]
        · simp only [upd_apply]
          repeat rw [if_neg (by omega)]
          exact hst t ht
    obtain ⟨E2, H2, s2, ag, e2, K2, I2, g10, gag, gk, gE⟩ := key
    apply step_go (k' := 2 * falses s2.1 + (if ag = true then 1 else 0)) e2
    · simpa using gk
    · exact ⟨s2, K2, I2, ag, g10, gag, rfl, fun t ht => (gE t ht).trans (hE t ht)⟩

theorem bools_rep (n : Nat) : bools (List.replicate n false) = (List.replicate n [CV.bool false]).flatten := by
  induction n with
  | zero => rfl
  | succ n ih =>
    have : bools (List.replicate (n + 1) false) = .bool false :: bools (List.replicate n false) := rfl
    rw [this, ih, List.replicate_succ, List.flatten_cons]; rfl

/-- kept. -/
theorem f42 {H : CHeap} (m : MRep o g H b M L) (w : M.Ok) : ∃ v H', run P 42 [.ptr b 0] H = some (v, H') ∧ H.length ≤ H'.length ∧ (∀ c, c < H.length → H'[c]? = H[c]?) ∧ At (Loc H.length) z3 H' v 1 (M.objs.length + 1) (bools M.keptL) := by
  have hc := m.cells
  have hl := m.objs.len
  have hlb := lt_of_get hc
  have hfew := w.few
  have hns := w.ns
  have hX : (H ++ [⟨(List.replicate (M.objs.length + 1) [CV.bool false]).flatten, .rw, 1⟩] ++ [⟨[.slice H.length 0 (M.objs.length + 1) (M.objs.length + 1) 1 false], .rw, 0⟩] ++ [⟨[.nilSlice], .rw, 0⟩] : CHeap).length = H.length + 3 := by simp
  have mX : MRep o g (H ++ [⟨(List.replicate (M.objs.length + 1) [CV.bool false]).flatten, .rw, 1⟩] ++ [⟨[.slice H.length 0 (M.objs.length + 1) (M.objs.length + 1) 1 false], .rw, 0⟩] ++ [⟨[.nilSlice], .rw, 0⟩] : CHeap) b M L := ((m.app _).app _).app _
  obtain ⟨v', J, e73, a73⟩ := f73 (H := (H ++ [⟨(List.replicate (M.objs.length + 1) [CV.bool false]).flatten, .rw, 1⟩] ++ [⟨[.slice H.length 0 (M.objs.length + 1) (M.objs.length + 1) 1 false], .rw, 0⟩] ++ [⟨[.nilSlice], .rw, 0⟩] : CHeap)) (v := L.sl) (n := M.slots.length) (cs := L.sv) (At.slicey m.slots) (fun J => mX.slots.elems (fun c hc => List.getElem?_append_left (mX.dom _ _ hc))) m.nsv (by
      simp only [List.all_eq_true]
      intro x hx
      obtain ⟨i, hi, rfl⟩ := List.mem_iff_getElem.1 hx
      have hi' : i < M.slots.length := by rw [← m.nsv]; exact hi
      obtain ⟨v, h1, h2⟩ := m.slot i _ (getD_of [] hi')
      rw [List.getElem?_eq_getElem hi] at h1
      simp only [Option.some.injEq] at h1
      rw [h1]; exact h2.leaf) (Nat.le_trans hns.2 (by decide))
  have hbJ : ((H ++ [⟨(List.replicate (M.objs.length + 1) [CV.bool false]).flatten, .rw, 1⟩] ++ [⟨[.slice H.length 0 (M.objs.length + 1) (M.objs.length + 1) 1 false], .rw, 0⟩] ++ [⟨[.nilSlice], .rw, 0⟩] : CHeap) ++ J)[b]? = some ⟨[L.sl, L.gl, L.qv, L.ov], .rw, 0⟩ := by rw [List.getElem?_append_left (by simp; omega)]; simp (disch := first | omega | rfl | assumption | (simp only [csN, Nat.reduceAdd, Nat.reduceMul, Nat.reduceLeDiff, Nat.reduceEqDiff] <;> omega) | (simp only [csF]; done) | (simp only [csF] <;> assumption) | fail) only [Nat.reduceEqDiff, Nat.reduceAdd, Nat.reduceMul, Nat.reduceSub, Nat.reduceLeDiff, Int.reduceAdd, Int.reduceSub, Int.reduceMul, Int.reduceLT, Int.reduceLE, Int.reduceGT, Int.reduceGE, Int.reduceEq, Int.reduceBEq, Int.reduceBNe, Int.reduceNeg, Int.reduceToNat, csAll, ↓reduceIte, hc]
  have a73' := a73.app [⟨[L.gl, L.qv], .rw, 1⟩]
  obtain ⟨H', b1, b2, b3', b4'⟩ := a73'.append (k := 2) (new := [L.gl, L.qv]) (by omega) (Nat.le_trans (by omega : M.slots.length + 2 ≤ 6) (by decide)) (by simp [m.globals.leaf, m.queue.leaf]) rfl
  have hlen : ((H ++ [⟨(List.replicate (M.objs.length + 1) [CV.bool false]).flatten, .rw, 1⟩] ++ [⟨[.slice H.length 0 (M.objs.length + 1) (M.objs.length + 1) 1 false], .rw, 0⟩] ++ [⟨[.nilSlice], .rw, 0⟩] : CHeap) ++ J ++ [⟨[L.gl, L.qv], .rw, 1⟩] : CHeap).length = H.length + 3 + J.length + 1 := by simp; omega
  rw [hlen] at b1 b2 b3' b4'
  have low : ∀ c, c < H.length + 3 → H'[c]? = (H ++ [⟨(List.replicate (M.objs.length + 1) [CV.bool false]).flatten, .rw, 1⟩] ++ [⟨[.slice H.length 0 (M.objs.length + 1) (M.objs.length + 1) 1 false], .rw, 0⟩] ++ [⟨[.nilSlice], .rw, 0⟩] : CHeap)[c]? := fun c hc' => by
    rw [b4' c (by omega) (by rw [hX]; intro h; have := (Loc_some.1 h).1; omega), List.getElem?_append_left (by simp; omega), List.getElem?_append_left (by simp; omega)]
  have k0 : H'[H.length]? = some ⟨bools (List.replicate (M.objs.length + 1) false), .rw, 1⟩ := by rw [low _ (by omega), bools_rep]; simp (disch := first | omega | rfl | assumption | (simp only [csN, Nat.reduceAdd, Nat.reduceMul, Nat.reduceLeDiff, Nat.reduceEqDiff] <;> omega) | (simp only [csF]; done) | (simp only [csF] <;> assumption) | fail) only [Nat.reduceEqDiff, Nat.reduceAdd, Nat.reduceMul, Nat.reduceSub, Nat.reduceLeDiff, Int.reduceAdd, Int.reduceSub, Int.reduceMul, Int.reduceLT, Int.reduceLE, Int.reduceGT, Int.reduceGE, Int.reduceEq, Int.reduceBEq, Int.reduceBNe, Int.reduceNeg, Int.reduceToNat, csAll, ↓reduceIte]
  have k1 : H'[H.length + 1]? = some ⟨[.slice H.length 0 (M.objs.length + 1) (M.objs.length + 1) 1 false], .rw, 0⟩ := by rw [low _ (by omega)]; simp (disch := first | omega | rfl | assumption | (simp only [csN, Nat.reduceAdd, Nat.reduceMul, Nat.reduceLeDiff, Nat.reduceEqDiff] <;> omega) | (simp only [csF]; done) | (simp only [csF] <;> assumption) | fail) only [Nat.reduceEqDiff, Nat.reduceAdd, Nat.reduceMul, Nat.reduceSub, Nat.reduceLeDiff, Int.reduceAdd, Int.reduceSub, Int.reduceMul, Int.reduceLT, Int.reduceLE, Int.reduceGT, Int.reduceGE, Int.reduceEq, Int.reduceBEq, Int.reduceBNe, Int.reduceNeg, Int.reduceToNat, csAll, ↓reduceIte]
  have k2 : H'[H.length + 2]? = some ⟨[.nilSlice], .rw, 0⟩ := by rw [low _ (by omega)]; simp (disch := first | omega | rfl | assumption | (simp only [csN, Nat.reduceAdd, Nat.reduceMul, Nat.reduceLeDiff, Nat.reduceEqDiff] <;> omega) | (simp only [csF]; done) | (simp only [csF] <;> assumption) | fail) only [Nat.reduceEqDiff, Nat.reduceAdd, Nat.reduceMul, Nat.reduceSub, Nat.reduceLeDiff, Int.reduceAdd, Int.reduceSub, Int.reduceMul, Int.reduceLT, Int.reduceLE, Int.reduceGT, Int.reduceGE, Int.reduceEq, Int.reduceBEq, Int.reduceBNe, Int.reduceNeg, Int.reduceToNat, csAll, ↓reduceIte]
  have hfree : ∀ c, H.length ≤ c → o c = none := fun c hc' => by
    cases h : o c with
    | none => rfl
    | some t => have := m.dom c t h; omega
  have hold : ∀ c, c < H.length → H'[c]? = H[c]? := fun c hc' => by rw [low c (by omega)]; simp (disch := first | omega | rfl | assumption | (simp only [csN, Nat.reduceAdd, Nat.reduceMul, Nat.reduceLeDiff, Nat.reduceEqDiff] <;> omega) | (simp only [csF]; done) | (simp only [csF] <;> assumption) | fail) only [Nat.reduceEqDiff, Nat.reduceAdd, Nat.reduceMul, Nat.reduceSub, Nat.reduceLeDiff, Int.reduceAdd, Int.reduceSub, Int.reduceMul, Int.reduceLT, Int.reduceLE, Int.reduceGT, Int.reduceGE, Int.reduceEq, Int.reduceBEq, Int.reduceBNe, Int.reduceNeg, Int.reduceToNat, csAll, ↓reduceIte]
  have m' : MRep o g H' b M L := m.frame (fun c t h => by have := m.dom c t h; omega) (fun _ _ h => h) (fun c k h => hold c (m.dom c _ h))
  have KS0 : KS H' (H.length + 1) (H.length + 2) H.length H' (List.replicate (M.objs.length + 1) false, []) :=
    ⟨fun _ _ _ _ _ => rfl, by omega, Nat.le_refl _, by rw [k1]; simp, k0, _, k2, .inl ⟨rfl, rfl⟩⟩
  have I0 := KInv.start w
  have kst : KOk M.objs.length (List.replicate (M.objs.length + 1) false, ([] : List Int)) := by
    refine ⟨by simp, by simp [on, List.getD_eq_getElem?_getD], by simp, by simp [falses]⟩
  have hpl : (M.slots ++ [M.globals, M.queue]).flatten = M.places := by unfold Mdl.places; simp
  have f1 := hfree (H.length + 1) (by omega)
  have f2 := hfree (H.length + 2) (by omega)
  have f0 := hfree H.length (by omega)
  have key : ∃ v H2, run P 42 [.ptr b 0] H = some (v, H2) ∧ v = .slice H.length 0 (M.objs.length + 1) (M.objs.length + 1) 1 false ∧ KS H' (H.length + 1) (H.length + 2) H.length H2 (M.keptL, []) := by
    have hw : IntKind.i64.wrap ((M.objs.length : Int) + 1) = ((M.objs.length + 1 : Nat) : Int) := by rw [wrap_id (by omega)]; rfl
    rw [run_lv c42]
    have hgl := m.globals.leaf
    have hql := m.queue.leaf
    simp (disch := first | omega | rfl | assumption | (simp only [csN, Nat.reduceAdd, Nat.reduceMul, Nat.reduceLeDiff, Nat.reduceEqDiff] <;> omega) | (simp only [csF]; done) | (simp only [csF] <;> assumption) | fail) only [Nat.reduceEqDiff, Nat.reduceAdd, Nat.reduceMul, Nat.reduceSub, Nat.reduceLeDiff, Int.reduceAdd, Int.reduceSub, Int.reduceMul, Int.reduceLT, Int.reduceLE, Int.reduceGT, Int.reduceGE, Int.reduceEq, Int.reduceBEq, Int.reduceBNe, Int.reduceNeg, Int.reduceToNat, csAll, ↓reduceIte, C42, entry_1, hc, hl, hw, e73, hbJ, b1]
    generalize hr : den P (.loop C42_6) _ _ = r
    have hw4 : ∀ l ∈ M.slots ++ [M.globals, M.queue], l.length ≤ 100000 ∧ ∀ v ∈ l, 0 ≤ v ∧ v ≤ (M.objs.length : Int) := by
      intro l hl'
      simp only [List.mem_append, List.mem_cons, List.not_mem_nil, or_false] at hl'
      rcases hl' with h | rfl | rfl
      · have := w.s16 l h; exact ⟨by omega, this.2⟩
      · have := w.g16; exact ⟨by omega, this.2⟩
      · have := w.q64; exact ⟨by omega, fun v hv => by have := this.2 v hv; omega⟩
    obtain ⟨x, E1, H1, rfl, -, rfl, K1, hE1⟩ := (l42_6 (H0 := H') (b3 := H.length + 1) (b4 := H.length + 2) (ob := H.length) kst hfew (ls := M.slots ++ [M.globals, M.queue]) (svs := L.sv ++ [L.gl, L.qv]) (qb := H.length + 3 + J.length + 1) (cap := M.slots.length + 2) (tl := true) ⟨by simp; omega, fun l hl' => (hw4 l hl').1⟩ (fun l hl' => (hw4 l hl').2)
      ⟨by omega, by omega, by omega, by omega, b3'⟩ (by
        intro i l hi
        rw [List.getElem?_append] at hi
        split at hi
        · obtain ⟨v, h1, h2⟩ := m'.slot i l hi
          refine ⟨v, ?_, h2.rd (w.s16 l (List.mem_of_getElem? hi)).1 f1 f2 f0⟩
          rw [List.getElem?_append_left (by rw [m.nsv]; assumption), h1]
        · rename_i hni
          have hi' := lt_of_get hi
          simp only [List.length_cons, List.length_nil] at hi'
          have h2 : i - M.slots.length = 0 ∨ i - M.slots.length = 1 := by omega
          rcases h2 with h2 | h2
          · rw [h2] at hi
            simp only [List.getElem?_cons_zero, Option.some.injEq] at hi
            subst hi
            refine ⟨L.gl, ?_, m'.globals.rd w.g16.1 f1 f2 f0⟩
            rw [List.getElem?_append_right (by rw [m.nsv]; omega), m.nsv, h2]; rfl
          · rw [h2] at hi
            simp only [List.getElem?_cons_succ, List.getElem?_cons_zero, Option.some.injEq] at hi
            subst hi
            refine ⟨L.qv, ?_, m'.queue.rd rfl f1 f2 f0⟩
            rw [List.getElem?_append_right (by rw [m.nsv]; omega), m.nsv, h2]; rfl) _).at hr _
      ⟨by simp only [upd_apply, Nat.reduceEqDiff, ↓reduceIte], by simp only [upd_apply, Nat.reduceEqDiff, ↓reduceIte, List.length_append, List.length_cons, List.length_nil], by simp only [upd_apply, Nat.reduceEqDiff, ↓reduceIte, List.length_append, List.length_cons, List.length_nil], 0, by simp only [upd_apply, Nat.reduceEqDiff, ↓reduceIte]; rfl, by omega, rfl, KS0, fun t ht => rfl⟩
    rw [hpl] at K1
    have q0 := hE1 0 (by omega)
    have q3 := hE1 3 (by omega)
    have q4 := hE1 4 (by omega)
    have q5 := hE1 5 (by omega)
    simp only [upd_apply, Nat.reduceEqDiff, ↓reduceIte] at q0 q3 q4 q5
    simp (disch := first | omega | rfl | assumption | (simp only [csN, Nat.reduceAdd, Nat.reduceMul, Nat.reduceLeDiff, Nat.reduceEqDiff] <;> omega) | (simp only [csF]; done) | (simp only [csF] <;> assumption) | fail) only [Nat.reduceEqDiff, Nat.reduceAdd, Nat.reduceMul, Nat.reduceSub, Nat.reduceLeDiff, Int.reduceAdd, Int.reduceSub, Int.reduceMul, Int.reduceLT, Int.reduceLE, Int.reduceGT, Int.reduceGE, Int.reduceEq, Int.reduceBEq, Int.reduceBNe, Int.reduceNeg, Int.reduceToNat, csAll, ↓reduceIte]
    generalize hr2 : den (cprog Go.Proofs.Try.prog) (.loop C42_4) _ _ = r2
    obtain ⟨x, E2, H2, rfl, -, rfl, K2, hE2⟩ := (l42_4 m' w f1 f2 f0 (E1.upd 10 (.bool true)) (by simp only [upd_apply, Nat.reduceEqDiff, ↓reduceIte]; exact q0) (by simp only [upd_apply, Nat.reduceEqDiff, ↓reduceIte]; exact q3) (by simp only [upd_apply, Nat.reduceEqDiff, ↓reduceIte]; exact q4) (by simp only [upd_apply, Nat.reduceEqDiff, ↓reduceIte]; exact q5)).at hr2 _
      ⟨_, K1, I0, true, by simp only [upd_apply, ↓reduceIte], (fun h => by cases h), rfl, fun t ht => rfl⟩
    have r3 : E2 3 = .ptr (H.length + 1) 0 := by rw [hE2 3 (by omega)]; simp only [upd_apply, Nat.reduceEqDiff, ↓reduceIte]; exact q3
    have o3 := K2.o3
    have hkl : M.keptL.length = M.objs.length + 1 := by simp [Mdl.keptL]
    dsimp only at o3
    rw [hkl] at o3
    refine ⟨_, H2, ?_, rfl, K2⟩
    simp (disch := first | omega | rfl | assumption | (simp only [csN, Nat.reduceAdd, Nat.reduceMul, Nat.reduceLeDiff, Nat.reduceEqDiff] <;> omega) | (simp only [csF]; done) | (simp only [csF] <;> assumption) | fail) only [Nat.reduceEqDiff, Nat.reduceAdd, Nat.reduceMul, Nat.reduceSub, Nat.reduceLeDiff, Int.reduceAdd, Int.reduceSub, Int.reduceMul, Int.reduceLT, Int.reduceLE, Int.reduceGT, Int.reduceGE, Int.reduceEq, Int.reduceBEq, Int.reduceBNe, Int.reduceNeg, Int.reduceToNat, csAll, ↓reduceIte, r3, o3]
  obtain ⟨v, H2, e, rfl, K2⟩ := key
  have hkl : M.keptL.length = M.objs.length + 1 := by simp [Mdl.keptL]
  refine ⟨_, H2, e, by have := K2.len; omega, fun c hc' => ?_, .inr ⟨_, _, rfl, Loc_some.2 ⟨by omega, rfl⟩, K2.oo, by rw [bools_len, hkl]; omega⟩⟩
  rw [K2.low c (by omega) (by omega) (by omega) (by omega), hold c hc']
end
end Go.Cs.Try

/- Kept. -/
namespace Go.Cs
open Go
theorem At.locMono {k k' : Nat} {H : CHeap} {v : CV} {e n : Nat} {cs : List CV} (h : At (Loc k) z3 H v e n cs) (hk : k' ≤ k) : At (Loc k') z3 H v e n cs := by
  rcases h with h | ⟨b, tl, rfl, h1, h2, h3⟩
  · exact .inl h
  · have := (Loc_some.1 h1).1
    exact .inr ⟨b, tl, rfl, Loc_some.2 ⟨by omega, rfl⟩, h2, h3⟩

/-- A local list grows by one. -/
theorem out_push {B : Nat} {H : CHeap} {v : CV} {l : List Int} (h : At (Loc B) z3 H v 1 l.length (ints l)) (hB : B ≤ H.length) (hm : l.length + 1 ≤ maxEls) (x : Int) :
    ∃ v' H', appendTo (H ++ [⟨[.i x], .rw, 1⟩]) 1 v 1 [.i x] = some (v', H') ∧ At (Loc B) z3 H' v' 1 (l ++ [x]).length (ints (l ++ [x])) ∧ H.length ≤ H'.length ∧ ∀ c, c < B → H'[c]? = H[c]? := by
  obtain ⟨H', a1, a2, a3, a4⟩ := (h.app [⟨[.i x], .rw, 1⟩]).append (k := 1) (new := [.i x]) (by omega) hm rfl rfl
  have hlen : (H ++ [⟨[.i x], .rw, 1⟩] : CHeap).length = H.length + 1 := by simp
  rw [hlen] at a1 a2 a3 a4
  refine ⟨_, H', a1, .inr ⟨H.length + 1, true, by simp, Loc_some.2 ⟨by omega, rfl⟩, by rw [a3, ints_app]; rfl, by simp [ints_len]⟩, by omega, fun c hc => ?_⟩
  rw [a4 c (by omega) (fun h => by have := (Loc_some.1 h).1; omega), List.getElem?_append_left (by omega)]

def idxs (ks : List Bool) (i : Nat) : List Int := ((List.range i).filter fun j => ks.getD j false).map fun (j : Nat) => (j : Int)
theorem idxs_succ {ks : List Bool} {i : Nat} : idxs ks (i + 1) = idxs ks i ++ (if ks.getD i false = true then [(i : Int)] else []) := by
  unfold idxs
  rw [List.range_succ, List.filter_append, List.map_append]
  cases h : ks.getD i false with
  | false => rw [List.filter_cons_of_neg (by rw [h]; simp)]; simp
  | true => rw [List.filter_cons_of_pos (by exact h)]; simp
theorem idxs_len {ks : List Bool} : ∀ {i : Nat}, (idxs ks i).length ≤ i
  | 0 => by simp [idxs]
  | i + 1 => by
    rw [idxs_succ, List.length_append]
    have := idxs_len (ks := ks) (i := i)
    split <;> simp <;> omega
noncomputable def Mdl.keptI (M : Mdl) : List Int := idxs M.keptL (M.objs.length + 1)
theorem keptL_len (M : Mdl) : M.keptL.length = M.objs.length + 1 := by simp [Mdl.keptL]
end Go.Cs
namespace Go.Cs.Try
open Go Go.Cs
set_option maxRecDepth 100000
section
variable {o : Tags} {g : Nat} {b : Nat} {M : Mdl} {L : Lay} {H0 : CHeap}

theorem l14_1 {ks : List Bool} {kv : CV} {ob : Nat} {tl : Bool} (hn : ks.length ≤ 1000000) (hkv : kv = .slice ob 0 ks.length ks.length 1 tl) (hob : H0[ob]? = some ⟨bools ks, .rw, 1⟩) (E0 : Env) :
    LoopOk P C14_1 (fun k E H => E 10 = kv ∧ E 11 = .i ks.length ∧ H0.length ≤ H.length ∧ (∀ c, c < H0.length → H[c]? = H0[c]?) ∧ ∃ i : Nat, E 12 = .i i ∧ i ≤ ks.length ∧ k = ks.length - i ∧ At (Loc H0.length) z3 H (E 3) 1 (idxs ks i).length (Go.Cs.ints (idxs ks i)))
      (fun x E' H' => x = .exit 0 ∧ H0.length ≤ H'.length ∧ (∀ c, c < H0.length → H'[c]? = H0[c]?) ∧ At (Loc H0.length) z3 H' (E' 3) 1 (idxs ks ks.length).length (Go.Cs.ints (idxs ks ks.length))) := by
  refine loop_ind ?_
  rintro k E H ⟨h10, h11, hl, hlow, i, h12, hi, rfl, ha⟩
  rw [hkv] at h10
  by_cases c : i < ks.length
  · have hb : H[ob]? = some ⟨bools ks, .rw, 1⟩ := by rw [hlow ob (lt_of_get hob), hob]
    have hg : (bools ks)[i]? = some (.bool (ks.getD i false)) := by rw [bools_get, getD_of false c]; rfl
    have hw : IntKind.i64.wrap ((i : Int) + 1) = ((i + 1 : Nat) : Int) := by rw [wrap_id (by omega)]; rfl
    cases hk : ks.getD i false with
    | false =>
      rw [hk] at hg
      apply step_go (k' := ks.length - (i + 1))
      · simp (disch := first | omega | rfl | assumption | (simp only [csN, Nat.reduceAdd, Nat.reduceMul, Nat.reduceLeDiff, Nat.reduceEqDiff] <;> omega) | (simp only [csF]; done) | (simp only [csF] <;> assumption) | fail) only [Nat.reduceEqDiff, Nat.reduceAdd, Nat.reduceMul, Nat.reduceSub, Nat.reduceLeDiff, Int.reduceAdd, Int.reduceSub, Int.reduceMul, Int.reduceLT, Int.reduceLE, Int.reduceGT, Int.reduceGE, Int.reduceEq, Int.reduceBEq, Int.reduceBNe, Int.reduceNeg, Int.reduceToNat, csAll, ↓reduceIte, C14_1, h10, h11, h12, hb, hg, hw]
        rfl
      · omega
      · refine ⟨by simp [upd_apply, h10, hkv], by simp [upd_apply, h11], hl, hlow, i + 1, by simp [upd_apply], by omega, rfl, ?_⟩
        rw [idxs_succ, hk]
        simpa [upd_apply] using ha
    | true =>
      rw [hk] at hg
      have hil := idxs_len (ks := ks) (i := i)
      obtain ⟨v', H', a1, a2, a3, a4⟩ := out_push ha hl (Nat.le_trans (by omega : _ ≤ 1000000) (by decide)) (i : Int)
      generalize he3 : E 3 = v3 at *
      apply step_go (k' := ks.length - (i + 1))
      · simp (disch := first | omega | rfl | assumption | (simp only [csN, Nat.reduceAdd, Nat.reduceMul, Nat.reduceLeDiff, Nat.reduceEqDiff] <;> omega) | (simp only [csF]; done) | (simp only [csF] <;> assumption) | fail) only [Nat.reduceEqDiff, Nat.reduceAdd, Nat.reduceMul, Nat.reduceSub, Nat.reduceLeDiff, Int.reduceAdd, Int.reduceSub, Int.reduceMul, Int.reduceLT, Int.reduceLE, Int.reduceGT, Int.reduceGE, Int.reduceEq, Int.reduceBEq, Int.reduceBNe, Int.reduceNeg, Int.reduceToNat, csAll, ↓reduceIte, C14_1, h10, h11, h12, hb, hg, hw, he3, a1]
        rfl
      · omega
      · refine ⟨by simp [upd_apply, h10, hkv], by simp [upd_apply, h11], by omega, fun c hc => (a4 c hc).trans (hlow c hc), i + 1, by simp [upd_apply], by omega, rfl, ?_⟩
        rw [idxs_succ, hk]
        simpa [upd_apply] using a2
  · apply step_out (x := .exit 0)
    · simp (disch := first | omega | rfl | assumption | (simp only [csN, Nat.reduceAdd, Nat.reduceMul, Nat.reduceLeDiff, Nat.reduceEqDiff] <;> omega) | (simp only [csF]; done) | (simp only [csF] <;> assumption) | fail) only [Nat.reduceEqDiff, Nat.reduceAdd, Nat.reduceMul, Nat.reduceSub, Nat.reduceLeDiff, Int.reduceAdd, Int.reduceSub, Int.reduceMul, Int.reduceLT, Int.reduceLE, Int.reduceGT, Int.reduceGE, Int.reduceEq, Int.reduceBEq, Int.reduceBNe, Int.reduceNeg, Int.reduceToNat, csAll, ↓reduceIte, C14_1, h11, h12]
      rfl
    · simp
    · have : i = ks.length := by omega
      subst this
      exact ⟨rfl, hl, hlow, by simpa [upd_apply] using ha⟩

/-- Kept. -/
theorem f14 {H : CHeap} (m : MRep o g H b M L) (w : M.Ok) : ∃ v H', run P 14 [.ptr b 0] H = some (v, H') ∧ H.length ≤ H'.length ∧ (∀ c, c < H.length → H'[c]? = H[c]?) ∧ At (Loc H.length) z3 H' v 1 M.keptI.length (Go.Cs.ints M.keptI) := by
  obtain ⟨kv, H1, e1, e2, e3, e4⟩ := f42 m w
  have h41 := f41 m w
  obtain ⟨tl, d1, d2, d3, d4⟩ := e4.pos (by omega)
  have hlen := e4.len
  have hfew := w.few
  have hkl := keptL_len M
  have key : ∃ v H', run P 14 [.ptr b 0] H = some (v, H') ∧ H1.length ≤ H'.length ∧ (∀ c, c < H1.length → H'[c]? = H1[c]?) ∧ At (Loc H1.length) z3 H' v 1 M.keptI.length (Go.Cs.ints M.keptI) := by
    rw [run_lv c14]
    simp (disch := first | omega | rfl | assumption | (simp only [csN, Nat.reduceAdd, Nat.reduceMul, Nat.reduceLeDiff, Nat.reduceEqDiff] <;> omega) | (simp only [csF]; done) | (simp only [csF] <;> assumption) | fail) only [Nat.reduceEqDiff, Nat.reduceAdd, Nat.reduceMul, Nat.reduceSub, Nat.reduceLeDiff, Int.reduceAdd, Int.reduceSub, Int.reduceMul, Int.reduceLT, Int.reduceLE, Int.reduceGT, Int.reduceGE, Int.reduceEq, Int.reduceBEq, Int.reduceBNe, Int.reduceNeg, Int.reduceToNat, csAll, ↓reduceIte, C14, entry_1, h41, e1, hlen]
    generalize hr : den P (.loop C14_1) _ _ = r
    obtain ⟨x, E2, H2, rfl, -, rfl, g1, g2, g3⟩ := (l14_1 (H0 := H1) (ks := M.keptL) (kv := kv) (ob := blkOf kv) (by omega) (by rw [hkl]; exact d1) d3 (fun _ => .undef)).at hr _
      ⟨by simp only [upd_apply, Nat.reduceEqDiff, ↓reduceIte], by simp only [upd_apply, Nat.reduceEqDiff, ↓reduceIte, hkl], Nat.le_refl _, fun _ _ => rfl, 0, by simp only [upd_apply, Nat.reduceEqDiff, ↓reduceIte]; rfl, by omega, rfl, by simp only [upd_apply, Nat.reduceEqDiff, ↓reduceIte]; exact At.nil⟩
    rw [hkl] at g3
    refine ⟨_, H2, ?_, g1, g2, g3⟩
    simp (disch := first | omega | rfl | assumption | (simp only [csN, Nat.reduceAdd, Nat.reduceMul, Nat.reduceLeDiff, Nat.reduceEqDiff] <;> omega) | (simp only [csF]; done) | (simp only [csF] <;> assumption) | fail) only [Nat.reduceEqDiff, Nat.reduceAdd, Nat.reduceMul, Nat.reduceSub, Nat.reduceLeDiff, Int.reduceAdd, Int.reduceSub, Int.reduceMul, Int.reduceLT, Int.reduceLE, Int.reduceGT, Int.reduceGE, Int.reduceEq, Int.reduceBEq, Int.reduceBNe, Int.reduceNeg, Int.reduceToNat, csAll, ↓reduceIte]
  obtain ⟨v, H', k1, k2, k3, k4⟩ := key
  exact ⟨v, H', k1, by omega, fun c hc => by rw [k3 c (by omega), e3 c hc], k4.locMono e2⟩
end
end Go.Cs.Try

/- New. -/
namespace Go.Cs
open Go

/-- A further mutator. -/
theorem MRep.addSlot {o : Tags} {g : Nat} {H H' : CHeap} {b : Nat} {M : Mdl} {L : Lay} (m : MRep o g H b M L) {s : List Int} {u v : CV} {o' : Tags}
    (hd : ∀ c t, o' c = some t → c < H'.length) (ho : ∀ c k, o c = some (g, k) → o' c = some (g, k))
    (hf : ∀ c k, o c = some (g, k) → k ≠ (1, 0) → k ≠ (0, 0) → H'[c]? = H[c]?) (hb : H'[b]? = some ⟨[v, L.gl, L.qv, L.ov], .rw, 0⟩)
    (hr : At o' (g, 1, 0) H' v 1 (M.slots.length + 1) (L.sv ++ [u])) (h1 : At o' (g, 2, M.slots.length) H' u 1 16 (ints s)) :
    MRep o' g H' b { M with slots := M.slots ++ [s] } { L with sl := v, sv := L.sv ++ [u] } where
  dom := hd
  top := ho _ _ m.top
  cells := hb
  nsv := by simp [m.nsv]
  slots := by rw [List.length_append]; exact hr
  slot := fun i y hy => by
    rw [List.getElem?_append] at hy
    split at hy
    · rename_i hj
      obtain ⟨v, e1, e2⟩ := m.slot i y hy
      refine ⟨v, ?_, e2.frame (fun c => ho c _) (fun c h => hf c _ h (by simp) (by simp))⟩
      show (L.sv ++ [u])[i]? = _
      rw [List.getElem?_append_left (by rw [m.nsv]; exact hj)]
      exact e1
    · rename_i hj
      have hj' : i = M.slots.length := by
        have := lt_of_get hy
        simp at this; omega
      subst hj'
      simp at hy
      subst hy
      refine ⟨u, ?_, h1⟩
      show (L.sv ++ [u])[M.slots.length]? = _
      rw [← m.nsv]; simp
  globals := m.globals.frame (fun c => ho c _) (fun c h => hf c _ h (by simp) (by simp))
  queue := m.queue.frame (fun c => ho c _) (fun c h => hf c _ h (by simp) (by simp))
  nhv := m.nhv
  objs := m.objs.frame (fun c => ho c _) (fun c h => hf c _ h (by simp) (by simp))
  refs := fun j y hy => by
    obtain ⟨v, e1, e2, e3⟩ := m.refs j y hy
    exact ⟨v, e1, e2.frame (fun c => ho c _) (fun c h => hf c _ h (by simp) (by simp)), e3.frame (fun c => ho c _) (fun c h => hf c _ h (by simp) (by simp))⟩

/-- The same, from memory that is new: u is a list of its own, v is the longer list of lists. -/
theorem MRep.newSlot {o : Tags} {g : Nat} {H Hf : CHeap} {b : Nat} {M : Mdl} {L : Lay} (m : MRep o g H b M L) {s : List Int} {u v : CV} {ub vb : Nat} {tu tv : Bool} (hu : u = .slice ub 0 16 16 1 tu) (hv : v = .slice vb 0 (M.slots.length + 1) (M.slots.length + 1) 1 tv)
    (hn : ub ≠ vb) (hub : H.length ≤ ub) (hvb : H.length ≤ vb) (hs : s.length = 16) (cu : Hf[ub]? = some ⟨ints s, .rw, 1⟩) (cv : Hf[vb]? = some ⟨L.sv ++ [u], .rw, 1⟩) (hl : H.length ≤ Hf.length)
    (hb : Hf[b]? = some ⟨[v, L.gl, L.qv, L.ov], .rw, 0⟩) (hf : ∀ d, d < H.length → o d ≠ some (g, 1, 0) → d ≠ b → Hf[d]? = H[d]?) :
    ∃ o' L', MRep o' g Hf b { M with slots := M.slots ++ [s] } L' ∧ Frm g o H o' Hf := by
  have hlu := lt_of_get cu
  have hlv := lt_of_get cv
  refine ⟨(o.put ub (g, 2, M.slots.length)).put vb (g, 1, 0), _, m.addSlot (s := s) (u := u) (v := v) ?_ ?_ ?_ hb (.inr ⟨vb, tv, hv, Tags.put_eq, cv, by simp [m.nsv]⟩) (.inr ⟨ub, tu, hu, by rw [Tags.put_ne hn, Tags.put_eq], cu, by simp [ints_len, hs]⟩), ?_⟩
  · intro c t h
    by_cases e : c = vb
    · omega
    · rw [Tags.put_ne e] at h
      by_cases e' : c = ub
      · omega
      · rw [Tags.put_ne e'] at h; have := m.dom c t h; omega
  · intro c k h
    have := m.dom c _ h
    rw [Tags.put_ne (by omega), Tags.put_ne (by omega), h]
  · intro c k h k1 k2
    refine hf c (m.dom c _ h) (by rw [h]; simpa using k1) ?_
    rintro rfl
    rw [m.top] at h
    simp only [Option.some.injEq, Prod.mk.injEq, true_and] at h
    exact k2 h.symm
  · refine ⟨hl, fun c hc => by rw [Tags.put_ne (by omega), Tags.put_ne (by omega)], fun c t h hc => ?_, fun c hc hk => hf c hc (hk _) ?_⟩
    · by_cases e : c = vb
      · rw [e, Tags.put_eq] at h; simp only [Option.some.injEq] at h; rw [← h]
      · rw [Tags.put_ne e] at h
        by_cases e' : c = ub
        · rw [e', Tags.put_eq] at h; simp only [Option.some.injEq] at h; rw [← h]
        · rw [Tags.put_ne e'] at h; have := m.dom c t h; omega
    · rintro rfl; exact hk _ m.top

def zeros16 : List Int := List.replicate 16 0
def Mdl.new (n : Nat) : Mdl := ⟨List.replicate n zeros16, zeros16, [], []⟩
theorem Mdl.new_ok {n : Nat} (h : 1 ≤ n ∧ n ≤ 4) : (Mdl.new n).Ok where
  ns := by simpa [Mdl.new] using h
  s16 := fun s hs => by
    simp only [Mdl.new, List.mem_replicate] at hs
    rw [hs.2]
    refine ⟨by simp [zeros16], fun v hv => ?_⟩
    simp only [zeros16, List.mem_replicate] at hv
    rw [hv.2]; simp [Mdl.new]
  g16 := by
    refine ⟨by simp [Mdl.new, zeros16], fun v hv => ?_⟩
    simp only [Mdl.new, zeros16, List.mem_replicate] at hv
    rw [hv.2]; simp [Mdl.new]
  q64 := by simp [Mdl.new]
  objs := fun x hx => by simp [Mdl.new] at hx
  few := by simp [Mdl.new]
end Go.Cs
namespace Go.Cs.Try
open Go Go.Cs
set_option maxRecDepth 100000
section

theorem l31_1 {o0 : Tags} {g : Nat} {H0 : CHeap} {b n : Nat} (hn : n ≤ 4) (hb : H0.length ≤ b) :
    LoopOk P C31_1 (fun k E H => E 4 = .ptr b 0 ∧ E 14 = .i n ∧ ∃ i : Nat, E 15 = .i i ∧ i ≤ n ∧ k = n - i ∧ ∃ o L, MRep o g H b (Mdl.new i) L ∧ Frm g o0 H0 o H)
      (fun x E' H' => x = .exit 0 ∧ E' 4 = .ptr b 0 ∧ ∃ o L, MRep o g H' b (Mdl.new n) L ∧ Frm g o0 H0 o H') := by
  refine loop_ind ?_
  rintro k E H ⟨h4, h14, i, h15, hi, rfl, o, L, m, fr⟩
  by_cases c : i < n
  · have hc := m.cells
    have hl := lt_of_get hc
    have hns : (Mdl.new i).slots.length = i := by simp [Mdl.new]
    have hz : (List.replicate 16 [CV.int .i64 0]).flatten = Go.Cs.ints zeros16 := rfl
    have ms := ((m.app [⟨Go.Cs.ints zeros16, .rw, 1⟩]).app [⟨[.slice H.length 0 16 16 1 false], .rw, 1⟩]).slots
    rw [hns] at ms
    obtain ⟨H', a1, a2, a3, a4⟩ := ms.append (k := 1) (new := [.slice H.length 0 16 16 1 false]) (by omega) (Nat.le_trans (by omega : i + 1 ≤ 5) (by decide)) rfl rfl
    have hlen : (H ++ [⟨Go.Cs.ints zeros16, .rw, 1⟩] ++ [⟨[.slice H.length 0 16 16 1 false], .rw, 1⟩] : CHeap).length = H.length + 2 := by simp
    rw [hlen] at a1 a2 a3 a4
    have hfree : ∀ c, H.length ≤ c → o c ≠ some (g, 1, 0) := fun c hc h => by have := m.dom c _ h; omega
    have k0 : H'[H.length]? = some ⟨Go.Cs.ints zeros16, .rw, 1⟩ := by rw [a4 _ (by omega) (hfree _ (by omega))]; simp (disch := first | omega | rfl | assumption | (simp only [csN, Nat.reduceAdd, Nat.reduceMul, Nat.reduceLeDiff, Nat.reduceEqDiff] <;> omega) | (simp only [csF]; done) | (simp only [csF] <;> assumption) | fail) only [Nat.reduceEqDiff, Nat.reduceAdd, Nat.reduceMul, Nat.reduceSub, Nat.reduceLeDiff, Int.reduceAdd, Int.reduceSub, Int.reduceMul, Int.reduceLT, Int.reduceLE, Int.reduceGT, Int.reduceGE, Int.reduceEq, Int.reduceBEq, Int.reduceBNe, Int.reduceNeg, Int.reduceToNat, csAll, ↓reduceIte]
    have kb : H'[b]? = some ⟨[L.sl, L.gl, L.qv, L.ov], .rw, 0⟩ := by rw [a4 _ (by omega) (by rw [m.top]; simp)]; simp (disch := first | omega | rfl | assumption | (simp only [csN, Nat.reduceAdd, Nat.reduceMul, Nat.reduceLeDiff, Nat.reduceEqDiff] <;> omega) | (simp only [csF]; done) | (simp only [csF] <;> assumption) | fail) only [Nat.reduceEqDiff, Nat.reduceAdd, Nat.reduceMul, Nat.reduceSub, Nat.reduceLeDiff, Int.reduceAdd, Int.reduceSub, Int.reduceMul, Int.reduceLT, Int.reduceLE, Int.reduceGT, Int.reduceGE, Int.reduceEq, Int.reduceBEq, Int.reduceBNe, Int.reduceNeg, Int.reduceToNat, csAll, ↓reduceIte, hc]
    obtain ⟨o', L', m', fr'⟩ := m.newSlot (Hf := H'.set b ⟨[.slice (H.length + 2) 0 (i + 1) (i + 1) 1 true, L.gl, L.qv, L.ov], .rw, 0⟩) (s := zeros16) (u := .slice H.length 0 16 16 1 false) (v := .slice (H.length + 2) 0 (i + 1) (i + 1) 1 true) (ub := H.length) (vb := H.length + 2) (tu := false) (tv := true)
      rfl (by rw [hns]) (by omega) (by omega) (by omega) rfl (by rw [List.getElem?_set_ne (by omega), k0]) (by rw [List.getElem?_set_ne (by omega), a3]) (by rw [List.length_set]; omega) (by rw [List.getElem?_set_self (by omega)])
      (fun d hd h h' => by rw [List.getElem?_set_ne (Ne.symm h'), a4 d (by omega) h]; simp (disch := first | omega | rfl | assumption | (simp only [csN, Nat.reduceAdd, Nat.reduceMul, Nat.reduceLeDiff, Nat.reduceEqDiff] <;> omega) | (simp only [csF]; done) | (simp only [csF] <;> assumption) | fail) only [Nat.reduceEqDiff, Nat.reduceAdd, Nat.reduceMul, Nat.reduceSub, Nat.reduceLeDiff, Int.reduceAdd, Int.reduceSub, Int.reduceMul, Int.reduceLT, Int.reduceLE, Int.reduceGT, Int.reduceGE, Int.reduceEq, Int.reduceBEq, Int.reduceBNe, Int.reduceNeg, Int.reduceToNat, csAll, ↓reduceIte])
    have hnew : ({ Mdl.new i with slots := (Mdl.new i).slots ++ [zeros16] } : Mdl) = Mdl.new (i + 1) := by simp [Mdl.new, List.replicate_succ']
    rw [hnew] at m'
    have hw : IntKind.i64.wrap ((i : Int) + 1) = ((i + 1 : Nat) : Int) := by rw [wrap_id (by omega)]; rfl
    apply step_go (k' := n - (i + 1))
    · simp (disch := first | omega | rfl | assumption | (simp only [csN, Nat.reduceAdd, Nat.reduceMul, Nat.reduceLeDiff, Nat.reduceEqDiff] <;> omega) | (simp only [csF]; done) | (simp only [csF] <;> assumption) | fail) only [Nat.reduceEqDiff, Nat.reduceAdd, Nat.reduceMul, Nat.reduceSub, Nat.reduceLeDiff, Int.reduceAdd, Int.reduceSub, Int.reduceMul, Int.reduceLT, Int.reduceLE, Int.reduceGT, Int.reduceGE, Int.reduceEq, Int.reduceBEq, Int.reduceBNe, Int.reduceNeg, Int.reduceToNat, csAll, ↓reduceIte, C31_1, h4, h14, h15, hc, hz, a1, kb, hw]
      rfl
    · omega
    · exact ⟨by simp [upd_apply, h4], by simp [upd_apply, h14], i + 1, by simp [upd_apply], by omega, rfl, o', L', m', fr.trans fr'⟩
  · apply step_out (x := .exit 0)
    · simp (disch := first | omega | rfl | assumption | (simp only [csN, Nat.reduceAdd, Nat.reduceMul, Nat.reduceLeDiff, Nat.reduceEqDiff] <;> omega) | (simp only [csF]; done) | (simp only [csF] <;> assumption) | fail) only [Nat.reduceEqDiff, Nat.reduceAdd, Nat.reduceMul, Nat.reduceSub, Nat.reduceLeDiff, Int.reduceAdd, Int.reduceSub, Int.reduceMul, Int.reduceLT, Int.reduceLE, Int.reduceGT, Int.reduceGE, Int.reduceEq, Int.reduceBEq, Int.reduceBNe, Int.reduceNeg, Int.reduceToNat, csAll, ↓reduceIte, C31_1, h14, h15]
      rfl
    · simp
    · have : i = n := by omega
      subst this
      exact ⟨rfl, by simp [upd_apply, h4], o, L, m, fr⟩

/-- New. -/
theorem f31 {o : Tags} {g : Nat} {H : CHeap} (hd : ∀ c t, o c = some t → c < H.length) (hg : ∀ c k, o c ≠ some (g, k)) {n : Nat} (hn : 1 ≤ n ∧ n ≤ 4) :
    ∃ b H' o' L, run P 31 [.i n] H = some (.tup [.ptr b 0, .i 0], H') ∧ MRep o' g H' b (Mdl.new n) L ∧ Frm g o H o' H' := by
  have hz : (List.replicate 16 [CV.int .i64 0]).flatten = Go.Cs.ints zeros16 := rfl
  have m0 : MRep ((o.put (H.length + 1) (g, 0, 0)).put H.length (g, 3, 0)) g (H ++ [⟨Go.Cs.ints zeros16, .rw, 1⟩] ++ [⟨[.nilSlice, .slice H.length 0 16 16 1 false, .nilSlice, .nilSlice], .rw, 0⟩]) (H.length + 1) (Mdl.new 0) ⟨.nilSlice, .slice H.length 0 16 16 1 false, .nilSlice, .nilSlice, [], []⟩ :=
    { dom := fun c t h => by
        simp only [List.length_append, List.length_cons, List.length_nil]
        by_cases e : c = H.length
        · omega
        · rw [Tags.put_ne e] at h
          by_cases e' : c = H.length + 1
          · omega
          · rw [Tags.put_ne e'] at h; have := hd c t h; omega
      top := by rw [Tags.put_ne (by omega), Tags.put_eq]
      cells := by simp (disch := first | omega | rfl | assumption | (simp only [csN, Nat.reduceAdd, Nat.reduceMul, Nat.reduceLeDiff, Nat.reduceEqDiff] <;> omega) | (simp only [csF]; done) | (simp only [csF] <;> assumption) | fail) only [Nat.reduceEqDiff, Nat.reduceAdd, Nat.reduceMul, Nat.reduceSub, Nat.reduceLeDiff, Int.reduceAdd, Int.reduceSub, Int.reduceMul, Int.reduceLT, Int.reduceLE, Int.reduceGT, Int.reduceGE, Int.reduceEq, Int.reduceBEq, Int.reduceBNe, Int.reduceNeg, Int.reduceToNat, csAll, ↓reduceIte]
      nsv := rfl
      slots := .inl ⟨rfl, rfl, .inl rfl⟩
      slot := fun i s h => by simp [Mdl.new] at h
      globals := .inr ⟨H.length, false, rfl, Tags.put_eq, by simp (disch := first | omega | rfl | assumption | (simp only [csN, Nat.reduceAdd, Nat.reduceMul, Nat.reduceLeDiff, Nat.reduceEqDiff] <;> omega) | (simp only [csF]; done) | (simp only [csF] <;> assumption) | fail) only [Nat.reduceEqDiff, Nat.reduceAdd, Nat.reduceMul, Nat.reduceSub, Nat.reduceLeDiff, Int.reduceAdd, Int.reduceSub, Int.reduceMul, Int.reduceLT, Int.reduceLE, Int.reduceGT, Int.reduceGE, Int.reduceEq, Int.reduceBEq, Int.reduceBNe, Int.reduceNeg, Int.reduceToNat, csAll, ↓reduceIte, Mdl.new], rfl⟩
      queue := .inl ⟨rfl, rfl, .inl rfl⟩
      nhv := rfl
      objs := .inl ⟨rfl, rfl, .inl rfl⟩
      refs := fun i s h => by simp [Mdl.new] at h }
  have f0 : Frm g o H ((o.put (H.length + 1) (g, 0, 0)).put H.length (g, 3, 0)) (H ++ [⟨Go.Cs.ints zeros16, .rw, 1⟩] ++ [⟨[.nilSlice, .slice H.length 0 16 16 1 false, .nilSlice, .nilSlice], .rw, 0⟩]) := by
    refine ⟨by simp, fun c hc => by rw [Tags.put_ne (by omega), Tags.put_ne (by omega)], fun c t h hc => ?_, fun c hc _ => by simp (disch := first | omega | rfl | assumption | (simp only [csN, Nat.reduceAdd, Nat.reduceMul, Nat.reduceLeDiff, Nat.reduceEqDiff] <;> omega) | (simp only [csF]; done) | (simp only [csF] <;> assumption) | fail) only [Nat.reduceEqDiff, Nat.reduceAdd, Nat.reduceMul, Nat.reduceSub, Nat.reduceLeDiff, Int.reduceAdd, Int.reduceSub, Int.reduceMul, Int.reduceLT, Int.reduceLE, Int.reduceGT, Int.reduceGE, Int.reduceEq, Int.reduceBEq, Int.reduceBNe, Int.reduceNeg, Int.reduceToNat, csAll, ↓reduceIte]⟩
    by_cases e : c = H.length
    · rw [e, Tags.put_eq] at h; simp only [Option.some.injEq] at h; rw [← h]
    · rw [Tags.put_ne e] at h
      by_cases e' : c = H.length + 1
      · rw [e', Tags.put_eq] at h; simp only [Option.some.injEq] at h; rw [← h]
      · rw [Tags.put_ne e'] at h; have := hd c t h; omega
  have key : ∃ H' o' L, run P 31 [.i n] H = some (.tup [.ptr (H.length + 1) 0, .i 0], H') ∧ MRep o' g H' (H.length + 1) (Mdl.new n) L ∧ Frm g o H o' H' := by
    rw [run_lv c31]
    simp (disch := first | omega | rfl | assumption | (simp only [csN, Nat.reduceAdd, Nat.reduceMul, Nat.reduceLeDiff, Nat.reduceEqDiff] <;> omega) | (simp only [csF]; done) | (simp only [csF] <;> assumption) | fail) only [Nat.reduceEqDiff, Nat.reduceAdd, Nat.reduceMul, Nat.reduceSub, Nat.reduceLeDiff, Int.reduceAdd, Int.reduceSub, Int.reduceMul, Int.reduceLT, Int.reduceLE, Int.reduceGT, Int.reduceGE, Int.reduceEq, Int.reduceBEq, Int.reduceBNe, Int.reduceNeg, Int.reduceToNat, csAll, ↓reduceIte, C31, entry_1, hz]
    generalize hr : den P (.loop C31_1) _ _ = r
    obtain ⟨x, E2, H2, rfl, -, rfl, q4, o', L', m', fr⟩ := (l31_1 (o0 := o) (g := g) (H0 := H) (b := H.length + 1) hn.2 (by omega)).at hr _
      ⟨by simp only [upd_apply, Nat.reduceEqDiff, ↓reduceIte], by simp only [upd_apply, Nat.reduceEqDiff, ↓reduceIte], 0, by simp only [upd_apply, Nat.reduceEqDiff, ↓reduceIte]; rfl, by omega, rfl, _, _, m0, f0⟩
    refine ⟨H2, o', L', ?_, m', fr⟩
    simp (disch := first | omega | rfl | assumption | (simp only [csN, Nat.reduceAdd, Nat.reduceMul, Nat.reduceLeDiff, Nat.reduceEqDiff] <;> omega) | (simp only [csF]; done) | (simp only [csF] <;> assumption) | fail) only [Nat.reduceEqDiff, Nat.reduceAdd, Nat.reduceMul, Nat.reduceSub, Nat.reduceLeDiff, Int.reduceAdd, Int.reduceSub, Int.reduceMul, Int.reduceLT, Int.reduceLE, Int.reduceGT, Int.reduceGE, Int.reduceEq, Int.reduceBEq, Int.reduceBNe, Int.reduceNeg, Int.reduceToNat, csAll, ↓reduceIte, q4]
  obtain ⟨H', o', L, k1, k2, k3⟩ := key
  exact ⟨_, H', o', L, k1, k2, k3⟩

theorem f31_no {H : CHeap} {n : Int} (hn : ¬ (1 ≤ n ∧ n ≤ 4)) : run P 31 [.i n] H = some (.tup [.nilPtr, .i 1], H) := by
  rw [run_lv c31]
  by_cases h : 1 ≤ n
  · simp (disch := first | omega | rfl | assumption | (simp only [csN, Nat.reduceAdd, Nat.reduceMul, Nat.reduceLeDiff, Nat.reduceEqDiff] <;> omega) | (simp only [csF]; done) | (simp only [csF] <;> assumption) | fail) only [Nat.reduceEqDiff, Nat.reduceAdd, Nat.reduceMul, Nat.reduceSub, Nat.reduceLeDiff, Int.reduceAdd, Int.reduceSub, Int.reduceMul, Int.reduceLT, Int.reduceLE, Int.reduceGT, Int.reduceGE, Int.reduceEq, Int.reduceBEq, Int.reduceBNe, Int.reduceNeg, Int.reduceToNat, csAll, ↓reduceIte, C31, entry_1]
  · simp (disch := first | omega | rfl | assumption | (simp only [csN, Nat.reduceAdd, Nat.reduceMul, Nat.reduceLeDiff, Nat.reduceEqDiff] <;> omega) | (simp only [csF]; done) | (simp only [csF] <;> assumption) | fail) only [Nat.reduceEqDiff, Nat.reduceAdd, Nat.reduceMul, Nat.reduceSub, Nat.reduceLeDiff, Int.reduceAdd, Int.reduceSub, Int.reduceMul, Int.reduceLT, Int.reduceLE, Int.reduceGT, Int.reduceGE, Int.reduceEq, Int.reduceBEq, Int.reduceBNe, Int.reduceNeg, Int.reduceToNat, csAll, ↓reduceIte, C31, entry_1]
end
end Go.Cs.Try

/- Collect: what it looks for. -/
namespace Go.Cs.Try
open Go Go.Cs
set_option maxRecDepth 100000
section
variable {H : CHeap}

theorem f52 {n : Int} : run P 52 [.i n] H = some (.bool (n != 0), H) := by
  rw [run_lv c52]
  simp (disch := first | omega | rfl | assumption | (simp only [csN, Nat.reduceAdd, Nat.reduceMul, Nat.reduceLeDiff, Nat.reduceEqDiff] <;> omega) | (simp only [csF]; done) | (simp only [csF] <;> assumption) | fail) only [Nat.reduceEqDiff, Nat.reduceAdd, Nat.reduceMul, Nat.reduceSub, Nat.reduceLeDiff, Int.reduceAdd, Int.reduceSub, Int.reduceMul, Int.reduceLT, Int.reduceLE, Int.reduceGT, Int.reduceGE, Int.reduceEq, Int.reduceBEq, Int.reduceBNe, Int.reduceNeg, Int.reduceToNat, csAll, ↓reduceIte, C52, entry_1]

theorem l75_1 {full : List Int} {rb k cap : Nat} {tl : Bool} (hk : k ≤ full.length) (hm : k ≤ 100000) (hb : H[rb]? = some ⟨Go.Cs.ints full, .rw, 1⟩) :
    LoopOk P C75_1 (fun m E H' => H' = H ∧ E 0 = .slice rb 0 k cap 1 tl ∧ E 1 = .func 52 [] ∧ E 7 = .i k ∧ ∃ i : Nat, E 8 = .i i ∧ i ≤ k ∧ m = k - i ∧ ∀ j, j < i → full.getD j 0 = 0)
      (fun x E' H' => H' = H ∧ ((x = .exit 0 ∧ ∀ j, j < k → full.getD j 0 = 0) ∨ (x = .ret ∧ ∃ j : Nat, E' 4 = .i j ∧ j < k ∧ full.getD j 0 ≠ 0))) := by
  refine loop_ind ?_
  rintro m E H' ⟨rfl, h0, h1, h7, i, h8, hi, rfl, hz⟩
  by_cases c : i < k
  · have hg : (Go.Cs.ints full)[i]? = some (.i (full.getD i 0)) := by rw [ints_get, getD_of 0 (by omega)]; rfl
    have hw : IntKind.i64.wrap ((i : Int) + 1) = ((i + 1 : Nat) : Int) := by rw [wrap_id (by omega)]; rfl
    by_cases hx : full.getD i 0 = 0
    · apply step_go (k' := k - (i + 1))
      · simp (disch := first | omega | rfl | assumption | (simp only [csN, Nat.reduceAdd, Nat.reduceMul, Nat.reduceLeDiff, Nat.reduceEqDiff] <;> omega) | (simp only [csF]; done) | (simp only [csF] <;> assumption) | fail) only [Nat.reduceEqDiff, Nat.reduceAdd, Nat.reduceMul, Nat.reduceSub, Nat.reduceLeDiff, Int.reduceAdd, Int.reduceSub, Int.reduceMul, Int.reduceLT, Int.reduceLE, Int.reduceGT, Int.reduceGE, Int.reduceEq, Int.reduceBEq, Int.reduceBNe, Int.reduceNeg, Int.reduceToNat, csAll, ↓reduceIte, C75_1, h0, h1, h7, h8, hb, hg, f52, hw]
        rfl
      · omega
      · refine ⟨rfl, by simp [upd_apply, h0], by simp [upd_apply, h1], by simp [upd_apply, h7], i + 1, by simp [upd_apply], by omega, rfl, fun j hj => ?_⟩
        by_cases e : j = i
        · subst e; exact hx
        · exact hz j (by omega)
    · apply step_out (x := .ret)
      · simp (disch := first | omega | rfl | assumption | (simp only [csN, Nat.reduceAdd, Nat.reduceMul, Nat.reduceLeDiff, Nat.reduceEqDiff] <;> omega) | (simp only [csF]; done) | (simp only [csF] <;> assumption) | fail) only [Nat.reduceEqDiff, Nat.reduceAdd, Nat.reduceMul, Nat.reduceSub, Nat.reduceLeDiff, Int.reduceAdd, Int.reduceSub, Int.reduceMul, Int.reduceLT, Int.reduceLE, Int.reduceGT, Int.reduceGE, Int.reduceEq, Int.reduceBEq, Int.reduceBNe, Int.reduceNeg, Int.reduceToNat, csAll, ↓reduceIte, C75_1, h0, h1, h7, h8, hb, hg, f52, hw]
        rfl
      · simp
      · exact ⟨rfl, .inr ⟨rfl, i, by simp [upd_apply], c, hx⟩⟩
  · apply step_out (x := .exit 0)
    · simp (disch := first | omega | rfl | assumption | (simp only [csN, Nat.reduceAdd, Nat.reduceMul, Nat.reduceLeDiff, Nat.reduceEqDiff] <;> omega) | (simp only [csF]; done) | (simp only [csF] <;> assumption) | fail) only [Nat.reduceEqDiff, Nat.reduceAdd, Nat.reduceMul, Nat.reduceSub, Nat.reduceLeDiff, Int.reduceAdd, Int.reduceSub, Int.reduceMul, Int.reduceLT, Int.reduceLE, Int.reduceGT, Int.reduceGE, Int.reduceEq, Int.reduceBEq, Int.reduceBNe, Int.reduceNeg, Int.reduceToNat, csAll, ↓reduceIte, C75_1, h7, h8]
      rfl
    · simp
    · exact ⟨rfl, .inl ⟨rfl, fun j hj => hz j (by omega)⟩⟩

/-- slices.ContainsFunc, of what is not 0. -/
theorem f51 {full : List Int} {rb k cap : Nat} {tl : Bool} (hk : k ≤ full.length) (hm : k ≤ 100000) (hb : H[rb]? = some ⟨Go.Cs.ints full, .rw, 1⟩) :
    run P 51 [.slice rb 0 k cap 1 tl, .func 52 []] H = some (.bool ((full.take k).any (· != 0)), H) := by
  have key : ∃ j : Int, run P 75 [.slice rb 0 k cap 1 tl, .func 52 []] H = some (.i j, H) ∧ (0 ≤ j ↔ (full.take k).any (· != 0) = true) := by
    rw [run_lv c75]
    simp (disch := first | omega | rfl | assumption | (simp only [csN, Nat.reduceAdd, Nat.reduceMul, Nat.reduceLeDiff, Nat.reduceEqDiff] <;> omega) | (simp only [csF]; done) | (simp only [csF] <;> assumption) | fail) only [Nat.reduceEqDiff, Nat.reduceAdd, Nat.reduceMul, Nat.reduceSub, Nat.reduceLeDiff, Int.reduceAdd, Int.reduceSub, Int.reduceMul, Int.reduceLT, Int.reduceLE, Int.reduceGT, Int.reduceGE, Int.reduceEq, Int.reduceBEq, Int.reduceBNe, Int.reduceNeg, Int.reduceToNat, csAll, ↓reduceIte, C75, entry_2]
    generalize hr : den P (.loop C75_1) _ _ = r
    obtain ⟨x, E2, H2, rfl, -, rfl, hp⟩ := (l75_1 (H := H) (tl := tl) (cap := cap) hk hm hb).at hr _
      ⟨rfl, by simp only [upd_apply, Nat.reduceEqDiff, ↓reduceIte], by simp only [upd_apply, Nat.reduceEqDiff, ↓reduceIte], by simp only [upd_apply, Nat.reduceEqDiff, ↓reduceIte], 0, by simp only [upd_apply, Nat.reduceEqDiff, ↓reduceIte]; rfl, by omega, rfl, fun j hj => by omega⟩
    rcases hp with ⟨rfl, hz⟩ | ⟨rfl, j, h4, hj, hne⟩
    · refine ⟨-1, ?_, ?_⟩
      · simp (disch := first | omega | rfl | assumption | (simp only [csN, Nat.reduceAdd, Nat.reduceMul, Nat.reduceLeDiff, Nat.reduceEqDiff] <;> omega) | (simp only [csF]; done) | (simp only [csF] <;> assumption) | fail) only [Nat.reduceEqDiff, Nat.reduceAdd, Nat.reduceMul, Nat.reduceSub, Nat.reduceLeDiff, Int.reduceAdd, Int.reduceSub, Int.reduceMul, Int.reduceLT, Int.reduceLE, Int.reduceGT, Int.reduceGE, Int.reduceEq, Int.reduceBEq, Int.reduceBNe, Int.reduceNeg, Int.reduceToNat, csAll, ↓reduceIte]
      · constructor
        · intro h; omega
        · intro h
          simp only [List.any_eq_true, bne_iff_ne, ne_eq] at h
          obtain ⟨v, hv, hne⟩ := h
          obtain ⟨j, hj, rfl⟩ := List.mem_iff_getElem.1 hv
          simp only [List.length_take] at hj
          have := hz j (by omega)
          simp [List.getD_eq_getElem?_getD, List.getElem_take] at this hne
          rw [List.getElem?_eq_getElem (by omega)] at this
          exact absurd this hne
    · refine ⟨j, ?_, ?_⟩
      · simp (disch := first | omega | rfl | assumption | (simp only [csN, Nat.reduceAdd, Nat.reduceMul, Nat.reduceLeDiff, Nat.reduceEqDiff] <;> omega) | (simp only [csF]; done) | (simp only [csF] <;> assumption) | fail) only [Nat.reduceEqDiff, Nat.reduceAdd, Nat.reduceMul, Nat.reduceSub, Nat.reduceLeDiff, Int.reduceAdd, Int.reduceSub, Int.reduceMul, Int.reduceLT, Int.reduceLE, Int.reduceGT, Int.reduceGE, Int.reduceEq, Int.reduceBEq, Int.reduceBNe, Int.reduceNeg, Int.reduceToNat, csAll, ↓reduceIte, h4]
      · constructor
        · intro _
          simp only [List.any_eq_true, bne_iff_ne, ne_eq]
          refine ⟨full.getD j 0, ?_, hne⟩
          have := getD_of (l := full) (i := j) 0 (by omega)
          have h2 : (full.take k)[j]? = some (full.getD j 0) := by rw [List.getElem?_take_of_lt hj, this]
          exact List.mem_of_getElem? h2
        · intro _; omega
  obtain ⟨j, e, hj⟩ := key
  rw [run_lv c51]
  by_cases h : 0 ≤ j
  · have := hj.1 h
    simp (disch := first | omega | rfl | assumption | (simp only [csN, Nat.reduceAdd, Nat.reduceMul, Nat.reduceLeDiff, Nat.reduceEqDiff] <;> omega) | (simp only [csF]; done) | (simp only [csF] <;> assumption) | fail) only [Nat.reduceEqDiff, Nat.reduceAdd, Nat.reduceMul, Nat.reduceSub, Nat.reduceLeDiff, Int.reduceAdd, Int.reduceSub, Int.reduceMul, Int.reduceLT, Int.reduceLE, Int.reduceGT, Int.reduceGE, Int.reduceEq, Int.reduceBEq, Int.reduceBNe, Int.reduceNeg, Int.reduceToNat, csAll, ↓reduceIte, C51, entry_2, e, this]
  · have : (full.take k).any (· != 0) = false := by
      cases hh : (full.take k).any (· != 0) with
      | false => rfl
      | true => exact absurd (hj.2 hh) h
    simp (disch := first | omega | rfl | assumption | (simp only [csN, Nat.reduceAdd, Nat.reduceMul, Nat.reduceLeDiff, Nat.reduceEqDiff] <;> omega) | (simp only [csF]; done) | (simp only [csF] <;> assumption) | fail) only [Nat.reduceEqDiff, Nat.reduceAdd, Nat.reduceMul, Nat.reduceSub, Nat.reduceLeDiff, Int.reduceAdd, Int.reduceSub, Int.reduceMul, Int.reduceLT, Int.reduceLE, Int.reduceGT, Int.reduceGE, Int.reduceEq, Int.reduceBEq, Int.reduceBNe, Int.reduceNeg, Int.reduceToNat, csAll, ↓reduceIte, C51, entry_2, e, this]
end
end Go.Cs.Try

/- Collect. -/
namespace Go.Cs
open Go
def cObj (ks : List Bool) (i : Nat) (x : Obj) : Option Obj :=
  if ks.getD (i + 1) false = true ∧ 0 < soft x.kd ∧ on ks (x.refs.getD 0 0) = false ∧ (x.refs.take (soft x.kd)).any (· != 0) = true then some { x with refs := List.replicate (soft x.kd) 0 ++ x.refs.drop (soft x.kd) } else none

def Mdl.coll (M : Mdl) (ks : List Bool) : Nat → Mdl × Int
  | 0 => (M, 0)
  | i + 1 => match cObj ks i ((M.coll ks i).1.obj (i + 1 : Nat)) with
    | some x => ((M.coll ks i).1.setObj (i + 1 : Nat) x, (M.coll ks i).2 + 1)
    | none => M.coll ks i

theorem Obj.Ok.soft {n : Nat} {x : Obj} (h : x.Ok n) : soft x.kd ≤ x.refs.length := by
  unfold Go.Cs.soft
  have h1 := h.nr
  have h2 := h.kd
  split
  · have := h2.2.2.1 (by assumption); omega
  · split
    · have := h2.2.2.2 (by assumption); omega
    · omega

theorem cObj_ok {ks : List Bool} {i n : Nat} {x y : Obj} (h : x.Ok n) (e : cObj ks i x = some y) : y.Ok n ∧ y.nr = x.nr ∧ y.nd = x.nd ∧ y.kd = x.kd ∧ y.refs.length = x.refs.length ∧ y.data = x.data := by
  unfold cObj at e
  split at e
  · simp only [Option.some.injEq] at e
    subst e
    have hs := h.soft
    have hl : (List.replicate (soft x.kd) (0 : Int) ++ x.refs.drop (soft x.kd)).length = x.refs.length := by simp; omega
    refine ⟨⟨by simpa [hl] using h.nr, h.nd, h.kd, fun v hv => ?_⟩, rfl, rfl, rfl, hl, rfl⟩
    simp only [List.mem_append, List.mem_replicate] at hv
    rcases hv with ⟨_, rfl⟩ | hv
    · omega
    · exact h.ids v (List.mem_of_mem_drop hv)
  · cases e

theorem Mdl.coll_ok {M : Mdl} (w : M.Ok) {ks : List Bool} : ∀ {i : Nat}, i ≤ M.objs.length → (M.coll ks i).1.Ok ∧ (M.coll ks i).1.objs.length = M.objs.length
  | 0, _ => ⟨w, rfl⟩
  | i + 1, hi => by
    obtain ⟨h1, h2⟩ := Mdl.coll_ok w (ks := ks) (i := i) (by omega)
    unfold Mdl.coll
    split
    · rename_i x e
      have hh : (M.coll ks i).1.has ((i + 1 : Nat) : Int) := by unfold Mdl.has; omega
      have := cObj_ok (h1.obj hh) e
      exact ⟨h1.setObj this.1, by simp [Mdl.setObj, h2]⟩
    · exact ⟨h1, h2⟩

/-- The first elements of a list. -/
theorem At.take {o : Tags} {t : Tag} {H0 : CHeap} {v : CV} {l : List Int} (a : At o t H0 v 1 l.length (ints l)) {j : Nat} (hj : j ≤ l.length) :
    ∃ v', sliceV 1 v none (some (.i j)) none = some v' ∧ (∀ H, vLen v' H = some (.i j, H)) ∧
      (0 < j → ∃ rb cap tl, v = .slice rb 0 l.length l.length 1 tl ∧ v' = .slice rb 0 j cap 1 tl ∧ o rb = some t ∧ H0[rb]? = some ⟨ints l, .rw, 1⟩) := by
  rcases a with ⟨h1, h2, rfl | ⟨b, f, rfl⟩⟩ | ⟨b, tl, rfl, h1, h2, h3⟩
  · have : j = 0 := by omega
    subst this
    refine ⟨.nilSlice, ?_, fun H => rfl, fun h => by omega⟩
    simp [sliceV, sliceBndsV, boundOV, boundV]
  · have : j = 0 := by omega
    subst this
    refine ⟨.slice b f 0 0 1 false, ?_, fun H => rfl, fun h => by omega⟩
    simp [sliceV, sliceBndsV, boundOV, boundV]
  · refine ⟨.slice b 0 j l.length 1 tl, ?_, fun H => rfl, fun _ => ⟨b, l.length, tl, rfl, rfl, h1, h2⟩⟩
    simp [sliceV, sliceBndsV, boundOV, boundV]
    rw [if_pos (by omega)]
    simp

theorem splice_clear {l : List Int} {k : Nat} (h : k ≤ l.length) : splice (ints l) 0 (List.replicate k [CV.int .i64 0]).flatten = ints (List.replicate k 0 ++ l.drop k) := by
  have : (List.replicate k [CV.int .i64 0]).flatten = ints (List.replicate k 0) := by
    induction k with
    | zero => rfl
    | succ n ih => rw [List.replicate_succ, List.replicate_succ, List.flatten_cons, ih (by omega), ints_cons]; rfl
  rw [this, ints_app]
  unfold splice
  simp [ints, List.map_drop]
end Go.Cs
namespace Go.Cs.Try
open Go Go.Cs
set_option maxRecDepth 100000
set_option maxHeartbeats 4000000
section
variable {o : Tags} {g : Nat} {b : Nat} {M : Mdl} {L : Lay} {H0 : CHeap}

theorem l29_1 (w : M.Ok) {ks : List Bool} (hks : ks.length = M.objs.length + 1) {kv : CV} {ob : Nat} {tlk : Bool} (hkv : kv = .slice ob 0 (M.objs.length + 1) (M.objs.length + 1) 1 tlk) (fo : o ob = none) (hH : ∀ c t, o c = some t → c < H0.length) :
    LoopOk P C29_1 (fun k E H => E 3 = kv ∧ E 18 = L.ov ∧ E 19 = .i M.objs.length ∧ ∃ i : Nat, E 20 = .i i ∧ i ≤ M.objs.length ∧ k = M.objs.length - i ∧ E 4 = .i (M.coll ks i).2 ∧ 0 ≤ (M.coll ks i).2 ∧ (M.coll ks i).2 ≤ i ∧ MRep o g H b (M.coll ks i).1 L ∧ Frm g o H0 o H ∧ H[ob]? = some ⟨bools ks, .rw, 1⟩)
      (fun x E' H' => x = .exit 0 ∧ E' 4 = .i (M.coll ks M.objs.length).2 ∧ MRep o g H' b (M.coll ks M.objs.length).1 L ∧ Frm g o H0 o H') := by
  refine loop_ind ?_
  rintro k E H ⟨h3, h18, h19, i, h20, hi, rfl, h4, hc0, hc1, m, fr, hob⟩
  have hfew := w.few
  obtain ⟨wi, hli⟩ := Mdl.coll_ok w (ks := ks) hi
  by_cases c : i < M.objs.length
  · have hhas : (M.coll ks i).1.has ((i + 1 : Nat) : Int) := by unfold Mdl.has; omega
    obtain ⟨hh, rest, g0, g1, g2, g3, g4, g5, g6⟩ := m.objAt _ hhas
    have hio : (((i + 1 : Nat) : Int) - 1).toNat = i := by omega
    have g0' := g0
    have g5' := g5
    have g6' := g6
    rw [hio] at g0 g2 g3 g5 g6
    obtain ⟨tl, d1, -, -, -⟩ := m.objs.pos (by omega)
    have hov := h18
    rw [d1, hli] at hov
    have hobj := wi.obj hhas
    have hbo := lt_of_get hob
    have hg1 := lt_of_get g1
    have hsoft := hobj.soft
    have hw : IntKind.i64.wrap ((i : Int) + 1) = ((i + 1 : Nat) : Int) := by rw [wrap_id (by omega)]; rfl
    have hon : (bools ks)[i + 1]? = some (.bool (ks.getD (i + 1) false)) := by rw [bools_get, getD_of false (by omega)]; rfl
    have hcoll : M.coll ks (i + 1) = match cObj ks i ((M.coll ks i).1.obj (i + 1 : Nat)) with
      | some x => ((M.coll ks i).1.setObj (i + 1 : Nat) x, (M.coll ks i).2 + 1)
      | none => M.coll ks i := rfl
    obtain ⟨sv, s1, s2, s3⟩ := g5.take hsoft
    generalize hx : (M.coll ks i).1.obj ((i + 1 : Nat) : Int) = xx at *
    generalize hcn : (M.coll ks i).2 = cn at *
    have hall : ([.i xx.nr, .i xx.nd, .i xx.kd, hh.1, hh.2] : List CV).all leaf = true := by
      simp only [List.all_cons, List.all_nil, g5.leaf, g6.leaf, leaf_int, Bool.and_true]
    have m2 := (m.app [⟨[.i xx.nr, .i xx.nd, .i xx.kd, hh.1, hh.2], .rw, 0⟩]).app [⟨[.i xx.nr, .i xx.nd, .i xx.kd], .rw, 0⟩]
    -- nothing is cleared
    have stay : cObj ks i xx = none → (∃ E2, den P C29_1 E H = some (.normal, E2, H ++ [⟨[.i xx.nr, .i xx.nd, .i xx.kd, hh.1, hh.2], .rw, 0⟩] ++ [⟨[.i xx.nr, .i xx.nd, .i xx.kd], .rw, 0⟩]) ∧ E2 3 = E 3 ∧ E2 18 = E 18 ∧ E2 19 = E 19 ∧ E2 4 = E 4 ∧ E2 20 = .i ((i + 1 : Nat) : Int)) →
        ∃ x E' H', den P C29_1 E H = some (x, E', H') ∧ ((x = .normal ∧ ∃ k', k' < M.objs.length - i ∧ E' 3 = kv ∧ E' 18 = L.ov ∧ E' 19 = .i M.objs.length ∧ ∃ i : Nat, E' 20 = .i i ∧ i ≤ M.objs.length ∧ k' = M.objs.length - i ∧ E' 4 = .i (M.coll ks i).2 ∧ 0 ≤ (M.coll ks i).2 ∧ (M.coll ks i).2 ≤ i ∧ MRep o g H' b (M.coll ks i).1 L ∧ Frm g o H0 o H' ∧ H'[ob]? = some ⟨bools ks, .rw, 1⟩) ∨
          (x ≠ .normal ∧ x = .exit 0 ∧ E' 4 = .i (M.coll ks M.objs.length).2 ∧ MRep o g H' b (M.coll ks M.objs.length).1 L ∧ Frm g o H0 o H')) := by
      rintro hn ⟨E2, e, q3, q18, q19, q4, q20⟩
      have hcc : M.coll ks (i + 1) = M.coll ks i := by rw [hcoll, hn]
      refine ⟨_, E2, _, e, .inl ⟨rfl, M.objs.length - (i + 1), by omega, q3.trans h3, q18.trans h18, q19.trans h19, i + 1, q20, by omega, rfl, ?_, ?_, ?_, ?_, ?_, ?_⟩⟩
      · rw [hcc, hcn]; exact q4.trans h4
      · rw [hcc, hcn]; exact hc0
      · rw [hcc, hcn]; omega
      · rw [hcc]; exact m2
      · exact fr.trans (.grow m.dom (by simp) (fun c hc => by simp (disch := first | omega | rfl | assumption | (simp only [csN, Nat.reduceAdd, Nat.reduceMul, Nat.reduceLeDiff, Nat.reduceEqDiff] <;> omega) | (simp only [csF]; done) | (simp only [csF] <;> assumption) | fail) only [Nat.reduceEqDiff, Nat.reduceAdd, Nat.reduceMul, Nat.reduceSub, Nat.reduceLeDiff, Int.reduceAdd, Int.reduceSub, Int.reduceMul, Int.reduceLT, Int.reduceLE, Int.reduceGT, Int.reduceGE, Int.reduceEq, Int.reduceBEq, Int.reduceBNe, Int.reduceNeg, Int.reduceToNat, csAll, ↓reduceIte]))
      · simp (disch := first | omega | rfl | assumption | (simp only [csN, Nat.reduceAdd, Nat.reduceMul, Nat.reduceLeDiff, Nat.reduceEqDiff] <;> omega) | (simp only [csF]; done) | (simp only [csF] <;> assumption) | fail) only [Nat.reduceEqDiff, Nat.reduceAdd, Nat.reduceMul, Nat.reduceSub, Nat.reduceLeDiff, Int.reduceAdd, Int.reduceSub, Int.reduceMul, Int.reduceLT, Int.reduceLE, Int.reduceGT, Int.reduceGE, Int.reduceEq, Int.reduceBEq, Int.reduceBNe, Int.reduceNeg, Int.reduceToNat, csAll, ↓reduceIte, hob]
    have fin : ∀ E2 : Env, True := fun _ => trivial
    cases hk1 : ks.getD (i + 1) false with
    | false =>
      rw [hk1] at hon
      refine stay (by unfold cObj; rw [if_neg (fun h => by rw [hk1] at h; cases h.1)]) ?_
      apply ex_env
      · simp (disch := first | omega | rfl | assumption | (simp only [csN, Nat.reduceAdd, Nat.reduceMul, Nat.reduceLeDiff, Nat.reduceEqDiff] <;> omega) | (simp only [csF]; done) | (simp only [csF] <;> assumption) | fail) only [Nat.reduceEqDiff, Nat.reduceAdd, Nat.reduceMul, Nat.reduceSub, Nat.reduceLeDiff, Int.reduceAdd, Int.reduceSub, Int.reduceMul, Int.reduceLT, Int.reduceLE, Int.reduceGT, Int.reduceGE, Int.reduceEq, Int.reduceBEq, Int.reduceBNe, Int.reduceNeg, Int.reduceToNat, csAll, ↓reduceIte, C29_1, h3, hkv, hov, h19, h20, g1, g2, g3, f50, s1, hob, hon, hw]
        rfl
      · simp [upd_apply]
    | true =>
      rw [hk1] at hon
      by_cases hk0 : soft xx.kd = 0
      · rw [hk0] at s2
        have hz : ((0 : Nat) : Int) = 0 := rfl
        refine stay (by unfold cObj; rw [if_neg (fun h => by rw [hk0] at h; omega)]) ?_
        apply ex_env
        · simp (disch := first | omega | rfl | assumption | (simp only [csN, Nat.reduceAdd, Nat.reduceMul, Nat.reduceLeDiff, Nat.reduceEqDiff] <;> omega) | (simp only [csF]; done) | (simp only [csF] <;> assumption) | fail) only [Nat.reduceEqDiff, Nat.reduceAdd, Nat.reduceMul, Nat.reduceSub, Nat.reduceLeDiff, Int.reduceAdd, Int.reduceSub, Int.reduceMul, Int.reduceLT, Int.reduceLE, Int.reduceGT, Int.reduceGE, Int.reduceEq, Int.reduceBEq, Int.reduceBNe, Int.reduceNeg, Int.reduceToNat, csAll, ↓reduceIte, C29_1, h3, hkv, hov, h19, h20, g1, g2, g3, f50, s1, hob, hon, hw, s2, hz]
          rfl
        · simp [upd_apply]
      · obtain ⟨rb, cap, tl6, p0, p1, p2, p3⟩ := s3 (by omega)
        have hrl := lt_of_get p3
        have hnr := hobj.nr
        have r0 : (Go.Cs.ints xx.refs)[0]? = some (.i (xx.refs.getD 0 0)) := by rw [ints_get, getD_of 0 (by omega)]; rfl
        have i0 := hobj.ids _ (List.mem_of_getElem? (getD_of (l := xx.refs) (i := 0) 0 (by omega)))
        have hon0 := on_get (ks := ks) (v := xx.refs.getD 0 0) (by omega)
        subst p1
        cases hk2 : on ks (xx.refs.getD 0 0) with
        | true =>
          rw [hk2] at hon0
          refine stay (by unfold cObj; rw [if_neg (fun h => by rw [hk2] at h; cases h.2.2.1)]) ?_
          apply ex_env
          · simp (disch := first | omega | rfl | assumption | (simp only [csN, Nat.reduceAdd, Nat.reduceMul, Nat.reduceLeDiff, Nat.reduceEqDiff] <;> omega) | (simp only [csF]; done) | (simp only [csF] <;> assumption) | fail) only [Nat.reduceEqDiff, Nat.reduceAdd, Nat.reduceMul, Nat.reduceSub, Nat.reduceLeDiff, Int.reduceAdd, Int.reduceSub, Int.reduceMul, Int.reduceLT, Int.reduceLE, Int.reduceGT, Int.reduceGE, Int.reduceEq, Int.reduceBEq, Int.reduceBNe, Int.reduceNeg, Int.reduceToNat, csAll, ↓reduceIte, C29_1, h3, hkv, hov, h19, h20, g1, g2, g3, f50, s1, hob, hon, hw, p3, r0, hon0]
            rfl
          · simp [upd_apply]
        | false =>
          rw [hk2] at hon0
          have c51 := f51 (H := H ++ [⟨[.i xx.nr, .i xx.nd, .i xx.kd, hh.1, hh.2], .rw, 0⟩] ++ [⟨[.i xx.nr, .i xx.nd, .i xx.kd], .rw, 0⟩]) (full := xx.refs) (rb := rb) (k := soft xx.kd) (cap := cap) (tl := tl6) hsoft (by omega) (by simp (disch := first | omega | rfl | assumption | (simp only [csN, Nat.reduceAdd, Nat.reduceMul, Nat.reduceLeDiff, Nat.reduceEqDiff] <;> omega) | (simp only [csF]; done) | (simp only [csF] <;> assumption) | fail) only [Nat.reduceEqDiff, Nat.reduceAdd, Nat.reduceMul, Nat.reduceSub, Nat.reduceLeDiff, Int.reduceAdd, Int.reduceSub, Int.reduceMul, Int.reduceLT, Int.reduceLE, Int.reduceGT, Int.reduceGE, Int.reduceEq, Int.reduceBEq, Int.reduceBNe, Int.reduceNeg, Int.reduceToNat, csAll, ↓reduceIte, p3])
          cases hk3 : (xx.refs.take (soft xx.kd)).any (· != 0) with
          | false =>
            rw [hk3] at c51
            refine stay (by unfold cObj; rw [if_neg (fun h => by rw [hk3] at h; cases h.2.2.2)]) ?_
            apply ex_env
            · simp (disch := first | omega | rfl | assumption | (simp only [csN, Nat.reduceAdd, Nat.reduceMul, Nat.reduceLeDiff, Nat.reduceEqDiff] <;> omega) | (simp only [csF]; done) | (simp only [csF] <;> assumption) | fail) only [Nat.reduceEqDiff, Nat.reduceAdd, Nat.reduceMul, Nat.reduceSub, Nat.reduceLeDiff, Int.reduceAdd, Int.reduceSub, Int.reduceMul, Int.reduceLT, Int.reduceLE, Int.reduceGT, Int.reduceGE, Int.reduceEq, Int.reduceBEq, Int.reduceBNe, Int.reduceNeg, Int.reduceToNat, csAll, ↓reduceIte, C29_1, h3, hkv, hov, h19, h20, g1, g2, g3, f50, s1, hob, hon, hw, p3, r0, hon0, c51]
              rfl
            · simp [upd_apply]
          | true =>
            rw [hk3] at c51
            have hc : cObj ks i xx = some { xx with refs := List.replicate (soft xx.kd) 0 ++ xx.refs.drop (soft xx.kd) } := by unfold cObj; rw [if_pos ⟨hk1, by omega, hk2, hk3⟩]
            have hcc : M.coll ks (i + 1) = ((M.coll ks i).1.setObj (i + 1 : Nat) { xx with refs := List.replicate (soft xx.kd) 0 ++ xx.refs.drop (soft xx.kd) }, cn + 1) := by rw [hcoll, hc]
            have hlr : (List.replicate (soft xx.kd) (0 : Int) ++ xx.refs.drop (soft xx.kd)).length = xx.refs.length := by simp; omega
            have hw2 : IntKind.i64.wrap (cn + 1) = cn + 1 := wrap_id (by omega)
            have hsp := splice_clear (l := xx.refs) (k := soft xx.kd) hsoft
            have hln : (List.replicate (soft xx.kd) [CV.int .i64 0]).flatten.length = soft xx.kd := by simp
            have hlf : (List.replicate (soft xx.kd) [CV.int .i64 0]).flatten.all leaf = true := by
              simp only [List.all_eq_true, List.mem_flatten, List.mem_replicate]
              rintro v ⟨l, ⟨_, rfl⟩, hv⟩
              simp only [List.mem_singleton] at hv
              subst hv; rfl
            have hil : (Go.Cs.ints xx.refs).length = xx.refs.length := ints_len _
            obtain ⟨m3, fr3⟩ := m.objOf (Hf := H.set rb ⟨Go.Cs.ints (List.replicate (soft xx.kd) 0 ++ xx.refs.drop (soft xx.kd)), .rw, 1⟩ ++ [⟨[.i xx.nr, .i xx.nd, .i xx.kd, hh.1, hh.2], .rw, 0⟩] ++ [⟨[.i xx.nr, .i xx.nd, .i xx.kd], .rw, 0⟩]) hhas g0' (x' := { xx with refs := List.replicate (soft xx.kd) 0 ++ xx.refs.drop (soft xx.kd) })
              (by rw [hx]; exact ⟨rfl, rfl, rfl, hlr, rfl⟩) (c0 := rb) (.inl rfl) (by rw [hio]; exact p2) (by simp) (fun d hd hd' => by simp (disch := first | omega | rfl | assumption | (simp only [csN, Nat.reduceAdd, Nat.reduceMul, Nat.reduceLeDiff, Nat.reduceEqDiff] <;> omega) | (simp only [csF]; done) | (simp only [csF] <;> assumption) | fail) only [Nat.reduceEqDiff, Nat.reduceAdd, Nat.reduceMul, Nat.reduceSub, Nat.reduceLeDiff, Int.reduceAdd, Int.reduceSub, Int.reduceMul, Int.reduceLT, Int.reduceLE, Int.reduceGT, Int.reduceGE, Int.reduceEq, Int.reduceBEq, Int.reduceBNe, Int.reduceNeg, Int.reduceToNat, csAll, ↓reduceIte])
              ⟨by rw [hx, hio]; exact .inr ⟨rb, tl6, p0, p2, by simp (disch := first | omega | rfl | assumption | (simp only [csN, Nat.reduceAdd, Nat.reduceMul, Nat.reduceLeDiff, Nat.reduceEqDiff] <;> omega) | (simp only [csF]; done) | (simp only [csF] <;> assumption) | fail) only [Nat.reduceEqDiff, Nat.reduceAdd, Nat.reduceMul, Nat.reduceSub, Nat.reduceLeDiff, Int.reduceAdd, Int.reduceSub, Int.reduceMul, Int.reduceLT, Int.reduceLE, Int.reduceGT, Int.reduceGE, Int.reduceEq, Int.reduceBEq, Int.reduceBNe, Int.reduceNeg, Int.reduceToNat, csAll, ↓reduceIte], by rw [ints_len, hlr, Nat.mul_one]⟩, by
                rw [hx, hio]
                exact g6.grow (fun c hc ht => by
                  have : c ≠ rb := by rintro rfl; rw [p2] at ht; simp at ht
                  simp (disch := first | omega | rfl | assumption | (simp only [csN, Nat.reduceAdd, Nat.reduceMul, Nat.reduceLeDiff, Nat.reduceEqDiff] <;> omega) | (simp only [csF]; done) | (simp only [csF] <;> assumption) | fail) only [Nat.reduceEqDiff, Nat.reduceAdd, Nat.reduceMul, Nat.reduceSub, Nat.reduceLeDiff, Int.reduceAdd, Int.reduceSub, Int.reduceMul, Int.reduceLT, Int.reduceLE, Int.reduceGT, Int.reduceGE, Int.reduceEq, Int.reduceBEq, Int.reduceBNe, Int.reduceNeg, Int.reduceToNat, csAll, ↓reduceIte])⟩
            have hor : ob ≠ rb := by rintro rfl; rw [fo] at p2; cases p2
            apply step_go (k' := M.objs.length - (i + 1))
            · simp (disch := first | omega | rfl | assumption | (simp only [csN, Nat.reduceAdd, Nat.reduceMul, Nat.reduceLeDiff, Nat.reduceEqDiff] <;> omega) | (simp only [csF]; done) | (simp only [csF] <;> assumption) | fail) only [Nat.reduceEqDiff, Nat.reduceAdd, Nat.reduceMul, Nat.reduceSub, Nat.reduceLeDiff, Int.reduceAdd, Int.reduceSub, Int.reduceMul, Int.reduceLT, Int.reduceLE, Int.reduceGT, Int.reduceGE, Int.reduceEq, Int.reduceBEq, Int.reduceBNe, Int.reduceNeg, Int.reduceToNat, csAll, ↓reduceIte, C29_1, h3, hkv, hov, h19, h20, g1, g2, g3, f50, s1, hob, hon, hw, p3, r0, hon0, c51, h4, hw2, hsp, hln, hil]
              rfl
            · omega
            · refine ⟨by simp [upd_apply, h3], by simp [upd_apply, h18], by simp [upd_apply, h19], i + 1, by simp [upd_apply], by omega, rfl, ?_, ?_, ?_, ?_, ?_, ?_⟩
              · rw [hcc]; simp [upd_apply]
              · rw [hcc]; show 0 ≤ cn + 1; omega
              · rw [hcc]; show cn + 1 ≤ ((i + 1 : Nat) : Int); omega
              · rw [hcc]; exact m3
              · exact fr.trans fr3
              · simp (disch := first | omega | rfl | assumption | (simp only [csN, Nat.reduceAdd, Nat.reduceMul, Nat.reduceLeDiff, Nat.reduceEqDiff] <;> omega) | (simp only [csF]; done) | (simp only [csF] <;> assumption) | fail) only [Nat.reduceEqDiff, Nat.reduceAdd, Nat.reduceMul, Nat.reduceSub, Nat.reduceLeDiff, Int.reduceAdd, Int.reduceSub, Int.reduceMul, Int.reduceLT, Int.reduceLE, Int.reduceGT, Int.reduceGE, Int.reduceEq, Int.reduceBEq, Int.reduceBNe, Int.reduceNeg, Int.reduceToNat, csAll, ↓reduceIte, hob]
  · apply step_out (x := .exit 0)
    · simp (disch := first | omega | rfl | assumption | (simp only [csN, Nat.reduceAdd, Nat.reduceMul, Nat.reduceLeDiff, Nat.reduceEqDiff] <;> omega) | (simp only [csF]; done) | (simp only [csF] <;> assumption) | fail) only [Nat.reduceEqDiff, Nat.reduceAdd, Nat.reduceMul, Nat.reduceSub, Nat.reduceLeDiff, Int.reduceAdd, Int.reduceSub, Int.reduceMul, Int.reduceLT, Int.reduceLE, Int.reduceGT, Int.reduceGE, Int.reduceEq, Int.reduceBEq, Int.reduceBNe, Int.reduceNeg, Int.reduceToNat, csAll, ↓reduceIte, C29_1, h19, h20]
      rfl
    · simp
    · have : i = M.objs.length := by omega
      subst this
      exact ⟨rfl, by simp [upd_apply, h4], m, fr⟩
end
end Go.Cs.Try

/- Collect; do; made. -/
namespace Go.Cs
open Go
noncomputable def Mdl.collect (M : Mdl) : Mdl × Int := M.coll M.keptL M.objs.length

structure Stp where
  k : Int
  mu : Int
  act : Act
  a : Int
  b : Int
  c : Int
def stpCells (x : Stp) : List CV := [.i x.k, .i x.mu, .i x.act.k, .i x.act.a, .i x.act.b, .i x.act.i, .i x.act.n, .i x.act.nr, .i x.act.nd, .i x.act.sk, .i x.a, .i x.b, .i x.c]

/-- What a call does, and its error. -/
noncomputable def Mdl.step (M : Mdl) (x : Stp) : Mdl × Int :=
  if x.k = 0 then ((M.doAct x.mu x.act).1, (M.doAct x.mu x.act).2.2)
  else if x.k = 1 then (M.collect.1, 0)
  else if x.k = 2 then M.push x.a
  else if x.k = 3 then (M.pop.1, M.pop.2.2)
  else if x.k = 4 then M.setRef x.a x.b x.c
  else (M, 0)
end Go.Cs
namespace Go.Cs.Try
open Go Go.Cs
set_option maxRecDepth 100000
section
variable {o : Tags} {g : Nat} {b : Nat} {M : Mdl} {L : Lay} {H : CHeap}

theorem keptL_0 (w : M.Ok) : M.keptL.set 0 false = M.keptL := by
  apply List.ext_getElem?
  intro i
  cases i with
  | zero =>
    have h : M.keptL[0]? = some false := by
      unfold Mdl.keptL
      rw [List.getElem?_map, List.getElem?_range (by omega), Option.map_some]
      congr 1
      exact decide_eq_false (fun h => by have := Kp.has w h; unfold Mdl.has at this; omega)
    rw [h, List.getElem?_set_self (by rw [keptL_len]; omega)]
  | succ i => rw [List.getElem?_set_ne (by omega)]

/-- Collect. -/
theorem f29 (m : MRep o g H b M L) (w : M.Ok) : Does o g H b M.collect.1 (.i M.collect.2) (run P 29 [.ptr b 0] H) := by
  obtain ⟨kv, H1, e1, e2, e3, e4⟩ := f42 m w
  have h41 := f41 m w
  obtain ⟨tl, d1, d2, d3, d4⟩ := e4.pos (by omega)
  have hfew := w.few
  have hkl := keptL_len M
  have fr1 : Frm g o H o H1 := .grow m.dom e2 e3
  have m1 : MRep o g H1 b M L := m.frame (fun c t h => Nat.lt_of_lt_of_le (m.dom c t h) e2) (fun _ _ h => h) (fun c k h => e3 c (m.dom c _ h))
  have hc := m1.cells
  have hol := m1.objs.len
  have hob := (Loc_some.1 d2).1
  have fo : o (blkOf kv) = none := by
    cases h : o (blkOf kv) with
    | none => rfl
    | some t => have := m.dom _ t h; omega
  have hobl := lt_of_get d3
  have hk0 : (bools M.keptL).set 0 (.bool false) = bools M.keptL := by rw [← bools_set, keptL_0 w]
  have hset : H1.set (blkOf kv) ⟨bools M.keptL, .rw, 1⟩ = H1 := by
    apply List.ext_getElem?
    intro i
    by_cases h : i = blkOf kv
    · subst h; rw [List.getElem?_set_self hobl, d3]
    · rw [List.getElem?_set_ne (Ne.symm h)]
  have hbl := bools_len M.keptL
  have key : ∃ v H', run P 29 [.ptr b 0] H = some (v, H') ∧ v = .i M.collect.2 ∧ MRep o g H' b M.collect.1 L ∧ Frm g o H1 o H' := by
    rw [run_lv c29]
    rw [d1] at e1
    simp (disch := first | omega | rfl | assumption | (simp only [csN, Nat.reduceAdd, Nat.reduceMul, Nat.reduceLeDiff, Nat.reduceEqDiff] <;> omega) | (simp only [csF]; done) | (simp only [csF] <;> assumption) | fail) only [Nat.reduceEqDiff, Nat.reduceAdd, Nat.reduceMul, Nat.reduceSub, Nat.reduceLeDiff, Int.reduceAdd, Int.reduceSub, Int.reduceMul, Int.reduceLT, Int.reduceLE, Int.reduceGT, Int.reduceGE, Int.reduceEq, Int.reduceBEq, Int.reduceBNe, Int.reduceNeg, Int.reduceToNat, csAll, ↓reduceIte, C29, entry_1, h41, e1, d3, hbl, hkl, hk0, hset, hc, hol]
    generalize hr : den P (.loop C29_1) _ _ = r
    obtain ⟨x, E2, H2, rfl, -, rfl, q4, m2, fr2⟩ := (l29_1 (o := o) (g := g) (b := b) (L := L) (H0 := H1) w hkl (kv := kv) (ob := blkOf kv) (tlk := tl) d1 fo m1.dom).at hr _
      ⟨by simp only [upd_apply, Nat.reduceEqDiff, ↓reduceIte]; exact d1.symm, by simp only [upd_apply, Nat.reduceEqDiff, ↓reduceIte], by simp only [upd_apply, Nat.reduceEqDiff, ↓reduceIte], 0, by simp only [upd_apply, Nat.reduceEqDiff, ↓reduceIte]; rfl, by omega, rfl, by simp only [upd_apply, Nat.reduceEqDiff, ↓reduceIte]; rfl, Int.le_refl _, Int.le_refl _, m1, .refl m1.dom, d3⟩
    refine ⟨_, H2, ?_, rfl, m2, fr2⟩
    simp (disch := first | omega | rfl | assumption | (simp only [csN, Nat.reduceAdd, Nat.reduceMul, Nat.reduceLeDiff, Nat.reduceEqDiff] <;> omega) | (simp only [csF]; done) | (simp only [csF] <;> assumption) | fail) only [Nat.reduceEqDiff, Nat.reduceAdd, Nat.reduceMul, Nat.reduceSub, Nat.reduceLeDiff, Int.reduceAdd, Int.reduceSub, Int.reduceMul, Int.reduceLT, Int.reduceLE, Int.reduceGT, Int.reduceGE, Int.reduceEq, Int.reduceBEq, Int.reduceBNe, Int.reduceNeg, Int.reduceToNat, csAll, ↓reduceIte, q4]
    rfl
  obtain ⟨v, H', k1, rfl, k2, k3⟩ := key
  exact ⟨H', o, L, k1, k2, fr1.trans k3⟩

end
end Go.Cs.Try

/- Calls keep a model in order. -/
namespace Go.Cs
open Go

theorem getD_mem {l : List Int} {i : Nat} {P : Int → Prop} (h : ∀ v ∈ l, P v) (h0 : P 0) : P (l.getD i 0) := by
  by_cases hi : i < l.length
  · exact h _ (List.mem_of_getElem? (getD_of 0 hi))
  · rw [List.getD_eq_getElem?_getD, List.getElem?_eq_none (by omega)]; exact h0

theorem Mdl.Ok.slotIds {M : Mdl} (w : M.Ok) {mu : Nat} {s : List Int} (hs : M.slots[mu]? = some s) (i : Nat) : 0 ≤ s.getD i 0 ∧ s.getD i 0 ≤ (M.objs.length : Int) :=
  getD_mem (P := fun v => 0 ≤ v ∧ v ≤ (M.objs.length : Int)) (w.s16 s (List.mem_of_getElem? hs)).2 ⟨by omega, by omega⟩

theorem Mdl.Ok.setSlot {M : Mdl} (w : M.Ok) {mu : Nat} {s : List Int} (hs : M.slots[mu]? = some s) {a z : Int} (hz : 0 ≤ z ∧ z ≤ (M.objs.length : Int)) : (M.setSlot mu s a z).Ok where
  ns := by simpa [Mdl.setSlot] using w.ns
  s16 := fun t ht => by
    rcases List.mem_or_eq_of_mem_set ht with ht | rfl
    · exact w.s16 t ht
    · have := w.s16 s (List.mem_of_getElem? hs)
      refine ⟨by simpa using this.1, fun v hv => ?_⟩
      rcases List.mem_or_eq_of_mem_set hv with hv | rfl
      · exact this.2 v hv
      · exact hz
  g16 := w.g16
  q64 := w.q64
  objs := w.objs
  few := w.few

theorem Mdl.Ok.born {M : Mdl} (w : M.Ok) {x : Act} (hv : validS x.nr x.nd x.sk) (hf : M.objs.length < 100000) : ({ M with objs := M.objs ++ [bornObj x] } : Mdl).Ok where
  ns := w.ns
  s16 := fun s hs => by
    have := w.s16 s hs
    refine ⟨this.1, fun v hv => ?_⟩
    have := this.2 v hv
    simp only [List.length_append, List.length_singleton]; omega
  g16 := by
    refine ⟨w.g16.1, fun v hv => ?_⟩
    have := w.g16.2 v hv
    simp only [List.length_append, List.length_singleton]; omega
  q64 := by
    refine ⟨w.q64.1, fun v hv => ?_⟩
    have := w.q64.2 v hv
    simp only [List.length_append, List.length_singleton]; omega
  objs := fun y hy => by
    simp only [List.mem_append, List.mem_singleton] at hy
    rcases hy with hy | rfl
    · exact (w.objs y hy).more (by simp)
    · unfold validS at hv
      refine ⟨⟨hv.1, hv.2.1, by simp [bornObj]⟩, ⟨hv.2.2.1, hv.2.2.2.1, by simp [bornObj]⟩, ⟨hv.2.2.2.2.1, hv.2.2.2.2.2.1, fun h => ?_, fun h => ?_⟩, fun v hv' => ?_⟩
      · exact (hv.2.2.2.2.2.2.1).resolve_left (fun h' => h' h)
      · exact (hv.2.2.2.2.2.2.2).resolve_left (fun h' => h' h)
      · simp only [bornObj, List.mem_replicate] at hv'
        rw [hv'.2]; omega
  few := by simp only [List.length_append, List.length_singleton]; omega

theorem Mdl.Ok.eff {M : Mdl} (w : M.Ok) {mu : Nat} {s : List Int} (hs : M.slots[mu]? = some s) {x : Act} (hk : 0 ≤ x.k ∧ x.k < 12) (ha : 0 ≤ x.a ∧ x.a < 16) (hb : wB x.k = true → 0 ≤ x.b ∧ x.b < 16) (hv : x.k = 0 → validS x.nr x.nd x.sk)
    (hz : 0 ≤ wNeed x → s.getD (wNeed x).toNat 0 ≠ 0) (hi : 0 ≤ M.bound s x → 0 ≤ x.i ∧ x.i < M.bound s x) (hf : M.objs.length < 100000) : (M.eff mu s x).1.Ok ∧ M.objs.length ≤ (M.eff mu s x).1.objs.length ∧ (M.eff mu s x).1.objs.length ≤ M.objs.length + 1 := by
  have h16 := (w.s16 s (List.mem_of_getElem? hs)).1
  unfold Mdl.eff
  dsimp only
  by_cases h0 : x.k = 0
  · rw [if_pos h0]
    refine ⟨(w.born (hv h0) hf).setSlot hs (by simp only [List.length_append, List.length_singleton]; omega), by simp [Mdl.setSlot], by simp [Mdl.setSlot]⟩
  rw [if_neg h0]
  by_cases h1 : x.k = 1
  · rw [if_pos h1]
    have e3 : wNeed x = x.b := by unfold wNeed; rw [if_pos h1]
    have hb' := hb (by rw [h1]; rfl)
    rw [e3] at hz
    have ho := w.obj (slotHas w hs hb' (hz hb'.1))
    refine ⟨w.setSlot hs (getD_mem (P := fun v => 0 ≤ v ∧ v ≤ (M.objs.length : Int)) ho.ids ⟨by omega, by omega⟩), by simp [Mdl.setSlot], by simp [Mdl.setSlot]⟩
  rw [if_neg h1]
  by_cases h2 : x.k = 2
  · rw [if_pos h2]
    have e3 : wNeed x = x.a := by unfold wNeed; rw [if_neg (by omega), if_pos (by omega)]
    rw [e3] at hz
    have ho := w.obj (slotHas w hs ha (hz ha.1))
    refine ⟨w.setObj ⟨by simpa using ho.nr, ho.nd, ho.kd, fun v hv => ?_⟩, by simp [Mdl.setObj], by simp [Mdl.setObj]⟩
    rcases List.mem_or_eq_of_mem_set hv with hv | rfl
    · exact ho.ids v hv
    · exact w.slotIds hs _
  rw [if_neg h2]
  by_cases h3 : x.k = 3
  · rw [if_pos h3]
    have e3 : wNeed x = x.a := by unfold wNeed; rw [if_neg (by omega), if_pos (by omega)]
    rw [e3] at hz
    have ho := w.obj (slotHas w hs ha (hz ha.1))
    exact ⟨w.setObj ⟨ho.nr, by simpa using ho.nd, ho.kd, ho.ids⟩, by simp [Mdl.setObj], by simp [Mdl.setObj]⟩
  rw [if_neg h3]
  by_cases h4 : x.k = 4
  · rw [if_pos h4]
    exact ⟨w, Nat.le_refl _, Nat.le_succ _⟩
  rw [if_neg h4]
  by_cases h5 : x.k = 5
  · rw [if_pos h5]
    exact ⟨w.setSlot hs (w.slotIds hs _), by simp [Mdl.setSlot], by simp [Mdl.setSlot]⟩
  rw [if_neg h5]
  by_cases h6 : x.k = 6
  · rw [if_pos h6]
    exact ⟨w.setSlot hs ⟨by omega, by omega⟩, by simp [Mdl.setSlot], by simp [Mdl.setSlot]⟩
  rw [if_neg h6]
  by_cases h7 : x.k = 7
  · rw [if_pos h7]
    exact ⟨w, Nat.le_refl _, Nat.le_succ _⟩
  rw [if_neg h7]
  by_cases h8 : x.k = 8
  · rw [if_pos h8]
    exact ⟨w, Nat.le_refl _, Nat.le_succ _⟩
  rw [if_neg h8]
  by_cases h9 : x.k = 9
  · rw [if_pos h9]
    refine ⟨⟨w.ns, w.s16, ⟨by simpa using w.g16.1, fun v hv => ?_⟩, w.q64, w.objs, w.few⟩, Nat.le_refl _, Nat.le_succ _⟩
    rcases List.mem_or_eq_of_mem_set hv with hv | rfl
    · exact w.g16.2 v hv
    · exact w.slotIds hs _
  rw [if_neg h9]
  by_cases h10 : x.k = 10
  · rw [if_pos h10]
    exact ⟨w.setSlot hs (getD_mem (P := fun v => 0 ≤ v ∧ v ≤ (M.objs.length : Int)) w.g16.2 ⟨by omega, by omega⟩), by simp [Mdl.setSlot], by simp [Mdl.setSlot]⟩
  rw [if_neg h10]
  exact ⟨w, Nat.le_refl _, Nat.le_succ _⟩

/-- When an act has no error. -/
theorem Mdl.errOf_0 {M : Mdl} {mu : Int} {x : Act} (h : M.errOf mu x = 0) : (0 ≤ mu ∧ mu < (M.slots.length : Int) ∧ 0 ≤ x.k ∧ x.k < 12) ∧ ((0 ≤ x.a ∧ x.a < 16) ∧ (wB x.k = true → 0 ≤ x.b ∧ x.b < 16)) ∧ (x.k = 0 → validS x.nr x.nd x.sk) ∧
    (0 ≤ wNeed x → (M.slots.getD mu.toNat []).getD (wNeed x).toNat 0 ≠ 0) ∧ (0 ≤ M.bound (M.slots.getD mu.toNat []) x → 0 ≤ x.i ∧ x.i < M.bound (M.slots.getD mu.toNat []) x) := by
  unfold Mdl.errOf at h
  split at h
  · omega
  rename_i h1
  split at h
  · omega
  rename_i h2
  split at h
  · omega
  rename_i h3
  split at h
  · omega
  rename_i h4
  split at h
  · omega
  rename_i h5
  refine ⟨Decidable.not_not.1 h1, Decidable.not_not.1 h2, fun hk => ?_, fun hn hz => h4 ⟨hn, hz⟩, fun hb => ?_⟩
  · by_cases hv : validS x.nr x.nd x.sk
    · exact hv
    · exact absurd ⟨hk, hv⟩ h3
  · by_cases hi : 0 ≤ x.i ∧ x.i < M.bound (M.slots.getD mu.toNat []) x
    · exact hi
    · exact absurd ⟨hb, hi⟩ h5

theorem Mdl.Ok.doAct {M : Mdl} (w : M.Ok) {mu : Int} {x : Act} (hf : M.objs.length < 100000) : (M.doAct mu x).1.Ok ∧ M.objs.length ≤ (M.doAct mu x).1.objs.length ∧ (M.doAct mu x).1.objs.length ≤ M.objs.length + 1 := by
  unfold Mdl.doAct
  split
  · rename_i h
    obtain ⟨h1, h2, h3, h4, h5⟩ := Mdl.errOf_0 h
    exact w.eff (getD_of [] (by omega)) ⟨h1.2.2.1, h1.2.2.2⟩ h2.1 h2.2 h3 h4 h5 hf
  · exact ⟨w, Nat.le_refl _, Nat.le_succ _⟩

theorem Mdl.Ok.step {M : Mdl} (w : M.Ok) {x : Stp} (hf : M.objs.length < 100000) : (M.step x).1.Ok ∧ M.objs.length ≤ (M.step x).1.objs.length ∧ (M.step x).1.objs.length ≤ M.objs.length + 1 := by
  unfold Mdl.step
  split
  · exact w.doAct hf
  split
  · have := Mdl.coll_ok w (ks := M.keptL) (Nat.le_refl _)
    exact ⟨this.1, by show _ ≤ (Mdl.coll _ _ _).1.objs.length; rw [this.2]; exact Nat.le_refl _, by show (Mdl.coll _ _ _).1.objs.length ≤ _; rw [this.2]; exact Nat.le_succ _⟩
  split
  · refine ⟨w.push _, ?_, ?_⟩ <;> (unfold Mdl.push; split <;> (try split) <;> simp)
  split
  · refine ⟨w.pop, ?_, ?_⟩ <;> (unfold Mdl.pop; split <;> simp)
  split
  · refine ⟨w.setRef _ _ _, ?_, ?_⟩ <;> (unfold Mdl.setRef; split <;> (try split) <;> simp [Mdl.setObj])
  · exact ⟨w, Nat.le_refl _, Nat.le_succ _⟩

end Go.Cs

/- made: the model behind calls. -/
namespace Go.Cs
open Go
/-- Calls that lie in memory that is only read. -/
structure Steps (o : Tags) (H : CHeap) (v : CV) (l : List Stp) : Prop where
  len : ∀ H', vLen v H' = some (.i l.length, H')
  get : l ≠ [] → ∃ sb cap t cs, v = .slice sb 0 l.length cap 13 t ∧ H[sb]? = some ⟨cs, .ro, 13⟩ ∧ o sb = none ∧ ∀ (i : Nat) (x : Stp), l[i]? = some x → i * 13 + 13 ≤ cs.length ∧ (cs.drop (i * 13)).take 13 = stpCells x

theorem Steps.frm {o o' : Tags} {g : Nat} {H H' : CHeap} {v : CV} {l : List Stp} (h : Steps o H v l) (f : Frm g o H o' H') : Steps o' H' v l := by
  refine ⟨h.len, fun hne => ?_⟩
  obtain ⟨sb, cap, t, cs, e, h1, h2, h3⟩ := h.get hne
  have hl := lt_of_get h1
  exact ⟨sb, cap, t, cs, e, by rw [f.keep sb hl (fun k hk => by rw [h2] at hk; cases hk), h1], by rw [f.tag sb hl, h2], h3⟩
end Go.Cs
namespace Go.Cs.Try
open Go Go.Cs
set_option maxRecDepth 100000
section
variable {o : Tags} {g : Nat} {b : Nat} {H : CHeap}

theorem f30' {v : CV} {n : Nat} (h : ∀ H', vLen v H' = some (.i n, H')) : run P 30 [v] H = some (.bool (decide (120 < (n : Int))), H) := by
  rw [run_lv c30]
  simp (disch := first | omega | rfl | assumption | (simp only [csN, Nat.reduceAdd, Nat.reduceMul, Nat.reduceLeDiff, Nat.reduceEqDiff] <;> omega) | (simp only [csF]; done) | (simp only [csF] <;> assumption) | fail) only [Nat.reduceEqDiff, Nat.reduceAdd, Nat.reduceMul, Nat.reduceSub, Nat.reduceLeDiff, Int.reduceAdd, Int.reduceSub, Int.reduceMul, Int.reduceLT, Int.reduceLE, Int.reduceGT, Int.reduceGE, Int.reduceEq, Int.reduceBEq, Int.reduceBNe, Int.reduceNeg, Int.reduceToNat, csAll, ↓reduceIte, C30, entry_1, h]

end
end Go.Cs.Try

/- The law's kept: which identities are in a list. -/
namespace Go.Cs
open Go
def marks (n : Nat) (l : List Int) : List Bool := l.foldl (fun ks v => ks.set v.toNat true) (List.replicate (n + 1) false)
theorem marks_len {n : Nat} : ∀ {l : List Int}, (marks n l).length = n + 1 := by
  intro l
  unfold marks
  have : ∀ (l : List Int) (ks : List Bool), (l.foldl (fun ks v => ks.set v.toNat true) ks).length = ks.length := by
    intro l
    induction l with
    | nil => intro ks; rfl
    | cons a r ih => intro ks; rw [List.foldl_cons, ih]; simp
  rw [this]; simp
theorem marks_snoc {n : Nat} {l : List Int} {v : Int} : marks n (l ++ [v]) = (marks n l).set v.toNat true := by unfold marks; rw [List.foldl_append]; rfl

/-- What is marked. -/
theorem marks_on {n : Nat} {l : List Int} (hl : ∀ v ∈ l, 0 ≤ v ∧ v ≤ (n : Int)) {u : Int} (hu : 0 ≤ u) : on (marks n l) u = true ↔ u ∈ l := by
  have h : ∀ k, k ≤ l.length → (on (marks n (l.take k)) u = true ↔ u ∈ l.take k) := by
    intro k
    induction k with
    | zero =>
      intro _
      simp only [List.take_zero, List.not_mem_nil, iff_false]
      unfold marks on
      simp only [List.foldl_nil]
      rw [List.getD_eq_getElem?_getD, List.getElem?_replicate]
      split <;> simp
    | succ k ih =>
      intro hk
      rw [List.take_succ_eq_append_getElem (by omega), marks_snoc]
      have hv := hl l[k] (List.getElem_mem _)
      rw [on_set ⟨hv.1, by rw [marks_len]; omega⟩ hu]
      simp only [Bool.or_eq_true, decide_eq_true_eq, List.mem_append, List.mem_singleton]
      rw [ih (by omega)]
      exact Or.comm
  have := h l.length (Nat.le_refl _)
  rwa [List.take_length] at this
end Go.Cs
namespace Go.Cs.Try
open Go Go.Cs
set_option maxRecDepth 100000
section
variable {o : Tags} {g : Nat} {b : Nat} {M : Mdl} {L : Lay} {H : CHeap}

end
end Go.Cs.Try

/- The examples of the chapter, plainly. -/
namespace Go.Cs
open Go
def actK (k a b nr nd sk : Int) : Act := ⟨k, a, b, 0, 0, nr, nd, sk⟩
def ex0 : Mdl := Mdl.new 1
def ex1 : Mdl := (ex0.doAct 0 (actK 0 0 0 1 1 0)).1
def ex2 : Mdl := (ex1.doAct 0 (actK 0 1 0 0 2 0)).1
def ex3 : Mdl := (ex2.doAct 0 (actK 2 0 1 0 0 0)).1
def ex4 : Mdl := (ex3.doAct 0 (actK 6 1 0 0 0 0)).1
def ex5 : Mdl := (ex4.doAct 0 (actK 6 0 0 0 0 0)).1
def ex6 : Mdl := (ex5.doAct 0 (actK 0 0 0 1 0 1)).1
def ex7 : Mdl := (ex6.doAct 0 (actK 0 1 0 0 0 0)).1
def ex8 : Mdl := (ex7.doAct 0 (actK 2 0 1 0 0 0)).1
def ex9 : Mdl := (ex8.doAct 0 (actK 6 1 0 0 0 0)).1
theorem ex_ok : ex9.Ok ∧ ex9.objs.length ≤ 9 ∧ ex4.Ok ∧ ex5.Ok := by
  have h0 : ex0.Ok ∧ ex0.objs.length ≤ 0 := ⟨Mdl.new_ok (by omega), by simp [ex0, Mdl.new]⟩
  have st : ∀ {M : Mdl} {k : Nat} {x : Act}, M.Ok ∧ M.objs.length ≤ k → k < 100 → (M.doAct 0 x).1.Ok ∧ (M.doAct 0 x).1.objs.length ≤ k + 1 := by
    intro M k x h hk
    have := h.1.doAct (mu := 0) (x := x) (by omega)
    exact ⟨this.1, by omega⟩
  have h1 : ex1.Ok ∧ ex1.objs.length ≤ 1 := st h0 (by omega)
  have h2 : ex2.Ok ∧ ex2.objs.length ≤ 2 := st h1 (by omega)
  have h3 : ex3.Ok ∧ ex3.objs.length ≤ 3 := st h2 (by omega)
  have h4 : ex4.Ok ∧ ex4.objs.length ≤ 4 := st h3 (by omega)
  have h5 : ex5.Ok ∧ ex5.objs.length ≤ 5 := st h4 (by omega)
  have h6 : ex6.Ok ∧ ex6.objs.length ≤ 6 := st h5 (by omega)
  have h7 : ex7.Ok ∧ ex7.objs.length ≤ 7 := st h6 (by omega)
  have h8 : ex8.Ok ∧ ex8.objs.length ≤ 8 := st h7 (by omega)
  have h9 : ex9.Ok ∧ ex9.objs.length ≤ 9 := st h8 (by omega)
  exact ⟨h9.1, h9.2, h4.1, h5.1⟩
theorem ex4_kept : ex4.keptL = [false, true, true] := by
  have k0 := KInv.start ex_ok.2.2.1
  have e0 : reaches (List.replicate (ex4.objs.length + 1) false, []) ex4.places = ([false, true, false], [] ++ [1]) := by rfl
  rw [e0] at k0
  have k1 := (k0.pop ex_ok.2.2.1).1
  have e1 : reaches ([false, true, false], []) ((ex4.obj 1).refs.drop (soft (ex4.obj 1).kd)) = ([false, true, true], [] ++ [2]) := by rfl
  rw [e1] at k1
  have k2 := (k1.pop ex_ok.2.2.1).1
  have e2 : reaches ([false, true, true], []) ((ex4.obj 2).refs.drop (soft (ex4.obj 2).kd)) = ([false, true, true], []) := by rfl
  rw [e2] at k2
  refine (k2.keptL ex_ok.2.2.1 (fun n h1 h2 => ?_)).symm
  have hl : ex4.objs.length = 2 := by rfl
  rw [hl] at h2
  have : n = 1 ∨ n = 2 := by omega
  rcases this with rfl | rfl <;> (intro _ h; exact absurd h (by decide))
theorem ex5_kept : ex5.keptL = [false, false, false] := by
  have k0 := KInv.start ex_ok.2.2.2
  have e0 : reaches (List.replicate (ex5.objs.length + 1) false, []) ex5.places = ([false, false, false], []) := by rfl
  rw [e0] at k0
  refine (k0.keptL ex_ok.2.2.2 (fun n h1 h2 => ?_)).symm
  have hl : ex5.objs.length = 2 := by rfl
  rw [hl] at h2
  have : n = 1 ∨ n = 2 := by omega
  rcases this with rfl | rfl <;> (intro _ h; exact absurd h (by decide))
theorem ex9_kept : ex9.keptL = [false, false, false, true, false] := by
  have k0 := KInv.start ex_ok.1
  have e0 : reaches (List.replicate (ex9.objs.length + 1) false, []) ex9.places = ([false, false, false, true, false], [] ++ [3]) := by rfl
  rw [e0] at k0
  have k1 := (k0.pop ex_ok.1).1
  have e1 : reaches ([false, false, false, true, false], []) ((ex9.obj 3).refs.drop (soft (ex9.obj 3).kd)) = ([false, false, false, true, false], []) := by rfl
  rw [e1] at k1
  refine (k1.keptL ex_ok.1 (fun n h1 h2 => ?_)).symm
  have hl : ex9.objs.length = 4 := by rfl
  rw [hl] at h2
  have : n = 1 ∨ n = 2 ∨ n = 3 ∨ n = 4 := by omega
  rcases this with rfl | rfl | rfl | rfl <;> (intro _ h; exact absurd h (by decide))
def ex10 : Mdl := (ex9.coll [false, false, false, true, false] 4).1
theorem ex9_collect : ex9.collect = (ex10, 1) := by
  unfold Mdl.collect
  rw [ex9_kept]
  rfl
theorem ex10_ok : ex10.Ok := (Mdl.coll_ok ex_ok.1 (ks := [false, false, false, true, false]) (i := 4) (by decide)).1
theorem ex_keptI : ex4.keptI = [1, 2] ∧ ex5.keptI = [] ∧ ex9.keptI = [3] := by
  unfold Mdl.keptI
  rw [ex4_kept, ex5_kept, ex9_kept]
  exact ⟨rfl, rfl, rfl⟩
end Go.Cs

/- alive: the examples of the chapter hold. -/
namespace Go.Cs
open Go
/-- The tags of what belongs to nobody. -/
def Un (o : Tags) : Tags := fun c => match o c with | none => some (0, 0, 0) | some _ => none
theorem Un_some {o : Tags} {c : Nat} {t : Tag} : Un o c = some t ↔ o c = none ∧ t = z3 := by
  unfold Un
  cases o c with
  | none => simp only [Option.some.injEq, true_and]; exact ⟨fun h => h.symm, fun h => h.symm⟩
  | some t => simp
theorem At.un {o : Tags} {H : CHeap} {k : Nat} {v : CV} {e n : Nat} {cs : List CV} (h : At (Loc k) z3 H v e n cs) (hd : ∀ c t, o c = some t → c < k) : At (Un o) z3 H v e n cs := by
  rcases h with h | ⟨b, tl, rfl, h1, h2, h3⟩
  · exact .inl h
  · have h4 := (Loc_some.1 h1).1
    refine .inr ⟨b, tl, rfl, Un_some.2 ⟨?_, rfl⟩, h2, h3⟩
    cases h5 : o b with
    | none => rfl
    | some t => have := hd b t h5; omega
theorem At.unFrm {o o' : Tags} {g : Nat} {H H' : CHeap} {v : CV} {e n : Nat} {cs : List CV} (h : At (Un o) z3 H v e n cs) (f : Frm g o H o' H') : At (Un o') z3 H' v e n cs := by
  rcases h with h | ⟨b, tl, rfl, h1, h2, h3⟩
  · exact .inl h
  · have h4 := (Un_some.1 h1).1
    have hl := lt_of_get h2
    exact .inr ⟨b, tl, rfl, Un_some.2 ⟨by rw [f.tag b hl, h4], rfl⟩, by rw [f.keep b hl (fun k hk => by rw [h4] at hk; cases hk), h2], h3⟩
theorem Frm.app {g : Nat} {o : Tags} {H : CHeap} (hd : ∀ c t, o c = some t → c < H.length) (J : CHeap) : Frm g o H o (H ++ J) := .grow hd (by simp) (fun c hc => List.getElem?_append_left hc)
/-- A block that belongs to nobody stays as it is. -/
theorem Frm.kept {g : Nat} {o o' : Tags} {H H' : CHeap} (f : Frm g o H o' H') {c : Nat} {k : Blk} (h : H[c]? = some k) (ho : o c = none) : H'[c]? = some k ∧ o' c = none := by
  have hl := lt_of_get h
  exact ⟨by rw [f.keep c hl (fun k hk => by rw [ho] at hk; cases hk), h], by rw [f.tag c hl, ho]⟩
end Go.Cs
namespace Go.Cs.Try
open Go Go.Cs
set_option maxRecDepth 100000
set_option maxHeartbeats 8000000
theorem kept_frm {o : Tags} {g : Nat} {b : Nat} {M : Mdl} {L : Lay} {H : CHeap} (m : MRep o g H b M L) (w : M.Ok) :
    ∃ v H', run P 14 [.ptr b 0] H = some (v, H') ∧ Frm g o H o H' ∧ MRep o g H' b M L ∧ At (Un o) z3 H' v 1 M.keptI.length (Go.Cs.ints M.keptI) := by
  obtain ⟨v, H', e, h1, h2, h3⟩ := f14 m w
  exact ⟨v, H', e, .grow m.dom h1 h2, m.frame (fun c t h => Nat.lt_of_lt_of_le (m.dom c t h) h1) (fun _ _ h => h) (fun c k h => h2 c (m.dom c _ h)), h3.un m.dom⟩

theorem ex_run {r : Option (CV × CHeap)} {v : CV} {H' : CHeap} (h : r = some (v, H')) : ∃ H', r = some (v, H') := ⟨_, h⟩

theorem f13 {H : CHeap} : ∃ H', run P 13 [] H = some (.bool true, H') := by
  obtain ⟨b, H0, o0, L0, c0, m0, -⟩ := f31 (o := fun _ => none) (g := 0) (H := H) (fun _ _ h => by cases h) (fun _ _ h => by cases h) (n := 1) (by omega)
  have w0 : ex0.Ok := Mdl.new_ok (by omega)
  have st : ∀ {M : Mdl} {x : Act}, M.Ok → M.objs.length < 100000 → (M.doAct 0 x).1.Ok := fun h hf => (h.doAct (mu := 0) hf).1
  obtain ⟨H1, o1, L1, t1, c1, m1, fr1, -⟩ := f40 (M := ex0) (mu := 0) (x := actK 0 0 0 1 1 0) m0 w0 (by decide)
  have w1 : ex1.Ok := st w0 (by decide)
  obtain ⟨H2, o2, L2, t2, c2, m2, fr2, -⟩ := f40 (M := ex1) (mu := 0) (x := actK 0 1 0 0 2 0) m1 w1 (by decide)
  have w2 : ex2.Ok := st w1 (by decide)
  obtain ⟨H3, o3, L3, t3, c3, m3, fr3, a3⟩ := f40 (M := ex2) (mu := 0) (x := actK 2 0 1 0 0 0) m2 w2 (by decide)
  have w3 : ex3.Ok := st w2 (by decide)
  have lt3 : leaf t3 = true := a3.leaf
  have m3' := m3.app [⟨[t3, .i 1, .i 0, .i 0, .i 2, .i 0, .i 0], .rw, 0⟩]
  obtain ⟨H4, o4, L4, t4, c4, m4, fr4, -⟩ := f40 (M := ex3) (mu := 0) (x := actK 6 1 0 0 0 0) m3' w3 (by decide)
  have w4 : ex4.Ok := st w3 (by decide)
  obtain ⟨v4, K4, d4, gr4, n4, q4⟩ := kept_frm (M := ex4) m4 w4
  obtain ⟨H5, o5, L5, t5, c5, m5, fr5, -⟩ := f40 (M := ex4) (mu := 0) (x := actK 6 0 0 0 0 0) n4 w4 (by decide)
  have w5 : ex5.Ok := st w4 (by decide)
  obtain ⟨v5, K5, d5, gr5, n5, q5⟩ := kept_frm (M := ex5) m5 w5
  obtain ⟨H6, o6, L6, t6, c6, m6, fr6, -⟩ := f40 (M := ex5) (mu := 0) (x := actK 0 0 0 1 0 1) n5 w5 (by decide)
  have w6 : ex6.Ok := st w5 (by decide)
  obtain ⟨H7, o7, L7, t7, c7, m7, fr7, -⟩ := f40 (M := ex6) (mu := 0) (x := actK 0 1 0 0 0 0) m6 w6 (by decide)
  have w7 : ex7.Ok := st w6 (by decide)
  obtain ⟨H8, o8, L8, t8, c8, m8, fr8, -⟩ := f40 (M := ex7) (mu := 0) (x := actK 2 0 1 0 0 0) m7 w7 (by decide)
  have w8 : ex8.Ok := st w7 (by decide)
  obtain ⟨H9, o9, L9, t9, c9, m9, fr9, -⟩ := f40 (M := ex8) (mu := 0) (x := actK 6 1 0 0 0 0) m8 w8 (by decide)
  have w9 : ex9.Ok := st w8 (by decide)
  obtain ⟨v9, K9, d9, gr9, n9, q9⟩ := kept_frm (M := ex9) m9 w9
  obtain ⟨H10, o10, L10, c10, m10, fr10⟩ := f29 (M := ex9) n9 w9
  rw [ex9_collect] at c10 m10
  obtain ⟨H11, o11, L11, t11, c11, m11, fr11, a11⟩ := f40 (M := ex10) (mu := 0) (x := actK 1 2 0 0 0 0) m10 ex10_ok (by decide)
  have lt11 : leaf t11 = true := a11.leaf
  have FA : Frm 0 o4 K4 o11 H11 := ((((((((fr5.trans gr5).trans fr6).trans fr7).trans fr8).trans fr9).trans gr9).trans fr10).trans fr11)
  have FB : Frm 0 o5 K5 o11 H11 := ((((((fr6.trans fr7).trans fr8).trans fr9).trans gr9).trans fr10).trans fr11)
  have FC : Frm 0 o9 K9 o11 H11 := fr10.trans fr11
  have FD : Frm 0 o3 (H3 ++ [⟨[t3, .i 1, .i 0, .i 0, .i 2, .i 0, .i 0], .rw, 0⟩]) o11 H11 := (fr4.trans gr4).trans FA
  have fo3 : o3 H3.length = none := by
    cases h : o3 H3.length with
    | none => rfl
    | some t => have := m3.dom _ _ h; omega
  obtain ⟨x3, -⟩ := FD.kept (c := H3.length) (k := ⟨[t3, .i 1, .i 0, .i 0, .i 2, .i 0, .i 0], .rw, 0⟩) (by simp) fo3
  have y4 := q4.unFrm FA
  have y5 := q5.unFrm FB
  have y9 := q9.unFrm FC
  rw [ex_keptI.1] at y4
  rw [ex_keptI.2.1] at y5
  rw [ex_keptI.2.2] at y9
  simp only [actK] at c1 c2 c3 c4 c5 c6 c7 c8 c9 c11
  have c3' : run P 40 [.ptr b 0, .i 0, .agg [.i 2, .i 0, .i 1, .i 0, .i 0, .i 0, .i 0, .i 0]] H2 = some (.tup [.agg [t3, .i 1, .i 0, .i 0, .i 2, .i 0, .i 0], .i 0], H3) := c3
  have c11' : run P 40 [.ptr b 0, .i 0, .agg [.i 1, .i 2, .i 0, .i 0, .i 0, .i 0, .i 0, .i 0]] H10 = some (.tup [.agg [t11, .i 0, .i 0, .i 0, .i 0, .i 0, .i 0], .i 0], H11) := c11
  have z4 := (y4.app [⟨[t11, .i 0, .i 0, .i 0, .i 0, .i 0, .i 0], .rw, 0⟩]).app [⟨[.i 1, .i 2], .rw, 1⟩]
  have z9 := ((y9.app [⟨[t11, .i 0, .i 0, .i 0, .i 0, .i 0, .i 0], .rw, 0⟩]).app [⟨[.i 1, .i 2], .rw, 1⟩]).app [⟨[.i 3], .rw, 1⟩]
  have i4 := f26 (l' := [1, 2]) (v' := .slice (H11.length + 1) 0 2 2 1 false) (o' := Loc 0) (t' := z3) z4 (.inr ⟨_, _, rfl, Loc_some.2 ⟨by omega, rfl⟩, by simp (disch := first | omega | rfl | assumption | (simp only [csN, Nat.reduceAdd, Nat.reduceMul, Nat.reduceLeDiff, Nat.reduceEqDiff] <;> omega) | (simp only [csF]; done) | (simp only [csF] <;> assumption) | fail) only [Nat.reduceEqDiff, Nat.reduceAdd, Nat.reduceMul, Nat.reduceSub, Nat.reduceLeDiff, Int.reduceAdd, Int.reduceSub, Int.reduceMul, Int.reduceLT, Int.reduceLE, Int.reduceGT, Int.reduceGE, Int.reduceEq, Int.reduceBEq, Int.reduceBNe, Int.reduceNeg, Int.reduceToNat, csAll, ↓reduceIte, ints_cons, ints_nil], rfl⟩) (by decide)
  have i9 := f26 (l' := [3]) (v' := .slice (H11.length + 2) 0 1 1 1 false) (o' := Loc 0) (t' := z3) z9 (.inr ⟨_, _, rfl, Loc_some.2 ⟨by omega, rfl⟩, by simp (disch := first | omega | rfl | assumption | (simp only [csN, Nat.reduceAdd, Nat.reduceMul, Nat.reduceLeDiff, Nat.reduceEqDiff] <;> omega) | (simp only [csF]; done) | (simp only [csF] <;> assumption) | fail) only [Nat.reduceEqDiff, Nat.reduceAdd, Nat.reduceMul, Nat.reduceSub, Nat.reduceLeDiff, Int.reduceAdd, Int.reduceSub, Int.reduceMul, Int.reduceLT, Int.reduceLE, Int.reduceGT, Int.reduceGE, Int.reduceEq, Int.reduceBEq, Int.reduceBNe, Int.reduceNeg, Int.reduceToNat, csAll, ↓reduceIte, ints_cons, ints_nil], rfl⟩) (by decide)
  have l5 := y5.len
  have hx3 := lt_of_get x3
  simp only [decide_true] at i4 i9
  have c0' : run P 31 [.i 1] H = some (.tup [.ptr b 0, .i 0], H0) := c0
  apply ex_run
  rw [run_lv c13]
  simp (config := { maxSteps := 2000000 }) (disch := first | omega | rfl | assumption | (simp only [csN, Nat.reduceAdd, Nat.reduceMul, Nat.reduceLeDiff, Nat.reduceEqDiff] <;> omega) | (simp only [csF]; done) | (simp only [csF] <;> assumption) | fail) only [Nat.reduceEqDiff, Nat.reduceAdd, Nat.reduceMul, Nat.reduceSub, Nat.reduceLeDiff, Int.reduceAdd, Int.reduceSub, Int.reduceMul, Int.reduceLT, Int.reduceLE, Int.reduceGT, Int.reduceGE, Int.reduceEq, Int.reduceBEq, Int.reduceBNe, Int.reduceNeg, Int.reduceToNat, csAll, ↓reduceIte, C13, entry_0, c0', c1, c2, c3', c4, d4, c5, d5, c6, c7, c8, c9, d9, c10, c11', x3, i4, i9, l5]
  rfl
end Go.Cs.Try

/- Which temporaries a piece of code may change; loops by that. -/
namespace Go.Cs
open Go

/-- The temporaries that a piece of code may write. -/
def wr : CCode → List Nat
  | .region ops => ops.filterMap (·.dst)
  | .dregion ops => ops.filterMap (·.s.dst)
  | .seq a b => wr a ++ wr b
  | .cond _ a b => wr a ++ wr b
  | .block _ c => wr c
  | .loop c => wr c
  | _ => []

theorem put_same {E : Env} {d : Option Nat} {v : CV} {t : Nat} (h : t ∉ d.toList) : E.put d v t = E t := by
  cases d with
  | none => rfl
  | some d =>
    simp only [Option.toList_some, List.mem_singleton] at h
    simp only [Env.put, Env.upd, if_neg h]

theorem filterMap_cons_mem {α : Type} {f : α → Option Nat} {a : α} {l : List α} {t : Nat} (h : t ∉ (a :: l).filterMap f) : t ∉ (f a).toList ∧ t ∉ l.filterMap f := by
  rw [List.filterMap_cons] at h
  cases hf : f a with
  | none => rw [hf] at h; exact ⟨by simp, h⟩
  | some d => rw [hf] at h; simp only [List.mem_cons, not_or] at h; exact ⟨by simpa using h.1, h.2⟩

theorem evOps_wr {F : CallF} {t : Nat} : ∀ {l : List CStmt} {E : Env} {H : CHeap} {r : Env × CHeap}, evOps F l E H = some r → t ∉ l.filterMap (·.dst) → r.1 t = E t
  | [], E, H, r, h, _ => by simp only [evOps, Option.some.injEq] at h; subst h; rfl
  | s :: l, E, H, r, h, ht => by
    obtain ⟨h1, h2⟩ := filterMap_cons_mem ht
    simp only [evOps, Option.bind_eq_some_iff] at h
    obtain ⟨q, hq, hr⟩ := h
    rw [evOps_wr hr h2]
    unfold evStmt at hq
    split at hq
    · rw [Option.map_eq_some_iff] at hq; obtain ⟨p, _, rfl⟩ := hq; exact put_same h1
    · simp only [Option.some.injEq] at hq; subst hq; exact put_same h1

theorem evD_wr {F : CallF} {t : Nat} : ∀ {l : List DStmt} {E : Env} {H : CHeap} {hs : List CHeap} {r : Env × CHeap}, evD F l E H hs = some r → t ∉ l.filterMap (·.s.dst) → r.1 t = E t
  | [], E, H, hs, r, h, _ => by simp only [evD, Option.some.injEq] at h; subst h; rfl
  | d :: l, E, H, hs, r, h, ht => by
    obtain ⟨h1, h2⟩ := filterMap_cons_mem ht
    unfold evD at h
    split at h
    · rw [evD_wr h h2]; exact put_same h1
    · split at h
      · rw [Option.bind_eq_some_iff] at h
        obtain ⟨q, hq, hr⟩ := h
        rw [evD_wr hr h2]; exact put_same h1
      · rw [Option.bind_eq_some_iff] at h
        obtain ⟨m, _, hr⟩ := h
        split at hr
        · rw [evD_wr hr h2]; exact put_same h1
        · cases hr

theorem ev_wr (p : CProg) {t : Nat} : ∀ (n : Nat) {c : CCode} {E : Env} {H : CHeap} {r : CX × Env × CHeap}, ev p n c E H = some r → t ∉ wr c → r.2.1 t = E t
  | 0, _, _, _, _, h, _ => by cases h
  | n + 1, c, E, H, r, h, ht => by
    rw [ev_succ] at h
    cases c with
    | skip => simp only [Option.some.injEq] at h; subst h; rfl
    | region ops => rw [Option.map_eq_some_iff] at h; obtain ⟨q, hq, rfl⟩ := h; exact evOps_wr hq ht
    | dregion ops => rw [Option.map_eq_some_iff] at h; obtain ⟨q, hq, rfl⟩ := h; exact evD_wr hq ht
    | seq a b =>
      simp only [wr, List.mem_append, not_or] at ht
      rw [Option.bind_eq_some_iff] at h
      obtain ⟨q, hq, h⟩ := h
      have h1 := ev_wr p n hq ht.1
      split at h
      · rw [ev_wr p n h ht.2, h1]
      · simp only [Option.some.injEq] at h; subst h; exact h1
    | cond c a b =>
      simp only [wr, List.mem_append, not_or] at ht
      dsimp only at h
      split at h
      · rename_i tt _
        cases tt with
        | true => exact ev_wr p n h ht.1
        | false => exact ev_wr p n h ht.2
      · cases h
    | block id c =>
      simp only [wr] at ht
      rw [Option.map_eq_some_iff] at h
      obtain ⟨q, hq, rfl⟩ := h
      exact ev_wr p n (r := q) hq ht
    | loop c =>
      have ht' := ht
      simp only [wr] at ht
      rw [Option.bind_eq_some_iff] at h
      obtain ⟨q, hq, h⟩ := h
      have h1 := ev_wr p n hq ht
      split at h
      · rw [ev_wr p n h ht', h1]
      · simp only [Option.some.injEq] at h; subst h; exact h1
    | exit id => simp only [Option.some.injEq] at h; subst h; rfl
    | ret => simp only [Option.some.injEq] at h; subst h; rfl

theorem den_wr {p : CProg} {c : CCode} {E E' : Env} {H H' : CHeap} {x : CX} (h : den p c E H = some (x, E', H')) {t : Nat} (ht : t ∉ wr c) : E' t = E t := by
  obtain ⟨n, hn⟩ := den_some.1 h
  exact ev_wr p n hn ht

/-- A loop from some environment on: its invariant by a measure, and what holds when it is left. What it does not write stays as it was. -/
theorem loop_at {p : CProg} {c : CCode} {E0 : Env} {H0 : CHeap} (Inv : Nat → Env → CHeap → Prop) (Post : CX → Env → CHeap → Prop)
    (step : ∀ k E H, (∀ t, t ∉ wr c → E t = E0 t) → Inv k E H → ∃ x E' H', den p c E H = some (x, E', H') ∧ ((x = .normal ∧ ∃ k', k' < k ∧ Inv k' E' H') ∨ (x ≠ .normal ∧ Post x E' H')))
    (k : Nat) (hi : Inv k E0 H0) : ∃ x E' H', den p (.loop c) E0 H0 = some (x, E', H') ∧ x ≠ .normal ∧ Post x E' H' ∧ ∀ t, t ∉ wr c → E' t = E0 t := by
  have key : LoopOk p c (fun k E H => (∀ t, t ∉ wr c → E t = E0 t) ∧ Inv k E H) (fun x E' H' => Post x E' H' ∧ ∀ t, t ∉ wr c → E' t = E0 t) := by
    refine loop_ind ?_
    rintro k E H ⟨hE, hi⟩
    obtain ⟨x, E', H', e, h⟩ := step k E H hE hi
    have hE' : ∀ t, t ∉ wr c → E' t = E0 t := fun t ht => (den_wr e ht).trans (hE t ht)
    refine ⟨x, E', H', e, ?_⟩
    rcases h with ⟨rfl, k', hk, hi'⟩ | ⟨hx, hp⟩
    · exact .inl ⟨rfl, k', hk, hE', hi'⟩
    · exact .inr ⟨hx, hp, hE'⟩
  obtain ⟨x, E', H', e, hx, hp⟩ := key k E0 H0 ⟨fun _ _ => rfl, hi⟩
  exact ⟨x, E', H', e, hx, hp⟩
end Go.Cs

/- Growth of the heap; lists of integers that grow. -/
namespace Go.Cs
open Go
/-- The heap grew: what was there is as it was. -/
structure Gr (H H' : CHeap) : Prop where
  len : H.length ≤ H'.length
  low : ∀ c, c < H.length → H'[c]? = H[c]?
theorem Gr.refl (H : CHeap) : Gr H H := ⟨Nat.le_refl _, fun _ _ => rfl⟩
theorem Gr.trans {H H' H'' : CHeap} (a : Gr H H') (b : Gr H' H'') : Gr H H'' := ⟨Nat.le_trans a.len b.len, fun c h => by rw [b.low c (Nat.lt_of_lt_of_le h a.len), a.low c h]⟩
theorem Gr.app (H J : CHeap) : Gr H (H ++ J) := ⟨by simp, fun _ h => List.getElem?_append_left h⟩
theorem Gr.app' {H H' : CHeap} (a : Gr H H') (J : CHeap) : Gr H (H' ++ J) := a.trans (.app _ _)
theorem Gr.get {H H' : CHeap} (a : Gr H H') {b : Nat} {k : Blk} (h : H[b]? = some k) : H'[b]? = some k := by rw [a.low b (lt_of_get h), h]
theorem MRep.gr {o : Tags} {g : Nat} {H H' : CHeap} {b : Nat} {M : Mdl} {L : Lay} (m : MRep o g H b M L) (a : Gr H H') : MRep o g H' b M L :=
  m.frame (fun c t h => Nat.lt_of_lt_of_le (m.dom c t h) a.len) (fun _ _ h => h) (fun c k h => a.low c (m.dom c _ h))
theorem Gr.frm {o : Tags} {g : Nat} {H H' : CHeap} (a : Gr H H') (hd : ∀ c t, o c = some t → c < H.length) : Frm g o H o H' := .grow hd a.len a.low

/-- A list of integers in memory that is newer than a state of the heap. -/
abbrev IL (k : Nat) (H : CHeap) (v : CV) (l : List Int) : Prop := At (Loc k) z3 H v 1 l.length (ints l)
theorem At.gr {k : Nat} {o : Tags} {t : Tag} {H H' : CHeap} {v : CV} {n : Nat} {cs : List CV} (h : At o t H v k n cs) (a : Gr H H') : At o t H' v k n cs := h.grow fun _ hc _ => a.low _ hc
theorem IL.nil {k : Nat} {H : CHeap} : IL k H .nilSlice [] := .inl ⟨rfl, rfl, .inl rfl⟩
theorem IL.blk {k b n : Nat} {H : CHeap} {l : List Int} (hb : k ≤ b) (h : H[b]? = some ⟨ints l, .rw, 1⟩) (hn : l.length = n) {t : Bool} : IL k H (.slice b 0 n n 1 t) l :=
  .inr ⟨b, t, by rw [hn], Loc_some.2 ⟨hb, rfl⟩, h, by simp [ints_len]⟩
theorem IL.cat {k : Nat} {H : CHeap} {v : CV} {l l2 : List Int} (h : IL k H v l) (hk : k ≤ H.length) (hm : l.length + l2.length ≤ 16777216) :
    ∃ v' H', appendTo H 1 v l2.length (ints l2) = some (v', H') ∧ IL k H' v' (l ++ l2) ∧ k ≤ H'.length ∧ ∀ c, c < k → H'[c]? = H[c]? := by
  by_cases h2 : l2 = []
  · subst h2
    refine ⟨v, H, ?_, by simpa using h, hk, fun _ _ => rfl⟩
    rcases h with ⟨_, _, rfl | ⟨b, f, rfl⟩⟩ | ⟨b, tl, rfl, h1, h2, h3⟩ <;> rfl
  · have hp : 0 < l2.length := List.length_pos_iff.2 h2
    obtain ⟨H', a1, a2, a3, a4⟩ := At.append (k := l2.length) (new := ints l2) h hp hm (ints_leaf _) (by simp [ints_len])
    refine ⟨_, H', a1, .inr ⟨H.length, true, by simp, Loc_some.2 ⟨hk, rfl⟩, by rw [a3, ints_app], by simp [ints_len]⟩, by omega, fun c hc => a4 c (by omega) (fun h => by have := (Loc_some.1 h).1; omega)⟩
theorem IL.push {k : Nat} {H : CHeap} {v : CV} {l : List Int} (h : IL k H v l) (hk : k ≤ H.length) (hm : l.length + 1 ≤ 16777216) (x : Int) :
    ∃ v' H', appendTo (H ++ [⟨[.i x], .rw, 1⟩]) 1 v 1 [.i x] = some (v', H') ∧ IL k H' v' (l ++ [x]) ∧ k ≤ H'.length ∧ ∀ c, c < k → H'[c]? = H[c]? := by
  obtain ⟨v', H', a, b, c, d⟩ := IL.cat (l2 := [x]) (h.gr (.app H [⟨[.i x], .rw, 1⟩])) (by simp; omega) hm
  exact ⟨v', H', a, b, c, fun e he => by rw [d e he, List.getElem?_append_left (by omega)]⟩
theorem Gr.low' {H0 H H' : CHeap} (a : Gr H0 H) (hl : H0.length ≤ H'.length) (h : ∀ c, c < H0.length → H'[c]? = H[c]?) : Gr H0 H' := ⟨hl, fun c hc => by rw [h c hc, a.low c hc]⟩
theorem wrapS (n : Nat) (h : n ≤ 1000000000) : IntKind.i64.wrap ((n : Int) + 1) = ((n + 1 : Nat) : Int) := by rw [wrap_id (by omega)]; rfl
theorem take_snoc {α : Type} {l : List α} {i : Nat} {x : α} (h : l[i]? = some x) : l.take (i + 1) = l.take i ++ [x] := by
  have hi := lt_of_get h
  rw [List.take_succ_eq_append_getElem hi, List.getElem?_eq_getElem hi] at *
  simp only [Option.some.injEq] at h
  rw [h]
theorem take_all {α : Type} {l : List α} {i : Nat} (h : l.length ≤ i) : l.take i = l := List.take_of_length_le h
end Go.Cs

/- roots: what places hold. -/
namespace Go.Cs
open Go
end Go.Cs
namespace Go.Cs.Try
open Go Go.Cs
set_option maxRecDepth 100000
section
variable {o : Tags} {g : Nat} {b : Nat} {M : Mdl} {L : Lay} {H0 H : CHeap}

theorem ex2 {r : Option (CV × CHeap)} {v : CV} {H' : CHeap} {Q : CV → CHeap → Prop} (h : r = some (v, H')) (q : Q v H') : ∃ v H', r = some (v, H') ∧ Q v H' := ⟨_, _, h, q⟩

end
end Go.Cs.Try

/- contents and state: all that a model has. -/
namespace Go.Cs
open Go
end Go.Cs
namespace Go.Cs.Try
open Go Go.Cs
set_option maxRecDepth 100000
section
variable {o : Tags} {g : Nat} {b : Nat} {M : Mdl} {L : Lay} {H0 H : CHeap}

end
end Go.Cs.Try

/- state: all that a model has. -/
namespace Go.Cs.Try
open Go Go.Cs
set_option maxRecDepth 100000
section
variable {o : Tags} {g : Nat} {b : Nat} {M : Mdl} {L : Lay} {H0 H : CHeap}

theorem Mdl.obj_at {M : Mdl} {j : Nat} (h : j < M.objs.length) : M.objs[j]? = some (M.obj ((j + 1 : Nat) : Int)) := by
  have := Mdl.obj_get (M := M) (n := ((j + 1 : Nat) : Int)) (by unfold Mdl.has; omega)
  have e : (((j + 1 : Nat) : Int) - 1).toNat = j := by omega
  rw [e] at this; exact this

end
end Go.Cs.Try

/- Lists of lists of integers. -/
namespace Go.Cs
open Go
def One (b : Nat) : Tags := fun c => if c = b then some z3 else none
theorem One_some {b c : Nat} {t : Tag} : One b c = some t ↔ c = b ∧ t = z3 := by
  unfold One
  split
  · rename_i h; simp only [Option.some.injEq]; exact ⟨fun e => ⟨h, e.symm⟩, fun e => e.2.symm⟩
  · rename_i h; simp [h]
abbrev IB (b : Nat) (H : CHeap) (v : CV) (n : Nat) (cs : List CV) : Prop := At (One b) z3 H v 1 n cs
theorem IL.one {k : Nat} {H : CHeap} {v : CV} {l : List Int} (h : IL k H v l) (hk : k < H.length) : ∃ b, k ≤ b ∧ b < H.length ∧ IB b H v l.length (ints l) := by
  rcases h with h | ⟨b, tl, rfl, h1, h2, h3⟩
  · exact ⟨k, Nat.le_refl _, hk, .inl h⟩
  · exact ⟨b, (Loc_some.1 h1).1, lt_of_get h2, .inr ⟨b, tl, rfl, One_some.2 ⟨rfl, rfl⟩, h2, h3⟩⟩
theorem IB.keep {b n : Nat} {H H' : CHeap} {v : CV} {cs : List CV} (h : IB b H v n cs) (e : b < H.length → H'[b]? = H[b]?) : IB b H' v n cs := by
  rcases h with h | ⟨c, tl, rfl, h1, h2, h3⟩
  · exact .inl h
  · obtain ⟨rfl, -⟩ := One_some.1 h1
    exact .inr ⟨c, tl, rfl, h1, by rw [e (lt_of_get h2), h2], h3⟩
theorem IB.append {b n k : Nat} {H : CHeap} {v : CV} {cs new : List CV} (h : IB b H v n cs) (hk : 0 < k) (hm : n + k ≤ 16777216) (hl : new.all leaf = true) (hnew : new.length = k) :
    ∃ v' H', appendTo H 1 v k new = some (v', H') ∧ IB H.length H' v' (n + k) (cs ++ new) ∧ H'.length = H.length + 1 ∧ ∀ c, c < H.length → c ≠ b → H'[c]? = H[c]? := by
  obtain ⟨H', a1, a2, a3, a4⟩ := At.append (k := k) (new := new) h hk hm hl (by omega)
  have hcl : cs.length = n := by
    rcases h with ⟨h1, h2, -⟩ | ⟨b, tl, -, -, -, h3⟩
    · simp [h1, h2]
    · omega
  exact ⟨_, H', a1, .inr ⟨H.length, true, rfl, One_some.2 ⟨rfl, rfl⟩, a3, by simp [hnew, hcl]⟩, a2, fun c hc hb => a4 c hc (fun h => hb (One_some.1 h).1)⟩

/-- A list of lists. -/
def LL (k : Nat) (H : CHeap) (v : CV) (ls : List (List Int)) : Prop :=
  ∃ b vs, k ≤ b ∧ IB b H v ls.length vs ∧ vs.length = ls.length ∧ ∀ (i : Nat) (l : List Int), ls[i]? = some l → ∃ u bi, vs[i]? = some u ∧ k ≤ bi ∧ bi ≠ b ∧ bi < H.length ∧ IB bi H u l.length (ints l)
theorem LL.nil {k : Nat} {H : CHeap} : LL k H .nilSlice [] := ⟨k, [], Nat.le_refl _, .inl ⟨rfl, rfl, .inl rfl⟩, rfl, fun i l h => by simp at h⟩
theorem LL.gr {k : Nat} {H H' : CHeap} {v : CV} {ls : List (List Int)} (h : LL k H v ls) (g : Gr H H') : LL k H' v ls := by
  obtain ⟨b, vs, h1, h2, h3, h4⟩ := h
  refine ⟨b, vs, h1, h2.keep (fun hb => g.low b hb), h3, fun i l hi => ?_⟩
  obtain ⟨u, bi, e1, e2, e3, e4, e5⟩ := h4 i l hi
  exact ⟨u, bi, e1, e2, e3, Nat.lt_of_lt_of_le e4 g.len, e5.keep (fun hb => g.low bi hb)⟩
theorem LL.frm {k g : Nat} {o o' : Tags} {H H' : CHeap} {v : CV} {ls : List (List Int)} (h : LL k H v ls) (hd : ∀ c t, o c = some t → c < k) (f : Frm g o H o' H') : LL k H' v ls := by
  obtain ⟨b, vs, h1, h2, h3, h4⟩ := h
  have key : ∀ c, k ≤ c → c < H.length → H'[c]? = H[c]? := fun c hc hl => f.keep c hl (fun x hx => by have := hd c _ hx; omega)
  refine ⟨b, vs, h1, h2.keep (fun hb => key b h1 hb), h3, fun i l hi => ?_⟩
  obtain ⟨u, bi, e1, e2, e3, e4, e5⟩ := h4 i l hi
  exact ⟨u, bi, e1, e2, e3, Nat.lt_of_lt_of_le e4 f.len, e5.keep (fun hb => key bi e2 hb)⟩
theorem LL.push {k : Nat} {H Hc : CHeap} {v vc : CV} {ls : List (List Int)} {l : List Int} (h : LL k H v ls) (hk : k ≤ H.length) (g : Gr H Hc) (hl : H.length < Hc.length) (hv : IL H.length Hc vc l) (hm : ls.length + 1 ≤ 16777216) :
    ∃ v' H', appendTo (Hc ++ [⟨[vc], .rw, 1⟩]) 1 v 1 [vc] = some (v', H') ∧ LL k H' v' (ls ++ [l]) ∧ k ≤ H'.length ∧ ∀ c, c < k → H'[c]? = H[c]? := by
  obtain ⟨b0, vs, h1, h20, h3, h40⟩ := h
  obtain ⟨bc, c1, c2, c3⟩ := hv.one hl
  have hlf : leaf vc = true := c3.leaf
  have hg := g.len
  obtain ⟨b, hb, hkb, h2, hbb⟩ : ∃ b, (b < H.length ∨ Hc.length < b) ∧ k ≤ b ∧ IB b H v ls.length vs ∧ (ls ≠ [] → b = b0) := by
    rcases h20 with h | ⟨c, tl, e, z1, z2, z3⟩
    · exact ⟨Hc.length + 1, .inr (by omega), by omega, .inl h, fun hne => absurd (List.eq_nil_of_length_eq_zero h.1) hne⟩
    · obtain ⟨rfl, -⟩ := One_some.1 z1
      exact ⟨c, .inl (lt_of_get z2), h1, .inr ⟨c, tl, e, z1, z2, z3⟩, fun _ => rfl⟩
  have h4 : ∀ (i : Nat) (l : List Int), ls[i]? = some l → ∃ u bi, vs[i]? = some u ∧ k ≤ bi ∧ bi ≠ b ∧ bi < H.length ∧ IB bi H u l.length (ints l) := fun i l hi => by
    have hne : ls ≠ [] := by rintro rfl; simp at hi
    rw [hbb hne]; exact h40 i l hi
  have h2' : IB b (Hc ++ [⟨[vc], .rw, 1⟩]) v ls.length vs := h2.keep (fun hb => by rw [List.getElem?_append_left (by omega), g.low b hb])
  obtain ⟨v', H', a1, a2, a3, a4⟩ := h2'.append (k := 1) (new := [vc]) (by omega) hm (by simp [hlf]) rfl
  have hcl : (Hc ++ [(⟨[vc], .rw, 1⟩ : Blk)]).length = Hc.length + 1 := by simp
  rw [hcl] at a2 a3 a4
  have low : ∀ c, c < Hc.length → c ≠ b → H'[c]? = Hc[c]? := fun c hc hb => by rw [a4 c (by omega) hb, List.getElem?_append_left hc]
  refine ⟨v', H', a1, ⟨Hc.length + 1, vs ++ [vc], by omega, by simpa using a2, by simp [h3], fun i l' hi => ?_⟩, by omega, fun c hc => ?_⟩
  · rw [List.getElem?_append] at hi
    split at hi
    · rename_i hlt
      obtain ⟨u, bi, e1, e2, e3, e4, e5⟩ := h4 i l' hi
      refine ⟨u, bi, by rw [List.getElem?_append_left (by omega)]; exact e1, e2, by omega, by omega, e5.keep (fun hb => ?_)⟩
      rw [low bi (by omega) e3, g.low bi e4]
    · rename_i hge
      have hil := lt_of_get hi
      simp only [List.length_singleton] at hil
      have hi0 : i = ls.length := by omega
      subst hi0
      simp at hi
      subst hi
      exact ⟨vc, bc, by rw [List.getElem?_append_right (by omega), h3]; simp, by omega, by omega, by omega, c3.keep (fun _ => low bc c2 (by omega))⟩
  · by_cases e : c = b
    · omega
    · rw [low c (by omega) e, g.low c (by omega)]
end Go.Cs

/- ModelRefused: the walk. -/
namespace Go.Cs
open Go
theorem tag_none {o : Tags} {H : CHeap} (hd : ∀ c t, o c = some t → c < H.length) : o H.length = none := by
  cases h : o H.length with
  | none => rfl
  | some t => have := hd _ _ h; omega
end Go.Cs
namespace Go.Cs.Try
open Go Go.Cs
set_option maxRecDepth 100000
set_option maxHeartbeats 8000000
end Go.Cs.Try

/- ModelTold: the walk. -/
namespace Go.Cs
open Go
end Go.Cs
namespace Go.Cs.Try
open Go Go.Cs
set_option maxRecDepth 100000
set_option maxHeartbeats 8000000

end Go.Cs.Try

/- ModelMore: its loops. -/
namespace Go.Cs.Try
open Go Go.Cs
set_option maxRecDepth 100000
section
variable {H : CHeap}

end
end Go.Cs.Try

/- ModelMore, plainly: with more, no less is kept. -/
namespace Go.Cs
open Go
theorem Kp.push {M : Mdl} {n v : Int} (h : Kp M v) : Kp (M.push n).1 v := by
  unfold Mdl.push
  split
  · split
    · exact h
    · induction h with
      | root h hz =>
        refine .root ?_ hz
        unfold Mdl.places at h ⊢
        simp only [List.mem_append] at h ⊢
        rcases h with (h | h) | h
        · exact .inl (.inl h)
        · exact .inl (.inr h)
        · exact .inr (.inl h)
      | strong _ h hz ih => exact .strong ih h hz
      | eph _ h1 _ hz ih ih2 => exact .eph ih h1 ih2 hz
  · exact h

theorem setObj_obj {M : Mdl} {n k : Int} (hn : M.has n) (hk : 1 ≤ k) {x : Obj} : (M.setObj n x).obj k = if k = n then x else M.obj k := by
  unfold Mdl.has at hn
  unfold Mdl.setObj Mdl.obj
  simp only [List.getD_eq_getElem?_getD]
  by_cases h : k = n
  · subst h
    rw [if_pos rfl, List.getElem?_set_self (by omega)]; rfl
  · rw [if_neg h, List.getElem?_set_ne (by omega)]

theorem Kp.setRef {M : Mdl} (w : M.Ok) {n i to v : Int} (hn : M.has n) (hk : (M.obj n).kd = 0) (hz : elAt (M.obj n).refs i = (0, 0)) (h : Kp M v) : Kp (M.setRef n i to).1 v := by
  have hi : 0 ≤ i ∧ i < ((M.obj n).refs.length : Int) ∧ (M.obj n).refs.getD i.toNat 0 = 0 := by
    unfold elAt at hz
    split at hz
    · rename_i h
      simp only [Prod.mk.injEq] at hz
      exact ⟨h.1, h.2, hz.1⟩
    · simp at hz
  unfold Mdl.setRef
  rw [if_pos hn]
  split
  · dsimp only
    induction h with
    | root h hz => exact .root h hz
    | @strong k u h hu hz ih =>
      have hh := Kp.has w h
      have hob := setObj_obj (M := M) (k := k) hn hh.1 (x := { M.obj n with refs := (M.obj n).refs.set i.toNat to })
      refine .strong ih ?_ hz
      rw [hob]
      by_cases e : k = n
      · subst e
        rw [if_pos rfl]
        show u ∈ ((M.obj k).refs.set i.toNat to).drop (soft (M.obj k).kd)
        have hs : soft (M.obj k).kd = 0 := by unfold soft; rw [hk]; rfl
        rw [hs] at hu ⊢
        simp only [List.drop_zero] at hu ⊢
        obtain ⟨j, hj, rfl⟩ := List.mem_iff_getElem.1 hu
        have hne : j ≠ i.toNat := by
          rintro rfl
          apply hz
          have := hi.2.2
          rw [List.getD_eq_getElem?_getD, List.getElem?_eq_getElem hj] at this
          exact this
        refine List.mem_iff_getElem.2 ⟨j, by simpa using hj, ?_⟩
        rw [List.getElem_set_ne (Ne.symm hne)]
      · rw [if_neg e]; exact hu
    | @eph k h h1 _ hz ih ih2 =>
      have hh := Kp.has w h
      have hob := setObj_obj (M := M) (k := k) hn hh.1 (x := { M.obj n with refs := (M.obj n).refs.set i.toNat to })
      have hne : k ≠ n := by rintro rfl; rw [hk] at h1; omega
      rw [if_neg hne] at hob
      have := Kp.eph (M := M.setObj n { M.obj n with refs := (M.obj n).refs.set i.toNat to }) ih (by rw [hob]; exact h1) (by rw [hob]; exact ih2) (by rw [hob]; exact hz)
      rw [hob] at this
      exact this
  · exact h
end Go.Cs

/- ModelNever: the walk. -/
namespace Go.Cs
open Go
end Go.Cs

/- keeps: whether a kept object keeps another one. -/
namespace Go.Cs
open Go
theorem ref_rng {M : Mdl} (w : M.Ok) {n : Int} (hn : M.has n) (i : Nat) : 0 ≤ (M.obj n).refs.getD i 0 ∧ (M.obj n).refs.getD i 0 ≤ (M.objs.length : Int) :=
  getD_mem (P := fun v => 0 ≤ v ∧ v ≤ (M.objs.length : Int)) (w.obj hn).ids ⟨by omega, by omega⟩
end Go.Cs
namespace Go.Cs.Try
open Go Go.Cs
set_option maxRecDepth 100000
set_option maxHeartbeats 8000000
section
variable {o : Tags} {g : Nat} {b : Nat} {M : Mdl} {L : Lay} {H0 H : CHeap}
/-- Strong. -/
theorem f49 {nr nd kd : Int} (hk : 0 ≤ kd ∧ kd ≤ 3) {i : Nat} : run P 49 [.agg [.i nr, .i nd, .i kd], .i i] H = some (.bool (decide (soft kd ≤ i)), H ++ [⟨[.i nr, .i nd, .i kd], .rw, 0⟩]) := by
  rw [run_lv c49]
  by_cases h1 : kd = 1
  · have hs : soft kd = 1 := by unfold soft; rw [if_pos h1]
    rw [hs]
    subst h1
    by_cases hi : 1 ≤ i
    · have hd : decide (1 ≤ i) = true := decide_eq_true hi
      simp (disch := first | omega | rfl | assumption | (simp only [csN, Nat.reduceAdd, Nat.reduceMul, Nat.reduceLeDiff, Nat.reduceEqDiff] <;> omega) | (simp only [csF]; done) | (simp only [csF] <;> assumption) | fail) only [Nat.reduceEqDiff, Nat.reduceAdd, Nat.reduceMul, Nat.reduceSub, Nat.reduceLeDiff, Int.reduceAdd, Int.reduceSub, Int.reduceMul, Int.reduceLT, Int.reduceLE, Int.reduceGT, Int.reduceGE, Int.reduceEq, Int.reduceBEq, Int.reduceBNe, Int.reduceNeg, Int.reduceToNat, csAll, ↓reduceIte, C49, entry_2, hd]
    · have hd : decide (1 ≤ i) = false := decide_eq_false hi
      simp (disch := first | omega | rfl | assumption | (simp only [csN, Nat.reduceAdd, Nat.reduceMul, Nat.reduceLeDiff, Nat.reduceEqDiff] <;> omega) | (simp only [csF]; done) | (simp only [csF] <;> assumption) | fail) only [Nat.reduceEqDiff, Nat.reduceAdd, Nat.reduceMul, Nat.reduceSub, Nat.reduceLeDiff, Int.reduceAdd, Int.reduceSub, Int.reduceMul, Int.reduceLT, Int.reduceLE, Int.reduceGT, Int.reduceGE, Int.reduceEq, Int.reduceBEq, Int.reduceBNe, Int.reduceNeg, Int.reduceToNat, csAll, ↓reduceIte, C49, entry_2, hd]
  · by_cases h2 : kd = 2
    · have hs : soft kd = 2 := by unfold soft; rw [if_neg h1, if_pos h2]
      rw [hs]
      subst h2
      by_cases hi : 2 ≤ i
      · have hd : decide (2 ≤ i) = true := decide_eq_true hi
        simp (disch := first | omega | rfl | assumption | (simp only [csN, Nat.reduceAdd, Nat.reduceMul, Nat.reduceLeDiff, Nat.reduceEqDiff] <;> omega) | (simp only [csF]; done) | (simp only [csF] <;> assumption) | fail) only [Nat.reduceEqDiff, Nat.reduceAdd, Nat.reduceMul, Nat.reduceSub, Nat.reduceLeDiff, Int.reduceAdd, Int.reduceSub, Int.reduceMul, Int.reduceLT, Int.reduceLE, Int.reduceGT, Int.reduceGE, Int.reduceEq, Int.reduceBEq, Int.reduceBNe, Int.reduceNeg, Int.reduceToNat, csAll, ↓reduceIte, C49, entry_2, hd]
      · have hd : decide (2 ≤ i) = false := decide_eq_false hi
        by_cases hi1 : 1 ≤ i
        · simp (disch := first | omega | rfl | assumption | (simp only [csN, Nat.reduceAdd, Nat.reduceMul, Nat.reduceLeDiff, Nat.reduceEqDiff] <;> omega) | (simp only [csF]; done) | (simp only [csF] <;> assumption) | fail) only [Nat.reduceEqDiff, Nat.reduceAdd, Nat.reduceMul, Nat.reduceSub, Nat.reduceLeDiff, Int.reduceAdd, Int.reduceSub, Int.reduceMul, Int.reduceLT, Int.reduceLE, Int.reduceGT, Int.reduceGE, Int.reduceEq, Int.reduceBEq, Int.reduceBNe, Int.reduceNeg, Int.reduceToNat, csAll, ↓reduceIte, C49, entry_2, hd]
        · simp (disch := first | omega | rfl | assumption | (simp only [csN, Nat.reduceAdd, Nat.reduceMul, Nat.reduceLeDiff, Nat.reduceEqDiff] <;> omega) | (simp only [csF]; done) | (simp only [csF] <;> assumption) | fail) only [Nat.reduceEqDiff, Nat.reduceAdd, Nat.reduceMul, Nat.reduceSub, Nat.reduceLeDiff, Int.reduceAdd, Int.reduceSub, Int.reduceMul, Int.reduceLT, Int.reduceLE, Int.reduceGT, Int.reduceGE, Int.reduceEq, Int.reduceBEq, Int.reduceBNe, Int.reduceNeg, Int.reduceToNat, csAll, ↓reduceIte, C49, entry_2, hd]
    · have hs : soft kd = 0 := by unfold soft; rw [if_neg h1, if_neg h2]
      rw [hs]
      have hd : decide (0 ≤ i) = true := decide_eq_true (Nat.zero_le _)
      simp (disch := first | omega | rfl | assumption | (simp only [csN, Nat.reduceAdd, Nat.reduceMul, Nat.reduceLeDiff, Nat.reduceEqDiff] <;> omega) | (simp only [csF]; done) | (simp only [csF] <;> assumption) | fail) only [Nat.reduceEqDiff, Nat.reduceAdd, Nat.reduceMul, Nat.reduceSub, Nat.reduceLeDiff, Int.reduceAdd, Int.reduceSub, Int.reduceMul, Int.reduceLT, Int.reduceLE, Int.reduceGT, Int.reduceGE, Int.reduceEq, Int.reduceBEq, Int.reduceBNe, Int.reduceNeg, Int.reduceToNat, csAll, ↓reduceIte, C49, entry_2, h1, h2, hd]

end
end Go.Cs.Try

/- Collect, plainly: what is kept stays, what does not lead to kept objects is cleared, once. -/
namespace Go.Cs
open Go
set_option linter.unusedSectionVars false
theorem on_keptL {M : Mdl} {v : Int} (h0 : 0 ≤ v) (h1 : v ≤ (M.objs.length : Int)) : on M.keptL v = true ↔ Kp M v := by
  unfold on Mdl.keptL
  rw [List.getD_eq_getElem?_getD, List.getElem?_map, List.getElem?_range (by omega)]
  simp only [Option.map_some, Option.getD_some, decide_eq_true_eq]
  have : ((v.toNat : Nat) : Int) = v := by omega
  rw [this]
theorem coll_obj {M : Mdl} (w : M.Ok) {ks : List Bool} : ∀ {i : Nat}, i ≤ M.objs.length → ∀ n, M.has n → (M.coll ks i).1.obj n = if n ≤ (i : Int) then (cObj ks (n - 1).toNat (M.obj n)).getD (M.obj n) else M.obj n
  | 0, _, n, hn => by rw [if_neg (by have := hn.1; omega)]; rfl
  | i + 1, hi, n, hn => by
    have ih := coll_obj w (ks := ks) (i := i) (by omega)
    obtain ⟨h1, h2⟩ := Mdl.coll_ok w (ks := ks) (i := i) (by omega)
    have hh0 : M.has ((i + 1 : Nat) : Int) := by unfold Mdl.has; omega
    have hh : (M.coll ks i).1.has ((i + 1 : Nat) : Int) := by unfold Mdl.has; omega
    have e0 := ih _ hh0
    rw [if_neg (by omega)] at e0
    have ei : (((i + 1 : Nat) : Int) - 1).toNat = i := by omega
    unfold Mdl.coll
    rw [e0]
    split
    · rename_i x e
      dsimp only
      rw [setObj_obj hh hn.1, ih n hn]
      by_cases c : n = ((i + 1 : Nat) : Int)
      · subst c
        rw [if_pos rfl, if_pos (by omega), ei, e]; rfl
      · rw [if_neg c]
        by_cases c2 : n ≤ (i : Int)
        · rw [if_pos c2, if_pos (by omega)]
        · rw [if_neg c2, if_neg (by omega)]
    · rename_i e
      rw [ih n hn]
      by_cases c : n = ((i + 1 : Nat) : Int)
      · subst c
        rw [if_neg (by omega), if_pos (by omega), ei, e]; rfl
      · by_cases c2 : n ≤ (i : Int)
        · rw [if_pos c2, if_pos (by omega)]
        · rw [if_neg c2, if_neg (by omega)]
theorem coll_places {M : Mdl} {ks : List Bool} : ∀ {i : Nat}, (M.coll ks i).1.places = M.places ∧ (M.coll ks i).1.slots = M.slots
  | 0 => ⟨rfl, rfl⟩
  | i + 1 => by
    have ih := coll_places (M := M) (ks := ks) (i := i)
    unfold Mdl.coll
    split
    · exact ih
    · exact ih
section
variable {M : Mdl} (w : M.Ok)
include w
theorem collect_obj {n : Int} (hn : M.has n) : M.collect.1.obj n = (cObj M.keptL (n - 1).toNat (M.obj n)).getD (M.obj n) := by
  unfold Mdl.collect
  rw [coll_obj w (Nat.le_refl _) n hn, if_pos hn.2]
theorem cObj_kept {n : Int} (hn : M.has n) (hk : Kp M n) : cObj M.keptL (n - 1).toNat (M.obj n) =
    if 0 < soft (M.obj n).kd ∧ on M.keptL ((M.obj n).refs.getD 0 0) = false ∧ ((M.obj n).refs.take (soft (M.obj n).kd)).any (· != 0) = true then some { M.obj n with refs := List.replicate (soft (M.obj n).kd) 0 ++ (M.obj n).refs.drop (soft (M.obj n).kd) } else none := by
  have h1 := (on_keptL (M := M) (by have := hn.1; omega) hn.2).2 hk
  unfold on at h1
  unfold cObj
  have e : (n - 1).toNat + 1 = n.toNat := by have := hn.1; omega
  rw [e]
  by_cases c : 0 < soft (M.obj n).kd ∧ on M.keptL ((M.obj n).refs.getD 0 0) = false ∧ ((M.obj n).refs.take (soft (M.obj n).kd)).any (· != 0) = true
  · rw [if_pos c, if_pos ⟨h1, c⟩]
  · rw [if_neg c, if_neg (fun h => c h.2)]
theorem kept_no0 : ¬ Kp M 0 := fun h => by have := Kp.has w h; unfold Mdl.has at this; omega
theorem ref_range {n : Int} (hn : M.has n) (i : Nat) : 0 ≤ (M.obj n).refs.getD i 0 ∧ (M.obj n).refs.getD i 0 ≤ (M.objs.length : Int) :=
  getD_mem (P := fun v => 0 ≤ v ∧ v ≤ (M.objs.length : Int)) (w.obj hn).ids ⟨by omega, by omega⟩
theorem collect_places : M.collect.1.places = M.places := coll_places.1
theorem Kp.collect {v : Int} (h : Kp M v) : Kp M.collect.1 v := by
  induction h with
  | root h hz => exact .root (by rw [collect_places w]; exact h) hz
  | @strong k u h hu hz ih =>
    refine .strong ih ?_ hz
    have hk := Kp.has w h
    rw [collect_obj w hk, cObj_kept w hk h]
    split
    · have hs := (w.obj hk).soft
      simp only [Option.getD_some]
      rw [List.drop_append]
      simpa using hu
    · exact hu
  | @eph k h hkd h0 hz ih ih0 =>
    have hk := Kp.has w h
    have hr := ref_range w hk 0
    have hon := (on_keptL (M := M) hr.1 hr.2).2 h0
    have e : M.collect.1.obj k = M.obj k := by
      rw [collect_obj w hk, cObj_kept w hk h, if_neg (by rw [hon]; simp)]; rfl
    have := Kp.eph (M := M.collect.1) (n := k) ih (by rw [e]; exact hkd) (by rw [e]; exact ih0) (by rw [e]; exact hz)
    rw [e] at this
    exact this
end
end Go.Cs

/- ModelMore: what is kept in the middle and at the end. -/
namespace Go.Cs.Try
open Go Go.Cs
set_option maxRecDepth 100000
section
variable {o : Tags} {g : Nat} {b : Nat} {M : Mdl} {L : Lay} {H : CHeap}

end
end Go.Cs.Try

/- ModelMore: the walk. -/
namespace Go.Cs
open Go
theorem klen {M : Mdl} (w : M.Ok) : M.keptI.length ≤ 1000000 := by
  have := idxs_len (ks := M.keptL) (i := M.objs.length + 1)
  have := w.few
  unfold Mdl.keptI; omega
end Go.Cs
namespace Go.Cs.Try
open Go Go.Cs
set_option maxRecDepth 100000
set_option maxHeartbeats 8000000
end Go.Cs.Try

/- ModelLeast: the loops. -/
namespace Go.Cs
open Go
/-- The heap grew, but for one block. -/
structure GrX (H : CHeap) (cb : Nat) (H' : CHeap) : Prop where
  len : H.length ≤ H'.length
  low : ∀ c, c < H.length → c ≠ cb → H'[c]? = H[c]?
theorem GrX.gr {H H' H'' : CHeap} {cb : Nat} (a : GrX H cb H') (b : Gr H' H'') : GrX H cb H'' := ⟨Nat.le_trans a.len b.len, fun c h hc => by rw [b.low c (Nat.lt_of_lt_of_le h a.len), a.low c h hc]⟩
theorem GrX.set {H H' : CHeap} {cb : Nat} (a : GrX H cb H') (k : Blk) : GrX H cb (H'.set cb k) := ⟨by simpa using a.len, fun c h hc => by rw [List.getElem?_set_ne (Ne.symm hc), a.low c h hc]⟩
theorem GrX.refl (H : CHeap) (cb : Nat) : GrX H cb H := ⟨Nat.le_refl _, fun _ _ _ => rfl⟩
theorem GrX.trans {H H' H'' : CHeap} {cb : Nat} (a : GrX H cb H') (b : GrX H' cb H'') : GrX H cb H'' := ⟨Nat.le_trans a.len b.len, fun c h hc => by rw [b.low c (Nat.lt_of_lt_of_le h a.len) hc, a.low c h hc]⟩
theorem GrX.get {H H' : CHeap} {cb b : Nat} {k : Blk} (a : GrX H cb H') (h : H[b]? = some k) (hb : b ≠ cb) : H'[b]? = some k := by rw [a.low b (lt_of_get h) hb, h]
theorem MRep.grx {o : Tags} {g : Nat} {H H' : CHeap} {b cb : Nat} {M : Mdl} {L : Lay} (m : MRep o g H b M L) (a : GrX H cb H') (hc : o cb = none) : MRep o g H' b M L :=
  m.frame (fun c t h => Nat.lt_of_lt_of_le (m.dom c t h) a.len) (fun _ _ h => h) (fun c k h => a.low c (m.dom c _ h) (by rintro rfl; rw [hc] at h; cases h))
theorem falses_set {ks : List Bool} {i : Nat} (hi : i < ks.length) (h : ks.getD i false = false) : falses (ks.set i true) < falses ks := by
  have := count_set hi h
  unfold falses; omega
end Go.Cs
namespace Go.Cs.Try
open Go Go.Cs
set_option maxRecDepth 100000
set_option maxHeartbeats 8000000
section
variable {o : Tags} {g : Nat} {b : Nat} {M : Mdl} {L : Lay} {H0 H : CHeap}

end
end Go.Cs.Try

/- ModelLeast: the walk. -/
namespace Go.Cs
open Go
/-- Where a pass stands: its flag tells whether something was counted. -/
def PassSt (c0 : List Bool) (f : Bool) (cn : List Bool) : Prop := (f = true ∧ falses cn < falses c0) ∨ (f = false ∧ cn = c0)
theorem PassSt.count {c0 cn : List Bool} {f : Bool} (h : PassSt c0 f cn) {v : Int} (hv : v.toNat < cn.length) (ho : on cn v = false) : PassSt c0 true (cn.set v.toNat true) := by
  have := falses_set hv ho
  rcases h with ⟨-, h⟩ | ⟨-, rfl⟩
  · exact .inl ⟨rfl, by omega⟩
  · exact .inl ⟨rfl, this⟩
/-- Tags below a block alone. -/
def Lt (k : Nat) (T : Tags) : Tags := fun c => if c < k then T c else none
theorem Lt_at {k c : Nat} {T : Tags} (h : c < k) : Lt k T c = T c := by unfold Lt; rw [if_pos h]
theorem Lt_ge {k c : Nat} {T : Tags} (h : k ≤ c) : Lt k T c = none := by unfold Lt; rw [if_neg (by omega)]
theorem At.lt {T : Tags} {H : CHeap} {v : CV} {n : Nat} {cs : List CV} {t : Tag} (h : At T t H v 1 n cs) : At (Lt H.length T) t H v 1 n cs := by
  rcases h with h | ⟨c, tl, rfl, q1, q2, q3⟩
  · exact .inl h
  · exact .inr ⟨c, tl, rfl, by rw [Lt_at (lt_of_get q2)]; exact q1, q2, q3⟩
theorem At.grx {T : Tags} {H H' : CHeap} {v : CV} {n cb : Nat} {cs : List CV} {t : Tag} (h : At (Lt cb T) t H v 1 n cs) (g : GrX H cb H') : At (Lt cb T) t H' v 1 n cs := by
  rcases h with h | ⟨c, tl, rfl, q1, q2, q3⟩
  · exact .inl h
  · refine .inr ⟨c, tl, rfl, q1, g.get q2 ?_, q3⟩
    rintro rfl
    rw [Lt_ge (Nat.le_refl _)] at q1; cases q1
def Mono (a b : List Bool) : Prop := ∀ u : Int, 0 ≤ u → on a u = true → on b u = true
theorem Mono.set {a b : List Bool} (h : Mono a b) {v : Int} (hv : 0 ≤ v ∧ v.toNat < b.length) : Mono a (b.set v.toNat true) := fun u hu ho => by
  rw [on_set hv hu, h u hu ho, Bool.or_true]
theorem PassSt.same {c0 cn : List Bool} {f : Bool} (h : PassSt c0 f cn) (hf : f = false) : cn = c0 := by
  rcases h with ⟨h, -⟩ | ⟨-, h⟩
  · rw [hf] at h; cases h
  · exact h
end Go.Cs
namespace Go.Cs.Try
open Go Go.Cs
set_option maxRecDepth 100000
set_option maxHeartbeats 8000000
section
variable {o : Tags} {g : Nat} {b : Nat} {M : Mdl} {L : Lay} {H0 H : CHeap}

end
end Go.Cs.Try

/- Clone. -/
namespace Go.Cs
open Go
/-- A list in memory that is newer than a state, told apart from what comes later. -/
theorem At.retag {k k2 : Nat} {Hm Hf : CHeap} {rv : CV} {n : Nat} {cs : List CV} {o' : Tags} {t : Tag} (h : At (Loc k) z3 Hm rv 1 n cs) (hm : Hm.length ≤ k2) (hf : ∀ c, k ≤ c → c < Hm.length → Hf[c]? = Hm[c]?)
    (ho : ∀ c, k ≤ c → c < k2 → c = blkOf rv → o' c = some t) : At o' t Hf rv 1 n cs := by
  rcases h with h | ⟨c, tl, rfl, q1, q2, q3⟩
  · exact .inl h
  · have hc := (Loc_some.1 q1).1
    have hl := lt_of_get q2
    exact .inr ⟨c, tl, rfl, ho c hc (by omega) rfl, by rw [hf c hc hl, q2], q3⟩
/-- A further object, from memory that is new. -/
theorem MRep.newObjL {o : Tags} {g : Nat} {H Hm1 Hm2 Hf : CHeap} {b : Nat} {M : Mdl} {L : Lay} (m : MRep o g H b M L) {x : Obj} {rv dv v : CV} {k1 k2 k3 vb : Nat} {tv : Bool} (hv : v = .slice vb 0 (M.objs.length + 1) (M.objs.length + 1) 5 tv)
    (h1 : At (Loc k1) z3 Hm1 rv 1 x.refs.length (ints x.refs)) (h2 : At (Loc k2) z3 Hm2 dv 1 x.data.length (ints x.data)) (hk1 : H.length ≤ k1) (hk2 : k1 ≤ k2) (hk3 : k2 ≤ k3)
    (l1 : Hm1.length ≤ k2) (l2 : Hm2.length ≤ k3) (f1 : ∀ c, k1 ≤ c → c < Hm1.length → Hf[c]? = Hm1[c]?) (f2 : ∀ c, k2 ≤ c → c < Hm2.length → Hf[c]? = Hm2[c]?) (hvb : k3 ≤ vb)
    (cv : Hf[vb]? = some ⟨objCells M.objs L.hv ++ [.i x.nr, .i x.nd, .i x.kd, rv, dv], .rw, 5⟩)
    (hb : Hf[b]? = some ⟨[L.sl, L.gl, L.qv, v], .rw, 0⟩) (hf : ∀ d, d < H.length → o d ≠ some (g, 5, 0) → d ≠ b → Hf[d]? = H[d]?) :
    ∃ o', MRep o' g Hf b { M with objs := M.objs ++ [x] } { L with ov := v, hv := L.hv ++ [(rv, dv)] } ∧ Frm g o H o' Hf := by
  have hvl := lt_of_get cv
  let o' : Tags := fun c => if c = vb then some (g, 5, 0) else if k1 ≤ c ∧ c < k2 ∧ c = blkOf rv then some (g, 6, M.objs.length) else if k2 ≤ c ∧ c < k3 ∧ c = blkOf dv then some (g, 7, M.objs.length) else o c
  have hold : ∀ c, c < H.length → o' c = o c := fun c hc => by
    show (if _ then _ else _) = _
    rw [if_neg (by omega), if_neg (by omega), if_neg (by omega)]
  have hnew : ∀ c t, o' c = some t → H.length ≤ c → t.1 = g ∧ c < Hf.length := fun c t h hc => by
    have h' : (if c = vb then some (g, 5, 0) else if k1 ≤ c ∧ c < k2 ∧ c = blkOf rv then some (g, 6, M.objs.length) else if k2 ≤ c ∧ c < k3 ∧ c = blkOf dv then some (g, 7, M.objs.length) else o c) = some t := h
    split at h'
    · simp only [Option.some.injEq] at h'; rw [← h']; exact ⟨rfl, by omega⟩
    · split at h'
      · simp only [Option.some.injEq] at h'; rw [← h']; exact ⟨rfl, by omega⟩
      · split at h'
        · simp only [Option.some.injEq] at h'; rw [← h']; exact ⟨rfl, by omega⟩
        · have := m.dom c t h'; omega
  refine ⟨o', m.born (x := x) (h := (rv, dv)) (v := v) (o' := o') (fun c t h => ?_) (fun c k h => by rw [hold c (m.dom c _ h), h]) (fun c k h q1 q2 => ?_) hb ?_ ?_ ?_, ⟨by omega, hold, fun c t h hc => (hnew c t h hc).1, fun c hc hk => ?_⟩⟩
  · by_cases hc : c < H.length
    · omega
    · exact (hnew c t h (by omega)).2
  · refine hf c (m.dom c _ h) (by rw [h]; simpa using q1) ?_
    rintro rfl
    rw [m.top] at h
    simp only [Option.some.injEq, Prod.mk.injEq, true_and] at h
    exact q2 h.symm
  · refine .inr ⟨vb, tv, hv, if_pos rfl, cv, ?_⟩
    have := objCells_len M.objs L.hv m.nhv
    simp only [List.length_append, List.length_cons, List.length_nil, this]; omega
  · refine h1.retag l1 f1 fun c q1 q2 q3 => ?_
    show (if _ then _ else _) = _
    rw [if_neg (by omega), if_pos ⟨q1, q2, q3⟩]
  · refine h2.retag l2 f2 fun c q1 q2 q3 => ?_
    show (if _ then _ else _) = _
    rw [if_neg (by omega), if_neg (by omega), if_pos ⟨q1, q2, q3⟩]
  · refine hf c hc (hk _) ?_
    rintro rfl
    exact hk _ m.top
theorem MRep.newObj {o : Tags} {g : Nat} {H Hm1 Hm2 Hf : CHeap} {b : Nat} {M : Mdl} {L : Lay} (m : MRep o g H b M L) {x : Obj} {rv dv v : CV} {k1 k2 k3 vb : Nat} {tv : Bool} (hv : v = .slice vb 0 (M.objs.length + 1) (M.objs.length + 1) 5 tv)
    (h1 : At (Loc k1) z3 Hm1 rv 1 x.refs.length (ints x.refs)) (h2 : At (Loc k2) z3 Hm2 dv 1 x.data.length (ints x.data)) (hk1 : H.length ≤ k1) (hk2 : k1 ≤ k2) (hk3 : k2 ≤ k3)
    (l1 : Hm1.length ≤ k2) (l2 : Hm2.length ≤ k3) (f1 : ∀ c, k1 ≤ c → c < Hm1.length → Hf[c]? = Hm1[c]?) (f2 : ∀ c, k2 ≤ c → c < Hm2.length → Hf[c]? = Hm2[c]?) (hvb : k3 ≤ vb)
    (cv : Hf[vb]? = some ⟨objCells M.objs L.hv ++ [.i x.nr, .i x.nd, .i x.kd, rv, dv], .rw, 5⟩)
    (hb : Hf[b]? = some ⟨[L.sl, L.gl, L.qv, v], .rw, 0⟩) (hf : ∀ d, d < H.length → o d ≠ some (g, 5, 0) → d ≠ b → Hf[d]? = H[d]?) :
    ∃ o' L', MRep o' g Hf b { M with objs := M.objs ++ [x] } L' ∧ Frm g o H o' Hf := by
  obtain ⟨o', h⟩ := m.newObjL hv h1 h2 hk1 hk2 hk3 l1 l2 f1 f2 hvb cv hb hf
  exact ⟨o', _, h⟩
/-- A model without slots and objects, from new memory. -/
theorem MRep.fresh {o : Tags} {g : Nat} {H Hm1 Hm2 : CHeap} {gs qs : List Int} {gv qv : CV} {k1 k2 k3 : Nat} (hd : ∀ c t, o c = some t → c < H.length) (hg : ∀ c k, o c ≠ some (g, k))
    (hgl : gs.length = 16) (h1 : At (Loc k1) z3 Hm1 gv 1 gs.length (ints gs)) (h2 : At (Loc k2) z3 Hm2 qv 1 qs.length (ints qs)) (hk1 : H.length ≤ k1) (hk2 : k1 ≤ k2) (hk3 : k2 ≤ k3) (l1 : Hm1.length ≤ k2) (l2 : Hm2.length = k3) (gr1 : Gr H Hm1) (gr2 : Gr Hm1 Hm2) :
    ∃ o' L', MRep o' g (Hm2 ++ [⟨[.nilSlice, gv, qv, .nilSlice], .rw, 0⟩]) k3 ⟨[], gs, qs, []⟩ L' ∧ Frm g o H o' (Hm2 ++ [⟨[.nilSlice, gv, qv, .nilSlice], .rw, 0⟩]) := by
  let o' : Tags := fun c => if c = k3 then some (g, 0, 0) else if k1 ≤ c ∧ c < k2 ∧ c = blkOf gv then some (g, 3, 0) else if k2 ≤ c ∧ c < k3 ∧ c = blkOf qv then some (g, 4, 0) else o c
  have hold : ∀ c, c < H.length → o' c = o c := fun c hc => by
    show (if _ then _ else _) = _
    rw [if_neg (by omega), if_neg (by omega), if_neg (by omega)]
  have hnew : ∀ c t, o' c = some t → H.length ≤ c → t.1 = g ∧ c < k3 + 1 := fun c t h hc => by
    have h' : (if c = k3 then some (g, 0, 0) else if k1 ≤ c ∧ c < k2 ∧ c = blkOf gv then some (g, 3, 0) else if k2 ≤ c ∧ c < k3 ∧ c = blkOf qv then some (g, 4, 0) else o c) = some t := h
    split at h'
    · simp only [Option.some.injEq] at h'; rw [← h']; exact ⟨rfl, by omega⟩
    · split at h'
      · simp only [Option.some.injEq] at h'; rw [← h']; exact ⟨rfl, by omega⟩
      · split at h'
        · simp only [Option.some.injEq] at h'; rw [← h']; exact ⟨rfl, by omega⟩
        · have := hd c t h'; omega
  have hlen : (Hm2 ++ [(⟨[.nilSlice, gv, qv, .nilSlice], .rw, 0⟩ : Blk)]).length = k3 + 1 := by simp [l2]
  have grA : Gr Hm2 (Hm2 ++ [(⟨[.nilSlice, gv, qv, .nilSlice], .rw, 0⟩ : Blk)]) := .app _ _
  refine ⟨o', ⟨.nilSlice, gv, qv, .nilSlice, [], []⟩, ?_, ⟨by have := gr1.len; have := gr2.len; omega, hold, fun c t h hc => (hnew c t h hc).1, fun c hc _ => ((gr1.trans gr2).trans grA).low c hc⟩⟩
  exact
    { dom := fun c t h => by
        by_cases hc : c < H.length
        · have := gr1.len; have := gr2.len; omega
        · have := (hnew c t h (by omega)).2; omega
      top := if_pos rfl
      cells := look_last l2.symm
      nsv := rfl
      slots := .inl ⟨rfl, rfl, .inl rfl⟩
      slot := fun i s h => by simp at h
      globals := by
        rw [hgl] at h1
        refine h1.retag l1 (fun c _ hc => by rw [grA.low c (by have := gr2.len; omega), gr2.low c hc]) fun c q1 q2 q3 => ?_
        show (if _ then _ else _) = _
        rw [if_neg (by omega), if_pos ⟨q1, q2, q3⟩]
      queue := by
        refine h2.retag (Nat.le_of_eq l2) (fun c _ hc => grA.low c hc) fun c q1 q2 q3 => ?_
        show (if _ then _ else _) = _
        rw [if_neg (by omega), if_neg (by omega), if_pos ⟨q1, q2, q3⟩]
      nhv := rfl
      objs := .inl ⟨rfl, rfl, .inl rfl⟩
      refs := fun i s h => by simp at h }
end Go.Cs
namespace Go.Cs.Try
open Go Go.Cs
set_option maxRecDepth 100000
set_option maxHeartbeats 8000000
section
variable {g g' : Nat} {b : Nat} {M : Mdl} {L : Lay}

/-- slices.Clone of a list of the model's. -/
theorem cloneOf {o : Tags} {H : CHeap} {t : Tag} {v : CV} {l : List Int} (hd : ∀ c t, o c = some t → c < H.length) (h : At o t H v 1 l.length (Go.Cs.ints l)) (hm : l.length ≤ 1000) :
    ∃ v' J, run P 53 [v] H = some (v', H ++ J) ∧ At (Loc H.length) z3 (H ++ J) v' 1 l.length (Go.Cs.ints l) :=
  f53 (H := H) (At.slicey h) (fun J => h.elems (fun c hc => List.getElem?_append_left (hd _ _ hc))) (ints_len _) (ints_leaf _) (Nat.le_trans hm (by decide))

theorem l33_2 {o0 : Tags} {H0 : CHeap} (w : M.Ok) (hgg : g ≠ g') {xb : Nat}
    {E0 : Env} {H : CHeap} (h3 : E0 3 = .ptr xb 0) (h26 : E0 26 = L.sl) (h27 : E0 27 = .i M.slots.length) (h28 : E0 28 = .i 0)
    {o1 : Tags} {L1 : Lay} (m : MRep o1 g H b M L) (m1 : MRep o1 g' H xb ⟨[], M.globals, M.queue, []⟩ L1) (fr1 : Frm g' o0 H0 o1 H)
    {r : Option (CX × Env × CHeap)} (hr : den P (.loop C33_2) E0 H = r) :
    ∃ E' H' o2 L2, r = some (.exit 0, E', H') ∧ MRep o2 g H' b M L ∧ MRep o2 g' H' xb ⟨M.slots, M.globals, M.queue, []⟩ L2 ∧ Frm g' o0 H0 o2 H' ∧ ∀ t, t ∉ wr C33_2 → E' t = E0 t := by
  have hns := w.ns
  obtain ⟨x', E', H', e, -, ⟨rfl, o2, L2, g1, g2, g3⟩, fr⟩ := loop_at (p := P) (c := C33_2) (E0 := E0) (H0 := H) (fun k E H => ∃ j : Nat, E 28 = .i j ∧ j ≤ M.slots.length ∧ k = M.slots.length - j ∧ ∃ o2 L2, MRep o2 g H b M L ∧ MRep o2 g' H xb ⟨M.slots.take j, M.globals, M.queue, []⟩ L2 ∧ Frm g' o0 H0 o2 H)
    (fun x' E' H' => x' = .exit 0 ∧ ∃ o2 L2, MRep o2 g H' b M L ∧ MRep o2 g' H' xb ⟨M.slots, M.globals, M.queue, []⟩ L2 ∧ Frm g' o0 H0 o2 H') (by
      rintro k E H hE ⟨j, e28, hj, rfl, o2, L2, m, m2, fr⟩
      have e3 := (hE 3 (by decide +kernel)).trans h3
      have e26 := (hE 26 (by decide +kernel)).trans h26
      have e27 := (hE 27 (by decide +kernel)).trans h27
      by_cases c : j < M.slots.length
      · have hs := getD_of (l := M.slots) (i := j) [] c
        generalize hsv : M.slots.getD j [] = s at *
        have h16 := (w.s16 _ (List.mem_of_getElem? hs)).1
        obtain ⟨v, hv, ha⟩ := m.slot _ _ hs
        have ha' : At o2 (g, 2, j) H v 1 s.length (Go.Cs.ints s) := by rw [h16]; exact ha
        obtain ⟨tl, p1, p2, p3, p4⟩ := m.slots.pos (by omega)
        rw [p1] at e26
        obtain ⟨uv, J, d53, hu⟩ := cloneOf m.dom ha' (by omega)
        rw [h16] at hu
        obtain ⟨tu, q1, q2, q3, -⟩ := hu.pos (by omega)
        have qb := (Loc_some.1 q2).1
        have hlu := lt_of_get q3
        have hlf : leaf uv = true := hu.leaf
        have hc2 := m2.cells
        have hl2 := lt_of_get hc2
        have mJ := (m2.app J).app [(⟨[uv], .rw, 1⟩ : Blk)]
        have hnt : (M.slots.take j).length = j := by simp; omega
        have ms := mJ.slots
        rw [hnt] at ms
        obtain ⟨H', a1, a2, a3, a4⟩ := ms.append (k := 1) (new := [uv]) (by omega) (Nat.le_trans (by omega : j + 1 ≤ 5) (by decide)) (by simp [hlf]) rfl
        have hlen : (H ++ J ++ [(⟨[uv], .rw, 1⟩ : Blk)] : CHeap).length = H.length + J.length + 1 := by simp; omega
        have hHJ : (H ++ J).length = H.length + J.length := by simp
        rw [hlen] at a1 a2 a3 a4
        have hfree : ∀ c, H.length ≤ c → o2 c ≠ some (g', 1, 0) := fun c hc h => by have := m2.dom c _ h; omega
        have gJ : Gr H (H ++ J) := .app _ _
        have gJ2 : Gr (H ++ J) (H ++ J ++ [(⟨[uv], .rw, 1⟩ : Blk)]) := .app _ _
        have k0 : H'[blkOf uv]? = some ⟨Go.Cs.ints s, .rw, 1⟩ := by rw [a4 _ (by omega) (hfree _ qb), gJ2.get q3]
        have kb : H'[xb]? = some ⟨[L2.sl, L2.gl, L2.qv, L2.ov], .rw, 0⟩ := by rw [a4 _ (by omega) (by rw [m2.top]; simp), gJ2.get (gJ.get hc2)]
        have hcJ := gJ.get hc2
        have hxb' := lt_of_get kb
        obtain ⟨o', L', m', fr'⟩ := m2.newSlot (Hf := H'.set xb ⟨[.slice (H.length + J.length + 1) 0 (j + 1) (j + 1) 1 true, L2.gl, L2.qv, L2.ov], .rw, 0⟩) (s := s) (u := uv) (v := .slice (H.length + J.length + 1) 0 (j + 1) (j + 1) 1 true) (ub := blkOf uv) (vb := H.length + J.length + 1) (tu := tu) (tv := true)
          q1 (by rw [hnt]) (by omega) (by omega) (by omega) h16 (by rw [List.getElem?_set_ne (by omega), k0]) (by rw [List.getElem?_set_ne (by omega), a3]) (by rw [List.length_set]; omega) (by rw [List.getElem?_set_self hxb'])
          (fun d hd h h' => by rw [List.getElem?_set_ne (Ne.symm h'), a4 d (by omega) h, gJ2.low d (by omega), gJ.low d hd])
        have hnew : ({ (⟨M.slots.take j, M.globals, M.queue, []⟩ : Mdl) with slots := M.slots.take j ++ [s] } : Mdl) = ⟨M.slots.take (j + 1), M.globals, M.queue, []⟩ := by rw [take_snoc hs]
        have m'' : MRep o' g' (H'.set xb ⟨[.slice (H.length + J.length + 1) 0 (j + 1) (j + 1) 1 true, L2.gl, L2.qv, L2.ov], .rw, 0⟩) xb ⟨M.slots.take (j + 1), M.globals, M.queue, []⟩ L' := by rw [← hnew]; exact m'
        have mo := m.other fr' hgg m'.dom
        have hw := wrapS j (by omega)
        apply step_go (k' := M.slots.length - (j + 1))
        · simp (disch := first | omega | rfl | assumption | (simp only [csN, Nat.reduceAdd, Nat.reduceMul, Nat.reduceLeDiff, Nat.reduceEqDiff] <;> omega) | (simp only [csF]; done) | (simp only [csF] <;> assumption) | fail) only [Nat.reduceEqDiff, Nat.reduceAdd, Nat.reduceMul, Nat.reduceSub, Nat.reduceLeDiff, Int.reduceAdd, Int.reduceSub, Int.reduceMul, Int.reduceLT, Int.reduceLE, Int.reduceGT, Int.reduceGE, Int.reduceEq, Int.reduceBEq, Int.reduceBNe, Int.reduceNeg, Int.reduceToNat, csAll, ↓reduceIte, C33_2, e3, e26, e27, e28, p3, hv, d53, hc2, hcJ, a1, kb, hw]
          rfl
        · omega
        · exact ⟨j + 1, by simp [upd_apply], by omega, rfl, o', L', mo, m'', fr.trans fr'⟩
      · apply step_out (x := .exit 0)
        · simp (disch := first | omega | rfl | assumption | (simp only [csN, Nat.reduceAdd, Nat.reduceMul, Nat.reduceLeDiff, Nat.reduceEqDiff] <;> omega) | (simp only [csF]; done) | (simp only [csF] <;> assumption) | fail) only [Nat.reduceEqDiff, Nat.reduceAdd, Nat.reduceMul, Nat.reduceSub, Nat.reduceLeDiff, Int.reduceAdd, Int.reduceSub, Int.reduceMul, Int.reduceLT, Int.reduceLE, Int.reduceGT, Int.reduceGE, Int.reduceEq, Int.reduceBEq, Int.reduceBNe, Int.reduceNeg, Int.reduceToNat, csAll, ↓reduceIte, C33_2, e27, e28]
          rfl
        · simp
        · rw [take_all (by omega)] at m2
          exact ⟨rfl, o2, L2, m, m2, fr⟩) M.slots.length ⟨0, h28, by omega, rfl, o1, L1, m, by simpa using m1, fr1⟩
  exact ⟨E', H', o2, L2, hr.symm.trans e, g1, g2, g3, fr⟩

theorem l33_1 {o0 : Tags} {H0 : CHeap} (w : M.Ok) (hf : M.objs.length ≤ 1000) (hgg : g ≠ g') {xb : Nat}
    {E0 : Env} {H : CHeap} (h3 : E0 3 = .ptr xb 0) (h47 : E0 47 = L.ov) (h48 : E0 48 = .i M.objs.length) (h49 : E0 49 = .i 0)
    {o1 : Tags} {L1 : Lay} (m : MRep o1 g H b M L) (m1 : MRep o1 g' H xb ⟨M.slots, M.globals, M.queue, []⟩ L1) (fr1 : Frm g' o0 H0 o1 H)
    {r : Option (CX × Env × CHeap)} (hr : den P (.loop C33_1) E0 H = r) :
    ∃ E' H' o2 L2, r = some (.exit 2, E', H') ∧ MRep o2 g H' b M L ∧ MRep o2 g' H' xb M L2 ∧ Frm g' o0 H0 o2 H' ∧ ∀ t, t ∉ wr C33_1 → E' t = E0 t := by
  obtain ⟨x', E', H', e, -, ⟨rfl, o2, L2, g1, g2, g3⟩, fr⟩ := loop_at (p := P) (c := C33_1) (E0 := E0) (H0 := H) (fun k E H => ∃ j : Nat, E 49 = .i j ∧ j ≤ M.objs.length ∧ k = M.objs.length - j ∧ ∃ o2 L2, MRep o2 g H b M L ∧ MRep o2 g' H xb ⟨M.slots, M.globals, M.queue, M.objs.take j⟩ L2 ∧ Frm g' o0 H0 o2 H)
    (fun x' E' H' => x' = .exit 2 ∧ ∃ o2 L2, MRep o2 g H' b M L ∧ MRep o2 g' H' xb M L2 ∧ Frm g' o0 H0 o2 H') (by
      rintro k E H hE ⟨j, e49, hj, rfl, o2, L2, m, m2, fr⟩
      have e3 := (hE 3 (by decide +kernel)).trans h3
      have e47 := (hE 47 (by decide +kernel)).trans h47
      have e48 := (hE 48 (by decide +kernel)).trans h48
      by_cases c : j < M.objs.length
      · have hh : M.has ((j + 1 : Nat) : Int) := by unfold Mdl.has; omega
        obtain ⟨hh2, rest, r0, r1, r2, r3, r4, r5, r6⟩ := m.objAt _ hh
        have ej : (((j + 1 : Nat) : Int) - 1).toNat = j := by omega
        rw [ej] at r0 r2 r3 r5 r6
        have hobj := Mdl.obj_at (M := M) c
        have hob := w.obj hh
        generalize hx : M.obj ((j + 1 : Nat) : Int) = x at *
        obtain ⟨tl, p1, p2, p3, p4⟩ := m.objs.pos (by omega)
        rw [p1] at e47
        have hnr := hob.nr
        have hnd := hob.nd
        have lf1 := r5.leaf
        have lf2 := r6.leaf
        have hall : ([.i x.nr, .i x.nd, .i x.kd, hh2.1, hh2.2] : List CV).all leaf = true := by simp only [List.all_cons, List.all_nil, lf1, lf2, leaf_int, Bool.and_true]
        have hov : blkOf L.ov < H.length := m.dom _ _ r4
        -- the object's copy
        have mo1 := m.app [(⟨[.i x.nr, .i x.nd, .i x.kd, hh2.1, hh2.2], .rw, 0⟩ : Blk)]
        have g1 : Gr H (H ++ [(⟨[.i x.nr, .i x.nd, .i x.kd, hh2.1, hh2.2], .rw, 0⟩ : Blk)]) := .app _ _
        obtain ⟨rv, J1, d1, a1⟩ := cloneOf (H := H ++ [(⟨[.i x.nr, .i x.nd, .i x.kd, hh2.1, hh2.2], .rw, 0⟩ : Blk)]) mo1.dom (r5.gr g1) (by omega)
        have g2 : Gr (H ++ [(⟨[.i x.nr, .i x.nd, .i x.kd, hh2.1, hh2.2], .rw, 0⟩ : Blk)]) (H ++ [(⟨[.i x.nr, .i x.nd, .i x.kd, hh2.1, hh2.2], .rw, 0⟩ : Blk)] ++ J1) := .app _ _
        have bx1 : (H ++ [(⟨[.i x.nr, .i x.nd, .i x.kd, hh2.1, hh2.2], .rw, 0⟩ : Blk)])[H.length]? = some ⟨[.i x.nr, .i x.nd, .i x.kd, hh2.1, hh2.2], .rw, 0⟩ := look_last rfl
        have bx2 := g2.get bx1
        generalize hA : H ++ [(⟨[.i x.nr, .i x.nd, .i x.kd, hh2.1, hh2.2], .rw, 0⟩ : Blk)] = HA at *
        have hAl : HA.length = H.length + 1 := by rw [← hA]; simp
        have mo2 := mo1.gr g2
        obtain ⟨dv, J2, d2, a2⟩ := cloneOf (H := HA ++ J1) mo2.dom ((r6.gr g1).gr g2) (by omega)
        have g3 : Gr (HA ++ J1) (HA ++ J1 ++ J2) := .app _ _
        generalize hB : HA ++ J1 = HB at *
        generalize hC : HB ++ J2 = HC at *
        have bx3 := g3.get bx2
        have hc2 := m2.cells
        have hl2 := lt_of_get hc2
        have hcA := g1.get hc2
        have hcB := g2.get hcA
        have hcC := g3.get hcB
        have lfr := a1.leaf
        have lfd := a2.leaf
        have g4 : Gr HC (HC ++ [(⟨[.i x.nr, .i x.nd, .i x.kd, rv, dv], .rw, 5⟩ : Blk)]) := .app _ _
        have hm2 := (((m2.gr g1).gr g2).gr g3).gr g4
        have hnt : (M.objs.take j).length = j := by simp; omega
        have ms := hm2.objs
        rw [show (⟨M.slots, M.globals, M.queue, M.objs.take j⟩ : Mdl).objs.length = j from hnt] at ms
        obtain ⟨H', b1, b2, b3, b4⟩ := ms.append (k := 1) (new := [.i x.nr, .i x.nd, .i x.kd, rv, dv]) (by omega) (Nat.le_trans (by omega : j + 1 ≤ 2000) (by decide)) (by simp only [List.all_cons, List.all_nil, lfr, lfd, leaf_int, Bool.and_true]) rfl
        have hlen : (HC ++ [(⟨[.i x.nr, .i x.nd, .i x.kd, rv, dv], .rw, 5⟩ : Blk)]).length = HC.length + 1 := by simp
        rw [hlen] at b1 b2 b3 b4
        have l1 := g1.len
        have l2 := g2.len
        have l3 := g3.len
        have kb : H'[xb]? = some ⟨[L2.sl, L2.gl, L2.qv, L2.ov], .rw, 0⟩ := by rw [b4 _ (by omega) (by rw [m2.top]; simp), g4.get hcC]
        have hxb' := lt_of_get kb
        have hfree : ∀ c, H.length ≤ c → o2 c ≠ some (g', 5, 0) := fun c hc h => by have := m2.dom c _ h; omega
        have hg3 : HC.length = HC.length := rfl
        have low : ∀ c, H.length ≤ c → c < HC.length → (H'.set xb ⟨[L2.sl, L2.gl, L2.qv, .slice (HC.length + 1) 0 (j + 1) (j + 1) 5 true], .rw, 0⟩)[c]? = HC[c]? := fun c hc hc2 => by
          rw [List.getElem?_set_ne (by omega), b4 c (by omega) (hfree c hc), g4.low c hc2]
        obtain ⟨o', L', m', fr'⟩ := m2.newObj (Hm1 := HB) (Hm2 := HC) (Hf := H'.set xb ⟨[L2.sl, L2.gl, L2.qv, .slice (HC.length + 1) 0 (j + 1) (j + 1) 5 true], .rw, 0⟩) (x := x) (rv := rv) (dv := dv) (v := .slice (HC.length + 1) 0 (j + 1) (j + 1) 5 true) (k1 := HA.length) (k2 := HB.length) (k3 := HC.length) (vb := HC.length + 1) (tv := true)
          (by rw [show (⟨M.slots, M.globals, M.queue, M.objs.take j⟩ : Mdl).objs.length = j from hnt]) a1 a2 (by omega) l2 l3 (Nat.le_refl _) (Nat.le_refl _)
          (fun c q1 q2 => by rw [low c (by omega) (by omega), g3.low c q2]) (fun c q1 q2 => low c (by omega) q2) (by omega)
          (by rw [List.getElem?_set_ne (by omega), b3]) (by rw [List.getElem?_set_self hxb'])
          (fun d hd h h' => by rw [List.getElem?_set_ne (Ne.symm h'), b4 d (by omega) h, g4.low d (by omega), g3.low d (by omega), g2.low d (by omega), g1.low d hd])
        have m'' : MRep o' g' (H'.set xb ⟨[L2.sl, L2.gl, L2.qv, .slice (HC.length + 1) 0 (j + 1) (j + 1) 5 true], .rw, 0⟩) xb ⟨M.slots, M.globals, M.queue, M.objs.take (j + 1)⟩ L' := by rw [take_snoc hobj]; exact m'
        have mo := m.other fr' hgg m'.dom
        have hw := wrapS j (by omega)
        apply step_go (k' := M.objs.length - (j + 1))
        · simp (disch := first | omega | rfl | assumption | (simp only [csN, Nat.reduceAdd, Nat.reduceMul, Nat.reduceLeDiff, Nat.reduceEqDiff] <;> omega) | (simp only [csF]; done) | (simp only [csF] <;> assumption) | fail) only [Nat.reduceEqDiff, Nat.reduceAdd, Nat.reduceMul, Nat.reduceSub, Nat.reduceLeDiff, Int.reduceAdd, Int.reduceSub, Int.reduceMul, Int.reduceLT, Int.reduceLE, Int.reduceGT, Int.reduceGE, Int.reduceEq, Int.reduceBEq, Int.reduceBNe, Int.reduceNeg, Int.reduceToNat, csAll, ↓reduceIte, C33_1, e3, e47, e48, e49, r1, r2, r3, hA, d1, hB, d2, hC, bx1, bx2, bx3, hcA, hcB, hcC, hc2, b1, kb, hw]
          rfl
        · omega
        · exact ⟨j + 1, by simp [upd_apply], by omega, rfl, o', L', mo, m'', fr.trans fr'⟩
      · apply step_out (x := .exit 2)
        · simp (disch := first | omega | rfl | assumption | (simp only [csN, Nat.reduceAdd, Nat.reduceMul, Nat.reduceLeDiff, Nat.reduceEqDiff] <;> omega) | (simp only [csF]; done) | (simp only [csF] <;> assumption) | fail) only [Nat.reduceEqDiff, Nat.reduceAdd, Nat.reduceMul, Nat.reduceSub, Nat.reduceLeDiff, Int.reduceAdd, Int.reduceSub, Int.reduceMul, Int.reduceLT, Int.reduceLE, Int.reduceGT, Int.reduceGE, Int.reduceEq, Int.reduceBEq, Int.reduceBNe, Int.reduceNeg, Int.reduceToNat, csAll, ↓reduceIte, C33_1, e48, e49]
          rfl
        · simp
        · rw [take_all (by omega)] at m2
          exact ⟨rfl, o2, L2, m, m2, fr⟩) M.objs.length ⟨0, h49, by omega, rfl, o1, L1, m, by simpa using m1, fr1⟩
  exact ⟨E', H', o2, L2, hr.symm.trans e, g1, g2, g3, fr⟩

/-- Clone. -/
theorem f33 {o : Tags} {H : CHeap} (m : MRep o g H b M L) (w : M.Ok) (hf : M.objs.length ≤ 1000) (hgg : g ≠ g') (hg : ∀ c k, o c ≠ some (g', k)) :
    ∃ xb H' o' L', run P 33 [.ptr b 0] H = some (.ptr xb 0, H') ∧ MRep o' g H' b M L ∧ MRep o' g' H' xb M L' ∧ Frm g' o H o' H' := by
  have h41 := f41 m w
  have hc := m.cells
  have hgl := w.g16.1
  have mg : At o (g, 3, 0) H L.gl 1 M.globals.length (Go.Cs.ints M.globals) := by rw [hgl]; exact m.globals
  obtain ⟨gv, J1, d1, a1⟩ := cloneOf m.dom mg (by omega)
  have g1 : Gr H (H ++ J1) := .app _ _
  have m1 := m.gr g1
  obtain ⟨qv, J2, d2, a2⟩ := cloneOf m1.dom m1.queue (by have := w.q64.1; omega)
  have g2 : Gr (H ++ J1) (H ++ J1 ++ J2) := .app _ _
  have lf1 := a1.leaf
  have lf2 := a2.leaf
  obtain ⟨o2, L2, m2, fr2⟩ := MRep.fresh (g := g') (H := H) (k1 := H.length) m.dom hg hgl a1 a2 (Nat.le_refl _) g1.len g2.len (Nat.le_refl _) rfl g1 g2
  have mo := m.other fr2 hgg m2.dom
  have hc1 := g1.get hc
  have hcc := mo.cells
  have hsl := mo.slots.len
  have hol := mo.objs.len
  generalize hA : H ++ J1 = HA at *
  generalize hB : HA ++ J2 = HB at *
  generalize hC : HB ++ [(⟨[.nilSlice, gv, qv, .nilSlice], .rw, 0⟩ : Blk)] = HC at *
  have key : ∃ H' o' L', run P 33 [.ptr b 0] H = some (.ptr HB.length 0, H') ∧ MRep o' g H' b M L ∧ MRep o' g' H' HB.length M L' ∧ Frm g' o H o' H' := by
    rw [run_lv c33]
    simp (disch := first | omega | rfl | assumption | (simp only [csN, Nat.reduceAdd, Nat.reduceMul, Nat.reduceLeDiff, Nat.reduceEqDiff] <;> omega) | (simp only [csF]; done) | (simp only [csF] <;> assumption) | fail) only [Nat.reduceEqDiff, Nat.reduceAdd, Nat.reduceMul, Nat.reduceSub, Nat.reduceLeDiff, Int.reduceAdd, Int.reduceSub, Int.reduceMul, Int.reduceLT, Int.reduceLE, Int.reduceGT, Int.reduceGE, Int.reduceEq, Int.reduceBEq, Int.reduceBNe, Int.reduceNeg, Int.reduceToNat, csAll, ↓reduceIte, C33, entry_1, h41, hc, hc1, d1, hA, d2, hB, hC, hcc, hsl]
    generalize hr : den P (.loop C33_2) _ _ = r
    obtain ⟨E3, H3, o3, L3, rfl, m3, m3', fr3, k3⟩ := l33_2 w hgg (by simp only [upd_apply, Nat.reduceEqDiff, ↓reduceIte]) (by simp only [upd_apply, Nat.reduceEqDiff, ↓reduceIte]) (by simp only [upd_apply, Nat.reduceEqDiff, ↓reduceIte]) (by simp only [upd_apply, Nat.reduceEqDiff, ↓reduceIte]) mo m2 fr2 hr
    have t0 := k3 0 (by decide +kernel)
    have t3 := k3 3 (by decide +kernel)
    simp only [upd_apply, Nat.reduceEqDiff, ↓reduceIte] at t0 t3
    have hc3 := m3.cells
    simp (disch := first | omega | rfl | assumption | (simp only [csN, Nat.reduceAdd, Nat.reduceMul, Nat.reduceLeDiff, Nat.reduceEqDiff] <;> omega) | (simp only [csF]; done) | (simp only [csF] <;> assumption) | fail) only [Nat.reduceEqDiff, Nat.reduceAdd, Nat.reduceMul, Nat.reduceSub, Nat.reduceLeDiff, Int.reduceAdd, Int.reduceSub, Int.reduceMul, Int.reduceLT, Int.reduceLE, Int.reduceGT, Int.reduceGE, Int.reduceEq, Int.reduceBEq, Int.reduceBNe, Int.reduceNeg, Int.reduceToNat, csAll, ↓reduceIte, t0, hc3, hol]
    generalize hr2 : den P (.loop C33_1) _ _ = r2
    obtain ⟨E4, H4, o4, L4, rfl, m4, m4', fr4, k4⟩ := l33_1 w hf hgg (by simp only [upd_apply, Nat.reduceEqDiff, ↓reduceIte, t3]) (by simp only [upd_apply, Nat.reduceEqDiff, ↓reduceIte]) (by simp only [upd_apply, Nat.reduceEqDiff, ↓reduceIte]) (by simp only [upd_apply, Nat.reduceEqDiff, ↓reduceIte]) m3 m3' fr3 hr2
    have u3 := k4 3 (by decide +kernel)
    simp only [upd_apply, Nat.reduceEqDiff, ↓reduceIte, t3] at u3
    simp (disch := first | omega | rfl | assumption | (simp only [csN, Nat.reduceAdd, Nat.reduceMul, Nat.reduceLeDiff, Nat.reduceEqDiff] <;> omega) | (simp only [csF]; done) | (simp only [csF] <;> assumption) | fail) only [Nat.reduceEqDiff, Nat.reduceAdd, Nat.reduceMul, Nat.reduceSub, Nat.reduceLeDiff, Int.reduceAdd, Int.reduceSub, Int.reduceMul, Int.reduceLT, Int.reduceLE, Int.reduceGT, Int.reduceGE, Int.reduceEq, Int.reduceBEq, Int.reduceBNe, Int.reduceNeg, Int.reduceToNat, csAll, ↓reduceIte, u3]
    exact ⟨H4, o4, L4, rfl, m4, m4', fr4⟩
  obtain ⟨H', o', L', q1, q2, q3, q4⟩ := key
  exact ⟨_, H', o', L', q1, q2, q3, q4⟩
end
end Go.Cs.Try

/- ModelClones: the walk. -/
namespace Go.Cs.Try
open Go Go.Cs
set_option maxRecDepth 100000
set_option maxHeartbeats 8000000
section
end
end Go.Cs.Try

/- Models that nobody made. -/
namespace Go.Cs
open Go
def NoneM (v : CV) (H : CHeap) : Prop := v = .nilPtr ∨ ∃ zb, v = .ptr zb 0 ∧ H[zb]? = some ⟨[.nilSlice, .nilSlice, .nilSlice, .nilSlice], .rw, 0⟩
theorem NoneM.gr {v : CV} {H H' : CHeap} (h : NoneM v H) (g : Gr H H') : NoneM v H' := by
  rcases h with h | ⟨zb, h1, h2⟩
  · exact .inl h
  · exact .inr ⟨zb, h1, g.get h2⟩
theorem NoneM.app {v : CV} {H : CHeap} (h : NoneM v H) (J : CHeap) : NoneM v (H ++ J) := h.gr (.app _ _)
theorem ex_gr {r : Option (CV × CHeap)} {v : CV} {H H' : CHeap} (h : r = some (v, H')) (g : Gr H H') : ∃ H', r = some (v, H') ∧ Gr H H' := ⟨_, h, g⟩
end Go.Cs
namespace Go.Cs.Try
open Go Go.Cs
set_option maxRecDepth 100000
set_option maxHeartbeats 8000000
section
variable {v : CV} {H : CHeap}
theorem f41n (h : NoneM v H) : run P 41 [v] H = some (.bool false, H) := by
  rw [run_lv c41]
  rcases h with rfl | ⟨zb, rfl, h⟩
  · simp (disch := first | omega | rfl | assumption | (simp only [csN, Nat.reduceAdd, Nat.reduceMul, Nat.reduceLeDiff, Nat.reduceEqDiff] <;> omega) | (simp only [csF]; done) | (simp only [csF] <;> assumption) | fail) only [Nat.reduceEqDiff, Nat.reduceAdd, Nat.reduceMul, Nat.reduceSub, Nat.reduceLeDiff, Int.reduceAdd, Int.reduceSub, Int.reduceMul, Int.reduceLT, Int.reduceLE, Int.reduceGT, Int.reduceGE, Int.reduceEq, Int.reduceBEq, Int.reduceBNe, Int.reduceNeg, Int.reduceToNat, csAll, ↓reduceIte, C41, entry_1]
  · simp (disch := first | omega | rfl | assumption | (simp only [csN, Nat.reduceAdd, Nat.reduceMul, Nat.reduceLeDiff, Nat.reduceEqDiff] <;> omega) | (simp only [csF]; done) | (simp only [csF] <;> assumption) | fail) only [Nat.reduceEqDiff, Nat.reduceAdd, Nat.reduceMul, Nat.reduceSub, Nat.reduceLeDiff, Int.reduceAdd, Int.reduceSub, Int.reduceMul, Int.reduceLT, Int.reduceLE, Int.reduceGT, Int.reduceGE, Int.reduceEq, Int.reduceBEq, Int.reduceBNe, Int.reduceNeg, Int.reduceToNat, csAll, ↓reduceIte, C41, entry_1, h]
theorem f25n (h : NoneM v H) {a b : CV} : run P 25 [v, a, b] H = some (.tup [.i 0, .i 5], H) := by
  have h1 := f41n h
  rw [run_lv c25]; simp (disch := first | omega | rfl | assumption | (simp only [csN, Nat.reduceAdd, Nat.reduceMul, Nat.reduceLeDiff, Nat.reduceEqDiff] <;> omega) | (simp only [csF]; done) | (simp only [csF] <;> assumption) | fail) only [Nat.reduceEqDiff, Nat.reduceAdd, Nat.reduceMul, Nat.reduceSub, Nat.reduceLeDiff, Int.reduceAdd, Int.reduceSub, Int.reduceMul, Int.reduceLT, Int.reduceLE, Int.reduceGT, Int.reduceGE, Int.reduceEq, Int.reduceBEq, Int.reduceBNe, Int.reduceNeg, Int.reduceToNat, csAll, ↓reduceIte, C25, entry_3, h1]
theorem f37n (h : NoneM v H) {a : CV} : run P 37 [v, a] H = some (.tup [.i 0, .i 5], H) := by
  have h1 := f41n h
  rw [run_lv c37]; simp (disch := first | omega | rfl | assumption | (simp only [csN, Nat.reduceAdd, Nat.reduceMul, Nat.reduceLeDiff, Nat.reduceEqDiff] <;> omega) | (simp only [csF]; done) | (simp only [csF] <;> assumption) | fail) only [Nat.reduceEqDiff, Nat.reduceAdd, Nat.reduceMul, Nat.reduceSub, Nat.reduceLeDiff, Int.reduceAdd, Int.reduceSub, Int.reduceMul, Int.reduceLT, Int.reduceLE, Int.reduceGT, Int.reduceGE, Int.reduceEq, Int.reduceBEq, Int.reduceBNe, Int.reduceNeg, Int.reduceToNat, csAll, ↓reduceIte, C37, entry_2, h1]
theorem f14n (h : NoneM v H) : run P 14 [v] H = some (.nilSlice, H) := by
  have h1 := f41n h
  rw [run_lv c14]; simp (disch := first | omega | rfl | assumption | (simp only [csN, Nat.reduceAdd, Nat.reduceMul, Nat.reduceLeDiff, Nat.reduceEqDiff] <;> omega) | (simp only [csF]; done) | (simp only [csF] <;> assumption) | fail) only [Nat.reduceEqDiff, Nat.reduceAdd, Nat.reduceMul, Nat.reduceSub, Nat.reduceLeDiff, Int.reduceAdd, Int.reduceSub, Int.reduceMul, Int.reduceLT, Int.reduceLE, Int.reduceGT, Int.reduceGE, Int.reduceEq, Int.reduceBEq, Int.reduceBNe, Int.reduceNeg, Int.reduceToNat, csAll, ↓reduceIte, C14, entry_1, h1]
theorem f23n (h : NoneM v H) : run P 23 [v] H = some (.i 0, H) := by
  have h1 := f41n h
  rw [run_lv c23]; simp (disch := first | omega | rfl | assumption | (simp only [csN, Nat.reduceAdd, Nat.reduceMul, Nat.reduceLeDiff, Nat.reduceEqDiff] <;> omega) | (simp only [csF]; done) | (simp only [csF] <;> assumption) | fail) only [Nat.reduceEqDiff, Nat.reduceAdd, Nat.reduceMul, Nat.reduceSub, Nat.reduceLeDiff, Int.reduceAdd, Int.reduceSub, Int.reduceMul, Int.reduceLT, Int.reduceLE, Int.reduceGT, Int.reduceGE, Int.reduceEq, Int.reduceBEq, Int.reduceBNe, Int.reduceNeg, Int.reduceToNat, csAll, ↓reduceIte, C23, entry_1, h1]
theorem f22n (h : NoneM v H) : run P 22 [v] H = some (.i 0, H) := by
  have h1 := f41n h
  rw [run_lv c22]; simp (disch := first | omega | rfl | assumption | (simp only [csN, Nat.reduceAdd, Nat.reduceMul, Nat.reduceLeDiff, Nat.reduceEqDiff] <;> omega) | (simp only [csF]; done) | (simp only [csF] <;> assumption) | fail) only [Nat.reduceEqDiff, Nat.reduceAdd, Nat.reduceMul, Nat.reduceSub, Nat.reduceLeDiff, Int.reduceAdd, Int.reduceSub, Int.reduceMul, Int.reduceLT, Int.reduceLE, Int.reduceGT, Int.reduceGE, Int.reduceEq, Int.reduceBEq, Int.reduceBNe, Int.reduceNeg, Int.reduceToNat, csAll, ↓reduceIte, C22, entry_1, h1]
theorem f39n (h : NoneM v H) : run P 39 [v] H = some (.nilSlice, H) := by
  have h1 := f41n h
  rw [run_lv c39]; simp (disch := first | omega | rfl | assumption | (simp only [csN, Nat.reduceAdd, Nat.reduceMul, Nat.reduceLeDiff, Nat.reduceEqDiff] <;> omega) | (simp only [csF]; done) | (simp only [csF] <;> assumption) | fail) only [Nat.reduceEqDiff, Nat.reduceAdd, Nat.reduceMul, Nat.reduceSub, Nat.reduceLeDiff, Int.reduceAdd, Int.reduceSub, Int.reduceMul, Int.reduceLT, Int.reduceLE, Int.reduceGT, Int.reduceGE, Int.reduceEq, Int.reduceBEq, Int.reduceBNe, Int.reduceNeg, Int.reduceToNat, csAll, ↓reduceIte, C39, entry_1, h1]
theorem f43n (h : NoneM v H) {a : CV} : run P 43 [v, a] H = some (.tup [.nilPtr, .i 5], H) := by
  have h1 := f41n h
  rw [run_lv c43]; simp (disch := first | omega | rfl | assumption | (simp only [csN, Nat.reduceAdd, Nat.reduceMul, Nat.reduceLeDiff, Nat.reduceEqDiff] <;> omega) | (simp only [csF]; done) | (simp only [csF] <;> assumption) | fail) only [Nat.reduceEqDiff, Nat.reduceAdd, Nat.reduceMul, Nat.reduceSub, Nat.reduceLeDiff, Int.reduceAdd, Int.reduceSub, Int.reduceMul, Int.reduceLT, Int.reduceLE, Int.reduceGT, Int.reduceGE, Int.reduceEq, Int.reduceBEq, Int.reduceBNe, Int.reduceNeg, Int.reduceToNat, csAll, ↓reduceIte, C43, entry_2, h1]
theorem f15n (h : NoneM v H) {a : CV} : run P 15 [v, a] H = some (.tup [.agg [.i 0, .i 0, .i 0], .i 5], H ++ [⟨[.i 0, .i 0, .i 0], .rw, 0⟩]) := by
  have h1 := f43n (a := a) (h.app [⟨[.i 0, .i 0, .i 0], .rw, 0⟩])
  rw [run_lv c15]; simp (disch := first | omega | rfl | assumption | (simp only [csN, Nat.reduceAdd, Nat.reduceMul, Nat.reduceLeDiff, Nat.reduceEqDiff] <;> omega) | (simp only [csF]; done) | (simp only [csF] <;> assumption) | fail) only [Nat.reduceEqDiff, Nat.reduceAdd, Nat.reduceMul, Nat.reduceSub, Nat.reduceLeDiff, Int.reduceAdd, Int.reduceSub, Int.reduceMul, Int.reduceLT, Int.reduceLE, Int.reduceGT, Int.reduceGE, Int.reduceEq, Int.reduceBEq, Int.reduceBNe, Int.reduceNeg, Int.reduceToNat, csAll, ↓reduceIte, C15, entry_2, h1]
theorem f16n (h : NoneM v H) {a b : CV} : run P 16 [v, a, b] H = some (.tup [.i 0, .i 5], H) := by
  have h1 := f43n (a := a) h
  rw [run_lv c16]; simp (disch := first | omega | rfl | assumption | (simp only [csN, Nat.reduceAdd, Nat.reduceMul, Nat.reduceLeDiff, Nat.reduceEqDiff] <;> omega) | (simp only [csF]; done) | (simp only [csF] <;> assumption) | fail) only [Nat.reduceEqDiff, Nat.reduceAdd, Nat.reduceMul, Nat.reduceSub, Nat.reduceLeDiff, Int.reduceAdd, Int.reduceSub, Int.reduceMul, Int.reduceLT, Int.reduceLE, Int.reduceGT, Int.reduceGE, Int.reduceEq, Int.reduceBEq, Int.reduceBNe, Int.reduceNeg, Int.reduceToNat, csAll, ↓reduceIte, C16, entry_3, h1]
theorem f47n (h : NoneM v H) {a b : CV} : run P 47 [v, a, b] H = some (.tup [.i 0, .i 5], H) := by
  have h1 := f43n (a := a) h
  rw [run_lv c47]; simp (disch := first | omega | rfl | assumption | (simp only [csN, Nat.reduceAdd, Nat.reduceMul, Nat.reduceLeDiff, Nat.reduceEqDiff] <;> omega) | (simp only [csF]; done) | (simp only [csF] <;> assumption) | fail) only [Nat.reduceEqDiff, Nat.reduceAdd, Nat.reduceMul, Nat.reduceSub, Nat.reduceLeDiff, Int.reduceAdd, Int.reduceSub, Int.reduceMul, Int.reduceLT, Int.reduceLE, Int.reduceGT, Int.reduceGE, Int.reduceEq, Int.reduceBEq, Int.reduceBNe, Int.reduceNeg, Int.reduceToNat, csAll, ↓reduceIte, C47, entry_3, h1]
abbrev zE : List CV := [.nilSlice, .i 0, .i 0, .i 0, .i 0, .i 0, .i 0]
theorem f54n : run P 54 [.nilPtr] H = some (.bool false, H) := by
  rw [run_lv c54]; simp (disch := first | omega | rfl | assumption | (simp only [csN, Nat.reduceAdd, Nat.reduceMul, Nat.reduceLeDiff, Nat.reduceEqDiff] <;> omega) | (simp only [csF]; done) | (simp only [csF] <;> assumption) | fail) only [Nat.reduceEqDiff, Nat.reduceAdd, Nat.reduceMul, Nat.reduceSub, Nat.reduceLeDiff, Int.reduceAdd, Int.reduceSub, Int.reduceMul, Int.reduceLT, Int.reduceLE, Int.reduceGT, Int.reduceGE, Int.reduceEq, Int.reduceBEq, Int.reduceBNe, Int.reduceNeg, Int.reduceToNat, csAll, ↓reduceIte, C54, entry_1]
theorem f79n {a : CV} : run P 79 [.nilPtr, a] H = some (.i 5, H) := by
  rw [run_lv c79]; simp (disch := first | omega | rfl | assumption | (simp only [csN, Nat.reduceAdd, Nat.reduceMul, Nat.reduceLeDiff, Nat.reduceEqDiff] <;> omega) | (simp only [csF]; done) | (simp only [csF] <;> assumption) | fail) only [Nat.reduceEqDiff, Nat.reduceAdd, Nat.reduceMul, Nat.reduceSub, Nat.reduceLeDiff, Int.reduceAdd, Int.reduceSub, Int.reduceMul, Int.reduceLT, Int.reduceLE, Int.reduceGT, Int.reduceGE, Int.reduceEq, Int.reduceBEq, Int.reduceBNe, Int.reduceNeg, Int.reduceToNat, csAll, ↓reduceIte, C79, entry_2, f54n]
theorem f67n {a : CV} : run P 67 [.nilPtr, a] H = some (.tup [.agg [.i 0, .i 0, .i 0], .i 5], H ++ [⟨[.i 0, .i 0, .i 0], .rw, 0⟩]) := by
  rw [run_lv c67]; simp (disch := first | omega | rfl | assumption | (simp only [csN, Nat.reduceAdd, Nat.reduceMul, Nat.reduceLeDiff, Nat.reduceEqDiff] <;> omega) | (simp only [csF]; done) | (simp only [csF] <;> assumption) | fail) only [Nat.reduceEqDiff, Nat.reduceAdd, Nat.reduceMul, Nat.reduceSub, Nat.reduceLeDiff, Int.reduceAdd, Int.reduceSub, Int.reduceMul, Int.reduceLT, Int.reduceLE, Int.reduceGT, Int.reduceGE, Int.reduceEq, Int.reduceBEq, Int.reduceBNe, Int.reduceNeg, Int.reduceToNat, csAll, ↓reduceIte, C67, entry_2, f79n]
theorem f68n {a b : CV} : run P 68 [.nilPtr, a, b] H = some (.tup [.i 0, .i 5], H) := by
  rw [run_lv c68]; simp (disch := first | omega | rfl | assumption | (simp only [csN, Nat.reduceAdd, Nat.reduceMul, Nat.reduceLeDiff, Nat.reduceEqDiff] <;> omega) | (simp only [csF]; done) | (simp only [csF] <;> assumption) | fail) only [Nat.reduceEqDiff, Nat.reduceAdd, Nat.reduceMul, Nat.reduceSub, Nat.reduceLeDiff, Int.reduceAdd, Int.reduceSub, Int.reduceMul, Int.reduceLT, Int.reduceLE, Int.reduceGT, Int.reduceGE, Int.reduceEq, Int.reduceBEq, Int.reduceBNe, Int.reduceNeg, Int.reduceToNat, csAll, ↓reduceIte, C68, entry_3, f79n]
theorem f69n {a b : CV} : run P 69 [.nilPtr, a, b] H = some (.tup [.i 0, .i 5], H) := by
  rw [run_lv c69]; simp (disch := first | omega | rfl | assumption | (simp only [csN, Nat.reduceAdd, Nat.reduceMul, Nat.reduceLeDiff, Nat.reduceEqDiff] <;> omega) | (simp only [csF]; done) | (simp only [csF] <;> assumption) | fail) only [Nat.reduceEqDiff, Nat.reduceAdd, Nat.reduceMul, Nat.reduceSub, Nat.reduceLeDiff, Int.reduceAdd, Int.reduceSub, Int.reduceMul, Int.reduceLT, Int.reduceLE, Int.reduceGT, Int.reduceGE, Int.reduceEq, Int.reduceBEq, Int.reduceBNe, Int.reduceNeg, Int.reduceToNat, csAll, ↓reduceIte, C69, entry_3, f79n]
end
end Go.Cs.Try

/- SameEffect; what is played and looked at where nobody made a model; ModelNone. -/
namespace Go.Cs.Try
open Go Go.Cs
set_option maxRecDepth 100000
set_option maxHeartbeats 8000000
section
theorem l56_1 {o o' : Tags} {t t' : Tag} {H : CHeap} {tv tv' : CV} {l : List Int} (a : At o t H tv 1 l.length (Go.Cs.ints l)) (a' : At o' t' H tv' 1 l.length (Go.Cs.ints l)) (hm : l.length ≤ 1000) {b1 b2 : Nat} {r1 r2 : List CV}
    (k1 : H[b1]? = some ⟨tv :: r1, .rw, 0⟩) (k2 : H[b2]? = some ⟨tv' :: r2, .rw, 0⟩)
    {E0 : Env} (h2 : E0 2 = .ptr b1 0) (h3 : E0 3 = .ptr b2 0) (h5 : E0 5 = .i 0) {r : Option (CX × Env × CHeap)} (hr : den P (.loop C56_1) E0 H = r) : ∃ E', r = some (.exit 0, E', H) := by
  have hlen := a.len
  have hlen' := a'.len
  obtain ⟨x', E', H', e, -, ⟨rfl, rfl⟩, fr⟩ := loop_at (p := P) (c := C56_1) (E0 := E0) (H0 := H) (fun k E H' => H' = H ∧ ∃ j : Nat, E 5 = .i j ∧ j ≤ l.length ∧ k = l.length - j) (fun x' E' H' => x' = .exit 0 ∧ H' = H) (by
      rintro k E H' hE ⟨rfl, j, e5, hj, rfl⟩
      have e2 := (hE 2 (by decide +kernel)).trans h2
      have e3 := (hE 3 (by decide +kernel)).trans h3
      by_cases c : j < l.length
      · have hg : (Go.Cs.ints l)[j]? = some (.i (l.getD j 0)) := by rw [ints_get, getD_of 0 c]; rfl
        obtain ⟨tl, p1, -, p3, -⟩ := a.pos (by omega)
        obtain ⟨tl', q1, -, q3, -⟩ := a'.pos (by omega)
        rw [p1] at k1
        rw [q1] at k2
        have hw := wrapS j (by omega)
        apply step_go (k' := l.length - (j + 1))
        · simp (disch := first | omega | rfl | assumption | (simp only [csN, Nat.reduceAdd, Nat.reduceMul, Nat.reduceLeDiff, Nat.reduceEqDiff] <;> omega) | (simp only [csF]; done) | (simp only [csF] <;> assumption) | fail) only [Nat.reduceEqDiff, Nat.reduceAdd, Nat.reduceMul, Nat.reduceSub, Nat.reduceLeDiff, Int.reduceAdd, Int.reduceSub, Int.reduceMul, Int.reduceLT, Int.reduceLE, Int.reduceGT, Int.reduceGE, Int.reduceEq, Int.reduceBEq, Int.reduceBNe, Int.reduceNeg, Int.reduceToNat, csAll, ↓reduceIte, C56_1, e2, e3, e5, k1, k2, p3, q3, hg, hw]
          rfl
        · omega
        · exact ⟨rfl, j + 1, by simp [upd_apply], by omega, rfl⟩
      · apply step_out (x := .exit 0)
        · simp (disch := first | omega | rfl | assumption | (simp only [csN, Nat.reduceAdd, Nat.reduceMul, Nat.reduceLeDiff, Nat.reduceEqDiff] <;> omega) | (simp only [csF]; done) | (simp only [csF] <;> assumption) | fail) only [Nat.reduceEqDiff, Nat.reduceAdd, Nat.reduceMul, Nat.reduceSub, Nat.reduceLeDiff, Int.reduceAdd, Int.reduceSub, Int.reduceMul, Int.reduceLT, Int.reduceLE, Int.reduceGT, Int.reduceGE, Int.reduceEq, Int.reduceBEq, Int.reduceBNe, Int.reduceNeg, Int.reduceToNat, csAll, ↓reduceIte, C56_1, e2, e5, k1, hlen]
          rfl
        · simp
        · exact ⟨rfl, rfl⟩) l.length ⟨rfl, 0, h5, by omega, rfl⟩
  exact ⟨E', hr.symm.trans e⟩
/-- SameEffect of equal effects. -/
theorem f56 {o o' : Tags} {t t' : Tag} {H : CHeap} {tv tv' : CV} {l : List Int} (a : At o t H tv 1 l.length (Go.Cs.ints l)) (a' : At o' t' H tv' 1 l.length (Go.Cs.ints l)) (hm : l.length ≤ 1000) {x1 x2 x3 x4 x5 x6 : Int} :
    ∃ H', run P 56 [.agg [tv, .i x1, .i x2, .i x3, .i x4, .i x5, .i x6], .agg [tv', .i x1, .i x2, .i x3, .i x4, .i x5, .i x6]] H = some (.bool true, H') ∧ Gr H H' := by
  have g1 : Gr H (H ++ [(⟨[tv, .i x1, .i x2, .i x3, .i x4, .i x5, .i x6], .rw, 0⟩ : Blk)]) := .app _ _
  have g2 : Gr (H ++ [(⟨[tv, .i x1, .i x2, .i x3, .i x4, .i x5, .i x6], .rw, 0⟩ : Blk)]) (H ++ [(⟨[tv, .i x1, .i x2, .i x3, .i x4, .i x5, .i x6], .rw, 0⟩ : Blk)] ++ [(⟨[tv', .i x1, .i x2, .i x3, .i x4, .i x5, .i x6], .rw, 0⟩ : Blk)]) := .app _ _
  have k1 : (H ++ [(⟨[tv, .i x1, .i x2, .i x3, .i x4, .i x5, .i x6], .rw, 0⟩ : Blk)] ++ [(⟨[tv', .i x1, .i x2, .i x3, .i x4, .i x5, .i x6], .rw, 0⟩ : Blk)])[H.length]? = some ⟨[tv, .i x1, .i x2, .i x3, .i x4, .i x5, .i x6], .rw, 0⟩ := g2.get (look_last rfl)
  have k2 : (H ++ [(⟨[tv, .i x1, .i x2, .i x3, .i x4, .i x5, .i x6], .rw, 0⟩ : Blk)] ++ [(⟨[tv', .i x1, .i x2, .i x3, .i x4, .i x5, .i x6], .rw, 0⟩ : Blk)])[H.length + 1]? = some ⟨[tv', .i x1, .i x2, .i x3, .i x4, .i x5, .i x6], .rw, 0⟩ := look_last (by simp)
  have hlen := a.len
  have hlen' := a'.len
  have lf := a.leaf
  have lf' := a'.leaf
  have a2 := (a.gr g1).gr g2
  have a2' := (a'.gr g1).gr g2
  apply ex_gr _ (g1.trans g2)
  rw [run_lv c56]
  simp (disch := first | omega | rfl | assumption | (simp only [csN, Nat.reduceAdd, Nat.reduceMul, Nat.reduceLeDiff, Nat.reduceEqDiff] <;> omega) | (simp only [csF]; done) | (simp only [csF] <;> assumption) | fail) only [Nat.reduceEqDiff, Nat.reduceAdd, Nat.reduceMul, Nat.reduceSub, Nat.reduceLeDiff, Int.reduceAdd, Int.reduceSub, Int.reduceMul, Int.reduceLT, Int.reduceLE, Int.reduceGT, Int.reduceGE, Int.reduceEq, Int.reduceBEq, Int.reduceBNe, Int.reduceNeg, Int.reduceToNat, csAll, ↓reduceIte, C56, entry_2, k1, k2, hlen, hlen']
  generalize hr : den P (.loop C56_1) _ _ = r
  obtain ⟨E', rfl⟩ := l56_1 a2 a2' hm k1 k2 (by simp only [upd_apply, Nat.reduceEqDiff, ↓reduceIte]) (by simp only [upd_apply, Nat.reduceEqDiff, ↓reduceIte]) (by simp only [upd_apply, Nat.reduceEqDiff, ↓reduceIte]) hr
  simp (disch := first | omega | rfl | assumption | (simp only [csN, Nat.reduceAdd, Nat.reduceMul, Nat.reduceLeDiff, Nat.reduceEqDiff] <;> omega) | (simp only [csF]; done) | (simp only [csF] <;> assumption) | fail) only [Nat.reduceEqDiff, Nat.reduceAdd, Nat.reduceMul, Nat.reduceSub, Nat.reduceLeDiff, Int.reduceAdd, Int.reduceSub, Int.reduceMul, Int.reduceLT, Int.reduceLE, Int.reduceGT, Int.reduceGE, Int.reduceEq, Int.reduceBEq, Int.reduceBNe, Int.reduceNeg, Int.reduceToNat, csAll, ↓reduceIte]

variable {v : CV} {H : CHeap}
theorem l38_2n (h : NoneM v H) {w : Int} {sb : Nat} (hs : H[sb]? = some ⟨[.i 0, .i 0, .i 0], .rw, 0⟩) {E0 : Env} (h0 : E0 0 = v) (h1 : E0 1 = .nilPtr) (h2 : E0 2 = .i w) (h9 : E0 9 = .ptr sb 0) (h11 : E0 11 = .i (-1))
    {r : Option (CX × Env × CHeap)} (hr : den P (.loop C38_2) E0 H = r) : ∃ E', r = some (.exit 0, E', H) ∧ ∀ t, t ∉ wr C38_2 → E' t = E0 t := by
  obtain ⟨x', E', H', e, -, ⟨rfl, rfl⟩, fr⟩ := loop_at (p := P) (c := C38_2) (E0 := E0) (H0 := H) (fun k E H' => H' = H ∧ ∃ j : Int, E 11 = .i j ∧ -1 ≤ j ∧ j ≤ 1 ∧ k = (1 - j).toNat) (fun x' E' H' => x' = .exit 0 ∧ H' = H) (by
      rintro k E H' hE ⟨rfl, j, e11, hj1, hj2, rfl⟩
      have e0 := (hE 0 (by decide +kernel)).trans h0
      have e1 := (hE 1 (by decide +kernel)).trans h1
      have e2 := (hE 2 (by decide +kernel)).trans h2
      have e9 := (hE 9 (by decide +kernel)).trans h9
      have d := f16n h (a := .i w) (b := .i j)
      have hw : IntKind.i64.wrap (j + 1) = j + 1 := wrap_id (by omega)
      by_cases c : j ≤ 0
      · apply step_go (k' := (1 - (j + 1)).toNat)
        · simp (disch := first | omega | rfl | assumption | (simp only [csN, Nat.reduceAdd, Nat.reduceMul, Nat.reduceLeDiff, Nat.reduceEqDiff] <;> omega) | (simp only [csF]; done) | (simp only [csF] <;> assumption) | fail) only [Nat.reduceEqDiff, Nat.reduceAdd, Nat.reduceMul, Nat.reduceSub, Nat.reduceLeDiff, Int.reduceAdd, Int.reduceSub, Int.reduceMul, Int.reduceLT, Int.reduceLE, Int.reduceGT, Int.reduceGE, Int.reduceEq, Int.reduceBEq, Int.reduceBNe, Int.reduceNeg, Int.reduceToNat, csAll, ↓reduceIte, C38_2, e0, e1, e2, e9, e11, hs, d, f68n, hw]
          rfl
        · omega
        · exact ⟨rfl, j + 1, by simp [upd_apply], by omega, by omega, rfl⟩
      · apply step_out (x := .exit 0)
        · simp (disch := first | omega | rfl | assumption | (simp only [csN, Nat.reduceAdd, Nat.reduceMul, Nat.reduceLeDiff, Nat.reduceEqDiff] <;> omega) | (simp only [csF]; done) | (simp only [csF] <;> assumption) | fail) only [Nat.reduceEqDiff, Nat.reduceAdd, Nat.reduceMul, Nat.reduceSub, Nat.reduceLeDiff, Int.reduceAdd, Int.reduceSub, Int.reduceMul, Int.reduceLT, Int.reduceLE, Int.reduceGT, Int.reduceGE, Int.reduceEq, Int.reduceBEq, Int.reduceBNe, Int.reduceNeg, Int.reduceToNat, csAll, ↓reduceIte, C38_2, e9, e11, hs]
          rfl
        · simp
        · exact ⟨rfl, rfl⟩) 2 ⟨rfl, -1, h11, by omega, by omega, by decide⟩
  exact ⟨E', hr.symm.trans e, fr⟩
theorem l38_1n (h : NoneM v H) {w : Int} {sb : Nat} (hs : H[sb]? = some ⟨[.i 0, .i 0, .i 0], .rw, 0⟩) {E0 : Env} (h0 : E0 0 = v) (h1 : E0 1 = .nilPtr) (h2 : E0 2 = .i w) (h9 : E0 9 = .ptr sb 0) (h11 : E0 16 = .i (-1))
    {r : Option (CX × Env × CHeap)} (hr : den P (.loop C38_1) E0 H = r) : ∃ E', r = some (.exit 2, E', H) := by
  obtain ⟨x', E', H', e, -, ⟨rfl, rfl⟩, fr⟩ := loop_at (p := P) (c := C38_1) (E0 := E0) (H0 := H) (fun k E H' => H' = H ∧ ∃ j : Int, E 16 = .i j ∧ -1 ≤ j ∧ j ≤ 1 ∧ k = (1 - j).toNat) (fun x' E' H' => x' = .exit 2 ∧ H' = H) (by
      rintro k E H' hE ⟨rfl, j, e11, hj1, hj2, rfl⟩
      have e0 := (hE 0 (by decide +kernel)).trans h0
      have e1 := (hE 1 (by decide +kernel)).trans h1
      have e2 := (hE 2 (by decide +kernel)).trans h2
      have e9 := (hE 9 (by decide +kernel)).trans h9
      have d := f47n h (a := .i w) (b := .i j)
      have hw : IntKind.i64.wrap (j + 1) = j + 1 := wrap_id (by omega)
      by_cases c : j ≤ 0
      · apply step_go (k' := (1 - (j + 1)).toNat)
        · simp (disch := first | omega | rfl | assumption | (simp only [csN, Nat.reduceAdd, Nat.reduceMul, Nat.reduceLeDiff, Nat.reduceEqDiff] <;> omega) | (simp only [csF]; done) | (simp only [csF] <;> assumption) | fail) only [Nat.reduceEqDiff, Nat.reduceAdd, Nat.reduceMul, Nat.reduceSub, Nat.reduceLeDiff, Int.reduceAdd, Int.reduceSub, Int.reduceMul, Int.reduceLT, Int.reduceLE, Int.reduceGT, Int.reduceGE, Int.reduceEq, Int.reduceBEq, Int.reduceBNe, Int.reduceNeg, Int.reduceToNat, csAll, ↓reduceIte, C38_1, e0, e1, e2, e9, e11, hs, d, f69n, hw]
          rfl
        · omega
        · exact ⟨rfl, j + 1, by simp [upd_apply], by omega, by omega, rfl⟩
      · apply step_out (x := .exit 2)
        · simp (disch := first | omega | rfl | assumption | (simp only [csN, Nat.reduceAdd, Nat.reduceMul, Nat.reduceLeDiff, Nat.reduceEqDiff] <;> omega) | (simp only [csF]; done) | (simp only [csF] <;> assumption) | fail) only [Nat.reduceEqDiff, Nat.reduceAdd, Nat.reduceMul, Nat.reduceSub, Nat.reduceLeDiff, Int.reduceAdd, Int.reduceSub, Int.reduceMul, Int.reduceLT, Int.reduceLE, Int.reduceGT, Int.reduceGE, Int.reduceEq, Int.reduceBEq, Int.reduceBNe, Int.reduceNeg, Int.reduceToNat, csAll, ↓reduceIte, C38_1, e9, e11, hs]
          rfl
        · simp
        · exact ⟨rfl, rfl⟩) 2 ⟨rfl, -1, h11, by omega, by omega, by decide⟩
  exact ⟨E', hr.symm.trans e⟩
theorem vEqs_ok {g t : Bool} {n : Nat} {xs ys : List CV} {H : CHeap} (h : xs.length = n) (he : eqCells xs ys = some t) : vEqs g n (.agg xs) (.agg ys) H = some (.bool (if g then !t else t), H) := by
  unfold vEqs; simp only [h, if_true, he, Option.map_some]
theorem eqCells_same {zs : List Int} : eqCells (Go.Cs.ints zs) (Go.Cs.ints zs) = some true := by
  induction zs with
  | nil => rfl
  | cons a l ih => simp only [Go.Cs.ints_cons, eqCells, if_true, ih, Option.map_some, beq_self_eq_true, Bool.true_and]
theorem eqs3 {a b c : Int} {H : CHeap} : vEqs true 3 (.agg [.i a, .i b, .i c]) (.agg [.i a, .i b, .i c]) H = some (.bool false, H) :=
  vEqs_ok rfl (eqCells_same (zs := [a, b, c]))
theorem f38n (h : NoneM v H) (w : Int) : ∃ H', run P 38 [v, .nilPtr, .i w] H = some (.bool true, H') ∧ Gr H H' := by
  have d := f15n h (a := .i w)
  have g : Gr H (H ++ [(⟨[.i 0, .i 0, .i 0], .rw, 0⟩ : Blk)] ++ [(⟨[.i 0, .i 0, .i 0], .rw, 0⟩ : Blk)] ++ [(⟨[.i 0, .i 0, .i 0], .rw, 0⟩ : Blk)] ++ [(⟨[.i 0, .i 0, .i 0], .rw, 0⟩ : Blk)]) := (((Gr.app _ _).app' _).app' _).app' _
  apply ex_gr _ g
  rw [run_lv c38]
  simp (disch := first | omega | rfl | assumption | (simp only [csN, Nat.reduceAdd, Nat.reduceMul, Nat.reduceLeDiff, Nat.reduceEqDiff] <;> omega) | (simp only [csF]; done) | (simp only [csF] <;> assumption) | fail) only [Nat.reduceEqDiff, Nat.reduceAdd, Nat.reduceMul, Nat.reduceSub, Nat.reduceLeDiff, Int.reduceAdd, Int.reduceSub, Int.reduceMul, Int.reduceLT, Int.reduceLE, Int.reduceGT, Int.reduceGE, Int.reduceEq, Int.reduceBEq, Int.reduceBNe, Int.reduceNeg, Int.reduceToNat, csAll, ↓reduceIte, C38, entry_3, d, f67n, eqs3]
  generalize hr : den P (.loop C38_2) _ _ = r
  obtain ⟨E1, rfl, k1⟩ := l38_2n (w := w) (sb := H.length + 3) (h.gr g) (look_last (by simp)) (by simp only [upd_apply, Nat.reduceEqDiff, ↓reduceIte]) (by simp only [upd_apply, Nat.reduceEqDiff, ↓reduceIte]) (by simp only [upd_apply, Nat.reduceEqDiff, ↓reduceIte]) (by simp only [upd_apply, Nat.reduceEqDiff, ↓reduceIte]) (by simp only [upd_apply, Nat.reduceEqDiff, ↓reduceIte]) hr
  have k0 := k1 0 (by decide +kernel)
  have k1' := k1 1 (by decide +kernel)
  have k2 := k1 2 (by decide +kernel)
  have k9 := k1 9 (by decide +kernel)
  simp only [upd_apply, Nat.reduceEqDiff, ↓reduceIte] at k0 k1' k2 k9
  simp (disch := first | omega | rfl | assumption | (simp only [csN, Nat.reduceAdd, Nat.reduceMul, Nat.reduceLeDiff, Nat.reduceEqDiff] <;> omega) | (simp only [csF]; done) | (simp only [csF] <;> assumption) | fail) only [Nat.reduceEqDiff, Nat.reduceAdd, Nat.reduceMul, Nat.reduceSub, Nat.reduceLeDiff, Int.reduceAdd, Int.reduceSub, Int.reduceMul, Int.reduceLT, Int.reduceLE, Int.reduceGT, Int.reduceGE, Int.reduceEq, Int.reduceBEq, Int.reduceBNe, Int.reduceNeg, Int.reduceToNat, csAll, ↓reduceIte]
  generalize hr2 : den P (.loop C38_1) _ _ = r2
  obtain ⟨E2, rfl⟩ := l38_1n (w := w) (sb := H.length + 3) (h.gr g) (look_last (by simp)) (by simp only [upd_apply, Nat.reduceEqDiff, ↓reduceIte, k0]) (by simp only [upd_apply, Nat.reduceEqDiff, ↓reduceIte, k1']) (by simp only [upd_apply, Nat.reduceEqDiff, ↓reduceIte, k2]) (by simp only [upd_apply, Nat.reduceEqDiff, ↓reduceIte, k9]) (by simp only [upd_apply, Nat.reduceEqDiff, ↓reduceIte]) hr2
  simp (disch := first | omega | rfl | assumption | (simp only [csN, Nat.reduceAdd, Nat.reduceMul, Nat.reduceLeDiff, Nat.reduceEqDiff] <;> omega) | (simp only [csF]; done) | (simp only [csF] <;> assumption) | fail) only [Nat.reduceEqDiff, Nat.reduceAdd, Nat.reduceMul, Nat.reduceSub, Nat.reduceLeDiff, Int.reduceAdd, Int.reduceSub, Int.reduceMul, Int.reduceLT, Int.reduceLE, Int.reduceGT, Int.reduceGE, Int.reduceEq, Int.reduceBEq, Int.reduceBNe, Int.reduceNeg, Int.reduceToNat, csAll, ↓reduceIte]

end
end Go.Cs.Try
