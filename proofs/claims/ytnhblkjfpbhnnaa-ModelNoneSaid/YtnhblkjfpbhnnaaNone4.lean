/- A part of the proof: ModelNone returns true for every input: a model that nobody made returns ErrState and zero values. (R1) Conditions: none. -/
import Derived.Test.YtnhblkjfpbhnnaaNone3
set_option linter.unusedVariables false
set_option linter.unusedSimpArgs false
set_option linter.defProp false
/- Which temporaries a piece of code may change; loops by that. -/
namespace Go.Cs
open Go

/-- The temporaries that a piece of code may write. -/
def wr : CCode → List Nat
  | .region ops => ops.filterMap (·.dst)
  | .dregion ops => ops.filterMap (·.s.dst)
  | .seq a b => wr a ++ wr b
  | .cond _ a b => wr a ++ wr b
  | .block _ c => wr c
  | .loop c => wr c
  | _ => []

theorem put_same {E : Env} {d : Option Nat} {v : CV} {t : Nat} (h : t ∉ d.toList) : E.put d v t = E t := by
  cases d with
  | none => rfl
  | some d =>
    simp only [Option.toList_some, List.mem_singleton] at h
    simp only [Env.put, Env.upd, if_neg h]

theorem filterMap_cons_mem {α : Type} {f : α → Option Nat} {a : α} {l : List α} {t : Nat} (h : t ∉ (a :: l).filterMap f) : t ∉ (f a).toList ∧ t ∉ l.filterMap f := by
  rw [List.filterMap_cons] at h
  cases hf : f a with
  | none => rw [hf] at h; exact ⟨by simp, h⟩
  | some d => rw [hf] at h; simp only [List.mem_cons, not_or] at h; exact ⟨by simpa using h.1, h.2⟩

theorem evOps_wr {F : CallF} {t : Nat} : ∀ {l : List CStmt} {E : Env} {H : CHeap} {r : Env × CHeap}, evOps F l E H = some r → t ∉ l.filterMap (·.dst) → r.1 t = E t
  | [], E, H, r, h, _ => by simp only [evOps, Option.some.injEq] at h; subst h; rfl
  | s :: l, E, H, r, h, ht => by
    obtain ⟨h1, h2⟩ := filterMap_cons_mem ht
    simp only [evOps, Option.bind_eq_some_iff] at h
    obtain ⟨q, hq, hr⟩ := h
    rw [evOps_wr hr h2]
    unfold evStmt at hq
    split at hq
    · rw [Option.map_eq_some_iff] at hq; obtain ⟨p, _, rfl⟩ := hq; exact put_same h1
    · simp only [Option.some.injEq] at hq; subst hq; exact put_same h1

theorem evD_wr {F : CallF} {t : Nat} : ∀ {l : List DStmt} {E : Env} {H : CHeap} {hs : List CHeap} {r : Env × CHeap}, evD F l E H hs = some r → t ∉ l.filterMap (·.s.dst) → r.1 t = E t
  | [], E, H, hs, r, h, _ => by simp only [evD, Option.some.injEq] at h; subst h; rfl
  | d :: l, E, H, hs, r, h, ht => by
    obtain ⟨h1, h2⟩ := filterMap_cons_mem ht
    unfold evD at h
    split at h
    · rw [evD_wr h h2]; exact put_same h1
    · split at h
      · rw [Option.bind_eq_some_iff] at h
        obtain ⟨q, hq, hr⟩ := h
        rw [evD_wr hr h2]; exact put_same h1
      · rw [Option.bind_eq_some_iff] at h
        obtain ⟨m, _, hr⟩ := h
        split at hr
        · rw [evD_wr hr h2]; exact put_same h1
        · cases hr

theorem ev_wr (p : CProg) {t : Nat} : ∀ (n : Nat) {c : CCode} {E : Env} {H : CHeap} {r : CX × Env × CHeap}, ev p n c E H = some r → t ∉ wr c → r.2.1 t = E t
  | 0, _, _, _, _, h, _ => by cases h
  | n + 1, c, E, H, r, h, ht => by
    rw [ev_succ] at h
    cases c with
    | skip => simp only [Option.some.injEq] at h; subst h; rfl
    | region ops => rw [Option.map_eq_some_iff] at h; obtain ⟨q, hq, rfl⟩ := h; exact evOps_wr hq ht
    | dregion ops => rw [Option.map_eq_some_iff] at h; obtain ⟨q, hq, rfl⟩ := h; exact evD_wr hq ht
    | seq a b =>
      simp only [wr, List.mem_append, not_or] at ht
      rw [Option.bind_eq_some_iff] at h
      obtain ⟨q, hq, h⟩ := h
      have h1 := ev_wr p n hq ht.1
      split at h
      · rw [ev_wr p n h ht.2, h1]
      · simp only [Option.some.injEq] at h; subst h; exact h1
    | cond c a b =>
      simp only [wr, List.mem_append, not_or] at ht
      dsimp only at h
      split at h
      · rename_i tt _
        cases tt with
        | true => exact ev_wr p n h ht.1
        | false => exact ev_wr p n h ht.2
      · cases h
    | block id c =>
      simp only [wr] at ht
      rw [Option.map_eq_some_iff] at h
      obtain ⟨q, hq, rfl⟩ := h
      exact ev_wr p n (r := q) hq ht
    | loop c =>
      have ht' := ht
      simp only [wr] at ht
      rw [Option.bind_eq_some_iff] at h
      obtain ⟨q, hq, h⟩ := h
      have h1 := ev_wr p n hq ht
      split at h
      · rw [ev_wr p n h ht', h1]
      · simp only [Option.some.injEq] at h; subst h; exact h1
    | exit id => simp only [Option.some.injEq] at h; subst h; rfl
    | ret => simp only [Option.some.injEq] at h; subst h; rfl

theorem den_wr {p : CProg} {c : CCode} {E E' : Env} {H H' : CHeap} {x : CX} (h : den p c E H = some (x, E', H')) {t : Nat} (ht : t ∉ wr c) : E' t = E t := by
  obtain ⟨n, hn⟩ := den_some.1 h
  exact ev_wr p n hn ht

/-- A loop from some environment on: its invariant by a measure, and what holds when it is left. What it does not write stays as it was. -/
theorem loop_at {p : CProg} {c : CCode} {E0 : Env} {H0 : CHeap} (Inv : Nat → Env → CHeap → Prop) (Post : CX → Env → CHeap → Prop)
    (step : ∀ k E H, (∀ t, t ∉ wr c → E t = E0 t) → Inv k E H → ∃ x E' H', den p c E H = some (x, E', H') ∧ ((x = .normal ∧ ∃ k', k' < k ∧ Inv k' E' H') ∨ (x ≠ .normal ∧ Post x E' H')))
    (k : Nat) (hi : Inv k E0 H0) : ∃ x E' H', den p (.loop c) E0 H0 = some (x, E', H') ∧ x ≠ .normal ∧ Post x E' H' ∧ ∀ t, t ∉ wr c → E' t = E0 t := by
  have key : LoopOk p c (fun k E H => (∀ t, t ∉ wr c → E t = E0 t) ∧ Inv k E H) (fun x E' H' => Post x E' H' ∧ ∀ t, t ∉ wr c → E' t = E0 t) := by
    refine loop_ind ?_
    rintro k E H ⟨hE, hi⟩
    obtain ⟨x, E', H', e, h⟩ := step k E H hE hi
    have hE' : ∀ t, t ∉ wr c → E' t = E0 t := fun t ht => (den_wr e ht).trans (hE t ht)
    refine ⟨x, E', H', e, ?_⟩
    rcases h with ⟨rfl, k', hk, hi'⟩ | ⟨hx, hp⟩
    · exact .inl ⟨rfl, k', hk, hE', hi'⟩
    · exact .inr ⟨hx, hp, hE'⟩
  obtain ⟨x, E', H', e, hx, hp⟩ := key k E0 H0 ⟨fun _ _ => rfl, hi⟩
  exact ⟨x, E', H', e, hx, hp⟩
end Go.Cs

/- Growth of the heap; lists of integers that grow. -/
namespace Go.Cs
open Go
/-- The heap grew: what was there is as it was. -/
structure Gr (H H' : CHeap) : Prop where
  len : H.length ≤ H'.length
  low : ∀ c, c < H.length → H'[c]? = H[c]?
theorem Gr.refl (H : CHeap) : Gr H H := ⟨Nat.le_refl _, fun _ _ => rfl⟩
theorem Gr.trans {H H' H'' : CHeap} (a : Gr H H') (b : Gr H' H'') : Gr H H'' := ⟨Nat.le_trans a.len b.len, fun c h => by rw [b.low c (Nat.lt_of_lt_of_le h a.len), a.low c h]⟩
theorem Gr.app (H J : CHeap) : Gr H (H ++ J) := ⟨by simp, fun _ h => List.getElem?_append_left h⟩
theorem Gr.app' {H H' : CHeap} (a : Gr H H') (J : CHeap) : Gr H (H' ++ J) := a.trans (.app _ _)
theorem Gr.get {H H' : CHeap} (a : Gr H H') {b : Nat} {k : Blk} (h : H[b]? = some k) : H'[b]? = some k := by rw [a.low b (lt_of_get h), h]
theorem MRep.gr {o : Tags} {g : Nat} {H H' : CHeap} {b : Nat} {M : Mdl} {L : Lay} (m : MRep o g H b M L) (a : Gr H H') : MRep o g H' b M L :=
  m.frame (fun c t h => Nat.lt_of_lt_of_le (m.dom c t h) a.len) (fun _ _ h => h) (fun c k h => a.low c (m.dom c _ h))
theorem Gr.frm {o : Tags} {g : Nat} {H H' : CHeap} (a : Gr H H') (hd : ∀ c t, o c = some t → c < H.length) : Frm g o H o H' := .grow hd a.len a.low

/-- A list of integers in memory that is newer than a state of the heap. -/
abbrev IL (k : Nat) (H : CHeap) (v : CV) (l : List Int) : Prop := At (Loc k) z3 H v 1 l.length (ints l)
theorem At.gr {k : Nat} {o : Tags} {t : Tag} {H H' : CHeap} {v : CV} {n : Nat} {cs : List CV} (h : At o t H v k n cs) (a : Gr H H') : At o t H' v k n cs := h.grow fun _ hc _ => a.low _ hc
theorem IL.nil {k : Nat} {H : CHeap} : IL k H .nilSlice [] := .inl ⟨rfl, rfl, .inl rfl⟩
theorem IL.blk {k b n : Nat} {H : CHeap} {l : List Int} (hb : k ≤ b) (h : H[b]? = some ⟨ints l, .rw, 1⟩) (hn : l.length = n) {t : Bool} : IL k H (.slice b 0 n n 1 t) l :=
  .inr ⟨b, t, by rw [hn], Loc_some.2 ⟨hb, rfl⟩, h, by simp [ints_len]⟩
theorem IL.cat {k : Nat} {H : CHeap} {v : CV} {l l2 : List Int} (h : IL k H v l) (hk : k ≤ H.length) (hm : l.length + l2.length ≤ 16777216) :
    ∃ v' H', appendTo H 1 v l2.length (ints l2) = some (v', H') ∧ IL k H' v' (l ++ l2) ∧ k ≤ H'.length ∧ ∀ c, c < k → H'[c]? = H[c]? := by
  by_cases h2 : l2 = []
  · subst h2
    refine ⟨v, H, ?_, by simpa using h, hk, fun _ _ => rfl⟩
    rcases h with ⟨_, _, rfl | ⟨b, f, rfl⟩⟩ | ⟨b, tl, rfl, h1, h2, h3⟩ <;> rfl
  · have hp : 0 < l2.length := List.length_pos_iff.2 h2
    obtain ⟨H', a1, a2, a3, a4⟩ := At.append (k := l2.length) (new := ints l2) h hp hm (ints_leaf _) (by simp [ints_len])
    refine ⟨_, H', a1, .inr ⟨H.length, true, by simp, Loc_some.2 ⟨hk, rfl⟩, by rw [a3, ints_app], by simp [ints_len]⟩, by omega, fun c hc => a4 c (by omega) (fun h => by have := (Loc_some.1 h).1; omega)⟩
theorem IL.push {k : Nat} {H : CHeap} {v : CV} {l : List Int} (h : IL k H v l) (hk : k ≤ H.length) (hm : l.length + 1 ≤ 16777216) (x : Int) :
    ∃ v' H', appendTo (H ++ [⟨[.i x], .rw, 1⟩]) 1 v 1 [.i x] = some (v', H') ∧ IL k H' v' (l ++ [x]) ∧ k ≤ H'.length ∧ ∀ c, c < k → H'[c]? = H[c]? := by
  obtain ⟨v', H', a, b, c, d⟩ := IL.cat (l2 := [x]) (h.gr (.app H [⟨[.i x], .rw, 1⟩])) (by simp; omega) hm
  exact ⟨v', H', a, b, c, fun e he => by rw [d e he, List.getElem?_append_left (by omega)]⟩
theorem Gr.low' {H0 H H' : CHeap} (a : Gr H0 H) (hl : H0.length ≤ H'.length) (h : ∀ c, c < H0.length → H'[c]? = H[c]?) : Gr H0 H' := ⟨hl, fun c hc => by rw [h c hc, a.low c hc]⟩
theorem At.un' {o : Tags} {H : CHeap} {k : Nat} {v : CV} {l : List Int} (h : IL k H v l) (hd : ∀ c t, o c = some t → c < k) : At (Un o) z3 H v 1 l.length (ints l) := At.un h hd
theorem wrapS (n : Nat) (h : n ≤ 1000000000) : IntKind.i64.wrap ((n : Int) + 1) = ((n + 1 : Nat) : Int) := by rw [wrap_id (by omega)]; rfl
theorem take_snoc {α : Type} {l : List α} {i : Nat} {x : α} (h : l[i]? = some x) : l.take (i + 1) = l.take i ++ [x] := by
  have hi := lt_of_get h
  rw [List.take_succ_eq_append_getElem hi, List.getElem?_eq_getElem hi] at *
  simp only [Option.some.injEq] at h
  rw [h]
theorem take_all {α : Type} {l : List α} {i : Nat} (h : l.length ≤ i) : l.take i = l := List.take_of_length_le h
end Go.Cs

/- roots: what places hold. -/
namespace Go.Cs
open Go
theorem flat16 {L : List (List Int)} (h : ∀ s ∈ L, s.length = 16) : L.flatten.length = 16 * L.length := by
  induction L with
  | nil => rfl
  | cons a l ih =>
    rw [List.flatten_cons, List.length_append, ih (fun s hs => h s (List.mem_cons_of_mem _ hs)), h a List.mem_cons_self, List.length_cons]; omega
end Go.Cs
namespace Go.Cs.Try
open Go Go.Cs
set_option maxRecDepth 100000
section
variable {o : Tags} {g : Nat} {b : Nat} {M : Mdl} {L : Lay} {H0 H : CHeap}

theorem Mdl.slot_val {M : Mdl} (w : M.Ok) {i j : Nat} {s : List Int} (hs : M.slots[i]? = some s) (hj : j < 16) : M.slotAt i j = (s.getD j 0, 0) ∧ s[j]? = some (s.getD j 0) := by
  have hi := lt_of_get hs
  have h16 := (w.s16 _ (List.mem_of_getElem? hs)).1
  refine ⟨?_, getD_of 0 (by omega)⟩
  unfold Mdl.slotAt
  rw [if_pos (by omega)]
  simp only [Int.toNat_natCast]
  rw [List.getD_eq_getElem?_getD (l := M.slots), hs]; rfl

theorem l20_2 (m : MRep o g H0 b M L) (w : M.Ok) {i : Nat} {s : List Int} (hs : M.slots[i]? = some s) {pre : List Int} (hp : pre.length ≤ 1000) {E0 : Env} (h0 : E0 0 = .ptr b 0) (h4 : E0 4 = .i i) (h5 : E0 5 = .i 0) (gr : Gr H0 H) (hv : IL H0.length H (E0 3) pre)
    {r : Option (CX × Env × CHeap)} (hr : den P (.loop C20_2) E0 H = r) :
    ∃ E' H', r = some (.exit 2, E', H') ∧ Gr H0 H' ∧ IL H0.length H' (E' 3) (pre ++ s) ∧ ∀ t, t ∉ wr C20_2 → E' t = E0 t := by
  have h16 := (w.s16 _ (List.mem_of_getElem? hs)).1
  obtain ⟨x, E', H', e, -, ⟨rfl, g1, g2⟩, fr⟩ := loop_at (p := P) (c := C20_2) (E0 := E0) (H0 := H) (fun k E H => ∃ j : Nat, E 5 = .i j ∧ j ≤ 16 ∧ k = 16 - j ∧ Gr H0 H ∧ IL H0.length H (E 3) (pre ++ s.take j))
    (fun x E' H' => x = .exit 2 ∧ Gr H0 H' ∧ IL H0.length H' (E' 3) (pre ++ s)) (by
      rintro k E H hE ⟨j, e5, hj, rfl, gr, hv⟩
      have e0 := (hE 0 (by decide +kernel)).trans h0
      have e4 := (hE 4 (by decide +kernel)).trans h4
      by_cases c : j < 16
      · obtain ⟨s1, s2⟩ := Mdl.slot_val w hs c
        have d1 := f25 (m.gr gr) w i j
        rw [s1] at d1
        simp only [pair2] at d1
        obtain ⟨v', H', a1, a2, a3, a4⟩ := hv.push gr.len (by simp; omega) (s.getD j 0)
        have hw := wrapS j (by omega)
        generalize he3 : E 3 = v3 at *
        apply step_go (k' := 16 - (j + 1))
        · simp (disch := first | omega | rfl | assumption | (simp only [csN, Nat.reduceAdd, Nat.reduceMul, Nat.reduceLeDiff, Nat.reduceEqDiff] <;> omega) | (simp only [csF]; done) | (simp only [csF] <;> assumption) | fail) only [Nat.reduceEqDiff, Nat.reduceAdd, Nat.reduceMul, Nat.reduceSub, Nat.reduceLeDiff, Int.reduceAdd, Int.reduceSub, Int.reduceMul, Int.reduceLT, Int.reduceLE, Int.reduceGT, Int.reduceGE, Int.reduceEq, Int.reduceBEq, Int.reduceBNe, Int.reduceNeg, Int.reduceToNat, csAll, ↓reduceIte, C20_2, e0, e4, e5, d1, he3, a1, hw]
          rfl
        · omega
        · refine ⟨j + 1, by simp [upd_apply], by omega, rfl, gr.low' a3 a4, ?_⟩
          rw [take_snoc s2, ← List.append_assoc]
          simpa [upd_apply] using a2
      · apply step_out (x := .exit 2)
        · simp (disch := first | omega | rfl | assumption | (simp only [csN, Nat.reduceAdd, Nat.reduceMul, Nat.reduceLeDiff, Nat.reduceEqDiff] <;> omega) | (simp only [csF]; done) | (simp only [csF] <;> assumption) | fail) only [Nat.reduceEqDiff, Nat.reduceAdd, Nat.reduceMul, Nat.reduceSub, Nat.reduceLeDiff, Int.reduceAdd, Int.reduceSub, Int.reduceMul, Int.reduceLT, Int.reduceLE, Int.reduceGT, Int.reduceGE, Int.reduceEq, Int.reduceBEq, Int.reduceBNe, Int.reduceNeg, Int.reduceToNat, csAll, ↓reduceIte, C20_2, e5]
          rfl
        · simp
        · rw [take_all (by omega)] at hv
          exact ⟨rfl, gr, by simpa [upd_apply] using hv⟩) 16 ⟨0, h5, by omega, rfl, gr, by simpa using hv⟩
  exact ⟨E', H', hr.symm.trans e, g1, g2, fr⟩

theorem l20_1 (m : MRep o g H0 b M L) (w : M.Ok) {pre : List Int} (hp : pre.length ≤ 1000) {E0 : Env} (h0 : E0 0 = .ptr b 0) (h5 : E0 8 = .i 0) (gr : Gr H0 H) (hv : IL H0.length H (E0 3) pre)
    {r : Option (CX × Env × CHeap)} (hr : den P (.loop C20_1) E0 H = r) :
    ∃ E' H', r = some (.exit 4, E', H') ∧ Gr H0 H' ∧ IL H0.length H' (E' 3) (pre ++ M.globals) ∧ ∀ t, t ∉ wr C20_1 → E' t = E0 t := by
  have h16 := w.g16.1
  obtain ⟨x, E', H', e, -, ⟨rfl, g1, g2⟩, fr⟩ := loop_at (p := P) (c := C20_1) (E0 := E0) (H0 := H) (fun k E H => ∃ j : Nat, E 8 = .i j ∧ j ≤ 16 ∧ k = 16 - j ∧ Gr H0 H ∧ IL H0.length H (E 3) (pre ++ M.globals.take j))
    (fun x E' H' => x = .exit 4 ∧ Gr H0 H' ∧ IL H0.length H' (E' 3) (pre ++ M.globals)) (by
      rintro k E H hE ⟨j, e5, hj, rfl, gr, hv⟩
      have e0 := (hE 0 (by decide +kernel)).trans h0
      by_cases c : j < 16
      · have s2 := getD_of (l := M.globals) (i := j) 0 (by omega)
        have d1 := f37 (m.gr gr) w j
        have s1 : M.globalAt j = (M.globals.getD j 0, 0) := by unfold Mdl.globalAt; rw [if_pos (by omega)]; simp
        rw [s1] at d1
        simp only [pair2] at d1
        obtain ⟨v', H', a1, a2, a3, a4⟩ := hv.push gr.len (by simp; omega) (M.globals.getD j 0)
        have hw := wrapS j (by omega)
        generalize he3 : E 3 = v3 at *
        apply step_go (k' := 16 - (j + 1))
        · simp (disch := first | omega | rfl | assumption | (simp only [csN, Nat.reduceAdd, Nat.reduceMul, Nat.reduceLeDiff, Nat.reduceEqDiff] <;> omega) | (simp only [csF]; done) | (simp only [csF] <;> assumption) | fail) only [Nat.reduceEqDiff, Nat.reduceAdd, Nat.reduceMul, Nat.reduceSub, Nat.reduceLeDiff, Int.reduceAdd, Int.reduceSub, Int.reduceMul, Int.reduceLT, Int.reduceLE, Int.reduceGT, Int.reduceGE, Int.reduceEq, Int.reduceBEq, Int.reduceBNe, Int.reduceNeg, Int.reduceToNat, csAll, ↓reduceIte, C20_1, e0, e5, d1, he3, a1, hw]
          rfl
        · omega
        · refine ⟨j + 1, by simp [upd_apply], by omega, rfl, gr.low' a3 a4, ?_⟩
          rw [take_snoc s2, ← List.append_assoc]
          simpa [upd_apply] using a2
      · apply step_out (x := .exit 4)
        · simp (disch := first | omega | rfl | assumption | (simp only [csN, Nat.reduceAdd, Nat.reduceMul, Nat.reduceLeDiff, Nat.reduceEqDiff] <;> omega) | (simp only [csF]; done) | (simp only [csF] <;> assumption) | fail) only [Nat.reduceEqDiff, Nat.reduceAdd, Nat.reduceMul, Nat.reduceSub, Nat.reduceLeDiff, Int.reduceAdd, Int.reduceSub, Int.reduceMul, Int.reduceLT, Int.reduceLE, Int.reduceGT, Int.reduceGE, Int.reduceEq, Int.reduceBEq, Int.reduceBNe, Int.reduceNeg, Int.reduceToNat, csAll, ↓reduceIte, C20_1, e5]
          rfl
        · simp
        · rw [take_all (by omega)] at hv
          exact ⟨rfl, gr, by simpa [upd_apply] using hv⟩) 16 ⟨0, h5, by omega, rfl, gr, by simpa using hv⟩
  exact ⟨E', H', hr.symm.trans e, g1, g2, fr⟩

theorem flatSlots (w : M.Ok) (i : Nat) : (M.slots.take i).flatten.length ≤ 64 := by
  rw [flat16 (fun s hs => (w.s16 s (List.mem_of_mem_take hs)).1)]
  have := w.ns
  simp; omega

theorem l20_3 (m : MRep o g H0 b M L) (w : M.Ok) {E0 : Env} (h0 : E0 0 = .ptr b 0) (h5 : E0 4 = .i 0) (gr : Gr H0 H) {pre : List Int} (hp : pre.length ≤ 10) (hv : IL H0.length H (E0 3) pre)
    {r : Option (CX × Env × CHeap)} (hr : den P (.loop C20_3) E0 H = r) :
    ∃ E' H', r = some (.exit 0, E', H') ∧ Gr H0 H' ∧ IL H0.length H' (E' 3) (pre ++ M.slots.flatten) ∧ ∀ t, t ∉ wr C20_3 → E' t = E0 t := by
  have hns := w.ns
  obtain ⟨x, E', H', e, -, ⟨rfl, g1, g2⟩, fr⟩ := loop_at (p := P) (c := C20_3) (E0 := E0) (H0 := H) (fun k E H => ∃ j : Nat, E 4 = .i j ∧ j ≤ M.slots.length ∧ k = M.slots.length - j ∧ Gr H0 H ∧ IL H0.length H (E 3) (pre ++ (M.slots.take j).flatten))
    (fun x E' H' => x = .exit 0 ∧ Gr H0 H' ∧ IL H0.length H' (E' 3) (pre ++ M.slots.flatten)) (by
      rintro k E H hE ⟨j, e5, hj, rfl, gr, hv⟩
      have e0 := (hE 0 (by decide +kernel)).trans h0
      have d1 := f22 (m.gr gr) w
      by_cases c : j < M.slots.length
      · have s2 := getD_of (l := M.slots) (i := j) [] (by omega)
        have hw := wrapS j (by omega)
        have hfs := flatSlots w j
        have key : ∃ E' H', den P C20_3 E H = some (.normal, E', H') ∧ E' 4 = .i ((j + 1 : Nat) : Int) ∧ Gr H0 H' ∧ IL H0.length H' (E' 3) (pre ++ (M.slots.take (j + 1)).flatten) := by
          simp (disch := first | omega | rfl | assumption | (simp only [csN, Nat.reduceAdd, Nat.reduceMul, Nat.reduceLeDiff, Nat.reduceEqDiff] <;> omega) | (simp only [csF]; done) | (simp only [csF] <;> assumption) | fail) only [Nat.reduceEqDiff, Nat.reduceAdd, Nat.reduceMul, Nat.reduceSub, Nat.reduceLeDiff, Int.reduceAdd, Int.reduceSub, Int.reduceMul, Int.reduceLT, Int.reduceLE, Int.reduceGT, Int.reduceGE, Int.reduceEq, Int.reduceBEq, Int.reduceBNe, Int.reduceNeg, Int.reduceToNat, csAll, ↓reduceIte, C20_3, e0, e5, d1]
          generalize hr : den P (.loop C20_2) _ _ = r
          obtain ⟨E2, H2, rfl, q1, q2, q3⟩ := l20_2 m w (pre := pre ++ (M.slots.take j).flatten) s2 (by simp; simp at hfs; omega) (by simp only [upd_apply, Nat.reduceEqDiff, ↓reduceIte, e0]) (by simp only [upd_apply, Nat.reduceEqDiff, ↓reduceIte, e5]) (by simp only [upd_apply, Nat.reduceEqDiff, ↓reduceIte]) gr (by simp only [upd_apply, Nat.reduceEqDiff, ↓reduceIte]; exact hv) hr
          have k4 := q3 4 (by decide +kernel)
          simp only [upd_apply, Nat.reduceEqDiff, ↓reduceIte, e5] at k4
          simp (disch := first | omega | rfl | assumption | (simp only [csN, Nat.reduceAdd, Nat.reduceMul, Nat.reduceLeDiff, Nat.reduceEqDiff] <;> omega) | (simp only [csF]; done) | (simp only [csF] <;> assumption) | fail) only [Nat.reduceEqDiff, Nat.reduceAdd, Nat.reduceMul, Nat.reduceSub, Nat.reduceLeDiff, Int.reduceAdd, Int.reduceSub, Int.reduceMul, Int.reduceLT, Int.reduceLE, Int.reduceGT, Int.reduceGE, Int.reduceEq, Int.reduceBEq, Int.reduceBNe, Int.reduceNeg, Int.reduceToNat, csAll, ↓reduceIte, k4, hw]
          refine ⟨_, _, rfl, by simp [upd_apply], q1, ?_⟩
          rw [take_snoc s2, List.flatten_append, List.flatten_singleton, ← List.append_assoc]
          simpa [upd_apply] using q2
        obtain ⟨E', H', k1, k2, k3, k4⟩ := key
        exact step_go (k' := M.slots.length - (j + 1)) k1 (by omega) ⟨j + 1, k2, by omega, rfl, k3, k4⟩
      · apply step_out (x := .exit 0)
        · simp (disch := first | omega | rfl | assumption | (simp only [csN, Nat.reduceAdd, Nat.reduceMul, Nat.reduceLeDiff, Nat.reduceEqDiff] <;> omega) | (simp only [csF]; done) | (simp only [csF] <;> assumption) | fail) only [Nat.reduceEqDiff, Nat.reduceAdd, Nat.reduceMul, Nat.reduceSub, Nat.reduceLeDiff, Int.reduceAdd, Int.reduceSub, Int.reduceMul, Int.reduceLT, Int.reduceLE, Int.reduceGT, Int.reduceGE, Int.reduceEq, Int.reduceBEq, Int.reduceBNe, Int.reduceNeg, Int.reduceToNat, csAll, ↓reduceIte, C20_3, e0, e5, d1]
          rfl
        · simp
        · rw [take_all (by omega)] at hv
          exact ⟨rfl, gr, by simpa [upd_apply] using hv⟩) M.slots.length ⟨0, h5, by omega, rfl, gr, by simpa using hv⟩
  exact ⟨E', H', hr.symm.trans e, g1, g2, fr⟩

theorem ex2 {r : Option (CV × CHeap)} {v : CV} {H' : CHeap} {Q : CV → CHeap → Prop} (h : r = some (v, H')) (q : Q v H') : ∃ v H', r = some (v, H') ∧ Q v H' := ⟨_, _, h, q⟩

/-- The queue behind a list. -/
theorem catQ (m : MRep o g H0 b M L) (w : M.Ok) {v : CV} {l : List Int} (hl : l.length ≤ 1000) (gr : Gr H0 H) (hv : IL H0.length H v l) :
    ∃ vq Hq, run P 39 [.ptr b 0] H = some (vq, Hq) ∧ ∃ v' H', vAppend 1 v (elems Hq 1 vq) Hq = some (v', H') ∧ Gr H0 H' ∧ IL H0.length H' v' (l ++ M.queue) := by
  obtain ⟨vq, J, e, hq⟩ := f39 (m.gr gr) w
  have hql := w.q64.1
  have he := hq.elems (H' := H ++ J) (fun _ _ => rfl)
  obtain ⟨v', H', a1, a2, a3, a4⟩ := IL.cat (l2 := M.queue) (hv.gr (.app H J)) (by have := gr.len; simp; omega) (by omega)
  refine ⟨vq, _, e, v', H', ?_, (gr.app' J).low' a3 a4, a2⟩
  rw [he, vAppend_s, a1]

/-- roots. -/
theorem f20 (m : MRep o g H b M L) (w : M.Ok) : ∃ v H', run P 20 [.ptr b 0] H = some (v, H') ∧ Gr H H' ∧ IL H.length H' v M.places := by
  rw [run_lv c20]
  simp (disch := first | omega | rfl | assumption | (simp only [csN, Nat.reduceAdd, Nat.reduceMul, Nat.reduceLeDiff, Nat.reduceEqDiff] <;> omega) | (simp only [csF]; done) | (simp only [csF] <;> assumption) | fail) only [Nat.reduceEqDiff, Nat.reduceAdd, Nat.reduceMul, Nat.reduceSub, Nat.reduceLeDiff, Int.reduceAdd, Int.reduceSub, Int.reduceMul, Int.reduceLT, Int.reduceLE, Int.reduceGT, Int.reduceGE, Int.reduceEq, Int.reduceBEq, Int.reduceBNe, Int.reduceNeg, Int.reduceToNat, csAll, ↓reduceIte, C20, entry_1]
  generalize hr : den P (.loop C20_3) _ _ = r
  obtain ⟨E1, H1, rfl, g1, i1, k1⟩ := l20_3 m w (pre := []) (by simp only [upd_apply, Nat.reduceEqDiff, ↓reduceIte]) (by simp only [upd_apply, Nat.reduceEqDiff, ↓reduceIte]) (.refl H) (by simp) (by simp only [upd_apply, Nat.reduceEqDiff, ↓reduceIte]; exact IL.nil) hr
  have k0 := k1 0 (by decide +kernel)
  simp only [upd_apply, Nat.reduceEqDiff, ↓reduceIte] at k0
  have hfs := flatSlots w M.slots.length
  rw [take_all (Nat.le_refl _)] at hfs
  rw [List.nil_append] at i1
  simp (disch := first | omega | rfl | assumption | (simp only [csN, Nat.reduceAdd, Nat.reduceMul, Nat.reduceLeDiff, Nat.reduceEqDiff] <;> omega) | (simp only [csF]; done) | (simp only [csF] <;> assumption) | fail) only [Nat.reduceEqDiff, Nat.reduceAdd, Nat.reduceMul, Nat.reduceSub, Nat.reduceLeDiff, Int.reduceAdd, Int.reduceSub, Int.reduceMul, Int.reduceLT, Int.reduceLE, Int.reduceGT, Int.reduceGE, Int.reduceEq, Int.reduceBEq, Int.reduceBNe, Int.reduceNeg, Int.reduceToNat, csAll, ↓reduceIte, k0]
  generalize hr2 : den P (.loop C20_1) _ _ = r2
  obtain ⟨E2, H2, rfl, g2, i2, k2⟩ := l20_1 m w (pre := M.slots.flatten) (by omega) (by simp only [upd_apply, Nat.reduceEqDiff, ↓reduceIte, k0]) (by simp only [upd_apply, Nat.reduceEqDiff, ↓reduceIte]) g1 (by simp only [upd_apply, Nat.reduceEqDiff, ↓reduceIte]; exact i1) hr2
  have k0' := k2 0 (by decide +kernel)
  simp only [upd_apply, Nat.reduceEqDiff, ↓reduceIte, k0] at k0'
  have h16 := w.g16.1
  obtain ⟨vq, Hq, e39, v', H', ea, gf, il⟩ := catQ m w (by simp; simp at hfs; omega) g2 i2
  simp (disch := first | omega | rfl | assumption | (simp only [csN, Nat.reduceAdd, Nat.reduceMul, Nat.reduceLeDiff, Nat.reduceEqDiff] <;> omega) | (simp only [csF]; done) | (simp only [csF] <;> assumption) | fail) only [Nat.reduceEqDiff, Nat.reduceAdd, Nat.reduceMul, Nat.reduceSub, Nat.reduceLeDiff, Int.reduceAdd, Int.reduceSub, Int.reduceMul, Int.reduceLT, Int.reduceLE, Int.reduceGT, Int.reduceGE, Int.reduceEq, Int.reduceBEq, Int.reduceBNe, Int.reduceNeg, Int.reduceToNat, csAll, ↓reduceIte, k0', e39, ea]
  exact ⟨_, _, rfl, gf, il⟩
end
end Go.Cs.Try

/- contents and state: all that a model has. -/
namespace Go.Cs
open Go
def Obj.content (x : Obj) : List Int := [x.nr, x.nd, x.kd] ++ x.refs ++ x.data
def Mdl.state (M : Mdl) : List Int := [(M.objs.length : Int), (M.slots.length : Int)] ++ M.places ++ (M.objs.map Obj.content).flatten
theorem Obj.Ok.clen {n : Nat} {x : Obj} (h : x.Ok n) : x.content.length ≤ 218 := by
  have h1 := h.nr
  have h2 := h.nd
  simp only [Obj.content, List.length_append, List.length_cons, List.length_nil]; omega
theorem flatLe {k : Nat} : ∀ {L : List (List Int)}, (∀ s ∈ L, s.length ≤ k) → L.flatten.length ≤ k * L.length
  | [], _ => by simp
  | a :: l, h => by
    rw [List.flatten_cons, List.length_append, List.length_cons, Nat.mul_add]
    have h1 := h a List.mem_cons_self
    have h2 := flatLe (L := l) (fun s hs => h s (List.mem_cons_of_mem _ hs))
    omega
theorem Mdl.Ok.plen {M : Mdl} (w : M.Ok) : M.places.length ≤ 144 := by
  have h1 := flat16 (fun s hs => (w.s16 s hs).1)
  have h2 := w.ns
  have h3 := w.g16.1
  have h4 := w.q64.1
  simp only [Mdl.places, List.length_append]; omega
theorem Mdl.Ok.olen {M : Mdl} (w : M.Ok) (i : Nat) : ((M.objs.take i).map Obj.content).flatten.length ≤ 218 * M.objs.length := by
  refine Nat.le_trans (flatLe (k := 218) (fun s hs => ?_)) (Nat.mul_le_mul_left _ (by simp; omega))
  obtain ⟨x, hx, rfl⟩ := List.mem_map.1 hs
  exact (w.objs x (List.mem_of_mem_take hx)).clen
end Go.Cs
namespace Go.Cs.Try
open Go Go.Cs
set_option maxRecDepth 100000
section
variable {o : Tags} {g : Nat} {b : Nat} {M : Mdl} {L : Lay} {H0 H : CHeap}

theorem elAt_get {l : List Int} {j : Nat} (h : j < l.length) : elAt l j = (l.getD j 0, 0) := by
  unfold elAt; rw [if_pos (by omega)]; simp

theorem l24_2 (m : MRep o g H0 b M L) (w : M.Ok) {n : Int} (hn : M.has n) {pre : List Int} (hp : pre.length ≤ 1000) {E0 : Env} {sb : Nat} (h0 : E0 0 = .ptr b 0) (h1 : E0 1 = .i n) (hs : E0 5 = .ptr sb 0) (hsb : H0.length ≤ sb) {sv : Blk} (hsv : sv = ⟨[.i (M.obj n).nr, .i (M.obj n).nd, .i (M.obj n).kd], .rw, 0⟩) (hk : H[sb]? = some sv)
    (h5 : E0 8 = .i 0) (gr : Gr H0 H) (hv : IL (sb + 1) H (E0 7) pre)
    {r : Option (CX × Env × CHeap)} (hr : den P (.loop C24_2) E0 H = r) :
    ∃ E' H', r = some (.exit 0, E', H') ∧ Gr H0 H' ∧ IL (sb + 1) H' (E' 7) (pre ++ (M.obj n).refs) ∧ H'[sb]? = some sv ∧ ∀ t, t ∉ wr C24_2 → E' t = E0 t := by
  have hob := w.obj hn
  have hnr := hob.nr
  obtain ⟨x, E', H', e, -, ⟨rfl, g1, g2, g3⟩, fr⟩ := loop_at (p := P) (c := C24_2) (E0 := E0) (H0 := H) (fun k E H => ∃ j : Nat, E 8 = .i j ∧ j ≤ (M.obj n).refs.length ∧ k = (M.obj n).refs.length - j ∧ Gr H0 H ∧ IL (sb + 1) H (E 7) (pre ++ (M.obj n).refs.take j) ∧ H[sb]? = some sv)
    (fun x E' H' => x = .exit 0 ∧ Gr H0 H' ∧ IL (sb + 1) H' (E' 7) (pre ++ (M.obj n).refs) ∧ H'[sb]? = some sv) (by
      rintro k E H hE ⟨j, e5, hj, rfl, gr, hv, hk⟩
      have e0 := (hE 0 (by decide +kernel)).trans h0
      have e1 := (hE 1 (by decide +kernel)).trans h1
      have es := (hE 5 (by decide +kernel)).trans hs
      have hkl := lt_of_get hk
      have hk' := hk
      rw [hsv] at hk'
      by_cases c : j < (M.obj n).refs.length
      · have d1 := f16 (m.gr gr) w n j
        have s1 : M.refAt n j = ((M.obj n).refs.getD j 0, 0) := by unfold Mdl.refAt; rw [if_pos hn, elAt_get c]
        rw [s1] at d1
        simp only [pair2] at d1
        obtain ⟨v', H', a1, a2, a3, a4⟩ := hv.push (by omega) (by simp; omega) ((M.obj n).refs.getD j 0)
        have hw := wrapS j (by omega)
        generalize he3 : E 7 = v3 at *
        apply step_go (k' := (M.obj n).refs.length - (j + 1))
        · simp (disch := first | omega | rfl | assumption | (simp only [csN, Nat.reduceAdd, Nat.reduceMul, Nat.reduceLeDiff, Nat.reduceEqDiff] <;> omega) | (simp only [csF]; done) | (simp only [csF] <;> assumption) | fail) only [Nat.reduceEqDiff, Nat.reduceAdd, Nat.reduceMul, Nat.reduceSub, Nat.reduceLeDiff, Int.reduceAdd, Int.reduceSub, Int.reduceMul, Int.reduceLT, Int.reduceLE, Int.reduceGT, Int.reduceGE, Int.reduceEq, Int.reduceBEq, Int.reduceBNe, Int.reduceNeg, Int.reduceToNat, csAll, ↓reduceIte, C24_2, e0, e1, es, e5, hk', d1, he3, a1, hw]
          rfl
        · omega
        · refine ⟨j + 1, by simp [upd_apply], by omega, rfl, gr.low' (by omega) (fun c hc => a4 c (by omega)), ?_, by rw [a4 sb (by omega), hk]⟩
          rw [take_snoc (getD_of 0 c), ← List.append_assoc]
          simpa [upd_apply] using a2
      · apply step_out (x := .exit 0)
        · simp (disch := first | omega | rfl | assumption | (simp only [csN, Nat.reduceAdd, Nat.reduceMul, Nat.reduceLeDiff, Nat.reduceEqDiff] <;> omega) | (simp only [csF]; done) | (simp only [csF] <;> assumption) | fail) only [Nat.reduceEqDiff, Nat.reduceAdd, Nat.reduceMul, Nat.reduceSub, Nat.reduceLeDiff, Int.reduceAdd, Int.reduceSub, Int.reduceMul, Int.reduceLT, Int.reduceLE, Int.reduceGT, Int.reduceGE, Int.reduceEq, Int.reduceBEq, Int.reduceBNe, Int.reduceNeg, Int.reduceToNat, csAll, ↓reduceIte, C24_2, es, e5, hk']
          rfl
        · simp
        · rw [take_all (by omega)] at hv
          exact ⟨rfl, gr, by simpa [upd_apply] using hv, hk⟩) _ ⟨0, h5, by omega, rfl, gr, by simpa using hv, hk⟩
  exact ⟨E', H', hr.symm.trans e, g1, g2, g3, fr⟩

theorem l24_1 (m : MRep o g H0 b M L) (w : M.Ok) {n : Int} (hn : M.has n) {pre : List Int} (hp : pre.length ≤ 1000) {E0 : Env} {sb : Nat} (h0 : E0 0 = .ptr b 0) (h1 : E0 1 = .i n) (hs : E0 5 = .ptr sb 0) (hsb : H0.length ≤ sb) {sv : Blk} (hsv : sv = ⟨[.i (M.obj n).nr, .i (M.obj n).nd, .i (M.obj n).kd], .rw, 0⟩) (hk : H[sb]? = some sv)
    (h5 : E0 11 = .i 0) (gr : Gr H0 H) (hv : IL (sb + 1) H (E0 7) pre)
    {r : Option (CX × Env × CHeap)} (hr : den P (.loop C24_1) E0 H = r) :
    ∃ E' H', r = some (.exit 2, E', H') ∧ Gr H0 H' ∧ IL (sb + 1) H' (E' 7) (pre ++ (M.obj n).data) := by
  have hob := w.obj hn
  have hnr := hob.nd
  obtain ⟨x, E', H', e, -, ⟨rfl, g1, g2⟩, fr⟩ := loop_at (p := P) (c := C24_1) (E0 := E0) (H0 := H) (fun k E H => ∃ j : Nat, E 11 = .i j ∧ j ≤ (M.obj n).data.length ∧ k = (M.obj n).data.length - j ∧ Gr H0 H ∧ IL (sb + 1) H (E 7) (pre ++ (M.obj n).data.take j) ∧ H[sb]? = some sv)
    (fun x E' H' => x = .exit 2 ∧ Gr H0 H' ∧ IL (sb + 1) H' (E' 7) (pre ++ (M.obj n).data)) (by
      rintro k E H hE ⟨j, e5, hj, rfl, gr, hv, hk⟩
      have e0 := (hE 0 (by decide +kernel)).trans h0
      have e1 := (hE 1 (by decide +kernel)).trans h1
      have es := (hE 5 (by decide +kernel)).trans hs
      have hkl := lt_of_get hk
      have hk' := hk
      rw [hsv] at hk'
      by_cases c : j < (M.obj n).data.length
      · have d1 := f47 (m.gr gr) w n j
        have s1 : M.dataAt n j = ((M.obj n).data.getD j 0, 0) := by unfold Mdl.dataAt; rw [if_pos hn, elAt_get c]
        rw [s1] at d1
        simp only [pair2] at d1
        obtain ⟨v', H', a1, a2, a3, a4⟩ := hv.push (by omega) (by simp; omega) ((M.obj n).data.getD j 0)
        have hw := wrapS j (by omega)
        generalize he3 : E 7 = v3 at *
        apply step_go (k' := (M.obj n).data.length - (j + 1))
        · simp (disch := first | omega | rfl | assumption | (simp only [csN, Nat.reduceAdd, Nat.reduceMul, Nat.reduceLeDiff, Nat.reduceEqDiff] <;> omega) | (simp only [csF]; done) | (simp only [csF] <;> assumption) | fail) only [Nat.reduceEqDiff, Nat.reduceAdd, Nat.reduceMul, Nat.reduceSub, Nat.reduceLeDiff, Int.reduceAdd, Int.reduceSub, Int.reduceMul, Int.reduceLT, Int.reduceLE, Int.reduceGT, Int.reduceGE, Int.reduceEq, Int.reduceBEq, Int.reduceBNe, Int.reduceNeg, Int.reduceToNat, csAll, ↓reduceIte, C24_1, e0, e1, es, e5, hk', d1, he3, a1, hw]
          rfl
        · omega
        · refine ⟨j + 1, by simp [upd_apply], by omega, rfl, gr.low' (by omega) (fun c hc => a4 c (by omega)), ?_, by rw [a4 sb (by omega), hk]⟩
          rw [take_snoc (getD_of 0 c), ← List.append_assoc]
          simpa [upd_apply] using a2
      · apply step_out (x := .exit 2)
        · simp (disch := first | omega | rfl | assumption | (simp only [csN, Nat.reduceAdd, Nat.reduceMul, Nat.reduceLeDiff, Nat.reduceEqDiff] <;> omega) | (simp only [csF]; done) | (simp only [csF] <;> assumption) | fail) only [Nat.reduceEqDiff, Nat.reduceAdd, Nat.reduceMul, Nat.reduceSub, Nat.reduceLeDiff, Int.reduceAdd, Int.reduceSub, Int.reduceMul, Int.reduceLT, Int.reduceLE, Int.reduceGT, Int.reduceGE, Int.reduceEq, Int.reduceBEq, Int.reduceBNe, Int.reduceNeg, Int.reduceToNat, csAll, ↓reduceIte, C24_1, es, e5, hk']
          rfl
        · simp
        · rw [take_all (by omega)] at hv
          exact ⟨rfl, gr, by simpa [upd_apply] using hv⟩) _ ⟨0, h5, by omega, rfl, gr, by simpa using hv, hk⟩
  exact ⟨E', H', hr.symm.trans e, g1, g2⟩

/-- contents. -/
theorem f24 (m : MRep o g H b M L) (w : M.Ok) {n : Int} (hn : M.has n) : ∃ v H', run P 24 [.ptr b 0, .i n] H = some (v, H') ∧ Gr H H' ∧ IL H.length H' v (M.obj n).content := by
  have d1 := f15 m w n
  have hs : M.shapeAt n = (((M.obj n).nr, (M.obj n).nd, (M.obj n).kd), 0) := by unfold Mdl.shapeAt; rw [if_pos hn]
  rw [hs] at d1
  simp only [shape3] at d1
  have hob := w.obj hn
  have hnr := hob.nr
  rw [run_lv c24]
  simp (disch := first | omega | rfl | assumption | (simp only [csN, Nat.reduceAdd, Nat.reduceMul, Nat.reduceLeDiff, Nat.reduceEqDiff] <;> omega) | (simp only [csF]; done) | (simp only [csF] <;> assumption) | fail) only [Nat.reduceEqDiff, Nat.reduceAdd, Nat.reduceMul, Nat.reduceSub, Nat.reduceLeDiff, Int.reduceAdd, Int.reduceSub, Int.reduceMul, Int.reduceLT, Int.reduceLE, Int.reduceGT, Int.reduceGE, Int.reduceEq, Int.reduceBEq, Int.reduceBNe, Int.reduceNeg, Int.reduceToNat, csAll, ↓reduceIte, C24, entry_2, d1]
  generalize hr : den P (.loop C24_2) _ _ = r
  have gr0 : Gr H (H ++ [⟨[.i (M.obj n).nr, .i (M.obj n).nd, .i (M.obj n).kd], .rw, 0⟩] ++ [⟨[.i (M.obj n).nr, .i (M.obj n).nd, .i (M.obj n).kd], .rw, 0⟩] ++ [⟨[.i (M.obj n).nr, .i (M.obj n).nd, .i (M.obj n).kd], .rw, 1⟩]) := ((Gr.app _ _).app' _).app' _
  have gl : (H ++ [⟨[.i (M.obj n).nr, .i (M.obj n).nd, .i (M.obj n).kd], .rw, 0⟩] ++ [⟨[.i (M.obj n).nr, .i (M.obj n).nd, .i (M.obj n).kd], .rw, 0⟩] : CHeap)[H.length + 1]? = some ⟨[.i (M.obj n).nr, .i (M.obj n).nd, .i (M.obj n).kd], .rw, 0⟩ := by simp
  obtain ⟨E1, H1, rfl, g1, i1, q1, k1⟩ := l24_2 m w hn (pre := [(M.obj n).nr, (M.obj n).nd, (M.obj n).kd]) (sb := H.length + 1) (by simp) (by simp only [upd_apply, Nat.reduceEqDiff, ↓reduceIte]) (by simp only [upd_apply, Nat.reduceEqDiff, ↓reduceIte]) (by simp only [upd_apply, Nat.reduceEqDiff, ↓reduceIte]) (by omega) rfl
    (by rw [List.getElem?_append_left (by simp), gl]) (by simp only [upd_apply, Nat.reduceEqDiff, ↓reduceIte]) gr0 (by simp only [upd_apply, Nat.reduceEqDiff, ↓reduceIte]; exact IL.blk (b := H.length + 1 + 1) (by omega) (look_last (by simp)) rfl) hr
  have k0 := k1 0 (by decide +kernel)
  have k1' := k1 1 (by decide +kernel)
  have k5 := k1 5 (by decide +kernel)
  simp only [upd_apply, Nat.reduceEqDiff, ↓reduceIte] at k0 k1' k5
  simp (disch := first | omega | rfl | assumption | (simp only [csN, Nat.reduceAdd, Nat.reduceMul, Nat.reduceLeDiff, Nat.reduceEqDiff] <;> omega) | (simp only [csF]; done) | (simp only [csF] <;> assumption) | fail) only [Nat.reduceEqDiff, Nat.reduceAdd, Nat.reduceMul, Nat.reduceSub, Nat.reduceLeDiff, Int.reduceAdd, Int.reduceSub, Int.reduceMul, Int.reduceLT, Int.reduceLE, Int.reduceGT, Int.reduceGE, Int.reduceEq, Int.reduceBEq, Int.reduceBNe, Int.reduceNeg, Int.reduceToNat, csAll, ↓reduceIte]
  generalize hr2 : den P (.loop C24_1) _ _ = r2
  obtain ⟨E2, H2, rfl, g2, i2⟩ := l24_1 m w hn (pre := [(M.obj n).nr, (M.obj n).nd, (M.obj n).kd] ++ (M.obj n).refs) (sb := H.length + 1) (by simp; omega) (by simp only [upd_apply, Nat.reduceEqDiff, ↓reduceIte, k0]) (by simp only [upd_apply, Nat.reduceEqDiff, ↓reduceIte, k1']) (by simp only [upd_apply, Nat.reduceEqDiff, ↓reduceIte, k5]) (by omega) rfl q1 (by simp only [upd_apply, Nat.reduceEqDiff, ↓reduceIte]) g1 (by simp only [upd_apply, Nat.reduceEqDiff, ↓reduceIte]; exact i1) hr2
  simp (disch := first | omega | rfl | assumption | (simp only [csN, Nat.reduceAdd, Nat.reduceMul, Nat.reduceLeDiff, Nat.reduceEqDiff] <;> omega) | (simp only [csF]; done) | (simp only [csF] <;> assumption) | fail) only [Nat.reduceEqDiff, Nat.reduceAdd, Nat.reduceMul, Nat.reduceSub, Nat.reduceLeDiff, Int.reduceAdd, Int.reduceSub, Int.reduceMul, Int.reduceLT, Int.reduceLE, Int.reduceGT, Int.reduceGE, Int.reduceEq, Int.reduceBEq, Int.reduceBNe, Int.reduceNeg, Int.reduceToNat, csAll, ↓reduceIte]
  exact ⟨_, _, rfl, g2, i2.locMono (by omega)⟩
end
end Go.Cs.Try

/- state: all that a model has. -/
namespace Go.Cs.Try
open Go Go.Cs
set_option maxRecDepth 100000
section
variable {o : Tags} {g : Nat} {b : Nat} {M : Mdl} {L : Lay} {H0 H : CHeap}

theorem l28_3 (m : MRep o g H0 b M L) (w : M.Ok) {i : Nat} {s : List Int} (hs : M.slots[i]? = some s) {pre : List Int} (hp : pre.length ≤ 1000) {E0 : Env} (h0 : E0 0 = .ptr b 0) (h4 : E0 4 = .i i) (h5 : E0 5 = .i 0) (gr : Gr H0 H) (hv : IL H0.length H (E0 3) pre)
    {r : Option (CX × Env × CHeap)} (hr : den P (.loop C28_3) E0 H = r) :
    ∃ E' H', r = some (.exit 2, E', H') ∧ Gr H0 H' ∧ IL H0.length H' (E' 3) (pre ++ s) ∧ ∀ t, t ∉ wr C28_3 → E' t = E0 t := by
  have h16 := (w.s16 _ (List.mem_of_getElem? hs)).1
  obtain ⟨x, E', H', e, -, ⟨rfl, g1, g2⟩, fr⟩ := loop_at (p := P) (c := C28_3) (E0 := E0) (H0 := H) (fun k E H => ∃ j : Nat, E 5 = .i j ∧ j ≤ 16 ∧ k = 16 - j ∧ Gr H0 H ∧ IL H0.length H (E 3) (pre ++ s.take j))
    (fun x E' H' => x = .exit 2 ∧ Gr H0 H' ∧ IL H0.length H' (E' 3) (pre ++ s)) (by
      rintro k E H hE ⟨j, e5, hj, rfl, gr, hv⟩
      have e0 := (hE 0 (by decide +kernel)).trans h0
      have e4 := (hE 4 (by decide +kernel)).trans h4
      by_cases c : j < 16
      · obtain ⟨s1, s2⟩ := Mdl.slot_val w hs c
        have d1 := f25 (m.gr gr) w i j
        rw [s1] at d1
        simp only [pair2] at d1
        obtain ⟨v', H', a1, a2, a3, a4⟩ := hv.push gr.len (by simp; omega) (s.getD j 0)
        have hw := wrapS j (by omega)
        generalize he3 : E 3 = v3 at *
        apply step_go (k' := 16 - (j + 1))
        · simp (disch := first | omega | rfl | assumption | (simp only [csN, Nat.reduceAdd, Nat.reduceMul, Nat.reduceLeDiff, Nat.reduceEqDiff] <;> omega) | (simp only [csF]; done) | (simp only [csF] <;> assumption) | fail) only [Nat.reduceEqDiff, Nat.reduceAdd, Nat.reduceMul, Nat.reduceSub, Nat.reduceLeDiff, Int.reduceAdd, Int.reduceSub, Int.reduceMul, Int.reduceLT, Int.reduceLE, Int.reduceGT, Int.reduceGE, Int.reduceEq, Int.reduceBEq, Int.reduceBNe, Int.reduceNeg, Int.reduceToNat, csAll, ↓reduceIte, C28_3, e0, e4, e5, d1, he3, a1, hw]
          rfl
        · omega
        · refine ⟨j + 1, by simp [upd_apply], by omega, rfl, gr.low' a3 a4, ?_⟩
          rw [take_snoc s2, ← List.append_assoc]
          simpa [upd_apply] using a2
      · apply step_out (x := .exit 2)
        · simp (disch := first | omega | rfl | assumption | (simp only [csN, Nat.reduceAdd, Nat.reduceMul, Nat.reduceLeDiff, Nat.reduceEqDiff] <;> omega) | (simp only [csF]; done) | (simp only [csF] <;> assumption) | fail) only [Nat.reduceEqDiff, Nat.reduceAdd, Nat.reduceMul, Nat.reduceSub, Nat.reduceLeDiff, Int.reduceAdd, Int.reduceSub, Int.reduceMul, Int.reduceLT, Int.reduceLE, Int.reduceGT, Int.reduceGE, Int.reduceEq, Int.reduceBEq, Int.reduceBNe, Int.reduceNeg, Int.reduceToNat, csAll, ↓reduceIte, C28_3, e5]
          rfl
        · simp
        · rw [take_all (by omega)] at hv
          exact ⟨rfl, gr, by simpa [upd_apply] using hv⟩) 16 ⟨0, h5, by omega, rfl, gr, by simpa using hv⟩
  exact ⟨E', H', hr.symm.trans e, g1, g2, fr⟩

theorem l28_2 (m : MRep o g H0 b M L) (w : M.Ok) {pre : List Int} (hp : pre.length ≤ 1000) {E0 : Env} (h0 : E0 0 = .ptr b 0) (h5 : E0 8 = .i 0) (gr : Gr H0 H) (hv : IL H0.length H (E0 3) pre)
    {r : Option (CX × Env × CHeap)} (hr : den P (.loop C28_2) E0 H = r) :
    ∃ E' H', r = some (.exit 4, E', H') ∧ Gr H0 H' ∧ IL H0.length H' (E' 3) (pre ++ M.globals) ∧ ∀ t, t ∉ wr C28_2 → E' t = E0 t := by
  have h16 := w.g16.1
  obtain ⟨x, E', H', e, -, ⟨rfl, g1, g2⟩, fr⟩ := loop_at (p := P) (c := C28_2) (E0 := E0) (H0 := H) (fun k E H => ∃ j : Nat, E 8 = .i j ∧ j ≤ 16 ∧ k = 16 - j ∧ Gr H0 H ∧ IL H0.length H (E 3) (pre ++ M.globals.take j))
    (fun x E' H' => x = .exit 4 ∧ Gr H0 H' ∧ IL H0.length H' (E' 3) (pre ++ M.globals)) (by
      rintro k E H hE ⟨j, e5, hj, rfl, gr, hv⟩
      have e0 := (hE 0 (by decide +kernel)).trans h0
      by_cases c : j < 16
      · have s2 := getD_of (l := M.globals) (i := j) 0 (by omega)
        have d1 := f37 (m.gr gr) w j
        have s1 : M.globalAt j = (M.globals.getD j 0, 0) := by unfold Mdl.globalAt; rw [if_pos (by omega)]; simp
        rw [s1] at d1
        simp only [pair2] at d1
        obtain ⟨v', H', a1, a2, a3, a4⟩ := hv.push gr.len (by simp; omega) (M.globals.getD j 0)
        have hw := wrapS j (by omega)
        generalize he3 : E 3 = v3 at *
        apply step_go (k' := 16 - (j + 1))
        · simp (disch := first | omega | rfl | assumption | (simp only [csN, Nat.reduceAdd, Nat.reduceMul, Nat.reduceLeDiff, Nat.reduceEqDiff] <;> omega) | (simp only [csF]; done) | (simp only [csF] <;> assumption) | fail) only [Nat.reduceEqDiff, Nat.reduceAdd, Nat.reduceMul, Nat.reduceSub, Nat.reduceLeDiff, Int.reduceAdd, Int.reduceSub, Int.reduceMul, Int.reduceLT, Int.reduceLE, Int.reduceGT, Int.reduceGE, Int.reduceEq, Int.reduceBEq, Int.reduceBNe, Int.reduceNeg, Int.reduceToNat, csAll, ↓reduceIte, C28_2, e0, e5, d1, he3, a1, hw]
          rfl
        · omega
        · refine ⟨j + 1, by simp [upd_apply], by omega, rfl, gr.low' a3 a4, ?_⟩
          rw [take_snoc s2, ← List.append_assoc]
          simpa [upd_apply] using a2
      · apply step_out (x := .exit 4)
        · simp (disch := first | omega | rfl | assumption | (simp only [csN, Nat.reduceAdd, Nat.reduceMul, Nat.reduceLeDiff, Nat.reduceEqDiff] <;> omega) | (simp only [csF]; done) | (simp only [csF] <;> assumption) | fail) only [Nat.reduceEqDiff, Nat.reduceAdd, Nat.reduceMul, Nat.reduceSub, Nat.reduceLeDiff, Int.reduceAdd, Int.reduceSub, Int.reduceMul, Int.reduceLT, Int.reduceLE, Int.reduceGT, Int.reduceGE, Int.reduceEq, Int.reduceBEq, Int.reduceBNe, Int.reduceNeg, Int.reduceToNat, csAll, ↓reduceIte, C28_2, e5]
          rfl
        · simp
        · rw [take_all (by omega)] at hv
          exact ⟨rfl, gr, by simpa [upd_apply] using hv⟩) 16 ⟨0, h5, by omega, rfl, gr, by simpa using hv⟩
  exact ⟨E', H', hr.symm.trans e, g1, g2, fr⟩

theorem l28_4 (m : MRep o g H0 b M L) (w : M.Ok) {E0 : Env} (h0 : E0 0 = .ptr b 0) (h5 : E0 4 = .i 0) (gr : Gr H0 H) {pre : List Int} (hp : pre.length ≤ 10) (hv : IL H0.length H (E0 3) pre)
    {r : Option (CX × Env × CHeap)} (hr : den P (.loop C28_4) E0 H = r) :
    ∃ E' H', r = some (.exit 0, E', H') ∧ Gr H0 H' ∧ IL H0.length H' (E' 3) (pre ++ M.slots.flatten) ∧ ∀ t, t ∉ wr C28_4 → E' t = E0 t := by
  have hns := w.ns
  obtain ⟨x, E', H', e, -, ⟨rfl, g1, g2⟩, fr⟩ := loop_at (p := P) (c := C28_4) (E0 := E0) (H0 := H) (fun k E H => ∃ j : Nat, E 4 = .i j ∧ j ≤ M.slots.length ∧ k = M.slots.length - j ∧ Gr H0 H ∧ IL H0.length H (E 3) (pre ++ (M.slots.take j).flatten))
    (fun x E' H' => x = .exit 0 ∧ Gr H0 H' ∧ IL H0.length H' (E' 3) (pre ++ M.slots.flatten)) (by
      rintro k E H hE ⟨j, e5, hj, rfl, gr, hv⟩
      have e0 := (hE 0 (by decide +kernel)).trans h0
      have d1 := f22 (m.gr gr) w
      by_cases c : j < M.slots.length
      · have s2 := getD_of (l := M.slots) (i := j) [] (by omega)
        have hw := wrapS j (by omega)
        have hfs := flatSlots w j
        have key : ∃ E' H', den P C28_4 E H = some (.normal, E', H') ∧ E' 4 = .i ((j + 1 : Nat) : Int) ∧ Gr H0 H' ∧ IL H0.length H' (E' 3) (pre ++ (M.slots.take (j + 1)).flatten) := by
          simp (disch := first | omega | rfl | assumption | (simp only [csN, Nat.reduceAdd, Nat.reduceMul, Nat.reduceLeDiff, Nat.reduceEqDiff] <;> omega) | (simp only [csF]; done) | (simp only [csF] <;> assumption) | fail) only [Nat.reduceEqDiff, Nat.reduceAdd, Nat.reduceMul, Nat.reduceSub, Nat.reduceLeDiff, Int.reduceAdd, Int.reduceSub, Int.reduceMul, Int.reduceLT, Int.reduceLE, Int.reduceGT, Int.reduceGE, Int.reduceEq, Int.reduceBEq, Int.reduceBNe, Int.reduceNeg, Int.reduceToNat, csAll, ↓reduceIte, C28_4, e0, e5, d1]
          generalize hr : den P (.loop C28_3) _ _ = r
          obtain ⟨E2, H2, rfl, q1, q2, q3⟩ := l28_3 m w (pre := pre ++ (M.slots.take j).flatten) s2 (by simp; simp at hfs; omega) (by simp only [upd_apply, Nat.reduceEqDiff, ↓reduceIte, e0]) (by simp only [upd_apply, Nat.reduceEqDiff, ↓reduceIte, e5]) (by simp only [upd_apply, Nat.reduceEqDiff, ↓reduceIte]) gr (by simp only [upd_apply, Nat.reduceEqDiff, ↓reduceIte]; exact hv) hr
          have k4 := q3 4 (by decide +kernel)
          simp only [upd_apply, Nat.reduceEqDiff, ↓reduceIte, e5] at k4
          simp (disch := first | omega | rfl | assumption | (simp only [csN, Nat.reduceAdd, Nat.reduceMul, Nat.reduceLeDiff, Nat.reduceEqDiff] <;> omega) | (simp only [csF]; done) | (simp only [csF] <;> assumption) | fail) only [Nat.reduceEqDiff, Nat.reduceAdd, Nat.reduceMul, Nat.reduceSub, Nat.reduceLeDiff, Int.reduceAdd, Int.reduceSub, Int.reduceMul, Int.reduceLT, Int.reduceLE, Int.reduceGT, Int.reduceGE, Int.reduceEq, Int.reduceBEq, Int.reduceBNe, Int.reduceNeg, Int.reduceToNat, csAll, ↓reduceIte, k4, hw]
          refine ⟨_, _, rfl, by simp [upd_apply], q1, ?_⟩
          rw [take_snoc s2, List.flatten_append, List.flatten_singleton, ← List.append_assoc]
          simpa [upd_apply] using q2
        obtain ⟨E', H', k1, k2, k3, k4⟩ := key
        exact step_go (k' := M.slots.length - (j + 1)) k1 (by omega) ⟨j + 1, k2, by omega, rfl, k3, k4⟩
      · apply step_out (x := .exit 0)
        · simp (disch := first | omega | rfl | assumption | (simp only [csN, Nat.reduceAdd, Nat.reduceMul, Nat.reduceLeDiff, Nat.reduceEqDiff] <;> omega) | (simp only [csF]; done) | (simp only [csF] <;> assumption) | fail) only [Nat.reduceEqDiff, Nat.reduceAdd, Nat.reduceMul, Nat.reduceSub, Nat.reduceLeDiff, Int.reduceAdd, Int.reduceSub, Int.reduceMul, Int.reduceLT, Int.reduceLE, Int.reduceGT, Int.reduceGE, Int.reduceEq, Int.reduceBEq, Int.reduceBNe, Int.reduceNeg, Int.reduceToNat, csAll, ↓reduceIte, C28_4, e0, e5, d1]
          rfl
        · simp
        · rw [take_all (by omega)] at hv
          exact ⟨rfl, gr, by simpa [upd_apply] using hv⟩) M.slots.length ⟨0, h5, by omega, rfl, gr, by simpa using hv⟩
  exact ⟨E', H', hr.symm.trans e, g1, g2, fr⟩


theorem Mdl.obj_at {M : Mdl} {j : Nat} (h : j < M.objs.length) : M.objs[j]? = some (M.obj ((j + 1 : Nat) : Int)) := by
  have := Mdl.obj_get (M := M) (n := ((j + 1 : Nat) : Int)) (by unfold Mdl.has; omega)
  have e : (((j + 1 : Nat) : Int) - 1).toNat = j := by omega
  rw [e] at this; exact this

theorem l28_1 (m : MRep o g H0 b M L) (w : M.Ok) (hf : M.objs.length ≤ 1000) {pre : List Int} (hp : pre.length ≤ 1000) {E0 : Env} (h0 : E0 0 = .ptr b 0) (h5 : E0 11 = .i 1) (gr : Gr H0 H) (hv : IL H0.length H (E0 3) pre)
    {r : Option (CX × Env × CHeap)} (hr : den P (.loop C28_1) E0 H = r) :
    ∃ E' H', r = some (.exit 6, E', H') ∧ Gr H0 H' ∧ IL H0.length H' (E' 3) (pre ++ (M.objs.map Obj.content).flatten) := by
  obtain ⟨x, E', H', e, -, ⟨rfl, g1, g2⟩, fr⟩ := loop_at (p := P) (c := C28_1) (E0 := E0) (H0 := H) (fun k E H => ∃ j : Nat, E 11 = .i ((j + 1 : Nat) : Int) ∧ j ≤ M.objs.length ∧ k = M.objs.length - j ∧ Gr H0 H ∧ IL H0.length H (E 3) (pre ++ ((M.objs.take j).map Obj.content).flatten))
    (fun x E' H' => x = .exit 6 ∧ Gr H0 H' ∧ IL H0.length H' (E' 3) (pre ++ (M.objs.map Obj.content).flatten)) (by
      rintro k E H hE ⟨j, e5, hj, rfl, gr, hv⟩
      have e0 := (hE 0 (by decide +kernel)).trans h0
      have d1 := f23 (m.gr gr) w
      by_cases c : j < M.objs.length
      · have hh : M.has ((j + 1 : Nat) : Int) := by unfold Mdl.has; omega
        obtain ⟨vc, Hc, d2, gc, ic⟩ := f24 (m.gr gr) w hh
        have hcl := (w.obj hh).clen
        have hol := w.olen j
        have he := ic.elems (H' := Hc) (fun _ _ => rfl)
        obtain ⟨v', H', a1, a2, a3, a4⟩ := IL.cat (l2 := (M.obj ((j + 1 : Nat) : Int)).content) (hv.gr gc) (by have := gr.len; have := gc.len; omega) (by simp only [List.length_append]; omega)
        have hap : vAppend 1 (E 3) (elems Hc 1 vc) Hc = some (v', H') := by rw [he, vAppend_s, a1]
        have hw := wrapS (j + 1) (by omega)
        generalize he3 : E 3 = v3 at *
        apply step_go (k' := M.objs.length - (j + 1))
        · simp (disch := first | omega | rfl | assumption | (simp only [csN, Nat.reduceAdd, Nat.reduceMul, Nat.reduceLeDiff, Nat.reduceEqDiff] <;> omega) | (simp only [csF]; done) | (simp only [csF] <;> assumption) | fail) only [Nat.reduceEqDiff, Nat.reduceAdd, Nat.reduceMul, Nat.reduceSub, Nat.reduceLeDiff, Int.reduceAdd, Int.reduceSub, Int.reduceMul, Int.reduceLT, Int.reduceLE, Int.reduceGT, Int.reduceGE, Int.reduceEq, Int.reduceBEq, Int.reduceBNe, Int.reduceNeg, Int.reduceToNat, csAll, ↓reduceIte, C28_1, e0, e5, d1, d2, he3, hap, hw]
          rfl
        · omega
        · refine ⟨j + 1, by simp [upd_apply], by omega, rfl, (gr.trans gc).low' a3 a4, ?_⟩
          rw [take_snoc (Mdl.obj_at c), List.map_append, List.flatten_append, List.map_cons, List.map_nil, List.flatten_singleton, ← List.append_assoc]
          simpa [upd_apply] using a2
      · apply step_out (x := .exit 6)
        · simp (disch := first | omega | rfl | assumption | (simp only [csN, Nat.reduceAdd, Nat.reduceMul, Nat.reduceLeDiff, Nat.reduceEqDiff] <;> omega) | (simp only [csF]; done) | (simp only [csF] <;> assumption) | fail) only [Nat.reduceEqDiff, Nat.reduceAdd, Nat.reduceMul, Nat.reduceSub, Nat.reduceLeDiff, Int.reduceAdd, Int.reduceSub, Int.reduceMul, Int.reduceLT, Int.reduceLE, Int.reduceGT, Int.reduceGE, Int.reduceEq, Int.reduceBEq, Int.reduceBNe, Int.reduceNeg, Int.reduceToNat, csAll, ↓reduceIte, C28_1, e0, e5, d1]
          rfl
        · simp
        · rw [take_all (by omega)] at hv
          exact ⟨rfl, gr, by simpa [upd_apply] using hv⟩) M.objs.length ⟨0, h5, by omega, rfl, gr, by simpa using hv⟩
  exact ⟨E', H', hr.symm.trans e, g1, g2⟩

/-- state. -/
theorem f28 (m : MRep o g H b M L) (w : M.Ok) (hf : M.objs.length ≤ 1000) : ∃ v H', run P 28 [.ptr b 0] H = some (v, H') ∧ Gr H H' ∧ IL H.length H' v M.state := by
  have d1 := f23 m w
  have d2 := f22 m w
  rw [run_lv c28]
  simp (disch := first | omega | rfl | assumption | (simp only [csN, Nat.reduceAdd, Nat.reduceMul, Nat.reduceLeDiff, Nat.reduceEqDiff] <;> omega) | (simp only [csF]; done) | (simp only [csF] <;> assumption) | fail) only [Nat.reduceEqDiff, Nat.reduceAdd, Nat.reduceMul, Nat.reduceSub, Nat.reduceLeDiff, Int.reduceAdd, Int.reduceSub, Int.reduceMul, Int.reduceLT, Int.reduceLE, Int.reduceGT, Int.reduceGE, Int.reduceEq, Int.reduceBEq, Int.reduceBNe, Int.reduceNeg, Int.reduceToNat, csAll, ↓reduceIte, C28, entry_1, d1, d2]
  generalize hr : den P (.loop C28_4) _ _ = r
  obtain ⟨E1, H1, rfl, g1, i1, k1⟩ := l28_4 m w (pre := [(M.objs.length : Int), (M.slots.length : Int)]) (by simp only [upd_apply, Nat.reduceEqDiff, ↓reduceIte]) (by simp only [upd_apply, Nat.reduceEqDiff, ↓reduceIte]) (.app H _) (by simp) (by simp only [upd_apply, Nat.reduceEqDiff, ↓reduceIte]; exact IL.blk (b := H.length) (by omega) (look_last rfl) rfl) hr
  have k0 := k1 0 (by decide +kernel)
  simp only [upd_apply, Nat.reduceEqDiff, ↓reduceIte] at k0
  have hfs := flatSlots w M.slots.length
  rw [take_all (Nat.le_refl _)] at hfs
  simp (disch := first | omega | rfl | assumption | (simp only [csN, Nat.reduceAdd, Nat.reduceMul, Nat.reduceLeDiff, Nat.reduceEqDiff] <;> omega) | (simp only [csF]; done) | (simp only [csF] <;> assumption) | fail) only [Nat.reduceEqDiff, Nat.reduceAdd, Nat.reduceMul, Nat.reduceSub, Nat.reduceLeDiff, Int.reduceAdd, Int.reduceSub, Int.reduceMul, Int.reduceLT, Int.reduceLE, Int.reduceGT, Int.reduceGE, Int.reduceEq, Int.reduceBEq, Int.reduceBNe, Int.reduceNeg, Int.reduceToNat, csAll, ↓reduceIte, k0]
  generalize hr2 : den P (.loop C28_2) _ _ = r2
  obtain ⟨E2, H2, rfl, g2, i2, k2⟩ := l28_2 m w (pre := [(M.objs.length : Int), (M.slots.length : Int)] ++ M.slots.flatten) (by simp only [List.length_append, List.length_cons, List.length_nil]; omega) (by simp only [upd_apply, Nat.reduceEqDiff, ↓reduceIte, k0]) (by simp only [upd_apply, Nat.reduceEqDiff, ↓reduceIte]) g1 (by simp only [upd_apply, Nat.reduceEqDiff, ↓reduceIte]; exact i1) hr2
  have k0' := k2 0 (by decide +kernel)
  simp only [upd_apply, Nat.reduceEqDiff, ↓reduceIte, k0] at k0'
  have h16 := w.g16.1
  obtain ⟨vq, Hq, e39, v', H', ea, gf, il⟩ := catQ m w (by simp only [List.length_append, List.length_cons, List.length_nil]; omega) g2 i2
  simp (disch := first | omega | rfl | assumption | (simp only [csN, Nat.reduceAdd, Nat.reduceMul, Nat.reduceLeDiff, Nat.reduceEqDiff] <;> omega) | (simp only [csF]; done) | (simp only [csF] <;> assumption) | fail) only [Nat.reduceEqDiff, Nat.reduceAdd, Nat.reduceMul, Nat.reduceSub, Nat.reduceLeDiff, Int.reduceAdd, Int.reduceSub, Int.reduceMul, Int.reduceLT, Int.reduceLE, Int.reduceGT, Int.reduceGE, Int.reduceEq, Int.reduceBEq, Int.reduceBNe, Int.reduceNeg, Int.reduceToNat, csAll, ↓reduceIte, k0', e39, ea]
  generalize hr3 : den P (.loop C28_1) _ _ = r3
  obtain ⟨E3, H3, rfl, g3, i3⟩ := l28_1 m w hf (pre := [(M.objs.length : Int), (M.slots.length : Int)] ++ M.places) (by have := w.plen; simp only [List.length_append, List.length_cons, List.length_nil]; omega) (by simp only [upd_apply, Nat.reduceEqDiff, ↓reduceIte, k0']) (by simp only [upd_apply, Nat.reduceEqDiff, ↓reduceIte]) gf (by simp only [upd_apply, Nat.reduceEqDiff, ↓reduceIte]; simpa [Mdl.places] using il) hr3
  simp (disch := first | omega | rfl | assumption | (simp only [csN, Nat.reduceAdd, Nat.reduceMul, Nat.reduceLeDiff, Nat.reduceEqDiff] <;> omega) | (simp only [csF]; done) | (simp only [csF] <;> assumption) | fail) only [Nat.reduceEqDiff, Nat.reduceAdd, Nat.reduceMul, Nat.reduceSub, Nat.reduceLeDiff, Int.reduceAdd, Int.reduceSub, Int.reduceMul, Int.reduceLT, Int.reduceLE, Int.reduceGT, Int.reduceGE, Int.reduceEq, Int.reduceBEq, Int.reduceBNe, Int.reduceNeg, Int.reduceToNat, csAll, ↓reduceIte]
  exact ⟨_, _, rfl, g3, i3⟩
end
end Go.Cs.Try

/- Lists of lists of integers. -/
namespace Go.Cs
open Go
def One (b : Nat) : Tags := fun c => if c = b then some z3 else none
theorem One_some {b c : Nat} {t : Tag} : One b c = some t ↔ c = b ∧ t = z3 := by
  unfold One
  split
  · rename_i h; simp only [Option.some.injEq]; exact ⟨fun e => ⟨h, e.symm⟩, fun e => e.2.symm⟩
  · rename_i h; simp [h]
abbrev IB (b : Nat) (H : CHeap) (v : CV) (n : Nat) (cs : List CV) : Prop := At (One b) z3 H v 1 n cs
theorem IL.one {k : Nat} {H : CHeap} {v : CV} {l : List Int} (h : IL k H v l) (hk : k < H.length) : ∃ b, k ≤ b ∧ b < H.length ∧ IB b H v l.length (ints l) := by
  rcases h with h | ⟨b, tl, rfl, h1, h2, h3⟩
  · exact ⟨k, Nat.le_refl _, hk, .inl h⟩
  · exact ⟨b, (Loc_some.1 h1).1, lt_of_get h2, .inr ⟨b, tl, rfl, One_some.2 ⟨rfl, rfl⟩, h2, h3⟩⟩
theorem IB.keep {b n : Nat} {H H' : CHeap} {v : CV} {cs : List CV} (h : IB b H v n cs) (e : b < H.length → H'[b]? = H[b]?) : IB b H' v n cs := by
  rcases h with h | ⟨c, tl, rfl, h1, h2, h3⟩
  · exact .inl h
  · obtain ⟨rfl, -⟩ := One_some.1 h1
    exact .inr ⟨c, tl, rfl, h1, by rw [e (lt_of_get h2), h2], h3⟩
theorem IB.append {b n k : Nat} {H : CHeap} {v : CV} {cs new : List CV} (h : IB b H v n cs) (hk : 0 < k) (hm : n + k ≤ 16777216) (hl : new.all leaf = true) (hnew : new.length = k) :
    ∃ v' H', appendTo H 1 v k new = some (v', H') ∧ IB H.length H' v' (n + k) (cs ++ new) ∧ H'.length = H.length + 1 ∧ ∀ c, c < H.length → c ≠ b → H'[c]? = H[c]? := by
  obtain ⟨H', a1, a2, a3, a4⟩ := At.append (k := k) (new := new) h hk hm hl (by omega)
  have hcl : cs.length = n := by
    rcases h with ⟨h1, h2, -⟩ | ⟨b, tl, -, -, -, h3⟩
    · simp [h1, h2]
    · omega
  exact ⟨_, H', a1, .inr ⟨H.length, true, rfl, One_some.2 ⟨rfl, rfl⟩, a3, by simp [hnew, hcl]⟩, a2, fun c hc hb => a4 c hc (fun h => hb (One_some.1 h).1)⟩

/-- A list of lists. -/
def LL (k : Nat) (H : CHeap) (v : CV) (ls : List (List Int)) : Prop :=
  ∃ b vs, k ≤ b ∧ IB b H v ls.length vs ∧ vs.length = ls.length ∧ ∀ (i : Nat) (l : List Int), ls[i]? = some l → ∃ u bi, vs[i]? = some u ∧ k ≤ bi ∧ bi ≠ b ∧ bi < H.length ∧ IB bi H u l.length (ints l)
theorem LL.nil {k : Nat} {H : CHeap} : LL k H .nilSlice [] := ⟨k, [], Nat.le_refl _, .inl ⟨rfl, rfl, .inl rfl⟩, rfl, fun i l h => by simp at h⟩
theorem LL.gr {k : Nat} {H H' : CHeap} {v : CV} {ls : List (List Int)} (h : LL k H v ls) (g : Gr H H') : LL k H' v ls := by
  obtain ⟨b, vs, h1, h2, h3, h4⟩ := h
  refine ⟨b, vs, h1, h2.keep (fun hb => g.low b hb), h3, fun i l hi => ?_⟩
  obtain ⟨u, bi, e1, e2, e3, e4, e5⟩ := h4 i l hi
  exact ⟨u, bi, e1, e2, e3, Nat.lt_of_lt_of_le e4 g.len, e5.keep (fun hb => g.low bi hb)⟩
theorem LL.frm {k g : Nat} {o o' : Tags} {H H' : CHeap} {v : CV} {ls : List (List Int)} (h : LL k H v ls) (hd : ∀ c t, o c = some t → c < k) (f : Frm g o H o' H') : LL k H' v ls := by
  obtain ⟨b, vs, h1, h2, h3, h4⟩ := h
  have key : ∀ c, k ≤ c → c < H.length → H'[c]? = H[c]? := fun c hc hl => f.keep c hl (fun x hx => by have := hd c _ hx; omega)
  refine ⟨b, vs, h1, h2.keep (fun hb => key b h1 hb), h3, fun i l hi => ?_⟩
  obtain ⟨u, bi, e1, e2, e3, e4, e5⟩ := h4 i l hi
  exact ⟨u, bi, e1, e2, e3, Nat.lt_of_lt_of_le e4 f.len, e5.keep (fun hb => key bi e2 hb)⟩
theorem LL.push {k : Nat} {H Hc : CHeap} {v vc : CV} {ls : List (List Int)} {l : List Int} (h : LL k H v ls) (hk : k ≤ H.length) (g : Gr H Hc) (hl : H.length < Hc.length) (hv : IL H.length Hc vc l) (hm : ls.length + 1 ≤ 16777216) :
    ∃ v' H', appendTo (Hc ++ [⟨[vc], .rw, 1⟩]) 1 v 1 [vc] = some (v', H') ∧ LL k H' v' (ls ++ [l]) ∧ k ≤ H'.length ∧ ∀ c, c < k → H'[c]? = H[c]? := by
  obtain ⟨b0, vs, h1, h20, h3, h40⟩ := h
  obtain ⟨bc, c1, c2, c3⟩ := hv.one hl
  have hlf : leaf vc = true := c3.leaf
  have hg := g.len
  obtain ⟨b, hb, hkb, h2, hbb⟩ : ∃ b, (b < H.length ∨ Hc.length < b) ∧ k ≤ b ∧ IB b H v ls.length vs ∧ (ls ≠ [] → b = b0) := by
    rcases h20 with h | ⟨c, tl, e, z1, z2, z3⟩
    · exact ⟨Hc.length + 1, .inr (by omega), by omega, .inl h, fun hne => absurd (List.eq_nil_of_length_eq_zero h.1) hne⟩
    · obtain ⟨rfl, -⟩ := One_some.1 z1
      exact ⟨c, .inl (lt_of_get z2), h1, .inr ⟨c, tl, e, z1, z2, z3⟩, fun _ => rfl⟩
  have h4 : ∀ (i : Nat) (l : List Int), ls[i]? = some l → ∃ u bi, vs[i]? = some u ∧ k ≤ bi ∧ bi ≠ b ∧ bi < H.length ∧ IB bi H u l.length (ints l) := fun i l hi => by
    have hne : ls ≠ [] := by rintro rfl; simp at hi
    rw [hbb hne]; exact h40 i l hi
  have h2' : IB b (Hc ++ [⟨[vc], .rw, 1⟩]) v ls.length vs := h2.keep (fun hb => by rw [List.getElem?_append_left (by omega), g.low b hb])
  obtain ⟨v', H', a1, a2, a3, a4⟩ := h2'.append (k := 1) (new := [vc]) (by omega) hm (by simp [hlf]) rfl
  have hcl : (Hc ++ [(⟨[vc], .rw, 1⟩ : Blk)]).length = Hc.length + 1 := by simp
  rw [hcl] at a2 a3 a4
  have low : ∀ c, c < Hc.length → c ≠ b → H'[c]? = Hc[c]? := fun c hc hb => by rw [a4 c (by omega) hb, List.getElem?_append_left hc]
  refine ⟨v', H', a1, ⟨Hc.length + 1, vs ++ [vc], by omega, by simpa using a2, by simp [h3], fun i l' hi => ?_⟩, by omega, fun c hc => ?_⟩
  · rw [List.getElem?_append] at hi
    split at hi
    · rename_i hlt
      obtain ⟨u, bi, e1, e2, e3, e4, e5⟩ := h4 i l' hi
      refine ⟨u, bi, by rw [List.getElem?_append_left (by omega)]; exact e1, e2, by omega, by omega, e5.keep (fun hb => ?_)⟩
      rw [low bi (by omega) e3, g.low bi e4]
    · rename_i hge
      have hil := lt_of_get hi
      simp only [List.length_singleton] at hil
      have hi0 : i = ls.length := by omega
      subst hi0
      simp at hi
      subst hi
      exact ⟨vc, bc, by rw [List.getElem?_append_right (by omega), h3]; simp, by omega, by omega, by omega, c3.keep (fun _ => low bc c2 (by omega))⟩
  · by_cases e : c = b
    · omega
    · rw [low c (by omega) e, g.low c (by omega)]
end Go.Cs

/- ModelRefused: the walk. -/
namespace Go.Cs
open Go
theorem Mdl.doAct_err {M : Mdl} {mu : Int} {x : Act} (h : (M.doAct mu x).2.2 ≠ 0) : (M.doAct mu x).1 = M := by
  unfold Mdl.doAct at h ⊢
  split at h
  · exact absurd rfl h
  · rename_i hc; rw [if_neg hc]
theorem Mdl.step_err {M : Mdl} {x : Stp} (h : (M.step x).2 ≠ 0) : (M.step x).1 = M := by
  unfold Mdl.step at h ⊢
  split at h
  · rename_i c; rw [if_pos c]; exact Mdl.doAct_err h
  · rename_i c
    rw [if_neg c]
    split at h
    · exact absurd rfl h
    · rename_i c
      rw [if_neg c]
      split at h
      · rename_i c
        rw [if_pos c]
        unfold Mdl.push at h ⊢
        split at h
        · split at h
          · rename_i c1 c2; rw [if_pos c1, if_pos c2]
          · exact absurd rfl h
        · rename_i c1; rw [if_neg c1]
      · rename_i c
        rw [if_neg c]
        split at h
        · rename_i c
          rw [if_pos c]
          unfold Mdl.pop at h ⊢
          split at h
          · rfl
          · exact absurd rfl h
        · rename_i c
          rw [if_neg c]
          split at h
          · rename_i c
            rw [if_pos c]
            unfold Mdl.setRef at h ⊢
            split at h
            · split at h
              · exact absurd rfl h
              · rename_i c1 c2; rw [if_pos c1, if_neg c2]
            · rename_i c1; rw [if_neg c1]
          · exact absurd rfl h
theorem Mdl.Ok.stlen {M : Mdl} (w : M.Ok) (hf : M.objs.length ≤ 1000) : M.state.length ≤ 16777216 := by
  have h1 := w.plen
  have h2 := w.olen M.objs.length
  rw [take_all (Nat.le_refl _)] at h2
  simp only [Mdl.state, List.length_append, List.length_cons, List.length_nil]; omega
theorem tag_none {o : Tags} {H : CHeap} (hd : ∀ c t, o c = some t → c < H.length) : o H.length = none := by
  cases h : o H.length with
  | none => rfl
  | some t => have := hd _ _ h; omega
end Go.Cs
namespace Go.Cs.Try
open Go Go.Cs
set_option maxRecDepth 100000
set_option maxHeartbeats 8000000
theorem f8 {o : Tags} {H : CHeap} {v : CV} {l : List Stp} (hd : ∀ c t, o c = some t → c < H.length) (hg : ∀ c k, o c ≠ some (0, k)) (st : Steps o H v l) (nn : Int) (x : Stp) :
    ∃ H', run P 8 [.i nn, v, .agg (stpCells x)] H = some (.bool true, H') := by
  have frb : Frm 0 o H o (H ++ [(⟨stpCells x, .rw, 0⟩ : Blk)]) := .app hd _
  have st0 := st.frm frb
  have hd0 : ∀ c t, o c = some t → c < (H ++ [(⟨stpCells x, .rw, 0⟩ : Blk)]).length := fun c t h => by have := hd c t h; simp; omega
  by_cases hok : (1 ≤ nn ∧ nn ≤ 4) ∧ l.length ≤ 120
  case neg =>
    obtain ⟨H1, e12⟩ := f12_no (H := H ++ [(⟨stpCells x, .rw, 0⟩ : Blk)]) (n := nn) st.len (by omega)
    obtain ⟨H2, e13⟩ := f13 (H := H1)
    apply ex_run
    rw [run_lv c8]
    simp (disch := first | omega | rfl | assumption | (simp only [csN, Nat.reduceAdd, Nat.reduceMul, Nat.reduceLeDiff, Nat.reduceEqDiff] <;> omega) | (simp only [csF]; done) | (simp only [csF] <;> assumption) | fail) only [Nat.reduceEqDiff, Nat.reduceAdd, Nat.reduceMul, Nat.reduceSub, Nat.reduceLeDiff, Int.reduceAdd, Int.reduceSub, Int.reduceMul, Int.reduceLT, Int.reduceLE, Int.reduceGT, Int.reduceGE, Int.reduceEq, Int.reduceBEq, Int.reduceBNe, Int.reduceNeg, Int.reduceToNat, csAll, ↓reduceIte, C8, entry_3, e12, e13]
    rfl
  obtain ⟨hn, hl⟩ := hok
  obtain ⟨n, rfl⟩ : ∃ n : Nat, nn = (n : Int) := ⟨nn.toNat, by omega⟩
  obtain ⟨b, H1, o1, L1, e12, m, fr1⟩ := f12 (g := 0) hd0 hg (n := n) (by omega) hl st0
  obtain ⟨w, hob⟩ := madeM_ok (n := n) (by omega) l (by omega)
  obtain ⟨bx1, bo1⟩ := fr1.kept (k := ⟨stpCells x, .rw, 0⟩) (look_last rfl) (tag_none hd)

  simp only [stpCells] at bx1
  by_cases hk : x.k = 1
  · obtain ⟨H2, e13⟩ := f13 (H := H1)
    apply ex_run
    rw [run_lv c8]
    simp (disch := first | omega | rfl | assumption | (simp only [csN, Nat.reduceAdd, Nat.reduceMul, Nat.reduceLeDiff, Nat.reduceEqDiff] <;> omega) | (simp only [csF]; done) | (simp only [csF] <;> assumption) | fail) only [Nat.reduceEqDiff, Nat.reduceAdd, Nat.reduceMul, Nat.reduceSub, Nat.reduceLeDiff, Int.reduceAdd, Int.reduceSub, Int.reduceMul, Int.reduceLT, Int.reduceLE, Int.reduceGT, Int.reduceGE, Int.reduceEq, Int.reduceBEq, Int.reduceBNe, Int.reduceNeg, Int.reduceToNat, csAll, ↓reduceIte, C8, entry_3, e12, e13, bx1, hk]
    rfl
  obtain ⟨v8, H2, e28, g2, i2⟩ := f28 m w (by omega)
  have m2 := m.gr g2
  obtain ⟨H3, o3, L3, e21, m3, fr3⟩ := f21 m2 w (by omega) x
  have bx2 := g2.get bx1
  simp only [stpCells] at e21
  by_cases he : ((madeM n l).step x).2 = 0
  · obtain ⟨Hf, ef⟩ := f13 (H := H3)
    rw [he] at e21
    apply ex_run
    rw [run_lv c8]
    simp (disch := first | omega | rfl | assumption | (simp only [csN, Nat.reduceAdd, Nat.reduceMul, Nat.reduceLeDiff, Nat.reduceEqDiff] <;> omega) | (simp only [csF]; done) | (simp only [csF] <;> assumption) | fail) only [Nat.reduceEqDiff, Nat.reduceAdd, Nat.reduceMul, Nat.reduceSub, Nat.reduceLeDiff, Int.reduceAdd, Int.reduceSub, Int.reduceMul, Int.reduceLT, Int.reduceLE, Int.reduceGT, Int.reduceGE, Int.reduceEq, Int.reduceBEq, Int.reduceBNe, Int.reduceNeg, Int.reduceToNat, csAll, ↓reduceIte, C8, entry_3, e12, e28, e21, ef, bx1, bx2, hk]
    rfl
  · rw [Mdl.step_err he] at m3
    obtain ⟨v30, H4, e30, g4, i4⟩ := f28 m3 w (by omega)
    have a2 := ((At.un' i2 m.dom).unFrm fr3).gr g4
    have e26 := f26 (l := (madeM n l).state) (l' := (madeM n l).state) i4 a2 (w.stlen (by omega))
    simp only [decide_true] at e26
    obtain ⟨Hf, ef⟩ := f13 (H := H4)
    apply ex_run
    rw [run_lv c8]
    simp (disch := first | omega | rfl | assumption | (simp only [csN, Nat.reduceAdd, Nat.reduceMul, Nat.reduceLeDiff, Nat.reduceEqDiff] <;> omega) | (simp only [csF]; done) | (simp only [csF] <;> assumption) | fail) only [Nat.reduceEqDiff, Nat.reduceAdd, Nat.reduceMul, Nat.reduceSub, Nat.reduceLeDiff, Int.reduceAdd, Int.reduceSub, Int.reduceMul, Int.reduceLT, Int.reduceLE, Int.reduceGT, Int.reduceGE, Int.reduceEq, Int.reduceBEq, Int.reduceBNe, Int.reduceNeg, Int.reduceToNat, csAll, ↓reduceIte, C8, entry_3, e12, e28, e21, e30, e26, ef, bx1, bx2, hk, he]
    rfl
end Go.Cs.Try

/- ModelTold: the walk. -/
namespace Go.Cs
open Go
theorem flat_get : ∀ {L : List (List Int)} (_ : ∀ s ∈ L, s.length = 16) (i : Nat), L.flatten[i]? = (L[i / 16]?).bind fun s => s[i % 16]?
  | [], _, i => by simp
  | a :: l, h, i => by
    rw [List.flatten_cons, List.getElem?_append, h a List.mem_cons_self]
    split
    · rename_i hi
      have h1 : i / 16 = 0 := by omega
      have h2 : i % 16 = i := by omega
      rw [h1, h2]; rfl
    · rename_i hi
      have h1 : i / 16 = (i - 16) / 16 + 1 := by omega
      have h2 : i % 16 = (i - 16) % 16 := by omega
      rw [flat_get (L := l) (fun s hs => h s (List.mem_cons_of_mem _ hs)), h1, h2]; rfl
theorem Mdl.doAct_slots (M : Mdl) (mu : Int) (x : Act) : (M.doAct mu x).1.slots = M.slots ∨
    ∃ z, (0 ≤ mu ∧ mu < (M.slots.length : Int)) ∧ (0 ≤ x.a ∧ x.a < 16) ∧ (M.doAct mu x).1.slots = M.slots.set mu.toNat ((M.slots.getD mu.toNat []).set x.a.toNat z) := by
  by_cases h : M.errOf mu x = 0
  · obtain ⟨⟨h1, h2, h12⟩, ⟨h3, -⟩, -⟩ := Mdl.errOf_0 h
    have hd : (M.doAct mu x).1 = (M.eff mu.toNat (M.slots.getD mu.toNat []) x).1 := by unfold Mdl.doAct; rw [if_pos h]
    rw [hd]
    rcases k12 h12 with e | e | e | e | e | e | e | e | e | e | e | e <;> simp only [Mdl.eff, e, Int.reduceEq, ↓reduceIte] <;> first
      | exact Or.inr ⟨_, ⟨h1, h2⟩, h3, rfl⟩
      | exact Or.inl rfl
      | exact Or.inl trivial
  · exact .inl (by unfold Mdl.doAct; rw [if_neg h])
theorem places_get {M : Mdl} (w : M.Ok) {i : Nat} (hi : i < 16 * M.slots.length) : M.places[i]? = (M.slots[i / 16]?).bind fun s => s[i % 16]? := by
  have h16 := fun s hs => (w.s16 s hs).1
  unfold Mdl.places
  rw [List.append_assoc, List.getElem?_append_left (by rw [flat16 h16]; exact hi), flat_get h16]
/-- What an act may change among the slots. -/
theorem Mdl.told {M : Mdl} (w : M.Ok) {mu : Int} {x : Act} (w' : (M.doAct mu x).1.Ok) : (M.doAct mu x).1.slots.length = M.slots.length ∧ ∃ p : Nat, ∀ i, i < 16 * M.slots.length → (M.doAct mu x).1.places[i]? ≠ M.places[i]? → ((i : Int).tdiv 16 = mu ∧ (i : Int).tmod 16 = x.a) ∧ i = p := by
  rcases Mdl.doAct_slots M mu x with h | ⟨z, h1, h2, h3⟩
  · refine ⟨by rw [h], 0, fun i hi hne => ?_⟩
    rw [places_get w hi, places_get w' (by rw [h]; exact hi), h] at hne
    exact absurd rfl hne
  · have hl : (M.doAct mu x).1.slots.length = M.slots.length := by rw [h3, List.length_set]
    refine ⟨hl, 16 * mu.toNat + x.a.toNat, fun i hi hne => ?_⟩
    rw [places_get w hi, places_get w' (by rw [hl]; exact hi), h3] at hne
    have hi' : i / 16 < M.slots.length := by omega
    by_cases e : i / 16 = mu.toNat
    · by_cases e' : i % 16 = x.a.toNat
      · rw [Int.tdiv_eq_ediv_of_nonneg (by omega), Int.tmod_eq_emod_of_nonneg (by omega)]
        refine ⟨⟨by omega, by omega⟩, by omega⟩
      · refine absurd ?_ hne
        rw [e, List.getElem?_set_self (by omega), getD_of [] (show mu.toNat < M.slots.length by omega)]
        simp only [Option.bind_some]
        rw [List.getElem?_set_ne (fun h => e' h.symm)]
    · exact absurd (by rw [List.getElem?_set_ne (fun h => e h.symm)]) hne
end Go.Cs
namespace Go.Cs.Try
open Go Go.Cs
set_option maxRecDepth 100000
set_option maxHeartbeats 8000000

theorem l4_1 {o o1 o2 : Tags} {g : Nat} {b : Nat} {M : Mdl} {L : Lay} {H : CHeap} (m : MRep o g H b M L) (w : M.Ok) {od nw : List Int} {t1 t2 : Tag} {vo vn : CV} (ho : At o1 t1 H vo 1 od.length (Go.Cs.ints od)) (hn : At o2 t2 H vn 1 nw.length (Go.Cs.ints nw))
    (hol : 16 * M.slots.length ≤ od.length) (hnl : 16 * M.slots.length ≤ nw.length) {bx : Nat} {x : Stp} (hb : H[bx]? = some ⟨stpCells { x with k := 0 }, .rw, 0⟩) {p : Nat}
    (hc : ∀ i, i < 16 * M.slots.length → nw[i]? ≠ od[i]? → ((i : Int).tdiv 16 = x.mu ∧ (i : Int).tmod 16 = x.act.a) ∧ i = p)
    {E0 : Env} (h5 : E0 5 = .ptr bx 0) (h7 : E0 7 = .ptr b 0) (h8 : E0 8 = vo) (h9 : E0 9 = vn) (h10 : E0 10 = .i 0) (h11 : E0 11 = .i 0)
    {r : Option (CX × Env × CHeap)} (hr : den P (.loop C4_1) E0 H = r) :
    ∃ E' c, r = some (.exit 0, E', H) ∧ E' 10 = .i c ∧ c ≤ 1 := by
  have hns := w.ns
  have d1 := f22 m w
  simp only [stpCells] at hb
  obtain ⟨x', E', H', e, -, ⟨rfl, g1, c, g2, g3⟩, fr⟩ := loop_at (p := P) (c := C4_1) (E0 := E0) (H0 := H) (fun k E H' => H' = H ∧ ∃ (j : Nat) (c : Int), E 11 = .i j ∧ j ≤ 16 * M.slots.length ∧ k = 16 * M.slots.length - j ∧ E 10 = .i c ∧ 0 ≤ c ∧ c ≤ 1 ∧ (j ≤ p → c = 0))
    (fun x E' H' => x = .exit 0 ∧ H' = H ∧ ∃ c, E' 10 = .i c ∧ c ≤ 1) (by
      rintro k E H' hE ⟨rfl, j, c, e11, hj, rfl, e10, hc0, hc1, hcp⟩
      have e5 := (hE 5 (by decide +kernel)).trans h5
      have e7 := (hE 7 (by decide +kernel)).trans h7
      have e8 := (hE 8 (by decide +kernel)).trans h8
      have e9 := (hE 9 (by decide +kernel)).trans h9
      have hm : IntKind.i64.wrap ((M.slots.length : Int) * 16) = ((16 * M.slots.length : Nat) : Int) := by rw [wrap_id (by omega)]; omega
      by_cases cj : j < 16 * M.slots.length
      · obtain ⟨tl, q1, -, q3, q4⟩ := ho.pos (by omega)
        obtain ⟨tl', p1, -, p3, p4⟩ := hn.pos (by omega)
        have hgo : (Go.Cs.ints od)[j]? = some (.i (od.getD j 0)) := by rw [ints_get, getD_of 0 (by omega)]; rfl
        have hgn : (Go.Cs.ints nw)[j]? = some (.i (nw.getD j 0)) := by rw [ints_get, getD_of 0 (by omega)]; rfl
        have hw := wrapS j (by omega)
        rw [q1] at e8
        rw [p1] at e9
        by_cases heq : nw.getD j 0 = od.getD j 0
        · apply step_go (k' := 16 * M.slots.length - (j + 1))
          · simp (disch := first | omega | rfl | assumption | (simp only [csN, Nat.reduceAdd, Nat.reduceMul, Nat.reduceLeDiff, Nat.reduceEqDiff] <;> omega) | (simp only [csF]; done) | (simp only [csF] <;> assumption) | fail) only [Nat.reduceEqDiff, Nat.reduceAdd, Nat.reduceMul, Nat.reduceSub, Nat.reduceLeDiff, Int.reduceAdd, Int.reduceSub, Int.reduceMul, Int.reduceLT, Int.reduceLE, Int.reduceGT, Int.reduceGE, Int.reduceEq, Int.reduceBEq, Int.reduceBNe, Int.reduceNeg, Int.reduceToNat, csAll, ↓reduceIte, C4_1, e5, e7, e8, e9, e10, e11, d1, hm, q3, p3, hgo, hgn, heq, hw]
            rfl
          · omega
          · refine ⟨rfl, j + 1, c, by simp [upd_apply], by omega, rfl, by simp [upd_apply, e10], hc0, hc1, fun h => hcp (by omega)⟩
        · obtain ⟨⟨z1, z2⟩, z3⟩ := hc j cj (by rw [getD_of 0 (show j < nw.length by omega), getD_of 0 (show j < od.length by omega)]; simpa using heq)
          have hc00 := hcp (by omega)
          subst hc00
          have hwd : IntKind.i64.wrap ((j : Int).tdiv 16) = x.mu := by rw [z1]; rw [← z1, wrap_id]; rw [Int.tdiv_eq_ediv_of_nonneg (by omega)]; omega
          apply step_go (k' := 16 * M.slots.length - (j + 1))
          · simp (disch := first | omega | rfl | assumption | (simp only [csN, Nat.reduceAdd, Nat.reduceMul, Nat.reduceLeDiff, Nat.reduceEqDiff] <;> omega) | (simp only [csF]; done) | (simp only [csF] <;> assumption) | fail) only [Nat.reduceEqDiff, Nat.reduceAdd, Nat.reduceMul, Nat.reduceSub, Nat.reduceLeDiff, Int.reduceAdd, Int.reduceSub, Int.reduceMul, Int.reduceLT, Int.reduceLE, Int.reduceGT, Int.reduceGE, Int.reduceEq, Int.reduceBEq, Int.reduceBNe, Int.reduceNeg, Int.reduceToNat, csAll, ↓reduceIte, C4_1, e5, e7, e8, e9, e10, e11, d1, hm, q3, p3, hgo, hgn, heq, hw, vBin_quo, vBin_rem, hwd, z2, hb]
            rfl
          · omega
          · refine ⟨rfl, j + 1, 1, by simp [upd_apply], by omega, rfl, by simp [upd_apply], by omega, by omega, fun h => by omega⟩
      · apply step_out (x := .exit 0)
        · simp (disch := first | omega | rfl | assumption | (simp only [csN, Nat.reduceAdd, Nat.reduceMul, Nat.reduceLeDiff, Nat.reduceEqDiff] <;> omega) | (simp only [csF]; done) | (simp only [csF] <;> assumption) | fail) only [Nat.reduceEqDiff, Nat.reduceAdd, Nat.reduceMul, Nat.reduceSub, Nat.reduceLeDiff, Int.reduceAdd, Int.reduceSub, Int.reduceMul, Int.reduceLT, Int.reduceLE, Int.reduceGT, Int.reduceGE, Int.reduceEq, Int.reduceBEq, Int.reduceBNe, Int.reduceNeg, Int.reduceToNat, csAll, ↓reduceIte, C4_1, e7, e11, d1, hm]
          rfl
        · simp
        · exact ⟨rfl, rfl, c, by simp [upd_apply, e10], hc1⟩) _ ⟨rfl, 0, 0, h11, by omega, rfl, h10, by omega, by omega, fun _ => rfl⟩
  subst g1
  exact ⟨E', c, hr.symm.trans e, g2, g3⟩

theorem f4 {o : Tags} {H : CHeap} {v : CV} {l : List Stp} (hd : ∀ c t, o c = some t → c < H.length) (hg : ∀ c k, o c ≠ some (0, k)) (st : Steps o H v l) (nn : Int) (x : Stp) :
    ∃ H', run P 4 [.i nn, v, .agg (stpCells x)] H = some (.bool true, H') := by
  have frb : Frm 0 o H o (H ++ [(⟨stpCells x, .rw, 0⟩ : Blk)]) := .app hd _
  have st0 := st.frm frb
  have hd0 : ∀ c t, o c = some t → c < (H ++ [(⟨stpCells x, .rw, 0⟩ : Blk)]).length := fun c t h => by have := hd c t h; simp; omega
  by_cases hok : (1 ≤ nn ∧ nn ≤ 4) ∧ l.length ≤ 120
  case neg =>
    obtain ⟨H1, e12⟩ := f12_no (H := H ++ [(⟨stpCells x, .rw, 0⟩ : Blk)]) (n := nn) st.len (by omega)
    obtain ⟨H2, e13⟩ := f13 (H := H1)
    apply ex_run
    rw [run_lv c4]
    simp (disch := first | omega | rfl | assumption | (simp only [csN, Nat.reduceAdd, Nat.reduceMul, Nat.reduceLeDiff, Nat.reduceEqDiff] <;> omega) | (simp only [csF]; done) | (simp only [csF] <;> assumption) | fail) only [Nat.reduceEqDiff, Nat.reduceAdd, Nat.reduceMul, Nat.reduceSub, Nat.reduceLeDiff, Int.reduceAdd, Int.reduceSub, Int.reduceMul, Int.reduceLT, Int.reduceLE, Int.reduceGT, Int.reduceGE, Int.reduceEq, Int.reduceBEq, Int.reduceBNe, Int.reduceNeg, Int.reduceToNat, csAll, ↓reduceIte, C4, entry_3, e12, e13]
    rfl
  obtain ⟨hn, hl⟩ := hok
  obtain ⟨n, rfl⟩ : ∃ n : Nat, nn = (n : Int) := ⟨nn.toNat, by omega⟩
  obtain ⟨b, H1, o1, L1, e12, m, fr1⟩ := f12 (g := 0) hd0 hg (n := n) (by omega) hl st0
  obtain ⟨w, hob⟩ := madeM_ok (n := n) (by omega) l (by omega)
  obtain ⟨bx1, bo1⟩ := fr1.kept (k := ⟨stpCells x, .rw, 0⟩) (look_last rfl) (tag_none hd)
  simp only [stpCells] at bx1
  generalize hM : madeM n l = M at *
  obtain ⟨v8, H2, e20, g2, i2⟩ := f20 m w
  have m2 := m.gr g2
  have bx2 := g2.get bx1
  have hb2 := lt_of_get bx2
  -- the kind of the call is 0 now
  have hlt : H.length < H1.length := lt_of_get bx1
  have m3 : MRep o1 0 (H2.set H.length ⟨stpCells { x with k := 0 }, .rw, 0⟩) b M L1 := m2.frame (fun c t h => by simp; exact m2.dom c t h) (fun _ _ h => h) (fun c k h => look_set_ne (by rintro rfl; rw [bo1] at h; cases h))
  have i3 : IL H1.length (H2.set H.length ⟨stpCells { x with k := 0 }, .rw, 0⟩) v8 M.places := i2.frame (fun _ h => h) (fun c h => look_set_ne (by have := (Loc_some.1 h).1; omega))
  have bx3 : (H2.set H.length ⟨stpCells { x with k := 0 }, .rw, 0⟩)[H.length]? = some ⟨stpCells { x with k := 0 }, .rw, 0⟩ := by rw [List.getElem?_set_self hb2]
  obtain ⟨H4, o3, L3, e21, m4, fr4⟩ := f21 m3 w (by omega) { x with k := 0 }
  obtain ⟨bx4, bo4⟩ := fr4.kept bx3 bo1
  have hst : (M.step { x with k := 0 }).1 = (M.doAct x.mu x.act).1 := by unfold Mdl.step; rw [if_pos rfl]
  have w4 : (M.doAct x.mu x.act).1.Ok := (w.doAct (by omega)).1
  rw [hst] at m4
  obtain ⟨v9, H5, e20', g5, i5⟩ := f20 m4 w4
  obtain ⟨hsl, p, hp⟩ := Mdl.told w w4
  have bx5 := g5.get bx4
  have i4 := ((At.un' i3 m.dom).unFrm fr4).gr g5
  have h16 := flat16 (fun s hs => (w4.s16 s hs).1)
  have h16' := flat16 (fun s hs => (w.s16 s hs).1)
  obtain ⟨Hf, ef⟩ := f13 (H := H5)
  simp only [stpCells] at bx3 e21
  apply ex_run
  rw [run_lv c4]
  simp (disch := first | omega | rfl | assumption | (simp only [csN, Nat.reduceAdd, Nat.reduceMul, Nat.reduceLeDiff, Nat.reduceEqDiff] <;> omega) | (simp only [csF]; done) | (simp only [csF] <;> assumption) | fail) only [Nat.reduceEqDiff, Nat.reduceAdd, Nat.reduceMul, Nat.reduceSub, Nat.reduceLeDiff, Int.reduceAdd, Int.reduceSub, Int.reduceMul, Int.reduceLT, Int.reduceLE, Int.reduceGT, Int.reduceGE, Int.reduceEq, Int.reduceBEq, Int.reduceBNe, Int.reduceNeg, Int.reduceToNat, csAll, ↓reduceIte, C4, entry_3, e12, e20, bx1, bx2, bx3, e21, e20']
  generalize hr : den P (.loop C4_1) _ _ = r
  obtain ⟨E6, c, rfl, k1, k2⟩ := l4_1 (m4.gr g5) w4 i4 i5 (by rw [hsl]; simp only [Mdl.places, List.length_append]; omega) (by simp only [Mdl.places, List.length_append]; omega) bx5 (p := p) (by rw [hsl]; exact hp) (by simp only [upd_apply, Nat.reduceEqDiff, ↓reduceIte]) (by simp only [upd_apply, Nat.reduceEqDiff, ↓reduceIte]) (by simp only [upd_apply, Nat.reduceEqDiff, ↓reduceIte]) (by simp only [upd_apply, Nat.reduceEqDiff, ↓reduceIte]) (by simp only [upd_apply, Nat.reduceEqDiff, ↓reduceIte]) (by simp only [upd_apply, Nat.reduceEqDiff, ↓reduceIte]) hr
  simp (disch := first | omega | rfl | assumption | (simp only [csN, Nat.reduceAdd, Nat.reduceMul, Nat.reduceLeDiff, Nat.reduceEqDiff] <;> omega) | (simp only [csF]; done) | (simp only [csF] <;> assumption) | fail) only [Nat.reduceEqDiff, Nat.reduceAdd, Nat.reduceMul, Nat.reduceSub, Nat.reduceLeDiff, Int.reduceAdd, Int.reduceSub, Int.reduceMul, Int.reduceLT, Int.reduceLE, Int.reduceGT, Int.reduceGE, Int.reduceEq, Int.reduceBEq, Int.reduceBNe, Int.reduceNeg, Int.reduceToNat, csAll, ↓reduceIte, k1, ef]
  rfl
end Go.Cs.Try

/- ModelMore: its loops. -/
namespace Go.Cs.Try
open Go Go.Cs
set_option maxRecDepth 100000
section
variable {H : CHeap}

theorem l3_2 {o : Tags} {t : Tag} {v : CV} {l : List Int} {ks : List Bool} {ab : Nat} (hsz : l.length ≤ 1000000) (a : At o t H v 1 l.length (Go.Cs.ints l)) (hb : H[ab]? = some ⟨bools ks, .rw, 1⟩) (hl : ∀ u ∈ l, 0 ≤ u ∧ u.toNat < ks.length ∧ on ks u = true) (E0 : Env) :
    LoopOk P C3_2 (fun k E H' => H' = H ∧ E 18 = .slice ab 0 ks.length ks.length 1 false ∧ E 12 = v ∧ ∃ i : Nat, E 20 = .i i ∧ i ≤ l.length ∧ k = l.length - i ∧ ∀ t, t < 20 → E t = E0 t)
      (fun x E' H' => H' = H ∧ x = .exit 0 ∧ ∀ t, t < 20 → E' t = E0 t) := by
  refine loop_ind ?_
  rintro k E H' ⟨rfl, h18, h12, i, h20, hi, rfl, hE⟩
  have hlen := a.len
  by_cases c : i < l.length
  · obtain ⟨tl, d1, -, d3, d4⟩ := a.pos (by omega)
    have hg : (Go.Cs.ints l)[i]? = some (.i l[i]) := by rw [ints_get, List.getElem?_eq_getElem c]; rfl
    obtain ⟨u1, u2, u3⟩ := hl l[i] (List.getElem_mem _)
    have hk := on_get (ks := ks) (v := l[i]) u2
    rw [u3] at hk
    have hw : IntKind.i64.wrap ((i : Int) + 1) = ((i + 1 : Nat) : Int) := by rw [wrap_id (by omega)]; rfl
    have h12' := h12
    rw [d1] at h12' hlen
    apply step_go (k' := l.length - (i + 1))
    · simp (disch := first | omega | rfl | assumption | (simp only [csN, Nat.reduceAdd, Nat.reduceMul, Nat.reduceLeDiff, Nat.reduceEqDiff] <;> omega) | (simp only [csF]; done) | (simp only [csF] <;> assumption) | fail) only [Nat.reduceEqDiff, Nat.reduceAdd, Nat.reduceMul, Nat.reduceSub, Nat.reduceLeDiff, Int.reduceAdd, Int.reduceSub, Int.reduceMul, Int.reduceLT, Int.reduceLE, Int.reduceGT, Int.reduceGE, Int.reduceEq, Int.reduceBEq, Int.reduceBNe, Int.reduceNeg, Int.reduceToNat, csAll, ↓reduceIte, C3_2, h18, h12', h20, hlen, d3, hg, hb, hk, hw]
      rfl
    · omega
    · refine ⟨rfl, by simp [upd_apply, h18], by simp [upd_apply, h12], i + 1, by simp [upd_apply], by omega, rfl, fun t ht => ?_⟩
      simp only [upd_apply]
      repeat rw [if_neg (by omega)]
      exact hE t ht
  · apply step_out (x := .exit 0)
    · simp (disch := first | omega | rfl | assumption | (simp only [csN, Nat.reduceAdd, Nat.reduceMul, Nat.reduceLeDiff, Nat.reduceEqDiff] <;> omega) | (simp only [csF]; done) | (simp only [csF] <;> assumption) | fail) only [Nat.reduceEqDiff, Nat.reduceAdd, Nat.reduceMul, Nat.reduceSub, Nat.reduceLeDiff, Int.reduceAdd, Int.reduceSub, Int.reduceMul, Int.reduceLT, Int.reduceLE, Int.reduceGT, Int.reduceGE, Int.reduceEq, Int.reduceBEq, Int.reduceBNe, Int.reduceNeg, Int.reduceToNat, csAll, ↓reduceIte, C3_2, h12, h20, hlen]
      rfl
    · simp
    · refine ⟨rfl, rfl, fun t ht => ?_⟩
      simp only [upd_apply]
      repeat rw [if_neg (by omega)]
      exact hE t ht

theorem l3_1 {o : Tags} {t : Tag} {v : CV} {l : List Int} {ks : List Bool} {ab : Nat} (hsz : l.length ≤ 1000000) (a : At o t H v 1 l.length (Go.Cs.ints l)) (hb : H[ab]? = some ⟨bools ks, .rw, 1⟩) (hl : ∀ u ∈ l, 0 ≤ u ∧ u.toNat < ks.length ∧ on ks u = true) :
    LoopOk P C3_1 (fun k E H' => H' = H ∧ E 19 = .slice ab 0 ks.length ks.length 1 false ∧ E 17 = v ∧ ∃ i : Nat, E 21 = .i i ∧ i ≤ l.length ∧ k = l.length - i)
      (fun x E' H' => H' = H ∧ x = .exit 2) := by
  refine loop_ind ?_
  rintro k E H' ⟨rfl, h18, h12, i, h20, hi, rfl⟩
  have hlen := a.len
  by_cases c : i < l.length
  · obtain ⟨tl, d1, -, d3, d4⟩ := a.pos (by omega)
    have hg : (Go.Cs.ints l)[i]? = some (.i l[i]) := by rw [ints_get, List.getElem?_eq_getElem c]; rfl
    obtain ⟨u1, u2, u3⟩ := hl l[i] (List.getElem_mem _)
    have hk := on_get (ks := ks) (v := l[i]) u2
    rw [u3] at hk
    have hw : IntKind.i64.wrap ((i : Int) + 1) = ((i + 1 : Nat) : Int) := by rw [wrap_id (by omega)]; rfl
    have h12' := h12
    rw [d1] at h12' hlen
    apply step_go (k' := l.length - (i + 1))
    · simp (disch := first | omega | rfl | assumption | (simp only [csN, Nat.reduceAdd, Nat.reduceMul, Nat.reduceLeDiff, Nat.reduceEqDiff] <;> omega) | (simp only [csF]; done) | (simp only [csF] <;> assumption) | fail) only [Nat.reduceEqDiff, Nat.reduceAdd, Nat.reduceMul, Nat.reduceSub, Nat.reduceLeDiff, Int.reduceAdd, Int.reduceSub, Int.reduceMul, Int.reduceLT, Int.reduceLE, Int.reduceGT, Int.reduceGE, Int.reduceEq, Int.reduceBEq, Int.reduceBNe, Int.reduceNeg, Int.reduceToNat, csAll, ↓reduceIte, C3_1, h18, h12', h20, hlen, d3, hg, hb, hk, hw]
      rfl
    · omega
    · exact ⟨rfl, by simp [upd_apply, h18], by simp [upd_apply, h12], i + 1, by simp [upd_apply], by omega, rfl⟩
  · apply step_out (x := .exit 2)
    · simp (disch := first | omega | rfl | assumption | (simp only [csN, Nat.reduceAdd, Nat.reduceMul, Nat.reduceLeDiff, Nat.reduceEqDiff] <;> omega) | (simp only [csF]; done) | (simp only [csF] <;> assumption) | fail) only [Nat.reduceEqDiff, Nat.reduceAdd, Nat.reduceMul, Nat.reduceSub, Nat.reduceLeDiff, Int.reduceAdd, Int.reduceSub, Int.reduceMul, Int.reduceLT, Int.reduceLE, Int.reduceGT, Int.reduceGE, Int.reduceEq, Int.reduceBEq, Int.reduceBNe, Int.reduceNeg, Int.reduceToNat, csAll, ↓reduceIte, C3_1, h12, h20, hlen]
      rfl
    · simp
    · exact ⟨rfl, rfl⟩
end
end Go.Cs.Try

/- ModelMore, plainly: with more, no less is kept. -/
namespace Go.Cs
open Go
theorem mem_keptI {M : Mdl} (w : M.Ok) {v : Int} : v ∈ M.keptI ↔ Kp M v := by
  unfold Mdl.keptI idxs
  simp only [List.mem_map, List.mem_filter, List.mem_range]
  have hg : ∀ i, i < M.objs.length + 1 → (M.keptL.getD i false = true ↔ Kp M (i : Int)) := by
    intro i hi
    unfold Mdl.keptL
    rw [List.getD_eq_getElem?_getD, List.getElem?_map, List.getElem?_range hi]
    simp
  constructor
  · rintro ⟨i, ⟨h1, h2⟩, rfl⟩
    exact (hg i h1).1 h2
  · intro h
    have hh := Kp.has w h
    unfold Mdl.has at hh
    refine ⟨v.toNat, ⟨by omega, ?_⟩, by omega⟩
    rw [hg v.toNat (by omega)]
    have : ((v.toNat : Nat) : Int) = v := by omega
    rw [this]; exact h

theorem Kp.push {M : Mdl} {n v : Int} (h : Kp M v) : Kp (M.push n).1 v := by
  unfold Mdl.push
  split
  · split
    · exact h
    · induction h with
      | root h hz =>
        refine .root ?_ hz
        unfold Mdl.places at h ⊢
        simp only [List.mem_append] at h ⊢
        rcases h with (h | h) | h
        · exact .inl (.inl h)
        · exact .inl (.inr h)
        · exact .inr (.inl h)
      | strong _ h hz ih => exact .strong ih h hz
      | eph _ h1 _ hz ih ih2 => exact .eph ih h1 ih2 hz
  · exact h

theorem setObj_obj {M : Mdl} {n k : Int} (hn : M.has n) (hk : 1 ≤ k) {x : Obj} : (M.setObj n x).obj k = if k = n then x else M.obj k := by
  unfold Mdl.has at hn
  unfold Mdl.setObj Mdl.obj
  simp only [List.getD_eq_getElem?_getD]
  by_cases h : k = n
  · subst h
    rw [if_pos rfl, List.getElem?_set_self (by omega)]; rfl
  · rw [if_neg h, List.getElem?_set_ne (by omega)]

theorem Kp.setRef {M : Mdl} (w : M.Ok) {n i to v : Int} (hn : M.has n) (hk : (M.obj n).kd = 0) (hz : elAt (M.obj n).refs i = (0, 0)) (h : Kp M v) : Kp (M.setRef n i to).1 v := by
  have hi : 0 ≤ i ∧ i < ((M.obj n).refs.length : Int) ∧ (M.obj n).refs.getD i.toNat 0 = 0 := by
    unfold elAt at hz
    split at hz
    · rename_i h
      simp only [Prod.mk.injEq] at hz
      exact ⟨h.1, h.2, hz.1⟩
    · simp at hz
  unfold Mdl.setRef
  rw [if_pos hn]
  split
  · dsimp only
    induction h with
    | root h hz => exact .root h hz
    | @strong k u h hu hz ih =>
      have hh := Kp.has w h
      have hob := setObj_obj (M := M) (k := k) hn hh.1 (x := { M.obj n with refs := (M.obj n).refs.set i.toNat to })
      refine .strong ih ?_ hz
      rw [hob]
      by_cases e : k = n
      · subst e
        rw [if_pos rfl]
        show u ∈ ((M.obj k).refs.set i.toNat to).drop (soft (M.obj k).kd)
        have hs : soft (M.obj k).kd = 0 := by unfold soft; rw [hk]; rfl
        rw [hs] at hu ⊢
        simp only [List.drop_zero] at hu ⊢
        obtain ⟨j, hj, rfl⟩ := List.mem_iff_getElem.1 hu
        have hne : j ≠ i.toNat := by
          rintro rfl
          apply hz
          have := hi.2.2
          rw [List.getD_eq_getElem?_getD, List.getElem?_eq_getElem hj] at this
          exact this
        refine List.mem_iff_getElem.2 ⟨j, by simpa using hj, ?_⟩
        rw [List.getElem_set_ne (Ne.symm hne)]
      · rw [if_neg e]; exact hu
    | @eph k h h1 _ hz ih ih2 =>
      have hh := Kp.has w h
      have hob := setObj_obj (M := M) (k := k) hn hh.1 (x := { M.obj n with refs := (M.obj n).refs.set i.toNat to })
      have hne : k ≠ n := by rintro rfl; rw [hk] at h1; omega
      rw [if_neg hne] at hob
      have := Kp.eph (M := M.setObj n { M.obj n with refs := (M.obj n).refs.set i.toNat to }) ih (by rw [hob]; exact h1) (by rw [hob]; exact ih2) (by rw [hob]; exact hz)
      rw [hob] at this
      exact this
  · exact h
end Go.Cs

/- ModelNever: the walk. -/
namespace Go.Cs
open Go
/-- Of an object: its shape is as it was. -/
def sameS (x y : Obj) : Prop := y.nr = x.nr ∧ y.nd = x.nd ∧ y.kd = x.kd
theorem Mdl.obj_app {M : Mdl} {n : Int} (hn : M.has n) {y : Obj} : ({ M with objs := M.objs ++ [y] } : Mdl).obj n = M.obj n := by
  unfold Mdl.has at hn
  unfold Mdl.obj
  simp only [List.getD_eq_getElem?_getD]
  rw [List.getElem?_append_left (by omega)]
theorem coll_same {M : Mdl} (w : M.Ok) {ks : List Bool} : ∀ {i : Nat}, i ≤ M.objs.length → ∀ n, M.has n → sameS (M.obj n) ((M.coll ks i).1.obj n)
  | 0, _, n, _ => ⟨rfl, rfl, rfl⟩
  | i + 1, hi, n, hn => by
    have ih := coll_same w (ks := ks) (i := i) (by omega) n hn
    obtain ⟨h1, h2⟩ := Mdl.coll_ok w (ks := ks) (i := i) (by omega)
    unfold Mdl.coll
    split
    · rename_i x e
      have hh : (M.coll ks i).1.has ((i + 1 : Nat) : Int) := by unfold Mdl.has; omega
      have hc := cObj_ok (h1.obj hh) e
      rw [setObj_obj hh hn.1]
      split
      · rename_i e'; subst e'; exact ⟨hc.2.1.trans ih.1, hc.2.2.1.trans ih.2.1, hc.2.2.2.1.trans ih.2.2⟩
      · exact ih
    · exact ih
/-- The object that a call names. -/
def ofS (M : Mdl) (x : Stp) : Int := if x.k = 4 then x.a else if x.k = 0 ∧ x.act.k ≠ 6 then (M.slotAt x.mu x.act.a).1 else 0
theorem eff_never {M : Mdl} (w : M.Ok) {mu : Int} {x : Act} {n : Int} (hn : M.has n) : sameS (M.obj n) ((M.doAct mu x).1.obj n) ∧ ((M.doAct mu x).1.obj n ≠ M.obj n → x.k ≠ 6 ∧ n = (M.slotAt mu x.a).1) := by
  by_cases h : M.errOf mu x = 0
  · obtain ⟨⟨h1, h2, h12⟩, ⟨h3, h3'⟩, hv, hz, hi⟩ := Mdl.errOf_0 h
    have hd : (M.doAct mu x).1 = (M.eff mu.toNat (M.slots.getD mu.toNat []) x).1 := by unfold Mdl.doAct; rw [if_pos h]
    have hs : (M.slotAt mu x.a).1 = (M.slots.getD mu.toNat []).getD x.a.toNat 0 := by unfold Mdl.slotAt; rw [if_pos ⟨h1, h2, h3⟩]
    rw [hd, hs]
    have same : ∀ M' : Mdl, M'.objs = M.objs → sameS (M.obj n) (M'.obj n) ∧ (M'.obj n ≠ M.obj n → x.k ≠ 6 ∧ n = (M.slots.getD mu.toNat []).getD x.a.toNat 0) := fun M' e => by
      have : M'.obj n = M.obj n := by unfold Mdl.obj; rw [e]
      rw [this]; exact ⟨⟨rfl, rfl, rfl⟩, fun h => absurd rfl h⟩
    have hs' := getD_of (l := M.slots) (i := mu.toNat) [] (by omega)
    have sh : ∀ y, sameS (M.obj ((M.slots.getD mu.toNat []).getD x.a.toNat 0)) y → (M.slots.getD mu.toNat []).getD x.a.toNat 0 ≠ 0 → x.k ≠ 6 → sameS (M.obj n) ((M.setObj ((M.slots.getD mu.toNat []).getD x.a.toNat 0) y).obj n) ∧ ((M.setObj ((M.slots.getD mu.toNat []).getD x.a.toNat 0) y).obj n ≠ M.obj n → x.k ≠ 6 ∧ n = (M.slots.getD mu.toNat []).getD x.a.toNat 0) := fun y hy hz hk6 => by
      have hh := slotHas w hs' h3 hz
      rw [setObj_obj hh hn.1]
      split
      · rename_i e; rw [e]; exact ⟨hy, fun _ => ⟨hk6, rfl⟩⟩
      · exact ⟨⟨rfl, rfl, rfl⟩, fun h => absurd rfl h⟩
    rcases k12 h12 with e | e | e | e | e | e | e | e | e | e | e | e <;> simp only [Mdl.eff, e, Int.reduceEq, ↓reduceIte]
    · have : (({ M with objs := M.objs ++ [bornObj x] } : Mdl).setSlot mu.toNat (M.slots.getD mu.toNat []) x.a (M.objs.length + 1)).obj n = M.obj n := Mdl.obj_app hn
      rw [this]; exact ⟨⟨rfl, rfl, rfl⟩, fun h => absurd rfl h⟩
    · have := same (M.setSlot mu.toNat (M.slots.getD mu.toNat []) x.a ((M.obj ((M.slots.getD mu.toNat []).getD x.b.toNat 0)).refs.getD x.i.toNat 0)) rfl
      simpa [e] using this
    · have := sh { M.obj ((M.slots.getD mu.toNat []).getD x.a.toNat 0) with refs := (M.obj ((M.slots.getD mu.toNat []).getD x.a.toNat 0)).refs.set x.i.toNat ((M.slots.getD mu.toNat []).getD x.b.toNat 0) } ⟨rfl, rfl, rfl⟩ (by
        have h5 := hz
        have hwn : wNeed x = x.a := by unfold wNeed; rw [if_neg (by omega), if_pos (by omega)]
        rw [hwn] at h5
        exact h5 h3.1) (by omega)
      simpa [e] using this
    · have := sh { M.obj ((M.slots.getD mu.toNat []).getD x.a.toNat 0) with data := (M.obj ((M.slots.getD mu.toNat []).getD x.a.toNat 0)).data.set x.i.toNat x.n } ⟨rfl, rfl, rfl⟩ (by
        have h5 := hz
        have hwn : wNeed x = x.a := by unfold wNeed; rw [if_neg (by omega), if_pos (by omega)]
        rw [hwn] at h5
        exact h5 h3.1) (by omega)
      simpa [e] using this
    all_goals first
      | exact ⟨⟨rfl, rfl, rfl⟩, fun h => absurd rfl h⟩
      | (refine ⟨⟨rfl, rfl, rfl⟩, fun h => absurd ?_ h⟩; rfl)
  · have : (M.doAct mu x).1 = M := by unfold Mdl.doAct; rw [if_neg h]
    rw [this]; exact ⟨⟨rfl, rfl, rfl⟩, fun h => absurd rfl h⟩
theorem Mdl.never {M : Mdl} (w : M.Ok) {x : Stp} {n : Int} (hn : M.has n) : sameS (M.obj n) ((M.step x).1.obj n) ∧ (x.k ≠ 1 → (M.step x).1.obj n ≠ M.obj n → n = ofS M x) := by
  have same : ∀ M' : Mdl, M'.objs = M.objs → sameS (M.obj n) (M'.obj n) ∧ (x.k ≠ 1 → M'.obj n ≠ M.obj n → n = ofS M x) := fun M' e => by
    have : M'.obj n = M.obj n := by unfold Mdl.obj; rw [e]
    rw [this]; exact ⟨⟨rfl, rfl, rfl⟩, fun _ h => absurd rfl h⟩
  unfold Mdl.step
  by_cases c : x.k = 0
  · rw [if_pos c]
    obtain ⟨h1, h2⟩ := eff_never w (mu := x.mu) (x := x.act) hn
    refine ⟨h1, fun _ h => ?_⟩
    obtain ⟨e1, e2⟩ := h2 h
    unfold ofS
    rw [if_neg (by omega), if_pos ⟨c, e1⟩]; exact e2
  rw [if_neg c]
  by_cases c1 : x.k = 1
  · rw [if_pos c1]
    exact ⟨coll_same w (Nat.le_refl _) n hn, fun h => absurd c1 h⟩
  rw [if_neg c1]
  by_cases c2 : x.k = 2
  · rw [if_pos c2]
    refine same _ ?_
    unfold Mdl.push
    split
    · split <;> rfl
    · rfl
  rw [if_neg c2]
  by_cases c3 : x.k = 3
  · rw [if_pos c3]
    refine same _ ?_
    unfold Mdl.pop
    split <;> rfl
  rw [if_neg c3]
  by_cases c4 : x.k = 4
  · rw [if_pos c4]
    unfold Mdl.setRef
    split
    · rename_i hh
      split
      · dsimp only
        rw [setObj_obj hh hn.1]
        split
        · rename_i e; rw [e]
          exact ⟨⟨rfl, rfl, rfl⟩, fun _ _ => by unfold ofS; rw [if_pos c4]⟩
        · exact ⟨⟨rfl, rfl, rfl⟩, fun _ h => absurd rfl h⟩
      · exact ⟨⟨rfl, rfl, rfl⟩, fun _ h => absurd rfl h⟩
    · exact ⟨⟨rfl, rfl, rfl⟩, fun _ h => absurd rfl h⟩
  rw [if_neg c4]
  exact ⟨⟨rfl, rfl, rfl⟩, fun _ h => absurd rfl h⟩
theorem content_ne {x y : Obj} (h : x.content ≠ y.content) : x ≠ y := fun e => h (by rw [e])
theorem content_len {n m : Nat} {x y : Obj} (hx : x.Ok n) (hy : y.Ok m) (h : sameS x y) : y.content.length = x.content.length := by
  have h1 := hx.nr
  have h2 := hx.nd
  have h3 := hy.nr
  have h4 := hy.nd
  obtain ⟨e1, e2, -⟩ := h
  simp only [Obj.content, List.length_append, List.length_cons, List.length_nil]
  rw [e1] at h3; rw [e2] at h4; omega
theorem content_ints (x : Obj) : ints x.content = .i x.nr :: .i x.nd :: .i x.kd :: ints (x.refs ++ x.data) := by simp [Obj.content, ints]
end Go.Cs

/- keeps: whether a kept object keeps another one. -/
namespace Go.Cs
open Go
def keepsP (x : Obj) (ks : List Bool) (other : Int) (i : Nat) : Prop := x.refs.getD i 0 = other ∧ (soft x.kd ≤ i ∨ (x.kd = 2 ∧ i = 1 ∧ on ks (x.refs.getD 0 0) = true))
noncomputable def keepsB (x : Obj) (ks : List Bool) (other : Int) : Bool := open Classical in decide (∃ i, i < x.refs.length ∧ keepsP x ks other i)
theorem keepsB_iff {x : Obj} {ks : List Bool} {other : Int} : keepsB x ks other = true ↔ ∃ i, i < x.refs.length ∧ keepsP x ks other i := by unfold keepsB; simp only [decide_eq_true_eq]
theorem ref_rng {M : Mdl} (w : M.Ok) {n : Int} (hn : M.has n) (i : Nat) : 0 ≤ (M.obj n).refs.getD i 0 ∧ (M.obj n).refs.getD i 0 ≤ (M.objs.length : Int) :=
  getD_mem (P := fun v => 0 ≤ v ∧ v ≤ (M.objs.length : Int)) (w.obj hn).ids ⟨by omega, by omega⟩
end Go.Cs
namespace Go.Cs.Try
open Go Go.Cs
set_option maxRecDepth 100000
set_option maxHeartbeats 8000000
section
variable {o : Tags} {g : Nat} {b : Nat} {M : Mdl} {L : Lay} {H0 H : CHeap}
/-- Strong. -/
theorem f49 {nr nd kd : Int} (hk : 0 ≤ kd ∧ kd ≤ 3) {i : Nat} : run P 49 [.agg [.i nr, .i nd, .i kd], .i i] H = some (.bool (decide (soft kd ≤ i)), H ++ [⟨[.i nr, .i nd, .i kd], .rw, 0⟩]) := by
  rw [run_lv c49]
  by_cases h1 : kd = 1
  · have hs : soft kd = 1 := by unfold soft; rw [if_pos h1]
    rw [hs]
    subst h1
    by_cases hi : 1 ≤ i
    · have hd : decide (1 ≤ i) = true := decide_eq_true hi
      simp (disch := first | omega | rfl | assumption | (simp only [csN, Nat.reduceAdd, Nat.reduceMul, Nat.reduceLeDiff, Nat.reduceEqDiff] <;> omega) | (simp only [csF]; done) | (simp only [csF] <;> assumption) | fail) only [Nat.reduceEqDiff, Nat.reduceAdd, Nat.reduceMul, Nat.reduceSub, Nat.reduceLeDiff, Int.reduceAdd, Int.reduceSub, Int.reduceMul, Int.reduceLT, Int.reduceLE, Int.reduceGT, Int.reduceGE, Int.reduceEq, Int.reduceBEq, Int.reduceBNe, Int.reduceNeg, Int.reduceToNat, csAll, ↓reduceIte, C49, entry_2, hd]
    · have hd : decide (1 ≤ i) = false := decide_eq_false hi
      simp (disch := first | omega | rfl | assumption | (simp only [csN, Nat.reduceAdd, Nat.reduceMul, Nat.reduceLeDiff, Nat.reduceEqDiff] <;> omega) | (simp only [csF]; done) | (simp only [csF] <;> assumption) | fail) only [Nat.reduceEqDiff, Nat.reduceAdd, Nat.reduceMul, Nat.reduceSub, Nat.reduceLeDiff, Int.reduceAdd, Int.reduceSub, Int.reduceMul, Int.reduceLT, Int.reduceLE, Int.reduceGT, Int.reduceGE, Int.reduceEq, Int.reduceBEq, Int.reduceBNe, Int.reduceNeg, Int.reduceToNat, csAll, ↓reduceIte, C49, entry_2, hd]
  · by_cases h2 : kd = 2
    · have hs : soft kd = 2 := by unfold soft; rw [if_neg h1, if_pos h2]
      rw [hs]
      subst h2
      by_cases hi : 2 ≤ i
      · have hd : decide (2 ≤ i) = true := decide_eq_true hi
        simp (disch := first | omega | rfl | assumption | (simp only [csN, Nat.reduceAdd, Nat.reduceMul, Nat.reduceLeDiff, Nat.reduceEqDiff] <;> omega) | (simp only [csF]; done) | (simp only [csF] <;> assumption) | fail) only [Nat.reduceEqDiff, Nat.reduceAdd, Nat.reduceMul, Nat.reduceSub, Nat.reduceLeDiff, Int.reduceAdd, Int.reduceSub, Int.reduceMul, Int.reduceLT, Int.reduceLE, Int.reduceGT, Int.reduceGE, Int.reduceEq, Int.reduceBEq, Int.reduceBNe, Int.reduceNeg, Int.reduceToNat, csAll, ↓reduceIte, C49, entry_2, hd]
      · have hd : decide (2 ≤ i) = false := decide_eq_false hi
        by_cases hi1 : 1 ≤ i
        · simp (disch := first | omega | rfl | assumption | (simp only [csN, Nat.reduceAdd, Nat.reduceMul, Nat.reduceLeDiff, Nat.reduceEqDiff] <;> omega) | (simp only [csF]; done) | (simp only [csF] <;> assumption) | fail) only [Nat.reduceEqDiff, Nat.reduceAdd, Nat.reduceMul, Nat.reduceSub, Nat.reduceLeDiff, Int.reduceAdd, Int.reduceSub, Int.reduceMul, Int.reduceLT, Int.reduceLE, Int.reduceGT, Int.reduceGE, Int.reduceEq, Int.reduceBEq, Int.reduceBNe, Int.reduceNeg, Int.reduceToNat, csAll, ↓reduceIte, C49, entry_2, hd]
        · simp (disch := first | omega | rfl | assumption | (simp only [csN, Nat.reduceAdd, Nat.reduceMul, Nat.reduceLeDiff, Nat.reduceEqDiff] <;> omega) | (simp only [csF]; done) | (simp only [csF] <;> assumption) | fail) only [Nat.reduceEqDiff, Nat.reduceAdd, Nat.reduceMul, Nat.reduceSub, Nat.reduceLeDiff, Int.reduceAdd, Int.reduceSub, Int.reduceMul, Int.reduceLT, Int.reduceLE, Int.reduceGT, Int.reduceGE, Int.reduceEq, Int.reduceBEq, Int.reduceBNe, Int.reduceNeg, Int.reduceToNat, csAll, ↓reduceIte, C49, entry_2, hd]
    · have hs : soft kd = 0 := by unfold soft; rw [if_neg h1, if_neg h2]
      rw [hs]
      have hd : decide (0 ≤ i) = true := decide_eq_true (Nat.zero_le _)
      simp (disch := first | omega | rfl | assumption | (simp only [csN, Nat.reduceAdd, Nat.reduceMul, Nat.reduceLeDiff, Nat.reduceEqDiff] <;> omega) | (simp only [csF]; done) | (simp only [csF] <;> assumption) | fail) only [Nat.reduceEqDiff, Nat.reduceAdd, Nat.reduceMul, Nat.reduceSub, Nat.reduceLeDiff, Int.reduceAdd, Int.reduceSub, Int.reduceMul, Int.reduceLT, Int.reduceLE, Int.reduceGT, Int.reduceGE, Int.reduceEq, Int.reduceBEq, Int.reduceBNe, Int.reduceNeg, Int.reduceToNat, csAll, ↓reduceIte, C49, entry_2, h1, h2, hd]

theorem l27_1 (m : MRep o g H0 b M L) (w : M.Ok) {n other : Int} (hn : M.has n) {ab : Nat} {ks : List Bool} {N : Nat} (hks : ks.length = M.objs.length + 1) (hN : N = ks.length) (hab : H0[ab]? = some ⟨bools ks, .rw, 1⟩)
    {sb : Nat} {sv : Blk} (hsv : sv = ⟨[.i (M.obj n).nr, .i (M.obj n).nd, .i (M.obj n).kd], .rw, 0⟩) (hsb : H[sb]? = some sv)
    {E0 : Env} (h0 : E0 0 = .ptr b 0) (h1 : E0 1 = .slice ab 0 N N 1 false) (h2 : E0 2 = .i n) (h3 : E0 3 = .i other) (h9 : E0 9 = .ptr sb 0) (h11 : E0 11 = .i 0) (gr : Gr H0 H)
    {r : Option (CX × Env × CHeap)} (hr : den P (.loop C27_1) E0 H = r) :
    ∃ x E' H', r = some (x, E', H') ∧ Gr H0 H' ∧ ((x = .exit 0 ∧ ∀ i, i < (M.obj n).refs.length → ¬ keepsP (M.obj n) ks other i) ∨ (x = .ret ∧ E' 8 = .bool true ∧ ∃ i, i < (M.obj n).refs.length ∧ keepsP (M.obj n) ks other i)) := by
  have hob := w.obj hn
  have hnr := hob.nr
  have hkd := hob.kd
  obtain ⟨x, E', H', e, -, ⟨g1, g2⟩, fr⟩ := loop_at (p := P) (c := C27_1) (E0 := E0) (H0 := H) (fun k E H => ∃ j : Nat, E 11 = .i j ∧ j ≤ (M.obj n).refs.length ∧ k = (M.obj n).refs.length - j ∧ Gr H0 H ∧ H[sb]? = some sv ∧ ∀ i, i < j → ¬ keepsP (M.obj n) ks other i)
    (fun x E' H' => Gr H0 H' ∧ ((x = .exit 0 ∧ ∀ i, i < (M.obj n).refs.length → ¬ keepsP (M.obj n) ks other i) ∨ (x = .ret ∧ E' 8 = .bool true ∧ ∃ i, i < (M.obj n).refs.length ∧ keepsP (M.obj n) ks other i))) (by
      rintro k E H hE ⟨j, e11, hj, rfl, gr, hsb, hno⟩
      have e0 := (hE 0 (by decide +kernel)).trans h0
      have e1 := (hE 1 (by decide +kernel)).trans h1
      have e2 := (hE 2 (by decide +kernel)).trans h2
      have e3 := (hE 3 (by decide +kernel)).trans h3
      have e9 := (hE 9 (by decide +kernel)).trans h9
      have hsb' := hsb
      rw [hsv] at hsb'
      by_cases c : j < (M.obj n).refs.length
      · have mm := m.gr gr
        have d1 := f16 mm w n j
        have s1 : M.refAt n j = ((M.obj n).refs.getD j 0, 0) := by unfold Mdl.refAt; rw [if_pos hn, elAt_get c]
        rw [s1] at d1
        simp only [pair2] at d1
        have hw := wrapS j (by omega)
        by_cases ho : (M.obj n).refs.getD j 0 = other
        · have d0 := f16 mm w n 0
          have s0 : M.refAt n 0 = ((M.obj n).refs.getD 0 0, 0) := by unfold Mdl.refAt; rw [if_pos hn]; exact elAt_get (j := 0) (by omega)
          rw [s0] at d0
          simp only [pair2] at d0
          have hr0 := ref_rng w hn 0
          have hmg := on_get (ks := ks) (v := (M.obj n).refs.getD 0 0) (by omega)
          have d49 := f49 (H := H) (nr := (M.obj n).nr) (nd := (M.obj n).nd) (kd := (M.obj n).kd) ⟨hkd.1, hkd.2.1⟩ (i := j)
          have gr2 := gr.app' [(⟨[.i (M.obj n).nr, .i (M.obj n).nd, .i (M.obj n).kd], .rw, 0⟩ : Blk)]
          have hab2 := gr2.get hab
          have hsb2 := (Gr.app H [(⟨[.i (M.obj n).nr, .i (M.obj n).nd, .i (M.obj n).kd], .rw, 0⟩ : Blk)]).get hsb
          have hsb2' := hsb2
          rw [hsv] at hsb2'
          rw [ho] at d1
          by_cases hst : soft (M.obj n).kd ≤ j
          · rw [decide_eq_true hst] at d49
            apply step_out (x := .ret)
            · simp (disch := first | omega | rfl | assumption | (simp only [csN, Nat.reduceAdd, Nat.reduceMul, Nat.reduceLeDiff, Nat.reduceEqDiff] <;> omega) | (simp only [csF]; done) | (simp only [csF] <;> assumption) | fail) only [Nat.reduceEqDiff, Nat.reduceAdd, Nat.reduceMul, Nat.reduceSub, Nat.reduceLeDiff, Int.reduceAdd, Int.reduceSub, Int.reduceMul, Int.reduceLT, Int.reduceLE, Int.reduceGT, Int.reduceGE, Int.reduceEq, Int.reduceBEq, Int.reduceBNe, Int.reduceNeg, Int.reduceToNat, csAll, ↓reduceIte, C27_1, e0, e1, e2, e3, e9, e11, hsb', d1, d0, d49]
              rfl
            · simp
            · exact ⟨gr2, .inr ⟨rfl, by simp [upd_apply], j, c, ho, .inl hst⟩⟩
          · rw [decide_eq_false hst] at d49
            by_cases hk2 : (M.obj n).kd = 2
            · by_cases hj1 : j = 1
              · subst hj1
                cases hon : on ks ((M.obj n).refs.getD 0 0) with
                | true =>
                  rw [hon] at hmg
                  apply step_out (x := .ret)
                  · simp (disch := first | omega | rfl | assumption | (simp only [csN, Nat.reduceAdd, Nat.reduceMul, Nat.reduceLeDiff, Nat.reduceEqDiff] <;> omega) | (simp only [csF]; done) | (simp only [csF] <;> assumption) | fail) only [Nat.reduceEqDiff, Nat.reduceAdd, Nat.reduceMul, Nat.reduceSub, Nat.reduceLeDiff, Int.reduceAdd, Int.reduceSub, Int.reduceMul, Int.reduceLT, Int.reduceLE, Int.reduceGT, Int.reduceGE, Int.reduceEq, Int.reduceBEq, Int.reduceBNe, Int.reduceNeg, Int.reduceToNat, csAll, ↓reduceIte, C27_1, e0, e1, e2, e3, e9, e11, hsb', hsb2', hab2, d1, d0, d49, hmg]
                    rfl
                  · simp
                  · exact ⟨gr2, .inr ⟨rfl, by simp [upd_apply], 1, c, ho, .inr ⟨hk2, rfl, hon⟩⟩⟩
                | false =>
                  rw [hon] at hmg
                  apply step_go (k' := (M.obj n).refs.length - (1 + 1))
                  · simp (disch := first | omega | rfl | assumption | (simp only [csN, Nat.reduceAdd, Nat.reduceMul, Nat.reduceLeDiff, Nat.reduceEqDiff] <;> omega) | (simp only [csF]; done) | (simp only [csF] <;> assumption) | fail) only [Nat.reduceEqDiff, Nat.reduceAdd, Nat.reduceMul, Nat.reduceSub, Nat.reduceLeDiff, Int.reduceAdd, Int.reduceSub, Int.reduceMul, Int.reduceLT, Int.reduceLE, Int.reduceGT, Int.reduceGE, Int.reduceEq, Int.reduceBEq, Int.reduceBNe, Int.reduceNeg, Int.reduceToNat, csAll, ↓reduceIte, C27_1, e0, e1, e2, e3, e9, e11, hsb', hsb2', hab2, d1, d0, d49, hmg, hw]
                    rfl
                  · omega
                  · refine ⟨1 + 1, by simp [upd_apply], by omega, rfl, gr2, hsb2, fun i hi => ?_⟩
                    by_cases e : i = 1
                    · subst e
                      rintro ⟨-, h | ⟨-, -, h⟩⟩
                      · exact hst h
                      · rw [hon] at h; cases h
                    · exact hno i (by omega)
              · apply step_go (k' := (M.obj n).refs.length - (j + 1))
                · simp (disch := first | omega | rfl | assumption | (simp only [csN, Nat.reduceAdd, Nat.reduceMul, Nat.reduceLeDiff, Nat.reduceEqDiff] <;> omega) | (simp only [csF]; done) | (simp only [csF] <;> assumption) | fail) only [Nat.reduceEqDiff, Nat.reduceAdd, Nat.reduceMul, Nat.reduceSub, Nat.reduceLeDiff, Int.reduceAdd, Int.reduceSub, Int.reduceMul, Int.reduceLT, Int.reduceLE, Int.reduceGT, Int.reduceGE, Int.reduceEq, Int.reduceBEq, Int.reduceBNe, Int.reduceNeg, Int.reduceToNat, csAll, ↓reduceIte, C27_1, e0, e1, e2, e3, e9, e11, hsb', hsb2', d1, d0, d49, hw]
                  rfl
                · omega
                · refine ⟨j + 1, by simp [upd_apply], by omega, rfl, gr2, hsb2, fun i hi => ?_⟩
                  by_cases e : i = j
                  · subst e
                    rintro ⟨-, h | ⟨-, h, -⟩⟩
                    · exact hst h
                    · exact hj1 h
                  · exact hno i (by omega)
            · apply step_go (k' := (M.obj n).refs.length - (j + 1))
              · simp (disch := first | omega | rfl | assumption | (simp only [csN, Nat.reduceAdd, Nat.reduceMul, Nat.reduceLeDiff, Nat.reduceEqDiff] <;> omega) | (simp only [csF]; done) | (simp only [csF] <;> assumption) | fail) only [Nat.reduceEqDiff, Nat.reduceAdd, Nat.reduceMul, Nat.reduceSub, Nat.reduceLeDiff, Int.reduceAdd, Int.reduceSub, Int.reduceMul, Int.reduceLT, Int.reduceLE, Int.reduceGT, Int.reduceGE, Int.reduceEq, Int.reduceBEq, Int.reduceBNe, Int.reduceNeg, Int.reduceToNat, csAll, ↓reduceIte, C27_1, e0, e1, e2, e3, e9, e11, hsb', hsb2', d1, d0, d49, hw]
                rfl
              · omega
              · refine ⟨j + 1, by simp [upd_apply], by omega, rfl, gr2, hsb2, fun i hi => ?_⟩
                by_cases e : i = j
                · subst e
                  rintro ⟨-, h | ⟨h, -, -⟩⟩
                  · exact hst h
                  · exact hk2 h
                · exact hno i (by omega)
        · apply step_go (k' := (M.obj n).refs.length - (j + 1))
          · simp (disch := first | omega | rfl | assumption | (simp only [csN, Nat.reduceAdd, Nat.reduceMul, Nat.reduceLeDiff, Nat.reduceEqDiff] <;> omega) | (simp only [csF]; done) | (simp only [csF] <;> assumption) | fail) only [Nat.reduceEqDiff, Nat.reduceAdd, Nat.reduceMul, Nat.reduceSub, Nat.reduceLeDiff, Int.reduceAdd, Int.reduceSub, Int.reduceMul, Int.reduceLT, Int.reduceLE, Int.reduceGT, Int.reduceGE, Int.reduceEq, Int.reduceBEq, Int.reduceBNe, Int.reduceNeg, Int.reduceToNat, csAll, ↓reduceIte, C27_1, e0, e1, e2, e3, e9, e11, hsb', d1, ho, hw]
            rfl
          · omega
          · refine ⟨j + 1, by simp [upd_apply], by omega, rfl, gr, hsb, fun i hi => ?_⟩
            by_cases e : i = j
            · subst e
              rintro ⟨h, -⟩
              exact ho h
            · exact hno i (by omega)
      · apply step_out (x := .exit 0)
        · simp (disch := first | omega | rfl | assumption | (simp only [csN, Nat.reduceAdd, Nat.reduceMul, Nat.reduceLeDiff, Nat.reduceEqDiff] <;> omega) | (simp only [csF]; done) | (simp only [csF] <;> assumption) | fail) only [Nat.reduceEqDiff, Nat.reduceAdd, Nat.reduceMul, Nat.reduceSub, Nat.reduceLeDiff, Int.reduceAdd, Int.reduceSub, Int.reduceMul, Int.reduceLT, Int.reduceLE, Int.reduceGT, Int.reduceGE, Int.reduceEq, Int.reduceBEq, Int.reduceBNe, Int.reduceNeg, Int.reduceToNat, csAll, ↓reduceIte, C27_1, e9, e11, hsb']
          rfl
        · simp
        · exact ⟨gr, .inl ⟨rfl, fun i hi => hno i (by omega)⟩⟩) _ ⟨0, h11, by omega, rfl, gr, hsb, fun i hi => by omega⟩
  exact ⟨x, E', H', hr.symm.trans e, g1, g2⟩

/-- keeps. -/
theorem f27 (m : MRep o g H b M L) (w : M.Ok) {n other : Int} (hn : M.has n) {ab : Nat} {ks : List Bool} {N : Nat} (hks : ks.length = M.objs.length + 1) (hN : N = ks.length) (hab : H[ab]? = some ⟨bools ks, .rw, 1⟩) :
    ∃ H', run P 27 [.ptr b 0, .slice ab 0 N N 1 false, .i n, .i other] H = some (.bool (keepsB (M.obj n) ks other), H') ∧ Gr H H' := by
  have d1 := f15 m w n
  have hs : M.shapeAt n = (((M.obj n).nr, (M.obj n).nd, (M.obj n).kd), 0) := by unfold Mdl.shapeAt; rw [if_pos hn]
  rw [hs] at d1
  simp only [shape3] at d1
  rw [run_lv c27]
  simp (disch := first | omega | rfl | assumption | (simp only [csN, Nat.reduceAdd, Nat.reduceMul, Nat.reduceLeDiff, Nat.reduceEqDiff] <;> omega) | (simp only [csF]; done) | (simp only [csF] <;> assumption) | fail) only [Nat.reduceEqDiff, Nat.reduceAdd, Nat.reduceMul, Nat.reduceSub, Nat.reduceLeDiff, Int.reduceAdd, Int.reduceSub, Int.reduceMul, Int.reduceLT, Int.reduceLE, Int.reduceGT, Int.reduceGE, Int.reduceEq, Int.reduceBEq, Int.reduceBNe, Int.reduceNeg, Int.reduceToNat, csAll, ↓reduceIte, C27, entry_4, d1]
  generalize hr : den P (.loop C27_1) _ _ = r
  obtain ⟨x, E1, H1, rfl, g1, q⟩ := l27_1 m w (other := other) hn hks hN hab rfl (sb := H.length + 1) (look_last (by simp)) (by simp only [upd_apply, Nat.reduceEqDiff, ↓reduceIte]) (by simp only [upd_apply, Nat.reduceEqDiff, ↓reduceIte]) (by simp only [upd_apply, Nat.reduceEqDiff, ↓reduceIte]) (by simp only [upd_apply, Nat.reduceEqDiff, ↓reduceIte]) (by simp only [upd_apply, Nat.reduceEqDiff, ↓reduceIte]) (by simp only [upd_apply, Nat.reduceEqDiff, ↓reduceIte]) ((Gr.app _ _).app' _) hr
  refine ⟨H1, ?_, g1⟩
  rcases q with ⟨rfl, q⟩ | ⟨rfl, q8, q⟩
  · have hd : keepsB (M.obj n) ks other = false := Bool.eq_false_iff.2 (fun h => by obtain ⟨i, h1, h2⟩ := keepsB_iff.1 h; exact q i h1 h2)
    rw [hd]
    simp (disch := first | omega | rfl | assumption | (simp only [csN, Nat.reduceAdd, Nat.reduceMul, Nat.reduceLeDiff, Nat.reduceEqDiff] <;> omega) | (simp only [csF]; done) | (simp only [csF] <;> assumption) | fail) only [Nat.reduceEqDiff, Nat.reduceAdd, Nat.reduceMul, Nat.reduceSub, Nat.reduceLeDiff, Int.reduceAdd, Int.reduceSub, Int.reduceMul, Int.reduceLT, Int.reduceLE, Int.reduceGT, Int.reduceGE, Int.reduceEq, Int.reduceBEq, Int.reduceBNe, Int.reduceNeg, Int.reduceToNat, csAll, ↓reduceIte]
  · have hd : keepsB (M.obj n) ks other = true := keepsB_iff.2 q
    rw [hd]
    simp (disch := first | omega | rfl | assumption | (simp only [csN, Nat.reduceAdd, Nat.reduceMul, Nat.reduceLeDiff, Nat.reduceEqDiff] <;> omega) | (simp only [csF]; done) | (simp only [csF] <;> assumption) | fail) only [Nat.reduceEqDiff, Nat.reduceAdd, Nat.reduceMul, Nat.reduceSub, Nat.reduceLeDiff, Int.reduceAdd, Int.reduceSub, Int.reduceMul, Int.reduceLT, Int.reduceLE, Int.reduceGT, Int.reduceGE, Int.reduceEq, Int.reduceBEq, Int.reduceBNe, Int.reduceNeg, Int.reduceToNat, csAll, ↓reduceIte, q8]
end
end Go.Cs.Try

/- Collect, plainly: what is kept stays, what does not lead to kept objects is cleared, once. -/
namespace Go.Cs
open Go
set_option linter.unusedSectionVars false
theorem on_keptL {M : Mdl} {v : Int} (h0 : 0 ≤ v) (h1 : v ≤ (M.objs.length : Int)) : on M.keptL v = true ↔ Kp M v := by
  unfold on Mdl.keptL
  rw [List.getD_eq_getElem?_getD, List.getElem?_map, List.getElem?_range (by omega)]
  simp only [Option.map_some, Option.getD_some, decide_eq_true_eq]
  have : ((v.toNat : Nat) : Int) = v := by omega
  rw [this]
theorem coll_obj {M : Mdl} (w : M.Ok) {ks : List Bool} : ∀ {i : Nat}, i ≤ M.objs.length → ∀ n, M.has n → (M.coll ks i).1.obj n = if n ≤ (i : Int) then (cObj ks (n - 1).toNat (M.obj n)).getD (M.obj n) else M.obj n
  | 0, _, n, hn => by rw [if_neg (by have := hn.1; omega)]; rfl
  | i + 1, hi, n, hn => by
    have ih := coll_obj w (ks := ks) (i := i) (by omega)
    obtain ⟨h1, h2⟩ := Mdl.coll_ok w (ks := ks) (i := i) (by omega)
    have hh0 : M.has ((i + 1 : Nat) : Int) := by unfold Mdl.has; omega
    have hh : (M.coll ks i).1.has ((i + 1 : Nat) : Int) := by unfold Mdl.has; omega
    have e0 := ih _ hh0
    rw [if_neg (by omega)] at e0
    have ei : (((i + 1 : Nat) : Int) - 1).toNat = i := by omega
    unfold Mdl.coll
    rw [e0]
    split
    · rename_i x e
      dsimp only
      rw [setObj_obj hh hn.1, ih n hn]
      by_cases c : n = ((i + 1 : Nat) : Int)
      · subst c
        rw [if_pos rfl, if_pos (by omega), ei, e]; rfl
      · rw [if_neg c]
        by_cases c2 : n ≤ (i : Int)
        · rw [if_pos c2, if_pos (by omega)]
        · rw [if_neg c2, if_neg (by omega)]
    · rename_i e
      rw [ih n hn]
      by_cases c : n = ((i + 1 : Nat) : Int)
      · subst c
        rw [if_neg (by omega), if_pos (by omega), ei, e]; rfl
      · by_cases c2 : n ≤ (i : Int)
        · rw [if_pos c2, if_pos (by omega)]
        · rw [if_neg c2, if_neg (by omega)]
theorem coll_count {M : Mdl} (w : M.Ok) {ks : List Bool} : ∀ {i : Nat}, i ≤ M.objs.length → (M.coll ks i).2 = (((List.range i).countP fun j => (cObj ks j (M.obj ((j + 1 : Nat) : Int))).isSome : Nat) : Int)
  | 0, _ => rfl
  | i + 1, hi => by
    have ih := coll_count w (ks := ks) (i := i) (by omega)
    have e0 := coll_obj w (ks := ks) (i := i) (by omega) ((i + 1 : Nat) : Int) (by unfold Mdl.has; omega)
    rw [if_neg (by omega)] at e0
    unfold Mdl.coll
    rw [e0, List.range_succ, List.countP_append]
    split
    · rename_i x e
      dsimp only
      rw [ih, List.countP_cons, List.countP_nil, if_pos (by rw [e]; rfl)]
      omega
    · rename_i e
      rw [ih, List.countP_cons, List.countP_nil, if_neg (by rw [e]; simp)]
      omega
theorem coll_places {M : Mdl} {ks : List Bool} : ∀ {i : Nat}, (M.coll ks i).1.places = M.places ∧ (M.coll ks i).1.slots = M.slots
  | 0 => ⟨rfl, rfl⟩
  | i + 1 => by
    have ih := coll_places (M := M) (ks := ks) (i := i)
    unfold Mdl.coll
    split
    · exact ih
    · exact ih
section
variable {M : Mdl} (w : M.Ok)
include w
theorem collect_obj {n : Int} (hn : M.has n) : M.collect.1.obj n = (cObj M.keptL (n - 1).toNat (M.obj n)).getD (M.obj n) := by
  unfold Mdl.collect
  rw [coll_obj w (Nat.le_refl _) n hn, if_pos hn.2]
theorem cObj_kept {n : Int} (hn : M.has n) (hk : Kp M n) : cObj M.keptL (n - 1).toNat (M.obj n) =
    if 0 < soft (M.obj n).kd ∧ on M.keptL ((M.obj n).refs.getD 0 0) = false ∧ ((M.obj n).refs.take (soft (M.obj n).kd)).any (· != 0) = true then some { M.obj n with refs := List.replicate (soft (M.obj n).kd) 0 ++ (M.obj n).refs.drop (soft (M.obj n).kd) } else none := by
  have h1 := (on_keptL (M := M) (by have := hn.1; omega) hn.2).2 hk
  unfold on at h1
  unfold cObj
  have e : (n - 1).toNat + 1 = n.toNat := by have := hn.1; omega
  rw [e]
  by_cases c : 0 < soft (M.obj n).kd ∧ on M.keptL ((M.obj n).refs.getD 0 0) = false ∧ ((M.obj n).refs.take (soft (M.obj n).kd)).any (· != 0) = true
  · rw [if_pos c, if_pos ⟨h1, c⟩]
  · rw [if_neg c, if_neg (fun h => c h.2)]
theorem cObj_out {n : Int} (hn : M.has n) (hk : ¬ Kp M n) : cObj M.keptL (n - 1).toNat (M.obj n) = none := by
  unfold cObj
  rw [if_neg]
  rintro ⟨h, -⟩
  have e : (n - 1).toNat + 1 = n.toNat := by have := hn.1; omega
  rw [e] at h
  exact hk ((on_keptL (M := M) (by have := hn.1; omega) hn.2).1 h)
theorem kept_no0 : ¬ Kp M 0 := fun h => by have := Kp.has w h; unfold Mdl.has at this; omega
theorem ref_range {n : Int} (hn : M.has n) (i : Nat) : 0 ≤ (M.obj n).refs.getD i 0 ∧ (M.obj n).refs.getD i 0 ≤ (M.objs.length : Int) :=
  getD_mem (P := fun v => 0 ≤ v ∧ v ≤ (M.objs.length : Int)) (w.obj hn).ids ⟨by omega, by omega⟩
theorem collect_ok : M.collect.1.Ok ∧ M.collect.1.objs.length = M.objs.length := Mdl.coll_ok w (Nat.le_refl _)
theorem collect_places : M.collect.1.places = M.places := coll_places.1
theorem Kp.collect {v : Int} (h : Kp M v) : Kp M.collect.1 v := by
  induction h with
  | root h hz => exact .root (by rw [collect_places w]; exact h) hz
  | @strong k u h hu hz ih =>
    refine .strong ih ?_ hz
    have hk := Kp.has w h
    rw [collect_obj w hk, cObj_kept w hk h]
    split
    · have hs := (w.obj hk).soft
      simp only [Option.getD_some]
      rw [List.drop_append]
      simpa using hu
    · exact hu
  | @eph k h hkd h0 hz ih ih0 =>
    have hk := Kp.has w h
    have hr := ref_range w hk 0
    have hon := (on_keptL (M := M) hr.1 hr.2).2 h0
    have e : M.collect.1.obj k = M.obj k := by
      rw [collect_obj w hk, cObj_kept w hk h, if_neg (by rw [hon]; simp)]; rfl
    have := Kp.eph (M := M.collect.1) (n := k) ih (by rw [e]; exact hkd) (by rw [e]; exact ih0) (by rw [e]; exact hz)
    rw [e] at this
    exact this
theorem Kp.uncollect {v : Int} (h : Kp M.collect.1 v) : Kp M v := by
  induction h with
  | root h hz => exact .root (by rw [collect_places w] at h; exact h) hz
  | @strong k u h hu hz ih =>
    refine .strong ih ?_ hz
    have hk := Kp.has w ih
    rw [collect_obj w hk, cObj_kept w hk ih] at hu
    split at hu
    · have hs := (w.obj hk).soft
      simp only [Option.getD_some] at hu
      rw [List.drop_append] at hu
      simpa using hu
    · exact hu
  | @eph k h hkd h0 hz ih ih0 =>
    have hk := Kp.has w ih
    rw [collect_obj w hk, cObj_kept w hk ih] at hkd hz ih0 ⊢
    split at ih0
    · rename_i c
      simp only [Option.getD_some] at ih0
      have : (List.replicate (soft (M.obj k).kd) (0 : Int) ++ (M.obj k).refs.drop (soft (M.obj k).kd)).getD 0 0 = 0 := by
        rw [List.getD_eq_getElem?_getD, List.getElem?_append_left (by simp; omega), List.getElem?_replicate, if_pos c.1]; rfl
      rw [this] at ih0
      exact absurd ih0 (kept_no0 w)
    · rename_i c
      rw [if_neg c] at hkd hz ⊢
      exact .eph ih hkd ih0 hz
theorem kept_collect : M.collect.1.keptL = M.keptL ∧ M.collect.1.keptI = M.keptI := by
  have hl := (collect_ok w).2
  have h : M.collect.1.keptL = M.keptL := by
    unfold Mdl.keptL
    rw [hl]
    refine List.map_congr_left fun i _ => ?_
    rw [decide_eq_decide]
    exact ⟨fun h => Kp.uncollect w h, fun h => Kp.collect w h⟩
  exact ⟨h, by unfold Mdl.keptI; rw [h, hl]⟩
/-- What stands in the soft references of a kept object behind Collect. -/
theorem soft_after {n : Int} (hn : M.has n) (hk : Kp M n) (hs : 0 < soft (M.obj n).kd) :
    let y := M.collect.1.obj n
    (on M.keptL (y.refs.getD 0 0) = true ∧ y = M.obj n) ∨ (∀ i, i < soft (M.obj n).kd → y.refs.getD i 0 = 0) := by
  dsimp only
  have hsl := (w.obj hn).soft
  rw [collect_obj w hn, cObj_kept w hn hk]
  split
  · rename_i c
    right
    intro i hi
    simp only [Option.getD_some]
    rw [List.getD_eq_getElem?_getD, List.getElem?_append_left (by simpa using hi), List.getElem?_replicate, if_pos hi]; rfl
  · rename_i c
    by_cases ho : on M.keptL ((M.obj n).refs.getD 0 0) = true
    · exact .inl ⟨ho, rfl⟩
    · right
      intro i hi
      have hany : ((M.obj n).refs.take (soft (M.obj n).kd)).any (· != 0) = false := by
        cases h : ((M.obj n).refs.take (soft (M.obj n).kd)).any (· != 0) with
        | false => rfl
        | true => exact absurd ⟨hs, by simpa using ho, h⟩ c
      rw [List.any_eq_false] at hany
      have hi' : i < (M.obj n).refs.length := by omega
      have := hany ((M.obj n).refs.getD i 0) (List.mem_of_getElem? (i := i) (by rw [List.getElem?_take, if_pos hi, getD_of 0 hi']))
      simpa using this
/-- A second Collect changes nothing. -/
theorem collect_twice : M.collect.1.collect = (M.collect.1, 0) := by
  obtain ⟨w', hl⟩ := collect_ok w
  have none : ∀ j, j < M.objs.length → cObj M.keptL j (M.collect.1.obj ((j + 1 : Nat) : Int)) = none := by
    intro j hj
    have hn : M.has ((j + 1 : Nat) : Int) := by unfold Mdl.has; omega
    have ej : (((j + 1 : Nat) : Int) - 1).toNat = j := by omega
    have hkd : (M.collect.1.obj ((j + 1 : Nat) : Int)).kd = (M.obj ((j + 1 : Nat) : Int)).kd := (coll_same w (Nat.le_refl _) _ hn).2.2
    by_cases hk : Kp M ((j + 1 : Nat) : Int)
    · unfold cObj
      rw [if_neg]
      rintro ⟨-, h2, h3, h4⟩
      rw [hkd] at h2 h4
      rcases soft_after w hn hk h2 with ⟨q, -⟩ | q
      · rw [q] at h3; cases h3
      · have h5 := (w'.obj (n := ((j + 1 : Nat) : Int)) (by unfold Mdl.has; omega)).soft
        rw [hkd] at h5
        obtain ⟨u, hu, hz⟩ := List.any_eq_true.1 h4
        obtain ⟨i, hi, e⟩ := List.mem_iff_getElem.1 hu
        have hi2 : i < soft (M.obj ((j + 1 : Nat) : Int)).kd := by rw [List.length_take] at hi; omega
        have := q i hi2
        rw [List.getElem_take] at e
        rw [List.getD_eq_getElem?_getD, List.getElem?_eq_getElem (by omega), Option.getD_some, e] at this
        rw [this] at hz; simp at hz
    · have h1 := cObj_out w hn hk
      have h2 := collect_obj w hn
      rw [h1] at h2
      rw [ej] at h1
      rw [h2]; exact h1
  have all : ∀ i, i ≤ M.objs.length → M.collect.1.coll M.keptL i = (M.collect.1, 0) := by
    intro i
    induction i with
    | zero => intro _; rfl
    | succ i ih =>
      intro hi
      unfold Mdl.coll
      rw [ih (by omega), none i (by omega)]
  show M.collect.1.coll M.collect.1.keptL M.collect.1.objs.length = _
  rw [(kept_collect w).1, hl]
  exact all _ (Nat.le_refl _)
theorem collect_num : 0 ≤ M.collect.2 ∧ M.collect.2 ≤ (M.keptI.length : Int) := by
  have h := coll_count w (ks := M.keptL) (Nat.le_refl _)
  have e : M.collect.2 = (M.coll M.keptL M.objs.length).2 := rfl
  rw [e, h]
  refine ⟨by omega, ?_⟩
  have hk : M.keptI.length = (List.range (M.objs.length + 1)).countP fun j => M.keptL.getD j false := by
    unfold Mdl.keptI idxs
    rw [List.length_map, List.countP_eq_length_filter]
  rw [hk, List.range_succ_eq_map, List.countP_cons, List.countP_map]
  have : (List.range M.objs.length).countP (fun j => (cObj M.keptL j (M.obj ((j + 1 : Nat) : Int))).isSome) ≤ (List.range M.objs.length).countP ((fun j => M.keptL.getD j false) ∘ Nat.succ) := by
    refine List.countP_mono_left fun j _ h => ?_
    unfold cObj at h
    split at h
    · rename_i c; exact c.1
    · cases h
  omega
/-- Collect returns 0 just where nothing changes. -/
theorem collect_zero : M.collect.2 = 0 ↔ ∀ n, M.has n → M.collect.1.obj n = M.obj n := by
  have h := coll_count w (ks := M.keptL) (Nat.le_refl _)
  have e : M.collect.2 = (M.coll M.keptL M.objs.length).2 := rfl
  rw [e, h]
  constructor
  · intro h n hn
    have h0 : (List.range M.objs.length).countP (fun j => (cObj M.keptL j (M.obj ((j + 1 : Nat) : Int))).isSome) = 0 := by omega
    rw [List.countP_eq_zero] at h0
    have hn1 := hn.1
    have hn2 := hn.2
    have := h0 (n - 1).toNat (List.mem_range.2 (by omega))
    have en : (((n - 1).toNat + 1 : Nat) : Int) = n := by omega
    rw [en] at this
    rw [collect_obj w hn]
    cases hc : cObj M.keptL (n - 1).toNat (M.obj n) with
    | none => rfl
    | some y => rw [hc] at this; simp at this
  · intro h
    have : (List.range M.objs.length).countP (fun j => (cObj M.keptL j (M.obj ((j + 1 : Nat) : Int))).isSome) = 0 := by
      rw [List.countP_eq_zero]
      intro j hj
      have hj' := List.mem_range.1 hj
      have hn : M.has ((j + 1 : Nat) : Int) := by unfold Mdl.has; omega
      have ej : (((j + 1 : Nat) : Int) - 1).toNat = j := by omega
      have h1 := h _ hn
      rw [collect_obj w hn, ej] at h1
      cases hc : cObj M.keptL j (M.obj ((j + 1 : Nat) : Int)) with
      | none => simp
      | some y =>
        rw [hc, Option.getD_some] at h1
        exfalso
        unfold cObj at hc
        split at hc
        · rename_i c
          simp only [Option.some.injEq] at hc
          obtain ⟨-, -, -, c4⟩ := c
          obtain ⟨u, hu, hz⟩ := List.any_eq_true.1 c4
          obtain ⟨i, hi, e⟩ := List.mem_iff_getElem.1 hu
          rw [h1] at hc
          have hr : (M.obj ((j + 1 : Nat) : Int)).refs = List.replicate (soft (M.obj ((j + 1 : Nat) : Int)).kd) 0 ++ (M.obj ((j + 1 : Nat) : Int)).refs.drop (soft (M.obj ((j + 1 : Nat) : Int)).kd) := by
            conv => lhs; rw [← hc]
          have hi2 : i < soft (M.obj ((j + 1 : Nat) : Int)).kd := by rw [List.length_take] at hi; omega
          rw [List.getElem_take] at e
          have h3 : (M.obj ((j + 1 : Nat) : Int)).refs[i]? = some u := by rw [List.getElem?_eq_getElem (by rw [List.length_take] at hi; omega), e]
          rw [hr, List.getElem?_append_left (by simpa using hi2), List.getElem?_replicate, if_pos hi2] at h3
          simp only [Option.some.injEq] at h3
          rw [← h3] at hz; simp at hz
        · cases hc
    omega
end
theorem flat_inj : ∀ {A B : List (List Int)}, A.length = B.length → (∀ (i : Nat) (a b : List Int), A[i]? = some a → B[i]? = some b → a.length = b.length) → A.flatten = B.flatten → A = B
  | [], [], _, _, _ => rfl
  | a :: A, b :: B, hl, hp, h => by
    have h0 := hp 0 a b rfl rfl
    rw [List.flatten_cons, List.flatten_cons] at h
    obtain ⟨h1, h2⟩ := List.append_inj h h0
    rw [h1, flat_inj (by simpa using hl) (fun i x y hx hy => hp (i + 1) x y (by simpa using hx) (by simpa using hy)) h2]
  | [], _ :: _, hl, _, _ => by simp at hl
  | _ :: _, [], hl, _, _ => by simp at hl
theorem content_inj {x y : Obj} {n m : Nat} (hx : x.Ok n) (hy : y.Ok m) (hs : sameS x y) (h : x.content = y.content) : x = y := by
  have h1 := hx.nr
  have h2 := hy.nr
  obtain ⟨e1, e2, e3⟩ := hs
  unfold Obj.content at h
  rw [List.append_assoc, List.append_assoc] at h
  have h3 := (List.append_inj h rfl).2
  obtain ⟨h4, h5⟩ := List.append_inj h3 (by rw [h1.2.2, h2.2.2, e1])
  cases x; cases y
  simp only at e1 e2 e3 h4 h5
  subst e1; subst e2; subst e3; subst h4; subst h5; rfl
theorem objs_ext {M M' : Mdl} (hl : M'.objs.length = M.objs.length) (h : ∀ n, M.has n → M'.obj n = M.obj n) : M'.objs = M.objs := by
  refine List.ext_getElem? fun i => ?_
  by_cases hi : i < M.objs.length
  · have hn : M.has ((i + 1 : Nat) : Int) := by unfold Mdl.has; omega
    have hn' : M'.has ((i + 1 : Nat) : Int) := by unfold Mdl.has; omega
    have e1 := Mdl.obj_get hn
    have e2 := Mdl.obj_get hn'
    have ei : (((i + 1 : Nat) : Int) - 1).toNat = i := by omega
    rw [ei] at e1 e2
    rw [e1, e2, h _ hn]
  · rw [List.getElem?_eq_none (by omega), List.getElem?_eq_none (by omega)]
theorem collect_state {M : Mdl} (w : M.Ok) : M.collect.2 = 0 ↔ M.state = M.collect.1.state := by
  obtain ⟨w', hl⟩ := collect_ok w
  have hsl : M.collect.1.slots = M.slots := coll_places.2
  rw [collect_zero w]
  constructor
  · intro h
    have := objs_ext hl h
    unfold Mdl.state
    rw [this, hsl, collect_places w]
  · intro h n hn
    unfold Mdl.state at h
    rw [hl, hsl, collect_places w] at h
    have h1 := (List.append_inj h rfl).2
    have hoi : ∀ i a, M.objs[i]? = some a → M.has ((i + 1 : Nat) : Int) ∧ a = M.obj ((i + 1 : Nat) : Int) := fun i a hi => by
      have hh : M.has ((i + 1 : Nat) : Int) := by have := lt_of_get hi; unfold Mdl.has; omega
      have e1 := Mdl.obj_get hh
      have ei : (((i + 1 : Nat) : Int) - 1).toNat = i := by omega
      rw [ei, hi] at e1
      exact ⟨hh, by simpa using e1⟩
    have hoi' : ∀ i a, M.collect.1.objs[i]? = some a → M.collect.1.has ((i + 1 : Nat) : Int) ∧ a = M.collect.1.obj ((i + 1 : Nat) : Int) := fun i a hi => by
      have hh : M.collect.1.has ((i + 1 : Nat) : Int) := by have := lt_of_get hi; unfold Mdl.has; omega
      have e1 := Mdl.obj_get hh
      have ei : (((i + 1 : Nat) : Int) - 1).toNat = i := by omega
      rw [ei, hi] at e1
      exact ⟨hh, by simpa using e1⟩
    have h2 := flat_inj (by simp [hl]) (fun i a b ha hb => by
      rw [List.getElem?_map, Option.map_eq_some_iff] at ha hb
      obtain ⟨x, hx, rfl⟩ := ha
      obtain ⟨y, hy, rfl⟩ := hb
      obtain ⟨q1, rfl⟩ := hoi i x hx
      obtain ⟨q2, rfl⟩ := hoi' i y hy
      exact (content_len (w.obj q1) (w'.obj q2) (coll_same w (Nat.le_refl _) _ q1)).symm) h1
    have hn1 := hn.1
    have hn2 := hn.2
    have hn' : M.collect.1.has n := by unfold Mdl.has; omega
    have e1 := Mdl.obj_get hn
    have e2 := Mdl.obj_get hn'
    have h3 : (M.objs.map Obj.content)[(n - 1).toNat]? = (M.collect.1.objs.map Obj.content)[(n - 1).toNat]? := by rw [h2]
    rw [List.getElem?_map, List.getElem?_map, e1, e2] at h3
    simp only [Option.map_some, Option.some.injEq] at h3
    exact (content_inj (w.obj hn) (w'.obj hn') (coll_same w (Nat.le_refl _) _ hn) h3).symm
end Go.Cs

/- ModelMore: what is kept in the middle and at the end. -/
namespace Go.Cs.Try
open Go Go.Cs
set_option maxRecDepth 100000
section
variable {o : Tags} {g : Nat} {b : Nat} {M : Mdl} {L : Lay} {H : CHeap}

theorem Mdl.push_len {M : Mdl} {n : Int} : (M.push n).1.objs = M.objs := by
  unfold Mdl.push
  split
  · split <;> rfl
  · rfl

theorem tail3 (m : MRep o g H b M L) (w : M.Ok) (ident : Int) :
    ∃ v17 K1 H2 v71 K2 o2, run P 14 [.ptr b 0] H = some (v17, K1) ∧ run P 18 [.ptr b 0, .i ident] K1 = some (.i (M.push ident).2, H2) ∧
      run P 19 [.ptr b 0, v17] H2 = some (.slice H2.length 0 (M.objs.length + 1) (M.objs.length + 1) 1 false, H2 ++ [⟨bools (marks M.objs.length M.keptI), .rw, 1⟩]) ∧
      run P 14 [.ptr b 0] (H2 ++ [⟨bools (marks M.objs.length M.keptI), .rw, 1⟩]) = some (v71, K2) ∧
      run P 19 [.ptr b 0, v71] K2 = some (.slice K2.length 0 (M.objs.length + 1) (M.objs.length + 1) 1 false, K2 ++ [⟨bools (marks M.objs.length (M.push ident).1.keptI), .rw, 1⟩]) ∧
      Frm g o H o2 (K2 ++ [⟨bools (marks M.objs.length (M.push ident).1.keptI), .rw, 1⟩]) ∧ At (Un o2) z3 (K2 ++ [⟨bools (marks M.objs.length (M.push ident).1.keptI), .rw, 1⟩]) v17 1 M.keptI.length (Go.Cs.ints M.keptI) ∧
      (K2 ++ [⟨bools (marks M.objs.length (M.push ident).1.keptI), .rw, 1⟩])[H2.length]? = some ⟨bools (marks M.objs.length M.keptI), .rw, 1⟩ := by
  have hfew := w.few
  have hid : ∀ {M : Mdl}, M.Ok → ∀ v ∈ M.keptI, 0 ≤ v ∧ v ≤ (M.objs.length : Int) := fun w v hv => by
    have := Kp.has w ((mem_keptI w).1 hv)
    unfold Mdl.has at this; omega
  have hkl : ∀ {M : Mdl}, M.Ok → M.keptI.length ≤ 1000000 := fun {M} w => by
    have := idxs_len (ks := M.keptL) (i := M.objs.length + 1)
    have := w.few
    unfold Mdl.keptI; omega
  obtain ⟨v17, K1, d1, gr1, m1, q1⟩ := kept_frm m w
  obtain ⟨H2, o2, L2, d2, m2, fr2⟩ := f18 m1 w ident
  have w2 := w.push ident
  have hpl := Mdl.push_len (M := M) (n := ident)
  have q2 := q1.unFrm fr2
  have d3 := f19 m2 w2 (hkl w) q2 (by rw [hpl]; exact hid w)
  have m3 := m2.app [⟨bools (marks M.objs.length M.keptI), .rw, 1⟩]
  have fr3 : Frm g o2 H2 o2 (H2 ++ [⟨bools (marks M.objs.length M.keptI), .rw, 1⟩]) := Frm.app m2.dom _
  obtain ⟨v71, K2, d4, gr4, m4, q4⟩ := kept_frm m3 w2
  have d5 := f19 m4 w2 (hkl w2) q4 (hid w2)
  rw [hpl] at d3 d5
  have fr5 : Frm g o2 K2 o2 (K2 ++ [⟨bools (marks M.objs.length (M.push ident).1.keptI), .rw, 1⟩]) := Frm.app m4.dom _
  have hfree : o2 H2.length = none := by
    cases h : o2 H2.length with
    | none => rfl
    | some t => have := m2.dom _ _ h; omega
  have hx := ((gr4.trans fr5).kept (c := H2.length) (k := ⟨bools (marks M.objs.length M.keptI), .rw, 1⟩) (by simp) hfree).1
  exact ⟨v17, K1, H2, v71, K2, o2, d1, d2, d3, d4, d5, (((gr1.trans fr2).trans fr3).trans gr4).trans fr5, ((q2.unFrm fr3).unFrm gr4).unFrm fr5, hx⟩
end
end Go.Cs.Try

/- ModelMore: the walk. -/
namespace Go.Cs
open Go
theorem kid {M : Mdl} (w : M.Ok) : ∀ v ∈ M.keptI, 0 ≤ v ∧ v ≤ (M.objs.length : Int) := fun v hv => by
  have := Kp.has w ((mem_keptI w).1 hv)
  unfold Mdl.has at this; omega
theorem klen {M : Mdl} (w : M.Ok) : M.keptI.length ≤ 1000000 := by
  have := idxs_len (ks := M.keptL) (i := M.objs.length + 1)
  have := w.few
  unfold Mdl.keptI; omega
end Go.Cs
namespace Go.Cs.Try
open Go Go.Cs
set_option maxRecDepth 100000
set_option maxHeartbeats 8000000
theorem f3 {o : Tags} {H : CHeap} {v : CV} {l : List Stp} (hd : ∀ c t, o c = some t → c < H.length) (hg : ∀ c k, o c ≠ some (0, k)) (st : Steps o H v l) (nn ident of i : Int) :
    ∃ H', run P 3 [.i nn, v, .i ident, .i of, .i i] H = some (.bool true, H') := by
  by_cases hok : (1 ≤ nn ∧ nn ≤ 4) ∧ l.length ≤ 120
  case neg =>
    obtain ⟨H1, e12⟩ := f12_no (H := H) (n := nn) st.len (by omega)
    obtain ⟨H2, e13⟩ := f13 (H := H1)
    apply ex_run
    rw [run_lv c3]
    simp (disch := first | omega | rfl | assumption | (simp only [csN, Nat.reduceAdd, Nat.reduceMul, Nat.reduceLeDiff, Nat.reduceEqDiff] <;> omega) | (simp only [csF]; done) | (simp only [csF] <;> assumption) | fail) only [Nat.reduceEqDiff, Nat.reduceAdd, Nat.reduceMul, Nat.reduceSub, Nat.reduceLeDiff, Int.reduceAdd, Int.reduceSub, Int.reduceMul, Int.reduceLT, Int.reduceLE, Int.reduceGT, Int.reduceGE, Int.reduceEq, Int.reduceBEq, Int.reduceBNe, Int.reduceNeg, Int.reduceToNat, csAll, ↓reduceIte, C3, entry_5, e12, e13]
    rfl
  obtain ⟨hn, hl⟩ := hok
  obtain ⟨n, rfl⟩ : ∃ n : Nat, nn = (n : Int) := ⟨nn.toNat, by omega⟩
  obtain ⟨b, H1, o1, L1, e12, m, -⟩ := f12 (g := 0) hd hg (n := n) (by omega) hl st
  obtain ⟨w, -⟩ := madeM_ok (n := n) (by omega) l (by omega)
  obtain ⟨v12, K1, e14, -, mK, q12⟩ := kept_frm m w
  have e15 := f15 mK w of
  have hsa : ∀ H : CHeap, Frm 0 o1 K1 o1 (K1 ++ H) := fun J => Frm.app mK.dom J
  have sh : (madeM n l).has of → (madeM n l).shapeAt of = ((((madeM n l).obj of).nr, ((madeM n l).obj of).nd, ((madeM n l).obj of).kd), 0) := fun h => by unfold Mdl.shapeAt; rw [if_pos h]
  have sn : ¬ (madeM n l).has of → (madeM n l).shapeAt of = ((0, 0, 0), 4) := fun h => by unfold Mdl.shapeAt; rw [if_neg h]
  by_cases hh : (madeM n l).has of
  case neg =>
    rw [sn hh] at e15
    simp only [shape3] at e15
    have mQ := (mK.app [⟨[.i 0, .i 0, .i 0], .rw, 0⟩]).app [⟨[.i 0, .i 0, .i 0], .rw, 0⟩]
    have qQ := (q12.app [⟨[.i 0, .i 0, .i 0], .rw, 0⟩]).app [⟨[.i 0, .i 0, .i 0], .rw, 0⟩]
    obtain ⟨v17, K2, H2, v71, K3, o2, t1, t2, t3, t4, t5, fr, a17, hx⟩ := tail3 mQ w ident
    have a12 := (qQ).unFrm fr
    have hlast : (K3 ++ [⟨bools (marks (madeM n l).objs.length ((madeM n l).push ident).1.keptI), .rw, 1⟩])[K3.length]? = some ⟨bools (marks (madeM n l).objs.length ((madeM n l).push ident).1.keptI), .rw, 1⟩ := by simp
    obtain ⟨Hf, ef⟩ := f13 (H := K3 ++ [⟨bools (marks (madeM n l).objs.length ((madeM n l).push ident).1.keptI), .rw, 1⟩])
    have hl1 : ∀ u ∈ (madeM n l).keptI, 0 ≤ u ∧ u.toNat < (marks (madeM n l).objs.length (madeM n l).keptI).length ∧ on (marks (madeM n l).objs.length (madeM n l).keptI) u = true := fun u hu => by
      have h1 : Kp (madeM n l) u := id ((mem_keptI w).1 hu)
      have h2 := Kp.has w h1
      unfold Mdl.has at h2
      exact ⟨by omega, by rw [marks_len]; omega, (marks_on (kid w) (by omega)).2 ((mem_keptI w).2 h1)⟩
    have hl2 : ∀ u ∈ (madeM n l).keptI, 0 ≤ u ∧ u.toNat < (marks (madeM n l).objs.length ((madeM n l).push ident).1.keptI).length ∧ on (marks (madeM n l).objs.length ((madeM n l).push ident).1.keptI) u = true := fun u hu => by
      have h1 : Kp (madeM n l) u := (mem_keptI w).1 hu
      have h2 := Kp.has w h1
      unfold Mdl.has at h2
      have h3 := kid (w.push ident)
      rw [Mdl.push_len] at h3
      exact ⟨by omega, by rw [marks_len]; omega, (marks_on h3 (by omega)).2 ((mem_keptI (w.push ident)).2 h1.push)⟩
    rw [run_lv c3]
    simp (config := { maxSteps := 2000000 }) (disch := first | omega | rfl | assumption | (simp only [csN, Nat.reduceAdd, Nat.reduceMul, Nat.reduceLeDiff, Nat.reduceEqDiff] <;> omega) | (simp only [csF]; done) | (simp only [csF] <;> assumption) | fail) only [Nat.reduceEqDiff, Nat.reduceAdd, Nat.reduceMul, Nat.reduceSub, Nat.reduceLeDiff, Int.reduceAdd, Int.reduceSub, Int.reduceMul, Int.reduceLT, Int.reduceLE, Int.reduceGT, Int.reduceGE, Int.reduceEq, Int.reduceBEq, Int.reduceBNe, Int.reduceNeg, Int.reduceToNat, csAll, ↓reduceIte, C3, entry_5, e12, e14, e15, t1, t2, t3, t4, t5]
    generalize hr : den P (.loop C3_2) _ _ = r
    obtain ⟨x, E1, H3, rfl, -, rfl, rfl, hE⟩ := (l3_2 (klen w) a12 hx hl1 _).at hr _
      ⟨rfl, by simp only [upd_apply, Nat.reduceEqDiff, ↓reduceIte, marks_len], by simp only [upd_apply, Nat.reduceEqDiff, ↓reduceIte], 0, by simp only [upd_apply, Nat.reduceEqDiff, ↓reduceIte]; rfl, by omega, rfl, fun t ht => rfl⟩
    have e19 := hE 19 (by omega)
    have e17 := hE 17 (by omega)
    simp only [upd_apply, Nat.reduceEqDiff, ↓reduceIte] at e19 e17
    simp (config := { maxSteps := 2000000 }) (disch := first | omega | rfl | assumption | (simp only [csN, Nat.reduceAdd, Nat.reduceMul, Nat.reduceLeDiff, Nat.reduceEqDiff] <;> omega) | (simp only [csF]; done) | (simp only [csF] <;> assumption) | fail) only [Nat.reduceEqDiff, Nat.reduceAdd, Nat.reduceMul, Nat.reduceSub, Nat.reduceLeDiff, Int.reduceAdd, Int.reduceSub, Int.reduceMul, Int.reduceLT, Int.reduceLE, Int.reduceGT, Int.reduceGE, Int.reduceEq, Int.reduceBEq, Int.reduceBNe, Int.reduceNeg, Int.reduceToNat, csAll, ↓reduceIte]
    generalize hr2 : den (cprog Go.Proofs.Try.prog) (.loop C3_1) _ _ = r2
    obtain ⟨x, E2, H4, rfl, -, rfl, rfl⟩ := (l3_1 (klen w) a17 hlast hl2).at hr2 _
      ⟨rfl, by simp only [upd_apply, Nat.reduceEqDiff, ↓reduceIte, marks_len]; exact e19, by simp only [upd_apply, Nat.reduceEqDiff, ↓reduceIte]; exact e17, 0, by simp only [upd_apply, Nat.reduceEqDiff, ↓reduceIte]; rfl, by omega, rfl⟩
    apply ex_run
    simp (config := { maxSteps := 2000000 }) (disch := first | omega | rfl | assumption | (simp only [csN, Nat.reduceAdd, Nat.reduceMul, Nat.reduceLeDiff, Nat.reduceEqDiff] <;> omega) | (simp only [csF]; done) | (simp only [csF] <;> assumption) | fail) only [Nat.reduceEqDiff, Nat.reduceAdd, Nat.reduceMul, Nat.reduceSub, Nat.reduceLeDiff, Int.reduceAdd, Int.reduceSub, Int.reduceMul, Int.reduceLT, Int.reduceLE, Int.reduceGT, Int.reduceGE, Int.reduceEq, Int.reduceBEq, Int.reduceBNe, Int.reduceNeg, Int.reduceToNat, csAll, ↓reduceIte, ef]
    rfl
  rw [sh hh] at e15
  simp only [shape3] at e15
  generalize hx : (madeM n l).obj of = xx at *
  have mQ := (mK.app [⟨[.i xx.nr, .i xx.nd, .i xx.kd], .rw, 0⟩]).app [⟨[.i xx.nr, .i xx.nd, .i xx.kd], .rw, 0⟩]
  have qQ := (q12.app [⟨[.i xx.nr, .i xx.nd, .i xx.kd], .rw, 0⟩]).app [⟨[.i xx.nr, .i xx.nd, .i xx.kd], .rw, 0⟩]
  by_cases hkd : xx.kd = 0
  case neg =>
    obtain ⟨v17, K2, H2, v71, K3, o2, t1, t2, t3, t4, t5, fr, a17, hx⟩ := tail3 mQ w ident
    have a12 := (qQ).unFrm fr
    have hlast : (K3 ++ [⟨bools (marks (madeM n l).objs.length ((madeM n l).push ident).1.keptI), .rw, 1⟩])[K3.length]? = some ⟨bools (marks (madeM n l).objs.length ((madeM n l).push ident).1.keptI), .rw, 1⟩ := by simp
    obtain ⟨Hf, ef⟩ := f13 (H := K3 ++ [⟨bools (marks (madeM n l).objs.length ((madeM n l).push ident).1.keptI), .rw, 1⟩])
    have hl1 : ∀ u ∈ (madeM n l).keptI, 0 ≤ u ∧ u.toNat < (marks (madeM n l).objs.length (madeM n l).keptI).length ∧ on (marks (madeM n l).objs.length (madeM n l).keptI) u = true := fun u hu => by
      have h1 : Kp (madeM n l) u := id ((mem_keptI w).1 hu)
      have h2 := Kp.has w h1
      unfold Mdl.has at h2
      exact ⟨by omega, by rw [marks_len]; omega, (marks_on (kid w) (by omega)).2 ((mem_keptI w).2 h1)⟩
    have hl2 : ∀ u ∈ (madeM n l).keptI, 0 ≤ u ∧ u.toNat < (marks (madeM n l).objs.length ((madeM n l).push ident).1.keptI).length ∧ on (marks (madeM n l).objs.length ((madeM n l).push ident).1.keptI) u = true := fun u hu => by
      have h1 : Kp (madeM n l) u := (mem_keptI w).1 hu
      have h2 := Kp.has w h1
      unfold Mdl.has at h2
      have h3 := kid (w.push ident)
      rw [Mdl.push_len] at h3
      exact ⟨by omega, by rw [marks_len]; omega, (marks_on h3 (by omega)).2 ((mem_keptI (w.push ident)).2 h1.push)⟩
    rw [run_lv c3]
    simp (config := { maxSteps := 2000000 }) (disch := first | omega | rfl | assumption | (simp only [csN, Nat.reduceAdd, Nat.reduceMul, Nat.reduceLeDiff, Nat.reduceEqDiff] <;> omega) | (simp only [csF]; done) | (simp only [csF] <;> assumption) | fail) only [Nat.reduceEqDiff, Nat.reduceAdd, Nat.reduceMul, Nat.reduceSub, Nat.reduceLeDiff, Int.reduceAdd, Int.reduceSub, Int.reduceMul, Int.reduceLT, Int.reduceLE, Int.reduceGT, Int.reduceGE, Int.reduceEq, Int.reduceBEq, Int.reduceBNe, Int.reduceNeg, Int.reduceToNat, csAll, ↓reduceIte, C3, entry_5, e12, e14, e15, t1, t2, t3, t4, t5]
    generalize hr : den P (.loop C3_2) _ _ = r
    obtain ⟨x, E1, H3, rfl, -, rfl, rfl, hE⟩ := (l3_2 (klen w) a12 hx hl1 _).at hr _
      ⟨rfl, by simp only [upd_apply, Nat.reduceEqDiff, ↓reduceIte, marks_len], by simp only [upd_apply, Nat.reduceEqDiff, ↓reduceIte], 0, by simp only [upd_apply, Nat.reduceEqDiff, ↓reduceIte]; rfl, by omega, rfl, fun t ht => rfl⟩
    have e19 := hE 19 (by omega)
    have e17 := hE 17 (by omega)
    simp only [upd_apply, Nat.reduceEqDiff, ↓reduceIte] at e19 e17
    simp (config := { maxSteps := 2000000 }) (disch := first | omega | rfl | assumption | (simp only [csN, Nat.reduceAdd, Nat.reduceMul, Nat.reduceLeDiff, Nat.reduceEqDiff] <;> omega) | (simp only [csF]; done) | (simp only [csF] <;> assumption) | fail) only [Nat.reduceEqDiff, Nat.reduceAdd, Nat.reduceMul, Nat.reduceSub, Nat.reduceLeDiff, Int.reduceAdd, Int.reduceSub, Int.reduceMul, Int.reduceLT, Int.reduceLE, Int.reduceGT, Int.reduceGE, Int.reduceEq, Int.reduceBEq, Int.reduceBNe, Int.reduceNeg, Int.reduceToNat, csAll, ↓reduceIte]
    generalize hr2 : den (cprog Go.Proofs.Try.prog) (.loop C3_1) _ _ = r2
    obtain ⟨x, E2, H4, rfl, -, rfl, rfl⟩ := (l3_1 (klen w) a17 hlast hl2).at hr2 _
      ⟨rfl, by simp only [upd_apply, Nat.reduceEqDiff, ↓reduceIte, marks_len]; exact e19, by simp only [upd_apply, Nat.reduceEqDiff, ↓reduceIte]; exact e17, 0, by simp only [upd_apply, Nat.reduceEqDiff, ↓reduceIte]; rfl, by omega, rfl⟩
    apply ex_run
    simp (config := { maxSteps := 2000000 }) (disch := first | omega | rfl | assumption | (simp only [csN, Nat.reduceAdd, Nat.reduceMul, Nat.reduceLeDiff, Nat.reduceEqDiff] <;> omega) | (simp only [csF]; done) | (simp only [csF] <;> assumption) | fail) only [Nat.reduceEqDiff, Nat.reduceAdd, Nat.reduceMul, Nat.reduceSub, Nat.reduceLeDiff, Int.reduceAdd, Int.reduceSub, Int.reduceMul, Int.reduceLT, Int.reduceLE, Int.reduceGT, Int.reduceGE, Int.reduceEq, Int.reduceBEq, Int.reduceBNe, Int.reduceNeg, Int.reduceToNat, csAll, ↓reduceIte, ef]
    rfl
  have e16 := f16 mQ w of i
  have hr : (madeM n l).refAt of i = elAt xx.refs i := by unfold Mdl.refAt; rw [if_pos hh, hx]
  rw [hr] at e16
  by_cases hz : elAt xx.refs i = (0, 0)
  case neg =>
    have hel : (elAt xx.refs i).2 ≠ 0 ∨ (elAt xx.refs i).2 = 0 ∧ (elAt xx.refs i).1 ≠ 0 := by
      by_cases h2 : (elAt xx.refs i).2 = 0
      · exact .inr ⟨h2, fun h1 => hz (Prod.ext h1 h2)⟩
      · exact .inl h2
    simp only [pair2] at e16
    generalize (elAt xx.refs i).1 = r1 at *
    generalize (elAt xx.refs i).2 = r2 at *
    rcases hel with hel | ⟨hel, hel'⟩
    all_goals (
    obtain ⟨v17, K2, H2, v71, K3, o2, t1, t2, t3, t4, t5, fr, a17, hx⟩ := tail3 mQ w ident
    have a12 := (qQ).unFrm fr
    have hlast : (K3 ++ [⟨bools (marks (madeM n l).objs.length ((madeM n l).push ident).1.keptI), .rw, 1⟩])[K3.length]? = some ⟨bools (marks (madeM n l).objs.length ((madeM n l).push ident).1.keptI), .rw, 1⟩ := by simp
    obtain ⟨Hf, ef⟩ := f13 (H := K3 ++ [⟨bools (marks (madeM n l).objs.length ((madeM n l).push ident).1.keptI), .rw, 1⟩])
    have hl1 : ∀ u ∈ (madeM n l).keptI, 0 ≤ u ∧ u.toNat < (marks (madeM n l).objs.length (madeM n l).keptI).length ∧ on (marks (madeM n l).objs.length (madeM n l).keptI) u = true := fun u hu => by
      have h1 : Kp (madeM n l) u := id ((mem_keptI w).1 hu)
      have h2 := Kp.has w h1
      unfold Mdl.has at h2
      exact ⟨by omega, by rw [marks_len]; omega, (marks_on (kid w) (by omega)).2 ((mem_keptI w).2 h1)⟩
    have hl2 : ∀ u ∈ (madeM n l).keptI, 0 ≤ u ∧ u.toNat < (marks (madeM n l).objs.length ((madeM n l).push ident).1.keptI).length ∧ on (marks (madeM n l).objs.length ((madeM n l).push ident).1.keptI) u = true := fun u hu => by
      have h1 : Kp (madeM n l) u := (mem_keptI w).1 hu
      have h2 := Kp.has w h1
      unfold Mdl.has at h2
      have h3 := kid (w.push ident)
      rw [Mdl.push_len] at h3
      exact ⟨by omega, by rw [marks_len]; omega, (marks_on h3 (by omega)).2 ((mem_keptI (w.push ident)).2 h1.push)⟩
    rw [run_lv c3]
    simp (config := { maxSteps := 2000000 }) (disch := first | omega | rfl | assumption | (simp only [csN, Nat.reduceAdd, Nat.reduceMul, Nat.reduceLeDiff, Nat.reduceEqDiff] <;> omega) | (simp only [csF]; done) | (simp only [csF] <;> assumption) | fail) only [Nat.reduceEqDiff, Nat.reduceAdd, Nat.reduceMul, Nat.reduceSub, Nat.reduceLeDiff, Int.reduceAdd, Int.reduceSub, Int.reduceMul, Int.reduceLT, Int.reduceLE, Int.reduceGT, Int.reduceGE, Int.reduceEq, Int.reduceBEq, Int.reduceBNe, Int.reduceNeg, Int.reduceToNat, csAll, ↓reduceIte, C3, entry_5, e12, e14, e15, e16, t1, t2, t3, t4, t5]
    generalize hr : den P (.loop C3_2) _ _ = r
    obtain ⟨x, E1, H3, rfl, -, rfl, rfl, hE⟩ := (l3_2 (klen w) a12 hx hl1 _).at hr _
      ⟨rfl, by simp only [upd_apply, Nat.reduceEqDiff, ↓reduceIte, marks_len], by simp only [upd_apply, Nat.reduceEqDiff, ↓reduceIte], 0, by simp only [upd_apply, Nat.reduceEqDiff, ↓reduceIte]; rfl, by omega, rfl, fun t ht => rfl⟩
    have e19 := hE 19 (by omega)
    have e17 := hE 17 (by omega)
    simp only [upd_apply, Nat.reduceEqDiff, ↓reduceIte] at e19 e17
    simp (config := { maxSteps := 2000000 }) (disch := first | omega | rfl | assumption | (simp only [csN, Nat.reduceAdd, Nat.reduceMul, Nat.reduceLeDiff, Nat.reduceEqDiff] <;> omega) | (simp only [csF]; done) | (simp only [csF] <;> assumption) | fail) only [Nat.reduceEqDiff, Nat.reduceAdd, Nat.reduceMul, Nat.reduceSub, Nat.reduceLeDiff, Int.reduceAdd, Int.reduceSub, Int.reduceMul, Int.reduceLT, Int.reduceLE, Int.reduceGT, Int.reduceGE, Int.reduceEq, Int.reduceBEq, Int.reduceBNe, Int.reduceNeg, Int.reduceToNat, csAll, ↓reduceIte]
    generalize hr2 : den (cprog Go.Proofs.Try.prog) (.loop C3_1) _ _ = r2
    obtain ⟨x, E2, H4, rfl, -, rfl, rfl⟩ := (l3_1 (klen w) a17 hlast hl2).at hr2 _
      ⟨rfl, by simp only [upd_apply, Nat.reduceEqDiff, ↓reduceIte, marks_len]; exact e19, by simp only [upd_apply, Nat.reduceEqDiff, ↓reduceIte]; exact e17, 0, by simp only [upd_apply, Nat.reduceEqDiff, ↓reduceIte]; rfl, by omega, rfl⟩
    apply ex_run
    simp (config := { maxSteps := 2000000 }) (disch := first | omega | rfl | assumption | (simp only [csN, Nat.reduceAdd, Nat.reduceMul, Nat.reduceLeDiff, Nat.reduceEqDiff] <;> omega) | (simp only [csF]; done) | (simp only [csF] <;> assumption) | fail) only [Nat.reduceEqDiff, Nat.reduceAdd, Nat.reduceMul, Nat.reduceSub, Nat.reduceLeDiff, Int.reduceAdd, Int.reduceSub, Int.reduceMul, Int.reduceLT, Int.reduceLE, Int.reduceGT, Int.reduceGE, Int.reduceEq, Int.reduceBEq, Int.reduceBNe, Int.reduceNeg, Int.reduceToNat, csAll, ↓reduceIte, ef]
    rfl)
  rw [hz] at e16
  simp only [pair2] at e16
  obtain ⟨H5, o5, L5, e17, m5, fr5⟩ := f17 mQ w of i ident
  have w5 := w.setRef of i ident
  have q5 := qQ.unFrm fr5
  have hmono : ∀ {u : Int}, Kp (madeM n l) u → Kp ((madeM n l).setRef of i ident).1 u := fun h => h.setRef w hh (by rw [hx]; exact hkd) (by rw [hx]; exact hz)
  generalize hM : ((madeM n l).setRef of i ident).1 = M5 at *
  generalize ((madeM n l).setRef of i ident).2 = err at *
  obtain ⟨v17, K2, H2, v71, K3, o2, t1, t2, t3, t4, t5, fr, a17, hx⟩ := tail3 m5 w5 ident
  have a12 := (q5).unFrm fr
  have hlast : (K3 ++ [⟨bools (marks M5.objs.length (M5.push ident).1.keptI), .rw, 1⟩])[K3.length]? = some ⟨bools (marks M5.objs.length (M5.push ident).1.keptI), .rw, 1⟩ := by simp
  obtain ⟨Hf, ef⟩ := f13 (H := K3 ++ [⟨bools (marks M5.objs.length (M5.push ident).1.keptI), .rw, 1⟩])
  have hl1 : ∀ u ∈ (madeM n l).keptI, 0 ≤ u ∧ u.toNat < (marks M5.objs.length M5.keptI).length ∧ on (marks M5.objs.length M5.keptI) u = true := fun u hu => by
    have h1 : Kp M5 u := hmono ((mem_keptI w).1 hu)
    have h2 := Kp.has w5 h1
    unfold Mdl.has at h2
    exact ⟨by omega, by rw [marks_len]; omega, (marks_on (kid w5) (by omega)).2 ((mem_keptI w5).2 h1)⟩
  have hl2 : ∀ u ∈ M5.keptI, 0 ≤ u ∧ u.toNat < (marks M5.objs.length (M5.push ident).1.keptI).length ∧ on (marks M5.objs.length (M5.push ident).1.keptI) u = true := fun u hu => by
    have h1 : Kp M5 u := (mem_keptI w5).1 hu
    have h2 := Kp.has w5 h1
    unfold Mdl.has at h2
    have h3 := kid (w5.push ident)
    rw [Mdl.push_len] at h3
    exact ⟨by omega, by rw [marks_len]; omega, (marks_on h3 (by omega)).2 ((mem_keptI (w5.push ident)).2 h1.push)⟩
  rw [run_lv c3]
  simp (config := { maxSteps := 2000000 }) (disch := first | omega | rfl | assumption | (simp only [csN, Nat.reduceAdd, Nat.reduceMul, Nat.reduceLeDiff, Nat.reduceEqDiff] <;> omega) | (simp only [csF]; done) | (simp only [csF] <;> assumption) | fail) only [Nat.reduceEqDiff, Nat.reduceAdd, Nat.reduceMul, Nat.reduceSub, Nat.reduceLeDiff, Int.reduceAdd, Int.reduceSub, Int.reduceMul, Int.reduceLT, Int.reduceLE, Int.reduceGT, Int.reduceGE, Int.reduceEq, Int.reduceBEq, Int.reduceBNe, Int.reduceNeg, Int.reduceToNat, csAll, ↓reduceIte, C3, entry_5, e12, e14, e15, e16, e17, t1, t2, t3, t4, t5]
  generalize hr : den P (.loop C3_2) _ _ = r
  obtain ⟨x, E1, H3, rfl, -, rfl, rfl, hE⟩ := (l3_2 (klen w) a12 hx hl1 _).at hr _
    ⟨rfl, by simp only [upd_apply, Nat.reduceEqDiff, ↓reduceIte, marks_len], by simp only [upd_apply, Nat.reduceEqDiff, ↓reduceIte], 0, by simp only [upd_apply, Nat.reduceEqDiff, ↓reduceIte]; rfl, by omega, rfl, fun t ht => rfl⟩
  have e19 := hE 19 (by omega)
  have e17 := hE 17 (by omega)
  simp only [upd_apply, Nat.reduceEqDiff, ↓reduceIte] at e19 e17
  simp (config := { maxSteps := 2000000 }) (disch := first | omega | rfl | assumption | (simp only [csN, Nat.reduceAdd, Nat.reduceMul, Nat.reduceLeDiff, Nat.reduceEqDiff] <;> omega) | (simp only [csF]; done) | (simp only [csF] <;> assumption) | fail) only [Nat.reduceEqDiff, Nat.reduceAdd, Nat.reduceMul, Nat.reduceSub, Nat.reduceLeDiff, Int.reduceAdd, Int.reduceSub, Int.reduceMul, Int.reduceLT, Int.reduceLE, Int.reduceGT, Int.reduceGE, Int.reduceEq, Int.reduceBEq, Int.reduceBNe, Int.reduceNeg, Int.reduceToNat, csAll, ↓reduceIte]
  generalize hr2 : den (cprog Go.Proofs.Try.prog) (.loop C3_1) _ _ = r2
  obtain ⟨x, E2, H4, rfl, -, rfl, rfl⟩ := (l3_1 (klen w5) a17 hlast hl2).at hr2 _
    ⟨rfl, by simp only [upd_apply, Nat.reduceEqDiff, ↓reduceIte, marks_len]; exact e19, by simp only [upd_apply, Nat.reduceEqDiff, ↓reduceIte]; exact e17, 0, by simp only [upd_apply, Nat.reduceEqDiff, ↓reduceIte]; rfl, by omega, rfl⟩
  apply ex_run
  simp (config := { maxSteps := 2000000 }) (disch := first | omega | rfl | assumption | (simp only [csN, Nat.reduceAdd, Nat.reduceMul, Nat.reduceLeDiff, Nat.reduceEqDiff] <;> omega) | (simp only [csF]; done) | (simp only [csF] <;> assumption) | fail) only [Nat.reduceEqDiff, Nat.reduceAdd, Nat.reduceMul, Nat.reduceSub, Nat.reduceLeDiff, Int.reduceAdd, Int.reduceSub, Int.reduceMul, Int.reduceLT, Int.reduceLE, Int.reduceGT, Int.reduceGE, Int.reduceEq, Int.reduceBEq, Int.reduceBNe, Int.reduceNeg, Int.reduceToNat, csAll, ↓reduceIte, ef]
  rfl

end Go.Cs.Try

/- ModelLeast: the loops. -/
namespace Go.Cs
open Go
/-- The heap grew, but for one block. -/
structure GrX (H : CHeap) (cb : Nat) (H' : CHeap) : Prop where
  len : H.length ≤ H'.length
  low : ∀ c, c < H.length → c ≠ cb → H'[c]? = H[c]?
theorem GrX.gr {H H' H'' : CHeap} {cb : Nat} (a : GrX H cb H') (b : Gr H' H'') : GrX H cb H'' := ⟨Nat.le_trans a.len b.len, fun c h hc => by rw [b.low c (Nat.lt_of_lt_of_le h a.len), a.low c h hc]⟩
theorem GrX.set {H H' : CHeap} {cb : Nat} (a : GrX H cb H') (k : Blk) : GrX H cb (H'.set cb k) := ⟨by simpa using a.len, fun c h hc => by rw [List.getElem?_set_ne (Ne.symm hc), a.low c h hc]⟩
theorem GrX.refl (H : CHeap) (cb : Nat) : GrX H cb H := ⟨Nat.le_refl _, fun _ _ _ => rfl⟩
theorem GrX.trans {H H' H'' : CHeap} {cb : Nat} (a : GrX H cb H') (b : GrX H' cb H'') : GrX H cb H'' := ⟨Nat.le_trans a.len b.len, fun c h hc => by rw [b.low c (Nat.lt_of_lt_of_le h a.len) hc, a.low c h hc]⟩
theorem GrX.get {H H' : CHeap} {cb b : Nat} {k : Blk} (a : GrX H cb H') (h : H[b]? = some k) (hb : b ≠ cb) : H'[b]? = some k := by rw [a.low b (lt_of_get h) hb, h]
theorem MRep.grx {o : Tags} {g : Nat} {H H' : CHeap} {b cb : Nat} {M : Mdl} {L : Lay} (m : MRep o g H b M L) (a : GrX H cb H') (hc : o cb = none) : MRep o g H' b M L :=
  m.frame (fun c t h => Nat.lt_of_lt_of_le (m.dom c t h) a.len) (fun _ _ h => h) (fun c k h => a.low c (m.dom c _ h) (by rintro rfl; rw [hc] at h; cases h))
/-- With another one being kept as a list says, an object keeps no other one that the list lacks. -/
def Cl (M : Mdl) (ks : List Bool) (v n : Int) : Prop := on ks v = true → on ks n = true ∨ keepsB (M.obj v) ks n = false
theorem falses_set {ks : List Bool} {i : Nat} (hi : i < ks.length) (h : ks.getD i false = false) : falses (ks.set i true) < falses ks := by
  have := count_set hi h
  unfold falses; omega
/-- What is closed and holds the places holds all that is kept. -/
theorem Kp.closed {M : Mdl} (w : M.Ok) {ks : List Bool} (h0 : ∀ v ∈ M.places, v ≠ 0 → on ks v = true) (hc : ∀ v n, Kp M v → 1 ≤ n → n ≤ (M.objs.length : Int) → Cl M ks v n) {v : Int} (h : Kp M v) : on ks v = true := by
  induction h with
  | root h hz => exact h0 _ h hz
  | @strong k u h hu hz ih =>
    have hk := Kp.has w h
    have hu' := (w.obj hk).ids _ (List.mem_of_mem_drop hu)
    rcases hc k u h (by omega) hu'.2 ih with q | q
    · exact q
    · exfalso
      obtain ⟨i, hi, e⟩ := List.mem_iff_getElem.1 hu
      rw [List.length_drop] at hi
      rw [List.getElem_drop] at e
      have : keepsB (M.obj k) ks u = true := keepsB_iff.2 ⟨soft (M.obj k).kd + i, by omega, by rw [List.getD_eq_getElem?_getD, List.getElem?_eq_getElem (by omega), Option.getD_some, e], .inl (by omega)⟩
      rw [q] at this; cases this
  | @eph k h hkd h0' hz ih ih0 =>
    have hk := Kp.has w h
    have hob := w.obj hk
    have h2 := hob.kd.2.2.2 hkd
    have h3 := hob.nr
    have hr := ref_rng w hk 1
    rcases hc k ((M.obj k).refs.getD 1 0) h (by omega) hr.2 ih with q | q
    · exact q
    · exfalso
      have : keepsB (M.obj k) ks ((M.obj k).refs.getD 1 0) = true := keepsB_iff.2 ⟨1, by omega, rfl, .inr ⟨hkd, rfl, ih0⟩⟩
      rw [q] at this; cases this
/-- What is kept keeps nothing else. -/
theorem Kp.closes {M : Mdl} (w : M.Ok) {ks : List Bool} (hks : ∀ u, 0 ≤ u → u ≤ (M.objs.length : Int) → (on ks u = true ↔ Kp M u)) {v n : Int} (h : Kp M v) (hn : 1 ≤ n) (hnn : ¬ Kp M n) : keepsB (M.obj v) ks n = false := by
  refine Bool.eq_false_iff.2 fun hk => ?_
  obtain ⟨i, hi, e, q⟩ := keepsB_iff.1 hk
  have hh := Kp.has w h
  rcases q with q | ⟨q1, rfl, q3⟩
  · refine hnn (.strong h ?_ (by omega))
    rw [← e, List.getD_eq_getElem?_getD, List.getElem?_eq_getElem hi, Option.getD_some]
    refine List.mem_iff_getElem.2 ⟨i - soft (M.obj v).kd, by rw [List.length_drop]; omega, ?_⟩
    rw [List.getElem_drop]
    congr 1; omega
  · have hr := ref_rng w hh 0
    have := Kp.eph h q1 ((hks _ hr.1 hr.2).1 q3) (by rw [e]; omega)
    rw [e] at this
    exact hnn this
theorem idxs_get {ks : List Bool} {n : Nat} : ∀ {i j : Nat} {a b : Int}, i < j → (idxs ks n)[i]? = some a → (idxs ks n)[j]? = some b → a < b := by
  have key : List.Pairwise (fun (a b : Int) => a < b) (idxs ks n) := by
    unfold idxs
    rw [List.pairwise_map]
    refine List.Pairwise.filter _ ?_
    have := List.pairwise_lt_range (n := n)
    exact this.imp (fun h => by omega)
  intro i j a b hij ha hb
  have hi := lt_of_get ha
  have hj := lt_of_get hb
  rw [List.getElem?_eq_getElem hi, Option.some.injEq] at ha
  rw [List.getElem?_eq_getElem hj, Option.some.injEq] at hb
  rw [← ha, ← hb]
  exact List.pairwise_iff_getElem.1 key i j hi hj hij
end Go.Cs
namespace Go.Cs.Try
open Go Go.Cs
set_option maxRecDepth 100000
set_option maxHeartbeats 8000000
section
variable {o : Tags} {g : Nat} {b : Nat} {M : Mdl} {L : Lay} {H0 H : CHeap}

/-- The places: all of them are kept; they are counted. -/
theorem l6_7 {o1 : Tags} {t1 : Tag} {vp : CV} (hp : At o1 t1 H vp 1 M.places.length (Go.Cs.ints M.places)) (w : M.Ok) {ib cb : Nat} {is cnt : List Bool} {N : Nat} (hib : H[ib]? = some ⟨bools is, .rw, 1⟩) (hcb : H[cb]? = some ⟨bools cnt, .rw, 1⟩) (hne : ib ≠ cb) (hpc : o1 cb ≠ some t1)
    (hil : is.length = M.objs.length + 1) (hcl : cnt.length = M.objs.length + 1) (hN : N = M.objs.length + 1) (his : ∀ u, 0 ≤ u → u ≤ (M.objs.length : Int) → (on is u = true ↔ Kp M u))
    {E0 : Env} (h7 : E0 7 = .slice ib 0 N N 1 false) (h8 : E0 8 = vp) (h9 : E0 9 = .slice cb 0 N N 1 false) (h10 : E0 10 = .i 0)
    {r : Option (CX × Env × CHeap)} (hr : den P (.loop C6_7) E0 H = r) :
    ∃ E' H' cnt', r = some (.exit 0, E', H') ∧ GrX H cb H' ∧ H'[cb]? = some ⟨bools cnt', .rw, 1⟩ ∧ cnt'.length = M.objs.length + 1 ∧ (∀ v ∈ M.places, v ≠ 0 → on cnt' v = true) ∧ ∀ t, t ∉ wr C6_7 → E' t = E0 t := by
  have hpl := w.plen
  have hlen := hp.len
  obtain ⟨x', E', H', e, -, ⟨rfl, g1, cnt', g2, g3, g4⟩, fr⟩ := loop_at (p := P) (c := C6_7) (E0 := E0) (H0 := H) (fun k E H' => ∃ j : Nat, E 10 = .i j ∧ j ≤ M.places.length ∧ k = M.places.length - j ∧ GrX H cb H' ∧ ∃ cnt', H'[cb]? = some ⟨bools cnt', .rw, 1⟩ ∧ cnt'.length = M.objs.length + 1 ∧ ∀ v ∈ M.places.take j, v ≠ 0 → on cnt' v = true)
    (fun x' E' H' => x' = .exit 0 ∧ GrX H cb H' ∧ ∃ cnt', H'[cb]? = some ⟨bools cnt', .rw, 1⟩ ∧ cnt'.length = M.objs.length + 1 ∧ ∀ v ∈ M.places, v ≠ 0 → on cnt' v = true) (by
      rintro k E H' hE ⟨j, e10, hj, rfl, gr, cn, hcn, hcnl, hall⟩
      have e7 := (hE 7 (by decide +kernel)).trans h7
      have e8 := (hE 8 (by decide +kernel)).trans h8
      have e9 := (hE 9 (by decide +kernel)).trans h9
      by_cases c : j < M.places.length
      · have hgj := getD_of (l := M.places) (i := j) 0 c
        generalize hv : M.places.getD j 0 = v at *
        have hgi : (Go.Cs.ints M.places)[j]? = some (.i v) := by rw [ints_get, hgj]; rfl
        have hmem := List.mem_of_getElem? hgj
        have hvr := w.place hmem
        obtain ⟨tl, p1, p2, p3, -⟩ := hp.pos (by omega)
        have hvb : blkOf vp ≠ cb := by rintro h; rw [h] at p2; exact hpc p2
        rw [p1] at e8 hlen
        have p3' := gr.get p3 hvb
        have hib' := gr.get hib hne
        have hcbl := lt_of_get hcn
        have hbl : (bools cn).length = M.objs.length + 1 := by rw [bools_len]; exact hcnl
        have hw := wrapS j (by omega)
        by_cases hz : v = 0
        · apply step_go (k' := M.places.length - (j + 1))
          · simp (disch := first | omega | rfl | assumption | (simp only [csN, Nat.reduceAdd, Nat.reduceMul, Nat.reduceLeDiff, Nat.reduceEqDiff] <;> omega) | (simp only [csF]; done) | (simp only [csF] <;> assumption) | fail) only [Nat.reduceEqDiff, Nat.reduceAdd, Nat.reduceMul, Nat.reduceSub, Nat.reduceLeDiff, Int.reduceAdd, Int.reduceSub, Int.reduceMul, Int.reduceLT, Int.reduceLE, Int.reduceGT, Int.reduceGE, Int.reduceEq, Int.reduceBEq, Int.reduceBNe, Int.reduceNeg, Int.reduceToNat, csAll, ↓reduceIte, C6_7, e7, e8, e9, e10, hlen, hgi, p3', hw]
            rfl
          · omega
          · refine ⟨j + 1, by simp [upd_apply], by omega, rfl, gr, cn, hcn, hcnl, fun u hu huz => ?_⟩
            rw [take_snoc hgj, List.mem_append, List.mem_singleton] at hu
            rcases hu with hu | rfl
            · exact hall u hu huz
            · exact absurd hz huz
        · have hon := (his v hvr.1 hvr.2).2 (.root hmem hz)
          have hmi := on_get (ks := is) (v := v) (by omega)
          rw [hon] at hmi
          apply step_go (k' := M.places.length - (j + 1))
          · simp (disch := first | omega | rfl | assumption | (simp only [csN, Nat.reduceAdd, Nat.reduceMul, Nat.reduceLeDiff, Nat.reduceEqDiff] <;> omega) | (simp only [csF]; done) | (simp only [csF] <;> assumption) | fail) only [Nat.reduceEqDiff, Nat.reduceAdd, Nat.reduceMul, Nat.reduceSub, Nat.reduceLeDiff, Int.reduceAdd, Int.reduceSub, Int.reduceMul, Int.reduceLT, Int.reduceLE, Int.reduceGT, Int.reduceGE, Int.reduceEq, Int.reduceBEq, Int.reduceBNe, Int.reduceNeg, Int.reduceToNat, csAll, ↓reduceIte, C6_7, e7, e8, e9, e10, hlen, hgi, p3', hib', hmi, hcn, hw]
            rfl
          · omega
          · refine ⟨j + 1, by simp [upd_apply], by omega, rfl, gr.set _, cn.set v.toNat true, by rw [List.getElem?_set_self hcbl, bools_set], by simpa using hcnl, fun u hu huz => ?_⟩
            rw [take_snoc hgj, List.mem_append, List.mem_singleton] at hu
            rw [on_set ⟨hvr.1, by omega⟩ (by rcases hu with hu | rfl; exact (w.place (List.mem_of_mem_take hu)).1; exact hvr.1)]
            rcases hu with hu | rfl
            · rw [hall u hu huz, Bool.or_true]
            · simp
      · apply step_out (x := .exit 0)
        · simp (disch := first | omega | rfl | assumption | (simp only [csN, Nat.reduceAdd, Nat.reduceMul, Nat.reduceLeDiff, Nat.reduceEqDiff] <;> omega) | (simp only [csF]; done) | (simp only [csF] <;> assumption) | fail) only [Nat.reduceEqDiff, Nat.reduceAdd, Nat.reduceMul, Nat.reduceSub, Nat.reduceLeDiff, Int.reduceAdd, Int.reduceSub, Int.reduceMul, Int.reduceLT, Int.reduceLE, Int.reduceGT, Int.reduceGE, Int.reduceEq, Int.reduceBEq, Int.reduceBNe, Int.reduceNeg, Int.reduceToNat, csAll, ↓reduceIte, C6_7, e8, e10, hlen]
          rfl
        · simp
        · rw [take_all (by omega)] at hall
          exact ⟨rfl, gr, cn, hcn, hcnl, hall⟩) M.places.length ⟨0, h10, by omega, rfl, .refl H cb, cnt, hcb, hcl, fun v hv => by simp at hv⟩
  exact ⟨E', H', cnt', hr.symm.trans e, g1, g2, g3, g4, fr⟩

/-- No kept object keeps one that is not kept. -/
theorem l6_5 (m : MRep o g H0 b M L) (w : M.Ok) (hf : M.objs.length ≤ 1000) {o1 : Tags} {t1 : Tag} {vk : CV} (hk : At o1 t1 H0 vk 1 M.keptI.length (Go.Cs.ints M.keptI)) {ib : Nat} {is : List Bool} {N : Nat} (hib : H0[ib]? = some ⟨bools is, .rw, 1⟩)
    (hil : is.length = M.objs.length + 1) (hN : N = M.objs.length + 1) (his : ∀ u, 0 ≤ u → u ≤ (M.objs.length : Int) → (on is u = true ↔ Kp M u)) {a : Nat} {v : Int} (hv : M.keptI[a]? = some v)
    {E0 : Env} (h5 : E0 5 = .ptr b 0) (h6 : E0 6 = vk) (h7 : E0 7 = .slice ib 0 N N 1 false) (h11 : E0 11 = .i a) (h12 : E0 12 = .i 1) (gr : Gr H0 H)
    {r : Option (CX × Env × CHeap)} (hr : den P (.loop C6_5) E0 H = r) :
    ∃ E' H', r = some (.exit 4, E', H') ∧ Gr H0 H' ∧ ∀ t, t ∉ wr C6_5 → E' t = E0 t := by
  have hkl := klen w
  have hkv := (mem_keptI w).1 (List.mem_of_getElem? hv)
  have hh := Kp.has w hkv
  have hal := lt_of_get hv
  obtain ⟨x', E', H', e, -, ⟨rfl, g1⟩, fr⟩ := loop_at (p := P) (c := C6_5) (E0 := E0) (H0 := H) (fun k E H' => ∃ j : Nat, E 12 = .i ((j + 1 : Nat) : Int) ∧ j ≤ M.objs.length ∧ k = M.objs.length - j ∧ Gr H0 H') (fun x' E' H' => x' = .exit 4 ∧ Gr H0 H') (by
      rintro k E H' hE ⟨j, e12, hj, rfl, gr⟩
      have e5 := (hE 5 (by decide +kernel)).trans h5
      have e6 := (hE 6 (by decide +kernel)).trans h6
      have e7 := (hE 7 (by decide +kernel)).trans h7
      have e11 := (hE 11 (by decide +kernel)).trans h11
      have hib' := gr.get hib
      by_cases c : j < M.objs.length
      · have hgi : (Go.Cs.ints M.keptI)[a]? = some (.i v) := by rw [ints_get, hv]; rfl
        obtain ⟨tl, p1, -, p3, -⟩ := (hk.gr gr).pos (by omega)
        rw [p1] at e6
        have hw := wrapS (j + 1) (by omega)
        have hmi := on_get (ks := is) (v := ((j + 1 : Nat) : Int)) (by omega)
        rw [Int.toNat_natCast] at hmi
        cases hon : on is ((j + 1 : Nat) : Int) with
        | true =>
          rw [hon] at hmi
          apply step_go (k' := M.objs.length - (j + 1))
          · simp (disch := first | omega | rfl | assumption | (simp only [csN, Nat.reduceAdd, Nat.reduceMul, Nat.reduceLeDiff, Nat.reduceEqDiff] <;> omega) | (simp only [csF]; done) | (simp only [csF] <;> assumption) | fail) only [Nat.reduceEqDiff, Nat.reduceAdd, Nat.reduceMul, Nat.reduceSub, Nat.reduceLeDiff, Int.reduceAdd, Int.reduceSub, Int.reduceMul, Int.reduceLT, Int.reduceLE, Int.reduceGT, Int.reduceGE, Int.reduceEq, Int.reduceBEq, Int.reduceBNe, Int.reduceNeg, Int.reduceToNat, csAll, ↓reduceIte, C6_5, e5, e6, e7, e11, e12, hib', hmi, hw]
            rfl
          · omega
          · exact ⟨j + 1, by simp [upd_apply], by omega, rfl, gr⟩
        | false =>
          rw [hon] at hmi
          obtain ⟨H2, d27, g2⟩ := f27 (other := ((j + 1 : Nat) : Int)) (m.gr gr) w hh (ks := is) (N := N) hil (by omega) hib'
          rw [Kp.closes w his hkv (by omega) (fun h => by have := (his _ (by omega) (by omega)).2 h; rw [hon] at this; cases this)] at d27
          apply step_go (k' := M.objs.length - (j + 1))
          · simp (disch := first | omega | rfl | assumption | (simp only [csN, Nat.reduceAdd, Nat.reduceMul, Nat.reduceLeDiff, Nat.reduceEqDiff] <;> omega) | (simp only [csF]; done) | (simp only [csF] <;> assumption) | fail) only [Nat.reduceEqDiff, Nat.reduceAdd, Nat.reduceMul, Nat.reduceSub, Nat.reduceLeDiff, Int.reduceAdd, Int.reduceSub, Int.reduceMul, Int.reduceLT, Int.reduceLE, Int.reduceGT, Int.reduceGE, Int.reduceEq, Int.reduceBEq, Int.reduceBNe, Int.reduceNeg, Int.reduceToNat, csAll, ↓reduceIte, C6_5, e5, e6, e7, e11, e12, hib', hmi, hgi, p3, d27, hw]
            rfl
          · omega
          · exact ⟨j + 1, by simp [upd_apply], by omega, rfl, gr.trans g2⟩
      · apply step_out (x := .exit 4)
        · simp (disch := first | omega | rfl | assumption | (simp only [csN, Nat.reduceAdd, Nat.reduceMul, Nat.reduceLeDiff, Nat.reduceEqDiff] <;> omega) | (simp only [csF]; done) | (simp only [csF] <;> assumption) | fail) only [Nat.reduceEqDiff, Nat.reduceAdd, Nat.reduceMul, Nat.reduceSub, Nat.reduceLeDiff, Int.reduceAdd, Int.reduceSub, Int.reduceMul, Int.reduceLT, Int.reduceLE, Int.reduceGT, Int.reduceGE, Int.reduceEq, Int.reduceBEq, Int.reduceBNe, Int.reduceNeg, Int.reduceToNat, csAll, ↓reduceIte, C6_5, e7, e12]
          rfl
        · simp
        · exact ⟨rfl, gr⟩) M.objs.length ⟨0, h12, by omega, rfl, gr⟩
  exact ⟨E', H', hr.symm.trans e, g1, fr⟩

theorem l6_6 (m : MRep o g H0 b M L) (w : M.Ok) (hf : M.objs.length ≤ 1000) {o1 : Tags} {t1 : Tag} {vk : CV} (hk : At o1 t1 H0 vk 1 M.keptI.length (Go.Cs.ints M.keptI)) {ib : Nat} {is : List Bool} {N : Nat} (hib : H0[ib]? = some ⟨bools is, .rw, 1⟩)
    (hil : is.length = M.objs.length + 1) (hN : N = M.objs.length + 1) (his : ∀ u, 0 ≤ u → u ≤ (M.objs.length : Int) → (on is u = true ↔ Kp M u))
    {E0 : Env} (h5 : E0 5 = .ptr b 0) (h6 : E0 6 = vk) (h7 : E0 7 = .slice ib 0 N N 1 false) (h11 : E0 11 = .i 0) (gr : Gr H0 H)
    {r : Option (CX × Env × CHeap)} (hr : den P (.loop C6_6) E0 H = r) :
    ∃ E' H', r = some (.exit 2, E', H') ∧ Gr H0 H' ∧ ∀ t, t ∉ wr C6_6 → E' t = E0 t := by
  have hkl := klen w
  have hlen := hk.len
  obtain ⟨x', E', H', e, -, ⟨rfl, g1⟩, fr⟩ := loop_at (p := P) (c := C6_6) (E0 := E0) (H0 := H) (fun k E H' => ∃ j : Nat, E 11 = .i j ∧ j ≤ M.keptI.length ∧ k = M.keptI.length - j ∧ Gr H0 H') (fun x' E' H' => x' = .exit 2 ∧ Gr H0 H') (by
      rintro k E H' hE ⟨j, e11, hj, rfl, gr⟩
      have e5 := (hE 5 (by decide +kernel)).trans h5
      have e6 := (hE 6 (by decide +kernel)).trans h6
      have e7 := (hE 7 (by decide +kernel)).trans h7
      by_cases c : j < M.keptI.length
      · have hgj := getD_of (l := M.keptI) (i := j) 0 c
        have hgi : (Go.Cs.ints M.keptI)[j]? = some (.i (M.keptI.getD j 0)) := by rw [ints_get, hgj]; rfl
        obtain ⟨tl, p1, -, p3, -⟩ := (hk.gr gr).pos (by omega)
        have e6' := e6
        rw [p1] at e6' hlen
        have hw := wrapS j (by omega)
        have key : ∃ E' H2, den P C6_6 E H' = some (.normal, E', H2) ∧ E' 11 = .i ((j + 1 : Nat) : Int) ∧ Gr H0 H2 := by
          have fin : ∀ (E3 : Env) r, E3 5 = .ptr b 0 → E3 6 = vk → E3 7 = .slice ib 0 N N 1 false → E3 11 = .i j → E3 12 = .i 1 → den P (.loop C6_5) E3 H' = r → ∃ E4 H4, r = some (.exit 4, E4, H4) ∧ Gr H0 H4 ∧ E4 11 = .i j := by
            intro E3 r q5 q6 q7 q11 q12 hr
            obtain ⟨E4, H4, q, gg, fr4⟩ := l6_5 m w hf hk hib hil hN his hgj q5 q6 q7 q11 q12 gr hr
            exact ⟨E4, H4, q, gg, (fr4 11 (by decide +kernel)).trans q11⟩
          by_cases hj0 : j = 0
          · subst hj0
            simp (disch := first | omega | rfl | assumption | (simp only [csN, Nat.reduceAdd, Nat.reduceMul, Nat.reduceLeDiff, Nat.reduceEqDiff] <;> omega) | (simp only [csF]; done) | (simp only [csF] <;> assumption) | fail) only [Nat.reduceEqDiff, Nat.reduceAdd, Nat.reduceMul, Nat.reduceSub, Nat.reduceLeDiff, Int.reduceAdd, Int.reduceSub, Int.reduceMul, Int.reduceLT, Int.reduceLE, Int.reduceGT, Int.reduceGE, Int.reduceEq, Int.reduceBEq, Int.reduceBNe, Int.reduceNeg, Int.reduceToNat, csAll, ↓reduceIte, C6_6, e5, e6', e7, e11, hlen]
            generalize hr : den P (.loop C6_5) _ _ = r
            obtain ⟨E4, H4, rfl, gg, q11⟩ := fin _ r (by simp only [upd_apply, Nat.reduceEqDiff, ↓reduceIte, e5]) (by simp only [upd_apply, Nat.reduceEqDiff, ↓reduceIte, e6]) (by simp only [upd_apply, Nat.reduceEqDiff, ↓reduceIte, e7]) (by simp only [upd_apply, Nat.reduceEqDiff, ↓reduceIte, e11]) (by simp only [upd_apply, Nat.reduceEqDiff, ↓reduceIte]) hr
            simp (disch := first | omega | rfl | assumption | (simp only [csN, Nat.reduceAdd, Nat.reduceMul, Nat.reduceLeDiff, Nat.reduceEqDiff] <;> omega) | (simp only [csF]; done) | (simp only [csF] <;> assumption) | fail) only [Nat.reduceEqDiff, Nat.reduceAdd, Nat.reduceMul, Nat.reduceSub, Nat.reduceLeDiff, Int.reduceAdd, Int.reduceSub, Int.reduceMul, Int.reduceLT, Int.reduceLE, Int.reduceGT, Int.reduceGE, Int.reduceEq, Int.reduceBEq, Int.reduceBNe, Int.reduceNeg, Int.reduceToNat, csAll, ↓reduceIte, q11, hw]
            exact ⟨_, _, rfl, by simp [upd_apply], gg⟩
          · have hgp := getD_of (l := M.keptI) (i := j - 1) 0 (by omega)
            have hgpi : (Go.Cs.ints M.keptI)[j - 1]? = some (.i (M.keptI.getD (j - 1) 0)) := by rw [ints_get, hgp]; rfl
            have hlt : M.keptI.getD (j - 1) 0 < M.keptI.getD j 0 := idxs_get (by omega) hgp hgj
            have hw1 : IntKind.i64.wrap ((j : Int) - 1) = ((j - 1 : Nat) : Int) := by rw [wrap_id (by omega)]; omega
            simp (disch := first | omega | rfl | assumption | (simp only [csN, Nat.reduceAdd, Nat.reduceMul, Nat.reduceLeDiff, Nat.reduceEqDiff] <;> omega) | (simp only [csF]; done) | (simp only [csF] <;> assumption) | fail) only [Nat.reduceEqDiff, Nat.reduceAdd, Nat.reduceMul, Nat.reduceSub, Nat.reduceLeDiff, Int.reduceAdd, Int.reduceSub, Int.reduceMul, Int.reduceLT, Int.reduceLE, Int.reduceGT, Int.reduceGE, Int.reduceEq, Int.reduceBEq, Int.reduceBNe, Int.reduceNeg, Int.reduceToNat, csAll, ↓reduceIte, C6_6, e5, e6', e7, e11, hlen, p3, hgi, hgpi, hw1]
            generalize hr : den P (.loop C6_5) _ _ = r
            obtain ⟨E4, H4, rfl, gg, q11⟩ := fin _ r (by simp only [upd_apply, Nat.reduceEqDiff, ↓reduceIte, e5]) (by simp only [upd_apply, Nat.reduceEqDiff, ↓reduceIte, e6]) (by simp only [upd_apply, Nat.reduceEqDiff, ↓reduceIte, e7]) (by simp only [upd_apply, Nat.reduceEqDiff, ↓reduceIte, e11]) (by simp only [upd_apply, Nat.reduceEqDiff, ↓reduceIte]) hr
            simp (disch := first | omega | rfl | assumption | (simp only [csN, Nat.reduceAdd, Nat.reduceMul, Nat.reduceLeDiff, Nat.reduceEqDiff] <;> omega) | (simp only [csF]; done) | (simp only [csF] <;> assumption) | fail) only [Nat.reduceEqDiff, Nat.reduceAdd, Nat.reduceMul, Nat.reduceSub, Nat.reduceLeDiff, Int.reduceAdd, Int.reduceSub, Int.reduceMul, Int.reduceLT, Int.reduceLE, Int.reduceGT, Int.reduceGE, Int.reduceEq, Int.reduceBEq, Int.reduceBNe, Int.reduceNeg, Int.reduceToNat, csAll, ↓reduceIte, q11, hw]
            exact ⟨_, _, rfl, by simp [upd_apply], gg⟩
        obtain ⟨E', H2, k1, k2, k3⟩ := key
        exact step_go (k' := M.keptI.length - (j + 1)) k1 (by omega) ⟨j + 1, k2, by omega, rfl, k3⟩
      · apply step_out (x := .exit 2)
        · simp (disch := first | omega | rfl | assumption | (simp only [csN, Nat.reduceAdd, Nat.reduceMul, Nat.reduceLeDiff, Nat.reduceEqDiff] <;> omega) | (simp only [csF]; done) | (simp only [csF] <;> assumption) | fail) only [Nat.reduceEqDiff, Nat.reduceAdd, Nat.reduceMul, Nat.reduceSub, Nat.reduceLeDiff, Int.reduceAdd, Int.reduceSub, Int.reduceMul, Int.reduceLT, Int.reduceLE, Int.reduceGT, Int.reduceGE, Int.reduceEq, Int.reduceBEq, Int.reduceBNe, Int.reduceNeg, Int.reduceToNat, csAll, ↓reduceIte, C6_6, e6, e11, hlen]
          rfl
        · simp
        · exact ⟨rfl, gr⟩) M.keptI.length ⟨0, h11, by omega, rfl, gr⟩
  exact ⟨E', H', hr.symm.trans e, g1, fr⟩
end
end Go.Cs.Try

/- ModelLeast: the walk. -/
namespace Go.Cs
open Go
/-- Where a pass stands: its flag tells whether something was counted. -/
def PassSt (c0 : List Bool) (f : Bool) (cn : List Bool) : Prop := (f = true ∧ falses cn < falses c0) ∨ (f = false ∧ cn = c0)
theorem PassSt.count {c0 cn : List Bool} {f : Bool} (h : PassSt c0 f cn) {v : Int} (hv : v.toNat < cn.length) (ho : on cn v = false) : PassSt c0 true (cn.set v.toNat true) := by
  have := falses_set hv ho
  rcases h with ⟨-, h⟩ | ⟨-, rfl⟩
  · exact .inl ⟨rfl, by omega⟩
  · exact .inl ⟨rfl, this⟩
/-- Tags below a block alone. -/
def Lt (k : Nat) (T : Tags) : Tags := fun c => if c < k then T c else none
theorem Lt_at {k c : Nat} {T : Tags} (h : c < k) : Lt k T c = T c := by unfold Lt; rw [if_pos h]
theorem Lt_ge {k c : Nat} {T : Tags} (h : k ≤ c) : Lt k T c = none := by unfold Lt; rw [if_neg (by omega)]
theorem At.lt {T : Tags} {H : CHeap} {v : CV} {n : Nat} {cs : List CV} {t : Tag} (h : At T t H v 1 n cs) : At (Lt H.length T) t H v 1 n cs := by
  rcases h with h | ⟨c, tl, rfl, q1, q2, q3⟩
  · exact .inl h
  · exact .inr ⟨c, tl, rfl, by rw [Lt_at (lt_of_get q2)]; exact q1, q2, q3⟩
theorem At.grx {T : Tags} {H H' : CHeap} {v : CV} {n cb : Nat} {cs : List CV} {t : Tag} (h : At (Lt cb T) t H v 1 n cs) (g : GrX H cb H') : At (Lt cb T) t H' v 1 n cs := by
  rcases h with h | ⟨c, tl, rfl, q1, q2, q3⟩
  · exact .inl h
  · refine .inr ⟨c, tl, rfl, q1, g.get q2 ?_, q3⟩
    rintro rfl
    rw [Lt_ge (Nat.le_refl _)] at q1; cases q1
def Mono (a b : List Bool) : Prop := ∀ u : Int, 0 ≤ u → on a u = true → on b u = true
theorem Mono.set {a b : List Bool} (h : Mono a b) {v : Int} (hv : 0 ≤ v ∧ v.toNat < b.length) : Mono a (b.set v.toNat true) := fun u hu ho => by
  rw [on_set hv hu, h u hu ho, Bool.or_true]
theorem PassSt.same {c0 cn : List Bool} {f : Bool} (h : PassSt c0 f cn) (hf : f = false) : cn = c0 := by
  rcases h with ⟨h, -⟩ | ⟨-, h⟩
  · rw [hf] at h; cases h
  · exact h
end Go.Cs
namespace Go.Cs.Try
open Go Go.Cs
set_option maxRecDepth 100000
set_option maxHeartbeats 8000000
section
variable {o : Tags} {g : Nat} {b : Nat} {M : Mdl} {L : Lay} {H0 H : CHeap}

theorem l6_2 (m : MRep o g H0 b M L) (w : M.Ok) (hf : M.objs.length ≤ 1000) {o1 : Tags} {t1 : Tag} {vk : CV} (hk : At o1 t1 H0 vk 1 M.keptI.length (Go.Cs.ints M.keptI)) {cb ib : Nat} {N : Nat} (hoc : o cb = none) (hkc : o1 cb ≠ some t1) (hN : N = M.objs.length + 1) {a : Nat} {v : Int} (hv : M.keptI[a]? = some v)
    {c0 c1 : List Bool} {f1 : Bool} (hc1 : H[cb]? = some ⟨bools c1, .rw, 1⟩) (hl1 : c1.length = M.objs.length + 1) (hp1 : PassSt c0 f1 c1) (hm1 : Mono c0 c1)
    {E0 : Env} (h5 : E0 5 = .ptr b 0) (h6 : E0 6 = vk) (h7 : E0 7 = .slice ib 0 N N 1 false) (h9 : E0 9 = .slice cb 0 N N 1 false) (h13 : E0 13 = .bool f1) (h14 : E0 14 = .i a) (h15 : E0 15 = .i 1) (gr : GrX H0 cb H)
    {r : Option (CX × Env × CHeap)} (hr : den P (.loop C6_2) E0 H = r) :
    ∃ E' H' f cn, r = some (.exit 10, E', H') ∧ GrX H0 cb H' ∧ H'[cb]? = some ⟨bools cn, .rw, 1⟩ ∧ cn.length = M.objs.length + 1 ∧ PassSt c0 f cn ∧ Mono c0 cn ∧ E' 13 = .bool f ∧ (f = false → f1 = false ∧ ∀ n : Int, 1 ≤ n → n ≤ (M.objs.length : Int) → Cl M c0 v n) ∧ ∀ t, t ∉ wr C6_2 → E' t = E0 t := by
  have hkl := klen w
  have hkv := (mem_keptI w).1 (List.mem_of_getElem? hv)
  have hh := Kp.has w hkv
  have hhv := hh
  unfold Mdl.has at hhv
  have hal := lt_of_get hv
  have hlf : ∀ {cn : List Bool}, cn.length = M.objs.length + 1 → (bools cn).length = M.objs.length + 1 := fun h => by rw [bools_len]; exact h
  obtain ⟨x', E', H', e, -, ⟨rfl, g1, f, cn, g2, g3, g4, g5, g6, g7⟩, fr⟩ := loop_at (p := P) (c := C6_2) (E0 := E0) (H0 := H) (fun k E H' => ∃ j : Nat, E 15 = .i ((j + 1 : Nat) : Int) ∧ j ≤ M.objs.length ∧ k = M.objs.length - j ∧ GrX H0 cb H' ∧ ∃ f cn, H'[cb]? = some ⟨bools cn, .rw, 1⟩ ∧ cn.length = M.objs.length + 1 ∧ PassSt c0 f cn ∧ Mono c0 cn ∧ E 13 = .bool f ∧ (f = false → f1 = false ∧ ∀ n : Int, 1 ≤ n → n ≤ (j : Int) → Cl M c0 v n))
    (fun x' E' H' => x' = .exit 10 ∧ GrX H0 cb H' ∧ ∃ f cn, H'[cb]? = some ⟨bools cn, .rw, 1⟩ ∧ cn.length = M.objs.length + 1 ∧ PassSt c0 f cn ∧ Mono c0 cn ∧ E' 13 = .bool f ∧ (f = false → f1 = false ∧ ∀ n : Int, 1 ≤ n → n ≤ (M.objs.length : Int) → Cl M c0 v n)) (by
      rintro k E H' hE ⟨j, e15, hj, rfl, gr, f, cn, hcn, hcl, hps, hmo, e13, hcf⟩
      have e5 := (hE 5 (by decide +kernel)).trans h5
      have e6 := (hE 6 (by decide +kernel)).trans h6
      have e7 := (hE 7 (by decide +kernel)).trans h7
      have e9 := (hE 9 (by decide +kernel)).trans h9
      have e14 := (hE 14 (by decide +kernel)).trans h14
      by_cases c : j < M.objs.length
      · have hgi : (Go.Cs.ints M.keptI)[a]? = some (.i v) := by rw [ints_get, hv]; rfl
        obtain ⟨tl, p1, p2, p3, -⟩ := hk.pos (by omega)
        have hvb : blkOf vk ≠ cb := by rintro h; rw [h] at p2; exact hkc p2
        have p3' := gr.get p3 hvb
        rw [p1] at e6
        have hw := wrapS (j + 1) (by omega)
        have hmv := on_get (ks := cn) (v := v) (by omega)
        have hmi := on_get (ks := cn) (v := ((j + 1 : Nat) : Int)) (by omega)
        rw [Int.toNat_natCast] at hmi
        have hbl := hlf hcl
        have hcbl := lt_of_get hcn
        cases hov : on cn v with
        | false =>
          rw [hov] at hmv
          apply step_out (x := .exit 10)
          · simp (disch := first | omega | rfl | assumption | (simp only [csN, Nat.reduceAdd, Nat.reduceMul, Nat.reduceLeDiff, Nat.reduceEqDiff] <;> omega) | (simp only [csF]; done) | (simp only [csF] <;> assumption) | fail) only [Nat.reduceEqDiff, Nat.reduceAdd, Nat.reduceMul, Nat.reduceSub, Nat.reduceLeDiff, Int.reduceAdd, Int.reduceSub, Int.reduceMul, Int.reduceLT, Int.reduceLE, Int.reduceGT, Int.reduceGE, Int.reduceEq, Int.reduceBEq, Int.reduceBNe, Int.reduceNeg, Int.reduceToNat, csAll, ↓reduceIte, C6_2, e6, e7, e9, e14, e15, hgi, p3', hcn, hmv]
            rfl
          · simp
          · refine ⟨rfl, gr, f, cn, hcn, hcl, hps, hmo, by simp [upd_apply, e13], fun h => ⟨(hcf h).1, fun n _ _ hon => ?_⟩⟩
            rw [← hps.same h, hov] at hon; cases hon
        | true =>
          rw [hov] at hmv
          cases hoi : on cn ((j + 1 : Nat) : Int) with
          | true =>
            rw [hoi] at hmi
            apply step_go (k' := M.objs.length - (j + 1))
            · simp (disch := first | omega | rfl | assumption | (simp only [csN, Nat.reduceAdd, Nat.reduceMul, Nat.reduceLeDiff, Nat.reduceEqDiff] <;> omega) | (simp only [csF]; done) | (simp only [csF] <;> assumption) | fail) only [Nat.reduceEqDiff, Nat.reduceAdd, Nat.reduceMul, Nat.reduceSub, Nat.reduceLeDiff, Int.reduceAdd, Int.reduceSub, Int.reduceMul, Int.reduceLT, Int.reduceLE, Int.reduceGT, Int.reduceGE, Int.reduceEq, Int.reduceBEq, Int.reduceBNe, Int.reduceNeg, Int.reduceToNat, csAll, ↓reduceIte, C6_2, e5, e6, e7, e9, e14, e15, hgi, p3', hcn, hmv, hmi, hw]
              rfl
            · omega
            · refine ⟨j + 1, by simp [upd_apply], by omega, rfl, gr, f, cn, hcn, hcl, hps, hmo, by simp [upd_apply, e13], fun h => ⟨(hcf h).1, fun n h1 h2 => ?_⟩⟩
              by_cases en : n = ((j + 1 : Nat) : Int)
              · subst en
                rw [hps.same h] at hoi
                exact fun _ => .inl hoi
              · exact (hcf h).2 n h1 (by omega)
          | false =>
            rw [hoi] at hmi
            obtain ⟨H2, d27, g2⟩ := f27 (other := ((j + 1 : Nat) : Int)) (m.grx gr hoc) w hh (ks := cn) (N := N) hcl (by omega) hcn
            have hcn2 := g2.get hcn
            have gr2 := gr.gr g2
            cases hkb : keepsB (M.obj v) cn ((j + 1 : Nat) : Int) with
            | false =>
              rw [hkb] at d27
              apply step_go (k' := M.objs.length - (j + 1))
              · simp (disch := first | omega | rfl | assumption | (simp only [csN, Nat.reduceAdd, Nat.reduceMul, Nat.reduceLeDiff, Nat.reduceEqDiff] <;> omega) | (simp only [csF]; done) | (simp only [csF] <;> assumption) | fail) only [Nat.reduceEqDiff, Nat.reduceAdd, Nat.reduceMul, Nat.reduceSub, Nat.reduceLeDiff, Int.reduceAdd, Int.reduceSub, Int.reduceMul, Int.reduceLT, Int.reduceLE, Int.reduceGT, Int.reduceGE, Int.reduceEq, Int.reduceBEq, Int.reduceBNe, Int.reduceNeg, Int.reduceToNat, csAll, ↓reduceIte, C6_2, e5, e6, e7, e9, e14, e15, hgi, p3', hcn, hmv, hmi, d27, hw]
                rfl
              · omega
              · refine ⟨j + 1, by simp [upd_apply], by omega, rfl, gr2, f, cn, hcn2, hcl, hps, hmo, by simp [upd_apply, e13], fun h => ⟨(hcf h).1, fun n h1 h2 => ?_⟩⟩
                by_cases en : n = ((j + 1 : Nat) : Int)
                · subst en
                  rw [hps.same h] at hkb
                  exact fun _ => .inr hkb
                · exact (hcf h).2 n h1 (by omega)
            | true =>
              rw [hkb] at d27
              apply step_go (k' := M.objs.length - (j + 1))
              · simp (disch := first | omega | rfl | assumption | (simp only [csN, Nat.reduceAdd, Nat.reduceMul, Nat.reduceLeDiff, Nat.reduceEqDiff] <;> omega) | (simp only [csF]; done) | (simp only [csF] <;> assumption) | fail) only [Nat.reduceEqDiff, Nat.reduceAdd, Nat.reduceMul, Nat.reduceSub, Nat.reduceLeDiff, Int.reduceAdd, Int.reduceSub, Int.reduceMul, Int.reduceLT, Int.reduceLE, Int.reduceGT, Int.reduceGE, Int.reduceEq, Int.reduceBEq, Int.reduceBNe, Int.reduceNeg, Int.reduceToNat, csAll, ↓reduceIte, C6_2, e5, e6, e7, e9, e14, e15, hgi, p3', hcn, hcn2, hmv, hmi, d27, hw]
                rfl
              · omega
              · have hcl2 : ((j + 1 : Nat) : Int).toNat < cn.length := by omega
                refine ⟨j + 1, by simp [upd_apply], by omega, rfl, gr2.set _, true, cn.set ((j + 1 : Nat) : Int).toNat true, ?_, by simpa using hcl, hps.count hcl2 hoi, hmo.set ⟨by omega, hcl2⟩, by simp [upd_apply], fun h => by cases h⟩
                rw [List.getElem?_set_self (lt_of_get hcn2), bools_set, Int.toNat_natCast]
      · apply step_out (x := .exit 10)
        · simp (disch := first | omega | rfl | assumption | (simp only [csN, Nat.reduceAdd, Nat.reduceMul, Nat.reduceLeDiff, Nat.reduceEqDiff] <;> omega) | (simp only [csF]; done) | (simp only [csF] <;> assumption) | fail) only [Nat.reduceEqDiff, Nat.reduceAdd, Nat.reduceMul, Nat.reduceSub, Nat.reduceLeDiff, Int.reduceAdd, Int.reduceSub, Int.reduceMul, Int.reduceLT, Int.reduceLE, Int.reduceGT, Int.reduceGE, Int.reduceEq, Int.reduceBEq, Int.reduceBNe, Int.reduceNeg, Int.reduceToNat, csAll, ↓reduceIte, C6_2, e7, e9, e15]
          rfl
        · simp
        · exact ⟨rfl, gr, f, cn, hcn, hcl, hps, hmo, by simp [upd_apply, e13], fun h => ⟨(hcf h).1, fun n h1 h2 => (hcf h).2 n h1 (by omega)⟩⟩) M.objs.length ⟨0, h15, by omega, rfl, gr, f1, c1, hc1, hl1, hp1, hm1, h13, fun h => ⟨h, fun n h1 h2 => by omega⟩⟩
  exact ⟨E', H', f, cn, hr.symm.trans e, g1, g2, g3, g4, g5, g6, g7, fr⟩

theorem l6_3 (m : MRep o g H0 b M L) (w : M.Ok) (hf : M.objs.length ≤ 1000) {o1 : Tags} {t1 : Tag} {vk : CV} (hk : At o1 t1 H0 vk 1 M.keptI.length (Go.Cs.ints M.keptI)) {cb ib : Nat} {N : Nat} (hoc : o cb = none) (hkc : o1 cb ≠ some t1) (hN : N = M.objs.length + 1)
    {c0 : List Bool} (hc1 : H[cb]? = some ⟨bools c0, .rw, 1⟩) (hl1 : c0.length = M.objs.length + 1)
    {E0 : Env} (h5 : E0 5 = .ptr b 0) (h6 : E0 6 = vk) (h7 : E0 7 = .slice ib 0 N N 1 false) (h9 : E0 9 = .slice cb 0 N N 1 false) (h13 : E0 13 = .bool false) (h14 : E0 14 = .i 0) (gr : GrX H0 cb H)
    {r : Option (CX × Env × CHeap)} (hr : den P (.loop C6_3) E0 H = r) :
    ∃ E' H' f cn, r = some (.exit 8, E', H') ∧ GrX H0 cb H' ∧ H'[cb]? = some ⟨bools cn, .rw, 1⟩ ∧ cn.length = M.objs.length + 1 ∧ PassSt c0 f cn ∧ Mono c0 cn ∧ E' 13 = .bool f ∧ (f = false → ∀ v ∈ M.keptI, ∀ n : Int, 1 ≤ n → n ≤ (M.objs.length : Int) → Cl M c0 v n) ∧ ∀ t, t ∉ wr C6_3 → E' t = E0 t := by
  have hkl := klen w
  have hlen := hk.len
  obtain ⟨x', E', H', e, -, ⟨rfl, g1, f, cn, g2, g3, g4, g5, g6, g7⟩, fr⟩ := loop_at (p := P) (c := C6_3) (E0 := E0) (H0 := H) (fun k E H' => ∃ j : Nat, E 14 = .i j ∧ j ≤ M.keptI.length ∧ k = M.keptI.length - j ∧ GrX H0 cb H' ∧ ∃ f cn, H'[cb]? = some ⟨bools cn, .rw, 1⟩ ∧ cn.length = M.objs.length + 1 ∧ PassSt c0 f cn ∧ Mono c0 cn ∧ E 13 = .bool f ∧ (f = false → ∀ v ∈ M.keptI.take j, ∀ n : Int, 1 ≤ n → n ≤ (M.objs.length : Int) → Cl M c0 v n))
    (fun x' E' H' => x' = .exit 8 ∧ GrX H0 cb H' ∧ ∃ f cn, H'[cb]? = some ⟨bools cn, .rw, 1⟩ ∧ cn.length = M.objs.length + 1 ∧ PassSt c0 f cn ∧ Mono c0 cn ∧ E' 13 = .bool f ∧ (f = false → ∀ v ∈ M.keptI, ∀ n : Int, 1 ≤ n → n ≤ (M.objs.length : Int) → Cl M c0 v n)) (by
      rintro k E H' hE ⟨j, e14, hj, rfl, gr, f, cn, hcn, hcl, hps, hmo, e13, hcf⟩
      have e5 := (hE 5 (by decide +kernel)).trans h5
      have e6 := (hE 6 (by decide +kernel)).trans h6
      have e7 := (hE 7 (by decide +kernel)).trans h7
      have e9 := (hE 9 (by decide +kernel)).trans h9
      by_cases c : j < M.keptI.length
      · have hgj := getD_of (l := M.keptI) (i := j) 0 c
        have hw := wrapS j (by omega)
        have key : ∃ E' H2 f' cn', den P C6_3 E H' = some (.normal, E', H2) ∧ E' 14 = .i ((j + 1 : Nat) : Int) ∧ GrX H0 cb H2 ∧ H2[cb]? = some ⟨bools cn', .rw, 1⟩ ∧ cn'.length = M.objs.length + 1 ∧ PassSt c0 f' cn' ∧ Mono c0 cn' ∧ E' 13 = .bool f' ∧ (f' = false → f = false ∧ ∀ n : Int, 1 ≤ n → n ≤ (M.objs.length : Int) → Cl M c0 (M.keptI.getD j 0) n) := by
          rw [← e6] at hlen
          simp (disch := first | omega | rfl | assumption | (simp only [csN, Nat.reduceAdd, Nat.reduceMul, Nat.reduceLeDiff, Nat.reduceEqDiff] <;> omega) | (simp only [csF]; done) | (simp only [csF] <;> assumption) | fail) only [Nat.reduceEqDiff, Nat.reduceAdd, Nat.reduceMul, Nat.reduceSub, Nat.reduceLeDiff, Int.reduceAdd, Int.reduceSub, Int.reduceMul, Int.reduceLT, Int.reduceLE, Int.reduceGT, Int.reduceGE, Int.reduceEq, Int.reduceBEq, Int.reduceBNe, Int.reduceNeg, Int.reduceToNat, csAll, ↓reduceIte, C6_3, e14, hlen]
          generalize hr : den P (.loop C6_2) _ _ = r
          obtain ⟨E4, H4, f', cn', rfl, q1, q2, q3, q4, q5, q6, q7, q8⟩ := l6_2 m w hf hk (ib := ib) hoc hkc hN hgj hcn hcl hps hmo (by simp only [upd_apply, Nat.reduceEqDiff, ↓reduceIte, e5]) (by simp only [upd_apply, Nat.reduceEqDiff, ↓reduceIte, e6]) (by simp only [upd_apply, Nat.reduceEqDiff, ↓reduceIte, e7]) (by simp only [upd_apply, Nat.reduceEqDiff, ↓reduceIte, e9]) (by simp only [upd_apply, Nat.reduceEqDiff, ↓reduceIte, e13]) (by simp only [upd_apply, Nat.reduceEqDiff, ↓reduceIte, e14]) (by simp only [upd_apply, Nat.reduceEqDiff, ↓reduceIte]) gr hr
          have k14 := q8 14 (by decide +kernel)
          simp only [upd_apply, Nat.reduceEqDiff, ↓reduceIte, e14] at k14
          simp (disch := first | omega | rfl | assumption | (simp only [csN, Nat.reduceAdd, Nat.reduceMul, Nat.reduceLeDiff, Nat.reduceEqDiff] <;> omega) | (simp only [csF]; done) | (simp only [csF] <;> assumption) | fail) only [Nat.reduceEqDiff, Nat.reduceAdd, Nat.reduceMul, Nat.reduceSub, Nat.reduceLeDiff, Int.reduceAdd, Int.reduceSub, Int.reduceMul, Int.reduceLT, Int.reduceLE, Int.reduceGT, Int.reduceGE, Int.reduceEq, Int.reduceBEq, Int.reduceBNe, Int.reduceNeg, Int.reduceToNat, csAll, ↓reduceIte, k14, hw]
          exact ⟨_, _, f', cn', rfl, by simp [upd_apply], q1, q2, q3, q4, q5, by simp [upd_apply, q6], q7⟩
        obtain ⟨E', H2, f', cn', k1, k2, k3, k4, k5, k6, k7, k8, k9⟩ := key
        refine step_go (k' := M.keptI.length - (j + 1)) k1 (by omega) ⟨j + 1, k2, by omega, rfl, k3, f', cn', k4, k5, k6, k7, k8, fun h v hv => ?_⟩
        obtain ⟨z1, z2⟩ := k9 h
        rw [take_snoc hgj, List.mem_append, List.mem_singleton] at hv
        rcases hv with hv | rfl
        · exact hcf z1 v hv
        · exact z2
      · apply step_out (x := .exit 8)
        · simp (disch := first | omega | rfl | assumption | (simp only [csN, Nat.reduceAdd, Nat.reduceMul, Nat.reduceLeDiff, Nat.reduceEqDiff] <;> omega) | (simp only [csF]; done) | (simp only [csF] <;> assumption) | fail) only [Nat.reduceEqDiff, Nat.reduceAdd, Nat.reduceMul, Nat.reduceSub, Nat.reduceLeDiff, Int.reduceAdd, Int.reduceSub, Int.reduceMul, Int.reduceLT, Int.reduceLE, Int.reduceGT, Int.reduceGE, Int.reduceEq, Int.reduceBEq, Int.reduceBNe, Int.reduceNeg, Int.reduceToNat, csAll, ↓reduceIte, C6_3, e6, e14, hlen]
          rfl
        · simp
        · rw [take_all (by omega)] at hcf
          exact ⟨rfl, gr, f, cn, hcn, hcl, hps, hmo, by simp [upd_apply, e13], hcf⟩) M.keptI.length ⟨0, h14, by omega, rfl, gr, false, c0, hc1, hl1, .inr ⟨rfl, rfl⟩, fun _ _ h => h, h13, fun _ v hv => by simp at hv⟩
  exact ⟨E', H', f, cn, hr.symm.trans e, g1, g2, g3, g4, g5, g6, g7, fr⟩

theorem l6_4 (m : MRep o g H0 b M L) (w : M.Ok) (hf : M.objs.length ≤ 1000) {o1 : Tags} {t1 : Tag} {vk : CV} (hk : At o1 t1 H0 vk 1 M.keptI.length (Go.Cs.ints M.keptI)) {cb ib : Nat} {N : Nat} (hoc : o cb = none) (hkc : o1 cb ≠ some t1) (hN : N = M.objs.length + 1)
    {c0 : List Bool} (hc1 : H[cb]? = some ⟨bools c0, .rw, 1⟩) (hl1 : c0.length = M.objs.length + 1) (hpl : ∀ v ∈ M.places, v ≠ 0 → on c0 v = true)
    {E0 : Env} (h5 : E0 5 = .ptr b 0) (h6 : E0 6 = vk) (h7 : E0 7 = .slice ib 0 N N 1 false) (h9 : E0 9 = .slice cb 0 N N 1 false) (h13 : E0 13 = .bool true) (gr : GrX H0 cb H)
    {r : Option (CX × Env × CHeap)} (hr : den P (.loop C6_4) E0 H = r) :
    ∃ E' H' cn, r = some (.exit 6, E', H') ∧ GrX H0 cb H' ∧ H'[cb]? = some ⟨bools cn, .rw, 1⟩ ∧ cn.length = M.objs.length + 1 ∧ (∀ v, Kp M v → on cn v = true) ∧ ∀ t, t ∉ wr C6_4 → E' t = E0 t := by
  obtain ⟨x', E', H', e, -, ⟨rfl, g1, cn, g2, g3, g4⟩, fr⟩ := loop_at (p := P) (c := C6_4) (E0 := E0) (H0 := H) (fun k E H' => GrX H0 cb H' ∧ ∃ f cn, H'[cb]? = some ⟨bools cn, .rw, 1⟩ ∧ cn.length = M.objs.length + 1 ∧ (∀ v ∈ M.places, v ≠ 0 → on cn v = true) ∧ E 13 = .bool f ∧ k = 2 * falses cn + (if f = true then 1 else 0) ∧ (f = false → ∀ v ∈ M.keptI, ∀ n : Int, 1 ≤ n → n ≤ (M.objs.length : Int) → Cl M cn v n))
    (fun x' E' H' => x' = .exit 6 ∧ GrX H0 cb H' ∧ ∃ cn, H'[cb]? = some ⟨bools cn, .rw, 1⟩ ∧ cn.length = M.objs.length + 1 ∧ (∀ v, Kp M v → on cn v = true)) (by
      rintro k E H' hE ⟨gr, f, cn, hcn, hcl, hpl, e13, rfl, hcf⟩
      have e5 := (hE 5 (by decide +kernel)).trans h5
      have e6 := (hE 6 (by decide +kernel)).trans h6
      have e7 := (hE 7 (by decide +kernel)).trans h7
      have e9 := (hE 9 (by decide +kernel)).trans h9
      cases f with
      | true =>
        have key : ∃ E' H2 f' cn', den P C6_4 E H' = some (.normal, E', H2) ∧ GrX H0 cb H2 ∧ H2[cb]? = some ⟨bools cn', .rw, 1⟩ ∧ cn'.length = M.objs.length + 1 ∧ PassSt cn f' cn' ∧ Mono cn cn' ∧ E' 13 = .bool f' ∧ (f' = false → ∀ v ∈ M.keptI, ∀ n : Int, 1 ≤ n → n ≤ (M.objs.length : Int) → Cl M cn v n) := by
          simp (disch := first | omega | rfl | assumption | (simp only [csN, Nat.reduceAdd, Nat.reduceMul, Nat.reduceLeDiff, Nat.reduceEqDiff] <;> omega) | (simp only [csF]; done) | (simp only [csF] <;> assumption) | fail) only [Nat.reduceEqDiff, Nat.reduceAdd, Nat.reduceMul, Nat.reduceSub, Nat.reduceLeDiff, Int.reduceAdd, Int.reduceSub, Int.reduceMul, Int.reduceLT, Int.reduceLE, Int.reduceGT, Int.reduceGE, Int.reduceEq, Int.reduceBEq, Int.reduceBNe, Int.reduceNeg, Int.reduceToNat, csAll, ↓reduceIte, C6_4, e13]
          generalize hr : den P (.loop C6_3) _ _ = r
          obtain ⟨E4, H4, f', cn', rfl, q1, q2, q3, q4, q5, q6, q7, q8⟩ := l6_3 m w hf hk (ib := ib) hoc hkc hN hcn hcl (by simp only [upd_apply, Nat.reduceEqDiff, ↓reduceIte, e5]) (by simp only [upd_apply, Nat.reduceEqDiff, ↓reduceIte, e6]) (by simp only [upd_apply, Nat.reduceEqDiff, ↓reduceIte, e7]) (by simp only [upd_apply, Nat.reduceEqDiff, ↓reduceIte, e9]) (by simp only [upd_apply, Nat.reduceEqDiff, ↓reduceIte]) (by simp only [upd_apply, Nat.reduceEqDiff, ↓reduceIte]) gr hr
          simp (disch := first | omega | rfl | assumption | (simp only [csN, Nat.reduceAdd, Nat.reduceMul, Nat.reduceLeDiff, Nat.reduceEqDiff] <;> omega) | (simp only [csF]; done) | (simp only [csF] <;> assumption) | fail) only [Nat.reduceEqDiff, Nat.reduceAdd, Nat.reduceMul, Nat.reduceSub, Nat.reduceLeDiff, Int.reduceAdd, Int.reduceSub, Int.reduceMul, Int.reduceLT, Int.reduceLE, Int.reduceGT, Int.reduceGE, Int.reduceEq, Int.reduceBEq, Int.reduceBNe, Int.reduceNeg, Int.reduceToNat, csAll, ↓reduceIte]
          exact ⟨_, _, f', cn', rfl, q1, q2, q3, q4, q5, q6, q7⟩
        obtain ⟨E', H2, f', cn', k1, k3, k4, k5, k6, k7, k8, k9⟩ := key
        refine step_go (k' := 2 * falses cn' + (if f' = true then 1 else 0)) k1 ?_ ⟨k3, f', cn', k4, k5, fun v hv hz => k7 v (w.place hv).1 (hpl v hv hz), k8, rfl, fun h => ?_⟩
        · rcases k6 with ⟨rfl, h⟩ | ⟨rfl, rfl⟩
          · simp only [↓reduceIte]; omega
          · simp only [↓reduceIte, Bool.false_eq_true]; omega
        · rw [k6.same h]; exact k9 h
      | false =>
        apply step_out (x := .exit 6)
        · simp (disch := first | omega | rfl | assumption | (simp only [csN, Nat.reduceAdd, Nat.reduceMul, Nat.reduceLeDiff, Nat.reduceEqDiff] <;> omega) | (simp only [csF]; done) | (simp only [csF] <;> assumption) | fail) only [Nat.reduceEqDiff, Nat.reduceAdd, Nat.reduceMul, Nat.reduceSub, Nat.reduceLeDiff, Int.reduceAdd, Int.reduceSub, Int.reduceMul, Int.reduceLT, Int.reduceLE, Int.reduceGT, Int.reduceGE, Int.reduceEq, Int.reduceBEq, Int.reduceBNe, Int.reduceNeg, Int.reduceToNat, csAll, ↓reduceIte, C6_4, e13]
          rfl
        · simp
        · exact ⟨rfl, gr, cn, hcn, hcl, fun v hv => Kp.closed w hpl (fun v n hv => hcf rfl v ((mem_keptI w).2 hv) n) hv⟩) _ ⟨gr, true, c0, hc1, hl1, hpl, h13, rfl, fun h => by cases h⟩
  exact ⟨E', H', cn, hr.symm.trans e, g1, g2, g3, g4, fr⟩

theorem l6_1 (w : M.Ok) {o1 : Tags} {t1 : Tag} {vk : CV} (hk : At o1 t1 H vk 1 M.keptI.length (Go.Cs.ints M.keptI)) {cb : Nat} {N : Nat} (hN : N = M.objs.length + 1)
    {cn : List Bool} (hc : H[cb]? = some ⟨bools cn, .rw, 1⟩) (hl : cn.length = M.objs.length + 1) (hall : ∀ v, Kp M v → on cn v = true)
    {E0 : Env} (h6 : E0 6 = vk) (h9 : E0 9 = .slice cb 0 N N 1 false) (h16 : E0 16 = .i 0)
    {r : Option (CX × Env × CHeap)} (hr : den P (.loop C6_1) E0 H = r) :
    ∃ E', r = some (.exit 12, E', H) := by
  have hkl := klen w
  have hlen := hk.len
  obtain ⟨x', E', H', e, -, ⟨rfl, rfl⟩, fr⟩ := loop_at (p := P) (c := C6_1) (E0 := E0) (H0 := H) (fun k E H' => H' = H ∧ ∃ j : Nat, E 16 = .i j ∧ j ≤ M.keptI.length ∧ k = M.keptI.length - j) (fun x' E' H' => x' = .exit 12 ∧ H' = H) (by
      rintro k E H' hE ⟨rfl, j, e16, hj, rfl⟩
      have e6 := (hE 6 (by decide +kernel)).trans h6
      have e9 := (hE 9 (by decide +kernel)).trans h9
      by_cases c : j < M.keptI.length
      · have hgj := getD_of (l := M.keptI) (i := j) 0 c
        generalize hv : M.keptI.getD j 0 = v at *
        have hgi : (Go.Cs.ints M.keptI)[j]? = some (.i v) := by rw [ints_get, hgj]; rfl
        have hkv := (mem_keptI w).1 (List.mem_of_getElem? hgj)
        have hh := Kp.has w hkv
        unfold Mdl.has at hh
        have hmv := on_get (ks := cn) (v := v) (by omega)
        rw [hall v hkv] at hmv
        obtain ⟨tl, p1, -, p3, -⟩ := hk.pos (by omega)
        rw [p1] at e6 hlen
        have hw := wrapS j (by omega)
        apply step_go (k' := M.keptI.length - (j + 1))
        · simp (disch := first | omega | rfl | assumption | (simp only [csN, Nat.reduceAdd, Nat.reduceMul, Nat.reduceLeDiff, Nat.reduceEqDiff] <;> omega) | (simp only [csF]; done) | (simp only [csF] <;> assumption) | fail) only [Nat.reduceEqDiff, Nat.reduceAdd, Nat.reduceMul, Nat.reduceSub, Nat.reduceLeDiff, Int.reduceAdd, Int.reduceSub, Int.reduceMul, Int.reduceLT, Int.reduceLE, Int.reduceGT, Int.reduceGE, Int.reduceEq, Int.reduceBEq, Int.reduceBNe, Int.reduceNeg, Int.reduceToNat, csAll, ↓reduceIte, C6_1, e6, e9, e16, hlen, hgi, p3, hc, hmv, hw]
          rfl
        · omega
        · exact ⟨rfl, j + 1, by simp [upd_apply], by omega, rfl⟩
      · apply step_out (x := .exit 12)
        · simp (disch := first | omega | rfl | assumption | (simp only [csN, Nat.reduceAdd, Nat.reduceMul, Nat.reduceLeDiff, Nat.reduceEqDiff] <;> omega) | (simp only [csF]; done) | (simp only [csF] <;> assumption) | fail) only [Nat.reduceEqDiff, Nat.reduceAdd, Nat.reduceMul, Nat.reduceSub, Nat.reduceLeDiff, Int.reduceAdd, Int.reduceSub, Int.reduceMul, Int.reduceLT, Int.reduceLE, Int.reduceGT, Int.reduceGE, Int.reduceEq, Int.reduceBEq, Int.reduceBNe, Int.reduceNeg, Int.reduceToNat, csAll, ↓reduceIte, C6_1, e6, e16, hlen]
          rfl
        · simp
        · exact ⟨rfl, rfl⟩) M.keptI.length ⟨rfl, 0, h16, by omega, rfl⟩
  exact ⟨E', hr.symm.trans e⟩

theorem f6 {o : Tags} {H : CHeap} {v : CV} {l : List Stp} (hd : ∀ c t, o c = some t → c < H.length) (hg : ∀ c k, o c ≠ some (0, k)) (st : Steps o H v l) (nn : Int) :
    ∃ H', run P 6 [.i nn, v] H = some (.bool true, H') := by
  by_cases hok : (1 ≤ nn ∧ nn ≤ 4) ∧ l.length ≤ 120
  case neg =>
    obtain ⟨H1, e12⟩ := f12_no (H := H) (n := nn) st.len (by omega)
    obtain ⟨H2, e13⟩ := f13 (H := H1)
    apply ex_run
    rw [run_lv c6]
    simp (disch := first | omega | rfl | assumption | (simp only [csN, Nat.reduceAdd, Nat.reduceMul, Nat.reduceLeDiff, Nat.reduceEqDiff] <;> omega) | (simp only [csF]; done) | (simp only [csF] <;> assumption) | fail) only [Nat.reduceEqDiff, Nat.reduceAdd, Nat.reduceMul, Nat.reduceSub, Nat.reduceLeDiff, Int.reduceAdd, Int.reduceSub, Int.reduceMul, Int.reduceLT, Int.reduceLE, Int.reduceGT, Int.reduceGE, Int.reduceEq, Int.reduceBEq, Int.reduceBNe, Int.reduceNeg, Int.reduceToNat, csAll, ↓reduceIte, C6, entry_2, e12, e13]
    rfl
  obtain ⟨hn, hl⟩ := hok
  obtain ⟨n, rfl⟩ : ∃ n : Nat, nn = (n : Int) := ⟨nn.toNat, by omega⟩
  obtain ⟨b, H1, o1, L1, e12, m, fr1⟩ := f12 (g := 0) hd hg (n := n) (by omega) hl st
  obtain ⟨w, hob⟩ := madeM_ok (n := n) (by omega) l (by omega)
  generalize hM : madeM n l = M at *
  obtain ⟨v6, H2, e14, fr2, m2, a2⟩ := kept_frm m w
  have hkl := klen w
  have e19 := f19 m2 w hkl a2 (kid w)
  have hf : M.objs.length ≤ 1000 := by omega
  have hbl : (bools (marks M.objs.length M.keptI)).length = M.objs.length + 1 := by rw [bools_len, marks_len]
  -- the list of what is kept, its first element false
  have hset : (bools (marks M.objs.length M.keptI)).set 0 (.bool false) = bools ((marks M.objs.length M.keptI).set 0 false) := (bools_set _ _ _).symm
  have his : ∀ u : Int, 0 ≤ u → u ≤ (M.objs.length : Int) → (on ((marks M.objs.length M.keptI).set 0 false) u = true ↔ Kp M u) := by
    intro u h0 h1
    by_cases hu : u = 0
    · subst hu
      unfold on
      rw [Int.toNat_zero, List.getD_eq_getElem?_getD, List.getElem?_set_self (by rw [marks_len]; omega)]
      exact ⟨fun h => by simp at h, fun h => absurd h (kept_no0 w)⟩
    · unfold on
      rw [List.getD_eq_getElem?_getD, List.getElem?_set_ne (by omega), ← List.getD_eq_getElem?_getD]
      exact (marks_on (kid w) h0).trans (mem_keptI w)
  have hil : ((marks M.objs.length M.keptI).set 0 false).length = M.objs.length + 1 := by rw [List.length_set, marks_len]
  generalize hisl : (marks M.objs.length M.keptI).set 0 false = is at *
  have m3 := m2.app [(⟨bools is, .rw, 1⟩ : Blk)]
  have fr3 : Frm 0 o1 H2 o1 (H2 ++ [(⟨bools is, .rw, 1⟩ : Blk)]) := .app m2.dom _
  have a3 := a2.unFrm fr3
  have hib3 : (H2 ++ [(⟨bools is, .rw, 1⟩ : Blk)])[H2.length]? = some ⟨bools is, .rw, 1⟩ := look_last rfl
  obtain ⟨v8, H4, e20, g4, i4⟩ := f20 m3 w
  have hib4 := g4.get hib3
  have a4 := a3.gr g4
  have hl4 := g4.len
  rw [List.length_append, List.length_singleton] at hl4
  have g5 : Gr H4 (H4 ++ [(⟨bools (List.replicate (M.objs.length + 1) false), .rw, 1⟩ : Blk)]) := .app _ _
  have m5 := (m3.gr g4).gr g5
  have a5 := a4.gr g5
  have hib5 := g5.get hib4
  have i5 := i4.gr g5
  have hcb5 : (H4 ++ [(⟨bools (List.replicate (M.objs.length + 1) false), .rw, 1⟩ : Blk)])[H4.length]? = some ⟨bools (List.replicate (M.objs.length + 1) false), .rw, 1⟩ := look_last rfl
  have hoc : o1 H4.length = none := tag_none (m3.gr g4).dom
  -- lists that stood there before the new block
  have p5 := i4.lt.gr g5
  have k5 := a4.lt.gr g5
  have hno : ∀ (T : Tags), Lt H4.length T H4.length ≠ some z3 := fun T => by rw [Lt_ge (Nat.le_refl _)]; simp
  have hbrep : (List.replicate (M.objs.length + 1) [CV.bool false]).flatten = bools (List.replicate (M.objs.length + 1) false) := (bools_rep _).symm
  rw [run_lv c6]
  simp (disch := first | omega | rfl | assumption | (simp only [csN, Nat.reduceAdd, Nat.reduceMul, Nat.reduceLeDiff, Nat.reduceEqDiff] <;> omega) | (simp only [csF]; done) | (simp only [csF] <;> assumption) | fail) only [Nat.reduceEqDiff, Nat.reduceAdd, Nat.reduceMul, Nat.reduceSub, Nat.reduceLeDiff, Int.reduceAdd, Int.reduceSub, Int.reduceMul, Int.reduceLT, Int.reduceLE, Int.reduceGT, Int.reduceGE, Int.reduceEq, Int.reduceBEq, Int.reduceBNe, Int.reduceNeg, Int.reduceToNat, csAll, ↓reduceIte, C6, entry_2, e12, e14, e19, hset, hisl, e20, hbrep]
  generalize hr : den P (.loop C6_7) _ _ = r
  obtain ⟨E6, H6, cn, rfl, gx6, hc6, hl6, hpl6, fr6⟩ := l6_7 p5 w (ib := H2.length) (cb := H4.length) (N := M.objs.length + 1) hib5 hcb5 (by omega) (hno _) hil (by simp) rfl his (by simp only [upd_apply, Nat.reduceEqDiff, ↓reduceIte]) (by simp only [upd_apply, Nat.reduceEqDiff, ↓reduceIte]) (by simp only [upd_apply, Nat.reduceEqDiff, ↓reduceIte]) (by simp only [upd_apply, Nat.reduceEqDiff, ↓reduceIte]) hr
  have t5 := fr6 5 (by decide +kernel)
  have t6 := fr6 6 (by decide +kernel)
  have t7 := fr6 7 (by decide +kernel)
  have t9 := fr6 9 (by decide +kernel)
  simp only [upd_apply, Nat.reduceEqDiff, ↓reduceIte] at t5 t6 t7 t9
  have m6 := m5.grx gx6 hoc
  have k6 := k5.grx gx6
  have hib6 := gx6.get hib5 (by omega)
  simp (disch := first | omega | rfl | assumption | (simp only [csN, Nat.reduceAdd, Nat.reduceMul, Nat.reduceLeDiff, Nat.reduceEqDiff] <;> omega) | (simp only [csF]; done) | (simp only [csF] <;> assumption) | fail) only [Nat.reduceEqDiff, Nat.reduceAdd, Nat.reduceMul, Nat.reduceSub, Nat.reduceLeDiff, Int.reduceAdd, Int.reduceSub, Int.reduceMul, Int.reduceLT, Int.reduceLE, Int.reduceGT, Int.reduceGE, Int.reduceEq, Int.reduceBEq, Int.reduceBNe, Int.reduceNeg, Int.reduceToNat, csAll, ↓reduceIte]
  generalize hr2 : den P (.loop C6_6) _ _ = r2
  obtain ⟨E7, H7, rfl, g7, fr7⟩ := l6_6 m6 w hf k6 hib6 hil (N := M.objs.length + 1) rfl his (by simp only [upd_apply, Nat.reduceEqDiff, ↓reduceIte, t5]) (by simp only [upd_apply, Nat.reduceEqDiff, ↓reduceIte, t6]) (by simp only [upd_apply, Nat.reduceEqDiff, ↓reduceIte, t7]) (by simp only [upd_apply, Nat.reduceEqDiff, ↓reduceIte]) (.refl H6) hr2
  have s5 := fr7 5 (by decide +kernel)
  have s6 := fr7 6 (by decide +kernel)
  have s7 := fr7 7 (by decide +kernel)
  have s9 := fr7 9 (by decide +kernel)
  simp only [upd_apply, Nat.reduceEqDiff, ↓reduceIte, t5, t6, t7, t9] at s5 s6 s7 s9
  have m7 := m6.gr g7
  have k7 := k6.gr g7
  have hc7 := g7.get hc6
  simp (disch := first | omega | rfl | assumption | (simp only [csN, Nat.reduceAdd, Nat.reduceMul, Nat.reduceLeDiff, Nat.reduceEqDiff] <;> omega) | (simp only [csF]; done) | (simp only [csF] <;> assumption) | fail) only [Nat.reduceEqDiff, Nat.reduceAdd, Nat.reduceMul, Nat.reduceSub, Nat.reduceLeDiff, Int.reduceAdd, Int.reduceSub, Int.reduceMul, Int.reduceLT, Int.reduceLE, Int.reduceGT, Int.reduceGE, Int.reduceEq, Int.reduceBEq, Int.reduceBNe, Int.reduceNeg, Int.reduceToNat, csAll, ↓reduceIte]
  generalize hr3 : den P (.loop C6_4) _ _ = r3
  obtain ⟨E8, H8, cn8, rfl, gx8, hc8, hl8, hall, fr8⟩ := l6_4 m7 w hf k7 (cb := H4.length) (ib := H2.length) (N := M.objs.length + 1) hoc (hno _) rfl hc7 hl6 hpl6 (by simp only [upd_apply, Nat.reduceEqDiff, ↓reduceIte, s5]) (by simp only [upd_apply, Nat.reduceEqDiff, ↓reduceIte, s6]) (by simp only [upd_apply, Nat.reduceEqDiff, ↓reduceIte, s7]) (by simp only [upd_apply, Nat.reduceEqDiff, ↓reduceIte, s9]) (by simp only [upd_apply, Nat.reduceEqDiff, ↓reduceIte]) (.refl H7 _) hr3
  have u6 := fr8 6 (by decide +kernel)
  have u9 := fr8 9 (by decide +kernel)
  simp only [upd_apply, Nat.reduceEqDiff, ↓reduceIte, s6, s9] at u6 u9
  have k8 := k7.grx gx8
  simp (disch := first | omega | rfl | assumption | (simp only [csN, Nat.reduceAdd, Nat.reduceMul, Nat.reduceLeDiff, Nat.reduceEqDiff] <;> omega) | (simp only [csF]; done) | (simp only [csF] <;> assumption) | fail) only [Nat.reduceEqDiff, Nat.reduceAdd, Nat.reduceMul, Nat.reduceSub, Nat.reduceLeDiff, Int.reduceAdd, Int.reduceSub, Int.reduceMul, Int.reduceLT, Int.reduceLE, Int.reduceGT, Int.reduceGE, Int.reduceEq, Int.reduceBEq, Int.reduceBNe, Int.reduceNeg, Int.reduceToNat, csAll, ↓reduceIte]
  generalize hr4 : den P (.loop C6_1) _ _ = r4
  obtain ⟨E9, rfl⟩ := l6_1 w k8 (cb := H4.length) (N := M.objs.length + 1) rfl hc8 hl8 hall (by simp only [upd_apply, Nat.reduceEqDiff, ↓reduceIte, u6]) (by simp only [upd_apply, Nat.reduceEqDiff, ↓reduceIte, u9]) (by simp only [upd_apply, Nat.reduceEqDiff, ↓reduceIte]) hr4
  obtain ⟨Hf, ef⟩ := f13 (H := H8)
  apply ex_run
  simp (disch := first | omega | rfl | assumption | (simp only [csN, Nat.reduceAdd, Nat.reduceMul, Nat.reduceLeDiff, Nat.reduceEqDiff] <;> omega) | (simp only [csF]; done) | (simp only [csF] <;> assumption) | fail) only [Nat.reduceEqDiff, Nat.reduceAdd, Nat.reduceMul, Nat.reduceSub, Nat.reduceLeDiff, Int.reduceAdd, Int.reduceSub, Int.reduceMul, Int.reduceLT, Int.reduceLE, Int.reduceGT, Int.reduceGE, Int.reduceEq, Int.reduceBEq, Int.reduceBNe, Int.reduceNeg, Int.reduceToNat, csAll, ↓reduceIte, ef] <;> rfl
end
end Go.Cs.Try

/- Clone. -/
namespace Go.Cs
open Go
/-- A list in memory that is newer than a state, told apart from what comes later. -/
theorem At.retag {k k2 : Nat} {Hm Hf : CHeap} {rv : CV} {n : Nat} {cs : List CV} {o' : Tags} {t : Tag} (h : At (Loc k) z3 Hm rv 1 n cs) (hm : Hm.length ≤ k2) (hf : ∀ c, k ≤ c → c < Hm.length → Hf[c]? = Hm[c]?)
    (ho : ∀ c, k ≤ c → c < k2 → c = blkOf rv → o' c = some t) : At o' t Hf rv 1 n cs := by
  rcases h with h | ⟨c, tl, rfl, q1, q2, q3⟩
  · exact .inl h
  · have hc := (Loc_some.1 q1).1
    have hl := lt_of_get q2
    exact .inr ⟨c, tl, rfl, ho c hc (by omega) rfl, by rw [hf c hc hl, q2], q3⟩
/-- A further object, from memory that is new. -/
theorem MRep.newObj {o : Tags} {g : Nat} {H Hm1 Hm2 Hf : CHeap} {b : Nat} {M : Mdl} {L : Lay} (m : MRep o g H b M L) {x : Obj} {rv dv v : CV} {k1 k2 k3 vb : Nat} {tv : Bool} (hv : v = .slice vb 0 (M.objs.length + 1) (M.objs.length + 1) 5 tv)
    (h1 : At (Loc k1) z3 Hm1 rv 1 x.refs.length (ints x.refs)) (h2 : At (Loc k2) z3 Hm2 dv 1 x.data.length (ints x.data)) (hk1 : H.length ≤ k1) (hk2 : k1 ≤ k2) (hk3 : k2 ≤ k3)
    (l1 : Hm1.length ≤ k2) (l2 : Hm2.length ≤ k3) (f1 : ∀ c, k1 ≤ c → c < Hm1.length → Hf[c]? = Hm1[c]?) (f2 : ∀ c, k2 ≤ c → c < Hm2.length → Hf[c]? = Hm2[c]?) (hvb : k3 ≤ vb)
    (cv : Hf[vb]? = some ⟨objCells M.objs L.hv ++ [.i x.nr, .i x.nd, .i x.kd, rv, dv], .rw, 5⟩)
    (hb : Hf[b]? = some ⟨[L.sl, L.gl, L.qv, v], .rw, 0⟩) (hf : ∀ d, d < H.length → o d ≠ some (g, 5, 0) → d ≠ b → Hf[d]? = H[d]?) :
    ∃ o' L', MRep o' g Hf b { M with objs := M.objs ++ [x] } L' ∧ Frm g o H o' Hf := by
  have hvl := lt_of_get cv
  let o' : Tags := fun c => if c = vb then some (g, 5, 0) else if k1 ≤ c ∧ c < k2 ∧ c = blkOf rv then some (g, 6, M.objs.length) else if k2 ≤ c ∧ c < k3 ∧ c = blkOf dv then some (g, 7, M.objs.length) else o c
  have hold : ∀ c, c < H.length → o' c = o c := fun c hc => by
    show (if _ then _ else _) = _
    rw [if_neg (by omega), if_neg (by omega), if_neg (by omega)]
  have hnew : ∀ c t, o' c = some t → H.length ≤ c → t.1 = g ∧ c < Hf.length := fun c t h hc => by
    have h' : (if c = vb then some (g, 5, 0) else if k1 ≤ c ∧ c < k2 ∧ c = blkOf rv then some (g, 6, M.objs.length) else if k2 ≤ c ∧ c < k3 ∧ c = blkOf dv then some (g, 7, M.objs.length) else o c) = some t := h
    split at h'
    · simp only [Option.some.injEq] at h'; rw [← h']; exact ⟨rfl, by omega⟩
    · split at h'
      · simp only [Option.some.injEq] at h'; rw [← h']; exact ⟨rfl, by omega⟩
      · split at h'
        · simp only [Option.some.injEq] at h'; rw [← h']; exact ⟨rfl, by omega⟩
        · have := m.dom c t h'; omega
  refine ⟨o', _, m.born (x := x) (h := (rv, dv)) (v := v) (o' := o') (fun c t h => ?_) (fun c k h => by rw [hold c (m.dom c _ h), h]) (fun c k h q1 q2 => ?_) hb ?_ ?_ ?_, ⟨by omega, hold, fun c t h hc => (hnew c t h hc).1, fun c hc hk => ?_⟩⟩
  · by_cases hc : c < H.length
    · omega
    · exact (hnew c t h (by omega)).2
  · refine hf c (m.dom c _ h) (by rw [h]; simpa using q1) ?_
    rintro rfl
    rw [m.top] at h
    simp only [Option.some.injEq, Prod.mk.injEq, true_and] at h
    exact q2 h.symm
  · refine .inr ⟨vb, tv, hv, if_pos rfl, cv, ?_⟩
    have := objCells_len M.objs L.hv m.nhv
    simp only [List.length_append, List.length_cons, List.length_nil, this]; omega
  · refine h1.retag l1 f1 fun c q1 q2 q3 => ?_
    show (if _ then _ else _) = _
    rw [if_neg (by omega), if_pos ⟨q1, q2, q3⟩]
  · refine h2.retag l2 f2 fun c q1 q2 q3 => ?_
    show (if _ then _ else _) = _
    rw [if_neg (by omega), if_neg (by omega), if_pos ⟨q1, q2, q3⟩]
  · refine hf c hc (hk _) ?_
    rintro rfl
    exact hk _ m.top
/-- A model without slots and objects, from new memory. -/
theorem MRep.fresh {o : Tags} {g : Nat} {H Hm1 Hm2 : CHeap} {gs qs : List Int} {gv qv : CV} {k1 k2 k3 : Nat} (hd : ∀ c t, o c = some t → c < H.length) (hg : ∀ c k, o c ≠ some (g, k))
    (hgl : gs.length = 16) (h1 : At (Loc k1) z3 Hm1 gv 1 gs.length (ints gs)) (h2 : At (Loc k2) z3 Hm2 qv 1 qs.length (ints qs)) (hk1 : H.length ≤ k1) (hk2 : k1 ≤ k2) (hk3 : k2 ≤ k3) (l1 : Hm1.length ≤ k2) (l2 : Hm2.length = k3) (gr1 : Gr H Hm1) (gr2 : Gr Hm1 Hm2) :
    ∃ o' L', MRep o' g (Hm2 ++ [⟨[.nilSlice, gv, qv, .nilSlice], .rw, 0⟩]) k3 ⟨[], gs, qs, []⟩ L' ∧ Frm g o H o' (Hm2 ++ [⟨[.nilSlice, gv, qv, .nilSlice], .rw, 0⟩]) := by
  let o' : Tags := fun c => if c = k3 then some (g, 0, 0) else if k1 ≤ c ∧ c < k2 ∧ c = blkOf gv then some (g, 3, 0) else if k2 ≤ c ∧ c < k3 ∧ c = blkOf qv then some (g, 4, 0) else o c
  have hold : ∀ c, c < H.length → o' c = o c := fun c hc => by
    show (if _ then _ else _) = _
    rw [if_neg (by omega), if_neg (by omega), if_neg (by omega)]
  have hnew : ∀ c t, o' c = some t → H.length ≤ c → t.1 = g ∧ c < k3 + 1 := fun c t h hc => by
    have h' : (if c = k3 then some (g, 0, 0) else if k1 ≤ c ∧ c < k2 ∧ c = blkOf gv then some (g, 3, 0) else if k2 ≤ c ∧ c < k3 ∧ c = blkOf qv then some (g, 4, 0) else o c) = some t := h
    split at h'
    · simp only [Option.some.injEq] at h'; rw [← h']; exact ⟨rfl, by omega⟩
    · split at h'
      · simp only [Option.some.injEq] at h'; rw [← h']; exact ⟨rfl, by omega⟩
      · split at h'
        · simp only [Option.some.injEq] at h'; rw [← h']; exact ⟨rfl, by omega⟩
        · have := hd c t h'; omega
  have hlen : (Hm2 ++ [(⟨[.nilSlice, gv, qv, .nilSlice], .rw, 0⟩ : Blk)]).length = k3 + 1 := by simp [l2]
  have grA : Gr Hm2 (Hm2 ++ [(⟨[.nilSlice, gv, qv, .nilSlice], .rw, 0⟩ : Blk)]) := .app _ _
  refine ⟨o', ⟨.nilSlice, gv, qv, .nilSlice, [], []⟩, ?_, ⟨by have := gr1.len; have := gr2.len; omega, hold, fun c t h hc => (hnew c t h hc).1, fun c hc _ => ((gr1.trans gr2).trans grA).low c hc⟩⟩
  exact
    { dom := fun c t h => by
        by_cases hc : c < H.length
        · have := gr1.len; have := gr2.len; omega
        · have := (hnew c t h (by omega)).2; omega
      top := if_pos rfl
      cells := look_last l2.symm
      nsv := rfl
      slots := .inl ⟨rfl, rfl, .inl rfl⟩
      slot := fun i s h => by simp at h
      globals := by
        rw [hgl] at h1
        refine h1.retag l1 (fun c _ hc => by rw [grA.low c (by have := gr2.len; omega), gr2.low c hc]) fun c q1 q2 q3 => ?_
        show (if _ then _ else _) = _
        rw [if_neg (by omega), if_pos ⟨q1, q2, q3⟩]
      queue := by
        refine h2.retag (Nat.le_of_eq l2) (fun c _ hc => grA.low c hc) fun c q1 q2 q3 => ?_
        show (if _ then _ else _) = _
        rw [if_neg (by omega), if_neg (by omega), if_pos ⟨q1, q2, q3⟩]
      nhv := rfl
      objs := .inl ⟨rfl, rfl, .inl rfl⟩
      refs := fun i s h => by simp at h }
end Go.Cs
namespace Go.Cs.Try
open Go Go.Cs
set_option maxRecDepth 100000
set_option maxHeartbeats 8000000
section
variable {g g' : Nat} {b : Nat} {M : Mdl} {L : Lay}

/-- slices.Clone of a list of the model's. -/
theorem cloneOf {o : Tags} {H : CHeap} {t : Tag} {v : CV} {l : List Int} (hd : ∀ c t, o c = some t → c < H.length) (h : At o t H v 1 l.length (Go.Cs.ints l)) (hm : l.length ≤ 1000) :
    ∃ v' J, run P 53 [v] H = some (v', H ++ J) ∧ At (Loc H.length) z3 (H ++ J) v' 1 l.length (Go.Cs.ints l) :=
  f53 (H := H) (At.slicey h) (fun J => h.elems (fun c hc => List.getElem?_append_left (hd _ _ hc))) (ints_len _) (ints_leaf _) (Nat.le_trans hm (by decide))

theorem l33_2 {o0 : Tags} {H0 : CHeap} (w : M.Ok) (hgg : g ≠ g') {xb : Nat}
    {E0 : Env} {H : CHeap} (h3 : E0 3 = .ptr xb 0) (h26 : E0 26 = L.sl) (h27 : E0 27 = .i M.slots.length) (h28 : E0 28 = .i 0)
    {o1 : Tags} {L1 : Lay} (m : MRep o1 g H b M L) (m1 : MRep o1 g' H xb ⟨[], M.globals, M.queue, []⟩ L1) (fr1 : Frm g' o0 H0 o1 H)
    {r : Option (CX × Env × CHeap)} (hr : den P (.loop C33_2) E0 H = r) :
    ∃ E' H' o2 L2, r = some (.exit 0, E', H') ∧ MRep o2 g H' b M L ∧ MRep o2 g' H' xb ⟨M.slots, M.globals, M.queue, []⟩ L2 ∧ Frm g' o0 H0 o2 H' ∧ ∀ t, t ∉ wr C33_2 → E' t = E0 t := by
  have hns := w.ns
  obtain ⟨x', E', H', e, -, ⟨rfl, o2, L2, g1, g2, g3⟩, fr⟩ := loop_at (p := P) (c := C33_2) (E0 := E0) (H0 := H) (fun k E H => ∃ j : Nat, E 28 = .i j ∧ j ≤ M.slots.length ∧ k = M.slots.length - j ∧ ∃ o2 L2, MRep o2 g H b M L ∧ MRep o2 g' H xb ⟨M.slots.take j, M.globals, M.queue, []⟩ L2 ∧ Frm g' o0 H0 o2 H)
    (fun x' E' H' => x' = .exit 0 ∧ ∃ o2 L2, MRep o2 g H' b M L ∧ MRep o2 g' H' xb ⟨M.slots, M.globals, M.queue, []⟩ L2 ∧ Frm g' o0 H0 o2 H') (by
      rintro k E H hE ⟨j, e28, hj, rfl, o2, L2, m, m2, fr⟩
      have e3 := (hE 3 (by decide +kernel)).trans h3
      have e26 := (hE 26 (by decide +kernel)).trans h26
      have e27 := (hE 27 (by decide +kernel)).trans h27
      by_cases c : j < M.slots.length
      · have hs := getD_of (l := M.slots) (i := j) [] c
        generalize hsv : M.slots.getD j [] = s at *
        have h16 := (w.s16 _ (List.mem_of_getElem? hs)).1
        obtain ⟨v, hv, ha⟩ := m.slot _ _ hs
        have ha' : At o2 (g, 2, j) H v 1 s.length (Go.Cs.ints s) := by rw [h16]; exact ha
        obtain ⟨tl, p1, p2, p3, p4⟩ := m.slots.pos (by omega)
        rw [p1] at e26
        obtain ⟨uv, J, d53, hu⟩ := cloneOf m.dom ha' (by omega)
        rw [h16] at hu
        obtain ⟨tu, q1, q2, q3, -⟩ := hu.pos (by omega)
        have qb := (Loc_some.1 q2).1
        have hlu := lt_of_get q3
        have hlf : leaf uv = true := hu.leaf
        have hc2 := m2.cells
        have hl2 := lt_of_get hc2
        have mJ := (m2.app J).app [(⟨[uv], .rw, 1⟩ : Blk)]
        have hnt : (M.slots.take j).length = j := by simp; omega
        have ms := mJ.slots
        rw [hnt] at ms
        obtain ⟨H', a1, a2, a3, a4⟩ := ms.append (k := 1) (new := [uv]) (by omega) (Nat.le_trans (by omega : j + 1 ≤ 5) (by decide)) (by simp [hlf]) rfl
        have hlen : (H ++ J ++ [(⟨[uv], .rw, 1⟩ : Blk)] : CHeap).length = H.length + J.length + 1 := by simp; omega
        have hHJ : (H ++ J).length = H.length + J.length := by simp
        rw [hlen] at a1 a2 a3 a4
        have hfree : ∀ c, H.length ≤ c → o2 c ≠ some (g', 1, 0) := fun c hc h => by have := m2.dom c _ h; omega
        have gJ : Gr H (H ++ J) := .app _ _
        have gJ2 : Gr (H ++ J) (H ++ J ++ [(⟨[uv], .rw, 1⟩ : Blk)]) := .app _ _
        have k0 : H'[blkOf uv]? = some ⟨Go.Cs.ints s, .rw, 1⟩ := by rw [a4 _ (by omega) (hfree _ qb), gJ2.get q3]
        have kb : H'[xb]? = some ⟨[L2.sl, L2.gl, L2.qv, L2.ov], .rw, 0⟩ := by rw [a4 _ (by omega) (by rw [m2.top]; simp), gJ2.get (gJ.get hc2)]
        have hcJ := gJ.get hc2
        have hxb' := lt_of_get kb
        obtain ⟨o', L', m', fr'⟩ := m2.newSlot (Hf := H'.set xb ⟨[.slice (H.length + J.length + 1) 0 (j + 1) (j + 1) 1 true, L2.gl, L2.qv, L2.ov], .rw, 0⟩) (s := s) (u := uv) (v := .slice (H.length + J.length + 1) 0 (j + 1) (j + 1) 1 true) (ub := blkOf uv) (vb := H.length + J.length + 1) (tu := tu) (tv := true)
          q1 (by rw [hnt]) (by omega) (by omega) (by omega) h16 (by rw [List.getElem?_set_ne (by omega), k0]) (by rw [List.getElem?_set_ne (by omega), a3]) (by rw [List.length_set]; omega) (by rw [List.getElem?_set_self hxb'])
          (fun d hd h h' => by rw [List.getElem?_set_ne (Ne.symm h'), a4 d (by omega) h, gJ2.low d (by omega), gJ.low d hd])
        have hnew : ({ (⟨M.slots.take j, M.globals, M.queue, []⟩ : Mdl) with slots := M.slots.take j ++ [s] } : Mdl) = ⟨M.slots.take (j + 1), M.globals, M.queue, []⟩ := by rw [take_snoc hs]
        have m'' : MRep o' g' (H'.set xb ⟨[.slice (H.length + J.length + 1) 0 (j + 1) (j + 1) 1 true, L2.gl, L2.qv, L2.ov], .rw, 0⟩) xb ⟨M.slots.take (j + 1), M.globals, M.queue, []⟩ L' := by rw [← hnew]; exact m'
        have mo := m.other fr' hgg m'.dom
        have hw := wrapS j (by omega)
        apply step_go (k' := M.slots.length - (j + 1))
        · simp (disch := first | omega | rfl | assumption | (simp only [csN, Nat.reduceAdd, Nat.reduceMul, Nat.reduceLeDiff, Nat.reduceEqDiff] <;> omega) | (simp only [csF]; done) | (simp only [csF] <;> assumption) | fail) only [Nat.reduceEqDiff, Nat.reduceAdd, Nat.reduceMul, Nat.reduceSub, Nat.reduceLeDiff, Int.reduceAdd, Int.reduceSub, Int.reduceMul, Int.reduceLT, Int.reduceLE, Int.reduceGT, Int.reduceGE, Int.reduceEq, Int.reduceBEq, Int.reduceBNe, Int.reduceNeg, Int.reduceToNat, csAll, ↓reduceIte, C33_2, e3, e26, e27, e28, p3, hv, d53, hc2, hcJ, a1, kb, hw]
          rfl
        · omega
        · exact ⟨j + 1, by simp [upd_apply], by omega, rfl, o', L', mo, m'', fr.trans fr'⟩
      · apply step_out (x := .exit 0)
        · simp (disch := first | omega | rfl | assumption | (simp only [csN, Nat.reduceAdd, Nat.reduceMul, Nat.reduceLeDiff, Nat.reduceEqDiff] <;> omega) | (simp only [csF]; done) | (simp only [csF] <;> assumption) | fail) only [Nat.reduceEqDiff, Nat.reduceAdd, Nat.reduceMul, Nat.reduceSub, Nat.reduceLeDiff, Int.reduceAdd, Int.reduceSub, Int.reduceMul, Int.reduceLT, Int.reduceLE, Int.reduceGT, Int.reduceGE, Int.reduceEq, Int.reduceBEq, Int.reduceBNe, Int.reduceNeg, Int.reduceToNat, csAll, ↓reduceIte, C33_2, e27, e28]
          rfl
        · simp
        · rw [take_all (by omega)] at m2
          exact ⟨rfl, o2, L2, m, m2, fr⟩) M.slots.length ⟨0, h28, by omega, rfl, o1, L1, m, by simpa using m1, fr1⟩
  exact ⟨E', H', o2, L2, hr.symm.trans e, g1, g2, g3, fr⟩

theorem l33_1 {o0 : Tags} {H0 : CHeap} (w : M.Ok) (hf : M.objs.length ≤ 1000) (hgg : g ≠ g') {xb : Nat}
    {E0 : Env} {H : CHeap} (h3 : E0 3 = .ptr xb 0) (h47 : E0 47 = L.ov) (h48 : E0 48 = .i M.objs.length) (h49 : E0 49 = .i 0)
    {o1 : Tags} {L1 : Lay} (m : MRep o1 g H b M L) (m1 : MRep o1 g' H xb ⟨M.slots, M.globals, M.queue, []⟩ L1) (fr1 : Frm g' o0 H0 o1 H)
    {r : Option (CX × Env × CHeap)} (hr : den P (.loop C33_1) E0 H = r) :
    ∃ E' H' o2 L2, r = some (.exit 2, E', H') ∧ MRep o2 g H' b M L ∧ MRep o2 g' H' xb M L2 ∧ Frm g' o0 H0 o2 H' ∧ ∀ t, t ∉ wr C33_1 → E' t = E0 t := by
  obtain ⟨x', E', H', e, -, ⟨rfl, o2, L2, g1, g2, g3⟩, fr⟩ := loop_at (p := P) (c := C33_1) (E0 := E0) (H0 := H) (fun k E H => ∃ j : Nat, E 49 = .i j ∧ j ≤ M.objs.length ∧ k = M.objs.length - j ∧ ∃ o2 L2, MRep o2 g H b M L ∧ MRep o2 g' H xb ⟨M.slots, M.globals, M.queue, M.objs.take j⟩ L2 ∧ Frm g' o0 H0 o2 H)
    (fun x' E' H' => x' = .exit 2 ∧ ∃ o2 L2, MRep o2 g H' b M L ∧ MRep o2 g' H' xb M L2 ∧ Frm g' o0 H0 o2 H') (by
      rintro k E H hE ⟨j, e49, hj, rfl, o2, L2, m, m2, fr⟩
      have e3 := (hE 3 (by decide +kernel)).trans h3
      have e47 := (hE 47 (by decide +kernel)).trans h47
      have e48 := (hE 48 (by decide +kernel)).trans h48
      by_cases c : j < M.objs.length
      · have hh : M.has ((j + 1 : Nat) : Int) := by unfold Mdl.has; omega
        obtain ⟨hh2, rest, r0, r1, r2, r3, r4, r5, r6⟩ := m.objAt _ hh
        have ej : (((j + 1 : Nat) : Int) - 1).toNat = j := by omega
        rw [ej] at r0 r2 r3 r5 r6
        have hobj := Mdl.obj_at (M := M) c
        have hob := w.obj hh
        generalize hx : M.obj ((j + 1 : Nat) : Int) = x at *
        obtain ⟨tl, p1, p2, p3, p4⟩ := m.objs.pos (by omega)
        rw [p1] at e47
        have hnr := hob.nr
        have hnd := hob.nd
        have lf1 := r5.leaf
        have lf2 := r6.leaf
        have hall : ([.i x.nr, .i x.nd, .i x.kd, hh2.1, hh2.2] : List CV).all leaf = true := by simp only [List.all_cons, List.all_nil, lf1, lf2, leaf_int, Bool.and_true]
        have hov : blkOf L.ov < H.length := m.dom _ _ r4
        -- the object's copy
        have mo1 := m.app [(⟨[.i x.nr, .i x.nd, .i x.kd, hh2.1, hh2.2], .rw, 0⟩ : Blk)]
        have g1 : Gr H (H ++ [(⟨[.i x.nr, .i x.nd, .i x.kd, hh2.1, hh2.2], .rw, 0⟩ : Blk)]) := .app _ _
        obtain ⟨rv, J1, d1, a1⟩ := cloneOf (H := H ++ [(⟨[.i x.nr, .i x.nd, .i x.kd, hh2.1, hh2.2], .rw, 0⟩ : Blk)]) mo1.dom (r5.gr g1) (by omega)
        have g2 : Gr (H ++ [(⟨[.i x.nr, .i x.nd, .i x.kd, hh2.1, hh2.2], .rw, 0⟩ : Blk)]) (H ++ [(⟨[.i x.nr, .i x.nd, .i x.kd, hh2.1, hh2.2], .rw, 0⟩ : Blk)] ++ J1) := .app _ _
        have bx1 : (H ++ [(⟨[.i x.nr, .i x.nd, .i x.kd, hh2.1, hh2.2], .rw, 0⟩ : Blk)])[H.length]? = some ⟨[.i x.nr, .i x.nd, .i x.kd, hh2.1, hh2.2], .rw, 0⟩ := look_last rfl
        have bx2 := g2.get bx1
        generalize hA : H ++ [(⟨[.i x.nr, .i x.nd, .i x.kd, hh2.1, hh2.2], .rw, 0⟩ : Blk)] = HA at *
        have hAl : HA.length = H.length + 1 := by rw [← hA]; simp
        have mo2 := mo1.gr g2
        obtain ⟨dv, J2, d2, a2⟩ := cloneOf (H := HA ++ J1) mo2.dom ((r6.gr g1).gr g2) (by omega)
        have g3 : Gr (HA ++ J1) (HA ++ J1 ++ J2) := .app _ _
        generalize hB : HA ++ J1 = HB at *
        generalize hC : HB ++ J2 = HC at *
        have bx3 := g3.get bx2
        have hc2 := m2.cells
        have hl2 := lt_of_get hc2
        have hcA := g1.get hc2
        have hcB := g2.get hcA
        have hcC := g3.get hcB
        have lfr := a1.leaf
        have lfd := a2.leaf
        have g4 : Gr HC (HC ++ [(⟨[.i x.nr, .i x.nd, .i x.kd, rv, dv], .rw, 5⟩ : Blk)]) := .app _ _
        have hm2 := (((m2.gr g1).gr g2).gr g3).gr g4
        have hnt : (M.objs.take j).length = j := by simp; omega
        have ms := hm2.objs
        rw [show (⟨M.slots, M.globals, M.queue, M.objs.take j⟩ : Mdl).objs.length = j from hnt] at ms
        obtain ⟨H', b1, b2, b3, b4⟩ := ms.append (k := 1) (new := [.i x.nr, .i x.nd, .i x.kd, rv, dv]) (by omega) (Nat.le_trans (by omega : j + 1 ≤ 2000) (by decide)) (by simp only [List.all_cons, List.all_nil, lfr, lfd, leaf_int, Bool.and_true]) rfl
        have hlen : (HC ++ [(⟨[.i x.nr, .i x.nd, .i x.kd, rv, dv], .rw, 5⟩ : Blk)]).length = HC.length + 1 := by simp
        rw [hlen] at b1 b2 b3 b4
        have l1 := g1.len
        have l2 := g2.len
        have l3 := g3.len
        have kb : H'[xb]? = some ⟨[L2.sl, L2.gl, L2.qv, L2.ov], .rw, 0⟩ := by rw [b4 _ (by omega) (by rw [m2.top]; simp), g4.get hcC]
        have hxb' := lt_of_get kb
        have hfree : ∀ c, H.length ≤ c → o2 c ≠ some (g', 5, 0) := fun c hc h => by have := m2.dom c _ h; omega
        have hg3 : HC.length = HC.length := rfl
        have low : ∀ c, H.length ≤ c → c < HC.length → (H'.set xb ⟨[L2.sl, L2.gl, L2.qv, .slice (HC.length + 1) 0 (j + 1) (j + 1) 5 true], .rw, 0⟩)[c]? = HC[c]? := fun c hc hc2 => by
          rw [List.getElem?_set_ne (by omega), b4 c (by omega) (hfree c hc), g4.low c hc2]
        obtain ⟨o', L', m', fr'⟩ := m2.newObj (Hm1 := HB) (Hm2 := HC) (Hf := H'.set xb ⟨[L2.sl, L2.gl, L2.qv, .slice (HC.length + 1) 0 (j + 1) (j + 1) 5 true], .rw, 0⟩) (x := x) (rv := rv) (dv := dv) (v := .slice (HC.length + 1) 0 (j + 1) (j + 1) 5 true) (k1 := HA.length) (k2 := HB.length) (k3 := HC.length) (vb := HC.length + 1) (tv := true)
          (by rw [show (⟨M.slots, M.globals, M.queue, M.objs.take j⟩ : Mdl).objs.length = j from hnt]) a1 a2 (by omega) l2 l3 (Nat.le_refl _) (Nat.le_refl _)
          (fun c q1 q2 => by rw [low c (by omega) (by omega), g3.low c q2]) (fun c q1 q2 => low c (by omega) q2) (by omega)
          (by rw [List.getElem?_set_ne (by omega), b3]) (by rw [List.getElem?_set_self hxb'])
          (fun d hd h h' => by rw [List.getElem?_set_ne (Ne.symm h'), b4 d (by omega) h, g4.low d (by omega), g3.low d (by omega), g2.low d (by omega), g1.low d hd])
        have m'' : MRep o' g' (H'.set xb ⟨[L2.sl, L2.gl, L2.qv, .slice (HC.length + 1) 0 (j + 1) (j + 1) 5 true], .rw, 0⟩) xb ⟨M.slots, M.globals, M.queue, M.objs.take (j + 1)⟩ L' := by rw [take_snoc hobj]; exact m'
        have mo := m.other fr' hgg m'.dom
        have hw := wrapS j (by omega)
        apply step_go (k' := M.objs.length - (j + 1))
        · simp (disch := first | omega | rfl | assumption | (simp only [csN, Nat.reduceAdd, Nat.reduceMul, Nat.reduceLeDiff, Nat.reduceEqDiff] <;> omega) | (simp only [csF]; done) | (simp only [csF] <;> assumption) | fail) only [Nat.reduceEqDiff, Nat.reduceAdd, Nat.reduceMul, Nat.reduceSub, Nat.reduceLeDiff, Int.reduceAdd, Int.reduceSub, Int.reduceMul, Int.reduceLT, Int.reduceLE, Int.reduceGT, Int.reduceGE, Int.reduceEq, Int.reduceBEq, Int.reduceBNe, Int.reduceNeg, Int.reduceToNat, csAll, ↓reduceIte, C33_1, e3, e47, e48, e49, r1, r2, r3, hA, d1, hB, d2, hC, bx1, bx2, bx3, hcA, hcB, hcC, hc2, b1, kb, hw]
          rfl
        · omega
        · exact ⟨j + 1, by simp [upd_apply], by omega, rfl, o', L', mo, m'', fr.trans fr'⟩
      · apply step_out (x := .exit 2)
        · simp (disch := first | omega | rfl | assumption | (simp only [csN, Nat.reduceAdd, Nat.reduceMul, Nat.reduceLeDiff, Nat.reduceEqDiff] <;> omega) | (simp only [csF]; done) | (simp only [csF] <;> assumption) | fail) only [Nat.reduceEqDiff, Nat.reduceAdd, Nat.reduceMul, Nat.reduceSub, Nat.reduceLeDiff, Int.reduceAdd, Int.reduceSub, Int.reduceMul, Int.reduceLT, Int.reduceLE, Int.reduceGT, Int.reduceGE, Int.reduceEq, Int.reduceBEq, Int.reduceBNe, Int.reduceNeg, Int.reduceToNat, csAll, ↓reduceIte, C33_1, e48, e49]
          rfl
        · simp
        · rw [take_all (by omega)] at m2
          exact ⟨rfl, o2, L2, m, m2, fr⟩) M.objs.length ⟨0, h49, by omega, rfl, o1, L1, m, by simpa using m1, fr1⟩
  exact ⟨E', H', o2, L2, hr.symm.trans e, g1, g2, g3, fr⟩

/-- Clone. -/
theorem f33 {o : Tags} {H : CHeap} (m : MRep o g H b M L) (w : M.Ok) (hf : M.objs.length ≤ 1000) (hgg : g ≠ g') (hg : ∀ c k, o c ≠ some (g', k)) :
    ∃ xb H' o' L', run P 33 [.ptr b 0] H = some (.ptr xb 0, H') ∧ MRep o' g H' b M L ∧ MRep o' g' H' xb M L' ∧ Frm g' o H o' H' := by
  have h41 := f41 m w
  have hc := m.cells
  have hgl := w.g16.1
  have mg : At o (g, 3, 0) H L.gl 1 M.globals.length (Go.Cs.ints M.globals) := by rw [hgl]; exact m.globals
  obtain ⟨gv, J1, d1, a1⟩ := cloneOf m.dom mg (by omega)
  have g1 : Gr H (H ++ J1) := .app _ _
  have m1 := m.gr g1
  obtain ⟨qv, J2, d2, a2⟩ := cloneOf m1.dom m1.queue (by have := w.q64.1; omega)
  have g2 : Gr (H ++ J1) (H ++ J1 ++ J2) := .app _ _
  have lf1 := a1.leaf
  have lf2 := a2.leaf
  obtain ⟨o2, L2, m2, fr2⟩ := MRep.fresh (g := g') (H := H) (k1 := H.length) m.dom hg hgl a1 a2 (Nat.le_refl _) g1.len g2.len (Nat.le_refl _) rfl g1 g2
  have mo := m.other fr2 hgg m2.dom
  have hc1 := g1.get hc
  have hcc := mo.cells
  have hsl := mo.slots.len
  have hol := mo.objs.len
  generalize hA : H ++ J1 = HA at *
  generalize hB : HA ++ J2 = HB at *
  generalize hC : HB ++ [(⟨[.nilSlice, gv, qv, .nilSlice], .rw, 0⟩ : Blk)] = HC at *
  have key : ∃ H' o' L', run P 33 [.ptr b 0] H = some (.ptr HB.length 0, H') ∧ MRep o' g H' b M L ∧ MRep o' g' H' HB.length M L' ∧ Frm g' o H o' H' := by
    rw [run_lv c33]
    simp (disch := first | omega | rfl | assumption | (simp only [csN, Nat.reduceAdd, Nat.reduceMul, Nat.reduceLeDiff, Nat.reduceEqDiff] <;> omega) | (simp only [csF]; done) | (simp only [csF] <;> assumption) | fail) only [Nat.reduceEqDiff, Nat.reduceAdd, Nat.reduceMul, Nat.reduceSub, Nat.reduceLeDiff, Int.reduceAdd, Int.reduceSub, Int.reduceMul, Int.reduceLT, Int.reduceLE, Int.reduceGT, Int.reduceGE, Int.reduceEq, Int.reduceBEq, Int.reduceBNe, Int.reduceNeg, Int.reduceToNat, csAll, ↓reduceIte, C33, entry_1, h41, hc, hc1, d1, hA, d2, hB, hC, hcc, hsl]
    generalize hr : den P (.loop C33_2) _ _ = r
    obtain ⟨E3, H3, o3, L3, rfl, m3, m3', fr3, k3⟩ := l33_2 w hgg (by simp only [upd_apply, Nat.reduceEqDiff, ↓reduceIte]) (by simp only [upd_apply, Nat.reduceEqDiff, ↓reduceIte]) (by simp only [upd_apply, Nat.reduceEqDiff, ↓reduceIte]) (by simp only [upd_apply, Nat.reduceEqDiff, ↓reduceIte]) mo m2 fr2 hr
    have t0 := k3 0 (by decide +kernel)
    have t3 := k3 3 (by decide +kernel)
    simp only [upd_apply, Nat.reduceEqDiff, ↓reduceIte] at t0 t3
    have hc3 := m3.cells
    simp (disch := first | omega | rfl | assumption | (simp only [csN, Nat.reduceAdd, Nat.reduceMul, Nat.reduceLeDiff, Nat.reduceEqDiff] <;> omega) | (simp only [csF]; done) | (simp only [csF] <;> assumption) | fail) only [Nat.reduceEqDiff, Nat.reduceAdd, Nat.reduceMul, Nat.reduceSub, Nat.reduceLeDiff, Int.reduceAdd, Int.reduceSub, Int.reduceMul, Int.reduceLT, Int.reduceLE, Int.reduceGT, Int.reduceGE, Int.reduceEq, Int.reduceBEq, Int.reduceBNe, Int.reduceNeg, Int.reduceToNat, csAll, ↓reduceIte, t0, hc3, hol]
    generalize hr2 : den P (.loop C33_1) _ _ = r2
    obtain ⟨E4, H4, o4, L4, rfl, m4, m4', fr4, k4⟩ := l33_1 w hf hgg (by simp only [upd_apply, Nat.reduceEqDiff, ↓reduceIte, t3]) (by simp only [upd_apply, Nat.reduceEqDiff, ↓reduceIte]) (by simp only [upd_apply, Nat.reduceEqDiff, ↓reduceIte]) (by simp only [upd_apply, Nat.reduceEqDiff, ↓reduceIte]) m3 m3' fr3 hr2
    have u3 := k4 3 (by decide +kernel)
    simp only [upd_apply, Nat.reduceEqDiff, ↓reduceIte, t3] at u3
    simp (disch := first | omega | rfl | assumption | (simp only [csN, Nat.reduceAdd, Nat.reduceMul, Nat.reduceLeDiff, Nat.reduceEqDiff] <;> omega) | (simp only [csF]; done) | (simp only [csF] <;> assumption) | fail) only [Nat.reduceEqDiff, Nat.reduceAdd, Nat.reduceMul, Nat.reduceSub, Nat.reduceLeDiff, Int.reduceAdd, Int.reduceSub, Int.reduceMul, Int.reduceLT, Int.reduceLE, Int.reduceGT, Int.reduceGE, Int.reduceEq, Int.reduceBEq, Int.reduceBNe, Int.reduceNeg, Int.reduceToNat, csAll, ↓reduceIte, u3]
    exact ⟨H4, o4, L4, rfl, m4, m4', fr4⟩
  obtain ⟨H', o', L', q1, q2, q3, q4⟩ := key
  exact ⟨_, H', o', L', q1, q2, q3, q4⟩
end
end Go.Cs.Try

/- ModelClones: the walk. -/
namespace Go.Cs.Try
open Go Go.Cs
set_option maxRecDepth 100000
set_option maxHeartbeats 8000000
section
theorem l11_1 {ga gb a b : Nat} {M Mb : Mdl} {La Lb : Lay} {o : Tags} {H : CHeap} (hgg : gb ≠ ga) (ma : MRep o ga H a M La) (mb : MRep o gb H b Mb Lb) (w : M.Ok) (hf : M.objs.length ≤ 1000) {l : List Stp} {v : CV} (hl : l.length ≤ 120) (st : Steps o H v l)
    {E0 : Env} (h2 : E0 2 = v) (h12 : E0 12 = .ptr a 0) (h14 : E0 14 = .i 0)
    {r : Option (CX × Env × CHeap)} (hr : den P (.loop C11_1) E0 H = r) :
    ∃ E' H' o', r = some (.exit 0, E', H') ∧ MRep o' gb H' b Mb Lb ∧ Frm ga o H o' H' ∧ ∀ t, t ∉ wr C11_1 → E' t = E0 t := by
  have hlen := st.len
  obtain ⟨x', E', H', e, -, ⟨rfl, o', g1, g2⟩, fr⟩ := loop_at (p := P) (c := C11_1) (E0 := E0) (H0 := H) (fun k E H' => ∃ j : Nat, E 14 = .i j ∧ j ≤ l.length ∧ k = l.length - j ∧ ∃ o' M' La', MRep o' ga H' a M' La' ∧ M'.Ok ∧ M'.objs.length ≤ 1000 + j ∧ MRep o' gb H' b Mb Lb ∧ Frm ga o H o' H')
    (fun x' E' H' => x' = .exit 0 ∧ ∃ o', MRep o' gb H' b Mb Lb ∧ Frm ga o H o' H') (by
      rintro k E H' hE ⟨j, e14, hj, rfl, o', M', La', ma, w, hf, mb, fr⟩
      have e2 := (hE 2 (by decide +kernel)).trans h2
      have e12 := (hE 12 (by decide +kernel)).trans h12
      by_cases c : j < l.length
      · have hne : l ≠ [] := by rintro rfl; simp at c
        obtain ⟨sb, cap, t, cs, ev, q1, q2, q3⟩ := (st.frm fr).get hne
        obtain ⟨q4, q5⟩ := q3 j l[j] (List.getElem?_eq_getElem c)
        obtain ⟨H2, o2, L2, e1, m', fr'⟩ := f21 ma w (by omega) l[j]
        obtain ⟨w2, h1, h2⟩ := w.step (x := l[j]) (by omega)
        have mb' := mb.other fr' hgg m'.dom
        have hw := wrapS j (by omega)
        rw [ev] at e2 hlen
        apply step_go (k' := l.length - (j + 1))
        · simp (disch := first | omega | rfl | assumption | (simp only [csN, Nat.reduceAdd, Nat.reduceMul, Nat.reduceLeDiff, Nat.reduceEqDiff] <;> omega) | (simp only [csF]; done) | (simp only [csF] <;> assumption) | fail) only [Nat.reduceEqDiff, Nat.reduceAdd, Nat.reduceMul, Nat.reduceSub, Nat.reduceLeDiff, Int.reduceAdd, Int.reduceSub, Int.reduceMul, Int.reduceLT, Int.reduceLE, Int.reduceGT, Int.reduceGE, Int.reduceEq, Int.reduceBEq, Int.reduceBNe, Int.reduceNeg, Int.reduceToNat, csAll, ↓reduceIte, C11_1, e2, e12, e14, hlen, q1, q4, q5, e1, hw]
          rfl
        · omega
        · exact ⟨j + 1, by simp [upd_apply], by omega, rfl, o2, _, L2, m', w2, by omega, mb', fr.trans fr'⟩
      · apply step_out (x := .exit 0)
        · simp (disch := first | omega | rfl | assumption | (simp only [csN, Nat.reduceAdd, Nat.reduceMul, Nat.reduceLeDiff, Nat.reduceEqDiff] <;> omega) | (simp only [csF]; done) | (simp only [csF] <;> assumption) | fail) only [Nat.reduceEqDiff, Nat.reduceAdd, Nat.reduceMul, Nat.reduceSub, Nat.reduceLeDiff, Int.reduceAdd, Int.reduceSub, Int.reduceMul, Int.reduceLT, Int.reduceLE, Int.reduceGT, Int.reduceGE, Int.reduceEq, Int.reduceBEq, Int.reduceBNe, Int.reduceNeg, Int.reduceToNat, csAll, ↓reduceIte, C11_1, e2, e14, hlen]
          rfl
        · simp
        · exact ⟨rfl, o', mb, fr⟩) l.length ⟨0, h14, by omega, rfl, o, M, La, ma, w, by omega, mb, .refl ma.dom⟩
  exact ⟨E', H', o', hr.symm.trans e, g1, g2, fr⟩

/-- What stands behind the loop. -/
def C11tail : CCode := .seq (.region [⟨some 55, none, .mov (.tmp 13)⟩, ⟨some 56, none, .call 28 [(.tmp 55)]⟩, ⟨some 57, none, .mov (.tmp 11)⟩, ⟨some 58, none, .call 26 [(.tmp 56), (.tmp 57)]⟩, ⟨some 59, none, .mov (.tmp 58)⟩, ⟨some 60, some (59, true), .call 13 []⟩, ⟨some 61, none, .pick (.tmp 59) (.tmp 60) (.const (.bool false))⟩, ⟨some 8, none, .mov (.tmp 61)⟩])
  .ret

theorem f11 {o : Tags} {H : CHeap} {v v2 : CV} {l l2 : List Stp} (hd : ∀ c t, o c = some t → c < H.length) (hg : ∀ g c k, o c ≠ some (g, k)) (st : Steps o H v l) (st2 : Steps o H v2 l2) (nn : Int) (cl : Bool) :
    ∃ H', run P 11 [.i nn, v, v2, .bool cl] H = some (.bool true, H') := by
  by_cases hok : (1 ≤ nn ∧ nn ≤ 4) ∧ l.length ≤ 120
  case neg =>
    obtain ⟨H1, e12⟩ := f12_no (H := H) (n := nn) st.len (by omega)
    obtain ⟨H2, e13⟩ := f13 (H := H1)
    apply ex_run
    rw [run_lv c11]
    simp (disch := first | omega | rfl | assumption | (simp only [csN, Nat.reduceAdd, Nat.reduceMul, Nat.reduceLeDiff, Nat.reduceEqDiff] <;> omega) | (simp only [csF]; done) | (simp only [csF] <;> assumption) | fail) only [Nat.reduceEqDiff, Nat.reduceAdd, Nat.reduceMul, Nat.reduceSub, Nat.reduceLeDiff, Int.reduceAdd, Int.reduceSub, Int.reduceMul, Int.reduceLT, Int.reduceLE, Int.reduceGT, Int.reduceGE, Int.reduceEq, Int.reduceBEq, Int.reduceBNe, Int.reduceNeg, Int.reduceToNat, csAll, ↓reduceIte, C11, entry_4, e12, e13]
    rfl
  obtain ⟨hn, hl⟩ := hok
  obtain ⟨n, rfl⟩ : ∃ n : Nat, nn = (n : Int) := ⟨nn.toNat, by omega⟩
  obtain ⟨b, H1, o1, L1, e12, m, fr1⟩ := f12 (g := 0) hd (hg 0) (n := n) (by omega) hl st
  obtain ⟨w, hob⟩ := madeM_ok (n := n) (by omega) l (by omega)
  generalize hM : madeM n l = M at *
  have e30 := f30' (H := H1) st2.len
  by_cases hl2 : l2.length ≤ 120
  case neg =>
    obtain ⟨H2, e13⟩ := f13 (H := H1)
    apply ex_run
    rw [run_lv c11]
    simp (disch := first | omega | rfl | assumption | (simp only [csN, Nat.reduceAdd, Nat.reduceMul, Nat.reduceLeDiff, Nat.reduceEqDiff] <;> omega) | (simp only [csF]; done) | (simp only [csF] <;> assumption) | fail) only [Nat.reduceEqDiff, Nat.reduceAdd, Nat.reduceMul, Nat.reduceSub, Nat.reduceLeDiff, Int.reduceAdd, Int.reduceSub, Int.reduceMul, Int.reduceLT, Int.reduceLE, Int.reduceGT, Int.reduceGE, Int.reduceEq, Int.reduceBEq, Int.reduceBNe, Int.reduceNeg, Int.reduceToNat, csAll, ↓reduceIte, C11, entry_4, e12, e30, e13]
    rfl
  have hg1 : ∀ c k, o1 c ≠ some (1, k) := fun c k h => by
    by_cases hc : c < H.length
    · rw [fr1.tag c hc] at h; exact hg 1 c k h
    · have := fr1.new c _ h (by omega); simp at this
  obtain ⟨xb, H2, o2, L2, e33, m2, mc2, fr2⟩ := f33 (g' := 1) m w (by omega) (by decide) hg1
  obtain ⟨v11, H3, e28, g3, i3⟩ := f28 m2 w (by omega)
  have m3 := m2.gr g3
  have mc3 := mc2.gr g3
  obtain ⟨v33, H4, e28', g4, i4⟩ := f28 mc3 w (by omega)
  have m4 := m3.gr g4
  have mc4 := mc3.gr g4
  have hsl := w.stlen (by omega)
  have e26 := f26 i4 (i3.gr g4) hsl
  rw [decide_eq_true (rfl : M.state = M.state)] at e26
  have old4 := (At.un' i3 m2.dom).gr g4
  have fr34 : Frm 0 o2 H2 o2 H4 := (g3.trans g4).frm m2.dom
  have st4 := ((st2.frm fr1).frm fr2).frm fr34
  have tail : ∀ (ga gb a bb : Nat) (La Lb : Lay), gb ≠ ga → MRep o2 ga H4 a M La → MRep o2 gb H4 bb M Lb → ∀ E3 : Env, E3 2 = v2 → E3 11 = v11 → E3 12 = .ptr a 0 → E3 13 = .ptr bb 0 → E3 14 = .i 0 →
      ∃ Hf, lv C11.res (sq (blk 0 (den P (.loop C11_1) E3 H4)) (fun E H => den P C11tail E H) ⟨⟩) = some (.bool true, Hf) := by
    intro ga gb a bb La Lb hgg ma mb E3 t2 t11 t12 t13 t14
    generalize hr : den P (.loop C11_1) _ _ = r
    obtain ⟨E4, H5, o5, rfl, mb5, fr5, k5⟩ := l11_1 hgg ma mb w (by omega) hl2 st4 t2 t12 t14 hr
    have j11 := (k5 11 (by decide +kernel)).trans t11
    have j13 := (k5 13 (by decide +kernel)).trans t13
    obtain ⟨v56, H6, e28'', g6, i6⟩ := f28 mb5 w (by omega)
    have e26' := f26 i6 ((old4.unFrm fr5).gr g6) hsl
    rw [decide_eq_true (rfl : M.state = M.state)] at e26'
    obtain ⟨Hf, ef⟩ := f13 (H := H6)
    apply ex_run
    simp (disch := first | omega | rfl | assumption | (simp only [csN, Nat.reduceAdd, Nat.reduceMul, Nat.reduceLeDiff, Nat.reduceEqDiff] <;> omega) | (simp only [csF]; done) | (simp only [csF] <;> assumption) | fail) only [Nat.reduceEqDiff, Nat.reduceAdd, Nat.reduceMul, Nat.reduceSub, Nat.reduceLeDiff, Int.reduceAdd, Int.reduceSub, Int.reduceMul, Int.reduceLT, Int.reduceLE, Int.reduceGT, Int.reduceGE, Int.reduceEq, Int.reduceBEq, Int.reduceBNe, Int.reduceNeg, Int.reduceToNat, csAll, ↓reduceIte, C11, C11tail, j11, j13, e28'', e26', ef] <;> rfl
  rw [run_lv c11]
  cases cl with
  | false =>
    simp (disch := first | omega | rfl | assumption | (simp only [csN, Nat.reduceAdd, Nat.reduceMul, Nat.reduceLeDiff, Nat.reduceEqDiff] <;> omega) | (simp only [csF]; done) | (simp only [csF] <;> assumption) | fail) only [Nat.reduceEqDiff, Nat.reduceAdd, Nat.reduceMul, Nat.reduceSub, Nat.reduceLeDiff, Int.reduceAdd, Int.reduceSub, Int.reduceMul, Int.reduceLT, Int.reduceLE, Int.reduceGT, Int.reduceGE, Int.reduceEq, Int.reduceBEq, Int.reduceBNe, Int.reduceNeg, Int.reduceToNat, csAll, ↓reduceIte, C11, entry_4, e12, e30, e33, e28, e28', e26]
    refine tail 0 1 b xb L1 L2 (by decide) m4 mc4 _ ?_ ?_ ?_ ?_ ?_
    all_goals simp only [upd_apply, Nat.reduceEqDiff, ↓reduceIte]
  | true =>
    simp (disch := first | omega | rfl | assumption | (simp only [csN, Nat.reduceAdd, Nat.reduceMul, Nat.reduceLeDiff, Nat.reduceEqDiff] <;> omega) | (simp only [csF]; done) | (simp only [csF] <;> assumption) | fail) only [Nat.reduceEqDiff, Nat.reduceAdd, Nat.reduceMul, Nat.reduceSub, Nat.reduceLeDiff, Int.reduceAdd, Int.reduceSub, Int.reduceMul, Int.reduceLT, Int.reduceLE, Int.reduceGT, Int.reduceGE, Int.reduceEq, Int.reduceBEq, Int.reduceBNe, Int.reduceNeg, Int.reduceToNat, csAll, ↓reduceIte, C11, entry_4, e12, e30, e33, e28, e28', e26]
    refine tail 1 0 xb b L2 L1 (by decide) mc4 m4 _ ?_ ?_ ?_ ?_ ?_
    all_goals simp only [upd_apply, Nat.reduceEqDiff, ↓reduceIte]
end
end Go.Cs.Try

/- Models that nobody made. -/
namespace Go.Cs
open Go
def NoneM (v : CV) (H : CHeap) : Prop := v = .nilPtr ∨ ∃ zb, v = .ptr zb 0 ∧ H[zb]? = some ⟨[.nilSlice, .nilSlice, .nilSlice, .nilSlice], .rw, 0⟩
theorem NoneM.gr {v : CV} {H H' : CHeap} (h : NoneM v H) (g : Gr H H') : NoneM v H' := by
  rcases h with h | ⟨zb, h1, h2⟩
  · exact .inl h
  · exact .inr ⟨zb, h1, g.get h2⟩
theorem NoneM.app {v : CV} {H : CHeap} (h : NoneM v H) (J : CHeap) : NoneM v (H ++ J) := h.gr (.app _ _)
theorem ex_gr {r : Option (CV × CHeap)} {v : CV} {H H' : CHeap} (h : r = some (v, H')) (g : Gr H H') : ∃ H', r = some (v, H') ∧ Gr H H' := ⟨_, h, g⟩
end Go.Cs
namespace Go.Cs.Try
open Go Go.Cs
set_option maxRecDepth 100000
set_option maxHeartbeats 8000000
section
variable {v : CV} {H : CHeap}
theorem f41n (h : NoneM v H) : run P 41 [v] H = some (.bool false, H) := by
  rw [run_lv c41]
  rcases h with rfl | ⟨zb, rfl, h⟩
  · simp (disch := first | omega | rfl | assumption | (simp only [csN, Nat.reduceAdd, Nat.reduceMul, Nat.reduceLeDiff, Nat.reduceEqDiff] <;> omega) | (simp only [csF]; done) | (simp only [csF] <;> assumption) | fail) only [Nat.reduceEqDiff, Nat.reduceAdd, Nat.reduceMul, Nat.reduceSub, Nat.reduceLeDiff, Int.reduceAdd, Int.reduceSub, Int.reduceMul, Int.reduceLT, Int.reduceLE, Int.reduceGT, Int.reduceGE, Int.reduceEq, Int.reduceBEq, Int.reduceBNe, Int.reduceNeg, Int.reduceToNat, csAll, ↓reduceIte, C41, entry_1]
  · simp (disch := first | omega | rfl | assumption | (simp only [csN, Nat.reduceAdd, Nat.reduceMul, Nat.reduceLeDiff, Nat.reduceEqDiff] <;> omega) | (simp only [csF]; done) | (simp only [csF] <;> assumption) | fail) only [Nat.reduceEqDiff, Nat.reduceAdd, Nat.reduceMul, Nat.reduceSub, Nat.reduceLeDiff, Int.reduceAdd, Int.reduceSub, Int.reduceMul, Int.reduceLT, Int.reduceLE, Int.reduceGT, Int.reduceGE, Int.reduceEq, Int.reduceBEq, Int.reduceBNe, Int.reduceNeg, Int.reduceToNat, csAll, ↓reduceIte, C41, entry_1, h]
theorem f25n (h : NoneM v H) {a b : CV} : run P 25 [v, a, b] H = some (.tup [.i 0, .i 5], H) := by
  have h1 := f41n h
  rw [run_lv c25]; simp (disch := first | omega | rfl | assumption | (simp only [csN, Nat.reduceAdd, Nat.reduceMul, Nat.reduceLeDiff, Nat.reduceEqDiff] <;> omega) | (simp only [csF]; done) | (simp only [csF] <;> assumption) | fail) only [Nat.reduceEqDiff, Nat.reduceAdd, Nat.reduceMul, Nat.reduceSub, Nat.reduceLeDiff, Int.reduceAdd, Int.reduceSub, Int.reduceMul, Int.reduceLT, Int.reduceLE, Int.reduceGT, Int.reduceGE, Int.reduceEq, Int.reduceBEq, Int.reduceBNe, Int.reduceNeg, Int.reduceToNat, csAll, ↓reduceIte, C25, entry_3, h1]
theorem f37n (h : NoneM v H) {a : CV} : run P 37 [v, a] H = some (.tup [.i 0, .i 5], H) := by
  have h1 := f41n h
  rw [run_lv c37]; simp (disch := first | omega | rfl | assumption | (simp only [csN, Nat.reduceAdd, Nat.reduceMul, Nat.reduceLeDiff, Nat.reduceEqDiff] <;> omega) | (simp only [csF]; done) | (simp only [csF] <;> assumption) | fail) only [Nat.reduceEqDiff, Nat.reduceAdd, Nat.reduceMul, Nat.reduceSub, Nat.reduceLeDiff, Int.reduceAdd, Int.reduceSub, Int.reduceMul, Int.reduceLT, Int.reduceLE, Int.reduceGT, Int.reduceGE, Int.reduceEq, Int.reduceBEq, Int.reduceBNe, Int.reduceNeg, Int.reduceToNat, csAll, ↓reduceIte, C37, entry_2, h1]
theorem f14n (h : NoneM v H) : run P 14 [v] H = some (.nilSlice, H) := by
  have h1 := f41n h
  rw [run_lv c14]; simp (disch := first | omega | rfl | assumption | (simp only [csN, Nat.reduceAdd, Nat.reduceMul, Nat.reduceLeDiff, Nat.reduceEqDiff] <;> omega) | (simp only [csF]; done) | (simp only [csF] <;> assumption) | fail) only [Nat.reduceEqDiff, Nat.reduceAdd, Nat.reduceMul, Nat.reduceSub, Nat.reduceLeDiff, Int.reduceAdd, Int.reduceSub, Int.reduceMul, Int.reduceLT, Int.reduceLE, Int.reduceGT, Int.reduceGE, Int.reduceEq, Int.reduceBEq, Int.reduceBNe, Int.reduceNeg, Int.reduceToNat, csAll, ↓reduceIte, C14, entry_1, h1]
theorem f23n (h : NoneM v H) : run P 23 [v] H = some (.i 0, H) := by
  have h1 := f41n h
  rw [run_lv c23]; simp (disch := first | omega | rfl | assumption | (simp only [csN, Nat.reduceAdd, Nat.reduceMul, Nat.reduceLeDiff, Nat.reduceEqDiff] <;> omega) | (simp only [csF]; done) | (simp only [csF] <;> assumption) | fail) only [Nat.reduceEqDiff, Nat.reduceAdd, Nat.reduceMul, Nat.reduceSub, Nat.reduceLeDiff, Int.reduceAdd, Int.reduceSub, Int.reduceMul, Int.reduceLT, Int.reduceLE, Int.reduceGT, Int.reduceGE, Int.reduceEq, Int.reduceBEq, Int.reduceBNe, Int.reduceNeg, Int.reduceToNat, csAll, ↓reduceIte, C23, entry_1, h1]
theorem f22n (h : NoneM v H) : run P 22 [v] H = some (.i 0, H) := by
  have h1 := f41n h
  rw [run_lv c22]; simp (disch := first | omega | rfl | assumption | (simp only [csN, Nat.reduceAdd, Nat.reduceMul, Nat.reduceLeDiff, Nat.reduceEqDiff] <;> omega) | (simp only [csF]; done) | (simp only [csF] <;> assumption) | fail) only [Nat.reduceEqDiff, Nat.reduceAdd, Nat.reduceMul, Nat.reduceSub, Nat.reduceLeDiff, Int.reduceAdd, Int.reduceSub, Int.reduceMul, Int.reduceLT, Int.reduceLE, Int.reduceGT, Int.reduceGE, Int.reduceEq, Int.reduceBEq, Int.reduceBNe, Int.reduceNeg, Int.reduceToNat, csAll, ↓reduceIte, C22, entry_1, h1]
theorem f39n (h : NoneM v H) : run P 39 [v] H = some (.nilSlice, H) := by
  have h1 := f41n h
  rw [run_lv c39]; simp (disch := first | omega | rfl | assumption | (simp only [csN, Nat.reduceAdd, Nat.reduceMul, Nat.reduceLeDiff, Nat.reduceEqDiff] <;> omega) | (simp only [csF]; done) | (simp only [csF] <;> assumption) | fail) only [Nat.reduceEqDiff, Nat.reduceAdd, Nat.reduceMul, Nat.reduceSub, Nat.reduceLeDiff, Int.reduceAdd, Int.reduceSub, Int.reduceMul, Int.reduceLT, Int.reduceLE, Int.reduceGT, Int.reduceGE, Int.reduceEq, Int.reduceBEq, Int.reduceBNe, Int.reduceNeg, Int.reduceToNat, csAll, ↓reduceIte, C39, entry_1, h1]
theorem f33n (h : NoneM v H) : run P 33 [v] H = some (.nilPtr, H) := by
  have h1 := f41n h
  rw [run_lv c33]; simp (disch := first | omega | rfl | assumption | (simp only [csN, Nat.reduceAdd, Nat.reduceMul, Nat.reduceLeDiff, Nat.reduceEqDiff] <;> omega) | (simp only [csF]; done) | (simp only [csF] <;> assumption) | fail) only [Nat.reduceEqDiff, Nat.reduceAdd, Nat.reduceMul, Nat.reduceSub, Nat.reduceLeDiff, Int.reduceAdd, Int.reduceSub, Int.reduceMul, Int.reduceLT, Int.reduceLE, Int.reduceGT, Int.reduceGE, Int.reduceEq, Int.reduceBEq, Int.reduceBNe, Int.reduceNeg, Int.reduceToNat, csAll, ↓reduceIte, C33, entry_1, h1]
theorem f43n (h : NoneM v H) {a : CV} : run P 43 [v, a] H = some (.tup [.nilPtr, .i 5], H) := by
  have h1 := f41n h
  rw [run_lv c43]; simp (disch := first | omega | rfl | assumption | (simp only [csN, Nat.reduceAdd, Nat.reduceMul, Nat.reduceLeDiff, Nat.reduceEqDiff] <;> omega) | (simp only [csF]; done) | (simp only [csF] <;> assumption) | fail) only [Nat.reduceEqDiff, Nat.reduceAdd, Nat.reduceMul, Nat.reduceSub, Nat.reduceLeDiff, Int.reduceAdd, Int.reduceSub, Int.reduceMul, Int.reduceLT, Int.reduceLE, Int.reduceGT, Int.reduceGE, Int.reduceEq, Int.reduceBEq, Int.reduceBNe, Int.reduceNeg, Int.reduceToNat, csAll, ↓reduceIte, C43, entry_2, h1]
theorem f15n (h : NoneM v H) {a : CV} : run P 15 [v, a] H = some (.tup [.agg [.i 0, .i 0, .i 0], .i 5], H ++ [⟨[.i 0, .i 0, .i 0], .rw, 0⟩]) := by
  have h1 := f43n (a := a) (h.app [⟨[.i 0, .i 0, .i 0], .rw, 0⟩])
  rw [run_lv c15]; simp (disch := first | omega | rfl | assumption | (simp only [csN, Nat.reduceAdd, Nat.reduceMul, Nat.reduceLeDiff, Nat.reduceEqDiff] <;> omega) | (simp only [csF]; done) | (simp only [csF] <;> assumption) | fail) only [Nat.reduceEqDiff, Nat.reduceAdd, Nat.reduceMul, Nat.reduceSub, Nat.reduceLeDiff, Int.reduceAdd, Int.reduceSub, Int.reduceMul, Int.reduceLT, Int.reduceLE, Int.reduceGT, Int.reduceGE, Int.reduceEq, Int.reduceBEq, Int.reduceBNe, Int.reduceNeg, Int.reduceToNat, csAll, ↓reduceIte, C15, entry_2, h1]
theorem f16n (h : NoneM v H) {a b : CV} : run P 16 [v, a, b] H = some (.tup [.i 0, .i 5], H) := by
  have h1 := f43n (a := a) h
  rw [run_lv c16]; simp (disch := first | omega | rfl | assumption | (simp only [csN, Nat.reduceAdd, Nat.reduceMul, Nat.reduceLeDiff, Nat.reduceEqDiff] <;> omega) | (simp only [csF]; done) | (simp only [csF] <;> assumption) | fail) only [Nat.reduceEqDiff, Nat.reduceAdd, Nat.reduceMul, Nat.reduceSub, Nat.reduceLeDiff, Int.reduceAdd, Int.reduceSub, Int.reduceMul, Int.reduceLT, Int.reduceLE, Int.reduceGT, Int.reduceGE, Int.reduceEq, Int.reduceBEq, Int.reduceBNe, Int.reduceNeg, Int.reduceToNat, csAll, ↓reduceIte, C16, entry_3, h1]
theorem f47n (h : NoneM v H) {a b : CV} : run P 47 [v, a, b] H = some (.tup [.i 0, .i 5], H) := by
  have h1 := f43n (a := a) h
  rw [run_lv c47]; simp (disch := first | omega | rfl | assumption | (simp only [csN, Nat.reduceAdd, Nat.reduceMul, Nat.reduceLeDiff, Nat.reduceEqDiff] <;> omega) | (simp only [csF]; done) | (simp only [csF] <;> assumption) | fail) only [Nat.reduceEqDiff, Nat.reduceAdd, Nat.reduceMul, Nat.reduceSub, Nat.reduceLeDiff, Int.reduceAdd, Int.reduceSub, Int.reduceMul, Int.reduceLT, Int.reduceLE, Int.reduceGT, Int.reduceGE, Int.reduceEq, Int.reduceBEq, Int.reduceBNe, Int.reduceNeg, Int.reduceToNat, csAll, ↓reduceIte, C47, entry_3, h1]
theorem f17n (h : NoneM v H) {a b c : CV} : run P 17 [v, a, b, c] H = some (.i 5, H) := by
  have h1 := f43n (a := a) h
  rw [run_lv c17]; simp (disch := first | omega | rfl | assumption | (simp only [csN, Nat.reduceAdd, Nat.reduceMul, Nat.reduceLeDiff, Nat.reduceEqDiff] <;> omega) | (simp only [csF]; done) | (simp only [csF] <;> assumption) | fail) only [Nat.reduceEqDiff, Nat.reduceAdd, Nat.reduceMul, Nat.reduceSub, Nat.reduceLeDiff, Int.reduceAdd, Int.reduceSub, Int.reduceMul, Int.reduceLT, Int.reduceLE, Int.reduceGT, Int.reduceGE, Int.reduceEq, Int.reduceBEq, Int.reduceBNe, Int.reduceNeg, Int.reduceToNat, csAll, ↓reduceIte, C17, entry_4, h1]
theorem f18n (h : NoneM v H) {a : CV} : run P 18 [v, a] H = some (.i 5, H) := by
  have h1 := f41n h
  rw [run_lv c18]; simp (disch := first | omega | rfl | assumption | (simp only [csN, Nat.reduceAdd, Nat.reduceMul, Nat.reduceLeDiff, Nat.reduceEqDiff] <;> omega) | (simp only [csF]; done) | (simp only [csF] <;> assumption) | fail) only [Nat.reduceEqDiff, Nat.reduceAdd, Nat.reduceMul, Nat.reduceSub, Nat.reduceLeDiff, Int.reduceAdd, Int.reduceSub, Int.reduceMul, Int.reduceLT, Int.reduceLE, Int.reduceGT, Int.reduceGE, Int.reduceEq, Int.reduceBEq, Int.reduceBNe, Int.reduceNeg, Int.reduceToNat, csAll, ↓reduceIte, C18, entry_2, h1]
theorem f46n (h : NoneM v H) : run P 46 [v] H = some (.tup [.i 0, .i 5], H) := by
  have h1 := f41n h
  rw [run_lv c46]; simp (disch := first | omega | rfl | assumption | (simp only [csN, Nat.reduceAdd, Nat.reduceMul, Nat.reduceLeDiff, Nat.reduceEqDiff] <;> omega) | (simp only [csF]; done) | (simp only [csF] <;> assumption) | fail) only [Nat.reduceEqDiff, Nat.reduceAdd, Nat.reduceMul, Nat.reduceSub, Nat.reduceLeDiff, Int.reduceAdd, Int.reduceSub, Int.reduceMul, Int.reduceLT, Int.reduceLE, Int.reduceGT, Int.reduceGE, Int.reduceEq, Int.reduceBEq, Int.reduceBNe, Int.reduceNeg, Int.reduceToNat, csAll, ↓reduceIte, C46, entry_1, h1]
theorem f29n (h : NoneM v H) : run P 29 [v] H = some (.i 0, H) := by
  have h1 := f41n h
  rw [run_lv c29]; simp (disch := first | omega | rfl | assumption | (simp only [csN, Nat.reduceAdd, Nat.reduceMul, Nat.reduceLeDiff, Nat.reduceEqDiff] <;> omega) | (simp only [csF]; done) | (simp only [csF] <;> assumption) | fail) only [Nat.reduceEqDiff, Nat.reduceAdd, Nat.reduceMul, Nat.reduceSub, Nat.reduceLeDiff, Int.reduceAdd, Int.reduceSub, Int.reduceMul, Int.reduceLT, Int.reduceLE, Int.reduceGT, Int.reduceGE, Int.reduceEq, Int.reduceBEq, Int.reduceBNe, Int.reduceNeg, Int.reduceToNat, csAll, ↓reduceIte, C29, entry_1, h1]
abbrev zE : List CV := [.nilSlice, .i 0, .i 0, .i 0, .i 0, .i 0, .i 0]
theorem f40n (h : NoneM v H) {a : CV} {x : Act} : run P 40 [v, a, .agg (actCells x)] H = some (.tup [.agg zE, .i 5], H ++ [⟨actCells x, .rw, 0⟩] ++ [⟨zE, .rw, 0⟩]) := by
  have h1 := f41n ((h.app [⟨actCells x, .rw, 0⟩]).app [⟨zE, .rw, 0⟩])
  rw [run_lv c40]
  unfold actCells at *
  simp (disch := first | omega | rfl | assumption | (simp only [csN, Nat.reduceAdd, Nat.reduceMul, Nat.reduceLeDiff, Nat.reduceEqDiff] <;> omega) | (simp only [csF]; done) | (simp only [csF] <;> assumption) | fail) only [Nat.reduceEqDiff, Nat.reduceAdd, Nat.reduceMul, Nat.reduceSub, Nat.reduceLeDiff, Int.reduceAdd, Int.reduceSub, Int.reduceMul, Int.reduceLT, Int.reduceLE, Int.reduceGT, Int.reduceGE, Int.reduceEq, Int.reduceBEq, Int.reduceBNe, Int.reduceNeg, Int.reduceToNat, csAll, ↓reduceIte, C40, entry_3, h1]
theorem f54n : run P 54 [.nilPtr] H = some (.bool false, H) := by
  rw [run_lv c54]; simp (disch := first | omega | rfl | assumption | (simp only [csN, Nat.reduceAdd, Nat.reduceMul, Nat.reduceLeDiff, Nat.reduceEqDiff] <;> omega) | (simp only [csF]; done) | (simp only [csF] <;> assumption) | fail) only [Nat.reduceEqDiff, Nat.reduceAdd, Nat.reduceMul, Nat.reduceSub, Nat.reduceLeDiff, Int.reduceAdd, Int.reduceSub, Int.reduceMul, Int.reduceLT, Int.reduceLE, Int.reduceGT, Int.reduceGE, Int.reduceEq, Int.reduceBEq, Int.reduceBNe, Int.reduceNeg, Int.reduceToNat, csAll, ↓reduceIte, C54, entry_1]
theorem f55n {a : CV} {x : Act} : run P 55 [.nilPtr, a, .agg (actCells x)] H = some (.tup [.agg zE, .i 5], H ++ [⟨actCells x, .rw, 0⟩] ++ [⟨zE, .rw, 0⟩]) := by
  rw [run_lv c55]
  unfold actCells
  simp (disch := first | omega | rfl | assumption | (simp only [csN, Nat.reduceAdd, Nat.reduceMul, Nat.reduceLeDiff, Nat.reduceEqDiff] <;> omega) | (simp only [csF]; done) | (simp only [csF] <;> assumption) | fail) only [Nat.reduceEqDiff, Nat.reduceAdd, Nat.reduceMul, Nat.reduceSub, Nat.reduceLeDiff, Int.reduceAdd, Int.reduceSub, Int.reduceMul, Int.reduceLT, Int.reduceLE, Int.reduceGT, Int.reduceGE, Int.reduceEq, Int.reduceBEq, Int.reduceBNe, Int.reduceNeg, Int.reduceToNat, csAll, ↓reduceIte, C55, entry_3, f54n]
theorem f57n : run P 57 [.nilPtr] H = some (.i 0, H) := by
  rw [run_lv c57]; simp (disch := first | omega | rfl | assumption | (simp only [csN, Nat.reduceAdd, Nat.reduceMul, Nat.reduceLeDiff, Nat.reduceEqDiff] <;> omega) | (simp only [csF]; done) | (simp only [csF] <;> assumption) | fail) only [Nat.reduceEqDiff, Nat.reduceAdd, Nat.reduceMul, Nat.reduceSub, Nat.reduceLeDiff, Int.reduceAdd, Int.reduceSub, Int.reduceMul, Int.reduceLT, Int.reduceLE, Int.reduceGT, Int.reduceGE, Int.reduceEq, Int.reduceBEq, Int.reduceBNe, Int.reduceNeg, Int.reduceToNat, csAll, ↓reduceIte, C57, entry_1, f54n]
theorem f58n {a : CV} : run P 58 [.nilPtr, a] H = some (.i 5, H) := by
  rw [run_lv c58]; simp (disch := first | omega | rfl | assumption | (simp only [csN, Nat.reduceAdd, Nat.reduceMul, Nat.reduceLeDiff, Nat.reduceEqDiff] <;> omega) | (simp only [csF]; done) | (simp only [csF] <;> assumption) | fail) only [Nat.reduceEqDiff, Nat.reduceAdd, Nat.reduceMul, Nat.reduceSub, Nat.reduceLeDiff, Int.reduceAdd, Int.reduceSub, Int.reduceMul, Int.reduceLT, Int.reduceLE, Int.reduceGT, Int.reduceGE, Int.reduceEq, Int.reduceBEq, Int.reduceBNe, Int.reduceNeg, Int.reduceToNat, csAll, ↓reduceIte, C58, entry_2, f54n]
theorem f59n : run P 59 [.nilPtr] H = some (.tup [.i 0, .i 5], H) := by
  rw [run_lv c59]; simp (disch := first | omega | rfl | assumption | (simp only [csN, Nat.reduceAdd, Nat.reduceMul, Nat.reduceLeDiff, Nat.reduceEqDiff] <;> omega) | (simp only [csF]; done) | (simp only [csF] <;> assumption) | fail) only [Nat.reduceEqDiff, Nat.reduceAdd, Nat.reduceMul, Nat.reduceSub, Nat.reduceLeDiff, Int.reduceAdd, Int.reduceSub, Int.reduceMul, Int.reduceLT, Int.reduceLE, Int.reduceGT, Int.reduceGE, Int.reduceEq, Int.reduceBEq, Int.reduceBNe, Int.reduceNeg, Int.reduceToNat, csAll, ↓reduceIte, C59, entry_1, f54n]
theorem f79n {a : CV} : run P 79 [.nilPtr, a] H = some (.i 5, H) := by
  rw [run_lv c79]; simp (disch := first | omega | rfl | assumption | (simp only [csN, Nat.reduceAdd, Nat.reduceMul, Nat.reduceLeDiff, Nat.reduceEqDiff] <;> omega) | (simp only [csF]; done) | (simp only [csF] <;> assumption) | fail) only [Nat.reduceEqDiff, Nat.reduceAdd, Nat.reduceMul, Nat.reduceSub, Nat.reduceLeDiff, Int.reduceAdd, Int.reduceSub, Int.reduceMul, Int.reduceLT, Int.reduceLE, Int.reduceGT, Int.reduceGE, Int.reduceEq, Int.reduceBEq, Int.reduceBNe, Int.reduceNeg, Int.reduceToNat, csAll, ↓reduceIte, C79, entry_2, f54n]
theorem f60n {a b c : CV} : run P 60 [.nilPtr, a, b, c] H = some (.i 5, H) := by
  rw [run_lv c60]; simp (disch := first | omega | rfl | assumption | (simp only [csN, Nat.reduceAdd, Nat.reduceMul, Nat.reduceLeDiff, Nat.reduceEqDiff] <;> omega) | (simp only [csF]; done) | (simp only [csF] <;> assumption) | fail) only [Nat.reduceEqDiff, Nat.reduceAdd, Nat.reduceMul, Nat.reduceSub, Nat.reduceLeDiff, Int.reduceAdd, Int.reduceSub, Int.reduceMul, Int.reduceLT, Int.reduceLE, Int.reduceGT, Int.reduceGE, Int.reduceEq, Int.reduceBEq, Int.reduceBNe, Int.reduceNeg, Int.reduceToNat, csAll, ↓reduceIte, C60, entry_4, f79n]
theorem f67n {a : CV} : run P 67 [.nilPtr, a] H = some (.tup [.agg [.i 0, .i 0, .i 0], .i 5], H ++ [⟨[.i 0, .i 0, .i 0], .rw, 0⟩]) := by
  rw [run_lv c67]; simp (disch := first | omega | rfl | assumption | (simp only [csN, Nat.reduceAdd, Nat.reduceMul, Nat.reduceLeDiff, Nat.reduceEqDiff] <;> omega) | (simp only [csF]; done) | (simp only [csF] <;> assumption) | fail) only [Nat.reduceEqDiff, Nat.reduceAdd, Nat.reduceMul, Nat.reduceSub, Nat.reduceLeDiff, Int.reduceAdd, Int.reduceSub, Int.reduceMul, Int.reduceLT, Int.reduceLE, Int.reduceGT, Int.reduceGE, Int.reduceEq, Int.reduceBEq, Int.reduceBNe, Int.reduceNeg, Int.reduceToNat, csAll, ↓reduceIte, C67, entry_2, f79n]
theorem f68n {a b : CV} : run P 68 [.nilPtr, a, b] H = some (.tup [.i 0, .i 5], H) := by
  rw [run_lv c68]; simp (disch := first | omega | rfl | assumption | (simp only [csN, Nat.reduceAdd, Nat.reduceMul, Nat.reduceLeDiff, Nat.reduceEqDiff] <;> omega) | (simp only [csF]; done) | (simp only [csF] <;> assumption) | fail) only [Nat.reduceEqDiff, Nat.reduceAdd, Nat.reduceMul, Nat.reduceSub, Nat.reduceLeDiff, Int.reduceAdd, Int.reduceSub, Int.reduceMul, Int.reduceLT, Int.reduceLE, Int.reduceGT, Int.reduceGE, Int.reduceEq, Int.reduceBEq, Int.reduceBNe, Int.reduceNeg, Int.reduceToNat, csAll, ↓reduceIte, C68, entry_3, f79n]
theorem f69n {a b : CV} : run P 69 [.nilPtr, a, b] H = some (.tup [.i 0, .i 5], H) := by
  rw [run_lv c69]; simp (disch := first | omega | rfl | assumption | (simp only [csN, Nat.reduceAdd, Nat.reduceMul, Nat.reduceLeDiff, Nat.reduceEqDiff] <;> omega) | (simp only [csF]; done) | (simp only [csF] <;> assumption) | fail) only [Nat.reduceEqDiff, Nat.reduceAdd, Nat.reduceMul, Nat.reduceSub, Nat.reduceLeDiff, Int.reduceAdd, Int.reduceSub, Int.reduceMul, Int.reduceLT, Int.reduceLE, Int.reduceGT, Int.reduceGE, Int.reduceEq, Int.reduceBEq, Int.reduceBNe, Int.reduceNeg, Int.reduceToNat, csAll, ↓reduceIte, C69, entry_3, f79n]
end
end Go.Cs.Try
