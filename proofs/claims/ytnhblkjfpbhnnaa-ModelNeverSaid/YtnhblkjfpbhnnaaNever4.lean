/- ModelNever returns true for every input: NOTHING IS EVER FREED: an object that was made is there for ever, with its shape, and what a call does not name stays as it is. (At most 120 calls) Conditions: none. -/
import Derived.Test.YtnhblkjfpbhnnaaNever3
import Derived.Test.YtnhblkjfpbhnnaaRows
import Derived.WalkKit
import Derived.ProofKit
import Derived.OpenShut
import Derived.ShutString
import Derived.ChangeOld
import Derived.Below
import Derived.SizedLaws
import Derived.Carry
set_option linter.unusedVariables false
set_option linter.unusedSimpArgs false
set_option linter.defProp false
/- Which temporaries a piece of code may change; loops by that. -/
namespace Go.Cs
open Go

/-- The temporaries that a piece of code may write. -/
def wr : CCode → List Nat
  | .region ops => ops.filterMap (·.dst)
  | .dregion ops => ops.filterMap (·.s.dst)
  | .seq a b => wr a ++ wr b
  | .cond _ a b => wr a ++ wr b
  | .block _ c => wr c
  | .loop c => wr c
  | _ => []

theorem put_same {E : Env} {d : Option Nat} {v : CV} {t : Nat} (h : t ∉ d.toList) : E.put d v t = E t := by
  cases d with
  | none => rfl
  | some d =>
    simp only [Option.toList_some, List.mem_singleton] at h
    simp only [Env.put, Env.upd, if_neg h]

theorem filterMap_cons_mem {α : Type} {f : α → Option Nat} {a : α} {l : List α} {t : Nat} (h : t ∉ (a :: l).filterMap f) : t ∉ (f a).toList ∧ t ∉ l.filterMap f := by
  rw [List.filterMap_cons] at h
  cases hf : f a with
  | none => rw [hf] at h; exact ⟨by simp, h⟩
  | some d => rw [hf] at h; simp only [List.mem_cons, not_or] at h; exact ⟨by simpa using h.1, h.2⟩

theorem evOps_wr {F : CallF} {t : Nat} : ∀ {l : List CStmt} {E : Env} {H : CHeap} {r : Env × CHeap}, evOps F l E H = some r → t ∉ l.filterMap (·.dst) → r.1 t = E t
  | [], E, H, r, h, _ => by simp only [evOps, Option.some.injEq] at h; subst h; rfl
  | s :: l, E, H, r, h, ht => by
    obtain ⟨h1, h2⟩ := filterMap_cons_mem ht
    simp only [evOps, Option.bind_eq_some_iff] at h
    obtain ⟨q, hq, hr⟩ := h
    rw [evOps_wr hr h2]
    unfold evStmt at hq
    split at hq
    · rw [Option.map_eq_some_iff] at hq; obtain ⟨p, _, rfl⟩ := hq; exact put_same h1
    · simp only [Option.some.injEq] at hq; subst hq; exact put_same h1

theorem evD_wr {F : CallF} {t : Nat} : ∀ {l : List DStmt} {E : Env} {H : CHeap} {hs : List CHeap} {r : Env × CHeap}, evD F l E H hs = some r → t ∉ l.filterMap (·.s.dst) → r.1 t = E t
  | [], E, H, hs, r, h, _ => by simp only [evD, Option.some.injEq] at h; subst h; rfl
  | d :: l, E, H, hs, r, h, ht => by
    obtain ⟨h1, h2⟩ := filterMap_cons_mem ht
    unfold evD at h
    split at h
    · rw [evD_wr h h2]; exact put_same h1
    · split at h
      · rw [Option.bind_eq_some_iff] at h
        obtain ⟨q, hq, hr⟩ := h
        rw [evD_wr hr h2]; exact put_same h1
      · rw [Option.bind_eq_some_iff] at h
        obtain ⟨m, _, hr⟩ := h
        split at hr
        · rw [evD_wr hr h2]; exact put_same h1
        · cases hr

theorem ev_wr (p : CProg) {t : Nat} : ∀ (n : Nat) {c : CCode} {E : Env} {H : CHeap} {r : CX × Env × CHeap}, ev p n c E H = some r → t ∉ wr c → r.2.1 t = E t
  | 0, _, _, _, _, h, _ => by cases h
  | n + 1, c, E, H, r, h, ht => by
    rw [ev_succ] at h
    cases c with
    | skip => simp only [Option.some.injEq] at h; subst h; rfl
    | region ops => rw [Option.map_eq_some_iff] at h; obtain ⟨q, hq, rfl⟩ := h; exact evOps_wr hq ht
    | dregion ops => rw [Option.map_eq_some_iff] at h; obtain ⟨q, hq, rfl⟩ := h; exact evD_wr hq ht
    | seq a b =>
      simp only [wr, List.mem_append, not_or] at ht
      rw [Option.bind_eq_some_iff] at h
      obtain ⟨q, hq, h⟩ := h
      have h1 := ev_wr p n hq ht.1
      split at h
      · rw [ev_wr p n h ht.2, h1]
      · simp only [Option.some.injEq] at h; subst h; exact h1
    | cond c a b =>
      simp only [wr, List.mem_append, not_or] at ht
      dsimp only at h
      split at h
      · rename_i tt _
        cases tt with
        | true => exact ev_wr p n h ht.1
        | false => exact ev_wr p n h ht.2
      · cases h
    | block id c =>
      simp only [wr] at ht
      rw [Option.map_eq_some_iff] at h
      obtain ⟨q, hq, rfl⟩ := h
      exact ev_wr p n (r := q) hq ht
    | loop c =>
      have ht' := ht
      simp only [wr] at ht
      rw [Option.bind_eq_some_iff] at h
      obtain ⟨q, hq, h⟩ := h
      have h1 := ev_wr p n hq ht
      split at h
      · rw [ev_wr p n h ht', h1]
      · simp only [Option.some.injEq] at h; subst h; exact h1
    | exit id => simp only [Option.some.injEq] at h; subst h; rfl
    | ret => simp only [Option.some.injEq] at h; subst h; rfl

theorem den_wr {p : CProg} {c : CCode} {E E' : Env} {H H' : CHeap} {x : CX} (h : den p c E H = some (x, E', H')) {t : Nat} (ht : t ∉ wr c) : E' t = E t := by
  obtain ⟨n, hn⟩ := den_some.1 h
  exact ev_wr p n hn ht

/-- A loop from some environment on: its invariant by a measure, and what holds when it is left. What it does not write stays as it was. -/
theorem loop_at {p : CProg} {c : CCode} {E0 : Env} {H0 : CHeap} (Inv : Nat → Env → CHeap → Prop) (Post : CX → Env → CHeap → Prop)
    (step : ∀ k E H, (∀ t, t ∉ wr c → E t = E0 t) → Inv k E H → ∃ x E' H', den p c E H = some (x, E', H') ∧ ((x = .normal ∧ ∃ k', k' < k ∧ Inv k' E' H') ∨ (x ≠ .normal ∧ Post x E' H')))
    (k : Nat) (hi : Inv k E0 H0) : ∃ x E' H', den p (.loop c) E0 H0 = some (x, E', H') ∧ x ≠ .normal ∧ Post x E' H' ∧ ∀ t, t ∉ wr c → E' t = E0 t := by
  have key : LoopOk p c (fun k E H => (∀ t, t ∉ wr c → E t = E0 t) ∧ Inv k E H) (fun x E' H' => Post x E' H' ∧ ∀ t, t ∉ wr c → E' t = E0 t) := by
    refine loop_ind ?_
    rintro k E H ⟨hE, hi⟩
    obtain ⟨x, E', H', e, h⟩ := step k E H hE hi
    have hE' : ∀ t, t ∉ wr c → E' t = E0 t := fun t ht => (den_wr e ht).trans (hE t ht)
    refine ⟨x, E', H', e, ?_⟩
    rcases h with ⟨rfl, k', hk, hi'⟩ | ⟨hx, hp⟩
    · exact .inl ⟨rfl, k', hk, hE', hi'⟩
    · exact .inr ⟨hx, hp, hE'⟩
  obtain ⟨x, E', H', e, hx, hp⟩ := key k E0 H0 ⟨fun _ _ => rfl, hi⟩
  exact ⟨x, E', H', e, hx, hp⟩
end Go.Cs

/- Growth of the heap; lists of integers that grow. -/
namespace Go.Cs
open Go
/-- The heap grew: what was there is as it was. -/
structure Gr (H H' : CHeap) : Prop where
  len : H.length ≤ H'.length
  low : ∀ c, c < H.length → H'[c]? = H[c]?
theorem Gr.refl (H : CHeap) : Gr H H := ⟨Nat.le_refl _, fun _ _ => rfl⟩
theorem Gr.trans {H H' H'' : CHeap} (a : Gr H H') (b : Gr H' H'') : Gr H H'' := ⟨Nat.le_trans a.len b.len, fun c h => by rw [b.low c (Nat.lt_of_lt_of_le h a.len), a.low c h]⟩
theorem Gr.app (H J : CHeap) : Gr H (H ++ J) := ⟨by simp, fun _ h => List.getElem?_append_left h⟩
theorem Gr.app' {H H' : CHeap} (a : Gr H H') (J : CHeap) : Gr H (H' ++ J) := a.trans (.app _ _)
theorem Gr.get {H H' : CHeap} (a : Gr H H') {b : Nat} {k : Blk} (h : H[b]? = some k) : H'[b]? = some k := by rw [a.low b (lt_of_get h), h]
theorem MRep.gr {o : Tags} {g : Nat} {H H' : CHeap} {b : Nat} {M : Mdl} {L : Lay} (m : MRep o g H b M L) (a : Gr H H') : MRep o g H' b M L :=
  m.frame (fun c t h => Nat.lt_of_lt_of_le (m.dom c t h) a.len) (fun _ _ h => h) (fun c k h => a.low c (m.dom c _ h))
theorem Gr.frm {o : Tags} {g : Nat} {H H' : CHeap} (a : Gr H H') (hd : ∀ c t, o c = some t → c < H.length) : Frm g o H o H' := .grow hd a.len a.low

/-- A list of integers in memory that is newer than a state of the heap. -/
abbrev IL (k : Nat) (H : CHeap) (v : CV) (l : List Int) : Prop := At (Loc k) z3 H v 1 l.length (ints l)
theorem At.gr {k : Nat} {o : Tags} {t : Tag} {H H' : CHeap} {v : CV} {n : Nat} {cs : List CV} (h : At o t H v k n cs) (a : Gr H H') : At o t H' v k n cs := h.grow fun _ hc _ => a.low _ hc
theorem IL.nil {k : Nat} {H : CHeap} : IL k H .nilSlice [] := .inl ⟨rfl, rfl, .inl rfl⟩
theorem IL.blk {k b n : Nat} {H : CHeap} {l : List Int} (hb : k ≤ b) (h : H[b]? = some ⟨ints l, .rw, 1⟩) (hn : l.length = n) {t : Bool} : IL k H (.slice b 0 n n 1 t) l :=
  .inr ⟨b, t, by rw [hn], Loc_some.2 ⟨hb, rfl⟩, h, by simp [ints_len]⟩
theorem IL.cat {k : Nat} {H : CHeap} {v : CV} {l l2 : List Int} (h : IL k H v l) (hk : k ≤ H.length) (hm : l.length + l2.length ≤ 16777216) :
    ∃ v' H', appendTo H 1 v l2.length (ints l2) = some (v', H') ∧ IL k H' v' (l ++ l2) ∧ k ≤ H'.length ∧ ∀ c, c < k → H'[c]? = H[c]? := by
  by_cases h2 : l2 = []
  · subst h2
    refine ⟨v, H, ?_, by simpa using h, hk, fun _ _ => rfl⟩
    rcases h with ⟨_, _, rfl | ⟨b, f, rfl⟩⟩ | ⟨b, tl, rfl, h1, h2, h3⟩ <;> rfl
  · have hp : 0 < l2.length := List.length_pos_iff.2 h2
    obtain ⟨H', a1, a2, a3, a4⟩ := At.append (k := l2.length) (new := ints l2) h hp hm (ints_leaf _) (by simp [ints_len])
    refine ⟨_, H', a1, .inr ⟨H.length, true, by simp, Loc_some.2 ⟨hk, rfl⟩, by rw [a3, ints_app], by simp [ints_len]⟩, by omega, fun c hc => a4 c (by omega) (fun h => by have := (Loc_some.1 h).1; omega)⟩
theorem IL.push {k : Nat} {H : CHeap} {v : CV} {l : List Int} (h : IL k H v l) (hk : k ≤ H.length) (hm : l.length + 1 ≤ 16777216) (x : Int) :
    ∃ v' H', appendTo (H ++ [⟨[.i x], .rw, 1⟩]) 1 v 1 [.i x] = some (v', H') ∧ IL k H' v' (l ++ [x]) ∧ k ≤ H'.length ∧ ∀ c, c < k → H'[c]? = H[c]? := by
  obtain ⟨v', H', a, b, c, d⟩ := IL.cat (l2 := [x]) (h.gr (.app H [⟨[.i x], .rw, 1⟩])) (by simp; omega) hm
  exact ⟨v', H', a, b, c, fun e he => by rw [d e he, List.getElem?_append_left (by omega)]⟩
theorem Gr.low' {H0 H H' : CHeap} (a : Gr H0 H) (hl : H0.length ≤ H'.length) (h : ∀ c, c < H0.length → H'[c]? = H[c]?) : Gr H0 H' := ⟨hl, fun c hc => by rw [h c hc, a.low c hc]⟩
theorem At.un' {o : Tags} {H : CHeap} {k : Nat} {v : CV} {l : List Int} (h : IL k H v l) (hd : ∀ c t, o c = some t → c < k) : At (Un o) z3 H v 1 l.length (ints l) := At.un h hd
theorem wrapS (n : Nat) (h : n ≤ 1000000000) : IntKind.i64.wrap ((n : Int) + 1) = ((n + 1 : Nat) : Int) := by rw [wrap_id (by omega)]; rfl
theorem take_snoc {α : Type} {l : List α} {i : Nat} {x : α} (h : l[i]? = some x) : l.take (i + 1) = l.take i ++ [x] := by
  have hi := lt_of_get h
  rw [List.take_succ_eq_append_getElem hi, List.getElem?_eq_getElem hi] at *
  simp only [Option.some.injEq] at h
  rw [h]
theorem take_all {α : Type} {l : List α} {i : Nat} (h : l.length ≤ i) : l.take i = l := List.take_of_length_le h
end Go.Cs

/- roots: what places hold. -/
namespace Go.Cs
open Go
theorem flat16 {L : List (List Int)} (h : ∀ s ∈ L, s.length = 16) : L.flatten.length = 16 * L.length := by
  induction L with
  | nil => rfl
  | cons a l ih =>
    rw [List.flatten_cons, List.length_append, ih (fun s hs => h s (List.mem_cons_of_mem _ hs)), h a List.mem_cons_self, List.length_cons]; omega
end Go.Cs
namespace Go.Cs.Try
open Go Go.Cs
set_option maxRecDepth 100000
section
variable {o : Tags} {g : Nat} {b : Nat} {M : Mdl} {L : Lay} {H0 H : CHeap}

theorem Mdl.slot_val {M : Mdl} (w : M.Ok) {i j : Nat} {s : List Int} (hs : M.slots[i]? = some s) (hj : j < 16) : M.slotAt i j = (s.getD j 0, 0) ∧ s[j]? = some (s.getD j 0) := by
  have hi := lt_of_get hs
  have h16 := (w.s16 _ (List.mem_of_getElem? hs)).1
  refine ⟨?_, getD_of 0 (by omega)⟩
  unfold Mdl.slotAt
  rw [if_pos (by omega)]
  simp only [Int.toNat_natCast]
  rw [List.getD_eq_getElem?_getD (l := M.slots), hs]; rfl

theorem l20_2 (m : MRep o g H0 b M L) (w : M.Ok) {i : Nat} {s : List Int} (hs : M.slots[i]? = some s) {pre : List Int} (hp : pre.length ≤ 1000) {E0 : Env} (h0 : E0 0 = .ptr b 0) (h4 : E0 4 = .i i) (h5 : E0 5 = .i 0) (gr : Gr H0 H) (hv : IL H0.length H (E0 3) pre)
    {r : Option (CX × Env × CHeap)} (hr : den P (.loop C20_2) E0 H = r) :
    ∃ E' H', r = some (.exit 2, E', H') ∧ Gr H0 H' ∧ IL H0.length H' (E' 3) (pre ++ s) ∧ ∀ t, t ∉ wr C20_2 → E' t = E0 t := by
  have h16 := (w.s16 _ (List.mem_of_getElem? hs)).1
  obtain ⟨x, E', H', e, -, ⟨rfl, g1, g2⟩, fr⟩ := loop_at (p := P) (c := C20_2) (E0 := E0) (H0 := H) (fun k E H => ∃ j : Nat, E 5 = .i j ∧ j ≤ 16 ∧ k = 16 - j ∧ Gr H0 H ∧ IL H0.length H (E 3) (pre ++ s.take j))
    (fun x E' H' => x = .exit 2 ∧ Gr H0 H' ∧ IL H0.length H' (E' 3) (pre ++ s)) (by
      rintro k E H hE ⟨j, e5, hj, rfl, gr, hv⟩
      have e0 := (hE 0 (by decide +kernel)).trans h0
      have e4 := (hE 4 (by decide +kernel)).trans h4
      by_cases c : j < 16
      · obtain ⟨s1, s2⟩ := Mdl.slot_val w hs c
        have d1 := f25 (m.gr gr) w i j
        rw [s1] at d1
        simp only [pair2] at d1
        obtain ⟨v', H', a1, a2, a3, a4⟩ := hv.push gr.len (by simp; omega) (s.getD j 0)
        have hw := wrapS j (by omega)
        generalize he3 : E 3 = v3 at *
        apply step_go (k' := 16 - (j + 1))
        · simp (disch := first | omega | rfl | assumption | (simp only [csN, Nat.reduceAdd, Nat.reduceMul, Nat.reduceLeDiff, Nat.reduceEqDiff] <;> omega) | (simp only [csF]; done) | (simp only [csF] <;> assumption) | fail) only [Nat.reduceEqDiff, Nat.reduceAdd, Nat.reduceMul, Nat.reduceSub, Nat.reduceLeDiff, Int.reduceAdd, Int.reduceSub, Int.reduceMul, Int.reduceLT, Int.reduceLE, Int.reduceGT, Int.reduceGE, Int.reduceEq, Int.reduceBEq, Int.reduceBNe, Int.reduceNeg, Int.reduceToNat, csAll, ↓reduceIte, C20_2, e0, e4, e5, d1, he3, a1, hw]
          rfl
        · omega
        · refine ⟨j + 1, by simp [upd_apply], by omega, rfl, gr.low' a3 a4, ?_⟩
          rw [take_snoc s2, ← List.append_assoc]
          simpa [upd_apply] using a2
      · apply step_out (x := .exit 2)
        · simp (disch := first | omega | rfl | assumption | (simp only [csN, Nat.reduceAdd, Nat.reduceMul, Nat.reduceLeDiff, Nat.reduceEqDiff] <;> omega) | (simp only [csF]; done) | (simp only [csF] <;> assumption) | fail) only [Nat.reduceEqDiff, Nat.reduceAdd, Nat.reduceMul, Nat.reduceSub, Nat.reduceLeDiff, Int.reduceAdd, Int.reduceSub, Int.reduceMul, Int.reduceLT, Int.reduceLE, Int.reduceGT, Int.reduceGE, Int.reduceEq, Int.reduceBEq, Int.reduceBNe, Int.reduceNeg, Int.reduceToNat, csAll, ↓reduceIte, C20_2, e5]
          rfl
        · simp
        · rw [take_all (by omega)] at hv
          exact ⟨rfl, gr, by simpa [upd_apply] using hv⟩) 16 ⟨0, h5, by omega, rfl, gr, by simpa using hv⟩
  exact ⟨E', H', hr.symm.trans e, g1, g2, fr⟩

theorem l20_1 (m : MRep o g H0 b M L) (w : M.Ok) {pre : List Int} (hp : pre.length ≤ 1000) {E0 : Env} (h0 : E0 0 = .ptr b 0) (h5 : E0 8 = .i 0) (gr : Gr H0 H) (hv : IL H0.length H (E0 3) pre)
    {r : Option (CX × Env × CHeap)} (hr : den P (.loop C20_1) E0 H = r) :
    ∃ E' H', r = some (.exit 4, E', H') ∧ Gr H0 H' ∧ IL H0.length H' (E' 3) (pre ++ M.globals) ∧ ∀ t, t ∉ wr C20_1 → E' t = E0 t := by
  have h16 := w.g16.1
  obtain ⟨x, E', H', e, -, ⟨rfl, g1, g2⟩, fr⟩ := loop_at (p := P) (c := C20_1) (E0 := E0) (H0 := H) (fun k E H => ∃ j : Nat, E 8 = .i j ∧ j ≤ 16 ∧ k = 16 - j ∧ Gr H0 H ∧ IL H0.length H (E 3) (pre ++ M.globals.take j))
    (fun x E' H' => x = .exit 4 ∧ Gr H0 H' ∧ IL H0.length H' (E' 3) (pre ++ M.globals)) (by
      rintro k E H hE ⟨j, e5, hj, rfl, gr, hv⟩
      have e0 := (hE 0 (by decide +kernel)).trans h0
      by_cases c : j < 16
      · have s2 := getD_of (l := M.globals) (i := j) 0 (by omega)
        have d1 := f37 (m.gr gr) w j
        have s1 : M.globalAt j = (M.globals.getD j 0, 0) := by unfold Mdl.globalAt; rw [if_pos (by omega)]; simp
        rw [s1] at d1
        simp only [pair2] at d1
        obtain ⟨v', H', a1, a2, a3, a4⟩ := hv.push gr.len (by simp; omega) (M.globals.getD j 0)
        have hw := wrapS j (by omega)
        generalize he3 : E 3 = v3 at *
        apply step_go (k' := 16 - (j + 1))
        · simp (disch := first | omega | rfl | assumption | (simp only [csN, Nat.reduceAdd, Nat.reduceMul, Nat.reduceLeDiff, Nat.reduceEqDiff] <;> omega) | (simp only [csF]; done) | (simp only [csF] <;> assumption) | fail) only [Nat.reduceEqDiff, Nat.reduceAdd, Nat.reduceMul, Nat.reduceSub, Nat.reduceLeDiff, Int.reduceAdd, Int.reduceSub, Int.reduceMul, Int.reduceLT, Int.reduceLE, Int.reduceGT, Int.reduceGE, Int.reduceEq, Int.reduceBEq, Int.reduceBNe, Int.reduceNeg, Int.reduceToNat, csAll, ↓reduceIte, C20_1, e0, e5, d1, he3, a1, hw]
          rfl
        · omega
        · refine ⟨j + 1, by simp [upd_apply], by omega, rfl, gr.low' a3 a4, ?_⟩
          rw [take_snoc s2, ← List.append_assoc]
          simpa [upd_apply] using a2
      · apply step_out (x := .exit 4)
        · simp (disch := first | omega | rfl | assumption | (simp only [csN, Nat.reduceAdd, Nat.reduceMul, Nat.reduceLeDiff, Nat.reduceEqDiff] <;> omega) | (simp only [csF]; done) | (simp only [csF] <;> assumption) | fail) only [Nat.reduceEqDiff, Nat.reduceAdd, Nat.reduceMul, Nat.reduceSub, Nat.reduceLeDiff, Int.reduceAdd, Int.reduceSub, Int.reduceMul, Int.reduceLT, Int.reduceLE, Int.reduceGT, Int.reduceGE, Int.reduceEq, Int.reduceBEq, Int.reduceBNe, Int.reduceNeg, Int.reduceToNat, csAll, ↓reduceIte, C20_1, e5]
          rfl
        · simp
        · rw [take_all (by omega)] at hv
          exact ⟨rfl, gr, by simpa [upd_apply] using hv⟩) 16 ⟨0, h5, by omega, rfl, gr, by simpa using hv⟩
  exact ⟨E', H', hr.symm.trans e, g1, g2, fr⟩

theorem flatSlots (w : M.Ok) (i : Nat) : (M.slots.take i).flatten.length ≤ 64 := by
  rw [flat16 (fun s hs => (w.s16 s (List.mem_of_mem_take hs)).1)]
  have := w.ns
  simp; omega

theorem l20_3 (m : MRep o g H0 b M L) (w : M.Ok) {E0 : Env} (h0 : E0 0 = .ptr b 0) (h5 : E0 4 = .i 0) (gr : Gr H0 H) {pre : List Int} (hp : pre.length ≤ 10) (hv : IL H0.length H (E0 3) pre)
    {r : Option (CX × Env × CHeap)} (hr : den P (.loop C20_3) E0 H = r) :
    ∃ E' H', r = some (.exit 0, E', H') ∧ Gr H0 H' ∧ IL H0.length H' (E' 3) (pre ++ M.slots.flatten) ∧ ∀ t, t ∉ wr C20_3 → E' t = E0 t := by
  have hns := w.ns
  obtain ⟨x, E', H', e, -, ⟨rfl, g1, g2⟩, fr⟩ := loop_at (p := P) (c := C20_3) (E0 := E0) (H0 := H) (fun k E H => ∃ j : Nat, E 4 = .i j ∧ j ≤ M.slots.length ∧ k = M.slots.length - j ∧ Gr H0 H ∧ IL H0.length H (E 3) (pre ++ (M.slots.take j).flatten))
    (fun x E' H' => x = .exit 0 ∧ Gr H0 H' ∧ IL H0.length H' (E' 3) (pre ++ M.slots.flatten)) (by
      rintro k E H hE ⟨j, e5, hj, rfl, gr, hv⟩
      have e0 := (hE 0 (by decide +kernel)).trans h0
      have d1 := f22 (m.gr gr) w
      by_cases c : j < M.slots.length
      · have s2 := getD_of (l := M.slots) (i := j) [] (by omega)
        have hw := wrapS j (by omega)
        have hfs := flatSlots w j
        have key : ∃ E' H', den P C20_3 E H = some (.normal, E', H') ∧ E' 4 = .i ((j + 1 : Nat) : Int) ∧ Gr H0 H' ∧ IL H0.length H' (E' 3) (pre ++ (M.slots.take (j + 1)).flatten) := by
          simp (disch := first | omega | rfl | assumption | (simp only [csN, Nat.reduceAdd, Nat.reduceMul, Nat.reduceLeDiff, Nat.reduceEqDiff] <;> omega) | (simp only [csF]; done) | (simp only [csF] <;> assumption) | fail) only [Nat.reduceEqDiff, Nat.reduceAdd, Nat.reduceMul, Nat.reduceSub, Nat.reduceLeDiff, Int.reduceAdd, Int.reduceSub, Int.reduceMul, Int.reduceLT, Int.reduceLE, Int.reduceGT, Int.reduceGE, Int.reduceEq, Int.reduceBEq, Int.reduceBNe, Int.reduceNeg, Int.reduceToNat, csAll, ↓reduceIte, C20_3, e0, e5, d1]
          generalize hr : den P (.loop C20_2) _ _ = r
          obtain ⟨E2, H2, rfl, q1, q2, q3⟩ := l20_2 m w (pre := pre ++ (M.slots.take j).flatten) s2 (by simp; simp at hfs; omega) (by simp only [upd_apply, Nat.reduceEqDiff, ↓reduceIte, e0]) (by simp only [upd_apply, Nat.reduceEqDiff, ↓reduceIte, e5]) (by simp only [upd_apply, Nat.reduceEqDiff, ↓reduceIte]) gr (by simp only [upd_apply, Nat.reduceEqDiff, ↓reduceIte]; exact hv) hr
          have k4 := q3 4 (by decide +kernel)
          simp only [upd_apply, Nat.reduceEqDiff, ↓reduceIte, e5] at k4
          simp (disch := first | omega | rfl | assumption | (simp only [csN, Nat.reduceAdd, Nat.reduceMul, Nat.reduceLeDiff, Nat.reduceEqDiff] <;> omega) | (simp only [csF]; done) | (simp only [csF] <;> assumption) | fail) only [Nat.reduceEqDiff, Nat.reduceAdd, Nat.reduceMul, Nat.reduceSub, Nat.reduceLeDiff, Int.reduceAdd, Int.reduceSub, Int.reduceMul, Int.reduceLT, Int.reduceLE, Int.reduceGT, Int.reduceGE, Int.reduceEq, Int.reduceBEq, Int.reduceBNe, Int.reduceNeg, Int.reduceToNat, csAll, ↓reduceIte, k4, hw]
          refine ⟨_, _, rfl, by simp [upd_apply], q1, ?_⟩
          rw [take_snoc s2, List.flatten_append, List.flatten_singleton, ← List.append_assoc]
          simpa [upd_apply] using q2
        obtain ⟨E', H', k1, k2, k3, k4⟩ := key
        exact step_go (k' := M.slots.length - (j + 1)) k1 (by omega) ⟨j + 1, k2, by omega, rfl, k3, k4⟩
      · apply step_out (x := .exit 0)
        · simp (disch := first | omega | rfl | assumption | (simp only [csN, Nat.reduceAdd, Nat.reduceMul, Nat.reduceLeDiff, Nat.reduceEqDiff] <;> omega) | (simp only [csF]; done) | (simp only [csF] <;> assumption) | fail) only [Nat.reduceEqDiff, Nat.reduceAdd, Nat.reduceMul, Nat.reduceSub, Nat.reduceLeDiff, Int.reduceAdd, Int.reduceSub, Int.reduceMul, Int.reduceLT, Int.reduceLE, Int.reduceGT, Int.reduceGE, Int.reduceEq, Int.reduceBEq, Int.reduceBNe, Int.reduceNeg, Int.reduceToNat, csAll, ↓reduceIte, C20_3, e0, e5, d1]
          rfl
        · simp
        · rw [take_all (by omega)] at hv
          exact ⟨rfl, gr, by simpa [upd_apply] using hv⟩) M.slots.length ⟨0, h5, by omega, rfl, gr, by simpa using hv⟩
  exact ⟨E', H', hr.symm.trans e, g1, g2, fr⟩

theorem ex2 {r : Option (CV × CHeap)} {v : CV} {H' : CHeap} {Q : CV → CHeap → Prop} (h : r = some (v, H')) (q : Q v H') : ∃ v H', r = some (v, H') ∧ Q v H' := ⟨_, _, h, q⟩

/-- The queue behind a list. -/
theorem catQ (m : MRep o g H0 b M L) (w : M.Ok) {v : CV} {l : List Int} (hl : l.length ≤ 1000) (gr : Gr H0 H) (hv : IL H0.length H v l) :
    ∃ vq Hq, run P 39 [.ptr b 0] H = some (vq, Hq) ∧ ∃ v' H', vAppend 1 v (elems Hq 1 vq) Hq = some (v', H') ∧ Gr H0 H' ∧ IL H0.length H' v' (l ++ M.queue) := by
  obtain ⟨vq, J, e, hq⟩ := f39 (m.gr gr) w
  have hql := w.q64.1
  have he := hq.elems (H' := H ++ J) (fun _ _ => rfl)
  obtain ⟨v', H', a1, a2, a3, a4⟩ := IL.cat (l2 := M.queue) (hv.gr (.app H J)) (by have := gr.len; simp; omega) (by omega)
  refine ⟨vq, _, e, v', H', ?_, (gr.app' J).low' a3 a4, a2⟩
  rw [he, vAppend_s, a1]

/-- roots. -/
theorem f20 (m : MRep o g H b M L) (w : M.Ok) : ∃ v H', run P 20 [.ptr b 0] H = some (v, H') ∧ Gr H H' ∧ IL H.length H' v M.places := by
  rw [run_lv c20]
  simp (disch := first | omega | rfl | assumption | (simp only [csN, Nat.reduceAdd, Nat.reduceMul, Nat.reduceLeDiff, Nat.reduceEqDiff] <;> omega) | (simp only [csF]; done) | (simp only [csF] <;> assumption) | fail) only [Nat.reduceEqDiff, Nat.reduceAdd, Nat.reduceMul, Nat.reduceSub, Nat.reduceLeDiff, Int.reduceAdd, Int.reduceSub, Int.reduceMul, Int.reduceLT, Int.reduceLE, Int.reduceGT, Int.reduceGE, Int.reduceEq, Int.reduceBEq, Int.reduceBNe, Int.reduceNeg, Int.reduceToNat, csAll, ↓reduceIte, C20, entry_1]
  generalize hr : den P (.loop C20_3) _ _ = r
  obtain ⟨E1, H1, rfl, g1, i1, k1⟩ := l20_3 m w (pre := []) (by simp only [upd_apply, Nat.reduceEqDiff, ↓reduceIte]) (by simp only [upd_apply, Nat.reduceEqDiff, ↓reduceIte]) (.refl H) (by simp) (by simp only [upd_apply, Nat.reduceEqDiff, ↓reduceIte]; exact IL.nil) hr
  have k0 := k1 0 (by decide +kernel)
  simp only [upd_apply, Nat.reduceEqDiff, ↓reduceIte] at k0
  have hfs := flatSlots w M.slots.length
  rw [take_all (Nat.le_refl _)] at hfs
  rw [List.nil_append] at i1
  simp (disch := first | omega | rfl | assumption | (simp only [csN, Nat.reduceAdd, Nat.reduceMul, Nat.reduceLeDiff, Nat.reduceEqDiff] <;> omega) | (simp only [csF]; done) | (simp only [csF] <;> assumption) | fail) only [Nat.reduceEqDiff, Nat.reduceAdd, Nat.reduceMul, Nat.reduceSub, Nat.reduceLeDiff, Int.reduceAdd, Int.reduceSub, Int.reduceMul, Int.reduceLT, Int.reduceLE, Int.reduceGT, Int.reduceGE, Int.reduceEq, Int.reduceBEq, Int.reduceBNe, Int.reduceNeg, Int.reduceToNat, csAll, ↓reduceIte, k0]
  generalize hr2 : den P (.loop C20_1) _ _ = r2
  obtain ⟨E2, H2, rfl, g2, i2, k2⟩ := l20_1 m w (pre := M.slots.flatten) (by omega) (by simp only [upd_apply, Nat.reduceEqDiff, ↓reduceIte, k0]) (by simp only [upd_apply, Nat.reduceEqDiff, ↓reduceIte]) g1 (by simp only [upd_apply, Nat.reduceEqDiff, ↓reduceIte]; exact i1) hr2
  have k0' := k2 0 (by decide +kernel)
  simp only [upd_apply, Nat.reduceEqDiff, ↓reduceIte, k0] at k0'
  have h16 := w.g16.1
  obtain ⟨vq, Hq, e39, v', H', ea, gf, il⟩ := catQ m w (by simp; simp at hfs; omega) g2 i2
  simp (disch := first | omega | rfl | assumption | (simp only [csN, Nat.reduceAdd, Nat.reduceMul, Nat.reduceLeDiff, Nat.reduceEqDiff] <;> omega) | (simp only [csF]; done) | (simp only [csF] <;> assumption) | fail) only [Nat.reduceEqDiff, Nat.reduceAdd, Nat.reduceMul, Nat.reduceSub, Nat.reduceLeDiff, Int.reduceAdd, Int.reduceSub, Int.reduceMul, Int.reduceLT, Int.reduceLE, Int.reduceGT, Int.reduceGE, Int.reduceEq, Int.reduceBEq, Int.reduceBNe, Int.reduceNeg, Int.reduceToNat, csAll, ↓reduceIte, k0', e39, ea]
  exact ⟨_, _, rfl, gf, il⟩
end
end Go.Cs.Try

/- contents and state: all that a model has. -/
namespace Go.Cs
open Go
def Obj.content (x : Obj) : List Int := [x.nr, x.nd, x.kd] ++ x.refs ++ x.data
def Mdl.state (M : Mdl) : List Int := [(M.objs.length : Int), (M.slots.length : Int)] ++ M.places ++ (M.objs.map Obj.content).flatten
theorem Obj.Ok.clen {n : Nat} {x : Obj} (h : x.Ok n) : x.content.length ≤ 218 := by
  have h1 := h.nr
  have h2 := h.nd
  simp only [Obj.content, List.length_append, List.length_cons, List.length_nil]; omega
theorem flatLe {k : Nat} : ∀ {L : List (List Int)}, (∀ s ∈ L, s.length ≤ k) → L.flatten.length ≤ k * L.length
  | [], _ => by simp
  | a :: l, h => by
    rw [List.flatten_cons, List.length_append, List.length_cons, Nat.mul_add]
    have h1 := h a List.mem_cons_self
    have h2 := flatLe (L := l) (fun s hs => h s (List.mem_cons_of_mem _ hs))
    omega
theorem Mdl.Ok.plen {M : Mdl} (w : M.Ok) : M.places.length ≤ 144 := by
  have h1 := flat16 (fun s hs => (w.s16 s hs).1)
  have h2 := w.ns
  have h3 := w.g16.1
  have h4 := w.q64.1
  simp only [Mdl.places, List.length_append]; omega
theorem Mdl.Ok.olen {M : Mdl} (w : M.Ok) (i : Nat) : ((M.objs.take i).map Obj.content).flatten.length ≤ 218 * M.objs.length := by
  refine Nat.le_trans (flatLe (k := 218) (fun s hs => ?_)) (Nat.mul_le_mul_left _ (by simp; omega))
  obtain ⟨x, hx, rfl⟩ := List.mem_map.1 hs
  exact (w.objs x (List.mem_of_mem_take hx)).clen
end Go.Cs
namespace Go.Cs.Try
open Go Go.Cs
set_option maxRecDepth 100000
section
variable {o : Tags} {g : Nat} {b : Nat} {M : Mdl} {L : Lay} {H0 H : CHeap}

theorem elAt_get {l : List Int} {j : Nat} (h : j < l.length) : elAt l j = (l.getD j 0, 0) := by
  unfold elAt; rw [if_pos (by omega)]; simp

theorem l24_2 (m : MRep o g H0 b M L) (w : M.Ok) {n : Int} (hn : M.has n) {pre : List Int} (hp : pre.length ≤ 1000) {E0 : Env} {sb : Nat} (h0 : E0 0 = .ptr b 0) (h1 : E0 1 = .i n) (hs : E0 5 = .ptr sb 0) (hsb : H0.length ≤ sb) {sv : Blk} (hsv : sv = ⟨[.i (M.obj n).nr, .i (M.obj n).nd, .i (M.obj n).kd], .rw, 0⟩) (hk : H[sb]? = some sv)
    (h5 : E0 8 = .i 0) (gr : Gr H0 H) (hv : IL (sb + 1) H (E0 7) pre)
    {r : Option (CX × Env × CHeap)} (hr : den P (.loop C24_2) E0 H = r) :
    ∃ E' H', r = some (.exit 0, E', H') ∧ Gr H0 H' ∧ IL (sb + 1) H' (E' 7) (pre ++ (M.obj n).refs) ∧ H'[sb]? = some sv ∧ ∀ t, t ∉ wr C24_2 → E' t = E0 t := by
  have hob := w.obj hn
  have hnr := hob.nr
  obtain ⟨x, E', H', e, -, ⟨rfl, g1, g2, g3⟩, fr⟩ := loop_at (p := P) (c := C24_2) (E0 := E0) (H0 := H) (fun k E H => ∃ j : Nat, E 8 = .i j ∧ j ≤ (M.obj n).refs.length ∧ k = (M.obj n).refs.length - j ∧ Gr H0 H ∧ IL (sb + 1) H (E 7) (pre ++ (M.obj n).refs.take j) ∧ H[sb]? = some sv)
    (fun x E' H' => x = .exit 0 ∧ Gr H0 H' ∧ IL (sb + 1) H' (E' 7) (pre ++ (M.obj n).refs) ∧ H'[sb]? = some sv) (by
      rintro k E H hE ⟨j, e5, hj, rfl, gr, hv, hk⟩
      have e0 := (hE 0 (by decide +kernel)).trans h0
      have e1 := (hE 1 (by decide +kernel)).trans h1
      have es := (hE 5 (by decide +kernel)).trans hs
      have hkl := lt_of_get hk
      have hk' := hk
      rw [hsv] at hk'
      by_cases c : j < (M.obj n).refs.length
      · have d1 := f16 (m.gr gr) w n j
        have s1 : M.refAt n j = ((M.obj n).refs.getD j 0, 0) := by unfold Mdl.refAt; rw [if_pos hn, elAt_get c]
        rw [s1] at d1
        simp only [pair2] at d1
        obtain ⟨v', H', a1, a2, a3, a4⟩ := hv.push (by omega) (by simp; omega) ((M.obj n).refs.getD j 0)
        have hw := wrapS j (by omega)
        generalize he3 : E 7 = v3 at *
        apply step_go (k' := (M.obj n).refs.length - (j + 1))
        · simp (disch := first | omega | rfl | assumption | (simp only [csN, Nat.reduceAdd, Nat.reduceMul, Nat.reduceLeDiff, Nat.reduceEqDiff] <;> omega) | (simp only [csF]; done) | (simp only [csF] <;> assumption) | fail) only [Nat.reduceEqDiff, Nat.reduceAdd, Nat.reduceMul, Nat.reduceSub, Nat.reduceLeDiff, Int.reduceAdd, Int.reduceSub, Int.reduceMul, Int.reduceLT, Int.reduceLE, Int.reduceGT, Int.reduceGE, Int.reduceEq, Int.reduceBEq, Int.reduceBNe, Int.reduceNeg, Int.reduceToNat, csAll, ↓reduceIte, C24_2, e0, e1, es, e5, hk', d1, he3, a1, hw]
          rfl
        · omega
        · refine ⟨j + 1, by simp [upd_apply], by omega, rfl, gr.low' (by omega) (fun c hc => a4 c (by omega)), ?_, by rw [a4 sb (by omega), hk]⟩
          rw [take_snoc (getD_of 0 c), ← List.append_assoc]
          simpa [upd_apply] using a2
      · apply step_out (x := .exit 0)
        · simp (disch := first | omega | rfl | assumption | (simp only [csN, Nat.reduceAdd, Nat.reduceMul, Nat.reduceLeDiff, Nat.reduceEqDiff] <;> omega) | (simp only [csF]; done) | (simp only [csF] <;> assumption) | fail) only [Nat.reduceEqDiff, Nat.reduceAdd, Nat.reduceMul, Nat.reduceSub, Nat.reduceLeDiff, Int.reduceAdd, Int.reduceSub, Int.reduceMul, Int.reduceLT, Int.reduceLE, Int.reduceGT, Int.reduceGE, Int.reduceEq, Int.reduceBEq, Int.reduceBNe, Int.reduceNeg, Int.reduceToNat, csAll, ↓reduceIte, C24_2, es, e5, hk']
          rfl
        · simp
        · rw [take_all (by omega)] at hv
          exact ⟨rfl, gr, by simpa [upd_apply] using hv, hk⟩) _ ⟨0, h5, by omega, rfl, gr, by simpa using hv, hk⟩
  exact ⟨E', H', hr.symm.trans e, g1, g2, g3, fr⟩

theorem l24_1 (m : MRep o g H0 b M L) (w : M.Ok) {n : Int} (hn : M.has n) {pre : List Int} (hp : pre.length ≤ 1000) {E0 : Env} {sb : Nat} (h0 : E0 0 = .ptr b 0) (h1 : E0 1 = .i n) (hs : E0 5 = .ptr sb 0) (hsb : H0.length ≤ sb) {sv : Blk} (hsv : sv = ⟨[.i (M.obj n).nr, .i (M.obj n).nd, .i (M.obj n).kd], .rw, 0⟩) (hk : H[sb]? = some sv)
    (h5 : E0 11 = .i 0) (gr : Gr H0 H) (hv : IL (sb + 1) H (E0 7) pre)
    {r : Option (CX × Env × CHeap)} (hr : den P (.loop C24_1) E0 H = r) :
    ∃ E' H', r = some (.exit 2, E', H') ∧ Gr H0 H' ∧ IL (sb + 1) H' (E' 7) (pre ++ (M.obj n).data) := by
  have hob := w.obj hn
  have hnr := hob.nd
  obtain ⟨x, E', H', e, -, ⟨rfl, g1, g2⟩, fr⟩ := loop_at (p := P) (c := C24_1) (E0 := E0) (H0 := H) (fun k E H => ∃ j : Nat, E 11 = .i j ∧ j ≤ (M.obj n).data.length ∧ k = (M.obj n).data.length - j ∧ Gr H0 H ∧ IL (sb + 1) H (E 7) (pre ++ (M.obj n).data.take j) ∧ H[sb]? = some sv)
    (fun x E' H' => x = .exit 2 ∧ Gr H0 H' ∧ IL (sb + 1) H' (E' 7) (pre ++ (M.obj n).data)) (by
      rintro k E H hE ⟨j, e5, hj, rfl, gr, hv, hk⟩
      have e0 := (hE 0 (by decide +kernel)).trans h0
      have e1 := (hE 1 (by decide +kernel)).trans h1
      have es := (hE 5 (by decide +kernel)).trans hs
      have hkl := lt_of_get hk
      have hk' := hk
      rw [hsv] at hk'
      by_cases c : j < (M.obj n).data.length
      · have d1 := f47 (m.gr gr) w n j
        have s1 : M.dataAt n j = ((M.obj n).data.getD j 0, 0) := by unfold Mdl.dataAt; rw [if_pos hn, elAt_get c]
        rw [s1] at d1
        simp only [pair2] at d1
        obtain ⟨v', H', a1, a2, a3, a4⟩ := hv.push (by omega) (by simp; omega) ((M.obj n).data.getD j 0)
        have hw := wrapS j (by omega)
        generalize he3 : E 7 = v3 at *
        apply step_go (k' := (M.obj n).data.length - (j + 1))
        · simp (disch := first | omega | rfl | assumption | (simp only [csN, Nat.reduceAdd, Nat.reduceMul, Nat.reduceLeDiff, Nat.reduceEqDiff] <;> omega) | (simp only [csF]; done) | (simp only [csF] <;> assumption) | fail) only [Nat.reduceEqDiff, Nat.reduceAdd, Nat.reduceMul, Nat.reduceSub, Nat.reduceLeDiff, Int.reduceAdd, Int.reduceSub, Int.reduceMul, Int.reduceLT, Int.reduceLE, Int.reduceGT, Int.reduceGE, Int.reduceEq, Int.reduceBEq, Int.reduceBNe, Int.reduceNeg, Int.reduceToNat, csAll, ↓reduceIte, C24_1, e0, e1, es, e5, hk', d1, he3, a1, hw]
          rfl
        · omega
        · refine ⟨j + 1, by simp [upd_apply], by omega, rfl, gr.low' (by omega) (fun c hc => a4 c (by omega)), ?_, by rw [a4 sb (by omega), hk]⟩
          rw [take_snoc (getD_of 0 c), ← List.append_assoc]
          simpa [upd_apply] using a2
      · apply step_out (x := .exit 2)
        · simp (disch := first | omega | rfl | assumption | (simp only [csN, Nat.reduceAdd, Nat.reduceMul, Nat.reduceLeDiff, Nat.reduceEqDiff] <;> omega) | (simp only [csF]; done) | (simp only [csF] <;> assumption) | fail) only [Nat.reduceEqDiff, Nat.reduceAdd, Nat.reduceMul, Nat.reduceSub, Nat.reduceLeDiff, Int.reduceAdd, Int.reduceSub, Int.reduceMul, Int.reduceLT, Int.reduceLE, Int.reduceGT, Int.reduceGE, Int.reduceEq, Int.reduceBEq, Int.reduceBNe, Int.reduceNeg, Int.reduceToNat, csAll, ↓reduceIte, C24_1, es, e5, hk']
          rfl
        · simp
        · rw [take_all (by omega)] at hv
          exact ⟨rfl, gr, by simpa [upd_apply] using hv⟩) _ ⟨0, h5, by omega, rfl, gr, by simpa using hv, hk⟩
  exact ⟨E', H', hr.symm.trans e, g1, g2⟩

/-- contents. -/
theorem f24 (m : MRep o g H b M L) (w : M.Ok) {n : Int} (hn : M.has n) : ∃ v H', run P 24 [.ptr b 0, .i n] H = some (v, H') ∧ Gr H H' ∧ IL H.length H' v (M.obj n).content := by
  have d1 := f15 m w n
  have hs : M.shapeAt n = (((M.obj n).nr, (M.obj n).nd, (M.obj n).kd), 0) := by unfold Mdl.shapeAt; rw [if_pos hn]
  rw [hs] at d1
  simp only [shape3] at d1
  have hob := w.obj hn
  have hnr := hob.nr
  rw [run_lv c24]
  simp (disch := first | omega | rfl | assumption | (simp only [csN, Nat.reduceAdd, Nat.reduceMul, Nat.reduceLeDiff, Nat.reduceEqDiff] <;> omega) | (simp only [csF]; done) | (simp only [csF] <;> assumption) | fail) only [Nat.reduceEqDiff, Nat.reduceAdd, Nat.reduceMul, Nat.reduceSub, Nat.reduceLeDiff, Int.reduceAdd, Int.reduceSub, Int.reduceMul, Int.reduceLT, Int.reduceLE, Int.reduceGT, Int.reduceGE, Int.reduceEq, Int.reduceBEq, Int.reduceBNe, Int.reduceNeg, Int.reduceToNat, csAll, ↓reduceIte, C24, entry_2, d1]
  generalize hr : den P (.loop C24_2) _ _ = r
  have gr0 : Gr H (H ++ [⟨[.i (M.obj n).nr, .i (M.obj n).nd, .i (M.obj n).kd], .rw, 0⟩] ++ [⟨[.i (M.obj n).nr, .i (M.obj n).nd, .i (M.obj n).kd], .rw, 0⟩] ++ [⟨[.i (M.obj n).nr, .i (M.obj n).nd, .i (M.obj n).kd], .rw, 1⟩]) := ((Gr.app _ _).app' _).app' _
  have gl : (H ++ [⟨[.i (M.obj n).nr, .i (M.obj n).nd, .i (M.obj n).kd], .rw, 0⟩] ++ [⟨[.i (M.obj n).nr, .i (M.obj n).nd, .i (M.obj n).kd], .rw, 0⟩] : CHeap)[H.length + 1]? = some ⟨[.i (M.obj n).nr, .i (M.obj n).nd, .i (M.obj n).kd], .rw, 0⟩ := by simp
  obtain ⟨E1, H1, rfl, g1, i1, q1, k1⟩ := l24_2 m w hn (pre := [(M.obj n).nr, (M.obj n).nd, (M.obj n).kd]) (sb := H.length + 1) (by simp) (by simp only [upd_apply, Nat.reduceEqDiff, ↓reduceIte]) (by simp only [upd_apply, Nat.reduceEqDiff, ↓reduceIte]) (by simp only [upd_apply, Nat.reduceEqDiff, ↓reduceIte]) (by omega) rfl
    (by rw [List.getElem?_append_left (by simp), gl]) (by simp only [upd_apply, Nat.reduceEqDiff, ↓reduceIte]) gr0 (by simp only [upd_apply, Nat.reduceEqDiff, ↓reduceIte]; exact IL.blk (b := H.length + 1 + 1) (by omega) (look_last (by simp)) rfl) hr
  have k0 := k1 0 (by decide +kernel)
  have k1' := k1 1 (by decide +kernel)
  have k5 := k1 5 (by decide +kernel)
  simp only [upd_apply, Nat.reduceEqDiff, ↓reduceIte] at k0 k1' k5
  simp (disch := first | omega | rfl | assumption | (simp only [csN, Nat.reduceAdd, Nat.reduceMul, Nat.reduceLeDiff, Nat.reduceEqDiff] <;> omega) | (simp only [csF]; done) | (simp only [csF] <;> assumption) | fail) only [Nat.reduceEqDiff, Nat.reduceAdd, Nat.reduceMul, Nat.reduceSub, Nat.reduceLeDiff, Int.reduceAdd, Int.reduceSub, Int.reduceMul, Int.reduceLT, Int.reduceLE, Int.reduceGT, Int.reduceGE, Int.reduceEq, Int.reduceBEq, Int.reduceBNe, Int.reduceNeg, Int.reduceToNat, csAll, ↓reduceIte]
  generalize hr2 : den P (.loop C24_1) _ _ = r2
  obtain ⟨E2, H2, rfl, g2, i2⟩ := l24_1 m w hn (pre := [(M.obj n).nr, (M.obj n).nd, (M.obj n).kd] ++ (M.obj n).refs) (sb := H.length + 1) (by simp; omega) (by simp only [upd_apply, Nat.reduceEqDiff, ↓reduceIte, k0]) (by simp only [upd_apply, Nat.reduceEqDiff, ↓reduceIte, k1']) (by simp only [upd_apply, Nat.reduceEqDiff, ↓reduceIte, k5]) (by omega) rfl q1 (by simp only [upd_apply, Nat.reduceEqDiff, ↓reduceIte]) g1 (by simp only [upd_apply, Nat.reduceEqDiff, ↓reduceIte]; exact i1) hr2
  simp (disch := first | omega | rfl | assumption | (simp only [csN, Nat.reduceAdd, Nat.reduceMul, Nat.reduceLeDiff, Nat.reduceEqDiff] <;> omega) | (simp only [csF]; done) | (simp only [csF] <;> assumption) | fail) only [Nat.reduceEqDiff, Nat.reduceAdd, Nat.reduceMul, Nat.reduceSub, Nat.reduceLeDiff, Int.reduceAdd, Int.reduceSub, Int.reduceMul, Int.reduceLT, Int.reduceLE, Int.reduceGT, Int.reduceGE, Int.reduceEq, Int.reduceBEq, Int.reduceBNe, Int.reduceNeg, Int.reduceToNat, csAll, ↓reduceIte]
  exact ⟨_, _, rfl, g2, i2.locMono (by omega)⟩
end
end Go.Cs.Try

/- state: all that a model has. -/
namespace Go.Cs.Try
open Go Go.Cs
set_option maxRecDepth 100000
section
variable {o : Tags} {g : Nat} {b : Nat} {M : Mdl} {L : Lay} {H0 H : CHeap}

theorem l28_3 (m : MRep o g H0 b M L) (w : M.Ok) {i : Nat} {s : List Int} (hs : M.slots[i]? = some s) {pre : List Int} (hp : pre.length ≤ 1000) {E0 : Env} (h0 : E0 0 = .ptr b 0) (h4 : E0 4 = .i i) (h5 : E0 5 = .i 0) (gr : Gr H0 H) (hv : IL H0.length H (E0 3) pre)
    {r : Option (CX × Env × CHeap)} (hr : den P (.loop C28_3) E0 H = r) :
    ∃ E' H', r = some (.exit 2, E', H') ∧ Gr H0 H' ∧ IL H0.length H' (E' 3) (pre ++ s) ∧ ∀ t, t ∉ wr C28_3 → E' t = E0 t := by
  have h16 := (w.s16 _ (List.mem_of_getElem? hs)).1
  obtain ⟨x, E', H', e, -, ⟨rfl, g1, g2⟩, fr⟩ := loop_at (p := P) (c := C28_3) (E0 := E0) (H0 := H) (fun k E H => ∃ j : Nat, E 5 = .i j ∧ j ≤ 16 ∧ k = 16 - j ∧ Gr H0 H ∧ IL H0.length H (E 3) (pre ++ s.take j))
    (fun x E' H' => x = .exit 2 ∧ Gr H0 H' ∧ IL H0.length H' (E' 3) (pre ++ s)) (by
      rintro k E H hE ⟨j, e5, hj, rfl, gr, hv⟩
      have e0 := (hE 0 (by decide +kernel)).trans h0
      have e4 := (hE 4 (by decide +kernel)).trans h4
      by_cases c : j < 16
      · obtain ⟨s1, s2⟩ := Mdl.slot_val w hs c
        have d1 := f25 (m.gr gr) w i j
        rw [s1] at d1
        simp only [pair2] at d1
        obtain ⟨v', H', a1, a2, a3, a4⟩ := hv.push gr.len (by simp; omega) (s.getD j 0)
        have hw := wrapS j (by omega)
        generalize he3 : E 3 = v3 at *
        apply step_go (k' := 16 - (j + 1))
        · simp (disch := first | omega | rfl | assumption | (simp only [csN, Nat.reduceAdd, Nat.reduceMul, Nat.reduceLeDiff, Nat.reduceEqDiff] <;> omega) | (simp only [csF]; done) | (simp only [csF] <;> assumption) | fail) only [Nat.reduceEqDiff, Nat.reduceAdd, Nat.reduceMul, Nat.reduceSub, Nat.reduceLeDiff, Int.reduceAdd, Int.reduceSub, Int.reduceMul, Int.reduceLT, Int.reduceLE, Int.reduceGT, Int.reduceGE, Int.reduceEq, Int.reduceBEq, Int.reduceBNe, Int.reduceNeg, Int.reduceToNat, csAll, ↓reduceIte, C28_3, e0, e4, e5, d1, he3, a1, hw]
          rfl
        · omega
        · refine ⟨j + 1, by simp [upd_apply], by omega, rfl, gr.low' a3 a4, ?_⟩
          rw [take_snoc s2, ← List.append_assoc]
          simpa [upd_apply] using a2
      · apply step_out (x := .exit 2)
        · simp (disch := first | omega | rfl | assumption | (simp only [csN, Nat.reduceAdd, Nat.reduceMul, Nat.reduceLeDiff, Nat.reduceEqDiff] <;> omega) | (simp only [csF]; done) | (simp only [csF] <;> assumption) | fail) only [Nat.reduceEqDiff, Nat.reduceAdd, Nat.reduceMul, Nat.reduceSub, Nat.reduceLeDiff, Int.reduceAdd, Int.reduceSub, Int.reduceMul, Int.reduceLT, Int.reduceLE, Int.reduceGT, Int.reduceGE, Int.reduceEq, Int.reduceBEq, Int.reduceBNe, Int.reduceNeg, Int.reduceToNat, csAll, ↓reduceIte, C28_3, e5]
          rfl
        · simp
        · rw [take_all (by omega)] at hv
          exact ⟨rfl, gr, by simpa [upd_apply] using hv⟩) 16 ⟨0, h5, by omega, rfl, gr, by simpa using hv⟩
  exact ⟨E', H', hr.symm.trans e, g1, g2, fr⟩

theorem l28_2 (m : MRep o g H0 b M L) (w : M.Ok) {pre : List Int} (hp : pre.length ≤ 1000) {E0 : Env} (h0 : E0 0 = .ptr b 0) (h5 : E0 8 = .i 0) (gr : Gr H0 H) (hv : IL H0.length H (E0 3) pre)
    {r : Option (CX × Env × CHeap)} (hr : den P (.loop C28_2) E0 H = r) :
    ∃ E' H', r = some (.exit 4, E', H') ∧ Gr H0 H' ∧ IL H0.length H' (E' 3) (pre ++ M.globals) ∧ ∀ t, t ∉ wr C28_2 → E' t = E0 t := by
  have h16 := w.g16.1
  obtain ⟨x, E', H', e, -, ⟨rfl, g1, g2⟩, fr⟩ := loop_at (p := P) (c := C28_2) (E0 := E0) (H0 := H) (fun k E H => ∃ j : Nat, E 8 = .i j ∧ j ≤ 16 ∧ k = 16 - j ∧ Gr H0 H ∧ IL H0.length H (E 3) (pre ++ M.globals.take j))
    (fun x E' H' => x = .exit 4 ∧ Gr H0 H' ∧ IL H0.length H' (E' 3) (pre ++ M.globals)) (by
      rintro k E H hE ⟨j, e5, hj, rfl, gr, hv⟩
      have e0 := (hE 0 (by decide +kernel)).trans h0
      by_cases c : j < 16
      · have s2 := getD_of (l := M.globals) (i := j) 0 (by omega)
        have d1 := f37 (m.gr gr) w j
        have s1 : M.globalAt j = (M.globals.getD j 0, 0) := by unfold Mdl.globalAt; rw [if_pos (by omega)]; simp
        rw [s1] at d1
        simp only [pair2] at d1
        obtain ⟨v', H', a1, a2, a3, a4⟩ := hv.push gr.len (by simp; omega) (M.globals.getD j 0)
        have hw := wrapS j (by omega)
        generalize he3 : E 3 = v3 at *
        apply step_go (k' := 16 - (j + 1))
        · simp (disch := first | omega | rfl | assumption | (simp only [csN, Nat.reduceAdd, Nat.reduceMul, Nat.reduceLeDiff, Nat.reduceEqDiff] <;> omega) | (simp only [csF]; done) | (simp only [csF] <;> assumption) | fail) only [Nat.reduceEqDiff, Nat.reduceAdd, Nat.reduceMul, Nat.reduceSub, Nat.reduceLeDiff, Int.reduceAdd, Int.reduceSub, Int.reduceMul, Int.reduceLT, Int.reduceLE, Int.reduceGT, Int.reduceGE, Int.reduceEq, Int.reduceBEq, Int.reduceBNe, Int.reduceNeg, Int.reduceToNat, csAll, ↓reduceIte, C28_2, e0, e5, d1, he3, a1, hw]
          rfl
        · omega
        · refine ⟨j + 1, by simp [upd_apply], by omega, rfl, gr.low' a3 a4, ?_⟩
          rw [take_snoc s2, ← List.append_assoc]
          simpa [upd_apply] using a2
      · apply step_out (x := .exit 4)
        · simp (disch := first | omega | rfl | assumption | (simp only [csN, Nat.reduceAdd, Nat.reduceMul, Nat.reduceLeDiff, Nat.reduceEqDiff] <;> omega) | (simp only [csF]; done) | (simp only [csF] <;> assumption) | fail) only [Nat.reduceEqDiff, Nat.reduceAdd, Nat.reduceMul, Nat.reduceSub, Nat.reduceLeDiff, Int.reduceAdd, Int.reduceSub, Int.reduceMul, Int.reduceLT, Int.reduceLE, Int.reduceGT, Int.reduceGE, Int.reduceEq, Int.reduceBEq, Int.reduceBNe, Int.reduceNeg, Int.reduceToNat, csAll, ↓reduceIte, C28_2, e5]
          rfl
        · simp
        · rw [take_all (by omega)] at hv
          exact ⟨rfl, gr, by simpa [upd_apply] using hv⟩) 16 ⟨0, h5, by omega, rfl, gr, by simpa using hv⟩
  exact ⟨E', H', hr.symm.trans e, g1, g2, fr⟩

theorem l28_4 (m : MRep o g H0 b M L) (w : M.Ok) {E0 : Env} (h0 : E0 0 = .ptr b 0) (h5 : E0 4 = .i 0) (gr : Gr H0 H) {pre : List Int} (hp : pre.length ≤ 10) (hv : IL H0.length H (E0 3) pre)
    {r : Option (CX × Env × CHeap)} (hr : den P (.loop C28_4) E0 H = r) :
    ∃ E' H', r = some (.exit 0, E', H') ∧ Gr H0 H' ∧ IL H0.length H' (E' 3) (pre ++ M.slots.flatten) ∧ ∀ t, t ∉ wr C28_4 → E' t = E0 t := by
  have hns := w.ns
  obtain ⟨x, E', H', e, -, ⟨rfl, g1, g2⟩, fr⟩ := loop_at (p := P) (c := C28_4) (E0 := E0) (H0 := H) (fun k E H => ∃ j : Nat, E 4 = .i j ∧ j ≤ M.slots.length ∧ k = M.slots.length - j ∧ Gr H0 H ∧ IL H0.length H (E 3) (pre ++ (M.slots.take j).flatten))
    (fun x E' H' => x = .exit 0 ∧ Gr H0 H' ∧ IL H0.length H' (E' 3) (pre ++ M.slots.flatten)) (by
      rintro k E H hE ⟨j, e5, hj, rfl, gr, hv⟩
      have e0 := (hE 0 (by decide +kernel)).trans h0
      have d1 := f22 (m.gr gr) w
      by_cases c : j < M.slots.length
      · have s2 := getD_of (l := M.slots) (i := j) [] (by omega)
        have hw := wrapS j (by omega)
        have hfs := flatSlots w j
        have key : ∃ E' H', den P C28_4 E H = some (.normal, E', H') ∧ E' 4 = .i ((j + 1 : Nat) : Int) ∧ Gr H0 H' ∧ IL H0.length H' (E' 3) (pre ++ (M.slots.take (j + 1)).flatten) := by
          simp (disch := first | omega | rfl | assumption | (simp only [csN, Nat.reduceAdd, Nat.reduceMul, Nat.reduceLeDiff, Nat.reduceEqDiff] <;> omega) | (simp only [csF]; done) | (simp only [csF] <;> assumption) | fail) only [Nat.reduceEqDiff, Nat.reduceAdd, Nat.reduceMul, Nat.reduceSub, Nat.reduceLeDiff, Int.reduceAdd, Int.reduceSub, Int.reduceMul, Int.reduceLT, Int.reduceLE, Int.reduceGT, Int.reduceGE, Int.reduceEq, Int.reduceBEq, Int.reduceBNe, Int.reduceNeg, Int.reduceToNat, csAll, ↓reduceIte, C28_4, e0, e5, d1]
          generalize hr : den P (.loop C28_3) _ _ = r
          obtain ⟨E2, H2, rfl, q1, q2, q3⟩ := l28_3 m w (pre := pre ++ (M.slots.take j).flatten) s2 (by simp; simp at hfs; omega) (by simp only [upd_apply, Nat.reduceEqDiff, ↓reduceIte, e0]) (by simp only [upd_apply, Nat.reduceEqDiff, ↓reduceIte, e5]) (by simp only [upd_apply, Nat.reduceEqDiff, ↓reduceIte]) gr (by simp only [upd_apply, Nat.reduceEqDiff, ↓reduceIte]; exact hv) hr
          have k4 := q3 4 (by decide +kernel)
          simp only [upd_apply, Nat.reduceEqDiff, ↓reduceIte, e5] at k4
          simp (disch := first | omega | rfl | assumption | (simp only [csN, Nat.reduceAdd, Nat.reduceMul, Nat.reduceLeDiff, Nat.reduceEqDiff] <;> omega) | (simp only [csF]; done) | (simp only [csF] <;> assumption) | fail) only [Nat.reduceEqDiff, Nat.reduceAdd, Nat.reduceMul, Nat.reduceSub, Nat.reduceLeDiff, Int.reduceAdd, Int.reduceSub, Int.reduceMul, Int.reduceLT, Int.reduceLE, Int.reduceGT, Int.reduceGE, Int.reduceEq, Int.reduceBEq, Int.reduceBNe, Int.reduceNeg, Int.reduceToNat, csAll, ↓reduceIte, k4, hw]
          refine ⟨_, _, rfl, by simp [upd_apply], q1, ?_⟩
          rw [take_snoc s2, List.flatten_append, List.flatten_singleton, ← List.append_assoc]
          simpa [upd_apply] using q2
        obtain ⟨E', H', k1, k2, k3, k4⟩ := key
        exact step_go (k' := M.slots.length - (j + 1)) k1 (by omega) ⟨j + 1, k2, by omega, rfl, k3, k4⟩
      · apply step_out (x := .exit 0)
        · simp (disch := first | omega | rfl | assumption | (simp only [csN, Nat.reduceAdd, Nat.reduceMul, Nat.reduceLeDiff, Nat.reduceEqDiff] <;> omega) | (simp only [csF]; done) | (simp only [csF] <;> assumption) | fail) only [Nat.reduceEqDiff, Nat.reduceAdd, Nat.reduceMul, Nat.reduceSub, Nat.reduceLeDiff, Int.reduceAdd, Int.reduceSub, Int.reduceMul, Int.reduceLT, Int.reduceLE, Int.reduceGT, Int.reduceGE, Int.reduceEq, Int.reduceBEq, Int.reduceBNe, Int.reduceNeg, Int.reduceToNat, csAll, ↓reduceIte, C28_4, e0, e5, d1]
          rfl
        · simp
        · rw [take_all (by omega)] at hv
          exact ⟨rfl, gr, by simpa [upd_apply] using hv⟩) M.slots.length ⟨0, h5, by omega, rfl, gr, by simpa using hv⟩
  exact ⟨E', H', hr.symm.trans e, g1, g2, fr⟩


theorem Mdl.obj_at {M : Mdl} {j : Nat} (h : j < M.objs.length) : M.objs[j]? = some (M.obj ((j + 1 : Nat) : Int)) := by
  have := Mdl.obj_get (M := M) (n := ((j + 1 : Nat) : Int)) (by unfold Mdl.has; omega)
  have e : (((j + 1 : Nat) : Int) - 1).toNat = j := by omega
  rw [e] at this; exact this

theorem l28_1 (m : MRep o g H0 b M L) (w : M.Ok) (hf : M.objs.length ≤ 1000) {pre : List Int} (hp : pre.length ≤ 1000) {E0 : Env} (h0 : E0 0 = .ptr b 0) (h5 : E0 11 = .i 1) (gr : Gr H0 H) (hv : IL H0.length H (E0 3) pre)
    {r : Option (CX × Env × CHeap)} (hr : den P (.loop C28_1) E0 H = r) :
    ∃ E' H', r = some (.exit 6, E', H') ∧ Gr H0 H' ∧ IL H0.length H' (E' 3) (pre ++ (M.objs.map Obj.content).flatten) := by
  obtain ⟨x, E', H', e, -, ⟨rfl, g1, g2⟩, fr⟩ := loop_at (p := P) (c := C28_1) (E0 := E0) (H0 := H) (fun k E H => ∃ j : Nat, E 11 = .i ((j + 1 : Nat) : Int) ∧ j ≤ M.objs.length ∧ k = M.objs.length - j ∧ Gr H0 H ∧ IL H0.length H (E 3) (pre ++ ((M.objs.take j).map Obj.content).flatten))
    (fun x E' H' => x = .exit 6 ∧ Gr H0 H' ∧ IL H0.length H' (E' 3) (pre ++ (M.objs.map Obj.content).flatten)) (by
      rintro k E H hE ⟨j, e5, hj, rfl, gr, hv⟩
      have e0 := (hE 0 (by decide +kernel)).trans h0
      have d1 := f23 (m.gr gr) w
      by_cases c : j < M.objs.length
      · have hh : M.has ((j + 1 : Nat) : Int) := by unfold Mdl.has; omega
        obtain ⟨vc, Hc, d2, gc, ic⟩ := f24 (m.gr gr) w hh
        have hcl := (w.obj hh).clen
        have hol := w.olen j
        have he := ic.elems (H' := Hc) (fun _ _ => rfl)
        obtain ⟨v', H', a1, a2, a3, a4⟩ := IL.cat (l2 := (M.obj ((j + 1 : Nat) : Int)).content) (hv.gr gc) (by have := gr.len; have := gc.len; omega) (by simp only [List.length_append]; omega)
        have hap : vAppend 1 (E 3) (elems Hc 1 vc) Hc = some (v', H') := by rw [he, vAppend_s, a1]
        have hw := wrapS (j + 1) (by omega)
        generalize he3 : E 3 = v3 at *
        apply step_go (k' := M.objs.length - (j + 1))
        · simp (disch := first | omega | rfl | assumption | (simp only [csN, Nat.reduceAdd, Nat.reduceMul, Nat.reduceLeDiff, Nat.reduceEqDiff] <;> omega) | (simp only [csF]; done) | (simp only [csF] <;> assumption) | fail) only [Nat.reduceEqDiff, Nat.reduceAdd, Nat.reduceMul, Nat.reduceSub, Nat.reduceLeDiff, Int.reduceAdd, Int.reduceSub, Int.reduceMul, Int.reduceLT, Int.reduceLE, Int.reduceGT, Int.reduceGE, Int.reduceEq, Int.reduceBEq, Int.reduceBNe, Int.reduceNeg, Int.reduceToNat, csAll, ↓reduceIte, C28_1, e0, e5, d1, d2, he3, hap, hw]
          rfl
        · omega
        · refine ⟨j + 1, by simp [upd_apply], by omega, rfl, (gr.trans gc).low' a3 a4, ?_⟩
          rw [take_snoc (Mdl.obj_at c), List.map_append, List.flatten_append, List.map_cons, List.map_nil, List.flatten_singleton, ← List.append_assoc]
          simpa [upd_apply] using a2
      · apply step_out (x := .exit 6)
        · simp (disch := first | omega | rfl | assumption | (simp only [csN, Nat.reduceAdd, Nat.reduceMul, Nat.reduceLeDiff, Nat.reduceEqDiff] <;> omega) | (simp only [csF]; done) | (simp only [csF] <;> assumption) | fail) only [Nat.reduceEqDiff, Nat.reduceAdd, Nat.reduceMul, Nat.reduceSub, Nat.reduceLeDiff, Int.reduceAdd, Int.reduceSub, Int.reduceMul, Int.reduceLT, Int.reduceLE, Int.reduceGT, Int.reduceGE, Int.reduceEq, Int.reduceBEq, Int.reduceBNe, Int.reduceNeg, Int.reduceToNat, csAll, ↓reduceIte, C28_1, e0, e5, d1]
          rfl
        · simp
        · rw [take_all (by omega)] at hv
          exact ⟨rfl, gr, by simpa [upd_apply] using hv⟩) M.objs.length ⟨0, h5, by omega, rfl, gr, by simpa using hv⟩
  exact ⟨E', H', hr.symm.trans e, g1, g2⟩

/-- state. -/
theorem f28 (m : MRep o g H b M L) (w : M.Ok) (hf : M.objs.length ≤ 1000) : ∃ v H', run P 28 [.ptr b 0] H = some (v, H') ∧ Gr H H' ∧ IL H.length H' v M.state := by
  have d1 := f23 m w
  have d2 := f22 m w
  rw [run_lv c28]
  simp (disch := first | omega | rfl | assumption | (simp only [csN, Nat.reduceAdd, Nat.reduceMul, Nat.reduceLeDiff, Nat.reduceEqDiff] <;> omega) | (simp only [csF]; done) | (simp only [csF] <;> assumption) | fail) only [Nat.reduceEqDiff, Nat.reduceAdd, Nat.reduceMul, Nat.reduceSub, Nat.reduceLeDiff, Int.reduceAdd, Int.reduceSub, Int.reduceMul, Int.reduceLT, Int.reduceLE, Int.reduceGT, Int.reduceGE, Int.reduceEq, Int.reduceBEq, Int.reduceBNe, Int.reduceNeg, Int.reduceToNat, csAll, ↓reduceIte, C28, entry_1, d1, d2]
  generalize hr : den P (.loop C28_4) _ _ = r
  obtain ⟨E1, H1, rfl, g1, i1, k1⟩ := l28_4 m w (pre := [(M.objs.length : Int), (M.slots.length : Int)]) (by simp only [upd_apply, Nat.reduceEqDiff, ↓reduceIte]) (by simp only [upd_apply, Nat.reduceEqDiff, ↓reduceIte]) (.app H _) (by simp) (by simp only [upd_apply, Nat.reduceEqDiff, ↓reduceIte]; exact IL.blk (b := H.length) (by omega) (look_last rfl) rfl) hr
  have k0 := k1 0 (by decide +kernel)
  simp only [upd_apply, Nat.reduceEqDiff, ↓reduceIte] at k0
  have hfs := flatSlots w M.slots.length
  rw [take_all (Nat.le_refl _)] at hfs
  simp (disch := first | omega | rfl | assumption | (simp only [csN, Nat.reduceAdd, Nat.reduceMul, Nat.reduceLeDiff, Nat.reduceEqDiff] <;> omega) | (simp only [csF]; done) | (simp only [csF] <;> assumption) | fail) only [Nat.reduceEqDiff, Nat.reduceAdd, Nat.reduceMul, Nat.reduceSub, Nat.reduceLeDiff, Int.reduceAdd, Int.reduceSub, Int.reduceMul, Int.reduceLT, Int.reduceLE, Int.reduceGT, Int.reduceGE, Int.reduceEq, Int.reduceBEq, Int.reduceBNe, Int.reduceNeg, Int.reduceToNat, csAll, ↓reduceIte, k0]
  generalize hr2 : den P (.loop C28_2) _ _ = r2
  obtain ⟨E2, H2, rfl, g2, i2, k2⟩ := l28_2 m w (pre := [(M.objs.length : Int), (M.slots.length : Int)] ++ M.slots.flatten) (by simp only [List.length_append, List.length_cons, List.length_nil]; omega) (by simp only [upd_apply, Nat.reduceEqDiff, ↓reduceIte, k0]) (by simp only [upd_apply, Nat.reduceEqDiff, ↓reduceIte]) g1 (by simp only [upd_apply, Nat.reduceEqDiff, ↓reduceIte]; exact i1) hr2
  have k0' := k2 0 (by decide +kernel)
  simp only [upd_apply, Nat.reduceEqDiff, ↓reduceIte, k0] at k0'
  have h16 := w.g16.1
  obtain ⟨vq, Hq, e39, v', H', ea, gf, il⟩ := catQ m w (by simp only [List.length_append, List.length_cons, List.length_nil]; omega) g2 i2
  simp (disch := first | omega | rfl | assumption | (simp only [csN, Nat.reduceAdd, Nat.reduceMul, Nat.reduceLeDiff, Nat.reduceEqDiff] <;> omega) | (simp only [csF]; done) | (simp only [csF] <;> assumption) | fail) only [Nat.reduceEqDiff, Nat.reduceAdd, Nat.reduceMul, Nat.reduceSub, Nat.reduceLeDiff, Int.reduceAdd, Int.reduceSub, Int.reduceMul, Int.reduceLT, Int.reduceLE, Int.reduceGT, Int.reduceGE, Int.reduceEq, Int.reduceBEq, Int.reduceBNe, Int.reduceNeg, Int.reduceToNat, csAll, ↓reduceIte, k0', e39, ea]
  generalize hr3 : den P (.loop C28_1) _ _ = r3
  obtain ⟨E3, H3, rfl, g3, i3⟩ := l28_1 m w hf (pre := [(M.objs.length : Int), (M.slots.length : Int)] ++ M.places) (by have := w.plen; simp only [List.length_append, List.length_cons, List.length_nil]; omega) (by simp only [upd_apply, Nat.reduceEqDiff, ↓reduceIte, k0']) (by simp only [upd_apply, Nat.reduceEqDiff, ↓reduceIte]) gf (by simp only [upd_apply, Nat.reduceEqDiff, ↓reduceIte]; simpa [Mdl.places] using il) hr3
  simp (disch := first | omega | rfl | assumption | (simp only [csN, Nat.reduceAdd, Nat.reduceMul, Nat.reduceLeDiff, Nat.reduceEqDiff] <;> omega) | (simp only [csF]; done) | (simp only [csF] <;> assumption) | fail) only [Nat.reduceEqDiff, Nat.reduceAdd, Nat.reduceMul, Nat.reduceSub, Nat.reduceLeDiff, Int.reduceAdd, Int.reduceSub, Int.reduceMul, Int.reduceLT, Int.reduceLE, Int.reduceGT, Int.reduceGE, Int.reduceEq, Int.reduceBEq, Int.reduceBNe, Int.reduceNeg, Int.reduceToNat, csAll, ↓reduceIte]
  exact ⟨_, _, rfl, g3, i3⟩
end
end Go.Cs.Try

/- Lists of lists of integers. -/
namespace Go.Cs
open Go
def One (b : Nat) : Tags := fun c => if c = b then some z3 else none
theorem One_some {b c : Nat} {t : Tag} : One b c = some t ↔ c = b ∧ t = z3 := by
  unfold One
  split
  · rename_i h; simp only [Option.some.injEq]; exact ⟨fun e => ⟨h, e.symm⟩, fun e => e.2.symm⟩
  · rename_i h; simp [h]
abbrev IB (b : Nat) (H : CHeap) (v : CV) (n : Nat) (cs : List CV) : Prop := At (One b) z3 H v 1 n cs
theorem IL.one {k : Nat} {H : CHeap} {v : CV} {l : List Int} (h : IL k H v l) (hk : k < H.length) : ∃ b, k ≤ b ∧ b < H.length ∧ IB b H v l.length (ints l) := by
  rcases h with h | ⟨b, tl, rfl, h1, h2, h3⟩
  · exact ⟨k, Nat.le_refl _, hk, .inl h⟩
  · exact ⟨b, (Loc_some.1 h1).1, lt_of_get h2, .inr ⟨b, tl, rfl, One_some.2 ⟨rfl, rfl⟩, h2, h3⟩⟩
theorem IB.keep {b n : Nat} {H H' : CHeap} {v : CV} {cs : List CV} (h : IB b H v n cs) (e : b < H.length → H'[b]? = H[b]?) : IB b H' v n cs := by
  rcases h with h | ⟨c, tl, rfl, h1, h2, h3⟩
  · exact .inl h
  · obtain ⟨rfl, -⟩ := One_some.1 h1
    exact .inr ⟨c, tl, rfl, h1, by rw [e (lt_of_get h2), h2], h3⟩
theorem IB.append {b n k : Nat} {H : CHeap} {v : CV} {cs new : List CV} (h : IB b H v n cs) (hk : 0 < k) (hm : n + k ≤ 16777216) (hl : new.all leaf = true) (hnew : new.length = k) :
    ∃ v' H', appendTo H 1 v k new = some (v', H') ∧ IB H.length H' v' (n + k) (cs ++ new) ∧ H'.length = H.length + 1 ∧ ∀ c, c < H.length → c ≠ b → H'[c]? = H[c]? := by
  obtain ⟨H', a1, a2, a3, a4⟩ := At.append (k := k) (new := new) h hk hm hl (by omega)
  have hcl : cs.length = n := by
    rcases h with ⟨h1, h2, -⟩ | ⟨b, tl, -, -, -, h3⟩
    · simp [h1, h2]
    · omega
  exact ⟨_, H', a1, .inr ⟨H.length, true, rfl, One_some.2 ⟨rfl, rfl⟩, a3, by simp [hnew, hcl]⟩, a2, fun c hc hb => a4 c hc (fun h => hb (One_some.1 h).1)⟩

/-- A list of lists. -/
def LL (k : Nat) (H : CHeap) (v : CV) (ls : List (List Int)) : Prop :=
  ∃ b vs, k ≤ b ∧ IB b H v ls.length vs ∧ vs.length = ls.length ∧ ∀ (i : Nat) (l : List Int), ls[i]? = some l → ∃ u bi, vs[i]? = some u ∧ k ≤ bi ∧ bi ≠ b ∧ bi < H.length ∧ IB bi H u l.length (ints l)
theorem LL.nil {k : Nat} {H : CHeap} : LL k H .nilSlice [] := ⟨k, [], Nat.le_refl _, .inl ⟨rfl, rfl, .inl rfl⟩, rfl, fun i l h => by simp at h⟩
theorem LL.gr {k : Nat} {H H' : CHeap} {v : CV} {ls : List (List Int)} (h : LL k H v ls) (g : Gr H H') : LL k H' v ls := by
  obtain ⟨b, vs, h1, h2, h3, h4⟩ := h
  refine ⟨b, vs, h1, h2.keep (fun hb => g.low b hb), h3, fun i l hi => ?_⟩
  obtain ⟨u, bi, e1, e2, e3, e4, e5⟩ := h4 i l hi
  exact ⟨u, bi, e1, e2, e3, Nat.lt_of_lt_of_le e4 g.len, e5.keep (fun hb => g.low bi hb)⟩
theorem LL.frm {k g : Nat} {o o' : Tags} {H H' : CHeap} {v : CV} {ls : List (List Int)} (h : LL k H v ls) (hd : ∀ c t, o c = some t → c < k) (f : Frm g o H o' H') : LL k H' v ls := by
  obtain ⟨b, vs, h1, h2, h3, h4⟩ := h
  have key : ∀ c, k ≤ c → c < H.length → H'[c]? = H[c]? := fun c hc hl => f.keep c hl (fun x hx => by have := hd c _ hx; omega)
  refine ⟨b, vs, h1, h2.keep (fun hb => key b h1 hb), h3, fun i l hi => ?_⟩
  obtain ⟨u, bi, e1, e2, e3, e4, e5⟩ := h4 i l hi
  exact ⟨u, bi, e1, e2, e3, Nat.lt_of_lt_of_le e4 f.len, e5.keep (fun hb => key bi e2 hb)⟩
theorem LL.push {k : Nat} {H Hc : CHeap} {v vc : CV} {ls : List (List Int)} {l : List Int} (h : LL k H v ls) (hk : k ≤ H.length) (g : Gr H Hc) (hl : H.length < Hc.length) (hv : IL H.length Hc vc l) (hm : ls.length + 1 ≤ 16777216) :
    ∃ v' H', appendTo (Hc ++ [⟨[vc], .rw, 1⟩]) 1 v 1 [vc] = some (v', H') ∧ LL k H' v' (ls ++ [l]) ∧ k ≤ H'.length ∧ ∀ c, c < k → H'[c]? = H[c]? := by
  obtain ⟨b0, vs, h1, h20, h3, h40⟩ := h
  obtain ⟨bc, c1, c2, c3⟩ := hv.one hl
  have hlf : leaf vc = true := c3.leaf
  have hg := g.len
  obtain ⟨b, hb, hkb, h2, hbb⟩ : ∃ b, (b < H.length ∨ Hc.length < b) ∧ k ≤ b ∧ IB b H v ls.length vs ∧ (ls ≠ [] → b = b0) := by
    rcases h20 with h | ⟨c, tl, e, z1, z2, z3⟩
    · exact ⟨Hc.length + 1, .inr (by omega), by omega, .inl h, fun hne => absurd (List.eq_nil_of_length_eq_zero h.1) hne⟩
    · obtain ⟨rfl, -⟩ := One_some.1 z1
      exact ⟨c, .inl (lt_of_get z2), h1, .inr ⟨c, tl, e, z1, z2, z3⟩, fun _ => rfl⟩
  have h4 : ∀ (i : Nat) (l : List Int), ls[i]? = some l → ∃ u bi, vs[i]? = some u ∧ k ≤ bi ∧ bi ≠ b ∧ bi < H.length ∧ IB bi H u l.length (ints l) := fun i l hi => by
    have hne : ls ≠ [] := by rintro rfl; simp at hi
    rw [hbb hne]; exact h40 i l hi
  have h2' : IB b (Hc ++ [⟨[vc], .rw, 1⟩]) v ls.length vs := h2.keep (fun hb => by rw [List.getElem?_append_left (by omega), g.low b hb])
  obtain ⟨v', H', a1, a2, a3, a4⟩ := h2'.append (k := 1) (new := [vc]) (by omega) hm (by simp [hlf]) rfl
  have hcl : (Hc ++ [(⟨[vc], .rw, 1⟩ : Blk)]).length = Hc.length + 1 := by simp
  rw [hcl] at a2 a3 a4
  have low : ∀ c, c < Hc.length → c ≠ b → H'[c]? = Hc[c]? := fun c hc hb => by rw [a4 c (by omega) hb, List.getElem?_append_left hc]
  refine ⟨v', H', a1, ⟨Hc.length + 1, vs ++ [vc], by omega, by simpa using a2, by simp [h3], fun i l' hi => ?_⟩, by omega, fun c hc => ?_⟩
  · rw [List.getElem?_append] at hi
    split at hi
    · rename_i hlt
      obtain ⟨u, bi, e1, e2, e3, e4, e5⟩ := h4 i l' hi
      refine ⟨u, bi, by rw [List.getElem?_append_left (by omega)]; exact e1, e2, by omega, by omega, e5.keep (fun hb => ?_)⟩
      rw [low bi (by omega) e3, g.low bi e4]
    · rename_i hge
      have hil := lt_of_get hi
      simp only [List.length_singleton] at hil
      have hi0 : i = ls.length := by omega
      subst hi0
      simp at hi
      subst hi
      exact ⟨vc, bc, by rw [List.getElem?_append_right (by omega), h3]; simp, by omega, by omega, by omega, c3.keep (fun _ => low bc c2 (by omega))⟩
  · by_cases e : c = b
    · omega
    · rw [low c (by omega) e, g.low c (by omega)]
end Go.Cs

/- ModelRefused: the walk. -/
namespace Go.Cs
open Go
theorem Mdl.doAct_err {M : Mdl} {mu : Int} {x : Act} (h : (M.doAct mu x).2.2 ≠ 0) : (M.doAct mu x).1 = M := by
  unfold Mdl.doAct at h ⊢
  split at h
  · exact absurd rfl h
  · rename_i hc; rw [if_neg hc]
theorem Mdl.step_err {M : Mdl} {x : Stp} (h : (M.step x).2 ≠ 0) : (M.step x).1 = M := by
  unfold Mdl.step at h ⊢
  split at h
  · rename_i c; rw [if_pos c]; exact Mdl.doAct_err h
  · rename_i c
    rw [if_neg c]
    split at h
    · exact absurd rfl h
    · rename_i c
      rw [if_neg c]
      split at h
      · rename_i c
        rw [if_pos c]
        unfold Mdl.push at h ⊢
        split at h
        · split at h
          · rename_i c1 c2; rw [if_pos c1, if_pos c2]
          · exact absurd rfl h
        · rename_i c1; rw [if_neg c1]
      · rename_i c
        rw [if_neg c]
        split at h
        · rename_i c
          rw [if_pos c]
          unfold Mdl.pop at h ⊢
          split at h
          · rfl
          · exact absurd rfl h
        · rename_i c
          rw [if_neg c]
          split at h
          · rename_i c
            rw [if_pos c]
            unfold Mdl.setRef at h ⊢
            split at h
            · split at h
              · exact absurd rfl h
              · rename_i c1 c2; rw [if_pos c1, if_neg c2]
            · rename_i c1; rw [if_neg c1]
          · exact absurd rfl h
theorem Mdl.Ok.stlen {M : Mdl} (w : M.Ok) (hf : M.objs.length ≤ 1000) : M.state.length ≤ 16777216 := by
  have h1 := w.plen
  have h2 := w.olen M.objs.length
  rw [take_all (Nat.le_refl _)] at h2
  simp only [Mdl.state, List.length_append, List.length_cons, List.length_nil]; omega
theorem tag_none {o : Tags} {H : CHeap} (hd : ∀ c t, o c = some t → c < H.length) : o H.length = none := by
  cases h : o H.length with
  | none => rfl
  | some t => have := hd _ _ h; omega
end Go.Cs
namespace Go.Cs.Try
open Go Go.Cs
set_option maxRecDepth 100000
set_option maxHeartbeats 8000000
theorem f8 {o : Tags} {H : CHeap} {v : CV} {l : List Stp} (hd : ∀ c t, o c = some t → c < H.length) (hg : ∀ c k, o c ≠ some (0, k)) (st : Steps o H v l) (nn : Int) (x : Stp) :
    ∃ H', run P 8 [.i nn, v, .agg (stpCells x)] H = some (.bool true, H') := by
  have frb : Frm 0 o H o (H ++ [(⟨stpCells x, .rw, 0⟩ : Blk)]) := .app hd _
  have st0 := st.frm frb
  have hd0 : ∀ c t, o c = some t → c < (H ++ [(⟨stpCells x, .rw, 0⟩ : Blk)]).length := fun c t h => by have := hd c t h; simp; omega
  by_cases hok : (1 ≤ nn ∧ nn ≤ 4) ∧ l.length ≤ 120
  case neg =>
    obtain ⟨H1, e12⟩ := f12_no (H := H ++ [(⟨stpCells x, .rw, 0⟩ : Blk)]) (n := nn) st.len (by omega)
    obtain ⟨H2, e13⟩ := f13 (H := H1)
    apply ex_run
    rw [run_lv c8]
    simp (disch := first | omega | rfl | assumption | (simp only [csN, Nat.reduceAdd, Nat.reduceMul, Nat.reduceLeDiff, Nat.reduceEqDiff] <;> omega) | (simp only [csF]; done) | (simp only [csF] <;> assumption) | fail) only [Nat.reduceEqDiff, Nat.reduceAdd, Nat.reduceMul, Nat.reduceSub, Nat.reduceLeDiff, Int.reduceAdd, Int.reduceSub, Int.reduceMul, Int.reduceLT, Int.reduceLE, Int.reduceGT, Int.reduceGE, Int.reduceEq, Int.reduceBEq, Int.reduceBNe, Int.reduceNeg, Int.reduceToNat, csAll, ↓reduceIte, C8, entry_3, e12, e13]
    rfl
  obtain ⟨hn, hl⟩ := hok
  obtain ⟨n, rfl⟩ : ∃ n : Nat, nn = (n : Int) := ⟨nn.toNat, by omega⟩
  obtain ⟨b, H1, o1, L1, e12, m, fr1⟩ := f12 (g := 0) hd0 hg (n := n) (by omega) hl st0
  obtain ⟨w, hob⟩ := madeM_ok (n := n) (by omega) l (by omega)
  obtain ⟨bx1, bo1⟩ := fr1.kept (k := ⟨stpCells x, .rw, 0⟩) (look_last rfl) (tag_none hd)

  simp only [stpCells] at bx1
  by_cases hk : x.k = 1
  · obtain ⟨H2, e13⟩ := f13 (H := H1)
    apply ex_run
    rw [run_lv c8]
    simp (disch := first | omega | rfl | assumption | (simp only [csN, Nat.reduceAdd, Nat.reduceMul, Nat.reduceLeDiff, Nat.reduceEqDiff] <;> omega) | (simp only [csF]; done) | (simp only [csF] <;> assumption) | fail) only [Nat.reduceEqDiff, Nat.reduceAdd, Nat.reduceMul, Nat.reduceSub, Nat.reduceLeDiff, Int.reduceAdd, Int.reduceSub, Int.reduceMul, Int.reduceLT, Int.reduceLE, Int.reduceGT, Int.reduceGE, Int.reduceEq, Int.reduceBEq, Int.reduceBNe, Int.reduceNeg, Int.reduceToNat, csAll, ↓reduceIte, C8, entry_3, e12, e13, bx1, hk]
    rfl
  obtain ⟨v8, H2, e28, g2, i2⟩ := f28 m w (by omega)
  have m2 := m.gr g2
  obtain ⟨H3, o3, L3, e21, m3, fr3⟩ := f21 m2 w (by omega) x
  have bx2 := g2.get bx1
  simp only [stpCells] at e21
  by_cases he : ((madeM n l).step x).2 = 0
  · obtain ⟨Hf, ef⟩ := f13 (H := H3)
    rw [he] at e21
    apply ex_run
    rw [run_lv c8]
    simp (disch := first | omega | rfl | assumption | (simp only [csN, Nat.reduceAdd, Nat.reduceMul, Nat.reduceLeDiff, Nat.reduceEqDiff] <;> omega) | (simp only [csF]; done) | (simp only [csF] <;> assumption) | fail) only [Nat.reduceEqDiff, Nat.reduceAdd, Nat.reduceMul, Nat.reduceSub, Nat.reduceLeDiff, Int.reduceAdd, Int.reduceSub, Int.reduceMul, Int.reduceLT, Int.reduceLE, Int.reduceGT, Int.reduceGE, Int.reduceEq, Int.reduceBEq, Int.reduceBNe, Int.reduceNeg, Int.reduceToNat, csAll, ↓reduceIte, C8, entry_3, e12, e28, e21, ef, bx1, bx2, hk]
    rfl
  · rw [Mdl.step_err he] at m3
    obtain ⟨v30, H4, e30, g4, i4⟩ := f28 m3 w (by omega)
    have a2 := ((At.un' i2 m.dom).unFrm fr3).gr g4
    have e26 := f26 (l := (madeM n l).state) (l' := (madeM n l).state) i4 a2 (w.stlen (by omega))
    simp only [decide_true] at e26
    obtain ⟨Hf, ef⟩ := f13 (H := H4)
    apply ex_run
    rw [run_lv c8]
    simp (disch := first | omega | rfl | assumption | (simp only [csN, Nat.reduceAdd, Nat.reduceMul, Nat.reduceLeDiff, Nat.reduceEqDiff] <;> omega) | (simp only [csF]; done) | (simp only [csF] <;> assumption) | fail) only [Nat.reduceEqDiff, Nat.reduceAdd, Nat.reduceMul, Nat.reduceSub, Nat.reduceLeDiff, Int.reduceAdd, Int.reduceSub, Int.reduceMul, Int.reduceLT, Int.reduceLE, Int.reduceGT, Int.reduceGE, Int.reduceEq, Int.reduceBEq, Int.reduceBNe, Int.reduceNeg, Int.reduceToNat, csAll, ↓reduceIte, C8, entry_3, e12, e28, e21, e30, e26, ef, bx1, bx2, hk, he]
    rfl
end Go.Cs.Try

/- ModelTold: the walk. -/
namespace Go.Cs
open Go
theorem flat_get : ∀ {L : List (List Int)} (_ : ∀ s ∈ L, s.length = 16) (i : Nat), L.flatten[i]? = (L[i / 16]?).bind fun s => s[i % 16]?
  | [], _, i => by simp
  | a :: l, h, i => by
    rw [List.flatten_cons, List.getElem?_append, h a List.mem_cons_self]
    split
    · rename_i hi
      have h1 : i / 16 = 0 := by omega
      have h2 : i % 16 = i := by omega
      rw [h1, h2]; rfl
    · rename_i hi
      have h1 : i / 16 = (i - 16) / 16 + 1 := by omega
      have h2 : i % 16 = (i - 16) % 16 := by omega
      rw [flat_get (L := l) (fun s hs => h s (List.mem_cons_of_mem _ hs)), h1, h2]; rfl
theorem Mdl.doAct_slots (M : Mdl) (mu : Int) (x : Act) : (M.doAct mu x).1.slots = M.slots ∨
    ∃ z, (0 ≤ mu ∧ mu < (M.slots.length : Int)) ∧ (0 ≤ x.a ∧ x.a < 16) ∧ (M.doAct mu x).1.slots = M.slots.set mu.toNat ((M.slots.getD mu.toNat []).set x.a.toNat z) := by
  by_cases h : M.errOf mu x = 0
  · obtain ⟨⟨h1, h2, h12⟩, ⟨h3, -⟩, -⟩ := Mdl.errOf_0 h
    have hd : (M.doAct mu x).1 = (M.eff mu.toNat (M.slots.getD mu.toNat []) x).1 := by unfold Mdl.doAct; rw [if_pos h]
    rw [hd]
    rcases k12 h12 with e | e | e | e | e | e | e | e | e | e | e | e <;> simp only [Mdl.eff, e, Int.reduceEq, ↓reduceIte] <;> first
      | exact Or.inr ⟨_, ⟨h1, h2⟩, h3, rfl⟩
      | exact Or.inl rfl
      | exact Or.inl trivial
  · exact .inl (by unfold Mdl.doAct; rw [if_neg h])
theorem places_get {M : Mdl} (w : M.Ok) {i : Nat} (hi : i < 16 * M.slots.length) : M.places[i]? = (M.slots[i / 16]?).bind fun s => s[i % 16]? := by
  have h16 := fun s hs => (w.s16 s hs).1
  unfold Mdl.places
  rw [List.append_assoc, List.getElem?_append_left (by rw [flat16 h16]; exact hi), flat_get h16]
/-- What an act may change among the slots. -/
theorem Mdl.told {M : Mdl} (w : M.Ok) {mu : Int} {x : Act} (w' : (M.doAct mu x).1.Ok) : (M.doAct mu x).1.slots.length = M.slots.length ∧ ∃ p : Nat, ∀ i, i < 16 * M.slots.length → (M.doAct mu x).1.places[i]? ≠ M.places[i]? → ((i : Int).tdiv 16 = mu ∧ (i : Int).tmod 16 = x.a) ∧ i = p := by
  rcases Mdl.doAct_slots M mu x with h | ⟨z, h1, h2, h3⟩
  · refine ⟨by rw [h], 0, fun i hi hne => ?_⟩
    rw [places_get w hi, places_get w' (by rw [h]; exact hi), h] at hne
    exact absurd rfl hne
  · have hl : (M.doAct mu x).1.slots.length = M.slots.length := by rw [h3, List.length_set]
    refine ⟨hl, 16 * mu.toNat + x.a.toNat, fun i hi hne => ?_⟩
    rw [places_get w hi, places_get w' (by rw [hl]; exact hi), h3] at hne
    have hi' : i / 16 < M.slots.length := by omega
    by_cases e : i / 16 = mu.toNat
    · by_cases e' : i % 16 = x.a.toNat
      · rw [Int.tdiv_eq_ediv_of_nonneg (by omega), Int.tmod_eq_emod_of_nonneg (by omega)]
        refine ⟨⟨by omega, by omega⟩, by omega⟩
      · refine absurd ?_ hne
        rw [e, List.getElem?_set_self (by omega), getD_of [] (show mu.toNat < M.slots.length by omega)]
        simp only [Option.bind_some]
        rw [List.getElem?_set_ne (fun h => e' h.symm)]
    · exact absurd (by rw [List.getElem?_set_ne (fun h => e h.symm)]) hne
end Go.Cs
namespace Go.Cs.Try
open Go Go.Cs
set_option maxRecDepth 100000
set_option maxHeartbeats 8000000

theorem l4_1 {o o1 o2 : Tags} {g : Nat} {b : Nat} {M : Mdl} {L : Lay} {H : CHeap} (m : MRep o g H b M L) (w : M.Ok) {od nw : List Int} {t1 t2 : Tag} {vo vn : CV} (ho : At o1 t1 H vo 1 od.length (Go.Cs.ints od)) (hn : At o2 t2 H vn 1 nw.length (Go.Cs.ints nw))
    (hol : 16 * M.slots.length ≤ od.length) (hnl : 16 * M.slots.length ≤ nw.length) {bx : Nat} {x : Stp} (hb : H[bx]? = some ⟨stpCells { x with k := 0 }, .rw, 0⟩) {p : Nat}
    (hc : ∀ i, i < 16 * M.slots.length → nw[i]? ≠ od[i]? → ((i : Int).tdiv 16 = x.mu ∧ (i : Int).tmod 16 = x.act.a) ∧ i = p)
    {E0 : Env} (h5 : E0 5 = .ptr bx 0) (h7 : E0 7 = .ptr b 0) (h8 : E0 8 = vo) (h9 : E0 9 = vn) (h10 : E0 10 = .i 0) (h11 : E0 11 = .i 0)
    {r : Option (CX × Env × CHeap)} (hr : den P (.loop C4_1) E0 H = r) :
    ∃ E' c, r = some (.exit 0, E', H) ∧ E' 10 = .i c ∧ c ≤ 1 := by
  have hns := w.ns
  have d1 := f22 m w
  simp only [stpCells] at hb
  obtain ⟨x', E', H', e, -, ⟨rfl, g1, c, g2, g3⟩, fr⟩ := loop_at (p := P) (c := C4_1) (E0 := E0) (H0 := H) (fun k E H' => H' = H ∧ ∃ (j : Nat) (c : Int), E 11 = .i j ∧ j ≤ 16 * M.slots.length ∧ k = 16 * M.slots.length - j ∧ E 10 = .i c ∧ 0 ≤ c ∧ c ≤ 1 ∧ (j ≤ p → c = 0))
    (fun x E' H' => x = .exit 0 ∧ H' = H ∧ ∃ c, E' 10 = .i c ∧ c ≤ 1) (by
      rintro k E H' hE ⟨rfl, j, c, e11, hj, rfl, e10, hc0, hc1, hcp⟩
      have e5 := (hE 5 (by decide +kernel)).trans h5
      have e7 := (hE 7 (by decide +kernel)).trans h7
      have e8 := (hE 8 (by decide +kernel)).trans h8
      have e9 := (hE 9 (by decide +kernel)).trans h9
      have hm : IntKind.i64.wrap ((M.slots.length : Int) * 16) = ((16 * M.slots.length : Nat) : Int) := by rw [wrap_id (by omega)]; omega
      by_cases cj : j < 16 * M.slots.length
      · obtain ⟨tl, q1, -, q3, q4⟩ := ho.pos (by omega)
        obtain ⟨tl', p1, -, p3, p4⟩ := hn.pos (by omega)
        have hgo : (Go.Cs.ints od)[j]? = some (.i (od.getD j 0)) := by rw [ints_get, getD_of 0 (by omega)]; rfl
        have hgn : (Go.Cs.ints nw)[j]? = some (.i (nw.getD j 0)) := by rw [ints_get, getD_of 0 (by omega)]; rfl
        have hw := wrapS j (by omega)
        rw [q1] at e8
        rw [p1] at e9
        by_cases heq : nw.getD j 0 = od.getD j 0
        · apply step_go (k' := 16 * M.slots.length - (j + 1))
          · simp (disch := first | omega | rfl | assumption | (simp only [csN, Nat.reduceAdd, Nat.reduceMul, Nat.reduceLeDiff, Nat.reduceEqDiff] <;> omega) | (simp only [csF]; done) | (simp only [csF] <;> assumption) | fail) only [Nat.reduceEqDiff, Nat.reduceAdd, Nat.reduceMul, Nat.reduceSub, Nat.reduceLeDiff, Int.reduceAdd, Int.reduceSub, Int.reduceMul, Int.reduceLT, Int.reduceLE, Int.reduceGT, Int.reduceGE, Int.reduceEq, Int.reduceBEq, Int.reduceBNe, Int.reduceNeg, Int.reduceToNat, csAll, ↓reduceIte, C4_1, e5, e7, e8, e9, e10, e11, d1, hm, q3, p3, hgo, hgn, heq, hw]
            rfl
          · omega
          · refine ⟨rfl, j + 1, c, by simp [upd_apply], by omega, rfl, by simp [upd_apply, e10], hc0, hc1, fun h => hcp (by omega)⟩
        · obtain ⟨⟨z1, z2⟩, z3⟩ := hc j cj (by rw [getD_of 0 (show j < nw.length by omega), getD_of 0 (show j < od.length by omega)]; simpa using heq)
          have hc00 := hcp (by omega)
          subst hc00
          have hwd : IntKind.i64.wrap ((j : Int).tdiv 16) = x.mu := by rw [z1]; rw [← z1, wrap_id]; rw [Int.tdiv_eq_ediv_of_nonneg (by omega)]; omega
          apply step_go (k' := 16 * M.slots.length - (j + 1))
          · simp (disch := first | omega | rfl | assumption | (simp only [csN, Nat.reduceAdd, Nat.reduceMul, Nat.reduceLeDiff, Nat.reduceEqDiff] <;> omega) | (simp only [csF]; done) | (simp only [csF] <;> assumption) | fail) only [Nat.reduceEqDiff, Nat.reduceAdd, Nat.reduceMul, Nat.reduceSub, Nat.reduceLeDiff, Int.reduceAdd, Int.reduceSub, Int.reduceMul, Int.reduceLT, Int.reduceLE, Int.reduceGT, Int.reduceGE, Int.reduceEq, Int.reduceBEq, Int.reduceBNe, Int.reduceNeg, Int.reduceToNat, csAll, ↓reduceIte, C4_1, e5, e7, e8, e9, e10, e11, d1, hm, q3, p3, hgo, hgn, heq, hw, vBin_quo, vBin_rem, hwd, z2, hb]
            rfl
          · omega
          · refine ⟨rfl, j + 1, 1, by simp [upd_apply], by omega, rfl, by simp [upd_apply], by omega, by omega, fun h => by omega⟩
      · apply step_out (x := .exit 0)
        · simp (disch := first | omega | rfl | assumption | (simp only [csN, Nat.reduceAdd, Nat.reduceMul, Nat.reduceLeDiff, Nat.reduceEqDiff] <;> omega) | (simp only [csF]; done) | (simp only [csF] <;> assumption) | fail) only [Nat.reduceEqDiff, Nat.reduceAdd, Nat.reduceMul, Nat.reduceSub, Nat.reduceLeDiff, Int.reduceAdd, Int.reduceSub, Int.reduceMul, Int.reduceLT, Int.reduceLE, Int.reduceGT, Int.reduceGE, Int.reduceEq, Int.reduceBEq, Int.reduceBNe, Int.reduceNeg, Int.reduceToNat, csAll, ↓reduceIte, C4_1, e7, e11, d1, hm]
          rfl
        · simp
        · exact ⟨rfl, rfl, c, by simp [upd_apply, e10], hc1⟩) _ ⟨rfl, 0, 0, h11, by omega, rfl, h10, by omega, by omega, fun _ => rfl⟩
  subst g1
  exact ⟨E', c, hr.symm.trans e, g2, g3⟩

theorem f4 {o : Tags} {H : CHeap} {v : CV} {l : List Stp} (hd : ∀ c t, o c = some t → c < H.length) (hg : ∀ c k, o c ≠ some (0, k)) (st : Steps o H v l) (nn : Int) (x : Stp) :
    ∃ H', run P 4 [.i nn, v, .agg (stpCells x)] H = some (.bool true, H') := by
  have frb : Frm 0 o H o (H ++ [(⟨stpCells x, .rw, 0⟩ : Blk)]) := .app hd _
  have st0 := st.frm frb
  have hd0 : ∀ c t, o c = some t → c < (H ++ [(⟨stpCells x, .rw, 0⟩ : Blk)]).length := fun c t h => by have := hd c t h; simp; omega
  by_cases hok : (1 ≤ nn ∧ nn ≤ 4) ∧ l.length ≤ 120
  case neg =>
    obtain ⟨H1, e12⟩ := f12_no (H := H ++ [(⟨stpCells x, .rw, 0⟩ : Blk)]) (n := nn) st.len (by omega)
    obtain ⟨H2, e13⟩ := f13 (H := H1)
    apply ex_run
    rw [run_lv c4]
    simp (disch := first | omega | rfl | assumption | (simp only [csN, Nat.reduceAdd, Nat.reduceMul, Nat.reduceLeDiff, Nat.reduceEqDiff] <;> omega) | (simp only [csF]; done) | (simp only [csF] <;> assumption) | fail) only [Nat.reduceEqDiff, Nat.reduceAdd, Nat.reduceMul, Nat.reduceSub, Nat.reduceLeDiff, Int.reduceAdd, Int.reduceSub, Int.reduceMul, Int.reduceLT, Int.reduceLE, Int.reduceGT, Int.reduceGE, Int.reduceEq, Int.reduceBEq, Int.reduceBNe, Int.reduceNeg, Int.reduceToNat, csAll, ↓reduceIte, C4, entry_3, e12, e13]
    rfl
  obtain ⟨hn, hl⟩ := hok
  obtain ⟨n, rfl⟩ : ∃ n : Nat, nn = (n : Int) := ⟨nn.toNat, by omega⟩
  obtain ⟨b, H1, o1, L1, e12, m, fr1⟩ := f12 (g := 0) hd0 hg (n := n) (by omega) hl st0
  obtain ⟨w, hob⟩ := madeM_ok (n := n) (by omega) l (by omega)
  obtain ⟨bx1, bo1⟩ := fr1.kept (k := ⟨stpCells x, .rw, 0⟩) (look_last rfl) (tag_none hd)
  simp only [stpCells] at bx1
  generalize hM : madeM n l = M at *
  obtain ⟨v8, H2, e20, g2, i2⟩ := f20 m w
  have m2 := m.gr g2
  have bx2 := g2.get bx1
  have hb2 := lt_of_get bx2
  -- the kind of the call is 0 now
  have hlt : H.length < H1.length := lt_of_get bx1
  have m3 : MRep o1 0 (H2.set H.length ⟨stpCells { x with k := 0 }, .rw, 0⟩) b M L1 := m2.frame (fun c t h => by simp; exact m2.dom c t h) (fun _ _ h => h) (fun c k h => look_set_ne (by rintro rfl; rw [bo1] at h; cases h))
  have i3 : IL H1.length (H2.set H.length ⟨stpCells { x with k := 0 }, .rw, 0⟩) v8 M.places := i2.frame (fun _ h => h) (fun c h => look_set_ne (by have := (Loc_some.1 h).1; omega))
  have bx3 : (H2.set H.length ⟨stpCells { x with k := 0 }, .rw, 0⟩)[H.length]? = some ⟨stpCells { x with k := 0 }, .rw, 0⟩ := by rw [List.getElem?_set_self hb2]
  obtain ⟨H4, o3, L3, e21, m4, fr4⟩ := f21 m3 w (by omega) { x with k := 0 }
  obtain ⟨bx4, bo4⟩ := fr4.kept bx3 bo1
  have hst : (M.step { x with k := 0 }).1 = (M.doAct x.mu x.act).1 := by unfold Mdl.step; rw [if_pos rfl]
  have w4 : (M.doAct x.mu x.act).1.Ok := (w.doAct (by omega)).1
  rw [hst] at m4
  obtain ⟨v9, H5, e20', g5, i5⟩ := f20 m4 w4
  obtain ⟨hsl, p, hp⟩ := Mdl.told w w4
  have bx5 := g5.get bx4
  have i4 := ((At.un' i3 m.dom).unFrm fr4).gr g5
  have h16 := flat16 (fun s hs => (w4.s16 s hs).1)
  have h16' := flat16 (fun s hs => (w.s16 s hs).1)
  obtain ⟨Hf, ef⟩ := f13 (H := H5)
  simp only [stpCells] at bx3 e21
  apply ex_run
  rw [run_lv c4]
  simp (disch := first | omega | rfl | assumption | (simp only [csN, Nat.reduceAdd, Nat.reduceMul, Nat.reduceLeDiff, Nat.reduceEqDiff] <;> omega) | (simp only [csF]; done) | (simp only [csF] <;> assumption) | fail) only [Nat.reduceEqDiff, Nat.reduceAdd, Nat.reduceMul, Nat.reduceSub, Nat.reduceLeDiff, Int.reduceAdd, Int.reduceSub, Int.reduceMul, Int.reduceLT, Int.reduceLE, Int.reduceGT, Int.reduceGE, Int.reduceEq, Int.reduceBEq, Int.reduceBNe, Int.reduceNeg, Int.reduceToNat, csAll, ↓reduceIte, C4, entry_3, e12, e20, bx1, bx2, bx3, e21, e20']
  generalize hr : den P (.loop C4_1) _ _ = r
  obtain ⟨E6, c, rfl, k1, k2⟩ := l4_1 (m4.gr g5) w4 i4 i5 (by rw [hsl]; simp only [Mdl.places, List.length_append]; omega) (by simp only [Mdl.places, List.length_append]; omega) bx5 (p := p) (by rw [hsl]; exact hp) (by simp only [upd_apply, Nat.reduceEqDiff, ↓reduceIte]) (by simp only [upd_apply, Nat.reduceEqDiff, ↓reduceIte]) (by simp only [upd_apply, Nat.reduceEqDiff, ↓reduceIte]) (by simp only [upd_apply, Nat.reduceEqDiff, ↓reduceIte]) (by simp only [upd_apply, Nat.reduceEqDiff, ↓reduceIte]) (by simp only [upd_apply, Nat.reduceEqDiff, ↓reduceIte]) hr
  simp (disch := first | omega | rfl | assumption | (simp only [csN, Nat.reduceAdd, Nat.reduceMul, Nat.reduceLeDiff, Nat.reduceEqDiff] <;> omega) | (simp only [csF]; done) | (simp only [csF] <;> assumption) | fail) only [Nat.reduceEqDiff, Nat.reduceAdd, Nat.reduceMul, Nat.reduceSub, Nat.reduceLeDiff, Int.reduceAdd, Int.reduceSub, Int.reduceMul, Int.reduceLT, Int.reduceLE, Int.reduceGT, Int.reduceGE, Int.reduceEq, Int.reduceBEq, Int.reduceBNe, Int.reduceNeg, Int.reduceToNat, csAll, ↓reduceIte, k1, ef]
  rfl
end Go.Cs.Try

/- ModelMore: its loops. -/
namespace Go.Cs.Try
open Go Go.Cs
set_option maxRecDepth 100000
section
variable {H : CHeap}

theorem l3_2 {o : Tags} {t : Tag} {v : CV} {l : List Int} {ks : List Bool} {ab : Nat} (hsz : l.length ≤ 1000000) (a : At o t H v 1 l.length (Go.Cs.ints l)) (hb : H[ab]? = some ⟨bools ks, .rw, 1⟩) (hl : ∀ u ∈ l, 0 ≤ u ∧ u.toNat < ks.length ∧ on ks u = true) (E0 : Env) :
    LoopOk P C3_2 (fun k E H' => H' = H ∧ E 18 = .slice ab 0 ks.length ks.length 1 false ∧ E 12 = v ∧ ∃ i : Nat, E 20 = .i i ∧ i ≤ l.length ∧ k = l.length - i ∧ ∀ t, t < 20 → E t = E0 t)
      (fun x E' H' => H' = H ∧ x = .exit 0 ∧ ∀ t, t < 20 → E' t = E0 t) := by
  refine loop_ind ?_
  rintro k E H' ⟨rfl, h18, h12, i, h20, hi, rfl, hE⟩
  have hlen := a.len
  by_cases c : i < l.length
  · obtain ⟨tl, d1, -, d3, d4⟩ := a.pos (by omega)
    have hg : (Go.Cs.ints l)[i]? = some (.i l[i]) := by rw [ints_get, List.getElem?_eq_getElem c]; rfl
    obtain ⟨u1, u2, u3⟩ := hl l[i] (List.getElem_mem _)
    have hk := on_get (ks := ks) (v := l[i]) u2
    rw [u3] at hk
    have hw : IntKind.i64.wrap ((i : Int) + 1) = ((i + 1 : Nat) : Int) := by rw [wrap_id (by omega)]; rfl
    have h12' := h12
    rw [d1] at h12' hlen
    apply step_go (k' := l.length - (i + 1))
    · simp (disch := first | omega | rfl | assumption | (simp only [csN, Nat.reduceAdd, Nat.reduceMul, Nat.reduceLeDiff, Nat.reduceEqDiff] <;> omega) | (simp only [csF]; done) | (simp only [csF] <;> assumption) | fail) only [Nat.reduceEqDiff, Nat.reduceAdd, Nat.reduceMul, Nat.reduceSub, Nat.reduceLeDiff, Int.reduceAdd, Int.reduceSub, Int.reduceMul, Int.reduceLT, Int.reduceLE, Int.reduceGT, Int.reduceGE, Int.reduceEq, Int.reduceBEq, Int.reduceBNe, Int.reduceNeg, Int.reduceToNat, csAll, ↓reduceIte, C3_2, h18, h12', h20, hlen, d3, hg, hb, hk, hw]
      rfl
    · omega
    · refine ⟨rfl, by simp [upd_apply, h18], by simp [upd_apply, h12], i + 1, by simp [upd_apply], by omega, rfl, fun t ht => ?_⟩
      simp only [upd_apply]
      repeat rw [if_neg (by omega)]
      exact hE t ht
  · apply step_out (x := .exit 0)
    · simp (disch := first | omega | rfl | assumption | (simp only [csN, Nat.reduceAdd, Nat.reduceMul, Nat.reduceLeDiff, Nat.reduceEqDiff] <;> omega) | (simp only [csF]; done) | (simp only [csF] <;> assumption) | fail) only [Nat.reduceEqDiff, Nat.reduceAdd, Nat.reduceMul, Nat.reduceSub, Nat.reduceLeDiff, Int.reduceAdd, Int.reduceSub, Int.reduceMul, Int.reduceLT, Int.reduceLE, Int.reduceGT, Int.reduceGE, Int.reduceEq, Int.reduceBEq, Int.reduceBNe, Int.reduceNeg, Int.reduceToNat, csAll, ↓reduceIte, C3_2, h12, h20, hlen]
      rfl
    · simp
    · refine ⟨rfl, rfl, fun t ht => ?_⟩
      simp only [upd_apply]
      repeat rw [if_neg (by omega)]
      exact hE t ht

theorem l3_1 {o : Tags} {t : Tag} {v : CV} {l : List Int} {ks : List Bool} {ab : Nat} (hsz : l.length ≤ 1000000) (a : At o t H v 1 l.length (Go.Cs.ints l)) (hb : H[ab]? = some ⟨bools ks, .rw, 1⟩) (hl : ∀ u ∈ l, 0 ≤ u ∧ u.toNat < ks.length ∧ on ks u = true) :
    LoopOk P C3_1 (fun k E H' => H' = H ∧ E 19 = .slice ab 0 ks.length ks.length 1 false ∧ E 17 = v ∧ ∃ i : Nat, E 21 = .i i ∧ i ≤ l.length ∧ k = l.length - i)
      (fun x E' H' => H' = H ∧ x = .exit 2) := by
  refine loop_ind ?_
  rintro k E H' ⟨rfl, h18, h12, i, h20, hi, rfl⟩
  have hlen := a.len
  by_cases c : i < l.length
  · obtain ⟨tl, d1, -, d3, d4⟩ := a.pos (by omega)
    have hg : (Go.Cs.ints l)[i]? = some (.i l[i]) := by rw [ints_get, List.getElem?_eq_getElem c]; rfl
    obtain ⟨u1, u2, u3⟩ := hl l[i] (List.getElem_mem _)
    have hk := on_get (ks := ks) (v := l[i]) u2
    rw [u3] at hk
    have hw : IntKind.i64.wrap ((i : Int) + 1) = ((i + 1 : Nat) : Int) := by rw [wrap_id (by omega)]; rfl
    have h12' := h12
    rw [d1] at h12' hlen
    apply step_go (k' := l.length - (i + 1))
    · simp (disch := first | omega | rfl | assumption | (simp only [csN, Nat.reduceAdd, Nat.reduceMul, Nat.reduceLeDiff, Nat.reduceEqDiff] <;> omega) | (simp only [csF]; done) | (simp only [csF] <;> assumption) | fail) only [Nat.reduceEqDiff, Nat.reduceAdd, Nat.reduceMul, Nat.reduceSub, Nat.reduceLeDiff, Int.reduceAdd, Int.reduceSub, Int.reduceMul, Int.reduceLT, Int.reduceLE, Int.reduceGT, Int.reduceGE, Int.reduceEq, Int.reduceBEq, Int.reduceBNe, Int.reduceNeg, Int.reduceToNat, csAll, ↓reduceIte, C3_1, h18, h12', h20, hlen, d3, hg, hb, hk, hw]
      rfl
    · omega
    · exact ⟨rfl, by simp [upd_apply, h18], by simp [upd_apply, h12], i + 1, by simp [upd_apply], by omega, rfl⟩
  · apply step_out (x := .exit 2)
    · simp (disch := first | omega | rfl | assumption | (simp only [csN, Nat.reduceAdd, Nat.reduceMul, Nat.reduceLeDiff, Nat.reduceEqDiff] <;> omega) | (simp only [csF]; done) | (simp only [csF] <;> assumption) | fail) only [Nat.reduceEqDiff, Nat.reduceAdd, Nat.reduceMul, Nat.reduceSub, Nat.reduceLeDiff, Int.reduceAdd, Int.reduceSub, Int.reduceMul, Int.reduceLT, Int.reduceLE, Int.reduceGT, Int.reduceGE, Int.reduceEq, Int.reduceBEq, Int.reduceBNe, Int.reduceNeg, Int.reduceToNat, csAll, ↓reduceIte, C3_1, h12, h20, hlen]
      rfl
    · simp
    · exact ⟨rfl, rfl⟩
end
end Go.Cs.Try

/- ModelMore, plainly: with more, no less is kept. -/
namespace Go.Cs
open Go
theorem mem_keptI {M : Mdl} (w : M.Ok) {v : Int} : v ∈ M.keptI ↔ Kp M v := by
  unfold Mdl.keptI idxs
  simp only [List.mem_map, List.mem_filter, List.mem_range]
  have hg : ∀ i, i < M.objs.length + 1 → (M.keptL.getD i false = true ↔ Kp M (i : Int)) := by
    intro i hi
    unfold Mdl.keptL
    rw [List.getD_eq_getElem?_getD, List.getElem?_map, List.getElem?_range hi]
    simp
  constructor
  · rintro ⟨i, ⟨h1, h2⟩, rfl⟩
    exact (hg i h1).1 h2
  · intro h
    have hh := Kp.has w h
    unfold Mdl.has at hh
    refine ⟨v.toNat, ⟨by omega, ?_⟩, by omega⟩
    rw [hg v.toNat (by omega)]
    have : ((v.toNat : Nat) : Int) = v := by omega
    rw [this]; exact h

theorem Kp.push {M : Mdl} {n v : Int} (h : Kp M v) : Kp (M.push n).1 v := by
  unfold Mdl.push
  split
  · split
    · exact h
    · induction h with
      | root h hz =>
        refine .root ?_ hz
        unfold Mdl.places at h ⊢
        simp only [List.mem_append] at h ⊢
        rcases h with (h | h) | h
        · exact .inl (.inl h)
        · exact .inl (.inr h)
        · exact .inr (.inl h)
      | strong _ h hz ih => exact .strong ih h hz
      | eph _ h1 _ hz ih ih2 => exact .eph ih h1 ih2 hz
  · exact h

theorem setObj_obj {M : Mdl} {n k : Int} (hn : M.has n) (hk : 1 ≤ k) {x : Obj} : (M.setObj n x).obj k = if k = n then x else M.obj k := by
  unfold Mdl.has at hn
  unfold Mdl.setObj Mdl.obj
  simp only [List.getD_eq_getElem?_getD]
  by_cases h : k = n
  · subst h
    rw [if_pos rfl, List.getElem?_set_self (by omega)]; rfl
  · rw [if_neg h, List.getElem?_set_ne (by omega)]

theorem Kp.setRef {M : Mdl} (w : M.Ok) {n i to v : Int} (hn : M.has n) (hk : (M.obj n).kd = 0) (hz : elAt (M.obj n).refs i = (0, 0)) (h : Kp M v) : Kp (M.setRef n i to).1 v := by
  have hi : 0 ≤ i ∧ i < ((M.obj n).refs.length : Int) ∧ (M.obj n).refs.getD i.toNat 0 = 0 := by
    unfold elAt at hz
    split at hz
    · rename_i h
      simp only [Prod.mk.injEq] at hz
      exact ⟨h.1, h.2, hz.1⟩
    · simp at hz
  unfold Mdl.setRef
  rw [if_pos hn]
  split
  · dsimp only
    induction h with
    | root h hz => exact .root h hz
    | @strong k u h hu hz ih =>
      have hh := Kp.has w h
      have hob := setObj_obj (M := M) (k := k) hn hh.1 (x := { M.obj n with refs := (M.obj n).refs.set i.toNat to })
      refine .strong ih ?_ hz
      rw [hob]
      by_cases e : k = n
      · subst e
        rw [if_pos rfl]
        show u ∈ ((M.obj k).refs.set i.toNat to).drop (soft (M.obj k).kd)
        have hs : soft (M.obj k).kd = 0 := by unfold soft; rw [hk]; rfl
        rw [hs] at hu ⊢
        simp only [List.drop_zero] at hu ⊢
        obtain ⟨j, hj, rfl⟩ := List.mem_iff_getElem.1 hu
        have hne : j ≠ i.toNat := by
          rintro rfl
          apply hz
          have := hi.2.2
          rw [List.getD_eq_getElem?_getD, List.getElem?_eq_getElem hj] at this
          exact this
        refine List.mem_iff_getElem.2 ⟨j, by simpa using hj, ?_⟩
        rw [List.getElem_set_ne (Ne.symm hne)]
      · rw [if_neg e]; exact hu
    | @eph k h h1 _ hz ih ih2 =>
      have hh := Kp.has w h
      have hob := setObj_obj (M := M) (k := k) hn hh.1 (x := { M.obj n with refs := (M.obj n).refs.set i.toNat to })
      have hne : k ≠ n := by rintro rfl; rw [hk] at h1; omega
      rw [if_neg hne] at hob
      have := Kp.eph (M := M.setObj n { M.obj n with refs := (M.obj n).refs.set i.toNat to }) ih (by rw [hob]; exact h1) (by rw [hob]; exact ih2) (by rw [hob]; exact hz)
      rw [hob] at this
      exact this
  · exact h
end Go.Cs

/- ModelNever: the walk. -/
namespace Go.Cs
open Go
/-- Of an object: its shape is as it was. -/
def sameS (x y : Obj) : Prop := y.nr = x.nr ∧ y.nd = x.nd ∧ y.kd = x.kd
theorem Mdl.obj_app {M : Mdl} {n : Int} (hn : M.has n) {y : Obj} : ({ M with objs := M.objs ++ [y] } : Mdl).obj n = M.obj n := by
  unfold Mdl.has at hn
  unfold Mdl.obj
  simp only [List.getD_eq_getElem?_getD]
  rw [List.getElem?_append_left (by omega)]
theorem coll_same {M : Mdl} (w : M.Ok) {ks : List Bool} : ∀ {i : Nat}, i ≤ M.objs.length → ∀ n, M.has n → sameS (M.obj n) ((M.coll ks i).1.obj n)
  | 0, _, n, _ => ⟨rfl, rfl, rfl⟩
  | i + 1, hi, n, hn => by
    have ih := coll_same w (ks := ks) (i := i) (by omega) n hn
    obtain ⟨h1, h2⟩ := Mdl.coll_ok w (ks := ks) (i := i) (by omega)
    unfold Mdl.coll
    split
    · rename_i x e
      have hh : (M.coll ks i).1.has ((i + 1 : Nat) : Int) := by unfold Mdl.has; omega
      have hc := cObj_ok (h1.obj hh) e
      rw [setObj_obj hh hn.1]
      split
      · rename_i e'; subst e'; exact ⟨hc.2.1.trans ih.1, hc.2.2.1.trans ih.2.1, hc.2.2.2.1.trans ih.2.2⟩
      · exact ih
    · exact ih
/-- The object that a call names. -/
def ofS (M : Mdl) (x : Stp) : Int := if x.k = 4 then x.a else if x.k = 0 ∧ x.act.k ≠ 6 then (M.slotAt x.mu x.act.a).1 else 0
theorem eff_never {M : Mdl} (w : M.Ok) {mu : Int} {x : Act} {n : Int} (hn : M.has n) : sameS (M.obj n) ((M.doAct mu x).1.obj n) ∧ ((M.doAct mu x).1.obj n ≠ M.obj n → x.k ≠ 6 ∧ n = (M.slotAt mu x.a).1) := by
  by_cases h : M.errOf mu x = 0
  · obtain ⟨⟨h1, h2, h12⟩, ⟨h3, h3'⟩, hv, hz, hi⟩ := Mdl.errOf_0 h
    have hd : (M.doAct mu x).1 = (M.eff mu.toNat (M.slots.getD mu.toNat []) x).1 := by unfold Mdl.doAct; rw [if_pos h]
    have hs : (M.slotAt mu x.a).1 = (M.slots.getD mu.toNat []).getD x.a.toNat 0 := by unfold Mdl.slotAt; rw [if_pos ⟨h1, h2, h3⟩]
    rw [hd, hs]
    have same : ∀ M' : Mdl, M'.objs = M.objs → sameS (M.obj n) (M'.obj n) ∧ (M'.obj n ≠ M.obj n → x.k ≠ 6 ∧ n = (M.slots.getD mu.toNat []).getD x.a.toNat 0) := fun M' e => by
      have : M'.obj n = M.obj n := by unfold Mdl.obj; rw [e]
      rw [this]; exact ⟨⟨rfl, rfl, rfl⟩, fun h => absurd rfl h⟩
    have hs' := getD_of (l := M.slots) (i := mu.toNat) [] (by omega)
    have sh : ∀ y, sameS (M.obj ((M.slots.getD mu.toNat []).getD x.a.toNat 0)) y → (M.slots.getD mu.toNat []).getD x.a.toNat 0 ≠ 0 → x.k ≠ 6 → sameS (M.obj n) ((M.setObj ((M.slots.getD mu.toNat []).getD x.a.toNat 0) y).obj n) ∧ ((M.setObj ((M.slots.getD mu.toNat []).getD x.a.toNat 0) y).obj n ≠ M.obj n → x.k ≠ 6 ∧ n = (M.slots.getD mu.toNat []).getD x.a.toNat 0) := fun y hy hz hk6 => by
      have hh := slotHas w hs' h3 hz
      rw [setObj_obj hh hn.1]
      split
      · rename_i e; rw [e]; exact ⟨hy, fun _ => ⟨hk6, rfl⟩⟩
      · exact ⟨⟨rfl, rfl, rfl⟩, fun h => absurd rfl h⟩
    rcases k12 h12 with e | e | e | e | e | e | e | e | e | e | e | e <;> simp only [Mdl.eff, e, Int.reduceEq, ↓reduceIte]
    · have : (({ M with objs := M.objs ++ [bornObj x] } : Mdl).setSlot mu.toNat (M.slots.getD mu.toNat []) x.a (M.objs.length + 1)).obj n = M.obj n := Mdl.obj_app hn
      rw [this]; exact ⟨⟨rfl, rfl, rfl⟩, fun h => absurd rfl h⟩
    · have := same (M.setSlot mu.toNat (M.slots.getD mu.toNat []) x.a ((M.obj ((M.slots.getD mu.toNat []).getD x.b.toNat 0)).refs.getD x.i.toNat 0)) rfl
      simpa [e] using this
    · have := sh { M.obj ((M.slots.getD mu.toNat []).getD x.a.toNat 0) with refs := (M.obj ((M.slots.getD mu.toNat []).getD x.a.toNat 0)).refs.set x.i.toNat ((M.slots.getD mu.toNat []).getD x.b.toNat 0) } ⟨rfl, rfl, rfl⟩ (by
        have h5 := hz
        have hwn : wNeed x = x.a := by unfold wNeed; rw [if_neg (by omega), if_pos (by omega)]
        rw [hwn] at h5
        exact h5 h3.1) (by omega)
      simpa [e] using this
    · have := sh { M.obj ((M.slots.getD mu.toNat []).getD x.a.toNat 0) with data := (M.obj ((M.slots.getD mu.toNat []).getD x.a.toNat 0)).data.set x.i.toNat x.n } ⟨rfl, rfl, rfl⟩ (by
        have h5 := hz
        have hwn : wNeed x = x.a := by unfold wNeed; rw [if_neg (by omega), if_pos (by omega)]
        rw [hwn] at h5
        exact h5 h3.1) (by omega)
      simpa [e] using this
    all_goals first
      | exact ⟨⟨rfl, rfl, rfl⟩, fun h => absurd rfl h⟩
      | (refine ⟨⟨rfl, rfl, rfl⟩, fun h => absurd ?_ h⟩; rfl)
  · have : (M.doAct mu x).1 = M := by unfold Mdl.doAct; rw [if_neg h]
    rw [this]; exact ⟨⟨rfl, rfl, rfl⟩, fun h => absurd rfl h⟩
theorem Mdl.never {M : Mdl} (w : M.Ok) {x : Stp} {n : Int} (hn : M.has n) : sameS (M.obj n) ((M.step x).1.obj n) ∧ (x.k ≠ 1 → (M.step x).1.obj n ≠ M.obj n → n = ofS M x) := by
  have same : ∀ M' : Mdl, M'.objs = M.objs → sameS (M.obj n) (M'.obj n) ∧ (x.k ≠ 1 → M'.obj n ≠ M.obj n → n = ofS M x) := fun M' e => by
    have : M'.obj n = M.obj n := by unfold Mdl.obj; rw [e]
    rw [this]; exact ⟨⟨rfl, rfl, rfl⟩, fun _ h => absurd rfl h⟩
  unfold Mdl.step
  by_cases c : x.k = 0
  · rw [if_pos c]
    obtain ⟨h1, h2⟩ := eff_never w (mu := x.mu) (x := x.act) hn
    refine ⟨h1, fun _ h => ?_⟩
    obtain ⟨e1, e2⟩ := h2 h
    unfold ofS
    rw [if_neg (by omega), if_pos ⟨c, e1⟩]; exact e2
  rw [if_neg c]
  by_cases c1 : x.k = 1
  · rw [if_pos c1]
    exact ⟨coll_same w (Nat.le_refl _) n hn, fun h => absurd c1 h⟩
  rw [if_neg c1]
  by_cases c2 : x.k = 2
  · rw [if_pos c2]
    refine same _ ?_
    unfold Mdl.push
    split
    · split <;> rfl
    · rfl
  rw [if_neg c2]
  by_cases c3 : x.k = 3
  · rw [if_pos c3]
    refine same _ ?_
    unfold Mdl.pop
    split <;> rfl
  rw [if_neg c3]
  by_cases c4 : x.k = 4
  · rw [if_pos c4]
    unfold Mdl.setRef
    split
    · rename_i hh
      split
      · dsimp only
        rw [setObj_obj hh hn.1]
        split
        · rename_i e; rw [e]
          exact ⟨⟨rfl, rfl, rfl⟩, fun _ _ => by unfold ofS; rw [if_pos c4]⟩
        · exact ⟨⟨rfl, rfl, rfl⟩, fun _ h => absurd rfl h⟩
      · exact ⟨⟨rfl, rfl, rfl⟩, fun _ h => absurd rfl h⟩
    · exact ⟨⟨rfl, rfl, rfl⟩, fun _ h => absurd rfl h⟩
  rw [if_neg c4]
  exact ⟨⟨rfl, rfl, rfl⟩, fun _ h => absurd rfl h⟩
theorem content_ne {x y : Obj} (h : x.content ≠ y.content) : x ≠ y := fun e => h (by rw [e])
theorem content_len {n m : Nat} {x y : Obj} (hx : x.Ok n) (hy : y.Ok m) (h : sameS x y) : y.content.length = x.content.length := by
  have h1 := hx.nr
  have h2 := hx.nd
  have h3 := hy.nr
  have h4 := hy.nd
  obtain ⟨e1, e2, -⟩ := h
  simp only [Obj.content, List.length_append, List.length_cons, List.length_nil]
  rw [e1] at h3; rw [e2] at h4; omega
theorem content_ints (x : Obj) : ints x.content = .i x.nr :: .i x.nd :: .i x.kd :: ints (x.refs ++ x.data) := by simp [Obj.content, ints]
end Go.Cs

/- ModelNever: the walk. -/
namespace Go.Cs.Try
open Go Go.Cs
set_option maxRecDepth 100000
set_option maxHeartbeats 8000000

theorem l5_2 {o : Tags} {g : Nat} {b : Nat} {M : Mdl} {L : Lay} {H : CHeap} (m : MRep o g H b M L) (w : M.Ok) (hf : M.objs.length ≤ 1000)
    {E0 : Env} (h7 : E0 7 = .ptr b 0) (h8 : E0 8 = .i M.objs.length) (h9 : E0 9 = .nilSlice) (h10 : E0 10 = .i 1)
    {r : Option (CX × Env × CHeap)} (hr : den P (.loop C5_2) E0 H = r) :
    ∃ E' H', r = some (.exit 0, E', H') ∧ Gr H H' ∧ LL H.length H' (E' 9) (M.objs.map Obj.content) ∧ ∀ t, t ∉ wr C5_2 → E' t = E0 t := by
  obtain ⟨x', E', H', e, -, ⟨rfl, g1, g2⟩, fr⟩ := loop_at (p := P) (c := C5_2) (E0 := E0) (H0 := H) (fun k E H' => ∃ j : Nat, E 10 = .i ((j + 1 : Nat) : Int) ∧ j ≤ M.objs.length ∧ k = M.objs.length - j ∧ Gr H H' ∧ LL H.length H' (E 9) ((M.objs.take j).map Obj.content))
    (fun x E' H' => x = .exit 0 ∧ Gr H H' ∧ LL H.length H' (E' 9) (M.objs.map Obj.content)) (by
      rintro k E H' hE ⟨j, e10, hj, rfl, gr, hl⟩
      have e7 := (hE 7 (by decide +kernel)).trans h7
      have e8 := (hE 8 (by decide +kernel)).trans h8
      by_cases c : j < M.objs.length
      · have hh : M.has ((j + 1 : Nat) : Int) := by unfold Mdl.has; omega
        obtain ⟨vc, Hc, d2, gc, ic⟩ := f24 (m.gr gr) w hh
        have hcl : H'.length < Hc.length := by
          obtain ⟨tl, q1, q2, q3, -⟩ := ic.pos (by simp [Obj.content])
          have := (Loc_some.1 q2).1
          have := lt_of_get q3
          omega
        obtain ⟨v', H2, a1, a2, a3, a4⟩ := hl.push gr.len gc hcl ic (by simp; omega)
        have hlf := ic.leaf
        have hw := wrapS (j + 1) (by omega)
        generalize he9 : E 9 = v9 at *
        apply step_go (k' := M.objs.length - (j + 1))
        · simp (disch := first | omega | rfl | assumption | (simp only [csN, Nat.reduceAdd, Nat.reduceMul, Nat.reduceLeDiff, Nat.reduceEqDiff] <;> omega) | (simp only [csF]; done) | (simp only [csF] <;> assumption) | fail) only [Nat.reduceEqDiff, Nat.reduceAdd, Nat.reduceMul, Nat.reduceSub, Nat.reduceLeDiff, Int.reduceAdd, Int.reduceSub, Int.reduceMul, Int.reduceLT, Int.reduceLE, Int.reduceGT, Int.reduceGE, Int.reduceEq, Int.reduceBEq, Int.reduceBNe, Int.reduceNeg, Int.reduceToNat, csAll, ↓reduceIte, C5_2, e7, e8, e10, d2, he9, a1, hw]
          rfl
        · omega
        · refine ⟨j + 1, by simp [upd_apply], by omega, rfl, gr.low' a3 a4, ?_⟩
          rw [take_snoc (Mdl.obj_at c), List.map_append]
          simpa [upd_apply] using a2
      · apply step_out (x := .exit 0)
        · simp (disch := first | omega | rfl | assumption | (simp only [csN, Nat.reduceAdd, Nat.reduceMul, Nat.reduceLeDiff, Nat.reduceEqDiff] <;> omega) | (simp only [csF]; done) | (simp only [csF] <;> assumption) | fail) only [Nat.reduceEqDiff, Nat.reduceAdd, Nat.reduceMul, Nat.reduceSub, Nat.reduceLeDiff, Int.reduceAdd, Int.reduceSub, Int.reduceMul, Int.reduceLT, Int.reduceLE, Int.reduceGT, Int.reduceGE, Int.reduceEq, Int.reduceBEq, Int.reduceBNe, Int.reduceNeg, Int.reduceToNat, csAll, ↓reduceIte, C5_2, e8, e10]
          rfl
        · simp
        · rw [take_all (by omega)] at hl
          exact ⟨rfl, gr, by simpa [upd_apply] using hl⟩) M.objs.length ⟨0, h10, by omega, rfl, .refl H, by rw [h9]; exact LL.nil⟩
  exact ⟨E', H', hr.symm.trans e, g1, g2, fr⟩

theorem l5_1 {o : Tags} {g : Nat} {b : Nat} {M M' : Mdl} {L : Lay} {H : CHeap} (m : MRep o g H b M' L) (w : M.Ok) (w' : M'.Ok) (hf : M.objs.length ≤ 1000) (hle : M.objs.length ≤ M'.objs.length) {x : Stp} {k0 : Nat} {vo : CV} (ll : LL k0 H vo (M.objs.map Obj.content))
    (hs : ∀ n, M.has n → sameS (M.obj n) (M'.obj n) ∧ (x.k ≠ 1 → M'.obj n ≠ M.obj n → n = ofS M x))
    {bx : Nat} (hb : H[bx]? = some ⟨stpCells x, .rw, 0⟩)
    {E0 : Env} (h5 : E0 5 = .ptr bx 0) (h7 : E0 7 = .ptr b 0) (h8 : E0 8 = .i M.objs.length) (h9 : E0 9 = vo) (h11 : E0 11 = .i 0) (h12 : E0 12 = .i (ofS M x)) (h13 : E0 13 = .i 1)
    {r : Option (CX × Env × CHeap)} (hr : den P (.loop C5_1) E0 H = r) :
    ∃ E' H' c, r = some (.exit 2, E', H') ∧ Gr H H' ∧ E' 11 = .i c ∧ (x.k ≠ 1 → c ≤ 1) ∧ ∀ t, t ∉ wr C5_1 → E' t = E0 t := by
  simp only [stpCells] at hb
  obtain ⟨x', E', H', e, -, ⟨rfl, g1, c, g2, g3⟩, fr⟩ := loop_at (p := P) (c := C5_1) (E0 := E0) (H0 := H) (fun k E H' => ∃ (j : Nat) (c : Int), E 13 = .i ((j + 1 : Nat) : Int) ∧ j ≤ M.objs.length ∧ k = M.objs.length - j ∧ Gr H H' ∧ E 11 = .i c ∧ 0 ≤ c ∧ c ≤ j ∧ (x.k ≠ 1 → c ≤ 1 ∧ ((j : Int) < ofS M x → c = 0)))
    (fun x' E' H' => x' = .exit 2 ∧ Gr H H' ∧ ∃ c, E' 11 = .i c ∧ (x.k ≠ 1 → c ≤ 1)) (by
      rintro k E H' hE ⟨j, c, e13, hj, rfl, gr, e11, hc0, hcj, hck⟩
      have e5 := (hE 5 (by decide +kernel)).trans h5
      have e7 := (hE 7 (by decide +kernel)).trans h7
      have e8 := (hE 8 (by decide +kernel)).trans h8
      have e9 := (hE 9 (by decide +kernel)).trans h9
      have e12 := (hE 12 (by decide +kernel)).trans h12
      by_cases cj : j < M.objs.length
      · have hh : M.has ((j + 1 : Nat) : Int) := by unfold Mdl.has; omega
        have hh' : M'.has ((j + 1 : Nat) : Int) := by unfold Mdl.has; omega
        obtain ⟨vc, Hc, d2, gc, ic⟩ := f24 (m.gr gr) w' hh'
        obtain ⟨vb, vs, l1, l2, l3, l4⟩ := (ll.gr gr).gr gc
        obtain ⟨u, bi, u1, -, -, -, u5⟩ := l4 j _ (by rw [List.getElem?_map, Mdl.obj_at cj]; rfl)
        obtain ⟨s1, s2⟩ := hs _ hh
        have bxc := gc.get (gr.get hb)
        have hclen := content_len (w.obj hh) (w'.obj hh') s1
        have e26 := f26 ic u5 (by have := (w'.obj hh').clen; omega)
        have hj1 : IntKind.i64.wrap (((j + 1 : Nat) : Int) - 1) = (j : Int) := by rw [wrap_id (by omega)]; omega
        have hw := wrapS (j + 1) (by omega)
        have hc3 : 3 ≤ (M.obj ((j + 1 : Nat) : Int)).content.length := by simp only [Obj.content, List.length_append, List.length_cons, List.length_nil]; omega
        obtain ⟨tlo, p1, -, p3, -⟩ := l2.pos (by simp; omega)
        rw [p1] at e9
        simp only [List.length_map] at e9 p3
        obtain ⟨tli, q1, -, q3, -⟩ := u5.pos (by simp [Obj.content])
        obtain ⟨tlc, r1, -, r3, -⟩ := ic.pos (by simp [Obj.content])
        rw [hclen] at r1
        rw [content_ints] at q3 r3
        rw [s1.1, s1.2.2] at r3
        rw [q1] at u1 e26
        rw [r1] at d2 e26
        by_cases heq : (M'.obj ((j + 1 : Nat) : Int)).content = (M.obj ((j + 1 : Nat) : Int)).content
        · have hd : decide ((M'.obj ((j + 1 : Nat) : Int)).content = (M.obj ((j + 1 : Nat) : Int)).content) = true := decide_eq_true heq
          rw [hd] at e26
          apply step_go (k' := M.objs.length - (j + 1))
          · simp (disch := first | omega | rfl | assumption | (simp only [csN, Nat.reduceAdd, Nat.reduceMul, Nat.reduceLeDiff, Nat.reduceEqDiff] <;> omega) | (simp only [csF]; done) | (simp only [csF] <;> assumption) | fail) only [Nat.reduceEqDiff, Nat.reduceAdd, Nat.reduceMul, Nat.reduceSub, Nat.reduceLeDiff, Int.reduceAdd, Int.reduceSub, Int.reduceMul, Int.reduceLT, Int.reduceLE, Int.reduceGT, Int.reduceGE, Int.reduceEq, Int.reduceBEq, Int.reduceBNe, Int.reduceNeg, Int.reduceToNat, csAll, ↓reduceIte, C5_1, e5, e7, e8, e9, e11, e12, e13, d2, hj1, p3, u1, q3, r3, e26, hw]
            rfl
          · omega
          · refine ⟨j + 1, c, by simp [upd_apply], by omega, rfl, gr.trans gc, by simp [upd_apply, e11], hc0, by omega, fun h => ⟨(hck h).1, fun h' => (hck h).2 (by omega)⟩⟩
        · have hd : decide ((M'.obj ((j + 1 : Nat) : Int)).content = (M.obj ((j + 1 : Nat) : Int)).content) = false := decide_eq_false heq
          rw [hd] at e26
          have hwc : IntKind.i64.wrap (c + 1) = c + 1 := wrap_id (by omega)
          by_cases hk1 : x.k = 1
          · apply step_go (k' := M.objs.length - (j + 1))
            · simp (disch := first | omega | rfl | assumption | (simp only [csN, Nat.reduceAdd, Nat.reduceMul, Nat.reduceLeDiff, Nat.reduceEqDiff] <;> omega) | (simp only [csF]; done) | (simp only [csF] <;> assumption) | fail) only [Nat.reduceEqDiff, Nat.reduceAdd, Nat.reduceMul, Nat.reduceSub, Nat.reduceLeDiff, Int.reduceAdd, Int.reduceSub, Int.reduceMul, Int.reduceLT, Int.reduceLE, Int.reduceGT, Int.reduceGE, Int.reduceEq, Int.reduceBEq, Int.reduceBNe, Int.reduceNeg, Int.reduceToNat, csAll, ↓reduceIte, C5_1, e5, e7, e8, e9, e11, e12, e13, d2, hj1, p3, u1, q3, r3, e26, hw, hwc, bxc, hk1]
              rfl
            · omega
            · refine ⟨j + 1, c + 1, by simp [upd_apply], by omega, rfl, gr.trans gc, by simp [upd_apply], by omega, by omega, fun h => absurd hk1 h⟩
          · have hof := s2 hk1 (content_ne heq)
            have hc00 := (hck hk1).2 (by omega)
            subst hc00
            have hof' : ((j + 1 : Nat) : Int) = ofS M x := hof
            apply step_go (k' := M.objs.length - (j + 1))
            · simp (disch := first | omega | rfl | assumption | (simp only [csN, Nat.reduceAdd, Nat.reduceMul, Nat.reduceLeDiff, Nat.reduceEqDiff] <;> omega) | (simp only [csF]; done) | (simp only [csF] <;> assumption) | fail) only [Nat.reduceEqDiff, Nat.reduceAdd, Nat.reduceMul, Nat.reduceSub, Nat.reduceLeDiff, Int.reduceAdd, Int.reduceSub, Int.reduceMul, Int.reduceLT, Int.reduceLE, Int.reduceGT, Int.reduceGE, Int.reduceEq, Int.reduceBEq, Int.reduceBNe, Int.reduceNeg, Int.reduceToNat, csAll, ↓reduceIte, C5_1, e5, e7, e8, e9, e11, e12, e13, d2, hj1, p3, u1, q3, r3, e26, hw, hwc, bxc, hk1]
              rfl
            · omega
            · refine ⟨j + 1, 1, by simp [upd_apply], by omega, rfl, gr.trans gc, by simp [upd_apply], by omega, by omega, fun h => ⟨by omega, fun h' => by omega⟩⟩
      · apply step_out (x := .exit 2)
        · simp (disch := first | omega | rfl | assumption | (simp only [csN, Nat.reduceAdd, Nat.reduceMul, Nat.reduceLeDiff, Nat.reduceEqDiff] <;> omega) | (simp only [csF]; done) | (simp only [csF] <;> assumption) | fail) only [Nat.reduceEqDiff, Nat.reduceAdd, Nat.reduceMul, Nat.reduceSub, Nat.reduceLeDiff, Int.reduceAdd, Int.reduceSub, Int.reduceMul, Int.reduceLT, Int.reduceLE, Int.reduceGT, Int.reduceGE, Int.reduceEq, Int.reduceBEq, Int.reduceBNe, Int.reduceNeg, Int.reduceToNat, csAll, ↓reduceIte, C5_1, e8, e13]
          rfl
        · simp
        · exact ⟨rfl, gr, c, by simp [upd_apply, e11], fun h => (hck h).1⟩) M.objs.length ⟨0, 0, h13, by omega, rfl, .refl H, h11, by omega, by omega, fun _ => ⟨by omega, fun _ => rfl⟩⟩
  exact ⟨E', H', c, hr.symm.trans e, g1, g2, g3, fr⟩

/-- What stands behind the loop. -/
def C5tail : CCode := .seq (.region [⟨some 122, none, .mov (.tmp 7)⟩, ⟨some 123, none, .call 23 [(.tmp 122)]⟩, ⟨some 124, none, .mov (.tmp 8)⟩, ⟨some 125, none, .bin .geq (.tmp 123) (.tmp 124)⟩, ⟨some 126, none, .mov (.tmp 125)⟩, ⟨some 127, some (126, true), .mov (.tmp 7)⟩, ⟨some 128, some (126, true), .call 23 [(.tmp 127)]⟩, ⟨some 129, some (126, true), .mov (.tmp 8)⟩, ⟨some 130, some (126, true), .bin .add (.tmp 129) (.const (.int .i64 1))⟩, ⟨some 131, some (126, true), .bin .leq (.tmp 128) (.tmp 130)⟩, ⟨some 132, none, .pick (.tmp 126) (.tmp 131) (.const (.bool false))⟩, ⟨some 133, none, .mov (.tmp 132)⟩, ⟨some 134, some (133, true), .field 0 (.tmp 5)⟩, ⟨some 135, some (133, true), .load false 1 (.tmp 134)⟩, ⟨some 136, some (133, true), .bin .eql (.tmp 135) (.const (.int .i64 1))⟩, ⟨some 137, some (133, true), .mov (.tmp 136)⟩, ⟨some 138, some (137, false), .mov (.tmp 11)⟩, ⟨some 139, some (137, false), .bin .leq (.tmp 138) (.const (.int .i64 1))⟩, ⟨some 140, some (133, true), .pick (.tmp 137) (.const (.bool true)) (.tmp 139)⟩, ⟨some 141, none, .pick (.tmp 133) (.tmp 140) (.const (.bool false))⟩, ⟨some 142, none, .mov (.tmp 141)⟩, ⟨some 143, some (142, true), .call 13 []⟩, ⟨some 144, none, .pick (.tmp 142) (.tmp 143) (.const (.bool false))⟩, ⟨some 6, none, .mov (.tmp 144)⟩])
  .ret

theorem f5 {o : Tags} {H : CHeap} {v : CV} {l : List Stp} (hd : ∀ c t, o c = some t → c < H.length) (hg : ∀ c k, o c ≠ some (0, k)) (st : Steps o H v l) (nn : Int) (x : Stp) :
    ∃ H', run P 5 [.i nn, v, .agg (stpCells x)] H = some (.bool true, H') := by
  have frb : Frm 0 o H o (H ++ [(⟨stpCells x, .rw, 0⟩ : Blk)]) := .app hd _
  have st0 := st.frm frb
  have hd0 : ∀ c t, o c = some t → c < (H ++ [(⟨stpCells x, .rw, 0⟩ : Blk)]).length := fun c t h => by have := hd c t h; simp; omega
  by_cases hok : (1 ≤ nn ∧ nn ≤ 4) ∧ l.length ≤ 120
  case neg =>
    obtain ⟨H1, e12⟩ := f12_no (H := H ++ [(⟨stpCells x, .rw, 0⟩ : Blk)]) (n := nn) st.len (by omega)
    obtain ⟨H2, e13⟩ := f13 (H := H1)
    apply ex_run
    rw [run_lv c5]
    simp (disch := first | omega | rfl | assumption | (simp only [csN, Nat.reduceAdd, Nat.reduceMul, Nat.reduceLeDiff, Nat.reduceEqDiff] <;> omega) | (simp only [csF]; done) | (simp only [csF] <;> assumption) | fail) only [Nat.reduceEqDiff, Nat.reduceAdd, Nat.reduceMul, Nat.reduceSub, Nat.reduceLeDiff, Int.reduceAdd, Int.reduceSub, Int.reduceMul, Int.reduceLT, Int.reduceLE, Int.reduceGT, Int.reduceGE, Int.reduceEq, Int.reduceBEq, Int.reduceBNe, Int.reduceNeg, Int.reduceToNat, csAll, ↓reduceIte, C5, entry_3, e12, e13]
    rfl
  obtain ⟨hn, hl⟩ := hok
  obtain ⟨n, rfl⟩ : ∃ n : Nat, nn = (n : Int) := ⟨nn.toNat, by omega⟩
  obtain ⟨b, H1, o1, L1, e12, m, fr1⟩ := f12 (g := 0) hd0 hg (n := n) (by omega) hl st0
  obtain ⟨w, hob⟩ := madeM_ok (n := n) (by omega) l (by omega)
  obtain ⟨bx1, bo1⟩ := fr1.kept (k := ⟨stpCells x, .rw, 0⟩) (look_last rfl) (tag_none hd)
  generalize hM : madeM n l = M at *
  have e23 := f23 m w
  rw [run_lv c5]
  simp (disch := first | omega | rfl | assumption | (simp only [csN, Nat.reduceAdd, Nat.reduceMul, Nat.reduceLeDiff, Nat.reduceEqDiff] <;> omega) | (simp only [csF]; done) | (simp only [csF] <;> assumption) | fail) only [Nat.reduceEqDiff, Nat.reduceAdd, Nat.reduceMul, Nat.reduceSub, Nat.reduceLeDiff, Int.reduceAdd, Int.reduceSub, Int.reduceMul, Int.reduceLT, Int.reduceLE, Int.reduceGT, Int.reduceGE, Int.reduceEq, Int.reduceBEq, Int.reduceBNe, Int.reduceNeg, Int.reduceToNat, csAll, ↓reduceIte, C5, entry_3, e12, e23]
  generalize hr : den P (.loop C5_2) _ _ = r
  obtain ⟨E2, H2, rfl, g2, ll2, k2⟩ := l5_2 m w (by omega) (by simp only [upd_apply, Nat.reduceEqDiff, ↓reduceIte]) (by simp only [upd_apply, Nat.reduceEqDiff, ↓reduceIte]) (by simp only [upd_apply, Nat.reduceEqDiff, ↓reduceIte]) (by simp only [upd_apply, Nat.reduceEqDiff, ↓reduceIte]) hr
  have m2 := m.gr g2
  have bx2 := g2.get bx1
  have k5 := k2 5 (by decide +kernel)
  have k7 := k2 7 (by decide +kernel)
  have k8 := k2 8 (by decide +kernel)
  simp only [upd_apply, Nat.reduceEqDiff, ↓reduceIte] at k5 k7 k8
  obtain ⟨H3, o3, L3, e21, m3, fr3⟩ := f21 m2 w (by omega) x
  obtain ⟨w3, hle3, hle3'⟩ := w.step (x := x) (by omega)
  obtain ⟨bx3, bo3⟩ := fr3.kept bx2 bo1
  have ll3 := ll2.frm m.dom fr3
  have e25 := f25 m2 w x.mu x.act.a
  simp only [pair2] at e25
  have bx2' := bx2
  simp only [stpCells] at bx2' e21
  have tail : ∀ (a : Int), ofS M x = a → ∀ E3 : Env, E3 5 = .ptr H.length 0 → E3 7 = .ptr b 0 → E3 8 = .i M.objs.length → E3 9 = E2 9 → E3 12 = .i a → E3 11 = .i 0 →
      ∃ Hf, lv [CRes.tmp 6] (sq (blk 2 (den P (.loop C5_1) (E3.upd 13 (.i 1)) H3)) (fun E H => den P C5tail E H) ⟨⟩) = some (.bool true, Hf) := by
    rintro a rfl E3 t5 t7 t8 t9 t12 t11
    generalize hr : den P (.loop C5_1) _ _ = r
    obtain ⟨E4, H4, c, rfl, g4, i4, c4, k4⟩ := l5_1 (x := x) m3 w w3 (by omega) hle3 ll3 (fun n hn => Mdl.never w hn) bx3 (by simp only [upd_apply, Nat.reduceEqDiff, ↓reduceIte, t5]) (by simp only [upd_apply, Nat.reduceEqDiff, ↓reduceIte, t7]) (by simp only [upd_apply, Nat.reduceEqDiff, ↓reduceIte, t8]) (by simp only [upd_apply, Nat.reduceEqDiff, ↓reduceIte, t9]) (by simp only [upd_apply, Nat.reduceEqDiff, ↓reduceIte, t11]) (by simp only [upd_apply, Nat.reduceEqDiff, ↓reduceIte, t12]) (by simp only [upd_apply, Nat.reduceEqDiff, ↓reduceIte]) hr
    have j5 := k4 5 (by decide +kernel)
    have j7 := k4 7 (by decide +kernel)
    have j8 := k4 8 (by decide +kernel)
    simp only [upd_apply, Nat.reduceEqDiff, ↓reduceIte, t5, t7, t8] at j5 j7 j8
    have e23' := f23 (m3.gr g4) w3
    have bx4 := g4.get bx3
    simp only [stpCells] at bx4
    obtain ⟨Hf, ef⟩ := f13 (H := H4)
    have hwp : IntKind.i64.wrap ((M.objs.length : Int) + 1) = (M.objs.length : Int) + 1 := wrap_id (by omega)
    apply ex_run
    by_cases hk1 : x.k = 1
    · simp (disch := first | omega | rfl | assumption | (simp only [csN, Nat.reduceAdd, Nat.reduceMul, Nat.reduceLeDiff, Nat.reduceEqDiff] <;> omega) | (simp only [csF]; done) | (simp only [csF] <;> assumption) | fail) only [Nat.reduceEqDiff, Nat.reduceAdd, Nat.reduceMul, Nat.reduceSub, Nat.reduceLeDiff, Int.reduceAdd, Int.reduceSub, Int.reduceMul, Int.reduceLT, Int.reduceLE, Int.reduceGT, Int.reduceGE, Int.reduceEq, Int.reduceBEq, Int.reduceBNe, Int.reduceNeg, Int.reduceToNat, csAll, ↓reduceIte, C5tail, j5, j7, j8, e23', bx4, ef, i4, hwp, hk1]
      rfl
    · have hc1 := c4 hk1
      simp (disch := first | omega | rfl | assumption | (simp only [csN, Nat.reduceAdd, Nat.reduceMul, Nat.reduceLeDiff, Nat.reduceEqDiff] <;> omega) | (simp only [csF]; done) | (simp only [csF] <;> assumption) | fail) only [Nat.reduceEqDiff, Nat.reduceAdd, Nat.reduceMul, Nat.reduceSub, Nat.reduceLeDiff, Int.reduceAdd, Int.reduceSub, Int.reduceMul, Int.reduceLT, Int.reduceLE, Int.reduceGT, Int.reduceGE, Int.reduceEq, Int.reduceBEq, Int.reduceBNe, Int.reduceNeg, Int.reduceToNat, csAll, ↓reduceIte, C5tail, j5, j7, j8, e23', bx4, ef, i4, hwp, hk1] <;> rfl
  by_cases hk0 : x.k = 0
  · by_cases hk6 : x.act.k = 6
    · rw [hk0, hk6] at e21
      simp (disch := first | omega | rfl | assumption | (simp only [csN, Nat.reduceAdd, Nat.reduceMul, Nat.reduceLeDiff, Nat.reduceEqDiff] <;> omega) | (simp only [csF]; done) | (simp only [csF] <;> assumption) | fail) only [Nat.reduceEqDiff, Nat.reduceAdd, Nat.reduceMul, Nat.reduceSub, Nat.reduceLeDiff, Int.reduceAdd, Int.reduceSub, Int.reduceMul, Int.reduceLT, Int.reduceLE, Int.reduceGT, Int.reduceGE, Int.reduceEq, Int.reduceBEq, Int.reduceBNe, Int.reduceNeg, Int.reduceToNat, csAll, ↓reduceIte, k5, k7, k8, bx2', hk0, hk6, e21]
      refine tail 0 ?_ _ ?_ ?_ ?_ ?_ ?_ ?_
      · unfold ofS; rw [if_neg (by omega), if_neg (by omega)]
      all_goals simp only [upd_apply, Nat.reduceEqDiff, ↓reduceIte, k5, k7, k8]
    · rw [hk0] at e21
      simp (disch := first | omega | rfl | assumption | (simp only [csN, Nat.reduceAdd, Nat.reduceMul, Nat.reduceLeDiff, Nat.reduceEqDiff] <;> omega) | (simp only [csF]; done) | (simp only [csF] <;> assumption) | fail) only [Nat.reduceEqDiff, Nat.reduceAdd, Nat.reduceMul, Nat.reduceSub, Nat.reduceLeDiff, Int.reduceAdd, Int.reduceSub, Int.reduceMul, Int.reduceLT, Int.reduceLE, Int.reduceGT, Int.reduceGE, Int.reduceEq, Int.reduceBEq, Int.reduceBNe, Int.reduceNeg, Int.reduceToNat, csAll, ↓reduceIte, k5, k7, k8, bx2', hk0, hk6, e21, e25]
      refine tail (M.slotAt x.mu x.act.a).1 ?_ _ ?_ ?_ ?_ ?_ ?_ ?_
      · unfold ofS; rw [if_neg (by omega), if_pos ⟨hk0, hk6⟩]
      all_goals simp only [upd_apply, Nat.reduceEqDiff, ↓reduceIte, k5, k7, k8]
  · by_cases hk4 : x.k = 4
    · rw [hk4] at e21
      simp (disch := first | omega | rfl | assumption | (simp only [csN, Nat.reduceAdd, Nat.reduceMul, Nat.reduceLeDiff, Nat.reduceEqDiff] <;> omega) | (simp only [csF]; done) | (simp only [csF] <;> assumption) | fail) only [Nat.reduceEqDiff, Nat.reduceAdd, Nat.reduceMul, Nat.reduceSub, Nat.reduceLeDiff, Int.reduceAdd, Int.reduceSub, Int.reduceMul, Int.reduceLT, Int.reduceLE, Int.reduceGT, Int.reduceGE, Int.reduceEq, Int.reduceBEq, Int.reduceBNe, Int.reduceNeg, Int.reduceToNat, csAll, ↓reduceIte, k5, k7, k8, bx2', hk0, hk4, e21]
      refine tail x.a ?_ _ ?_ ?_ ?_ ?_ ?_ ?_
      · unfold ofS; rw [if_pos hk4]
      all_goals simp only [upd_apply, Nat.reduceEqDiff, ↓reduceIte, k5, k7, k8]
    · simp (disch := first | omega | rfl | assumption | (simp only [csN, Nat.reduceAdd, Nat.reduceMul, Nat.reduceLeDiff, Nat.reduceEqDiff] <;> omega) | (simp only [csF]; done) | (simp only [csF] <;> assumption) | fail) only [Nat.reduceEqDiff, Nat.reduceAdd, Nat.reduceMul, Nat.reduceSub, Nat.reduceLeDiff, Int.reduceAdd, Int.reduceSub, Int.reduceMul, Int.reduceLT, Int.reduceLE, Int.reduceGT, Int.reduceGE, Int.reduceEq, Int.reduceBEq, Int.reduceBNe, Int.reduceNeg, Int.reduceToNat, csAll, ↓reduceIte, k5, k7, k8, bx2', hk0, hk4, e21]
      refine tail 0 ?_ _ ?_ ?_ ?_ ?_ ?_ ?_
      · unfold ofS; rw [if_neg hk4, if_neg (by omega)]
      all_goals simp only [upd_apply, Nat.reduceEqDiff, ↓reduceIte, k5, k7, k8]
end Go.Cs.Try

/- The calls that a row's data hold. -/
namespace Go.Cs
open Go
abbrev stepKinds : List FK := List.replicate 13 (.int .i64)
theorem stp_of {x : List CV} (hx : x.length = 13) (h : ∀ (i : Nat) (k : FK), stepKinds[i]? = some k → ∃ c, x[i]? = some c ∧ k.fits c) : ∃ s : Stp, x = stpCells s := by
  obtain ⟨zs, hl, rfl⟩ := fits_i64 hx h
  match zs, hl with
  | [a, b, c, d, e, f, g, h, i, j, k, l, m], _ => exact ⟨⟨a, b, ⟨c, d, e, f, g, h, i, j⟩, k, l, m⟩, rfl⟩
theorem steps_of {H : CHeap} {cv : Nat → CV} {blk : Blk} {l : List (List CV)} (h : SlOf cv blk stepKinds l) {j : Nat} (hj : H[j]? = some blk) : ∃ l' : List Stp, Steps (fun _ => none) H (cv j) l' := by
  obtain ⟨h1, h2, h3⟩ := h
  obtain ⟨l', hl, hp⟩ := exists_fun (n := l.length) (p := fun i s => l[i]? = some (stpCells s)) fun i hi => by
    obtain ⟨e1, e2⟩ := h3 l[i] (List.getElem_mem _)
    obtain ⟨s, hs⟩ := stp_of e1 e2
    exact ⟨s, by rw [List.getElem?_eq_getElem hi, hs]⟩
  refine ⟨l', by rw [hl]; exact h1 j, fun hne => ?_⟩
  have hne' : l ≠ [] := by rintro rfl; exact hne (List.eq_nil_of_length_eq_zero hl)
  obtain ⟨⟨cap, -, q1⟩, q2, q3, q4⟩ := h2 hne'
  obtain ⟨cs, md, es⟩ := blk
  simp only at q2 q3
  refine ⟨j, cap, false, cs, by rw [hl]; exact q1 j, by rw [hj, q2, q3]; rfl, rfl, fun i x hx => ?_⟩
  exact q4 i _ (hp i x hx)
end Go.Cs

/- ModelNever returns true for every input: NOTHING IS EVER FREED: an object that was made is there for ever, with its shape, and what a call does not name stays as it is. (At most 120 calls) Conditions: none. -/
namespace Go.Proofs.Ytnhblkjfpbhnnaa.modelNever
open Go Go.Cs Go.ChangeShapes Go.WideShapes Go.ChangeAt Go.RowKit
set_option linter.unusedVariables false
theorem own : ownKnob Try.prog.godebug = none := by kernel_rfl
theorem laidOut : laidOutB Try.prog = true := by kernel_rfl
theorem follows : Try.prog.follows .mixedOrders = true := by kernel_rfl
set_option maxRecDepth 100000 in
theorem lifted (os : Os) (started : os.Started) (H : Type) (enc : TypeId × Value → H) :
    ReturnsInHanded {} Try.checked os 5 .any (Rows.modelNeverSpec.pre6 enc Try.prog Try.f5 Rows.modelNeverRow.domain false) (Rows.modelNeverSpec.post enc Try.prog Try.f5 false true false false) := by
  refine returnsInHanded_of_change_sized (C := Try.checked) own started (by kernel_rfl) Try.func5
    (ChangeSpec.witness6 (enc := enc) (C := Try.checked) false ⟨#[], #[.int .i64 0, .slice none 0 0, .agg #[.int .i64 0, .int .i64 0, .int .i64 0, .int .i64 0, .int .i64 0, .int .i64 0, .int .i64 0, .int .i64 0, .int .i64 0, .int .i64 0, .int .i64 0, .int .i64 0, .int .i64 0]], []⟩ 8 (by kernel_rfl) (by kernel_rfl) (by kernel_rfl) (by kernel_rfl)) ?_
  intro W base args ds gs before hval0 hW hcnd hsz0 _
  have hval : ∀ (j : Nat) t v, Try.f5.params[j]? = some t → args[j]? = some v → Value.okWide Try.prog W .any base t v := hval0
  have hW' := hW
  obtain ⟨p, q, hA0, hV, rfl, hfz, hnd⟩ := hW
  have hA : DataW.TrodAll enc Try.prog W 0 (fun _ => true) true Try.f5.params.toList args.toList ds p := hA0
  rw [Try.params5] at hA hval
  clear hA0 hval0 hsz0 hcnd
  obtain ⟨v0, vs0, d0, ds0, p0, q0, hargs, rfl, rfl, h0, r0⟩ := trodAll_cons hA
  obtain ⟨v1, vs1, d1, ds1, p1, q1, rfl, rfl, rfl, h1, r1⟩ := trodAll_cons r0
  obtain ⟨v2, vs2, d2, ds2, p2, q2, rfl, rfl, rfl, h2, r2⟩ := trodAll_cons r1
  obtain ⟨rfl, rfl, rfl⟩ := trodAll_nil r2
  obtain rfl : args = #[v0, v1, v2] := by cases args; simp_all
  obtain ⟨rfl, rfl⟩ := trodVars_none hV
  obtain ⟨x0, rfl, rfl, rfl, w0⟩ := open_int (k := .i64) (show Try.prog.underlying 3 = some (.int .i64) from by kernel_rfl) (hval 0 3 v0 rfl rfl) h0
  have lt1 : ∀ x ∈ p1, x.block < W.heap.size := by obtain ⟨m, hm⟩ := h1; exact DataW.trod_lt m _ _ _ hm
  obtain ⟨x1, b1, g1, l1, vx1, bk1, so1⟩ := open_flat (n := 6) (ks := stepKinds) (show Try.prog.underlying 22 = some (.slice 43) from by kernel_rfl) (by kernel_rfl) (by kernel_rfl) (by decide) (hval 1 22 v1 rfl rfl) h1
  have lt2 : ∀ x ∈ p2, x.block < W.heap.size := by obtain ⟨m, hm⟩ := h2; exact DataW.trod_lt m _ _ _ hm
  obtain ⟨cs2, vx2, hl2, hf2⟩ := open_agg (n := 6) (ks := stepKinds) Try.underlying43 (by kernel_rfl) (by kernel_rfl) (hval 2 43 v2 rfl rfl) h2
  obtain ⟨s2, rfl⟩ := stp_of hl2 hf2
  obtain ⟨s1, st1⟩ := steps_of (H := [b1]) so1 (j := 0) rfl
  obtain ⟨H1, hrun⟩ : ∃ H1, run (cprog Try.prog) 5 [.i x0, x1 0, .agg (stpCells s2)] [b1] = some (.bool true, H1) := Go.Cs.Try.f5 (fun _ _ h => by cases h) (fun _ _ h => by cases h) st1 x0 s2
  have hb : ∀ b blk, [b1][b]? = some blk → BlkOk W blk ([g1].getD b none) := by
    intro b blk hb
    match b, hb with
    | 0, hb => simp at hb; subst hb; exact bk1
    | n + 1, hb => simp at hb
  refine (run_calls follows (tgs := [g1]) (W := W) (args' := #[.int .i64 x0, v1, v2]) rfl hb hrun ?_).mono fun e W' he => ?_
  · simp only [VL]
    exact ⟨_, _, rfl, by simp [V], ⟨_, _, rfl, vx1 0 _ rfl, ⟨_, _, rfl, vx2 _, rfl⟩⟩⟩
  obtain ⟨⟨ν, v', rfl, hv'⟩, bel⟩ := he
  simp only [V] at hv'
  subst hv'
  exact ⟨_, rfl, _, _, _, [], _, [], hW', trodAll_mk1 (shut_bool (show Try.prog.underlying 4 = some .bool from by kernel_rfl) _), (trodAll_cons_mk (shut_int (show Try.prog.underlying 3 = some (.int .i64) from by kernel_rfl) w0) (trodAll_cons_mk (Below.trod laidOut (by kernel_rfl) (of_decide_eq_true (by kernel_rfl)) h1 bel lt1) (trodAll_cons_mk (Below.trod laidOut (by kernel_rfl) (of_decide_eq_true (by kernel_rfl)) h2 bel lt2) trodAll_mk0))), rfl, bel.frame _, fun h => by cases h⟩
theorem over : Rows.modelNeverRow.holds Try.pinned (OpenSpec.ofChange Rows.modelNeverSpec) :=
  OpenClaim.holds_of_wide 5 Try.f5 rfl rfl rfl rfl rfl rfl rfl ⟨rfl, rfl, rfl, rfl, rfl⟩ rfl rfl rfl rfl rfl (by kernel_rfl) Try.func5 (by kernel_rfl)
    (of_decide_eq_true (by kernel_rfl)) (by unfold Func.isWrapper; first | (rw [if_pos (by decide +kernel)]; kernel_rfl) | (rw [if_neg (by decide +kernel)]; exact ⟨rfl, rfl⟩))
    (fun os started H enc _ => lifted os started H enc)
end Go.Proofs.Ytnhblkjfpbhnnaa.modelNever
namespace Go.Proofs.Ytnhblkjfpbhnnaa
/-- The row. -/
theorem modelNever_holds : Rows.ModelNeverSaid := modelNever.over
#print axioms modelNever_holds
end Go.Proofs.Ytnhblkjfpbhnnaa
