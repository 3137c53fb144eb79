/- ModelRefused returns true for every input: an act, or another call, with an error changes nothing. (At most 120 calls) Conditions: none. -/
import Derived.Test.YtnhblkjfpbhnnaaRefused3
import Derived.Test.YtnhblkjfpbhnnaaRows
import Derived.WalkKit
import Derived.ProofKit
import Derived.OpenShut
import Derived.ShutString
import Derived.ChangeOld
import Derived.Below
import Derived.SizedLaws
import Derived.Carry
set_option linter.unusedVariables false
set_option linter.unusedSimpArgs false
set_option linter.defProp false
/- Which temporaries a piece of code may change; loops by that. -/
namespace Go.Cs
open Go

/-- The temporaries that a piece of code may write. -/
def wr : CCode → List Nat
  | .region ops => ops.filterMap (·.dst)
  | .dregion ops => ops.filterMap (·.s.dst)
  | .seq a b => wr a ++ wr b
  | .cond _ a b => wr a ++ wr b
  | .block _ c => wr c
  | .loop c => wr c
  | _ => []

theorem put_same {E : Env} {d : Option Nat} {v : CV} {t : Nat} (h : t ∉ d.toList) : E.put d v t = E t := by
  cases d with
  | none => rfl
  | some d =>
    simp only [Option.toList_some, List.mem_singleton] at h
    simp only [Env.put, Env.upd, if_neg h]

theorem filterMap_cons_mem {α : Type} {f : α → Option Nat} {a : α} {l : List α} {t : Nat} (h : t ∉ (a :: l).filterMap f) : t ∉ (f a).toList ∧ t ∉ l.filterMap f := by
  rw [List.filterMap_cons] at h
  cases hf : f a with
  | none => rw [hf] at h; exact ⟨by simp, h⟩
  | some d => rw [hf] at h; simp only [List.mem_cons, not_or] at h; exact ⟨by simpa using h.1, h.2⟩

theorem evOps_wr {F : CallF} {t : Nat} : ∀ {l : List CStmt} {E : Env} {H : CHeap} {r : Env × CHeap}, evOps F l E H = some r → t ∉ l.filterMap (·.dst) → r.1 t = E t
  | [], E, H, r, h, _ => by simp only [evOps, Option.some.injEq] at h; subst h; rfl
  | s :: l, E, H, r, h, ht => by
    obtain ⟨h1, h2⟩ := filterMap_cons_mem ht
    simp only [evOps, Option.bind_eq_some_iff] at h
    obtain ⟨q, hq, hr⟩ := h
    rw [evOps_wr hr h2]
    unfold evStmt at hq
    split at hq
    · rw [Option.map_eq_some_iff] at hq; obtain ⟨p, _, rfl⟩ := hq; exact put_same h1
    · simp only [Option.some.injEq] at hq; subst hq; exact put_same h1

theorem evD_wr {F : CallF} {t : Nat} : ∀ {l : List DStmt} {E : Env} {H : CHeap} {hs : List CHeap} {r : Env × CHeap}, evD F l E H hs = some r → t ∉ l.filterMap (·.s.dst) → r.1 t = E t
  | [], E, H, hs, r, h, _ => by simp only [evD, Option.some.injEq] at h; subst h; rfl
  | d :: l, E, H, hs, r, h, ht => by
    obtain ⟨h1, h2⟩ := filterMap_cons_mem ht
    unfold evD at h
    split at h
    · rw [evD_wr h h2]; exact put_same h1
    · split at h
      · rw [Option.bind_eq_some_iff] at h
        obtain ⟨q, hq, hr⟩ := h
        rw [evD_wr hr h2]; exact put_same h1
      · rw [Option.bind_eq_some_iff] at h
        obtain ⟨m, _, hr⟩ := h
        split at hr
        · rw [evD_wr hr h2]; exact put_same h1
        · cases hr

theorem ev_wr (p : CProg) {t : Nat} : ∀ (n : Nat) {c : CCode} {E : Env} {H : CHeap} {r : CX × Env × CHeap}, ev p n c E H = some r → t ∉ wr c → r.2.1 t = E t
  | 0, _, _, _, _, h, _ => by cases h
  | n + 1, c, E, H, r, h, ht => by
    rw [ev_succ] at h
    cases c with
    | skip => simp only [Option.some.injEq] at h; subst h; rfl
    | region ops => rw [Option.map_eq_some_iff] at h; obtain ⟨q, hq, rfl⟩ := h; exact evOps_wr hq ht
    | dregion ops => rw [Option.map_eq_some_iff] at h; obtain ⟨q, hq, rfl⟩ := h; exact evD_wr hq ht
    | seq a b =>
      simp only [wr, List.mem_append, not_or] at ht
      rw [Option.bind_eq_some_iff] at h
      obtain ⟨q, hq, h⟩ := h
      have h1 := ev_wr p n hq ht.1
      split at h
      · rw [ev_wr p n h ht.2, h1]
      · simp only [Option.some.injEq] at h; subst h; exact h1
    | cond c a b =>
      simp only [wr, List.mem_append, not_or] at ht
      dsimp only at h
      split at h
      · rename_i tt _
        cases tt with
        | true => exact ev_wr p n h ht.1
        | false => exact ev_wr p n h ht.2
      · cases h
    | block id c =>
      simp only [wr] at ht
      rw [Option.map_eq_some_iff] at h
      obtain ⟨q, hq, rfl⟩ := h
      exact ev_wr p n (r := q) hq ht
    | loop c =>
      have ht' := ht
      simp only [wr] at ht
      rw [Option.bind_eq_some_iff] at h
      obtain ⟨q, hq, h⟩ := h
      have h1 := ev_wr p n hq ht
      split at h
      · rw [ev_wr p n h ht', h1]
      · simp only [Option.some.injEq] at h; subst h; exact h1
    | exit id => simp only [Option.some.injEq] at h; subst h; rfl
    | ret => simp only [Option.some.injEq] at h; subst h; rfl

theorem den_wr {p : CProg} {c : CCode} {E E' : Env} {H H' : CHeap} {x : CX} (h : den p c E H = some (x, E', H')) {t : Nat} (ht : t ∉ wr c) : E' t = E t := by
  obtain ⟨n, hn⟩ := den_some.1 h
  exact ev_wr p n hn ht

/-- A loop from some environment on: its invariant by a measure, and what holds when it is left. What it does not write stays as it was. -/
theorem loop_at {p : CProg} {c : CCode} {E0 : Env} {H0 : CHeap} (Inv : Nat → Env → CHeap → Prop) (Post : CX → Env → CHeap → Prop)
    (step : ∀ k E H, (∀ t, t ∉ wr c → E t = E0 t) → Inv k E H → ∃ x E' H', den p c E H = some (x, E', H') ∧ ((x = .normal ∧ ∃ k', k' < k ∧ Inv k' E' H') ∨ (x ≠ .normal ∧ Post x E' H')))
    (k : Nat) (hi : Inv k E0 H0) : ∃ x E' H', den p (.loop c) E0 H0 = some (x, E', H') ∧ x ≠ .normal ∧ Post x E' H' ∧ ∀ t, t ∉ wr c → E' t = E0 t := by
  have key : LoopOk p c (fun k E H => (∀ t, t ∉ wr c → E t = E0 t) ∧ Inv k E H) (fun x E' H' => Post x E' H' ∧ ∀ t, t ∉ wr c → E' t = E0 t) := by
    refine loop_ind ?_
    rintro k E H ⟨hE, hi⟩
    obtain ⟨x, E', H', e, h⟩ := step k E H hE hi
    have hE' : ∀ t, t ∉ wr c → E' t = E0 t := fun t ht => (den_wr e ht).trans (hE t ht)
    refine ⟨x, E', H', e, ?_⟩
    rcases h with ⟨rfl, k', hk, hi'⟩ | ⟨hx, hp⟩
    · exact .inl ⟨rfl, k', hk, hE', hi'⟩
    · exact .inr ⟨hx, hp, hE'⟩
  obtain ⟨x, E', H', e, hx, hp⟩ := key k E0 H0 ⟨fun _ _ => rfl, hi⟩
  exact ⟨x, E', H', e, hx, hp⟩
end Go.Cs

/- Growth of the heap; lists of integers that grow. -/
namespace Go.Cs
open Go
/-- The heap grew: what was there is as it was. -/
structure Gr (H H' : CHeap) : Prop where
  len : H.length ≤ H'.length
  low : ∀ c, c < H.length → H'[c]? = H[c]?
theorem Gr.refl (H : CHeap) : Gr H H := ⟨Nat.le_refl _, fun _ _ => rfl⟩
theorem Gr.trans {H H' H'' : CHeap} (a : Gr H H') (b : Gr H' H'') : Gr H H'' := ⟨Nat.le_trans a.len b.len, fun c h => by rw [b.low c (Nat.lt_of_lt_of_le h a.len), a.low c h]⟩
theorem Gr.app (H J : CHeap) : Gr H (H ++ J) := ⟨by simp, fun _ h => List.getElem?_append_left h⟩
theorem Gr.app' {H H' : CHeap} (a : Gr H H') (J : CHeap) : Gr H (H' ++ J) := a.trans (.app _ _)
theorem Gr.get {H H' : CHeap} (a : Gr H H') {b : Nat} {k : Blk} (h : H[b]? = some k) : H'[b]? = some k := by rw [a.low b (lt_of_get h), h]
theorem MRep.gr {o : Tags} {g : Nat} {H H' : CHeap} {b : Nat} {M : Mdl} {L : Lay} (m : MRep o g H b M L) (a : Gr H H') : MRep o g H' b M L :=
  m.frame (fun c t h => Nat.lt_of_lt_of_le (m.dom c t h) a.len) (fun _ _ h => h) (fun c k h => a.low c (m.dom c _ h))
theorem Gr.frm {o : Tags} {g : Nat} {H H' : CHeap} (a : Gr H H') (hd : ∀ c t, o c = some t → c < H.length) : Frm g o H o H' := .grow hd a.len a.low

/-- A list of integers in memory that is newer than a state of the heap. -/
abbrev IL (k : Nat) (H : CHeap) (v : CV) (l : List Int) : Prop := At (Loc k) z3 H v 1 l.length (ints l)
theorem At.gr {k : Nat} {o : Tags} {t : Tag} {H H' : CHeap} {v : CV} {n : Nat} {cs : List CV} (h : At o t H v k n cs) (a : Gr H H') : At o t H' v k n cs := h.grow fun _ hc _ => a.low _ hc
theorem IL.nil {k : Nat} {H : CHeap} : IL k H .nilSlice [] := .inl ⟨rfl, rfl, .inl rfl⟩
theorem IL.blk {k b n : Nat} {H : CHeap} {l : List Int} (hb : k ≤ b) (h : H[b]? = some ⟨ints l, .rw, 1⟩) (hn : l.length = n) {t : Bool} : IL k H (.slice b 0 n n 1 t) l :=
  .inr ⟨b, t, by rw [hn], Loc_some.2 ⟨hb, rfl⟩, h, by simp [ints_len]⟩
theorem IL.cat {k : Nat} {H : CHeap} {v : CV} {l l2 : List Int} (h : IL k H v l) (hk : k ≤ H.length) (hm : l.length + l2.length ≤ 16777216) :
    ∃ v' H', appendTo H 1 v l2.length (ints l2) = some (v', H') ∧ IL k H' v' (l ++ l2) ∧ k ≤ H'.length ∧ ∀ c, c < k → H'[c]? = H[c]? := by
  by_cases h2 : l2 = []
  · subst h2
    refine ⟨v, H, ?_, by simpa using h, hk, fun _ _ => rfl⟩
    rcases h with ⟨_, _, rfl | ⟨b, f, rfl⟩⟩ | ⟨b, tl, rfl, h1, h2, h3⟩ <;> rfl
  · have hp : 0 < l2.length := List.length_pos_iff.2 h2
    obtain ⟨H', a1, a2, a3, a4⟩ := At.append (k := l2.length) (new := ints l2) h hp hm (ints_leaf _) (by simp [ints_len])
    refine ⟨_, H', a1, .inr ⟨H.length, true, by simp, Loc_some.2 ⟨hk, rfl⟩, by rw [a3, ints_app], by simp [ints_len]⟩, by omega, fun c hc => a4 c (by omega) (fun h => by have := (Loc_some.1 h).1; omega)⟩
theorem IL.push {k : Nat} {H : CHeap} {v : CV} {l : List Int} (h : IL k H v l) (hk : k ≤ H.length) (hm : l.length + 1 ≤ 16777216) (x : Int) :
    ∃ v' H', appendTo (H ++ [⟨[.i x], .rw, 1⟩]) 1 v 1 [.i x] = some (v', H') ∧ IL k H' v' (l ++ [x]) ∧ k ≤ H'.length ∧ ∀ c, c < k → H'[c]? = H[c]? := by
  obtain ⟨v', H', a, b, c, d⟩ := IL.cat (l2 := [x]) (h.gr (.app H [⟨[.i x], .rw, 1⟩])) (by simp; omega) hm
  exact ⟨v', H', a, b, c, fun e he => by rw [d e he, List.getElem?_append_left (by omega)]⟩
theorem Gr.low' {H0 H H' : CHeap} (a : Gr H0 H) (hl : H0.length ≤ H'.length) (h : ∀ c, c < H0.length → H'[c]? = H[c]?) : Gr H0 H' := ⟨hl, fun c hc => by rw [h c hc, a.low c hc]⟩
theorem At.un' {o : Tags} {H : CHeap} {k : Nat} {v : CV} {l : List Int} (h : IL k H v l) (hd : ∀ c t, o c = some t → c < k) : At (Un o) z3 H v 1 l.length (ints l) := At.un h hd
theorem wrapS (n : Nat) (h : n ≤ 1000000000) : IntKind.i64.wrap ((n : Int) + 1) = ((n + 1 : Nat) : Int) := by rw [wrap_id (by omega)]; rfl
theorem take_snoc {α : Type} {l : List α} {i : Nat} {x : α} (h : l[i]? = some x) : l.take (i + 1) = l.take i ++ [x] := by
  have hi := lt_of_get h
  rw [List.take_succ_eq_append_getElem hi, List.getElem?_eq_getElem hi] at *
  simp only [Option.some.injEq] at h
  rw [h]
theorem take_all {α : Type} {l : List α} {i : Nat} (h : l.length ≤ i) : l.take i = l := List.take_of_length_le h
end Go.Cs

/- roots: what places hold. -/
namespace Go.Cs
open Go
theorem flat16 {L : List (List Int)} (h : ∀ s ∈ L, s.length = 16) : L.flatten.length = 16 * L.length := by
  induction L with
  | nil => rfl
  | cons a l ih =>
    rw [List.flatten_cons, List.length_append, ih (fun s hs => h s (List.mem_cons_of_mem _ hs)), h a List.mem_cons_self, List.length_cons]; omega
end Go.Cs
namespace Go.Cs.Try
open Go Go.Cs
set_option maxRecDepth 100000
section
variable {o : Tags} {g : Nat} {b : Nat} {M : Mdl} {L : Lay} {H0 H : CHeap}

theorem Mdl.slot_val {M : Mdl} (w : M.Ok) {i j : Nat} {s : List Int} (hs : M.slots[i]? = some s) (hj : j < 16) : M.slotAt i j = (s.getD j 0, 0) ∧ s[j]? = some (s.getD j 0) := by
  have hi := lt_of_get hs
  have h16 := (w.s16 _ (List.mem_of_getElem? hs)).1
  refine ⟨?_, getD_of 0 (by omega)⟩
  unfold Mdl.slotAt
  rw [if_pos (by omega)]
  simp only [Int.toNat_natCast]
  rw [List.getD_eq_getElem?_getD (l := M.slots), hs]; rfl

theorem l20_2 (m : MRep o g H0 b M L) (w : M.Ok) {i : Nat} {s : List Int} (hs : M.slots[i]? = some s) {pre : List Int} (hp : pre.length ≤ 1000) {E0 : Env} (h0 : E0 0 = .ptr b 0) (h4 : E0 4 = .i i) (h5 : E0 5 = .i 0) (gr : Gr H0 H) (hv : IL H0.length H (E0 3) pre)
    {r : Option (CX × Env × CHeap)} (hr : den P (.loop C20_2) E0 H = r) :
    ∃ E' H', r = some (.exit 2, E', H') ∧ Gr H0 H' ∧ IL H0.length H' (E' 3) (pre ++ s) ∧ ∀ t, t ∉ wr C20_2 → E' t = E0 t := by
  have h16 := (w.s16 _ (List.mem_of_getElem? hs)).1
  obtain ⟨x, E', H', e, -, ⟨rfl, g1, g2⟩, fr⟩ := loop_at (p := P) (c := C20_2) (E0 := E0) (H0 := H) (fun k E H => ∃ j : Nat, E 5 = .i j ∧ j ≤ 16 ∧ k = 16 - j ∧ Gr H0 H ∧ IL H0.length H (E 3) (pre ++ s.take j))
    (fun x E' H' => x = .exit 2 ∧ Gr H0 H' ∧ IL H0.length H' (E' 3) (pre ++ s)) (by
      rintro k E H hE ⟨j, e5, hj, rfl, gr, hv⟩
      have e0 := (hE 0 (by decide +kernel)).trans h0
      have e4 := (hE 4 (by decide +kernel)).trans h4
      by_cases c : j < 16
      · obtain ⟨s1, s2⟩ := Mdl.slot_val w hs c
        have d1 := f25 (m.gr gr) w i j
        rw [s1] at d1
        simp only [pair2] at d1
        obtain ⟨v', H', a1, a2, a3, a4⟩ := hv.push gr.len (by simp; omega) (s.getD j 0)
        have hw := wrapS j (by omega)
        generalize he3 : E 3 = v3 at *
        apply step_go (k' := 16 - (j + 1))
        · simp (disch := first | omega | rfl | assumption | (simp only [csN, Nat.reduceAdd, Nat.reduceMul, Nat.reduceLeDiff, Nat.reduceEqDiff] <;> omega) | (simp only [csF]; done) | (simp only [csF] <;> assumption) | fail) only [Nat.reduceEqDiff, Nat.reduceAdd, Nat.reduceMul, Nat.reduceSub, Nat.reduceLeDiff, Int.reduceAdd, Int.reduceSub, Int.reduceMul, Int.reduceLT, Int.reduceLE, Int.reduceGT, Int.reduceGE, Int.reduceEq, Int.reduceBEq, Int.reduceBNe, Int.reduceNeg, Int.reduceToNat, csAll, ↓reduceIte, C20_2, e0, e4, e5, d1, he3, a1, hw]
          rfl
        · omega
        · refine ⟨j + 1, by simp [upd_apply], by omega, rfl, gr.low' a3 a4, ?_⟩
          rw [take_snoc s2, ← List.append_assoc]
          simpa [upd_apply] using a2
      · apply step_out (x := .exit 2)
        · simp (disch := first | omega | rfl | assumption | (simp only [csN, Nat.reduceAdd, Nat.reduceMul, Nat.reduceLeDiff, Nat.reduceEqDiff] <;> omega) | (simp only [csF]; done) | (simp only [csF] <;> assumption) | fail) only [Nat.reduceEqDiff, Nat.reduceAdd, Nat.reduceMul, Nat.reduceSub, Nat.reduceLeDiff, Int.reduceAdd, Int.reduceSub, Int.reduceMul, Int.reduceLT, Int.reduceLE, Int.reduceGT, Int.reduceGE, Int.reduceEq, Int.reduceBEq, Int.reduceBNe, Int.reduceNeg, Int.reduceToNat, csAll, ↓reduceIte, C20_2, e5]
          rfl
        · simp
        · rw [take_all (by omega)] at hv
          exact ⟨rfl, gr, by simpa [upd_apply] using hv⟩) 16 ⟨0, h5, by omega, rfl, gr, by simpa using hv⟩
  exact ⟨E', H', hr.symm.trans e, g1, g2, fr⟩

theorem l20_1 (m : MRep o g H0 b M L) (w : M.Ok) {pre : List Int} (hp : pre.length ≤ 1000) {E0 : Env} (h0 : E0 0 = .ptr b 0) (h5 : E0 8 = .i 0) (gr : Gr H0 H) (hv : IL H0.length H (E0 3) pre)
    {r : Option (CX × Env × CHeap)} (hr : den P (.loop C20_1) E0 H = r) :
    ∃ E' H', r = some (.exit 4, E', H') ∧ Gr H0 H' ∧ IL H0.length H' (E' 3) (pre ++ M.globals) ∧ ∀ t, t ∉ wr C20_1 → E' t = E0 t := by
  have h16 := w.g16.1
  obtain ⟨x, E', H', e, -, ⟨rfl, g1, g2⟩, fr⟩ := loop_at (p := P) (c := C20_1) (E0 := E0) (H0 := H) (fun k E H => ∃ j : Nat, E 8 = .i j ∧ j ≤ 16 ∧ k = 16 - j ∧ Gr H0 H ∧ IL H0.length H (E 3) (pre ++ M.globals.take j))
    (fun x E' H' => x = .exit 4 ∧ Gr H0 H' ∧ IL H0.length H' (E' 3) (pre ++ M.globals)) (by
      rintro k E H hE ⟨j, e5, hj, rfl, gr, hv⟩
      have e0 := (hE 0 (by decide +kernel)).trans h0
      by_cases c : j < 16
      · have s2 := getD_of (l := M.globals) (i := j) 0 (by omega)
        have d1 := f37 (m.gr gr) w j
        have s1 : M.globalAt j = (M.globals.getD j 0, 0) := by unfold Mdl.globalAt; rw [if_pos (by omega)]; simp
        rw [s1] at d1
        simp only [pair2] at d1
        obtain ⟨v', H', a1, a2, a3, a4⟩ := hv.push gr.len (by simp; omega) (M.globals.getD j 0)
        have hw := wrapS j (by omega)
        generalize he3 : E 3 = v3 at *
        apply step_go (k' := 16 - (j + 1))
        · simp (disch := first | omega | rfl | assumption | (simp only [csN, Nat.reduceAdd, Nat.reduceMul, Nat.reduceLeDiff, Nat.reduceEqDiff] <;> omega) | (simp only [csF]; done) | (simp only [csF] <;> assumption) | fail) only [Nat.reduceEqDiff, Nat.reduceAdd, Nat.reduceMul, Nat.reduceSub, Nat.reduceLeDiff, Int.reduceAdd, Int.reduceSub, Int.reduceMul, Int.reduceLT, Int.reduceLE, Int.reduceGT, Int.reduceGE, Int.reduceEq, Int.reduceBEq, Int.reduceBNe, Int.reduceNeg, Int.reduceToNat, csAll, ↓reduceIte, C20_1, e0, e5, d1, he3, a1, hw]
          rfl
        · omega
        · refine ⟨j + 1, by simp [upd_apply], by omega, rfl, gr.low' a3 a4, ?_⟩
          rw [take_snoc s2, ← List.append_assoc]
          simpa [upd_apply] using a2
      · apply step_out (x := .exit 4)
        · simp (disch := first | omega | rfl | assumption | (simp only [csN, Nat.reduceAdd, Nat.reduceMul, Nat.reduceLeDiff, Nat.reduceEqDiff] <;> omega) | (simp only [csF]; done) | (simp only [csF] <;> assumption) | fail) only [Nat.reduceEqDiff, Nat.reduceAdd, Nat.reduceMul, Nat.reduceSub, Nat.reduceLeDiff, Int.reduceAdd, Int.reduceSub, Int.reduceMul, Int.reduceLT, Int.reduceLE, Int.reduceGT, Int.reduceGE, Int.reduceEq, Int.reduceBEq, Int.reduceBNe, Int.reduceNeg, Int.reduceToNat, csAll, ↓reduceIte, C20_1, e5]
          rfl
        · simp
        · rw [take_all (by omega)] at hv
          exact ⟨rfl, gr, by simpa [upd_apply] using hv⟩) 16 ⟨0, h5, by omega, rfl, gr, by simpa using hv⟩
  exact ⟨E', H', hr.symm.trans e, g1, g2, fr⟩

theorem flatSlots (w : M.Ok) (i : Nat) : (M.slots.take i).flatten.length ≤ 64 := by
  rw [flat16 (fun s hs => (w.s16 s (List.mem_of_mem_take hs)).1)]
  have := w.ns
  simp; omega

theorem l20_3 (m : MRep o g H0 b M L) (w : M.Ok) {E0 : Env} (h0 : E0 0 = .ptr b 0) (h5 : E0 4 = .i 0) (gr : Gr H0 H) {pre : List Int} (hp : pre.length ≤ 10) (hv : IL H0.length H (E0 3) pre)
    {r : Option (CX × Env × CHeap)} (hr : den P (.loop C20_3) E0 H = r) :
    ∃ E' H', r = some (.exit 0, E', H') ∧ Gr H0 H' ∧ IL H0.length H' (E' 3) (pre ++ M.slots.flatten) ∧ ∀ t, t ∉ wr C20_3 → E' t = E0 t := by
  have hns := w.ns
  obtain ⟨x, E', H', e, -, ⟨rfl, g1, g2⟩, fr⟩ := loop_at (p := P) (c := C20_3) (E0 := E0) (H0 := H) (fun k E H => ∃ j : Nat, E 4 = .i j ∧ j ≤ M.slots.length ∧ k = M.slots.length - j ∧ Gr H0 H ∧ IL H0.length H (E 3) (pre ++ (M.slots.take j).flatten))
    (fun x E' H' => x = .exit 0 ∧ Gr H0 H' ∧ IL H0.length H' (E' 3) (pre ++ M.slots.flatten)) (by
      rintro k E H hE ⟨j, e5, hj, rfl, gr, hv⟩
      have e0 := (hE 0 (by decide +kernel)).trans h0
      have d1 := f22 (m.gr gr) w
      by_cases c : j < M.slots.length
      · have s2 := getD_of (l := M.slots) (i := j) [] (by omega)
        have hw := wrapS j (by omega)
        have hfs := flatSlots w j
        have key : ∃ E' H', den P C20_3 E H = some (.normal, E', H') ∧ E' 4 = .i ((j + 1 : Nat) : Int) ∧ Gr H0 H' ∧ IL H0.length H' (E' 3) (pre ++ (M.slots.take (j + 1)).flatten) := by
          simp (disch := first | omega | rfl | assumption | (simp only [csN, Nat.reduceAdd, Nat.reduceMul, Nat.reduceLeDiff, Nat.reduceEqDiff] <;> omega) | (simp only [csF]; done) | (simp only [csF] <;> assumption) | fail) only [Nat.reduceEqDiff, Nat.reduceAdd, Nat.reduceMul, Nat.reduceSub, Nat.reduceLeDiff, Int.reduceAdd, Int.reduceSub, Int.reduceMul, Int.reduceLT, Int.reduceLE, Int.reduceGT, Int.reduceGE, Int.reduceEq, Int.reduceBEq, Int.reduceBNe, Int.reduceNeg, Int.reduceToNat, csAll, ↓reduceIte, C20_3, e0, e5, d1]
          generalize hr : den P (.loop C20_2) _ _ = r
          obtain ⟨E2, H2, rfl, q1, q2, q3⟩ := l20_2 m w (pre := pre ++ (M.slots.take j).flatten) s2 (by simp; simp at hfs; omega) (by simp only [upd_apply, Nat.reduceEqDiff, ↓reduceIte, e0]) (by simp only [upd_apply, Nat.reduceEqDiff, ↓reduceIte, e5]) (by simp only [upd_apply, Nat.reduceEqDiff, ↓reduceIte]) gr (by simp only [upd_apply, Nat.reduceEqDiff, ↓reduceIte]; exact hv) hr
          have k4 := q3 4 (by decide +kernel)
          simp only [upd_apply, Nat.reduceEqDiff, ↓reduceIte, e5] at k4
          simp (disch := first | omega | rfl | assumption | (simp only [csN, Nat.reduceAdd, Nat.reduceMul, Nat.reduceLeDiff, Nat.reduceEqDiff] <;> omega) | (simp only [csF]; done) | (simp only [csF] <;> assumption) | fail) only [Nat.reduceEqDiff, Nat.reduceAdd, Nat.reduceMul, Nat.reduceSub, Nat.reduceLeDiff, Int.reduceAdd, Int.reduceSub, Int.reduceMul, Int.reduceLT, Int.reduceLE, Int.reduceGT, Int.reduceGE, Int.reduceEq, Int.reduceBEq, Int.reduceBNe, Int.reduceNeg, Int.reduceToNat, csAll, ↓reduceIte, k4, hw]
          refine ⟨_, _, rfl, by simp [upd_apply], q1, ?_⟩
          rw [take_snoc s2, List.flatten_append, List.flatten_singleton, ← List.append_assoc]
          simpa [upd_apply] using q2
        obtain ⟨E', H', k1, k2, k3, k4⟩ := key
        exact step_go (k' := M.slots.length - (j + 1)) k1 (by omega) ⟨j + 1, k2, by omega, rfl, k3, k4⟩
      · apply step_out (x := .exit 0)
        · simp (disch := first | omega | rfl | assumption | (simp only [csN, Nat.reduceAdd, Nat.reduceMul, Nat.reduceLeDiff, Nat.reduceEqDiff] <;> omega) | (simp only [csF]; done) | (simp only [csF] <;> assumption) | fail) only [Nat.reduceEqDiff, Nat.reduceAdd, Nat.reduceMul, Nat.reduceSub, Nat.reduceLeDiff, Int.reduceAdd, Int.reduceSub, Int.reduceMul, Int.reduceLT, Int.reduceLE, Int.reduceGT, Int.reduceGE, Int.reduceEq, Int.reduceBEq, Int.reduceBNe, Int.reduceNeg, Int.reduceToNat, csAll, ↓reduceIte, C20_3, e0, e5, d1]
          rfl
        · simp
        · rw [take_all (by omega)] at hv
          exact ⟨rfl, gr, by simpa [upd_apply] using hv⟩) M.slots.length ⟨0, h5, by omega, rfl, gr, by simpa using hv⟩
  exact ⟨E', H', hr.symm.trans e, g1, g2, fr⟩

theorem ex2 {r : Option (CV × CHeap)} {v : CV} {H' : CHeap} {Q : CV → CHeap → Prop} (h : r = some (v, H')) (q : Q v H') : ∃ v H', r = some (v, H') ∧ Q v H' := ⟨_, _, h, q⟩

/-- The queue behind a list. -/
theorem catQ (m : MRep o g H0 b M L) (w : M.Ok) {v : CV} {l : List Int} (hl : l.length ≤ 1000) (gr : Gr H0 H) (hv : IL H0.length H v l) :
    ∃ vq Hq, run P 39 [.ptr b 0] H = some (vq, Hq) ∧ ∃ v' H', vAppend 1 v (elems Hq 1 vq) Hq = some (v', H') ∧ Gr H0 H' ∧ IL H0.length H' v' (l ++ M.queue) := by
  obtain ⟨vq, J, e, hq⟩ := f39 (m.gr gr) w
  have hql := w.q64.1
  have he := hq.elems (H' := H ++ J) (fun _ _ => rfl)
  obtain ⟨v', H', a1, a2, a3, a4⟩ := IL.cat (l2 := M.queue) (hv.gr (.app H J)) (by have := gr.len; simp; omega) (by omega)
  refine ⟨vq, _, e, v', H', ?_, (gr.app' J).low' a3 a4, a2⟩
  rw [he, vAppend_s, a1]

/-- roots. -/
theorem f20 (m : MRep o g H b M L) (w : M.Ok) : ∃ v H', run P 20 [.ptr b 0] H = some (v, H') ∧ Gr H H' ∧ IL H.length H' v M.places := by
  rw [run_lv c20]
  simp (disch := first | omega | rfl | assumption | (simp only [csN, Nat.reduceAdd, Nat.reduceMul, Nat.reduceLeDiff, Nat.reduceEqDiff] <;> omega) | (simp only [csF]; done) | (simp only [csF] <;> assumption) | fail) only [Nat.reduceEqDiff, Nat.reduceAdd, Nat.reduceMul, Nat.reduceSub, Nat.reduceLeDiff, Int.reduceAdd, Int.reduceSub, Int.reduceMul, Int.reduceLT, Int.reduceLE, Int.reduceGT, Int.reduceGE, Int.reduceEq, Int.reduceBEq, Int.reduceBNe, Int.reduceNeg, Int.reduceToNat, csAll, ↓reduceIte, C20, entry_1]
  generalize hr : den P (.loop C20_3) _ _ = r
  obtain ⟨E1, H1, rfl, g1, i1, k1⟩ := l20_3 m w (pre := []) (by simp only [upd_apply, Nat.reduceEqDiff, ↓reduceIte]) (by simp only [upd_apply, Nat.reduceEqDiff, ↓reduceIte]) (.refl H) (by simp) (by simp only [upd_apply, Nat.reduceEqDiff, ↓reduceIte]; exact IL.nil) hr
  have k0 := k1 0 (by decide +kernel)
  simp only [upd_apply, Nat.reduceEqDiff, ↓reduceIte] at k0
  have hfs := flatSlots w M.slots.length
  rw [take_all (Nat.le_refl _)] at hfs
  rw [List.nil_append] at i1
  simp (disch := first | omega | rfl | assumption | (simp only [csN, Nat.reduceAdd, Nat.reduceMul, Nat.reduceLeDiff, Nat.reduceEqDiff] <;> omega) | (simp only [csF]; done) | (simp only [csF] <;> assumption) | fail) only [Nat.reduceEqDiff, Nat.reduceAdd, Nat.reduceMul, Nat.reduceSub, Nat.reduceLeDiff, Int.reduceAdd, Int.reduceSub, Int.reduceMul, Int.reduceLT, Int.reduceLE, Int.reduceGT, Int.reduceGE, Int.reduceEq, Int.reduceBEq, Int.reduceBNe, Int.reduceNeg, Int.reduceToNat, csAll, ↓reduceIte, k0]
  generalize hr2 : den P (.loop C20_1) _ _ = r2
  obtain ⟨E2, H2, rfl, g2, i2, k2⟩ := l20_1 m w (pre := M.slots.flatten) (by omega) (by simp only [upd_apply, Nat.reduceEqDiff, ↓reduceIte, k0]) (by simp only [upd_apply, Nat.reduceEqDiff, ↓reduceIte]) g1 (by simp only [upd_apply, Nat.reduceEqDiff, ↓reduceIte]; exact i1) hr2
  have k0' := k2 0 (by decide +kernel)
  simp only [upd_apply, Nat.reduceEqDiff, ↓reduceIte, k0] at k0'
  have h16 := w.g16.1
  obtain ⟨vq, Hq, e39, v', H', ea, gf, il⟩ := catQ m w (by simp; simp at hfs; omega) g2 i2
  simp (disch := first | omega | rfl | assumption | (simp only [csN, Nat.reduceAdd, Nat.reduceMul, Nat.reduceLeDiff, Nat.reduceEqDiff] <;> omega) | (simp only [csF]; done) | (simp only [csF] <;> assumption) | fail) only [Nat.reduceEqDiff, Nat.reduceAdd, Nat.reduceMul, Nat.reduceSub, Nat.reduceLeDiff, Int.reduceAdd, Int.reduceSub, Int.reduceMul, Int.reduceLT, Int.reduceLE, Int.reduceGT, Int.reduceGE, Int.reduceEq, Int.reduceBEq, Int.reduceBNe, Int.reduceNeg, Int.reduceToNat, csAll, ↓reduceIte, k0', e39, ea]
  exact ⟨_, _, rfl, gf, il⟩
end
end Go.Cs.Try

/- contents and state: all that a model has. -/
namespace Go.Cs
open Go
def Obj.content (x : Obj) : List Int := [x.nr, x.nd, x.kd] ++ x.refs ++ x.data
def Mdl.state (M : Mdl) : List Int := [(M.objs.length : Int), (M.slots.length : Int)] ++ M.places ++ (M.objs.map Obj.content).flatten
theorem Obj.Ok.clen {n : Nat} {x : Obj} (h : x.Ok n) : x.content.length ≤ 218 := by
  have h1 := h.nr
  have h2 := h.nd
  simp only [Obj.content, List.length_append, List.length_cons, List.length_nil]; omega
theorem flatLe {k : Nat} : ∀ {L : List (List Int)}, (∀ s ∈ L, s.length ≤ k) → L.flatten.length ≤ k * L.length
  | [], _ => by simp
  | a :: l, h => by
    rw [List.flatten_cons, List.length_append, List.length_cons, Nat.mul_add]
    have h1 := h a List.mem_cons_self
    have h2 := flatLe (L := l) (fun s hs => h s (List.mem_cons_of_mem _ hs))
    omega
theorem Mdl.Ok.plen {M : Mdl} (w : M.Ok) : M.places.length ≤ 144 := by
  have h1 := flat16 (fun s hs => (w.s16 s hs).1)
  have h2 := w.ns
  have h3 := w.g16.1
  have h4 := w.q64.1
  simp only [Mdl.places, List.length_append]; omega
theorem Mdl.Ok.olen {M : Mdl} (w : M.Ok) (i : Nat) : ((M.objs.take i).map Obj.content).flatten.length ≤ 218 * M.objs.length := by
  refine Nat.le_trans (flatLe (k := 218) (fun s hs => ?_)) (Nat.mul_le_mul_left _ (by simp; omega))
  obtain ⟨x, hx, rfl⟩ := List.mem_map.1 hs
  exact (w.objs x (List.mem_of_mem_take hx)).clen
end Go.Cs
namespace Go.Cs.Try
open Go Go.Cs
set_option maxRecDepth 100000
section
variable {o : Tags} {g : Nat} {b : Nat} {M : Mdl} {L : Lay} {H0 H : CHeap}

theorem elAt_get {l : List Int} {j : Nat} (h : j < l.length) : elAt l j = (l.getD j 0, 0) := by
  unfold elAt; rw [if_pos (by omega)]; simp

theorem l24_2 (m : MRep o g H0 b M L) (w : M.Ok) {n : Int} (hn : M.has n) {pre : List Int} (hp : pre.length ≤ 1000) {E0 : Env} {sb : Nat} (h0 : E0 0 = .ptr b 0) (h1 : E0 1 = .i n) (hs : E0 5 = .ptr sb 0) (hsb : H0.length ≤ sb) {sv : Blk} (hsv : sv = ⟨[.i (M.obj n).nr, .i (M.obj n).nd, .i (M.obj n).kd], .rw, 0⟩) (hk : H[sb]? = some sv)
    (h5 : E0 8 = .i 0) (gr : Gr H0 H) (hv : IL (sb + 1) H (E0 7) pre)
    {r : Option (CX × Env × CHeap)} (hr : den P (.loop C24_2) E0 H = r) :
    ∃ E' H', r = some (.exit 0, E', H') ∧ Gr H0 H' ∧ IL (sb + 1) H' (E' 7) (pre ++ (M.obj n).refs) ∧ H'[sb]? = some sv ∧ ∀ t, t ∉ wr C24_2 → E' t = E0 t := by
  have hob := w.obj hn
  have hnr := hob.nr
  obtain ⟨x, E', H', e, -, ⟨rfl, g1, g2, g3⟩, fr⟩ := loop_at (p := P) (c := C24_2) (E0 := E0) (H0 := H) (fun k E H => ∃ j : Nat, E 8 = .i j ∧ j ≤ (M.obj n).refs.length ∧ k = (M.obj n).refs.length - j ∧ Gr H0 H ∧ IL (sb + 1) H (E 7) (pre ++ (M.obj n).refs.take j) ∧ H[sb]? = some sv)
    (fun x E' H' => x = .exit 0 ∧ Gr H0 H' ∧ IL (sb + 1) H' (E' 7) (pre ++ (M.obj n).refs) ∧ H'[sb]? = some sv) (by
      rintro k E H hE ⟨j, e5, hj, rfl, gr, hv, hk⟩
      have e0 := (hE 0 (by decide +kernel)).trans h0
      have e1 := (hE 1 (by decide +kernel)).trans h1
      have es := (hE 5 (by decide +kernel)).trans hs
      have hkl := lt_of_get hk
      have hk' := hk
      rw [hsv] at hk'
      by_cases c : j < (M.obj n).refs.length
      · have d1 := f16 (m.gr gr) w n j
        have s1 : M.refAt n j = ((M.obj n).refs.getD j 0, 0) := by unfold Mdl.refAt; rw [if_pos hn, elAt_get c]
        rw [s1] at d1
        simp only [pair2] at d1
        obtain ⟨v', H', a1, a2, a3, a4⟩ := hv.push (by omega) (by simp; omega) ((M.obj n).refs.getD j 0)
        have hw := wrapS j (by omega)
        generalize he3 : E 7 = v3 at *
        apply step_go (k' := (M.obj n).refs.length - (j + 1))
        · simp (disch := first | omega | rfl | assumption | (simp only [csN, Nat.reduceAdd, Nat.reduceMul, Nat.reduceLeDiff, Nat.reduceEqDiff] <;> omega) | (simp only [csF]; done) | (simp only [csF] <;> assumption) | fail) only [Nat.reduceEqDiff, Nat.reduceAdd, Nat.reduceMul, Nat.reduceSub, Nat.reduceLeDiff, Int.reduceAdd, Int.reduceSub, Int.reduceMul, Int.reduceLT, Int.reduceLE, Int.reduceGT, Int.reduceGE, Int.reduceEq, Int.reduceBEq, Int.reduceBNe, Int.reduceNeg, Int.reduceToNat, csAll, ↓reduceIte, C24_2, e0, e1, es, e5, hk', d1, he3, a1, hw]
          rfl
        · omega
        · refine ⟨j + 1, by simp [upd_apply], by omega, rfl, gr.low' (by omega) (fun c hc => a4 c (by omega)), ?_, by rw [a4 sb (by omega), hk]⟩
          rw [take_snoc (getD_of 0 c), ← List.append_assoc]
          simpa [upd_apply] using a2
      · apply step_out (x := .exit 0)
        · simp (disch := first | omega | rfl | assumption | (simp only [csN, Nat.reduceAdd, Nat.reduceMul, Nat.reduceLeDiff, Nat.reduceEqDiff] <;> omega) | (simp only [csF]; done) | (simp only [csF] <;> assumption) | fail) only [Nat.reduceEqDiff, Nat.reduceAdd, Nat.reduceMul, Nat.reduceSub, Nat.reduceLeDiff, Int.reduceAdd, Int.reduceSub, Int.reduceMul, Int.reduceLT, Int.reduceLE, Int.reduceGT, Int.reduceGE, Int.reduceEq, Int.reduceBEq, Int.reduceBNe, Int.reduceNeg, Int.reduceToNat, csAll, ↓reduceIte, C24_2, es, e5, hk']
          rfl
        · simp
        · rw [take_all (by omega)] at hv
          exact ⟨rfl, gr, by simpa [upd_apply] using hv, hk⟩) _ ⟨0, h5, by omega, rfl, gr, by simpa using hv, hk⟩
  exact ⟨E', H', hr.symm.trans e, g1, g2, g3, fr⟩

theorem l24_1 (m : MRep o g H0 b M L) (w : M.Ok) {n : Int} (hn : M.has n) {pre : List Int} (hp : pre.length ≤ 1000) {E0 : Env} {sb : Nat} (h0 : E0 0 = .ptr b 0) (h1 : E0 1 = .i n) (hs : E0 5 = .ptr sb 0) (hsb : H0.length ≤ sb) {sv : Blk} (hsv : sv = ⟨[.i (M.obj n).nr, .i (M.obj n).nd, .i (M.obj n).kd], .rw, 0⟩) (hk : H[sb]? = some sv)
    (h5 : E0 11 = .i 0) (gr : Gr H0 H) (hv : IL (sb + 1) H (E0 7) pre)
    {r : Option (CX × Env × CHeap)} (hr : den P (.loop C24_1) E0 H = r) :
    ∃ E' H', r = some (.exit 2, E', H') ∧ Gr H0 H' ∧ IL (sb + 1) H' (E' 7) (pre ++ (M.obj n).data) := by
  have hob := w.obj hn
  have hnr := hob.nd
  obtain ⟨x, E', H', e, -, ⟨rfl, g1, g2⟩, fr⟩ := loop_at (p := P) (c := C24_1) (E0 := E0) (H0 := H) (fun k E H => ∃ j : Nat, E 11 = .i j ∧ j ≤ (M.obj n).data.length ∧ k = (M.obj n).data.length - j ∧ Gr H0 H ∧ IL (sb + 1) H (E 7) (pre ++ (M.obj n).data.take j) ∧ H[sb]? = some sv)
    (fun x E' H' => x = .exit 2 ∧ Gr H0 H' ∧ IL (sb + 1) H' (E' 7) (pre ++ (M.obj n).data)) (by
      rintro k E H hE ⟨j, e5, hj, rfl, gr, hv, hk⟩
      have e0 := (hE 0 (by decide +kernel)).trans h0
      have e1 := (hE 1 (by decide +kernel)).trans h1
      have es := (hE 5 (by decide +kernel)).trans hs
      have hkl := lt_of_get hk
      have hk' := hk
      rw [hsv] at hk'
      by_cases c : j < (M.obj n).data.length
      · have d1 := f47 (m.gr gr) w n j
        have s1 : M.dataAt n j = ((M.obj n).data.getD j 0, 0) := by unfold Mdl.dataAt; rw [if_pos hn, elAt_get c]
        rw [s1] at d1
        simp only [pair2] at d1
        obtain ⟨v', H', a1, a2, a3, a4⟩ := hv.push (by omega) (by simp; omega) ((M.obj n).data.getD j 0)
        have hw := wrapS j (by omega)
        generalize he3 : E 7 = v3 at *
        apply step_go (k' := (M.obj n).data.length - (j + 1))
        · simp (disch := first | omega | rfl | assumption | (simp only [csN, Nat.reduceAdd, Nat.reduceMul, Nat.reduceLeDiff, Nat.reduceEqDiff] <;> omega) | (simp only [csF]; done) | (simp only [csF] <;> assumption) | fail) only [Nat.reduceEqDiff, Nat.reduceAdd, Nat.reduceMul, Nat.reduceSub, Nat.reduceLeDiff, Int.reduceAdd, Int.reduceSub, Int.reduceMul, Int.reduceLT, Int.reduceLE, Int.reduceGT, Int.reduceGE, Int.reduceEq, Int.reduceBEq, Int.reduceBNe, Int.reduceNeg, Int.reduceToNat, csAll, ↓reduceIte, C24_1, e0, e1, es, e5, hk', d1, he3, a1, hw]
          rfl
        · omega
        · refine ⟨j + 1, by simp [upd_apply], by omega, rfl, gr.low' (by omega) (fun c hc => a4 c (by omega)), ?_, by rw [a4 sb (by omega), hk]⟩
          rw [take_snoc (getD_of 0 c), ← List.append_assoc]
          simpa [upd_apply] using a2
      · apply step_out (x := .exit 2)
        · simp (disch := first | omega | rfl | assumption | (simp only [csN, Nat.reduceAdd, Nat.reduceMul, Nat.reduceLeDiff, Nat.reduceEqDiff] <;> omega) | (simp only [csF]; done) | (simp only [csF] <;> assumption) | fail) only [Nat.reduceEqDiff, Nat.reduceAdd, Nat.reduceMul, Nat.reduceSub, Nat.reduceLeDiff, Int.reduceAdd, Int.reduceSub, Int.reduceMul, Int.reduceLT, Int.reduceLE, Int.reduceGT, Int.reduceGE, Int.reduceEq, Int.reduceBEq, Int.reduceBNe, Int.reduceNeg, Int.reduceToNat, csAll, ↓reduceIte, C24_1, es, e5, hk']
          rfl
        · simp
        · rw [take_all (by omega)] at hv
          exact ⟨rfl, gr, by simpa [upd_apply] using hv⟩) _ ⟨0, h5, by omega, rfl, gr, by simpa using hv, hk⟩
  exact ⟨E', H', hr.symm.trans e, g1, g2⟩

/-- contents. -/
theorem f24 (m : MRep o g H b M L) (w : M.Ok) {n : Int} (hn : M.has n) : ∃ v H', run P 24 [.ptr b 0, .i n] H = some (v, H') ∧ Gr H H' ∧ IL H.length H' v (M.obj n).content := by
  have d1 := f15 m w n
  have hs : M.shapeAt n = (((M.obj n).nr, (M.obj n).nd, (M.obj n).kd), 0) := by unfold Mdl.shapeAt; rw [if_pos hn]
  rw [hs] at d1
  simp only [shape3] at d1
  have hob := w.obj hn
  have hnr := hob.nr
  rw [run_lv c24]
  simp (disch := first | omega | rfl | assumption | (simp only [csN, Nat.reduceAdd, Nat.reduceMul, Nat.reduceLeDiff, Nat.reduceEqDiff] <;> omega) | (simp only [csF]; done) | (simp only [csF] <;> assumption) | fail) only [Nat.reduceEqDiff, Nat.reduceAdd, Nat.reduceMul, Nat.reduceSub, Nat.reduceLeDiff, Int.reduceAdd, Int.reduceSub, Int.reduceMul, Int.reduceLT, Int.reduceLE, Int.reduceGT, Int.reduceGE, Int.reduceEq, Int.reduceBEq, Int.reduceBNe, Int.reduceNeg, Int.reduceToNat, csAll, ↓reduceIte, C24, entry_2, d1]
  generalize hr : den P (.loop C24_2) _ _ = r
  have gr0 : Gr H (H ++ [⟨[.i (M.obj n).nr, .i (M.obj n).nd, .i (M.obj n).kd], .rw, 0⟩] ++ [⟨[.i (M.obj n).nr, .i (M.obj n).nd, .i (M.obj n).kd], .rw, 0⟩] ++ [⟨[.i (M.obj n).nr, .i (M.obj n).nd, .i (M.obj n).kd], .rw, 1⟩]) := ((Gr.app _ _).app' _).app' _
  have gl : (H ++ [⟨[.i (M.obj n).nr, .i (M.obj n).nd, .i (M.obj n).kd], .rw, 0⟩] ++ [⟨[.i (M.obj n).nr, .i (M.obj n).nd, .i (M.obj n).kd], .rw, 0⟩] : CHeap)[H.length + 1]? = some ⟨[.i (M.obj n).nr, .i (M.obj n).nd, .i (M.obj n).kd], .rw, 0⟩ := by simp
  obtain ⟨E1, H1, rfl, g1, i1, q1, k1⟩ := l24_2 m w hn (pre := [(M.obj n).nr, (M.obj n).nd, (M.obj n).kd]) (sb := H.length + 1) (by simp) (by simp only [upd_apply, Nat.reduceEqDiff, ↓reduceIte]) (by simp only [upd_apply, Nat.reduceEqDiff, ↓reduceIte]) (by simp only [upd_apply, Nat.reduceEqDiff, ↓reduceIte]) (by omega) rfl
    (by rw [List.getElem?_append_left (by simp), gl]) (by simp only [upd_apply, Nat.reduceEqDiff, ↓reduceIte]) gr0 (by simp only [upd_apply, Nat.reduceEqDiff, ↓reduceIte]; exact IL.blk (b := H.length + 1 + 1) (by omega) (look_last (by simp)) rfl) hr
  have k0 := k1 0 (by decide +kernel)
  have k1' := k1 1 (by decide +kernel)
  have k5 := k1 5 (by decide +kernel)
  simp only [upd_apply, Nat.reduceEqDiff, ↓reduceIte] at k0 k1' k5
  simp (disch := first | omega | rfl | assumption | (simp only [csN, Nat.reduceAdd, Nat.reduceMul, Nat.reduceLeDiff, Nat.reduceEqDiff] <;> omega) | (simp only [csF]; done) | (simp only [csF] <;> assumption) | fail) only [Nat.reduceEqDiff, Nat.reduceAdd, Nat.reduceMul, Nat.reduceSub, Nat.reduceLeDiff, Int.reduceAdd, Int.reduceSub, Int.reduceMul, Int.reduceLT, Int.reduceLE, Int.reduceGT, Int.reduceGE, Int.reduceEq, Int.reduceBEq, Int.reduceBNe, Int.reduceNeg, Int.reduceToNat, csAll, ↓reduceIte]
  generalize hr2 : den P (.loop C24_1) _ _ = r2
  obtain ⟨E2, H2, rfl, g2, i2⟩ := l24_1 m w hn (pre := [(M.obj n).nr, (M.obj n).nd, (M.obj n).kd] ++ (M.obj n).refs) (sb := H.length + 1) (by simp; omega) (by simp only [upd_apply, Nat.reduceEqDiff, ↓reduceIte, k0]) (by simp only [upd_apply, Nat.reduceEqDiff, ↓reduceIte, k1']) (by simp only [upd_apply, Nat.reduceEqDiff, ↓reduceIte, k5]) (by omega) rfl q1 (by simp only [upd_apply, Nat.reduceEqDiff, ↓reduceIte]) g1 (by simp only [upd_apply, Nat.reduceEqDiff, ↓reduceIte]; exact i1) hr2
  simp (disch := first | omega | rfl | assumption | (simp only [csN, Nat.reduceAdd, Nat.reduceMul, Nat.reduceLeDiff, Nat.reduceEqDiff] <;> omega) | (simp only [csF]; done) | (simp only [csF] <;> assumption) | fail) only [Nat.reduceEqDiff, Nat.reduceAdd, Nat.reduceMul, Nat.reduceSub, Nat.reduceLeDiff, Int.reduceAdd, Int.reduceSub, Int.reduceMul, Int.reduceLT, Int.reduceLE, Int.reduceGT, Int.reduceGE, Int.reduceEq, Int.reduceBEq, Int.reduceBNe, Int.reduceNeg, Int.reduceToNat, csAll, ↓reduceIte]
  exact ⟨_, _, rfl, g2, i2.locMono (by omega)⟩
end
end Go.Cs.Try

/- state: all that a model has. -/
namespace Go.Cs.Try
open Go Go.Cs
set_option maxRecDepth 100000
section
variable {o : Tags} {g : Nat} {b : Nat} {M : Mdl} {L : Lay} {H0 H : CHeap}

theorem l28_3 (m : MRep o g H0 b M L) (w : M.Ok) {i : Nat} {s : List Int} (hs : M.slots[i]? = some s) {pre : List Int} (hp : pre.length ≤ 1000) {E0 : Env} (h0 : E0 0 = .ptr b 0) (h4 : E0 4 = .i i) (h5 : E0 5 = .i 0) (gr : Gr H0 H) (hv : IL H0.length H (E0 3) pre)
    {r : Option (CX × Env × CHeap)} (hr : den P (.loop C28_3) E0 H = r) :
    ∃ E' H', r = some (.exit 2, E', H') ∧ Gr H0 H' ∧ IL H0.length H' (E' 3) (pre ++ s) ∧ ∀ t, t ∉ wr C28_3 → E' t = E0 t := by
  have h16 := (w.s16 _ (List.mem_of_getElem? hs)).1
  obtain ⟨x, E', H', e, -, ⟨rfl, g1, g2⟩, fr⟩ := loop_at (p := P) (c := C28_3) (E0 := E0) (H0 := H) (fun k E H => ∃ j : Nat, E 5 = .i j ∧ j ≤ 16 ∧ k = 16 - j ∧ Gr H0 H ∧ IL H0.length H (E 3) (pre ++ s.take j))
    (fun x E' H' => x = .exit 2 ∧ Gr H0 H' ∧ IL H0.length H' (E' 3) (pre ++ s)) (by
      rintro k E H hE ⟨j, e5, hj, rfl, gr, hv⟩
      have e0 := (hE 0 (by decide +kernel)).trans h0
      have e4 := (hE 4 (by decide +kernel)).trans h4
      by_cases c : j < 16
      · obtain ⟨s1, s2⟩ := Mdl.slot_val w hs c
        have d1 := f25 (m.gr gr) w i j
        rw [s1] at d1
        simp only [pair2] at d1
        obtain ⟨v', H', a1, a2, a3, a4⟩ := hv.push gr.len (by simp; omega) (s.getD j 0)
        have hw := wrapS j (by omega)
        generalize he3 : E 3 = v3 at *
        apply step_go (k' := 16 - (j + 1))
        · simp (disch := first | omega | rfl | assumption | (simp only [csN, Nat.reduceAdd, Nat.reduceMul, Nat.reduceLeDiff, Nat.reduceEqDiff] <;> omega) | (simp only [csF]; done) | (simp only [csF] <;> assumption) | fail) only [Nat.reduceEqDiff, Nat.reduceAdd, Nat.reduceMul, Nat.reduceSub, Nat.reduceLeDiff, Int.reduceAdd, Int.reduceSub, Int.reduceMul, Int.reduceLT, Int.reduceLE, Int.reduceGT, Int.reduceGE, Int.reduceEq, Int.reduceBEq, Int.reduceBNe, Int.reduceNeg, Int.reduceToNat, csAll, ↓reduceIte, C28_3, e0, e4, e5, d1, he3, a1, hw]
          rfl
        · omega
        · refine ⟨j + 1, by simp [upd_apply], by omega, rfl, gr.low' a3 a4, ?_⟩
          rw [take_snoc s2, ← List.append_assoc]
          simpa [upd_apply] using a2
      · apply step_out (x := .exit 2)
        · simp (disch := first | omega | rfl | assumption | (simp only [csN, Nat.reduceAdd, Nat.reduceMul, Nat.reduceLeDiff, Nat.reduceEqDiff] <;> omega) | (simp only [csF]; done) | (simp only [csF] <;> assumption) | fail) only [Nat.reduceEqDiff, Nat.reduceAdd, Nat.reduceMul, Nat.reduceSub, Nat.reduceLeDiff, Int.reduceAdd, Int.reduceSub, Int.reduceMul, Int.reduceLT, Int.reduceLE, Int.reduceGT, Int.reduceGE, Int.reduceEq, Int.reduceBEq, Int.reduceBNe, Int.reduceNeg, Int.reduceToNat, csAll, ↓reduceIte, C28_3, e5]
          rfl
        · simp
        · rw [take_all (by omega)] at hv
          exact ⟨rfl, gr, by simpa [upd_apply] using hv⟩) 16 ⟨0, h5, by omega, rfl, gr, by simpa using hv⟩
  exact ⟨E', H', hr.symm.trans e, g1, g2, fr⟩

theorem l28_2 (m : MRep o g H0 b M L) (w : M.Ok) {pre : List Int} (hp : pre.length ≤ 1000) {E0 : Env} (h0 : E0 0 = .ptr b 0) (h5 : E0 8 = .i 0) (gr : Gr H0 H) (hv : IL H0.length H (E0 3) pre)
    {r : Option (CX × Env × CHeap)} (hr : den P (.loop C28_2) E0 H = r) :
    ∃ E' H', r = some (.exit 4, E', H') ∧ Gr H0 H' ∧ IL H0.length H' (E' 3) (pre ++ M.globals) ∧ ∀ t, t ∉ wr C28_2 → E' t = E0 t := by
  have h16 := w.g16.1
  obtain ⟨x, E', H', e, -, ⟨rfl, g1, g2⟩, fr⟩ := loop_at (p := P) (c := C28_2) (E0 := E0) (H0 := H) (fun k E H => ∃ j : Nat, E 8 = .i j ∧ j ≤ 16 ∧ k = 16 - j ∧ Gr H0 H ∧ IL H0.length H (E 3) (pre ++ M.globals.take j))
    (fun x E' H' => x = .exit 4 ∧ Gr H0 H' ∧ IL H0.length H' (E' 3) (pre ++ M.globals)) (by
      rintro k E H hE ⟨j, e5, hj, rfl, gr, hv⟩
      have e0 := (hE 0 (by decide +kernel)).trans h0
      by_cases c : j < 16
      · have s2 := getD_of (l := M.globals) (i := j) 0 (by omega)
        have d1 := f37 (m.gr gr) w j
        have s1 : M.globalAt j = (M.globals.getD j 0, 0) := by unfold Mdl.globalAt; rw [if_pos (by omega)]; simp
        rw [s1] at d1
        simp only [pair2] at d1
        obtain ⟨v', H', a1, a2, a3, a4⟩ := hv.push gr.len (by simp; omega) (M.globals.getD j 0)
        have hw := wrapS j (by omega)
        generalize he3 : E 3 = v3 at *
        apply step_go (k' := 16 - (j + 1))
        · simp (disch := first | omega | rfl | assumption | (simp only [csN, Nat.reduceAdd, Nat.reduceMul, Nat.reduceLeDiff, Nat.reduceEqDiff] <;> omega) | (simp only [csF]; done) | (simp only [csF] <;> assumption) | fail) only [Nat.reduceEqDiff, Nat.reduceAdd, Nat.reduceMul, Nat.reduceSub, Nat.reduceLeDiff, Int.reduceAdd, Int.reduceSub, Int.reduceMul, Int.reduceLT, Int.reduceLE, Int.reduceGT, Int.reduceGE, Int.reduceEq, Int.reduceBEq, Int.reduceBNe, Int.reduceNeg, Int.reduceToNat, csAll, ↓reduceIte, C28_2, e0, e5, d1, he3, a1, hw]
          rfl
        · omega
        · refine ⟨j + 1, by simp [upd_apply], by omega, rfl, gr.low' a3 a4, ?_⟩
          rw [take_snoc s2, ← List.append_assoc]
          simpa [upd_apply] using a2
      · apply step_out (x := .exit 4)
        · simp (disch := first | omega | rfl | assumption | (simp only [csN, Nat.reduceAdd, Nat.reduceMul, Nat.reduceLeDiff, Nat.reduceEqDiff] <;> omega) | (simp only [csF]; done) | (simp only [csF] <;> assumption) | fail) only [Nat.reduceEqDiff, Nat.reduceAdd, Nat.reduceMul, Nat.reduceSub, Nat.reduceLeDiff, Int.reduceAdd, Int.reduceSub, Int.reduceMul, Int.reduceLT, Int.reduceLE, Int.reduceGT, Int.reduceGE, Int.reduceEq, Int.reduceBEq, Int.reduceBNe, Int.reduceNeg, Int.reduceToNat, csAll, ↓reduceIte, C28_2, e5]
          rfl
        · simp
        · rw [take_all (by omega)] at hv
          exact ⟨rfl, gr, by simpa [upd_apply] using hv⟩) 16 ⟨0, h5, by omega, rfl, gr, by simpa using hv⟩
  exact ⟨E', H', hr.symm.trans e, g1, g2, fr⟩

theorem l28_4 (m : MRep o g H0 b M L) (w : M.Ok) {E0 : Env} (h0 : E0 0 = .ptr b 0) (h5 : E0 4 = .i 0) (gr : Gr H0 H) {pre : List Int} (hp : pre.length ≤ 10) (hv : IL H0.length H (E0 3) pre)
    {r : Option (CX × Env × CHeap)} (hr : den P (.loop C28_4) E0 H = r) :
    ∃ E' H', r = some (.exit 0, E', H') ∧ Gr H0 H' ∧ IL H0.length H' (E' 3) (pre ++ M.slots.flatten) ∧ ∀ t, t ∉ wr C28_4 → E' t = E0 t := by
  have hns := w.ns
  obtain ⟨x, E', H', e, -, ⟨rfl, g1, g2⟩, fr⟩ := loop_at (p := P) (c := C28_4) (E0 := E0) (H0 := H) (fun k E H => ∃ j : Nat, E 4 = .i j ∧ j ≤ M.slots.length ∧ k = M.slots.length - j ∧ Gr H0 H ∧ IL H0.length H (E 3) (pre ++ (M.slots.take j).flatten))
    (fun x E' H' => x = .exit 0 ∧ Gr H0 H' ∧ IL H0.length H' (E' 3) (pre ++ M.slots.flatten)) (by
      rintro k E H hE ⟨j, e5, hj, rfl, gr, hv⟩
      have e0 := (hE 0 (by decide +kernel)).trans h0
      have d1 := f22 (m.gr gr) w
      by_cases c : j < M.slots.length
      · have s2 := getD_of (l := M.slots) (i := j) [] (by omega)
        have hw := wrapS j (by omega)
        have hfs := flatSlots w j
        have key : ∃ E' H', den P C28_4 E H = some (.normal, E', H') ∧ E' 4 = .i ((j + 1 : Nat) : Int) ∧ Gr H0 H' ∧ IL H0.length H' (E' 3) (pre ++ (M.slots.take (j + 1)).flatten) := by
          simp (disch := first | omega | rfl | assumption | (simp only [csN, Nat.reduceAdd, Nat.reduceMul, Nat.reduceLeDiff, Nat.reduceEqDiff] <;> omega) | (simp only [csF]; done) | (simp only [csF] <;> assumption) | fail) only [Nat.reduceEqDiff, Nat.reduceAdd, Nat.reduceMul, Nat.reduceSub, Nat.reduceLeDiff, Int.reduceAdd, Int.reduceSub, Int.reduceMul, Int.reduceLT, Int.reduceLE, Int.reduceGT, Int.reduceGE, Int.reduceEq, Int.reduceBEq, Int.reduceBNe, Int.reduceNeg, Int.reduceToNat, csAll, ↓reduceIte, C28_4, e0, e5, d1]
          generalize hr : den P (.loop C28_3) _ _ = r
          obtain ⟨E2, H2, rfl, q1, q2, q3⟩ := l28_3 m w (pre := pre ++ (M.slots.take j).flatten) s2 (by simp; simp at hfs; omega) (by simp only [upd_apply, Nat.reduceEqDiff, ↓reduceIte, e0]) (by simp only [upd_apply, Nat.reduceEqDiff, ↓reduceIte, e5]) (by simp only [upd_apply, Nat.reduceEqDiff, ↓reduceIte]) gr (by simp only [upd_apply, Nat.reduceEqDiff, ↓reduceIte]; exact hv) hr
          have k4 := q3 4 (by decide +kernel)
          simp only [upd_apply, Nat.reduceEqDiff, ↓reduceIte, e5] at k4
          simp (disch := first | omega | rfl | assumption | (simp only [csN, Nat.reduceAdd, Nat.reduceMul, Nat.reduceLeDiff, Nat.reduceEqDiff] <;> omega) | (simp only [csF]; done) | (simp only [csF] <;> assumption) | fail) only [Nat.reduceEqDiff, Nat.reduceAdd, Nat.reduceMul, Nat.reduceSub, Nat.reduceLeDiff, Int.reduceAdd, Int.reduceSub, Int.reduceMul, Int.reduceLT, Int.reduceLE, Int.reduceGT, Int.reduceGE, Int.reduceEq, Int.reduceBEq, Int.reduceBNe, Int.reduceNeg, Int.reduceToNat, csAll, ↓reduceIte, k4, hw]
          refine ⟨_, _, rfl, by simp [upd_apply], q1, ?_⟩
          rw [take_snoc s2, List.flatten_append, List.flatten_singleton, ← List.append_assoc]
          simpa [upd_apply] using q2
        obtain ⟨E', H', k1, k2, k3, k4⟩ := key
        exact step_go (k' := M.slots.length - (j + 1)) k1 (by omega) ⟨j + 1, k2, by omega, rfl, k3, k4⟩
      · apply step_out (x := .exit 0)
        · simp (disch := first | omega | rfl | assumption | (simp only [csN, Nat.reduceAdd, Nat.reduceMul, Nat.reduceLeDiff, Nat.reduceEqDiff] <;> omega) | (simp only [csF]; done) | (simp only [csF] <;> assumption) | fail) only [Nat.reduceEqDiff, Nat.reduceAdd, Nat.reduceMul, Nat.reduceSub, Nat.reduceLeDiff, Int.reduceAdd, Int.reduceSub, Int.reduceMul, Int.reduceLT, Int.reduceLE, Int.reduceGT, Int.reduceGE, Int.reduceEq, Int.reduceBEq, Int.reduceBNe, Int.reduceNeg, Int.reduceToNat, csAll, ↓reduceIte, C28_4, e0, e5, d1]
          rfl
        · simp
        · rw [take_all (by omega)] at hv
          exact ⟨rfl, gr, by simpa [upd_apply] using hv⟩) M.slots.length ⟨0, h5, by omega, rfl, gr, by simpa using hv⟩
  exact ⟨E', H', hr.symm.trans e, g1, g2, fr⟩


theorem Mdl.obj_at {M : Mdl} {j : Nat} (h : j < M.objs.length) : M.objs[j]? = some (M.obj ((j + 1 : Nat) : Int)) := by
  have := Mdl.obj_get (M := M) (n := ((j + 1 : Nat) : Int)) (by unfold Mdl.has; omega)
  have e : (((j + 1 : Nat) : Int) - 1).toNat = j := by omega
  rw [e] at this; exact this

theorem l28_1 (m : MRep o g H0 b M L) (w : M.Ok) (hf : M.objs.length ≤ 1000) {pre : List Int} (hp : pre.length ≤ 1000) {E0 : Env} (h0 : E0 0 = .ptr b 0) (h5 : E0 11 = .i 1) (gr : Gr H0 H) (hv : IL H0.length H (E0 3) pre)
    {r : Option (CX × Env × CHeap)} (hr : den P (.loop C28_1) E0 H = r) :
    ∃ E' H', r = some (.exit 6, E', H') ∧ Gr H0 H' ∧ IL H0.length H' (E' 3) (pre ++ (M.objs.map Obj.content).flatten) := by
  obtain ⟨x, E', H', e, -, ⟨rfl, g1, g2⟩, fr⟩ := loop_at (p := P) (c := C28_1) (E0 := E0) (H0 := H) (fun k E H => ∃ j : Nat, E 11 = .i ((j + 1 : Nat) : Int) ∧ j ≤ M.objs.length ∧ k = M.objs.length - j ∧ Gr H0 H ∧ IL H0.length H (E 3) (pre ++ ((M.objs.take j).map Obj.content).flatten))
    (fun x E' H' => x = .exit 6 ∧ Gr H0 H' ∧ IL H0.length H' (E' 3) (pre ++ (M.objs.map Obj.content).flatten)) (by
      rintro k E H hE ⟨j, e5, hj, rfl, gr, hv⟩
      have e0 := (hE 0 (by decide +kernel)).trans h0
      have d1 := f23 (m.gr gr) w
      by_cases c : j < M.objs.length
      · have hh : M.has ((j + 1 : Nat) : Int) := by unfold Mdl.has; omega
        obtain ⟨vc, Hc, d2, gc, ic⟩ := f24 (m.gr gr) w hh
        have hcl := (w.obj hh).clen
        have hol := w.olen j
        have he := ic.elems (H' := Hc) (fun _ _ => rfl)
        obtain ⟨v', H', a1, a2, a3, a4⟩ := IL.cat (l2 := (M.obj ((j + 1 : Nat) : Int)).content) (hv.gr gc) (by have := gr.len; have := gc.len; omega) (by simp only [List.length_append]; omega)
        have hap : vAppend 1 (E 3) (elems Hc 1 vc) Hc = some (v', H') := by rw [he, vAppend_s, a1]
        have hw := wrapS (j + 1) (by omega)
        generalize he3 : E 3 = v3 at *
        apply step_go (k' := M.objs.length - (j + 1))
        · simp (disch := first | omega | rfl | assumption | (simp only [csN, Nat.reduceAdd, Nat.reduceMul, Nat.reduceLeDiff, Nat.reduceEqDiff] <;> omega) | (simp only [csF]; done) | (simp only [csF] <;> assumption) | fail) only [Nat.reduceEqDiff, Nat.reduceAdd, Nat.reduceMul, Nat.reduceSub, Nat.reduceLeDiff, Int.reduceAdd, Int.reduceSub, Int.reduceMul, Int.reduceLT, Int.reduceLE, Int.reduceGT, Int.reduceGE, Int.reduceEq, Int.reduceBEq, Int.reduceBNe, Int.reduceNeg, Int.reduceToNat, csAll, ↓reduceIte, C28_1, e0, e5, d1, d2, he3, hap, hw]
          rfl
        · omega
        · refine ⟨j + 1, by simp [upd_apply], by omega, rfl, (gr.trans gc).low' a3 a4, ?_⟩
          rw [take_snoc (Mdl.obj_at c), List.map_append, List.flatten_append, List.map_cons, List.map_nil, List.flatten_singleton, ← List.append_assoc]
          simpa [upd_apply] using a2
      · apply step_out (x := .exit 6)
        · simp (disch := first | omega | rfl | assumption | (simp only [csN, Nat.reduceAdd, Nat.reduceMul, Nat.reduceLeDiff, Nat.reduceEqDiff] <;> omega) | (simp only [csF]; done) | (simp only [csF] <;> assumption) | fail) only [Nat.reduceEqDiff, Nat.reduceAdd, Nat.reduceMul, Nat.reduceSub, Nat.reduceLeDiff, Int.reduceAdd, Int.reduceSub, Int.reduceMul, Int.reduceLT, Int.reduceLE, Int.reduceGT, Int.reduceGE, Int.reduceEq, Int.reduceBEq, Int.reduceBNe, Int.reduceNeg, Int.reduceToNat, csAll, ↓reduceIte, C28_1, e0, e5, d1]
          rfl
        · simp
        · rw [take_all (by omega)] at hv
          exact ⟨rfl, gr, by simpa [upd_apply] using hv⟩) M.objs.length ⟨0, h5, by omega, rfl, gr, by simpa using hv⟩
  exact ⟨E', H', hr.symm.trans e, g1, g2⟩

/-- state. -/
theorem f28 (m : MRep o g H b M L) (w : M.Ok) (hf : M.objs.length ≤ 1000) : ∃ v H', run P 28 [.ptr b 0] H = some (v, H') ∧ Gr H H' ∧ IL H.length H' v M.state := by
  have d1 := f23 m w
  have d2 := f22 m w
  rw [run_lv c28]
  simp (disch := first | omega | rfl | assumption | (simp only [csN, Nat.reduceAdd, Nat.reduceMul, Nat.reduceLeDiff, Nat.reduceEqDiff] <;> omega) | (simp only [csF]; done) | (simp only [csF] <;> assumption) | fail) only [Nat.reduceEqDiff, Nat.reduceAdd, Nat.reduceMul, Nat.reduceSub, Nat.reduceLeDiff, Int.reduceAdd, Int.reduceSub, Int.reduceMul, Int.reduceLT, Int.reduceLE, Int.reduceGT, Int.reduceGE, Int.reduceEq, Int.reduceBEq, Int.reduceBNe, Int.reduceNeg, Int.reduceToNat, csAll, ↓reduceIte, C28, entry_1, d1, d2]
  generalize hr : den P (.loop C28_4) _ _ = r
  obtain ⟨E1, H1, rfl, g1, i1, k1⟩ := l28_4 m w (pre := [(M.objs.length : Int), (M.slots.length : Int)]) (by simp only [upd_apply, Nat.reduceEqDiff, ↓reduceIte]) (by simp only [upd_apply, Nat.reduceEqDiff, ↓reduceIte]) (.app H _) (by simp) (by simp only [upd_apply, Nat.reduceEqDiff, ↓reduceIte]; exact IL.blk (b := H.length) (by omega) (look_last rfl) rfl) hr
  have k0 := k1 0 (by decide +kernel)
  simp only [upd_apply, Nat.reduceEqDiff, ↓reduceIte] at k0
  have hfs := flatSlots w M.slots.length
  rw [take_all (Nat.le_refl _)] at hfs
  simp (disch := first | omega | rfl | assumption | (simp only [csN, Nat.reduceAdd, Nat.reduceMul, Nat.reduceLeDiff, Nat.reduceEqDiff] <;> omega) | (simp only [csF]; done) | (simp only [csF] <;> assumption) | fail) only [Nat.reduceEqDiff, Nat.reduceAdd, Nat.reduceMul, Nat.reduceSub, Nat.reduceLeDiff, Int.reduceAdd, Int.reduceSub, Int.reduceMul, Int.reduceLT, Int.reduceLE, Int.reduceGT, Int.reduceGE, Int.reduceEq, Int.reduceBEq, Int.reduceBNe, Int.reduceNeg, Int.reduceToNat, csAll, ↓reduceIte, k0]
  generalize hr2 : den P (.loop C28_2) _ _ = r2
  obtain ⟨E2, H2, rfl, g2, i2, k2⟩ := l28_2 m w (pre := [(M.objs.length : Int), (M.slots.length : Int)] ++ M.slots.flatten) (by simp only [List.length_append, List.length_cons, List.length_nil]; omega) (by simp only [upd_apply, Nat.reduceEqDiff, ↓reduceIte, k0]) (by simp only [upd_apply, Nat.reduceEqDiff, ↓reduceIte]) g1 (by simp only [upd_apply, Nat.reduceEqDiff, ↓reduceIte]; exact i1) hr2
  have k0' := k2 0 (by decide +kernel)
  simp only [upd_apply, Nat.reduceEqDiff, ↓reduceIte, k0] at k0'
  have h16 := w.g16.1
  obtain ⟨vq, Hq, e39, v', H', ea, gf, il⟩ := catQ m w (by simp only [List.length_append, List.length_cons, List.length_nil]; omega) g2 i2
  simp (disch := first | omega | rfl | assumption | (simp only [csN, Nat.reduceAdd, Nat.reduceMul, Nat.reduceLeDiff, Nat.reduceEqDiff] <;> omega) | (simp only [csF]; done) | (simp only [csF] <;> assumption) | fail) only [Nat.reduceEqDiff, Nat.reduceAdd, Nat.reduceMul, Nat.reduceSub, Nat.reduceLeDiff, Int.reduceAdd, Int.reduceSub, Int.reduceMul, Int.reduceLT, Int.reduceLE, Int.reduceGT, Int.reduceGE, Int.reduceEq, Int.reduceBEq, Int.reduceBNe, Int.reduceNeg, Int.reduceToNat, csAll, ↓reduceIte, k0', e39, ea]
  generalize hr3 : den P (.loop C28_1) _ _ = r3
  obtain ⟨E3, H3, rfl, g3, i3⟩ := l28_1 m w hf (pre := [(M.objs.length : Int), (M.slots.length : Int)] ++ M.places) (by have := w.plen; simp only [List.length_append, List.length_cons, List.length_nil]; omega) (by simp only [upd_apply, Nat.reduceEqDiff, ↓reduceIte, k0']) (by simp only [upd_apply, Nat.reduceEqDiff, ↓reduceIte]) gf (by simp only [upd_apply, Nat.reduceEqDiff, ↓reduceIte]; simpa [Mdl.places] using il) hr3
  simp (disch := first | omega | rfl | assumption | (simp only [csN, Nat.reduceAdd, Nat.reduceMul, Nat.reduceLeDiff, Nat.reduceEqDiff] <;> omega) | (simp only [csF]; done) | (simp only [csF] <;> assumption) | fail) only [Nat.reduceEqDiff, Nat.reduceAdd, Nat.reduceMul, Nat.reduceSub, Nat.reduceLeDiff, Int.reduceAdd, Int.reduceSub, Int.reduceMul, Int.reduceLT, Int.reduceLE, Int.reduceGT, Int.reduceGE, Int.reduceEq, Int.reduceBEq, Int.reduceBNe, Int.reduceNeg, Int.reduceToNat, csAll, ↓reduceIte]
  exact ⟨_, _, rfl, g3, i3⟩
end
end Go.Cs.Try

/- ModelRefused: the walk. -/
namespace Go.Cs
open Go
theorem Mdl.doAct_err {M : Mdl} {mu : Int} {x : Act} (h : (M.doAct mu x).2.2 ≠ 0) : (M.doAct mu x).1 = M := by
  unfold Mdl.doAct at h ⊢
  split at h
  · exact absurd rfl h
  · rename_i hc; rw [if_neg hc]
theorem Mdl.step_err {M : Mdl} {x : Stp} (h : (M.step x).2 ≠ 0) : (M.step x).1 = M := by
  unfold Mdl.step at h ⊢
  split at h
  · rename_i c; rw [if_pos c]; exact Mdl.doAct_err h
  · rename_i c
    rw [if_neg c]
    split at h
    · exact absurd rfl h
    · rename_i c
      rw [if_neg c]
      split at h
      · rename_i c
        rw [if_pos c]
        unfold Mdl.push at h ⊢
        split at h
        · split at h
          · rename_i c1 c2; rw [if_pos c1, if_pos c2]
          · exact absurd rfl h
        · rename_i c1; rw [if_neg c1]
      · rename_i c
        rw [if_neg c]
        split at h
        · rename_i c
          rw [if_pos c]
          unfold Mdl.pop at h ⊢
          split at h
          · rfl
          · exact absurd rfl h
        · rename_i c
          rw [if_neg c]
          split at h
          · rename_i c
            rw [if_pos c]
            unfold Mdl.setRef at h ⊢
            split at h
            · split at h
              · exact absurd rfl h
              · rename_i c1 c2; rw [if_pos c1, if_neg c2]
            · rename_i c1; rw [if_neg c1]
          · exact absurd rfl h
theorem Mdl.Ok.stlen {M : Mdl} (w : M.Ok) (hf : M.objs.length ≤ 1000) : M.state.length ≤ 16777216 := by
  have h1 := w.plen
  have h2 := w.olen M.objs.length
  rw [take_all (Nat.le_refl _)] at h2
  simp only [Mdl.state, List.length_append, List.length_cons, List.length_nil]; omega
theorem tag_none {o : Tags} {H : CHeap} (hd : ∀ c t, o c = some t → c < H.length) : o H.length = none := by
  cases h : o H.length with
  | none => rfl
  | some t => have := hd _ _ h; omega
end Go.Cs
namespace Go.Cs.Try
open Go Go.Cs
set_option maxRecDepth 100000
set_option maxHeartbeats 8000000
theorem f8 {o : Tags} {H : CHeap} {v : CV} {l : List Stp} (hd : ∀ c t, o c = some t → c < H.length) (hg : ∀ c k, o c ≠ some (0, k)) (st : Steps o H v l) (nn : Int) (x : Stp) :
    ∃ H', run P 8 [.i nn, v, .agg (stpCells x)] H = some (.bool true, H') := by
  have frb : Frm 0 o H o (H ++ [(⟨stpCells x, .rw, 0⟩ : Blk)]) := .app hd _
  have st0 := st.frm frb
  have hd0 : ∀ c t, o c = some t → c < (H ++ [(⟨stpCells x, .rw, 0⟩ : Blk)]).length := fun c t h => by have := hd c t h; simp; omega
  by_cases hok : (1 ≤ nn ∧ nn ≤ 4) ∧ l.length ≤ 120
  case neg =>
    obtain ⟨H1, e12⟩ := f12_no (H := H ++ [(⟨stpCells x, .rw, 0⟩ : Blk)]) (n := nn) st.len (by omega)
    obtain ⟨H2, e13⟩ := f13 (H := H1)
    apply ex_run
    rw [run_lv c8]
    simp (disch := first | omega | rfl | assumption | (simp only [csN, Nat.reduceAdd, Nat.reduceMul, Nat.reduceLeDiff, Nat.reduceEqDiff] <;> omega) | (simp only [csF]; done) | (simp only [csF] <;> assumption) | fail) only [Nat.reduceEqDiff, Nat.reduceAdd, Nat.reduceMul, Nat.reduceSub, Nat.reduceLeDiff, Int.reduceAdd, Int.reduceSub, Int.reduceMul, Int.reduceLT, Int.reduceLE, Int.reduceGT, Int.reduceGE, Int.reduceEq, Int.reduceBEq, Int.reduceBNe, Int.reduceNeg, Int.reduceToNat, csAll, ↓reduceIte, C8, entry_3, e12, e13]
    rfl
  obtain ⟨hn, hl⟩ := hok
  obtain ⟨n, rfl⟩ : ∃ n : Nat, nn = (n : Int) := ⟨nn.toNat, by omega⟩
  obtain ⟨b, H1, o1, L1, e12, m, fr1⟩ := f12 (g := 0) hd0 hg (n := n) (by omega) hl st0
  obtain ⟨w, hob⟩ := madeM_ok (n := n) (by omega) l (by omega)
  obtain ⟨bx1, bo1⟩ := fr1.kept (k := ⟨stpCells x, .rw, 0⟩) (look_last rfl) (tag_none hd)

  simp only [stpCells] at bx1
  by_cases hk : x.k = 1
  · obtain ⟨H2, e13⟩ := f13 (H := H1)
    apply ex_run
    rw [run_lv c8]
    simp (disch := first | omega | rfl | assumption | (simp only [csN, Nat.reduceAdd, Nat.reduceMul, Nat.reduceLeDiff, Nat.reduceEqDiff] <;> omega) | (simp only [csF]; done) | (simp only [csF] <;> assumption) | fail) only [Nat.reduceEqDiff, Nat.reduceAdd, Nat.reduceMul, Nat.reduceSub, Nat.reduceLeDiff, Int.reduceAdd, Int.reduceSub, Int.reduceMul, Int.reduceLT, Int.reduceLE, Int.reduceGT, Int.reduceGE, Int.reduceEq, Int.reduceBEq, Int.reduceBNe, Int.reduceNeg, Int.reduceToNat, csAll, ↓reduceIte, C8, entry_3, e12, e13, bx1, hk]
    rfl
  obtain ⟨v8, H2, e28, g2, i2⟩ := f28 m w (by omega)
  have m2 := m.gr g2
  obtain ⟨H3, o3, L3, e21, m3, fr3⟩ := f21 m2 w (by omega) x
  have bx2 := g2.get bx1
  simp only [stpCells] at e21
  by_cases he : ((madeM n l).step x).2 = 0
  · obtain ⟨Hf, ef⟩ := f13 (H := H3)
    rw [he] at e21
    apply ex_run
    rw [run_lv c8]
    simp (disch := first | omega | rfl | assumption | (simp only [csN, Nat.reduceAdd, Nat.reduceMul, Nat.reduceLeDiff, Nat.reduceEqDiff] <;> omega) | (simp only [csF]; done) | (simp only [csF] <;> assumption) | fail) only [Nat.reduceEqDiff, Nat.reduceAdd, Nat.reduceMul, Nat.reduceSub, Nat.reduceLeDiff, Int.reduceAdd, Int.reduceSub, Int.reduceMul, Int.reduceLT, Int.reduceLE, Int.reduceGT, Int.reduceGE, Int.reduceEq, Int.reduceBEq, Int.reduceBNe, Int.reduceNeg, Int.reduceToNat, csAll, ↓reduceIte, C8, entry_3, e12, e28, e21, ef, bx1, bx2, hk]
    rfl
  · rw [Mdl.step_err he] at m3
    obtain ⟨v30, H4, e30, g4, i4⟩ := f28 m3 w (by omega)
    have a2 := ((At.un' i2 m.dom).unFrm fr3).gr g4
    have e26 := f26 (l := (madeM n l).state) (l' := (madeM n l).state) i4 a2 (w.stlen (by omega))
    simp only [decide_true] at e26
    obtain ⟨Hf, ef⟩ := f13 (H := H4)
    apply ex_run
    rw [run_lv c8]
    simp (disch := first | omega | rfl | assumption | (simp only [csN, Nat.reduceAdd, Nat.reduceMul, Nat.reduceLeDiff, Nat.reduceEqDiff] <;> omega) | (simp only [csF]; done) | (simp only [csF] <;> assumption) | fail) only [Nat.reduceEqDiff, Nat.reduceAdd, Nat.reduceMul, Nat.reduceSub, Nat.reduceLeDiff, Int.reduceAdd, Int.reduceSub, Int.reduceMul, Int.reduceLT, Int.reduceLE, Int.reduceGT, Int.reduceGE, Int.reduceEq, Int.reduceBEq, Int.reduceBNe, Int.reduceNeg, Int.reduceToNat, csAll, ↓reduceIte, C8, entry_3, e12, e28, e21, e30, e26, ef, bx1, bx2, hk, he]
    rfl
end Go.Cs.Try

/- The calls that a row's data hold. -/
namespace Go.Cs
open Go
abbrev stepKinds : List FK := List.replicate 13 (.int .i64)
theorem stp_of {x : List CV} (hx : x.length = 13) (h : ∀ (i : Nat) (k : FK), stepKinds[i]? = some k → ∃ c, x[i]? = some c ∧ k.fits c) : ∃ s : Stp, x = stpCells s := by
  obtain ⟨zs, hl, rfl⟩ := fits_i64 hx h
  match zs, hl with
  | [a, b, c, d, e, f, g, h, i, j, k, l, m], _ => exact ⟨⟨a, b, ⟨c, d, e, f, g, h, i, j⟩, k, l, m⟩, rfl⟩
theorem steps_of {H : CHeap} {cv : Nat → CV} {blk : Blk} {l : List (List CV)} (h : SlOf cv blk stepKinds l) {j : Nat} (hj : H[j]? = some blk) : ∃ l' : List Stp, Steps (fun _ => none) H (cv j) l' := by
  obtain ⟨h1, h2, h3⟩ := h
  obtain ⟨l', hl, hp⟩ := exists_fun (n := l.length) (p := fun i s => l[i]? = some (stpCells s)) fun i hi => by
    obtain ⟨e1, e2⟩ := h3 l[i] (List.getElem_mem _)
    obtain ⟨s, hs⟩ := stp_of e1 e2
    exact ⟨s, by rw [List.getElem?_eq_getElem hi, hs]⟩
  refine ⟨l', by rw [hl]; exact h1 j, fun hne => ?_⟩
  have hne' : l ≠ [] := by rintro rfl; exact hne (List.eq_nil_of_length_eq_zero hl)
  obtain ⟨⟨cap, -, q1⟩, q2, q3, q4⟩ := h2 hne'
  obtain ⟨cs, md, es⟩ := blk
  simp only at q2 q3
  refine ⟨j, cap, false, cs, by rw [hl]; exact q1 j, by rw [hj, q2, q3]; rfl, rfl, fun i x hx => ?_⟩
  exact q4 i _ (hp i x hx)
end Go.Cs

/- ModelRefused returns true for every input: an act, or another call, with an error changes nothing. (At most 120 calls) Conditions: none. -/
namespace Go.Proofs.Ytnhblkjfpbhnnaa.modelRefused
open Go Go.Cs Go.ChangeShapes Go.WideShapes Go.ChangeAt Go.RowKit
set_option linter.unusedVariables false
theorem own : ownKnob Try.prog.godebug = none := by kernel_rfl
theorem laidOut : laidOutB Try.prog = true := by kernel_rfl
theorem follows : Try.prog.follows .mixedOrders = true := by kernel_rfl
set_option maxRecDepth 100000 in
theorem lifted (os : Os) (started : os.Started) (H : Type) (enc : TypeId × Value → H) :
    ReturnsInHanded {} Try.checked os 8 .any (Rows.modelRefusedSpec.pre6 enc Try.prog Try.f8 Rows.modelRefusedRow.domain false) (Rows.modelRefusedSpec.post enc Try.prog Try.f8 false true false false) := by
  refine returnsInHanded_of_change_sized (C := Try.checked) own started (by kernel_rfl) Try.func8
    (ChangeSpec.witness6 (enc := enc) (C := Try.checked) false ⟨#[], #[.int .i64 0, .slice none 0 0, .agg #[.int .i64 0, .int .i64 0, .int .i64 0, .int .i64 0, .int .i64 0, .int .i64 0, .int .i64 0, .int .i64 0, .int .i64 0, .int .i64 0, .int .i64 0, .int .i64 0, .int .i64 0]], []⟩ 8 (by kernel_rfl) (by kernel_rfl) (by kernel_rfl) (by kernel_rfl)) ?_
  intro W base args ds gs before hval0 hW hcnd hsz0 _
  have hval : ∀ (j : Nat) t v, Try.f8.params[j]? = some t → args[j]? = some v → Value.okWide Try.prog W .any base t v := hval0
  have hW' := hW
  obtain ⟨p, q, hA0, hV, rfl, hfz, hnd⟩ := hW
  have hA : DataW.TrodAll enc Try.prog W 0 (fun _ => true) true Try.f8.params.toList args.toList ds p := hA0
  rw [Try.params8] at hA hval
  clear hA0 hval0 hsz0 hcnd
  obtain ⟨v0, vs0, d0, ds0, p0, q0, hargs, rfl, rfl, h0, r0⟩ := trodAll_cons hA
  obtain ⟨v1, vs1, d1, ds1, p1, q1, rfl, rfl, rfl, h1, r1⟩ := trodAll_cons r0
  obtain ⟨v2, vs2, d2, ds2, p2, q2, rfl, rfl, rfl, h2, r2⟩ := trodAll_cons r1
  obtain ⟨rfl, rfl, rfl⟩ := trodAll_nil r2
  obtain rfl : args = #[v0, v1, v2] := by cases args; simp_all
  obtain ⟨rfl, rfl⟩ := trodVars_none hV
  obtain ⟨x0, rfl, rfl, rfl, w0⟩ := open_int (k := .i64) (show Try.prog.underlying 3 = some (.int .i64) from by kernel_rfl) (hval 0 3 v0 rfl rfl) h0
  have lt1 : ∀ x ∈ p1, x.block < W.heap.size := by obtain ⟨m, hm⟩ := h1; exact DataW.trod_lt m _ _ _ hm
  obtain ⟨x1, b1, g1, l1, vx1, bk1, so1⟩ := open_flat (n := 6) (ks := stepKinds) (show Try.prog.underlying 22 = some (.slice 43) from by kernel_rfl) (by kernel_rfl) (by kernel_rfl) (by decide) (hval 1 22 v1 rfl rfl) h1
  have lt2 : ∀ x ∈ p2, x.block < W.heap.size := by obtain ⟨m, hm⟩ := h2; exact DataW.trod_lt m _ _ _ hm
  obtain ⟨cs2, vx2, hl2, hf2⟩ := open_agg (n := 6) (ks := stepKinds) Try.underlying43 (by kernel_rfl) (by kernel_rfl) (hval 2 43 v2 rfl rfl) h2
  obtain ⟨s2, rfl⟩ := stp_of hl2 hf2
  obtain ⟨s1, st1⟩ := steps_of (H := [b1]) so1 (j := 0) rfl
  obtain ⟨H1, hrun⟩ : ∃ H1, run (cprog Try.prog) 8 [.i x0, x1 0, .agg (stpCells s2)] [b1] = some (.bool true, H1) := Go.Cs.Try.f8 (fun _ _ h => by cases h) (fun _ _ h => by cases h) st1 x0 s2
  have hb : ∀ b blk, [b1][b]? = some blk → BlkOk W blk ([g1].getD b none) := by
    intro b blk hb
    match b, hb with
    | 0, hb => simp at hb; subst hb; exact bk1
    | n + 1, hb => simp at hb
  refine (run_calls follows (tgs := [g1]) (W := W) (args' := #[.int .i64 x0, v1, v2]) rfl hb hrun ?_).mono fun e W' he => ?_
  · simp only [VL]
    exact ⟨_, _, rfl, by simp [V], ⟨_, _, rfl, vx1 0 _ rfl, ⟨_, _, rfl, vx2 _, rfl⟩⟩⟩
  obtain ⟨⟨ν, v', rfl, hv'⟩, bel⟩ := he
  simp only [V] at hv'
  subst hv'
  exact ⟨_, rfl, _, _, _, [], _, [], hW', trodAll_mk1 (shut_bool (show Try.prog.underlying 4 = some .bool from by kernel_rfl) _), (trodAll_cons_mk (shut_int (show Try.prog.underlying 3 = some (.int .i64) from by kernel_rfl) w0) (trodAll_cons_mk (Below.trod laidOut (by kernel_rfl) (of_decide_eq_true (by kernel_rfl)) h1 bel lt1) (trodAll_cons_mk (Below.trod laidOut (by kernel_rfl) (of_decide_eq_true (by kernel_rfl)) h2 bel lt2) trodAll_mk0))), rfl, bel.frame _, fun h => by cases h⟩
theorem over : Rows.modelRefusedRow.holds Try.pinned (OpenSpec.ofChange Rows.modelRefusedSpec) :=
  OpenClaim.holds_of_wide 8 Try.f8 rfl rfl rfl rfl rfl rfl rfl ⟨rfl, rfl, rfl, rfl, rfl⟩ rfl rfl rfl rfl rfl (by kernel_rfl) Try.func8 (by kernel_rfl)
    (of_decide_eq_true (by kernel_rfl)) (by unfold Func.isWrapper; first | (rw [if_pos (by decide +kernel)]; kernel_rfl) | (rw [if_neg (by decide +kernel)]; exact ⟨rfl, rfl⟩))
    (fun os started H enc _ => lifted os started H enc)
end Go.Proofs.Ytnhblkjfpbhnnaa.modelRefused
namespace Go.Proofs.Ytnhblkjfpbhnnaa
/-- The row. -/
theorem modelRefused_holds : Rows.ModelRefusedSaid := modelRefused.over
#print axioms modelRefused_holds
end Go.Proofs.Ytnhblkjfpbhnnaa
