/- ModelCollects returns true for every input: after Collect no reference 0 of a kept Weak or Ephemeron leads to an object that is not kept, and no reference 1 of an Ephemeron is there without its reference 0; Kept is as before; a second Collect changes nothing. (At most 120 calls) Conditions: none. -/
import Derived.Test.YtnhblkjfpbhnnaaCollects3
import Derived.Test.YtnhblkjfpbhnnaaRows
import Derived.WalkKit
import Derived.ProofKit
import Derived.OpenShut
import Derived.ShutString
import Derived.ChangeOld
import Derived.Below
import Derived.SizedLaws
import Derived.Carry
set_option linter.unusedVariables false
set_option linter.unusedSimpArgs false
set_option linter.defProp false
/- Which temporaries a piece of code may change; loops by that. -/
namespace Go.Cs
open Go

/-- The temporaries that a piece of code may write. -/
def wr : CCode → List Nat
  | .region ops => ops.filterMap (·.dst)
  | .dregion ops => ops.filterMap (·.s.dst)
  | .seq a b => wr a ++ wr b
  | .cond _ a b => wr a ++ wr b
  | .block _ c => wr c
  | .loop c => wr c
  | _ => []

theorem put_same {E : Env} {d : Option Nat} {v : CV} {t : Nat} (h : t ∉ d.toList) : E.put d v t = E t := by
  cases d with
  | none => rfl
  | some d =>
    simp only [Option.toList_some, List.mem_singleton] at h
    simp only [Env.put, Env.upd, if_neg h]

theorem filterMap_cons_mem {α : Type} {f : α → Option Nat} {a : α} {l : List α} {t : Nat} (h : t ∉ (a :: l).filterMap f) : t ∉ (f a).toList ∧ t ∉ l.filterMap f := by
  rw [List.filterMap_cons] at h
  cases hf : f a with
  | none => rw [hf] at h; exact ⟨by simp, h⟩
  | some d => rw [hf] at h; simp only [List.mem_cons, not_or] at h; exact ⟨by simpa using h.1, h.2⟩

theorem evOps_wr {F : CallF} {t : Nat} : ∀ {l : List CStmt} {E : Env} {H : CHeap} {r : Env × CHeap}, evOps F l E H = some r → t ∉ l.filterMap (·.dst) → r.1 t = E t
  | [], E, H, r, h, _ => by simp only [evOps, Option.some.injEq] at h; subst h; rfl
  | s :: l, E, H, r, h, ht => by
    obtain ⟨h1, h2⟩ := filterMap_cons_mem ht
    simp only [evOps, Option.bind_eq_some_iff] at h
    obtain ⟨q, hq, hr⟩ := h
    rw [evOps_wr hr h2]
    unfold evStmt at hq
    split at hq
    · rw [Option.map_eq_some_iff] at hq; obtain ⟨p, _, rfl⟩ := hq; exact put_same h1
    · simp only [Option.some.injEq] at hq; subst hq; exact put_same h1

theorem evD_wr {F : CallF} {t : Nat} : ∀ {l : List DStmt} {E : Env} {H : CHeap} {hs : List CHeap} {r : Env × CHeap}, evD F l E H hs = some r → t ∉ l.filterMap (·.s.dst) → r.1 t = E t
  | [], E, H, hs, r, h, _ => by simp only [evD, Option.some.injEq] at h; subst h; rfl
  | d :: l, E, H, hs, r, h, ht => by
    obtain ⟨h1, h2⟩ := filterMap_cons_mem ht
    unfold evD at h
    split at h
    · rw [evD_wr h h2]; exact put_same h1
    · split at h
      · rw [Option.bind_eq_some_iff] at h
        obtain ⟨q, hq, hr⟩ := h
        rw [evD_wr hr h2]; exact put_same h1
      · rw [Option.bind_eq_some_iff] at h
        obtain ⟨m, _, hr⟩ := h
        split at hr
        · rw [evD_wr hr h2]; exact put_same h1
        · cases hr

theorem ev_wr (p : CProg) {t : Nat} : ∀ (n : Nat) {c : CCode} {E : Env} {H : CHeap} {r : CX × Env × CHeap}, ev p n c E H = some r → t ∉ wr c → r.2.1 t = E t
  | 0, _, _, _, _, h, _ => by cases h
  | n + 1, c, E, H, r, h, ht => by
    rw [ev_succ] at h
    cases c with
    | skip => simp only [Option.some.injEq] at h; subst h; rfl
    | region ops => rw [Option.map_eq_some_iff] at h; obtain ⟨q, hq, rfl⟩ := h; exact evOps_wr hq ht
    | dregion ops => rw [Option.map_eq_some_iff] at h; obtain ⟨q, hq, rfl⟩ := h; exact evD_wr hq ht
    | seq a b =>
      simp only [wr, List.mem_append, not_or] at ht
      rw [Option.bind_eq_some_iff] at h
      obtain ⟨q, hq, h⟩ := h
      have h1 := ev_wr p n hq ht.1
      split at h
      · rw [ev_wr p n h ht.2, h1]
      · simp only [Option.some.injEq] at h; subst h; exact h1
    | cond c a b =>
      simp only [wr, List.mem_append, not_or] at ht
      dsimp only at h
      split at h
      · rename_i tt _
        cases tt with
        | true => exact ev_wr p n h ht.1
        | false => exact ev_wr p n h ht.2
      · cases h
    | block id c =>
      simp only [wr] at ht
      rw [Option.map_eq_some_iff] at h
      obtain ⟨q, hq, rfl⟩ := h
      exact ev_wr p n (r := q) hq ht
    | loop c =>
      have ht' := ht
      simp only [wr] at ht
      rw [Option.bind_eq_some_iff] at h
      obtain ⟨q, hq, h⟩ := h
      have h1 := ev_wr p n hq ht
      split at h
      · rw [ev_wr p n h ht', h1]
      · simp only [Option.some.injEq] at h; subst h; exact h1
    | exit id => simp only [Option.some.injEq] at h; subst h; rfl
    | ret => simp only [Option.some.injEq] at h; subst h; rfl

theorem den_wr {p : CProg} {c : CCode} {E E' : Env} {H H' : CHeap} {x : CX} (h : den p c E H = some (x, E', H')) {t : Nat} (ht : t ∉ wr c) : E' t = E t := by
  obtain ⟨n, hn⟩ := den_some.1 h
  exact ev_wr p n hn ht

/-- A loop from some environment on: its invariant by a measure, and what holds when it is left. What it does not write stays as it was. -/
theorem loop_at {p : CProg} {c : CCode} {E0 : Env} {H0 : CHeap} (Inv : Nat → Env → CHeap → Prop) (Post : CX → Env → CHeap → Prop)
    (step : ∀ k E H, (∀ t, t ∉ wr c → E t = E0 t) → Inv k E H → ∃ x E' H', den p c E H = some (x, E', H') ∧ ((x = .normal ∧ ∃ k', k' < k ∧ Inv k' E' H') ∨ (x ≠ .normal ∧ Post x E' H')))
    (k : Nat) (hi : Inv k E0 H0) : ∃ x E' H', den p (.loop c) E0 H0 = some (x, E', H') ∧ x ≠ .normal ∧ Post x E' H' ∧ ∀ t, t ∉ wr c → E' t = E0 t := by
  have key : LoopOk p c (fun k E H => (∀ t, t ∉ wr c → E t = E0 t) ∧ Inv k E H) (fun x E' H' => Post x E' H' ∧ ∀ t, t ∉ wr c → E' t = E0 t) := by
    refine loop_ind ?_
    rintro k E H ⟨hE, hi⟩
    obtain ⟨x, E', H', e, h⟩ := step k E H hE hi
    have hE' : ∀ t, t ∉ wr c → E' t = E0 t := fun t ht => (den_wr e ht).trans (hE t ht)
    refine ⟨x, E', H', e, ?_⟩
    rcases h with ⟨rfl, k', hk, hi'⟩ | ⟨hx, hp⟩
    · exact .inl ⟨rfl, k', hk, hE', hi'⟩
    · exact .inr ⟨hx, hp, hE'⟩
  obtain ⟨x, E', H', e, hx, hp⟩ := key k E0 H0 ⟨fun _ _ => rfl, hi⟩
  exact ⟨x, E', H', e, hx, hp⟩
end Go.Cs

/- Growth of the heap; lists of integers that grow. -/
namespace Go.Cs
open Go
/-- The heap grew: what was there is as it was. -/
structure Gr (H H' : CHeap) : Prop where
  len : H.length ≤ H'.length
  low : ∀ c, c < H.length → H'[c]? = H[c]?
theorem Gr.refl (H : CHeap) : Gr H H := ⟨Nat.le_refl _, fun _ _ => rfl⟩
theorem Gr.trans {H H' H'' : CHeap} (a : Gr H H') (b : Gr H' H'') : Gr H H'' := ⟨Nat.le_trans a.len b.len, fun c h => by rw [b.low c (Nat.lt_of_lt_of_le h a.len), a.low c h]⟩
theorem Gr.app (H J : CHeap) : Gr H (H ++ J) := ⟨by simp, fun _ h => List.getElem?_append_left h⟩
theorem Gr.app' {H H' : CHeap} (a : Gr H H') (J : CHeap) : Gr H (H' ++ J) := a.trans (.app _ _)
theorem Gr.get {H H' : CHeap} (a : Gr H H') {b : Nat} {k : Blk} (h : H[b]? = some k) : H'[b]? = some k := by rw [a.low b (lt_of_get h), h]
theorem MRep.gr {o : Tags} {g : Nat} {H H' : CHeap} {b : Nat} {M : Mdl} {L : Lay} (m : MRep o g H b M L) (a : Gr H H') : MRep o g H' b M L :=
  m.frame (fun c t h => Nat.lt_of_lt_of_le (m.dom c t h) a.len) (fun _ _ h => h) (fun c k h => a.low c (m.dom c _ h))
theorem Gr.frm {o : Tags} {g : Nat} {H H' : CHeap} (a : Gr H H') (hd : ∀ c t, o c = some t → c < H.length) : Frm g o H o H' := .grow hd a.len a.low

/-- A list of integers in memory that is newer than a state of the heap. -/
abbrev IL (k : Nat) (H : CHeap) (v : CV) (l : List Int) : Prop := At (Loc k) z3 H v 1 l.length (ints l)
theorem At.gr {k : Nat} {o : Tags} {t : Tag} {H H' : CHeap} {v : CV} {n : Nat} {cs : List CV} (h : At o t H v k n cs) (a : Gr H H') : At o t H' v k n cs := h.grow fun _ hc _ => a.low _ hc
theorem IL.nil {k : Nat} {H : CHeap} : IL k H .nilSlice [] := .inl ⟨rfl, rfl, .inl rfl⟩
theorem IL.blk {k b n : Nat} {H : CHeap} {l : List Int} (hb : k ≤ b) (h : H[b]? = some ⟨ints l, .rw, 1⟩) (hn : l.length = n) {t : Bool} : IL k H (.slice b 0 n n 1 t) l :=
  .inr ⟨b, t, by rw [hn], Loc_some.2 ⟨hb, rfl⟩, h, by simp [ints_len]⟩
theorem IL.cat {k : Nat} {H : CHeap} {v : CV} {l l2 : List Int} (h : IL k H v l) (hk : k ≤ H.length) (hm : l.length + l2.length ≤ 16777216) :
    ∃ v' H', appendTo H 1 v l2.length (ints l2) = some (v', H') ∧ IL k H' v' (l ++ l2) ∧ k ≤ H'.length ∧ ∀ c, c < k → H'[c]? = H[c]? := by
  by_cases h2 : l2 = []
  · subst h2
    refine ⟨v, H, ?_, by simpa using h, hk, fun _ _ => rfl⟩
    rcases h with ⟨_, _, rfl | ⟨b, f, rfl⟩⟩ | ⟨b, tl, rfl, h1, h2, h3⟩ <;> rfl
  · have hp : 0 < l2.length := List.length_pos_iff.2 h2
    obtain ⟨H', a1, a2, a3, a4⟩ := At.append (k := l2.length) (new := ints l2) h hp hm (ints_leaf _) (by simp [ints_len])
    refine ⟨_, H', a1, .inr ⟨H.length, true, by simp, Loc_some.2 ⟨hk, rfl⟩, by rw [a3, ints_app], by simp [ints_len]⟩, by omega, fun c hc => a4 c (by omega) (fun h => by have := (Loc_some.1 h).1; omega)⟩
theorem IL.push {k : Nat} {H : CHeap} {v : CV} {l : List Int} (h : IL k H v l) (hk : k ≤ H.length) (hm : l.length + 1 ≤ 16777216) (x : Int) :
    ∃ v' H', appendTo (H ++ [⟨[.i x], .rw, 1⟩]) 1 v 1 [.i x] = some (v', H') ∧ IL k H' v' (l ++ [x]) ∧ k ≤ H'.length ∧ ∀ c, c < k → H'[c]? = H[c]? := by
  obtain ⟨v', H', a, b, c, d⟩ := IL.cat (l2 := [x]) (h.gr (.app H [⟨[.i x], .rw, 1⟩])) (by simp; omega) hm
  exact ⟨v', H', a, b, c, fun e he => by rw [d e he, List.getElem?_append_left (by omega)]⟩
theorem Gr.low' {H0 H H' : CHeap} (a : Gr H0 H) (hl : H0.length ≤ H'.length) (h : ∀ c, c < H0.length → H'[c]? = H[c]?) : Gr H0 H' := ⟨hl, fun c hc => by rw [h c hc, a.low c hc]⟩
theorem At.un' {o : Tags} {H : CHeap} {k : Nat} {v : CV} {l : List Int} (h : IL k H v l) (hd : ∀ c t, o c = some t → c < k) : At (Un o) z3 H v 1 l.length (ints l) := At.un h hd
theorem wrapS (n : Nat) (h : n ≤ 1000000000) : IntKind.i64.wrap ((n : Int) + 1) = ((n + 1 : Nat) : Int) := by rw [wrap_id (by omega)]; rfl
theorem take_snoc {α : Type} {l : List α} {i : Nat} {x : α} (h : l[i]? = some x) : l.take (i + 1) = l.take i ++ [x] := by
  have hi := lt_of_get h
  rw [List.take_succ_eq_append_getElem hi, List.getElem?_eq_getElem hi] at *
  simp only [Option.some.injEq] at h
  rw [h]
theorem take_all {α : Type} {l : List α} {i : Nat} (h : l.length ≤ i) : l.take i = l := List.take_of_length_le h
end Go.Cs

/- roots: what places hold. -/
namespace Go.Cs
open Go
theorem flat16 {L : List (List Int)} (h : ∀ s ∈ L, s.length = 16) : L.flatten.length = 16 * L.length := by
  induction L with
  | nil => rfl
  | cons a l ih =>
    rw [List.flatten_cons, List.length_append, ih (fun s hs => h s (List.mem_cons_of_mem _ hs)), h a List.mem_cons_self, List.length_cons]; omega
end Go.Cs
namespace Go.Cs.Try
open Go Go.Cs
set_option maxRecDepth 100000
section
variable {o : Tags} {g : Nat} {b : Nat} {M : Mdl} {L : Lay} {H0 H : CHeap}

theorem Mdl.slot_val {M : Mdl} (w : M.Ok) {i j : Nat} {s : List Int} (hs : M.slots[i]? = some s) (hj : j < 16) : M.slotAt i j = (s.getD j 0, 0) ∧ s[j]? = some (s.getD j 0) := by
  have hi := lt_of_get hs
  have h16 := (w.s16 _ (List.mem_of_getElem? hs)).1
  refine ⟨?_, getD_of 0 (by omega)⟩
  unfold Mdl.slotAt
  rw [if_pos (by omega)]
  simp only [Int.toNat_natCast]
  rw [List.getD_eq_getElem?_getD (l := M.slots), hs]; rfl

theorem l20_2 (m : MRep o g H0 b M L) (w : M.Ok) {i : Nat} {s : List Int} (hs : M.slots[i]? = some s) {pre : List Int} (hp : pre.length ≤ 1000) {E0 : Env} (h0 : E0 0 = .ptr b 0) (h4 : E0 4 = .i i) (h5 : E0 5 = .i 0) (gr : Gr H0 H) (hv : IL H0.length H (E0 3) pre)
    {r : Option (CX × Env × CHeap)} (hr : den P (.loop C20_2) E0 H = r) :
    ∃ E' H', r = some (.exit 2, E', H') ∧ Gr H0 H' ∧ IL H0.length H' (E' 3) (pre ++ s) ∧ ∀ t, t ∉ wr C20_2 → E' t = E0 t := by
  have h16 := (w.s16 _ (List.mem_of_getElem? hs)).1
  obtain ⟨x, E', H', e, -, ⟨rfl, g1, g2⟩, fr⟩ := loop_at (p := P) (c := C20_2) (E0 := E0) (H0 := H) (fun k E H => ∃ j : Nat, E 5 = .i j ∧ j ≤ 16 ∧ k = 16 - j ∧ Gr H0 H ∧ IL H0.length H (E 3) (pre ++ s.take j))
    (fun x E' H' => x = .exit 2 ∧ Gr H0 H' ∧ IL H0.length H' (E' 3) (pre ++ s)) (by
      rintro k E H hE ⟨j, e5, hj, rfl, gr, hv⟩
      have e0 := (hE 0 (by decide +kernel)).trans h0
      have e4 := (hE 4 (by decide +kernel)).trans h4
      by_cases c : j < 16
      · obtain ⟨s1, s2⟩ := Mdl.slot_val w hs c
        have d1 := f25 (m.gr gr) w i j
        rw [s1] at d1
        simp only [pair2] at d1
        obtain ⟨v', H', a1, a2, a3, a4⟩ := hv.push gr.len (by simp; omega) (s.getD j 0)
        have hw := wrapS j (by omega)
        generalize he3 : E 3 = v3 at *
        apply step_go (k' := 16 - (j + 1))
        · simp (disch := first | omega | rfl | assumption | (simp only [csN, Nat.reduceAdd, Nat.reduceMul, Nat.reduceLeDiff, Nat.reduceEqDiff] <;> omega) | (simp only [csF]; done) | (simp only [csF] <;> assumption) | fail) only [Nat.reduceEqDiff, Nat.reduceAdd, Nat.reduceMul, Nat.reduceSub, Nat.reduceLeDiff, Int.reduceAdd, Int.reduceSub, Int.reduceMul, Int.reduceLT, Int.reduceLE, Int.reduceGT, Int.reduceGE, Int.reduceEq, Int.reduceBEq, Int.reduceBNe, Int.reduceNeg, Int.reduceToNat, csAll, ↓reduceIte, C20_2, e0, e4, e5, d1, he3, a1, hw]
          rfl
        · omega
        · refine ⟨j + 1, by simp [upd_apply], by omega, rfl, gr.low' a3 a4, ?_⟩
          rw [take_snoc s2, ← List.append_assoc]
          simpa [upd_apply] using a2
      · apply step_out (x := .exit 2)
        · simp (disch := first | omega | rfl | assumption | (simp only [csN, Nat.reduceAdd, Nat.reduceMul, Nat.reduceLeDiff, Nat.reduceEqDiff] <;> omega) | (simp only [csF]; done) | (simp only [csF] <;> assumption) | fail) only [Nat.reduceEqDiff, Nat.reduceAdd, Nat.reduceMul, Nat.reduceSub, Nat.reduceLeDiff, Int.reduceAdd, Int.reduceSub, Int.reduceMul, Int.reduceLT, Int.reduceLE, Int.reduceGT, Int.reduceGE, Int.reduceEq, Int.reduceBEq, Int.reduceBNe, Int.reduceNeg, Int.reduceToNat, csAll, ↓reduceIte, C20_2, e5]
          rfl
        · simp
        · rw [take_all (by omega)] at hv
          exact ⟨rfl, gr, by simpa [upd_apply] using hv⟩) 16 ⟨0, h5, by omega, rfl, gr, by simpa using hv⟩
  exact ⟨E', H', hr.symm.trans e, g1, g2, fr⟩

theorem l20_1 (m : MRep o g H0 b M L) (w : M.Ok) {pre : List Int} (hp : pre.length ≤ 1000) {E0 : Env} (h0 : E0 0 = .ptr b 0) (h5 : E0 8 = .i 0) (gr : Gr H0 H) (hv : IL H0.length H (E0 3) pre)
    {r : Option (CX × Env × CHeap)} (hr : den P (.loop C20_1) E0 H = r) :
    ∃ E' H', r = some (.exit 4, E', H') ∧ Gr H0 H' ∧ IL H0.length H' (E' 3) (pre ++ M.globals) ∧ ∀ t, t ∉ wr C20_1 → E' t = E0 t := by
  have h16 := w.g16.1
  obtain ⟨x, E', H', e, -, ⟨rfl, g1, g2⟩, fr⟩ := loop_at (p := P) (c := C20_1) (E0 := E0) (H0 := H) (fun k E H => ∃ j : Nat, E 8 = .i j ∧ j ≤ 16 ∧ k = 16 - j ∧ Gr H0 H ∧ IL H0.length H (E 3) (pre ++ M.globals.take j))
    (fun x E' H' => x = .exit 4 ∧ Gr H0 H' ∧ IL H0.length H' (E' 3) (pre ++ M.globals)) (by
      rintro k E H hE ⟨j, e5, hj, rfl, gr, hv⟩
      have e0 := (hE 0 (by decide +kernel)).trans h0
      by_cases c : j < 16
      · have s2 := getD_of (l := M.globals) (i := j) 0 (by omega)
        have d1 := f37 (m.gr gr) w j
        have s1 : M.globalAt j = (M.globals.getD j 0, 0) := by unfold Mdl.globalAt; rw [if_pos (by omega)]; simp
        rw [s1] at d1
        simp only [pair2] at d1
        obtain ⟨v', H', a1, a2, a3, a4⟩ := hv.push gr.len (by simp; omega) (M.globals.getD j 0)
        have hw := wrapS j (by omega)
        generalize he3 : E 3 = v3 at *
        apply step_go (k' := 16 - (j + 1))
        · simp (disch := first | omega | rfl | assumption | (simp only [csN, Nat.reduceAdd, Nat.reduceMul, Nat.reduceLeDiff, Nat.reduceEqDiff] <;> omega) | (simp only [csF]; done) | (simp only [csF] <;> assumption) | fail) only [Nat.reduceEqDiff, Nat.reduceAdd, Nat.reduceMul, Nat.reduceSub, Nat.reduceLeDiff, Int.reduceAdd, Int.reduceSub, Int.reduceMul, Int.reduceLT, Int.reduceLE, Int.reduceGT, Int.reduceGE, Int.reduceEq, Int.reduceBEq, Int.reduceBNe, Int.reduceNeg, Int.reduceToNat, csAll, ↓reduceIte, C20_1, e0, e5, d1, he3, a1, hw]
          rfl
        · omega
        · refine ⟨j + 1, by simp [upd_apply], by omega, rfl, gr.low' a3 a4, ?_⟩
          rw [take_snoc s2, ← List.append_assoc]
          simpa [upd_apply] using a2
      · apply step_out (x := .exit 4)
        · simp (disch := first | omega | rfl | assumption | (simp only [csN, Nat.reduceAdd, Nat.reduceMul, Nat.reduceLeDiff, Nat.reduceEqDiff] <;> omega) | (simp only [csF]; done) | (simp only [csF] <;> assumption) | fail) only [Nat.reduceEqDiff, Nat.reduceAdd, Nat.reduceMul, Nat.reduceSub, Nat.reduceLeDiff, Int.reduceAdd, Int.reduceSub, Int.reduceMul, Int.reduceLT, Int.reduceLE, Int.reduceGT, Int.reduceGE, Int.reduceEq, Int.reduceBEq, Int.reduceBNe, Int.reduceNeg, Int.reduceToNat, csAll, ↓reduceIte, C20_1, e5]
          rfl
        · simp
        · rw [take_all (by omega)] at hv
          exact ⟨rfl, gr, by simpa [upd_apply] using hv⟩) 16 ⟨0, h5, by omega, rfl, gr, by simpa using hv⟩
  exact ⟨E', H', hr.symm.trans e, g1, g2, fr⟩

theorem flatSlots (w : M.Ok) (i : Nat) : (M.slots.take i).flatten.length ≤ 64 := by
  rw [flat16 (fun s hs => (w.s16 s (List.mem_of_mem_take hs)).1)]
  have := w.ns
  simp; omega

theorem l20_3 (m : MRep o g H0 b M L) (w : M.Ok) {E0 : Env} (h0 : E0 0 = .ptr b 0) (h5 : E0 4 = .i 0) (gr : Gr H0 H) {pre : List Int} (hp : pre.length ≤ 10) (hv : IL H0.length H (E0 3) pre)
    {r : Option (CX × Env × CHeap)} (hr : den P (.loop C20_3) E0 H = r) :
    ∃ E' H', r = some (.exit 0, E', H') ∧ Gr H0 H' ∧ IL H0.length H' (E' 3) (pre ++ M.slots.flatten) ∧ ∀ t, t ∉ wr C20_3 → E' t = E0 t := by
  have hns := w.ns
  obtain ⟨x, E', H', e, -, ⟨rfl, g1, g2⟩, fr⟩ := loop_at (p := P) (c := C20_3) (E0 := E0) (H0 := H) (fun k E H => ∃ j : Nat, E 4 = .i j ∧ j ≤ M.slots.length ∧ k = M.slots.length - j ∧ Gr H0 H ∧ IL H0.length H (E 3) (pre ++ (M.slots.take j).flatten))
    (fun x E' H' => x = .exit 0 ∧ Gr H0 H' ∧ IL H0.length H' (E' 3) (pre ++ M.slots.flatten)) (by
      rintro k E H hE ⟨j, e5, hj, rfl, gr, hv⟩
      have e0 := (hE 0 (by decide +kernel)).trans h0
      have d1 := f22 (m.gr gr) w
      by_cases c : j < M.slots.length
      · have s2 := getD_of (l := M.slots) (i := j) [] (by omega)
        have hw := wrapS j (by omega)
        have hfs := flatSlots w j
        have key : ∃ E' H', den P C20_3 E H = some (.normal, E', H') ∧ E' 4 = .i ((j + 1 : Nat) : Int) ∧ Gr H0 H' ∧ IL H0.length H' (E' 3) (pre ++ (M.slots.take (j + 1)).flatten) := by
          simp (disch := first | omega | rfl | assumption | (simp only [csN, Nat.reduceAdd, Nat.reduceMul, Nat.reduceLeDiff, Nat.reduceEqDiff] <;> omega) | (simp only [csF]; done) | (simp only [csF] <;> assumption) | fail) only [Nat.reduceEqDiff, Nat.reduceAdd, Nat.reduceMul, Nat.reduceSub, Nat.reduceLeDiff, Int.reduceAdd, Int.reduceSub, Int.reduceMul, Int.reduceLT, Int.reduceLE, Int.reduceGT, Int.reduceGE, Int.reduceEq, Int.reduceBEq, Int.reduceBNe, Int.reduceNeg, Int.reduceToNat, csAll, ↓reduceIte, C20_3, e0, e5, d1]
          generalize hr : den P (.loop C20_2) _ _ = r
          obtain ⟨E2, H2, rfl, q1, q2, q3⟩ := l20_2 m w (pre := pre ++ (M.slots.take j).flatten) s2 (by simp; simp at hfs; omega) (by simp only [upd_apply, Nat.reduceEqDiff, ↓reduceIte, e0]) (by simp only [upd_apply, Nat.reduceEqDiff, ↓reduceIte, e5]) (by simp only [upd_apply, Nat.reduceEqDiff, ↓reduceIte]) gr (by simp only [upd_apply, Nat.reduceEqDiff, ↓reduceIte]; exact hv) hr
          have k4 := q3 4 (by decide +kernel)
          simp only [upd_apply, Nat.reduceEqDiff, ↓reduceIte, e5] at k4
          simp (disch := first | omega | rfl | assumption | (simp only [csN, Nat.reduceAdd, Nat.reduceMul, Nat.reduceLeDiff, Nat.reduceEqDiff] <;> omega) | (simp only [csF]; done) | (simp only [csF] <;> assumption) | fail) only [Nat.reduceEqDiff, Nat.reduceAdd, Nat.reduceMul, Nat.reduceSub, Nat.reduceLeDiff, Int.reduceAdd, Int.reduceSub, Int.reduceMul, Int.reduceLT, Int.reduceLE, Int.reduceGT, Int.reduceGE, Int.reduceEq, Int.reduceBEq, Int.reduceBNe, Int.reduceNeg, Int.reduceToNat, csAll, ↓reduceIte, k4, hw]
          refine ⟨_, _, rfl, by simp [upd_apply], q1, ?_⟩
          rw [take_snoc s2, List.flatten_append, List.flatten_singleton, ← List.append_assoc]
          simpa [upd_apply] using q2
        obtain ⟨E', H', k1, k2, k3, k4⟩ := key
        exact step_go (k' := M.slots.length - (j + 1)) k1 (by omega) ⟨j + 1, k2, by omega, rfl, k3, k4⟩
      · apply step_out (x := .exit 0)
        · simp (disch := first | omega | rfl | assumption | (simp only [csN, Nat.reduceAdd, Nat.reduceMul, Nat.reduceLeDiff, Nat.reduceEqDiff] <;> omega) | (simp only [csF]; done) | (simp only [csF] <;> assumption) | fail) only [Nat.reduceEqDiff, Nat.reduceAdd, Nat.reduceMul, Nat.reduceSub, Nat.reduceLeDiff, Int.reduceAdd, Int.reduceSub, Int.reduceMul, Int.reduceLT, Int.reduceLE, Int.reduceGT, Int.reduceGE, Int.reduceEq, Int.reduceBEq, Int.reduceBNe, Int.reduceNeg, Int.reduceToNat, csAll, ↓reduceIte, C20_3, e0, e5, d1]
          rfl
        · simp
        · rw [take_all (by omega)] at hv
          exact ⟨rfl, gr, by simpa [upd_apply] using hv⟩) M.slots.length ⟨0, h5, by omega, rfl, gr, by simpa using hv⟩
  exact ⟨E', H', hr.symm.trans e, g1, g2, fr⟩

theorem ex2 {r : Option (CV × CHeap)} {v : CV} {H' : CHeap} {Q : CV → CHeap → Prop} (h : r = some (v, H')) (q : Q v H') : ∃ v H', r = some (v, H') ∧ Q v H' := ⟨_, _, h, q⟩

/-- The queue behind a list. -/
theorem catQ (m : MRep o g H0 b M L) (w : M.Ok) {v : CV} {l : List Int} (hl : l.length ≤ 1000) (gr : Gr H0 H) (hv : IL H0.length H v l) :
    ∃ vq Hq, run P 39 [.ptr b 0] H = some (vq, Hq) ∧ ∃ v' H', vAppend 1 v (elems Hq 1 vq) Hq = some (v', H') ∧ Gr H0 H' ∧ IL H0.length H' v' (l ++ M.queue) := by
  obtain ⟨vq, J, e, hq⟩ := f39 (m.gr gr) w
  have hql := w.q64.1
  have he := hq.elems (H' := H ++ J) (fun _ _ => rfl)
  obtain ⟨v', H', a1, a2, a3, a4⟩ := IL.cat (l2 := M.queue) (hv.gr (.app H J)) (by have := gr.len; simp; omega) (by omega)
  refine ⟨vq, _, e, v', H', ?_, (gr.app' J).low' a3 a4, a2⟩
  rw [he, vAppend_s, a1]

/-- roots. -/
theorem f20 (m : MRep o g H b M L) (w : M.Ok) : ∃ v H', run P 20 [.ptr b 0] H = some (v, H') ∧ Gr H H' ∧ IL H.length H' v M.places := by
  rw [run_lv c20]
  simp (disch := first | omega | rfl | assumption | (simp only [csN, Nat.reduceAdd, Nat.reduceMul, Nat.reduceLeDiff, Nat.reduceEqDiff] <;> omega) | (simp only [csF]; done) | (simp only [csF] <;> assumption) | fail) only [Nat.reduceEqDiff, Nat.reduceAdd, Nat.reduceMul, Nat.reduceSub, Nat.reduceLeDiff, Int.reduceAdd, Int.reduceSub, Int.reduceMul, Int.reduceLT, Int.reduceLE, Int.reduceGT, Int.reduceGE, Int.reduceEq, Int.reduceBEq, Int.reduceBNe, Int.reduceNeg, Int.reduceToNat, csAll, ↓reduceIte, C20, entry_1]
  generalize hr : den P (.loop C20_3) _ _ = r
  obtain ⟨E1, H1, rfl, g1, i1, k1⟩ := l20_3 m w (pre := []) (by simp only [upd_apply, Nat.reduceEqDiff, ↓reduceIte]) (by simp only [upd_apply, Nat.reduceEqDiff, ↓reduceIte]) (.refl H) (by simp) (by simp only [upd_apply, Nat.reduceEqDiff, ↓reduceIte]; exact IL.nil) hr
  have k0 := k1 0 (by decide +kernel)
  simp only [upd_apply, Nat.reduceEqDiff, ↓reduceIte] at k0
  have hfs := flatSlots w M.slots.length
  rw [take_all (Nat.le_refl _)] at hfs
  rw [List.nil_append] at i1
  simp (disch := first | omega | rfl | assumption | (simp only [csN, Nat.reduceAdd, Nat.reduceMul, Nat.reduceLeDiff, Nat.reduceEqDiff] <;> omega) | (simp only [csF]; done) | (simp only [csF] <;> assumption) | fail) only [Nat.reduceEqDiff, Nat.reduceAdd, Nat.reduceMul, Nat.reduceSub, Nat.reduceLeDiff, Int.reduceAdd, Int.reduceSub, Int.reduceMul, Int.reduceLT, Int.reduceLE, Int.reduceGT, Int.reduceGE, Int.reduceEq, Int.reduceBEq, Int.reduceBNe, Int.reduceNeg, Int.reduceToNat, csAll, ↓reduceIte, k0]
  generalize hr2 : den P (.loop C20_1) _ _ = r2
  obtain ⟨E2, H2, rfl, g2, i2, k2⟩ := l20_1 m w (pre := M.slots.flatten) (by omega) (by simp only [upd_apply, Nat.reduceEqDiff, ↓reduceIte, k0]) (by simp only [upd_apply, Nat.reduceEqDiff, ↓reduceIte]) g1 (by simp only [upd_apply, Nat.reduceEqDiff, ↓reduceIte]; exact i1) hr2
  have k0' := k2 0 (by decide +kernel)
  simp only [upd_apply, Nat.reduceEqDiff, ↓reduceIte, k0] at k0'
  have h16 := w.g16.1
  obtain ⟨vq, Hq, e39, v', H', ea, gf, il⟩ := catQ m w (by simp; simp at hfs; omega) g2 i2
  simp (disch := first | omega | rfl | assumption | (simp only [csN, Nat.reduceAdd, Nat.reduceMul, Nat.reduceLeDiff, Nat.reduceEqDiff] <;> omega) | (simp only [csF]; done) | (simp only [csF] <;> assumption) | fail) only [Nat.reduceEqDiff, Nat.reduceAdd, Nat.reduceMul, Nat.reduceSub, Nat.reduceLeDiff, Int.reduceAdd, Int.reduceSub, Int.reduceMul, Int.reduceLT, Int.reduceLE, Int.reduceGT, Int.reduceGE, Int.reduceEq, Int.reduceBEq, Int.reduceBNe, Int.reduceNeg, Int.reduceToNat, csAll, ↓reduceIte, k0', e39, ea]
  exact ⟨_, _, rfl, gf, il⟩
end
end Go.Cs.Try

/- contents and state: all that a model has. -/
namespace Go.Cs
open Go
def Obj.content (x : Obj) : List Int := [x.nr, x.nd, x.kd] ++ x.refs ++ x.data
def Mdl.state (M : Mdl) : List Int := [(M.objs.length : Int), (M.slots.length : Int)] ++ M.places ++ (M.objs.map Obj.content).flatten
theorem Obj.Ok.clen {n : Nat} {x : Obj} (h : x.Ok n) : x.content.length ≤ 218 := by
  have h1 := h.nr
  have h2 := h.nd
  simp only [Obj.content, List.length_append, List.length_cons, List.length_nil]; omega
theorem flatLe {k : Nat} : ∀ {L : List (List Int)}, (∀ s ∈ L, s.length ≤ k) → L.flatten.length ≤ k * L.length
  | [], _ => by simp
  | a :: l, h => by
    rw [List.flatten_cons, List.length_append, List.length_cons, Nat.mul_add]
    have h1 := h a List.mem_cons_self
    have h2 := flatLe (L := l) (fun s hs => h s (List.mem_cons_of_mem _ hs))
    omega
theorem Mdl.Ok.plen {M : Mdl} (w : M.Ok) : M.places.length ≤ 144 := by
  have h1 := flat16 (fun s hs => (w.s16 s hs).1)
  have h2 := w.ns
  have h3 := w.g16.1
  have h4 := w.q64.1
  simp only [Mdl.places, List.length_append]; omega
theorem Mdl.Ok.olen {M : Mdl} (w : M.Ok) (i : Nat) : ((M.objs.take i).map Obj.content).flatten.length ≤ 218 * M.objs.length := by
  refine Nat.le_trans (flatLe (k := 218) (fun s hs => ?_)) (Nat.mul_le_mul_left _ (by simp; omega))
  obtain ⟨x, hx, rfl⟩ := List.mem_map.1 hs
  exact (w.objs x (List.mem_of_mem_take hx)).clen
end Go.Cs
namespace Go.Cs.Try
open Go Go.Cs
set_option maxRecDepth 100000
section
variable {o : Tags} {g : Nat} {b : Nat} {M : Mdl} {L : Lay} {H0 H : CHeap}

theorem elAt_get {l : List Int} {j : Nat} (h : j < l.length) : elAt l j = (l.getD j 0, 0) := by
  unfold elAt; rw [if_pos (by omega)]; simp

theorem l24_2 (m : MRep o g H0 b M L) (w : M.Ok) {n : Int} (hn : M.has n) {pre : List Int} (hp : pre.length ≤ 1000) {E0 : Env} {sb : Nat} (h0 : E0 0 = .ptr b 0) (h1 : E0 1 = .i n) (hs : E0 5 = .ptr sb 0) (hsb : H0.length ≤ sb) {sv : Blk} (hsv : sv = ⟨[.i (M.obj n).nr, .i (M.obj n).nd, .i (M.obj n).kd], .rw, 0⟩) (hk : H[sb]? = some sv)
    (h5 : E0 8 = .i 0) (gr : Gr H0 H) (hv : IL (sb + 1) H (E0 7) pre)
    {r : Option (CX × Env × CHeap)} (hr : den P (.loop C24_2) E0 H = r) :
    ∃ E' H', r = some (.exit 0, E', H') ∧ Gr H0 H' ∧ IL (sb + 1) H' (E' 7) (pre ++ (M.obj n).refs) ∧ H'[sb]? = some sv ∧ ∀ t, t ∉ wr C24_2 → E' t = E0 t := by
  have hob := w.obj hn
  have hnr := hob.nr
  obtain ⟨x, E', H', e, -, ⟨rfl, g1, g2, g3⟩, fr⟩ := loop_at (p := P) (c := C24_2) (E0 := E0) (H0 := H) (fun k E H => ∃ j : Nat, E 8 = .i j ∧ j ≤ (M.obj n).refs.length ∧ k = (M.obj n).refs.length - j ∧ Gr H0 H ∧ IL (sb + 1) H (E 7) (pre ++ (M.obj n).refs.take j) ∧ H[sb]? = some sv)
    (fun x E' H' => x = .exit 0 ∧ Gr H0 H' ∧ IL (sb + 1) H' (E' 7) (pre ++ (M.obj n).refs) ∧ H'[sb]? = some sv) (by
      rintro k E H hE ⟨j, e5, hj, rfl, gr, hv, hk⟩
      have e0 := (hE 0 (by decide +kernel)).trans h0
      have e1 := (hE 1 (by decide +kernel)).trans h1
      have es := (hE 5 (by decide +kernel)).trans hs
      have hkl := lt_of_get hk
      have hk' := hk
      rw [hsv] at hk'
      by_cases c : j < (M.obj n).refs.length
      · have d1 := f16 (m.gr gr) w n j
        have s1 : M.refAt n j = ((M.obj n).refs.getD j 0, 0) := by unfold Mdl.refAt; rw [if_pos hn, elAt_get c]
        rw [s1] at d1
        simp only [pair2] at d1
        obtain ⟨v', H', a1, a2, a3, a4⟩ := hv.push (by omega) (by simp; omega) ((M.obj n).refs.getD j 0)
        have hw := wrapS j (by omega)
        generalize he3 : E 7 = v3 at *
        apply step_go (k' := (M.obj n).refs.length - (j + 1))
        · simp (disch := first | omega | rfl | assumption | (simp only [csN, Nat.reduceAdd, Nat.reduceMul, Nat.reduceLeDiff, Nat.reduceEqDiff] <;> omega) | (simp only [csF]; done) | (simp only [csF] <;> assumption) | fail) only [Nat.reduceEqDiff, Nat.reduceAdd, Nat.reduceMul, Nat.reduceSub, Nat.reduceLeDiff, Int.reduceAdd, Int.reduceSub, Int.reduceMul, Int.reduceLT, Int.reduceLE, Int.reduceGT, Int.reduceGE, Int.reduceEq, Int.reduceBEq, Int.reduceBNe, Int.reduceNeg, Int.reduceToNat, csAll, ↓reduceIte, C24_2, e0, e1, es, e5, hk', d1, he3, a1, hw]
          rfl
        · omega
        · refine ⟨j + 1, by simp [upd_apply], by omega, rfl, gr.low' (by omega) (fun c hc => a4 c (by omega)), ?_, by rw [a4 sb (by omega), hk]⟩
          rw [take_snoc (getD_of 0 c), ← List.append_assoc]
          simpa [upd_apply] using a2
      · apply step_out (x := .exit 0)
        · simp (disch := first | omega | rfl | assumption | (simp only [csN, Nat.reduceAdd, Nat.reduceMul, Nat.reduceLeDiff, Nat.reduceEqDiff] <;> omega) | (simp only [csF]; done) | (simp only [csF] <;> assumption) | fail) only [Nat.reduceEqDiff, Nat.reduceAdd, Nat.reduceMul, Nat.reduceSub, Nat.reduceLeDiff, Int.reduceAdd, Int.reduceSub, Int.reduceMul, Int.reduceLT, Int.reduceLE, Int.reduceGT, Int.reduceGE, Int.reduceEq, Int.reduceBEq, Int.reduceBNe, Int.reduceNeg, Int.reduceToNat, csAll, ↓reduceIte, C24_2, es, e5, hk']
          rfl
        · simp
        · rw [take_all (by omega)] at hv
          exact ⟨rfl, gr, by simpa [upd_apply] using hv, hk⟩) _ ⟨0, h5, by omega, rfl, gr, by simpa using hv, hk⟩
  exact ⟨E', H', hr.symm.trans e, g1, g2, g3, fr⟩

theorem l24_1 (m : MRep o g H0 b M L) (w : M.Ok) {n : Int} (hn : M.has n) {pre : List Int} (hp : pre.length ≤ 1000) {E0 : Env} {sb : Nat} (h0 : E0 0 = .ptr b 0) (h1 : E0 1 = .i n) (hs : E0 5 = .ptr sb 0) (hsb : H0.length ≤ sb) {sv : Blk} (hsv : sv = ⟨[.i (M.obj n).nr, .i (M.obj n).nd, .i (M.obj n).kd], .rw, 0⟩) (hk : H[sb]? = some sv)
    (h5 : E0 11 = .i 0) (gr : Gr H0 H) (hv : IL (sb + 1) H (E0 7) pre)
    {r : Option (CX × Env × CHeap)} (hr : den P (.loop C24_1) E0 H = r) :
    ∃ E' H', r = some (.exit 2, E', H') ∧ Gr H0 H' ∧ IL (sb + 1) H' (E' 7) (pre ++ (M.obj n).data) := by
  have hob := w.obj hn
  have hnr := hob.nd
  obtain ⟨x, E', H', e, -, ⟨rfl, g1, g2⟩, fr⟩ := loop_at (p := P) (c := C24_1) (E0 := E0) (H0 := H) (fun k E H => ∃ j : Nat, E 11 = .i j ∧ j ≤ (M.obj n).data.length ∧ k = (M.obj n).data.length - j ∧ Gr H0 H ∧ IL (sb + 1) H (E 7) (pre ++ (M.obj n).data.take j) ∧ H[sb]? = some sv)
    (fun x E' H' => x = .exit 2 ∧ Gr H0 H' ∧ IL (sb + 1) H' (E' 7) (pre ++ (M.obj n).data)) (by
      rintro k E H hE ⟨j, e5, hj, rfl, gr, hv, hk⟩
      have e0 := (hE 0 (by decide +kernel)).trans h0
      have e1 := (hE 1 (by decide +kernel)).trans h1
      have es := (hE 5 (by decide +kernel)).trans hs
      have hkl := lt_of_get hk
      have hk' := hk
      rw [hsv] at hk'
      by_cases c : j < (M.obj n).data.length
      · have d1 := f47 (m.gr gr) w n j
        have s1 : M.dataAt n j = ((M.obj n).data.getD j 0, 0) := by unfold Mdl.dataAt; rw [if_pos hn, elAt_get c]
        rw [s1] at d1
        simp only [pair2] at d1
        obtain ⟨v', H', a1, a2, a3, a4⟩ := hv.push (by omega) (by simp; omega) ((M.obj n).data.getD j 0)
        have hw := wrapS j (by omega)
        generalize he3 : E 7 = v3 at *
        apply step_go (k' := (M.obj n).data.length - (j + 1))
        · simp (disch := first | omega | rfl | assumption | (simp only [csN, Nat.reduceAdd, Nat.reduceMul, Nat.reduceLeDiff, Nat.reduceEqDiff] <;> omega) | (simp only [csF]; done) | (simp only [csF] <;> assumption) | fail) only [Nat.reduceEqDiff, Nat.reduceAdd, Nat.reduceMul, Nat.reduceSub, Nat.reduceLeDiff, Int.reduceAdd, Int.reduceSub, Int.reduceMul, Int.reduceLT, Int.reduceLE, Int.reduceGT, Int.reduceGE, Int.reduceEq, Int.reduceBEq, Int.reduceBNe, Int.reduceNeg, Int.reduceToNat, csAll, ↓reduceIte, C24_1, e0, e1, es, e5, hk', d1, he3, a1, hw]
          rfl
        · omega
        · refine ⟨j + 1, by simp [upd_apply], by omega, rfl, gr.low' (by omega) (fun c hc => a4 c (by omega)), ?_, by rw [a4 sb (by omega), hk]⟩
          rw [take_snoc (getD_of 0 c), ← List.append_assoc]
          simpa [upd_apply] using a2
      · apply step_out (x := .exit 2)
        · simp (disch := first | omega | rfl | assumption | (simp only [csN, Nat.reduceAdd, Nat.reduceMul, Nat.reduceLeDiff, Nat.reduceEqDiff] <;> omega) | (simp only [csF]; done) | (simp only [csF] <;> assumption) | fail) only [Nat.reduceEqDiff, Nat.reduceAdd, Nat.reduceMul, Nat.reduceSub, Nat.reduceLeDiff, Int.reduceAdd, Int.reduceSub, Int.reduceMul, Int.reduceLT, Int.reduceLE, Int.reduceGT, Int.reduceGE, Int.reduceEq, Int.reduceBEq, Int.reduceBNe, Int.reduceNeg, Int.reduceToNat, csAll, ↓reduceIte, C24_1, es, e5, hk']
          rfl
        · simp
        · rw [take_all (by omega)] at hv
          exact ⟨rfl, gr, by simpa [upd_apply] using hv⟩) _ ⟨0, h5, by omega, rfl, gr, by simpa using hv, hk⟩
  exact ⟨E', H', hr.symm.trans e, g1, g2⟩

/-- contents. -/
theorem f24 (m : MRep o g H b M L) (w : M.Ok) {n : Int} (hn : M.has n) : ∃ v H', run P 24 [.ptr b 0, .i n] H = some (v, H') ∧ Gr H H' ∧ IL H.length H' v (M.obj n).content := by
  have d1 := f15 m w n
  have hs : M.shapeAt n = (((M.obj n).nr, (M.obj n).nd, (M.obj n).kd), 0) := by unfold Mdl.shapeAt; rw [if_pos hn]
  rw [hs] at d1
  simp only [shape3] at d1
  have hob := w.obj hn
  have hnr := hob.nr
  rw [run_lv c24]
  simp (disch := first | omega | rfl | assumption | (simp only [csN, Nat.reduceAdd, Nat.reduceMul, Nat.reduceLeDiff, Nat.reduceEqDiff] <;> omega) | (simp only [csF]; done) | (simp only [csF] <;> assumption) | fail) only [Nat.reduceEqDiff, Nat.reduceAdd, Nat.reduceMul, Nat.reduceSub, Nat.reduceLeDiff, Int.reduceAdd, Int.reduceSub, Int.reduceMul, Int.reduceLT, Int.reduceLE, Int.reduceGT, Int.reduceGE, Int.reduceEq, Int.reduceBEq, Int.reduceBNe, Int.reduceNeg, Int.reduceToNat, csAll, ↓reduceIte, C24, entry_2, d1]
  generalize hr : den P (.loop C24_2) _ _ = r
  have gr0 : Gr H (H ++ [⟨[.i (M.obj n).nr, .i (M.obj n).nd, .i (M.obj n).kd], .rw, 0⟩] ++ [⟨[.i (M.obj n).nr, .i (M.obj n).nd, .i (M.obj n).kd], .rw, 0⟩] ++ [⟨[.i (M.obj n).nr, .i (M.obj n).nd, .i (M.obj n).kd], .rw, 1⟩]) := ((Gr.app _ _).app' _).app' _
  have gl : (H ++ [⟨[.i (M.obj n).nr, .i (M.obj n).nd, .i (M.obj n).kd], .rw, 0⟩] ++ [⟨[.i (M.obj n).nr, .i (M.obj n).nd, .i (M.obj n).kd], .rw, 0⟩] : CHeap)[H.length + 1]? = some ⟨[.i (M.obj n).nr, .i (M.obj n).nd, .i (M.obj n).kd], .rw, 0⟩ := by simp
  obtain ⟨E1, H1, rfl, g1, i1, q1, k1⟩ := l24_2 m w hn (pre := [(M.obj n).nr, (M.obj n).nd, (M.obj n).kd]) (sb := H.length + 1) (by simp) (by simp only [upd_apply, Nat.reduceEqDiff, ↓reduceIte]) (by simp only [upd_apply, Nat.reduceEqDiff, ↓reduceIte]) (by simp only [upd_apply, Nat.reduceEqDiff, ↓reduceIte]) (by omega) rfl
    (by rw [List.getElem?_append_left (by simp), gl]) (by simp only [upd_apply, Nat.reduceEqDiff, ↓reduceIte]) gr0 (by simp only [upd_apply, Nat.reduceEqDiff, ↓reduceIte]; exact IL.blk (b := H.length + 1 + 1) (by omega) (look_last (by simp)) rfl) hr
  have k0 := k1 0 (by decide +kernel)
  have k1' := k1 1 (by decide +kernel)
  have k5 := k1 5 (by decide +kernel)
  simp only [upd_apply, Nat.reduceEqDiff, ↓reduceIte] at k0 k1' k5
  simp (disch := first | omega | rfl | assumption | (simp only [csN, Nat.reduceAdd, Nat.reduceMul, Nat.reduceLeDiff, Nat.reduceEqDiff] <;> omega) | (simp only [csF]; done) | (simp only [csF] <;> assumption) | fail) only [Nat.reduceEqDiff, Nat.reduceAdd, Nat.reduceMul, Nat.reduceSub, Nat.reduceLeDiff, Int.reduceAdd, Int.reduceSub, Int.reduceMul, Int.reduceLT, Int.reduceLE, Int.reduceGT, Int.reduceGE, Int.reduceEq, Int.reduceBEq, Int.reduceBNe, Int.reduceNeg, Int.reduceToNat, csAll, ↓reduceIte]
  generalize hr2 : den P (.loop C24_1) _ _ = r2
  obtain ⟨E2, H2, rfl, g2, i2⟩ := l24_1 m w hn (pre := [(M.obj n).nr, (M.obj n).nd, (M.obj n).kd] ++ (M.obj n).refs) (sb := H.length + 1) (by simp; omega) (by simp only [upd_apply, Nat.reduceEqDiff, ↓reduceIte, k0]) (by simp only [upd_apply, Nat.reduceEqDiff, ↓reduceIte, k1']) (by simp only [upd_apply, Nat.reduceEqDiff, ↓reduceIte, k5]) (by omega) rfl q1 (by simp only [upd_apply, Nat.reduceEqDiff, ↓reduceIte]) g1 (by simp only [upd_apply, Nat.reduceEqDiff, ↓reduceIte]; exact i1) hr2
  simp (disch := first | omega | rfl | assumption | (simp only [csN, Nat.reduceAdd, Nat.reduceMul, Nat.reduceLeDiff, Nat.reduceEqDiff] <;> omega) | (simp only [csF]; done) | (simp only [csF] <;> assumption) | fail) only [Nat.reduceEqDiff, Nat.reduceAdd, Nat.reduceMul, Nat.reduceSub, Nat.reduceLeDiff, Int.reduceAdd, Int.reduceSub, Int.reduceMul, Int.reduceLT, Int.reduceLE, Int.reduceGT, Int.reduceGE, Int.reduceEq, Int.reduceBEq, Int.reduceBNe, Int.reduceNeg, Int.reduceToNat, csAll, ↓reduceIte]
  exact ⟨_, _, rfl, g2, i2.locMono (by omega)⟩
end
end Go.Cs.Try

/- state: all that a model has. -/
namespace Go.Cs.Try
open Go Go.Cs
set_option maxRecDepth 100000
section
variable {o : Tags} {g : Nat} {b : Nat} {M : Mdl} {L : Lay} {H0 H : CHeap}

theorem l28_3 (m : MRep o g H0 b M L) (w : M.Ok) {i : Nat} {s : List Int} (hs : M.slots[i]? = some s) {pre : List Int} (hp : pre.length ≤ 1000) {E0 : Env} (h0 : E0 0 = .ptr b 0) (h4 : E0 4 = .i i) (h5 : E0 5 = .i 0) (gr : Gr H0 H) (hv : IL H0.length H (E0 3) pre)
    {r : Option (CX × Env × CHeap)} (hr : den P (.loop C28_3) E0 H = r) :
    ∃ E' H', r = some (.exit 2, E', H') ∧ Gr H0 H' ∧ IL H0.length H' (E' 3) (pre ++ s) ∧ ∀ t, t ∉ wr C28_3 → E' t = E0 t := by
  have h16 := (w.s16 _ (List.mem_of_getElem? hs)).1
  obtain ⟨x, E', H', e, -, ⟨rfl, g1, g2⟩, fr⟩ := loop_at (p := P) (c := C28_3) (E0 := E0) (H0 := H) (fun k E H => ∃ j : Nat, E 5 = .i j ∧ j ≤ 16 ∧ k = 16 - j ∧ Gr H0 H ∧ IL H0.length H (E 3) (pre ++ s.take j))
    (fun x E' H' => x = .exit 2 ∧ Gr H0 H' ∧ IL H0.length H' (E' 3) (pre ++ s)) (by
      rintro k E H hE ⟨j, e5, hj, rfl, gr, hv⟩
      have e0 := (hE 0 (by decide +kernel)).trans h0
      have e4 := (hE 4 (by decide +kernel)).trans h4
      by_cases c : j < 16
      · obtain ⟨s1, s2⟩ := Mdl.slot_val w hs c
        have d1 := f25 (m.gr gr) w i j
        rw [s1] at d1
        simp only [pair2] at d1
        obtain ⟨v', H', a1, a2, a3, a4⟩ := hv.push gr.len (by simp; omega) (s.getD j 0)
        have hw := wrapS j (by omega)
        generalize he3 : E 3 = v3 at *
        apply step_go (k' := 16 - (j + 1))
        · simp (disch := first | omega | rfl | assumption | (simp only [csN, Nat.reduceAdd, Nat.reduceMul, Nat.reduceLeDiff, Nat.reduceEqDiff] <;> omega) | (simp only [csF]; done) | (simp only [csF] <;> assumption) | fail) only [Nat.reduceEqDiff, Nat.reduceAdd, Nat.reduceMul, Nat.reduceSub, Nat.reduceLeDiff, Int.reduceAdd, Int.reduceSub, Int.reduceMul, Int.reduceLT, Int.reduceLE, Int.reduceGT, Int.reduceGE, Int.reduceEq, Int.reduceBEq, Int.reduceBNe, Int.reduceNeg, Int.reduceToNat, csAll, ↓reduceIte, C28_3, e0, e4, e5, d1, he3, a1, hw]
          rfl
        · omega
        · refine ⟨j + 1, by simp [upd_apply], by omega, rfl, gr.low' a3 a4, ?_⟩
          rw [take_snoc s2, ← List.append_assoc]
          simpa [upd_apply] using a2
      · apply step_out (x := .exit 2)
        · simp (disch := first | omega | rfl | assumption | (simp only [csN, Nat.reduceAdd, Nat.reduceMul, Nat.reduceLeDiff, Nat.reduceEqDiff] <;> omega) | (simp only [csF]; done) | (simp only [csF] <;> assumption) | fail) only [Nat.reduceEqDiff, Nat.reduceAdd, Nat.reduceMul, Nat.reduceSub, Nat.reduceLeDiff, Int.reduceAdd, Int.reduceSub, Int.reduceMul, Int.reduceLT, Int.reduceLE, Int.reduceGT, Int.reduceGE, Int.reduceEq, Int.reduceBEq, Int.reduceBNe, Int.reduceNeg, Int.reduceToNat, csAll, ↓reduceIte, C28_3, e5]
          rfl
        · simp
        · rw [take_all (by omega)] at hv
          exact ⟨rfl, gr, by simpa [upd_apply] using hv⟩) 16 ⟨0, h5, by omega, rfl, gr, by simpa using hv⟩
  exact ⟨E', H', hr.symm.trans e, g1, g2, fr⟩

theorem l28_2 (m : MRep o g H0 b M L) (w : M.Ok) {pre : List Int} (hp : pre.length ≤ 1000) {E0 : Env} (h0 : E0 0 = .ptr b 0) (h5 : E0 8 = .i 0) (gr : Gr H0 H) (hv : IL H0.length H (E0 3) pre)
    {r : Option (CX × Env × CHeap)} (hr : den P (.loop C28_2) E0 H = r) :
    ∃ E' H', r = some (.exit 4, E', H') ∧ Gr H0 H' ∧ IL H0.length H' (E' 3) (pre ++ M.globals) ∧ ∀ t, t ∉ wr C28_2 → E' t = E0 t := by
  have h16 := w.g16.1
  obtain ⟨x, E', H', e, -, ⟨rfl, g1, g2⟩, fr⟩ := loop_at (p := P) (c := C28_2) (E0 := E0) (H0 := H) (fun k E H => ∃ j : Nat, E 8 = .i j ∧ j ≤ 16 ∧ k = 16 - j ∧ Gr H0 H ∧ IL H0.length H (E 3) (pre ++ M.globals.take j))
    (fun x E' H' => x = .exit 4 ∧ Gr H0 H' ∧ IL H0.length H' (E' 3) (pre ++ M.globals)) (by
      rintro k E H hE ⟨j, e5, hj, rfl, gr, hv⟩
      have e0 := (hE 0 (by decide +kernel)).trans h0
      by_cases c : j < 16
      · have s2 := getD_of (l := M.globals) (i := j) 0 (by omega)
        have d1 := f37 (m.gr gr) w j
        have s1 : M.globalAt j = (M.globals.getD j 0, 0) := by unfold Mdl.globalAt; rw [if_pos (by omega)]; simp
        rw [s1] at d1
        simp only [pair2] at d1
        obtain ⟨v', H', a1, a2, a3, a4⟩ := hv.push gr.len (by simp; omega) (M.globals.getD j 0)
        have hw := wrapS j (by omega)
        generalize he3 : E 3 = v3 at *
        apply step_go (k' := 16 - (j + 1))
        · simp (disch := first | omega | rfl | assumption | (simp only [csN, Nat.reduceAdd, Nat.reduceMul, Nat.reduceLeDiff, Nat.reduceEqDiff] <;> omega) | (simp only [csF]; done) | (simp only [csF] <;> assumption) | fail) only [Nat.reduceEqDiff, Nat.reduceAdd, Nat.reduceMul, Nat.reduceSub, Nat.reduceLeDiff, Int.reduceAdd, Int.reduceSub, Int.reduceMul, Int.reduceLT, Int.reduceLE, Int.reduceGT, Int.reduceGE, Int.reduceEq, Int.reduceBEq, Int.reduceBNe, Int.reduceNeg, Int.reduceToNat, csAll, ↓reduceIte, C28_2, e0, e5, d1, he3, a1, hw]
          rfl
        · omega
        · refine ⟨j + 1, by simp [upd_apply], by omega, rfl, gr.low' a3 a4, ?_⟩
          rw [take_snoc s2, ← List.append_assoc]
          simpa [upd_apply] using a2
      · apply step_out (x := .exit 4)
        · simp (disch := first | omega | rfl | assumption | (simp only [csN, Nat.reduceAdd, Nat.reduceMul, Nat.reduceLeDiff, Nat.reduceEqDiff] <;> omega) | (simp only [csF]; done) | (simp only [csF] <;> assumption) | fail) only [Nat.reduceEqDiff, Nat.reduceAdd, Nat.reduceMul, Nat.reduceSub, Nat.reduceLeDiff, Int.reduceAdd, Int.reduceSub, Int.reduceMul, Int.reduceLT, Int.reduceLE, Int.reduceGT, Int.reduceGE, Int.reduceEq, Int.reduceBEq, Int.reduceBNe, Int.reduceNeg, Int.reduceToNat, csAll, ↓reduceIte, C28_2, e5]
          rfl
        · simp
        · rw [take_all (by omega)] at hv
          exact ⟨rfl, gr, by simpa [upd_apply] using hv⟩) 16 ⟨0, h5, by omega, rfl, gr, by simpa using hv⟩
  exact ⟨E', H', hr.symm.trans e, g1, g2, fr⟩

theorem l28_4 (m : MRep o g H0 b M L) (w : M.Ok) {E0 : Env} (h0 : E0 0 = .ptr b 0) (h5 : E0 4 = .i 0) (gr : Gr H0 H) {pre : List Int} (hp : pre.length ≤ 10) (hv : IL H0.length H (E0 3) pre)
    {r : Option (CX × Env × CHeap)} (hr : den P (.loop C28_4) E0 H = r) :
    ∃ E' H', r = some (.exit 0, E', H') ∧ Gr H0 H' ∧ IL H0.length H' (E' 3) (pre ++ M.slots.flatten) ∧ ∀ t, t ∉ wr C28_4 → E' t = E0 t := by
  have hns := w.ns
  obtain ⟨x, E', H', e, -, ⟨rfl, g1, g2⟩, fr⟩ := loop_at (p := P) (c := C28_4) (E0 := E0) (H0 := H) (fun k E H => ∃ j : Nat, E 4 = .i j ∧ j ≤ M.slots.length ∧ k = M.slots.length - j ∧ Gr H0 H ∧ IL H0.length H (E 3) (pre ++ (M.slots.take j).flatten))
    (fun x E' H' => x = .exit 0 ∧ Gr H0 H' ∧ IL H0.length H' (E' 3) (pre ++ M.slots.flatten)) (by
      rintro k E H hE ⟨j, e5, hj, rfl, gr, hv⟩
      have e0 := (hE 0 (by decide +kernel)).trans h0
      have d1 := f22 (m.gr gr) w
      by_cases c : j < M.slots.length
      · have s2 := getD_of (l := M.slots) (i := j) [] (by omega)
        have hw := wrapS j (by omega)
        have hfs := flatSlots w j
        have key : ∃ E' H', den P C28_4 E H = some (.normal, E', H') ∧ E' 4 = .i ((j + 1 : Nat) : Int) ∧ Gr H0 H' ∧ IL H0.length H' (E' 3) (pre ++ (M.slots.take (j + 1)).flatten) := by
          simp (disch := first | omega | rfl | assumption | (simp only [csN, Nat.reduceAdd, Nat.reduceMul, Nat.reduceLeDiff, Nat.reduceEqDiff] <;> omega) | (simp only [csF]; done) | (simp only [csF] <;> assumption) | fail) only [Nat.reduceEqDiff, Nat.reduceAdd, Nat.reduceMul, Nat.reduceSub, Nat.reduceLeDiff, Int.reduceAdd, Int.reduceSub, Int.reduceMul, Int.reduceLT, Int.reduceLE, Int.reduceGT, Int.reduceGE, Int.reduceEq, Int.reduceBEq, Int.reduceBNe, Int.reduceNeg, Int.reduceToNat, csAll, ↓reduceIte, C28_4, e0, e5, d1]
          generalize hr : den P (.loop C28_3) _ _ = r
          obtain ⟨E2, H2, rfl, q1, q2, q3⟩ := l28_3 m w (pre := pre ++ (M.slots.take j).flatten) s2 (by simp; simp at hfs; omega) (by simp only [upd_apply, Nat.reduceEqDiff, ↓reduceIte, e0]) (by simp only [upd_apply, Nat.reduceEqDiff, ↓reduceIte, e5]) (by simp only [upd_apply, Nat.reduceEqDiff, ↓reduceIte]) gr (by simp only [upd_apply, Nat.reduceEqDiff, ↓reduceIte]; exact hv) hr
          have k4 := q3 4 (by decide +kernel)
          simp only [upd_apply, Nat.reduceEqDiff, ↓reduceIte, e5] at k4
          simp (disch := first | omega | rfl | assumption | (simp only [csN, Nat.reduceAdd, Nat.reduceMul, Nat.reduceLeDiff, Nat.reduceEqDiff] <;> omega) | (simp only [csF]; done) | (simp only [csF] <;> assumption) | fail) only [Nat.reduceEqDiff, Nat.reduceAdd, Nat.reduceMul, Nat.reduceSub, Nat.reduceLeDiff, Int.reduceAdd, Int.reduceSub, Int.reduceMul, Int.reduceLT, Int.reduceLE, Int.reduceGT, Int.reduceGE, Int.reduceEq, Int.reduceBEq, Int.reduceBNe, Int.reduceNeg, Int.reduceToNat, csAll, ↓reduceIte, k4, hw]
          refine ⟨_, _, rfl, by simp [upd_apply], q1, ?_⟩
          rw [take_snoc s2, List.flatten_append, List.flatten_singleton, ← List.append_assoc]
          simpa [upd_apply] using q2
        obtain ⟨E', H', k1, k2, k3, k4⟩ := key
        exact step_go (k' := M.slots.length - (j + 1)) k1 (by omega) ⟨j + 1, k2, by omega, rfl, k3, k4⟩
      · apply step_out (x := .exit 0)
        · simp (disch := first | omega | rfl | assumption | (simp only [csN, Nat.reduceAdd, Nat.reduceMul, Nat.reduceLeDiff, Nat.reduceEqDiff] <;> omega) | (simp only [csF]; done) | (simp only [csF] <;> assumption) | fail) only [Nat.reduceEqDiff, Nat.reduceAdd, Nat.reduceMul, Nat.reduceSub, Nat.reduceLeDiff, Int.reduceAdd, Int.reduceSub, Int.reduceMul, Int.reduceLT, Int.reduceLE, Int.reduceGT, Int.reduceGE, Int.reduceEq, Int.reduceBEq, Int.reduceBNe, Int.reduceNeg, Int.reduceToNat, csAll, ↓reduceIte, C28_4, e0, e5, d1]
          rfl
        · simp
        · rw [take_all (by omega)] at hv
          exact ⟨rfl, gr, by simpa [upd_apply] using hv⟩) M.slots.length ⟨0, h5, by omega, rfl, gr, by simpa using hv⟩
  exact ⟨E', H', hr.symm.trans e, g1, g2, fr⟩


theorem Mdl.obj_at {M : Mdl} {j : Nat} (h : j < M.objs.length) : M.objs[j]? = some (M.obj ((j + 1 : Nat) : Int)) := by
  have := Mdl.obj_get (M := M) (n := ((j + 1 : Nat) : Int)) (by unfold Mdl.has; omega)
  have e : (((j + 1 : Nat) : Int) - 1).toNat = j := by omega
  rw [e] at this; exact this

theorem l28_1 (m : MRep o g H0 b M L) (w : M.Ok) (hf : M.objs.length ≤ 1000) {pre : List Int} (hp : pre.length ≤ 1000) {E0 : Env} (h0 : E0 0 = .ptr b 0) (h5 : E0 11 = .i 1) (gr : Gr H0 H) (hv : IL H0.length H (E0 3) pre)
    {r : Option (CX × Env × CHeap)} (hr : den P (.loop C28_1) E0 H = r) :
    ∃ E' H', r = some (.exit 6, E', H') ∧ Gr H0 H' ∧ IL H0.length H' (E' 3) (pre ++ (M.objs.map Obj.content).flatten) := by
  obtain ⟨x, E', H', e, -, ⟨rfl, g1, g2⟩, fr⟩ := loop_at (p := P) (c := C28_1) (E0 := E0) (H0 := H) (fun k E H => ∃ j : Nat, E 11 = .i ((j + 1 : Nat) : Int) ∧ j ≤ M.objs.length ∧ k = M.objs.length - j ∧ Gr H0 H ∧ IL H0.length H (E 3) (pre ++ ((M.objs.take j).map Obj.content).flatten))
    (fun x E' H' => x = .exit 6 ∧ Gr H0 H' ∧ IL H0.length H' (E' 3) (pre ++ (M.objs.map Obj.content).flatten)) (by
      rintro k E H hE ⟨j, e5, hj, rfl, gr, hv⟩
      have e0 := (hE 0 (by decide +kernel)).trans h0
      have d1 := f23 (m.gr gr) w
      by_cases c : j < M.objs.length
      · have hh : M.has ((j + 1 : Nat) : Int) := by unfold Mdl.has; omega
        obtain ⟨vc, Hc, d2, gc, ic⟩ := f24 (m.gr gr) w hh
        have hcl := (w.obj hh).clen
        have hol := w.olen j
        have he := ic.elems (H' := Hc) (fun _ _ => rfl)
        obtain ⟨v', H', a1, a2, a3, a4⟩ := IL.cat (l2 := (M.obj ((j + 1 : Nat) : Int)).content) (hv.gr gc) (by have := gr.len; have := gc.len; omega) (by simp only [List.length_append]; omega)
        have hap : vAppend 1 (E 3) (elems Hc 1 vc) Hc = some (v', H') := by rw [he, vAppend_s, a1]
        have hw := wrapS (j + 1) (by omega)
        generalize he3 : E 3 = v3 at *
        apply step_go (k' := M.objs.length - (j + 1))
        · simp (disch := first | omega | rfl | assumption | (simp only [csN, Nat.reduceAdd, Nat.reduceMul, Nat.reduceLeDiff, Nat.reduceEqDiff] <;> omega) | (simp only [csF]; done) | (simp only [csF] <;> assumption) | fail) only [Nat.reduceEqDiff, Nat.reduceAdd, Nat.reduceMul, Nat.reduceSub, Nat.reduceLeDiff, Int.reduceAdd, Int.reduceSub, Int.reduceMul, Int.reduceLT, Int.reduceLE, Int.reduceGT, Int.reduceGE, Int.reduceEq, Int.reduceBEq, Int.reduceBNe, Int.reduceNeg, Int.reduceToNat, csAll, ↓reduceIte, C28_1, e0, e5, d1, d2, he3, hap, hw]
          rfl
        · omega
        · refine ⟨j + 1, by simp [upd_apply], by omega, rfl, (gr.trans gc).low' a3 a4, ?_⟩
          rw [take_snoc (Mdl.obj_at c), List.map_append, List.flatten_append, List.map_cons, List.map_nil, List.flatten_singleton, ← List.append_assoc]
          simpa [upd_apply] using a2
      · apply step_out (x := .exit 6)
        · simp (disch := first | omega | rfl | assumption | (simp only [csN, Nat.reduceAdd, Nat.reduceMul, Nat.reduceLeDiff, Nat.reduceEqDiff] <;> omega) | (simp only [csF]; done) | (simp only [csF] <;> assumption) | fail) only [Nat.reduceEqDiff, Nat.reduceAdd, Nat.reduceMul, Nat.reduceSub, Nat.reduceLeDiff, Int.reduceAdd, Int.reduceSub, Int.reduceMul, Int.reduceLT, Int.reduceLE, Int.reduceGT, Int.reduceGE, Int.reduceEq, Int.reduceBEq, Int.reduceBNe, Int.reduceNeg, Int.reduceToNat, csAll, ↓reduceIte, C28_1, e0, e5, d1]
          rfl
        · simp
        · rw [take_all (by omega)] at hv
          exact ⟨rfl, gr, by simpa [upd_apply] using hv⟩) M.objs.length ⟨0, h5, by omega, rfl, gr, by simpa using hv⟩
  exact ⟨E', H', hr.symm.trans e, g1, g2⟩

/-- state. -/
theorem f28 (m : MRep o g H b M L) (w : M.Ok) (hf : M.objs.length ≤ 1000) : ∃ v H', run P 28 [.ptr b 0] H = some (v, H') ∧ Gr H H' ∧ IL H.length H' v M.state := by
  have d1 := f23 m w
  have d2 := f22 m w
  rw [run_lv c28]
  simp (disch := first | omega | rfl | assumption | (simp only [csN, Nat.reduceAdd, Nat.reduceMul, Nat.reduceLeDiff, Nat.reduceEqDiff] <;> omega) | (simp only [csF]; done) | (simp only [csF] <;> assumption) | fail) only [Nat.reduceEqDiff, Nat.reduceAdd, Nat.reduceMul, Nat.reduceSub, Nat.reduceLeDiff, Int.reduceAdd, Int.reduceSub, Int.reduceMul, Int.reduceLT, Int.reduceLE, Int.reduceGT, Int.reduceGE, Int.reduceEq, Int.reduceBEq, Int.reduceBNe, Int.reduceNeg, Int.reduceToNat, csAll, ↓reduceIte, C28, entry_1, d1, d2]
  generalize hr : den P (.loop C28_4) _ _ = r
  obtain ⟨E1, H1, rfl, g1, i1, k1⟩ := l28_4 m w (pre := [(M.objs.length : Int), (M.slots.length : Int)]) (by simp only [upd_apply, Nat.reduceEqDiff, ↓reduceIte]) (by simp only [upd_apply, Nat.reduceEqDiff, ↓reduceIte]) (.app H _) (by simp) (by simp only [upd_apply, Nat.reduceEqDiff, ↓reduceIte]; exact IL.blk (b := H.length) (by omega) (look_last rfl) rfl) hr
  have k0 := k1 0 (by decide +kernel)
  simp only [upd_apply, Nat.reduceEqDiff, ↓reduceIte] at k0
  have hfs := flatSlots w M.slots.length
  rw [take_all (Nat.le_refl _)] at hfs
  simp (disch := first | omega | rfl | assumption | (simp only [csN, Nat.reduceAdd, Nat.reduceMul, Nat.reduceLeDiff, Nat.reduceEqDiff] <;> omega) | (simp only [csF]; done) | (simp only [csF] <;> assumption) | fail) only [Nat.reduceEqDiff, Nat.reduceAdd, Nat.reduceMul, Nat.reduceSub, Nat.reduceLeDiff, Int.reduceAdd, Int.reduceSub, Int.reduceMul, Int.reduceLT, Int.reduceLE, Int.reduceGT, Int.reduceGE, Int.reduceEq, Int.reduceBEq, Int.reduceBNe, Int.reduceNeg, Int.reduceToNat, csAll, ↓reduceIte, k0]
  generalize hr2 : den P (.loop C28_2) _ _ = r2
  obtain ⟨E2, H2, rfl, g2, i2, k2⟩ := l28_2 m w (pre := [(M.objs.length : Int), (M.slots.length : Int)] ++ M.slots.flatten) (by simp only [List.length_append, List.length_cons, List.length_nil]; omega) (by simp only [upd_apply, Nat.reduceEqDiff, ↓reduceIte, k0]) (by simp only [upd_apply, Nat.reduceEqDiff, ↓reduceIte]) g1 (by simp only [upd_apply, Nat.reduceEqDiff, ↓reduceIte]; exact i1) hr2
  have k0' := k2 0 (by decide +kernel)
  simp only [upd_apply, Nat.reduceEqDiff, ↓reduceIte, k0] at k0'
  have h16 := w.g16.1
  obtain ⟨vq, Hq, e39, v', H', ea, gf, il⟩ := catQ m w (by simp only [List.length_append, List.length_cons, List.length_nil]; omega) g2 i2
  simp (disch := first | omega | rfl | assumption | (simp only [csN, Nat.reduceAdd, Nat.reduceMul, Nat.reduceLeDiff, Nat.reduceEqDiff] <;> omega) | (simp only [csF]; done) | (simp only [csF] <;> assumption) | fail) only [Nat.reduceEqDiff, Nat.reduceAdd, Nat.reduceMul, Nat.reduceSub, Nat.reduceLeDiff, Int.reduceAdd, Int.reduceSub, Int.reduceMul, Int.reduceLT, Int.reduceLE, Int.reduceGT, Int.reduceGE, Int.reduceEq, Int.reduceBEq, Int.reduceBNe, Int.reduceNeg, Int.reduceToNat, csAll, ↓reduceIte, k0', e39, ea]
  generalize hr3 : den P (.loop C28_1) _ _ = r3
  obtain ⟨E3, H3, rfl, g3, i3⟩ := l28_1 m w hf (pre := [(M.objs.length : Int), (M.slots.length : Int)] ++ M.places) (by have := w.plen; simp only [List.length_append, List.length_cons, List.length_nil]; omega) (by simp only [upd_apply, Nat.reduceEqDiff, ↓reduceIte, k0']) (by simp only [upd_apply, Nat.reduceEqDiff, ↓reduceIte]) gf (by simp only [upd_apply, Nat.reduceEqDiff, ↓reduceIte]; simpa [Mdl.places] using il) hr3
  simp (disch := first | omega | rfl | assumption | (simp only [csN, Nat.reduceAdd, Nat.reduceMul, Nat.reduceLeDiff, Nat.reduceEqDiff] <;> omega) | (simp only [csF]; done) | (simp only [csF] <;> assumption) | fail) only [Nat.reduceEqDiff, Nat.reduceAdd, Nat.reduceMul, Nat.reduceSub, Nat.reduceLeDiff, Int.reduceAdd, Int.reduceSub, Int.reduceMul, Int.reduceLT, Int.reduceLE, Int.reduceGT, Int.reduceGE, Int.reduceEq, Int.reduceBEq, Int.reduceBNe, Int.reduceNeg, Int.reduceToNat, csAll, ↓reduceIte]
  exact ⟨_, _, rfl, g3, i3⟩
end
end Go.Cs.Try

/- Lists of lists of integers. -/
namespace Go.Cs
open Go
def One (b : Nat) : Tags := fun c => if c = b then some z3 else none
theorem One_some {b c : Nat} {t : Tag} : One b c = some t ↔ c = b ∧ t = z3 := by
  unfold One
  split
  · rename_i h; simp only [Option.some.injEq]; exact ⟨fun e => ⟨h, e.symm⟩, fun e => e.2.symm⟩
  · rename_i h; simp [h]
abbrev IB (b : Nat) (H : CHeap) (v : CV) (n : Nat) (cs : List CV) : Prop := At (One b) z3 H v 1 n cs
theorem IL.one {k : Nat} {H : CHeap} {v : CV} {l : List Int} (h : IL k H v l) (hk : k < H.length) : ∃ b, k ≤ b ∧ b < H.length ∧ IB b H v l.length (ints l) := by
  rcases h with h | ⟨b, tl, rfl, h1, h2, h3⟩
  · exact ⟨k, Nat.le_refl _, hk, .inl h⟩
  · exact ⟨b, (Loc_some.1 h1).1, lt_of_get h2, .inr ⟨b, tl, rfl, One_some.2 ⟨rfl, rfl⟩, h2, h3⟩⟩
theorem IB.keep {b n : Nat} {H H' : CHeap} {v : CV} {cs : List CV} (h : IB b H v n cs) (e : b < H.length → H'[b]? = H[b]?) : IB b H' v n cs := by
  rcases h with h | ⟨c, tl, rfl, h1, h2, h3⟩
  · exact .inl h
  · obtain ⟨rfl, -⟩ := One_some.1 h1
    exact .inr ⟨c, tl, rfl, h1, by rw [e (lt_of_get h2), h2], h3⟩
theorem IB.append {b n k : Nat} {H : CHeap} {v : CV} {cs new : List CV} (h : IB b H v n cs) (hk : 0 < k) (hm : n + k ≤ 16777216) (hl : new.all leaf = true) (hnew : new.length = k) :
    ∃ v' H', appendTo H 1 v k new = some (v', H') ∧ IB H.length H' v' (n + k) (cs ++ new) ∧ H'.length = H.length + 1 ∧ ∀ c, c < H.length → c ≠ b → H'[c]? = H[c]? := by
  obtain ⟨H', a1, a2, a3, a4⟩ := At.append (k := k) (new := new) h hk hm hl (by omega)
  have hcl : cs.length = n := by
    rcases h with ⟨h1, h2, -⟩ | ⟨b, tl, -, -, -, h3⟩
    · simp [h1, h2]
    · omega
  exact ⟨_, H', a1, .inr ⟨H.length, true, rfl, One_some.2 ⟨rfl, rfl⟩, a3, by simp [hnew, hcl]⟩, a2, fun c hc hb => a4 c hc (fun h => hb (One_some.1 h).1)⟩

/-- A list of lists. -/
def LL (k : Nat) (H : CHeap) (v : CV) (ls : List (List Int)) : Prop :=
  ∃ b vs, k ≤ b ∧ IB b H v ls.length vs ∧ vs.length = ls.length ∧ ∀ (i : Nat) (l : List Int), ls[i]? = some l → ∃ u bi, vs[i]? = some u ∧ k ≤ bi ∧ bi ≠ b ∧ bi < H.length ∧ IB bi H u l.length (ints l)
theorem LL.nil {k : Nat} {H : CHeap} : LL k H .nilSlice [] := ⟨k, [], Nat.le_refl _, .inl ⟨rfl, rfl, .inl rfl⟩, rfl, fun i l h => by simp at h⟩
theorem LL.gr {k : Nat} {H H' : CHeap} {v : CV} {ls : List (List Int)} (h : LL k H v ls) (g : Gr H H') : LL k H' v ls := by
  obtain ⟨b, vs, h1, h2, h3, h4⟩ := h
  refine ⟨b, vs, h1, h2.keep (fun hb => g.low b hb), h3, fun i l hi => ?_⟩
  obtain ⟨u, bi, e1, e2, e3, e4, e5⟩ := h4 i l hi
  exact ⟨u, bi, e1, e2, e3, Nat.lt_of_lt_of_le e4 g.len, e5.keep (fun hb => g.low bi hb)⟩
theorem LL.frm {k g : Nat} {o o' : Tags} {H H' : CHeap} {v : CV} {ls : List (List Int)} (h : LL k H v ls) (hd : ∀ c t, o c = some t → c < k) (f : Frm g o H o' H') : LL k H' v ls := by
  obtain ⟨b, vs, h1, h2, h3, h4⟩ := h
  have key : ∀ c, k ≤ c → c < H.length → H'[c]? = H[c]? := fun c hc hl => f.keep c hl (fun x hx => by have := hd c _ hx; omega)
  refine ⟨b, vs, h1, h2.keep (fun hb => key b h1 hb), h3, fun i l hi => ?_⟩
  obtain ⟨u, bi, e1, e2, e3, e4, e5⟩ := h4 i l hi
  exact ⟨u, bi, e1, e2, e3, Nat.lt_of_lt_of_le e4 f.len, e5.keep (fun hb => key bi e2 hb)⟩
theorem LL.push {k : Nat} {H Hc : CHeap} {v vc : CV} {ls : List (List Int)} {l : List Int} (h : LL k H v ls) (hk : k ≤ H.length) (g : Gr H Hc) (hl : H.length < Hc.length) (hv : IL H.length Hc vc l) (hm : ls.length + 1 ≤ 16777216) :
    ∃ v' H', appendTo (Hc ++ [⟨[vc], .rw, 1⟩]) 1 v 1 [vc] = some (v', H') ∧ LL k H' v' (ls ++ [l]) ∧ k ≤ H'.length ∧ ∀ c, c < k → H'[c]? = H[c]? := by
  obtain ⟨b0, vs, h1, h20, h3, h40⟩ := h
  obtain ⟨bc, c1, c2, c3⟩ := hv.one hl
  have hlf : leaf vc = true := c3.leaf
  have hg := g.len
  obtain ⟨b, hb, hkb, h2, hbb⟩ : ∃ b, (b < H.length ∨ Hc.length < b) ∧ k ≤ b ∧ IB b H v ls.length vs ∧ (ls ≠ [] → b = b0) := by
    rcases h20 with h | ⟨c, tl, e, z1, z2, z3⟩
    · exact ⟨Hc.length + 1, .inr (by omega), by omega, .inl h, fun hne => absurd (List.eq_nil_of_length_eq_zero h.1) hne⟩
    · obtain ⟨rfl, -⟩ := One_some.1 z1
      exact ⟨c, .inl (lt_of_get z2), h1, .inr ⟨c, tl, e, z1, z2, z3⟩, fun _ => rfl⟩
  have h4 : ∀ (i : Nat) (l : List Int), ls[i]? = some l → ∃ u bi, vs[i]? = some u ∧ k ≤ bi ∧ bi ≠ b ∧ bi < H.length ∧ IB bi H u l.length (ints l) := fun i l hi => by
    have hne : ls ≠ [] := by rintro rfl; simp at hi
    rw [hbb hne]; exact h40 i l hi
  have h2' : IB b (Hc ++ [⟨[vc], .rw, 1⟩]) v ls.length vs := h2.keep (fun hb => by rw [List.getElem?_append_left (by omega), g.low b hb])
  obtain ⟨v', H', a1, a2, a3, a4⟩ := h2'.append (k := 1) (new := [vc]) (by omega) hm (by simp [hlf]) rfl
  have hcl : (Hc ++ [(⟨[vc], .rw, 1⟩ : Blk)]).length = Hc.length + 1 := by simp
  rw [hcl] at a2 a3 a4
  have low : ∀ c, c < Hc.length → c ≠ b → H'[c]? = Hc[c]? := fun c hc hb => by rw [a4 c (by omega) hb, List.getElem?_append_left hc]
  refine ⟨v', H', a1, ⟨Hc.length + 1, vs ++ [vc], by omega, by simpa using a2, by simp [h3], fun i l' hi => ?_⟩, by omega, fun c hc => ?_⟩
  · rw [List.getElem?_append] at hi
    split at hi
    · rename_i hlt
      obtain ⟨u, bi, e1, e2, e3, e4, e5⟩ := h4 i l' hi
      refine ⟨u, bi, by rw [List.getElem?_append_left (by omega)]; exact e1, e2, by omega, by omega, e5.keep (fun hb => ?_)⟩
      rw [low bi (by omega) e3, g.low bi e4]
    · rename_i hge
      have hil := lt_of_get hi
      simp only [List.length_singleton] at hil
      have hi0 : i = ls.length := by omega
      subst hi0
      simp at hi
      subst hi
      exact ⟨vc, bc, by rw [List.getElem?_append_right (by omega), h3]; simp, by omega, by omega, by omega, c3.keep (fun _ => low bc c2 (by omega))⟩
  · by_cases e : c = b
    · omega
    · rw [low c (by omega) e, g.low c (by omega)]
end Go.Cs

/- ModelRefused: the walk. -/
namespace Go.Cs
open Go
theorem Mdl.doAct_err {M : Mdl} {mu : Int} {x : Act} (h : (M.doAct mu x).2.2 ≠ 0) : (M.doAct mu x).1 = M := by
  unfold Mdl.doAct at h ⊢
  split at h
  · exact absurd rfl h
  · rename_i hc; rw [if_neg hc]
theorem Mdl.step_err {M : Mdl} {x : Stp} (h : (M.step x).2 ≠ 0) : (M.step x).1 = M := by
  unfold Mdl.step at h ⊢
  split at h
  · rename_i c; rw [if_pos c]; exact Mdl.doAct_err h
  · rename_i c
    rw [if_neg c]
    split at h
    · exact absurd rfl h
    · rename_i c
      rw [if_neg c]
      split at h
      · rename_i c
        rw [if_pos c]
        unfold Mdl.push at h ⊢
        split at h
        · split at h
          · rename_i c1 c2; rw [if_pos c1, if_pos c2]
          · exact absurd rfl h
        · rename_i c1; rw [if_neg c1]
      · rename_i c
        rw [if_neg c]
        split at h
        · rename_i c
          rw [if_pos c]
          unfold Mdl.pop at h ⊢
          split at h
          · rfl
          · exact absurd rfl h
        · rename_i c
          rw [if_neg c]
          split at h
          · rename_i c
            rw [if_pos c]
            unfold Mdl.setRef at h ⊢
            split at h
            · split at h
              · exact absurd rfl h
              · rename_i c1 c2; rw [if_pos c1, if_neg c2]
            · rename_i c1; rw [if_neg c1]
          · exact absurd rfl h
theorem Mdl.Ok.stlen {M : Mdl} (w : M.Ok) (hf : M.objs.length ≤ 1000) : M.state.length ≤ 16777216 := by
  have h1 := w.plen
  have h2 := w.olen M.objs.length
  rw [take_all (Nat.le_refl _)] at h2
  simp only [Mdl.state, List.length_append, List.length_cons, List.length_nil]; omega
theorem tag_none {o : Tags} {H : CHeap} (hd : ∀ c t, o c = some t → c < H.length) : o H.length = none := by
  cases h : o H.length with
  | none => rfl
  | some t => have := hd _ _ h; omega
end Go.Cs
namespace Go.Cs.Try
open Go Go.Cs
set_option maxRecDepth 100000
set_option maxHeartbeats 8000000
theorem f8 {o : Tags} {H : CHeap} {v : CV} {l : List Stp} (hd : ∀ c t, o c = some t → c < H.length) (hg : ∀ c k, o c ≠ some (0, k)) (st : Steps o H v l) (nn : Int) (x : Stp) :
    ∃ H', run P 8 [.i nn, v, .agg (stpCells x)] H = some (.bool true, H') := by
  have frb : Frm 0 o H o (H ++ [(⟨stpCells x, .rw, 0⟩ : Blk)]) := .app hd _
  have st0 := st.frm frb
  have hd0 : ∀ c t, o c = some t → c < (H ++ [(⟨stpCells x, .rw, 0⟩ : Blk)]).length := fun c t h => by have := hd c t h; simp; omega
  by_cases hok : (1 ≤ nn ∧ nn ≤ 4) ∧ l.length ≤ 120
  case neg =>
    obtain ⟨H1, e12⟩ := f12_no (H := H ++ [(⟨stpCells x, .rw, 0⟩ : Blk)]) (n := nn) st.len (by omega)
    obtain ⟨H2, e13⟩ := f13 (H := H1)
    apply ex_run
    rw [run_lv c8]
    simp (disch := first | omega | rfl | assumption | (simp only [csN, Nat.reduceAdd, Nat.reduceMul, Nat.reduceLeDiff, Nat.reduceEqDiff] <;> omega) | (simp only [csF]; done) | (simp only [csF] <;> assumption) | fail) only [Nat.reduceEqDiff, Nat.reduceAdd, Nat.reduceMul, Nat.reduceSub, Nat.reduceLeDiff, Int.reduceAdd, Int.reduceSub, Int.reduceMul, Int.reduceLT, Int.reduceLE, Int.reduceGT, Int.reduceGE, Int.reduceEq, Int.reduceBEq, Int.reduceBNe, Int.reduceNeg, Int.reduceToNat, csAll, ↓reduceIte, C8, entry_3, e12, e13]
    rfl
  obtain ⟨hn, hl⟩ := hok
  obtain ⟨n, rfl⟩ : ∃ n : Nat, nn = (n : Int) := ⟨nn.toNat, by omega⟩
  obtain ⟨b, H1, o1, L1, e12, m, fr1⟩ := f12 (g := 0) hd0 hg (n := n) (by omega) hl st0
  obtain ⟨w, hob⟩ := madeM_ok (n := n) (by omega) l (by omega)
  obtain ⟨bx1, bo1⟩ := fr1.kept (k := ⟨stpCells x, .rw, 0⟩) (look_last rfl) (tag_none hd)

  simp only [stpCells] at bx1
  by_cases hk : x.k = 1
  · obtain ⟨H2, e13⟩ := f13 (H := H1)
    apply ex_run
    rw [run_lv c8]
    simp (disch := first | omega | rfl | assumption | (simp only [csN, Nat.reduceAdd, Nat.reduceMul, Nat.reduceLeDiff, Nat.reduceEqDiff] <;> omega) | (simp only [csF]; done) | (simp only [csF] <;> assumption) | fail) only [Nat.reduceEqDiff, Nat.reduceAdd, Nat.reduceMul, Nat.reduceSub, Nat.reduceLeDiff, Int.reduceAdd, Int.reduceSub, Int.reduceMul, Int.reduceLT, Int.reduceLE, Int.reduceGT, Int.reduceGE, Int.reduceEq, Int.reduceBEq, Int.reduceBNe, Int.reduceNeg, Int.reduceToNat, csAll, ↓reduceIte, C8, entry_3, e12, e13, bx1, hk]
    rfl
  obtain ⟨v8, H2, e28, g2, i2⟩ := f28 m w (by omega)
  have m2 := m.gr g2
  obtain ⟨H3, o3, L3, e21, m3, fr3⟩ := f21 m2 w (by omega) x
  have bx2 := g2.get bx1
  simp only [stpCells] at e21
  by_cases he : ((madeM n l).step x).2 = 0
  · obtain ⟨Hf, ef⟩ := f13 (H := H3)
    rw [he] at e21
    apply ex_run
    rw [run_lv c8]
    simp (disch := first | omega | rfl | assumption | (simp only [csN, Nat.reduceAdd, Nat.reduceMul, Nat.reduceLeDiff, Nat.reduceEqDiff] <;> omega) | (simp only [csF]; done) | (simp only [csF] <;> assumption) | fail) only [Nat.reduceEqDiff, Nat.reduceAdd, Nat.reduceMul, Nat.reduceSub, Nat.reduceLeDiff, Int.reduceAdd, Int.reduceSub, Int.reduceMul, Int.reduceLT, Int.reduceLE, Int.reduceGT, Int.reduceGE, Int.reduceEq, Int.reduceBEq, Int.reduceBNe, Int.reduceNeg, Int.reduceToNat, csAll, ↓reduceIte, C8, entry_3, e12, e28, e21, ef, bx1, bx2, hk]
    rfl
  · rw [Mdl.step_err he] at m3
    obtain ⟨v30, H4, e30, g4, i4⟩ := f28 m3 w (by omega)
    have a2 := ((At.un' i2 m.dom).unFrm fr3).gr g4
    have e26 := f26 (l := (madeM n l).state) (l' := (madeM n l).state) i4 a2 (w.stlen (by omega))
    simp only [decide_true] at e26
    obtain ⟨Hf, ef⟩ := f13 (H := H4)
    apply ex_run
    rw [run_lv c8]
    simp (disch := first | omega | rfl | assumption | (simp only [csN, Nat.reduceAdd, Nat.reduceMul, Nat.reduceLeDiff, Nat.reduceEqDiff] <;> omega) | (simp only [csF]; done) | (simp only [csF] <;> assumption) | fail) only [Nat.reduceEqDiff, Nat.reduceAdd, Nat.reduceMul, Nat.reduceSub, Nat.reduceLeDiff, Int.reduceAdd, Int.reduceSub, Int.reduceMul, Int.reduceLT, Int.reduceLE, Int.reduceGT, Int.reduceGE, Int.reduceEq, Int.reduceBEq, Int.reduceBNe, Int.reduceNeg, Int.reduceToNat, csAll, ↓reduceIte, C8, entry_3, e12, e28, e21, e30, e26, ef, bx1, bx2, hk, he]
    rfl
end Go.Cs.Try

/- ModelTold: the walk. -/
namespace Go.Cs
open Go
theorem flat_get : ∀ {L : List (List Int)} (_ : ∀ s ∈ L, s.length = 16) (i : Nat), L.flatten[i]? = (L[i / 16]?).bind fun s => s[i % 16]?
  | [], _, i => by simp
  | a :: l, h, i => by
    rw [List.flatten_cons, List.getElem?_append, h a List.mem_cons_self]
    split
    · rename_i hi
      have h1 : i / 16 = 0 := by omega
      have h2 : i % 16 = i := by omega
      rw [h1, h2]; rfl
    · rename_i hi
      have h1 : i / 16 = (i - 16) / 16 + 1 := by omega
      have h2 : i % 16 = (i - 16) % 16 := by omega
      rw [flat_get (L := l) (fun s hs => h s (List.mem_cons_of_mem _ hs)), h1, h2]; rfl
theorem Mdl.doAct_slots (M : Mdl) (mu : Int) (x : Act) : (M.doAct mu x).1.slots = M.slots ∨
    ∃ z, (0 ≤ mu ∧ mu < (M.slots.length : Int)) ∧ (0 ≤ x.a ∧ x.a < 16) ∧ (M.doAct mu x).1.slots = M.slots.set mu.toNat ((M.slots.getD mu.toNat []).set x.a.toNat z) := by
  by_cases h : M.errOf mu x = 0
  · obtain ⟨⟨h1, h2, h12⟩, ⟨h3, -⟩, -⟩ := Mdl.errOf_0 h
    have hd : (M.doAct mu x).1 = (M.eff mu.toNat (M.slots.getD mu.toNat []) x).1 := by unfold Mdl.doAct; rw [if_pos h]
    rw [hd]
    rcases k12 h12 with e | e | e | e | e | e | e | e | e | e | e | e <;> simp only [Mdl.eff, e, Int.reduceEq, ↓reduceIte] <;> first
      | exact Or.inr ⟨_, ⟨h1, h2⟩, h3, rfl⟩
      | exact Or.inl rfl
      | exact Or.inl trivial
  · exact .inl (by unfold Mdl.doAct; rw [if_neg h])
theorem places_get {M : Mdl} (w : M.Ok) {i : Nat} (hi : i < 16 * M.slots.length) : M.places[i]? = (M.slots[i / 16]?).bind fun s => s[i % 16]? := by
  have h16 := fun s hs => (w.s16 s hs).1
  unfold Mdl.places
  rw [List.append_assoc, List.getElem?_append_left (by rw [flat16 h16]; exact hi), flat_get h16]
/-- What an act may change among the slots. -/
theorem Mdl.told {M : Mdl} (w : M.Ok) {mu : Int} {x : Act} (w' : (M.doAct mu x).1.Ok) : (M.doAct mu x).1.slots.length = M.slots.length ∧ ∃ p : Nat, ∀ i, i < 16 * M.slots.length → (M.doAct mu x).1.places[i]? ≠ M.places[i]? → ((i : Int).tdiv 16 = mu ∧ (i : Int).tmod 16 = x.a) ∧ i = p := by
  rcases Mdl.doAct_slots M mu x with h | ⟨z, h1, h2, h3⟩
  · refine ⟨by rw [h], 0, fun i hi hne => ?_⟩
    rw [places_get w hi, places_get w' (by rw [h]; exact hi), h] at hne
    exact absurd rfl hne
  · have hl : (M.doAct mu x).1.slots.length = M.slots.length := by rw [h3, List.length_set]
    refine ⟨hl, 16 * mu.toNat + x.a.toNat, fun i hi hne => ?_⟩
    rw [places_get w hi, places_get w' (by rw [hl]; exact hi), h3] at hne
    have hi' : i / 16 < M.slots.length := by omega
    by_cases e : i / 16 = mu.toNat
    · by_cases e' : i % 16 = x.a.toNat
      · rw [Int.tdiv_eq_ediv_of_nonneg (by omega), Int.tmod_eq_emod_of_nonneg (by omega)]
        refine ⟨⟨by omega, by omega⟩, by omega⟩
      · refine absurd ?_ hne
        rw [e, List.getElem?_set_self (by omega), getD_of [] (show mu.toNat < M.slots.length by omega)]
        simp only [Option.bind_some]
        rw [List.getElem?_set_ne (fun h => e' h.symm)]
    · exact absurd (by rw [List.getElem?_set_ne (fun h => e h.symm)]) hne
end Go.Cs
namespace Go.Cs.Try
open Go Go.Cs
set_option maxRecDepth 100000
set_option maxHeartbeats 8000000

theorem l4_1 {o o1 o2 : Tags} {g : Nat} {b : Nat} {M : Mdl} {L : Lay} {H : CHeap} (m : MRep o g H b M L) (w : M.Ok) {od nw : List Int} {t1 t2 : Tag} {vo vn : CV} (ho : At o1 t1 H vo 1 od.length (Go.Cs.ints od)) (hn : At o2 t2 H vn 1 nw.length (Go.Cs.ints nw))
    (hol : 16 * M.slots.length ≤ od.length) (hnl : 16 * M.slots.length ≤ nw.length) {bx : Nat} {x : Stp} (hb : H[bx]? = some ⟨stpCells { x with k := 0 }, .rw, 0⟩) {p : Nat}
    (hc : ∀ i, i < 16 * M.slots.length → nw[i]? ≠ od[i]? → ((i : Int).tdiv 16 = x.mu ∧ (i : Int).tmod 16 = x.act.a) ∧ i = p)
    {E0 : Env} (h5 : E0 5 = .ptr bx 0) (h7 : E0 7 = .ptr b 0) (h8 : E0 8 = vo) (h9 : E0 9 = vn) (h10 : E0 10 = .i 0) (h11 : E0 11 = .i 0)
    {r : Option (CX × Env × CHeap)} (hr : den P (.loop C4_1) E0 H = r) :
    ∃ E' c, r = some (.exit 0, E', H) ∧ E' 10 = .i c ∧ c ≤ 1 := by
  have hns := w.ns
  have d1 := f22 m w
  simp only [stpCells] at hb
  obtain ⟨x', E', H', e, -, ⟨rfl, g1, c, g2, g3⟩, fr⟩ := loop_at (p := P) (c := C4_1) (E0 := E0) (H0 := H) (fun k E H' => H' = H ∧ ∃ (j : Nat) (c : Int), E 11 = .i j ∧ j ≤ 16 * M.slots.length ∧ k = 16 * M.slots.length - j ∧ E 10 = .i c ∧ 0 ≤ c ∧ c ≤ 1 ∧ (j ≤ p → c = 0))
    (fun x E' H' => x = .exit 0 ∧ H' = H ∧ ∃ c, E' 10 = .i c ∧ c ≤ 1) (by
      rintro k E H' hE ⟨rfl, j, c, e11, hj, rfl, e10, hc0, hc1, hcp⟩
      have e5 := (hE 5 (by decide +kernel)).trans h5
      have e7 := (hE 7 (by decide +kernel)).trans h7
      have e8 := (hE 8 (by decide +kernel)).trans h8
      have e9 := (hE 9 (by decide +kernel)).trans h9
      have hm : IntKind.i64.wrap ((M.slots.length : Int) * 16) = ((16 * M.slots.length : Nat) : Int) := by rw [wrap_id (by omega)]; omega
      by_cases cj : j < 16 * M.slots.length
      · obtain ⟨tl, q1, -, q3, q4⟩ := ho.pos (by omega)
        obtain ⟨tl', p1, -, p3, p4⟩ := hn.pos (by omega)
        have hgo : (Go.Cs.ints od)[j]? = some (.i (od.getD j 0)) := by rw [ints_get, getD_of 0 (by omega)]; rfl
        have hgn : (Go.Cs.ints nw)[j]? = some (.i (nw.getD j 0)) := by rw [ints_get, getD_of 0 (by omega)]; rfl
        have hw := wrapS j (by omega)
        rw [q1] at e8
        rw [p1] at e9
        by_cases heq : nw.getD j 0 = od.getD j 0
        · apply step_go (k' := 16 * M.slots.length - (j + 1))
          · simp (disch := first | omega | rfl | assumption | (simp only [csN, Nat.reduceAdd, Nat.reduceMul, Nat.reduceLeDiff, Nat.reduceEqDiff] <;> omega) | (simp only [csF]; done) | (simp only [csF] <;> assumption) | fail) only [Nat.reduceEqDiff, Nat.reduceAdd, Nat.reduceMul, Nat.reduceSub, Nat.reduceLeDiff, Int.reduceAdd, Int.reduceSub, Int.reduceMul, Int.reduceLT, Int.reduceLE, Int.reduceGT, Int.reduceGE, Int.reduceEq, Int.reduceBEq, Int.reduceBNe, Int.reduceNeg, Int.reduceToNat, csAll, ↓reduceIte, C4_1, e5, e7, e8, e9, e10, e11, d1, hm, q3, p3, hgo, hgn, heq, hw]
            rfl
          · omega
          · refine ⟨rfl, j + 1, c, by simp [upd_apply], by omega, rfl, by simp [upd_apply, e10], hc0, hc1, fun h => hcp (by omega)⟩
        · obtain ⟨⟨z1, z2⟩, z3⟩ := hc j cj (by rw [getD_of 0 (show j < nw.length by omega), getD_of 0 (show j < od.length by omega)]; simpa using heq)
          have hc00 := hcp (by omega)
          subst hc00
          have hwd : IntKind.i64.wrap ((j : Int).tdiv 16) = x.mu := by rw [z1]; rw [← z1, wrap_id]; rw [Int.tdiv_eq_ediv_of_nonneg (by omega)]; omega
          apply step_go (k' := 16 * M.slots.length - (j + 1))
          · simp (disch := first | omega | rfl | assumption | (simp only [csN, Nat.reduceAdd, Nat.reduceMul, Nat.reduceLeDiff, Nat.reduceEqDiff] <;> omega) | (simp only [csF]; done) | (simp only [csF] <;> assumption) | fail) only [Nat.reduceEqDiff, Nat.reduceAdd, Nat.reduceMul, Nat.reduceSub, Nat.reduceLeDiff, Int.reduceAdd, Int.reduceSub, Int.reduceMul, Int.reduceLT, Int.reduceLE, Int.reduceGT, Int.reduceGE, Int.reduceEq, Int.reduceBEq, Int.reduceBNe, Int.reduceNeg, Int.reduceToNat, csAll, ↓reduceIte, C4_1, e5, e7, e8, e9, e10, e11, d1, hm, q3, p3, hgo, hgn, heq, hw, vBin_quo, vBin_rem, hwd, z2, hb]
            rfl
          · omega
          · refine ⟨rfl, j + 1, 1, by simp [upd_apply], by omega, rfl, by simp [upd_apply], by omega, by omega, fun h => by omega⟩
      · apply step_out (x := .exit 0)
        · simp (disch := first | omega | rfl | assumption | (simp only [csN, Nat.reduceAdd, Nat.reduceMul, Nat.reduceLeDiff, Nat.reduceEqDiff] <;> omega) | (simp only [csF]; done) | (simp only [csF] <;> assumption) | fail) only [Nat.reduceEqDiff, Nat.reduceAdd, Nat.reduceMul, Nat.reduceSub, Nat.reduceLeDiff, Int.reduceAdd, Int.reduceSub, Int.reduceMul, Int.reduceLT, Int.reduceLE, Int.reduceGT, Int.reduceGE, Int.reduceEq, Int.reduceBEq, Int.reduceBNe, Int.reduceNeg, Int.reduceToNat, csAll, ↓reduceIte, C4_1, e7, e11, d1, hm]
          rfl
        · simp
        · exact ⟨rfl, rfl, c, by simp [upd_apply, e10], hc1⟩) _ ⟨rfl, 0, 0, h11, by omega, rfl, h10, by omega, by omega, fun _ => rfl⟩
  subst g1
  exact ⟨E', c, hr.symm.trans e, g2, g3⟩

theorem f4 {o : Tags} {H : CHeap} {v : CV} {l : List Stp} (hd : ∀ c t, o c = some t → c < H.length) (hg : ∀ c k, o c ≠ some (0, k)) (st : Steps o H v l) (nn : Int) (x : Stp) :
    ∃ H', run P 4 [.i nn, v, .agg (stpCells x)] H = some (.bool true, H') := by
  have frb : Frm 0 o H o (H ++ [(⟨stpCells x, .rw, 0⟩ : Blk)]) := .app hd _
  have st0 := st.frm frb
  have hd0 : ∀ c t, o c = some t → c < (H ++ [(⟨stpCells x, .rw, 0⟩ : Blk)]).length := fun c t h => by have := hd c t h; simp; omega
  by_cases hok : (1 ≤ nn ∧ nn ≤ 4) ∧ l.length ≤ 120
  case neg =>
    obtain ⟨H1, e12⟩ := f12_no (H := H ++ [(⟨stpCells x, .rw, 0⟩ : Blk)]) (n := nn) st.len (by omega)
    obtain ⟨H2, e13⟩ := f13 (H := H1)
    apply ex_run
    rw [run_lv c4]
    simp (disch := first | omega | rfl | assumption | (simp only [csN, Nat.reduceAdd, Nat.reduceMul, Nat.reduceLeDiff, Nat.reduceEqDiff] <;> omega) | (simp only [csF]; done) | (simp only [csF] <;> assumption) | fail) only [Nat.reduceEqDiff, Nat.reduceAdd, Nat.reduceMul, Nat.reduceSub, Nat.reduceLeDiff, Int.reduceAdd, Int.reduceSub, Int.reduceMul, Int.reduceLT, Int.reduceLE, Int.reduceGT, Int.reduceGE, Int.reduceEq, Int.reduceBEq, Int.reduceBNe, Int.reduceNeg, Int.reduceToNat, csAll, ↓reduceIte, C4, entry_3, e12, e13]
    rfl
  obtain ⟨hn, hl⟩ := hok
  obtain ⟨n, rfl⟩ : ∃ n : Nat, nn = (n : Int) := ⟨nn.toNat, by omega⟩
  obtain ⟨b, H1, o1, L1, e12, m, fr1⟩ := f12 (g := 0) hd0 hg (n := n) (by omega) hl st0
  obtain ⟨w, hob⟩ := madeM_ok (n := n) (by omega) l (by omega)
  obtain ⟨bx1, bo1⟩ := fr1.kept (k := ⟨stpCells x, .rw, 0⟩) (look_last rfl) (tag_none hd)
  simp only [stpCells] at bx1
  generalize hM : madeM n l = M at *
  obtain ⟨v8, H2, e20, g2, i2⟩ := f20 m w
  have m2 := m.gr g2
  have bx2 := g2.get bx1
  have hb2 := lt_of_get bx2
  -- the kind of the call is 0 now
  have hlt : H.length < H1.length := lt_of_get bx1
  have m3 : MRep o1 0 (H2.set H.length ⟨stpCells { x with k := 0 }, .rw, 0⟩) b M L1 := m2.frame (fun c t h => by simp; exact m2.dom c t h) (fun _ _ h => h) (fun c k h => look_set_ne (by rintro rfl; rw [bo1] at h; cases h))
  have i3 : IL H1.length (H2.set H.length ⟨stpCells { x with k := 0 }, .rw, 0⟩) v8 M.places := i2.frame (fun _ h => h) (fun c h => look_set_ne (by have := (Loc_some.1 h).1; omega))
  have bx3 : (H2.set H.length ⟨stpCells { x with k := 0 }, .rw, 0⟩)[H.length]? = some ⟨stpCells { x with k := 0 }, .rw, 0⟩ := by rw [List.getElem?_set_self hb2]
  obtain ⟨H4, o3, L3, e21, m4, fr4⟩ := f21 m3 w (by omega) { x with k := 0 }
  obtain ⟨bx4, bo4⟩ := fr4.kept bx3 bo1
  have hst : (M.step { x with k := 0 }).1 = (M.doAct x.mu x.act).1 := by unfold Mdl.step; rw [if_pos rfl]
  have w4 : (M.doAct x.mu x.act).1.Ok := (w.doAct (by omega)).1
  rw [hst] at m4
  obtain ⟨v9, H5, e20', g5, i5⟩ := f20 m4 w4
  obtain ⟨hsl, p, hp⟩ := Mdl.told w w4
  have bx5 := g5.get bx4
  have i4 := ((At.un' i3 m.dom).unFrm fr4).gr g5
  have h16 := flat16 (fun s hs => (w4.s16 s hs).1)
  have h16' := flat16 (fun s hs => (w.s16 s hs).1)
  obtain ⟨Hf, ef⟩ := f13 (H := H5)
  simp only [stpCells] at bx3 e21
  apply ex_run
  rw [run_lv c4]
  simp (disch := first | omega | rfl | assumption | (simp only [csN, Nat.reduceAdd, Nat.reduceMul, Nat.reduceLeDiff, Nat.reduceEqDiff] <;> omega) | (simp only [csF]; done) | (simp only [csF] <;> assumption) | fail) only [Nat.reduceEqDiff, Nat.reduceAdd, Nat.reduceMul, Nat.reduceSub, Nat.reduceLeDiff, Int.reduceAdd, Int.reduceSub, Int.reduceMul, Int.reduceLT, Int.reduceLE, Int.reduceGT, Int.reduceGE, Int.reduceEq, Int.reduceBEq, Int.reduceBNe, Int.reduceNeg, Int.reduceToNat, csAll, ↓reduceIte, C4, entry_3, e12, e20, bx1, bx2, bx3, e21, e20']
  generalize hr : den P (.loop C4_1) _ _ = r
  obtain ⟨E6, c, rfl, k1, k2⟩ := l4_1 (m4.gr g5) w4 i4 i5 (by rw [hsl]; simp only [Mdl.places, List.length_append]; omega) (by simp only [Mdl.places, List.length_append]; omega) bx5 (p := p) (by rw [hsl]; exact hp) (by simp only [upd_apply, Nat.reduceEqDiff, ↓reduceIte]) (by simp only [upd_apply, Nat.reduceEqDiff, ↓reduceIte]) (by simp only [upd_apply, Nat.reduceEqDiff, ↓reduceIte]) (by simp only [upd_apply, Nat.reduceEqDiff, ↓reduceIte]) (by simp only [upd_apply, Nat.reduceEqDiff, ↓reduceIte]) (by simp only [upd_apply, Nat.reduceEqDiff, ↓reduceIte]) hr
  simp (disch := first | omega | rfl | assumption | (simp only [csN, Nat.reduceAdd, Nat.reduceMul, Nat.reduceLeDiff, Nat.reduceEqDiff] <;> omega) | (simp only [csF]; done) | (simp only [csF] <;> assumption) | fail) only [Nat.reduceEqDiff, Nat.reduceAdd, Nat.reduceMul, Nat.reduceSub, Nat.reduceLeDiff, Int.reduceAdd, Int.reduceSub, Int.reduceMul, Int.reduceLT, Int.reduceLE, Int.reduceGT, Int.reduceGE, Int.reduceEq, Int.reduceBEq, Int.reduceBNe, Int.reduceNeg, Int.reduceToNat, csAll, ↓reduceIte, k1, ef]
  rfl
end Go.Cs.Try

/- ModelMore: its loops. -/
namespace Go.Cs.Try
open Go Go.Cs
set_option maxRecDepth 100000
section
variable {H : CHeap}

theorem l3_2 {o : Tags} {t : Tag} {v : CV} {l : List Int} {ks : List Bool} {ab : Nat} (hsz : l.length ≤ 1000000) (a : At o t H v 1 l.length (Go.Cs.ints l)) (hb : H[ab]? = some ⟨bools ks, .rw, 1⟩) (hl : ∀ u ∈ l, 0 ≤ u ∧ u.toNat < ks.length ∧ on ks u = true) (E0 : Env) :
    LoopOk P C3_2 (fun k E H' => H' = H ∧ E 18 = .slice ab 0 ks.length ks.length 1 false ∧ E 12 = v ∧ ∃ i : Nat, E 20 = .i i ∧ i ≤ l.length ∧ k = l.length - i ∧ ∀ t, t < 20 → E t = E0 t)
      (fun x E' H' => H' = H ∧ x = .exit 0 ∧ ∀ t, t < 20 → E' t = E0 t) := by
  refine loop_ind ?_
  rintro k E H' ⟨rfl, h18, h12, i, h20, hi, rfl, hE⟩
  have hlen := a.len
  by_cases c : i < l.length
  · obtain ⟨tl, d1, -, d3, d4⟩ := a.pos (by omega)
    have hg : (Go.Cs.ints l)[i]? = some (.i l[i]) := by rw [ints_get, List.getElem?_eq_getElem c]; rfl
    obtain ⟨u1, u2, u3⟩ := hl l[i] (List.getElem_mem _)
    have hk := on_get (ks := ks) (v := l[i]) u2
    rw [u3] at hk
    have hw : IntKind.i64.wrap ((i : Int) + 1) = ((i + 1 : Nat) : Int) := by rw [wrap_id (by omega)]; rfl
    have h12' := h12
    rw [d1] at h12' hlen
    apply step_go (k' := l.length - (i + 1))
    · simp (disch := first | omega | rfl | assumption | (simp only [csN, Nat.reduceAdd, Nat.reduceMul, Nat.reduceLeDiff, Nat.reduceEqDiff] <;> omega) | (simp only [csF]; done) | (simp only [csF] <;> assumption) | fail) only [Nat.reduceEqDiff, Nat.reduceAdd, Nat.reduceMul, Nat.reduceSub, Nat.reduceLeDiff, Int.reduceAdd, Int.reduceSub, Int.reduceMul, Int.reduceLT, Int.reduceLE, Int.reduceGT, Int.reduceGE, Int.reduceEq, Int.reduceBEq, Int.reduceBNe, Int.reduceNeg, Int.reduceToNat, csAll, ↓reduceIte, C3_2, h18, h12', h20, hlen, d3, hg, hb, hk, hw]
      rfl
    · omega
    · refine ⟨rfl, by simp [upd_apply, h18], by simp [upd_apply, h12], i + 1, by simp [upd_apply], by omega, rfl, fun t ht => ?_⟩
      simp only [upd_apply]
      repeat rw [if_neg (by omega)]
      exact hE t ht
  · apply step_out (x := .exit 0)
    · simp (disch := first | omega | rfl | assumption | (simp only [csN, Nat.reduceAdd, Nat.reduceMul, Nat.reduceLeDiff, Nat.reduceEqDiff] <;> omega) | (simp only [csF]; done) | (simp only [csF] <;> assumption) | fail) only [Nat.reduceEqDiff, Nat.reduceAdd, Nat.reduceMul, Nat.reduceSub, Nat.reduceLeDiff, Int.reduceAdd, Int.reduceSub, Int.reduceMul, Int.reduceLT, Int.reduceLE, Int.reduceGT, Int.reduceGE, Int.reduceEq, Int.reduceBEq, Int.reduceBNe, Int.reduceNeg, Int.reduceToNat, csAll, ↓reduceIte, C3_2, h12, h20, hlen]
      rfl
    · simp
    · refine ⟨rfl, rfl, fun t ht => ?_⟩
      simp only [upd_apply]
      repeat rw [if_neg (by omega)]
      exact hE t ht

theorem l3_1 {o : Tags} {t : Tag} {v : CV} {l : List Int} {ks : List Bool} {ab : Nat} (hsz : l.length ≤ 1000000) (a : At o t H v 1 l.length (Go.Cs.ints l)) (hb : H[ab]? = some ⟨bools ks, .rw, 1⟩) (hl : ∀ u ∈ l, 0 ≤ u ∧ u.toNat < ks.length ∧ on ks u = true) :
    LoopOk P C3_1 (fun k E H' => H' = H ∧ E 19 = .slice ab 0 ks.length ks.length 1 false ∧ E 17 = v ∧ ∃ i : Nat, E 21 = .i i ∧ i ≤ l.length ∧ k = l.length - i)
      (fun x E' H' => H' = H ∧ x = .exit 2) := by
  refine loop_ind ?_
  rintro k E H' ⟨rfl, h18, h12, i, h20, hi, rfl⟩
  have hlen := a.len
  by_cases c : i < l.length
  · obtain ⟨tl, d1, -, d3, d4⟩ := a.pos (by omega)
    have hg : (Go.Cs.ints l)[i]? = some (.i l[i]) := by rw [ints_get, List.getElem?_eq_getElem c]; rfl
    obtain ⟨u1, u2, u3⟩ := hl l[i] (List.getElem_mem _)
    have hk := on_get (ks := ks) (v := l[i]) u2
    rw [u3] at hk
    have hw : IntKind.i64.wrap ((i : Int) + 1) = ((i + 1 : Nat) : Int) := by rw [wrap_id (by omega)]; rfl
    have h12' := h12
    rw [d1] at h12' hlen
    apply step_go (k' := l.length - (i + 1))
    · simp (disch := first | omega | rfl | assumption | (simp only [csN, Nat.reduceAdd, Nat.reduceMul, Nat.reduceLeDiff, Nat.reduceEqDiff] <;> omega) | (simp only [csF]; done) | (simp only [csF] <;> assumption) | fail) only [Nat.reduceEqDiff, Nat.reduceAdd, Nat.reduceMul, Nat.reduceSub, Nat.reduceLeDiff, Int.reduceAdd, Int.reduceSub, Int.reduceMul, Int.reduceLT, Int.reduceLE, Int.reduceGT, Int.reduceGE, Int.reduceEq, Int.reduceBEq, Int.reduceBNe, Int.reduceNeg, Int.reduceToNat, csAll, ↓reduceIte, C3_1, h18, h12', h20, hlen, d3, hg, hb, hk, hw]
      rfl
    · omega
    · exact ⟨rfl, by simp [upd_apply, h18], by simp [upd_apply, h12], i + 1, by simp [upd_apply], by omega, rfl⟩
  · apply step_out (x := .exit 2)
    · simp (disch := first | omega | rfl | assumption | (simp only [csN, Nat.reduceAdd, Nat.reduceMul, Nat.reduceLeDiff, Nat.reduceEqDiff] <;> omega) | (simp only [csF]; done) | (simp only [csF] <;> assumption) | fail) only [Nat.reduceEqDiff, Nat.reduceAdd, Nat.reduceMul, Nat.reduceSub, Nat.reduceLeDiff, Int.reduceAdd, Int.reduceSub, Int.reduceMul, Int.reduceLT, Int.reduceLE, Int.reduceGT, Int.reduceGE, Int.reduceEq, Int.reduceBEq, Int.reduceBNe, Int.reduceNeg, Int.reduceToNat, csAll, ↓reduceIte, C3_1, h12, h20, hlen]
      rfl
    · simp
    · exact ⟨rfl, rfl⟩
end
end Go.Cs.Try

/- ModelMore, plainly: with more, no less is kept. -/
namespace Go.Cs
open Go
theorem mem_keptI {M : Mdl} (w : M.Ok) {v : Int} : v ∈ M.keptI ↔ Kp M v := by
  unfold Mdl.keptI idxs
  simp only [List.mem_map, List.mem_filter, List.mem_range]
  have hg : ∀ i, i < M.objs.length + 1 → (M.keptL.getD i false = true ↔ Kp M (i : Int)) := by
    intro i hi
    unfold Mdl.keptL
    rw [List.getD_eq_getElem?_getD, List.getElem?_map, List.getElem?_range hi]
    simp
  constructor
  · rintro ⟨i, ⟨h1, h2⟩, rfl⟩
    exact (hg i h1).1 h2
  · intro h
    have hh := Kp.has w h
    unfold Mdl.has at hh
    refine ⟨v.toNat, ⟨by omega, ?_⟩, by omega⟩
    rw [hg v.toNat (by omega)]
    have : ((v.toNat : Nat) : Int) = v := by omega
    rw [this]; exact h

theorem Kp.push {M : Mdl} {n v : Int} (h : Kp M v) : Kp (M.push n).1 v := by
  unfold Mdl.push
  split
  · split
    · exact h
    · induction h with
      | root h hz =>
        refine .root ?_ hz
        unfold Mdl.places at h ⊢
        simp only [List.mem_append] at h ⊢
        rcases h with (h | h) | h
        · exact .inl (.inl h)
        · exact .inl (.inr h)
        · exact .inr (.inl h)
      | strong _ h hz ih => exact .strong ih h hz
      | eph _ h1 _ hz ih ih2 => exact .eph ih h1 ih2 hz
  · exact h

theorem setObj_obj {M : Mdl} {n k : Int} (hn : M.has n) (hk : 1 ≤ k) {x : Obj} : (M.setObj n x).obj k = if k = n then x else M.obj k := by
  unfold Mdl.has at hn
  unfold Mdl.setObj Mdl.obj
  simp only [List.getD_eq_getElem?_getD]
  by_cases h : k = n
  · subst h
    rw [if_pos rfl, List.getElem?_set_self (by omega)]; rfl
  · rw [if_neg h, List.getElem?_set_ne (by omega)]

theorem Kp.setRef {M : Mdl} (w : M.Ok) {n i to v : Int} (hn : M.has n) (hk : (M.obj n).kd = 0) (hz : elAt (M.obj n).refs i = (0, 0)) (h : Kp M v) : Kp (M.setRef n i to).1 v := by
  have hi : 0 ≤ i ∧ i < ((M.obj n).refs.length : Int) ∧ (M.obj n).refs.getD i.toNat 0 = 0 := by
    unfold elAt at hz
    split at hz
    · rename_i h
      simp only [Prod.mk.injEq] at hz
      exact ⟨h.1, h.2, hz.1⟩
    · simp at hz
  unfold Mdl.setRef
  rw [if_pos hn]
  split
  · dsimp only
    induction h with
    | root h hz => exact .root h hz
    | @strong k u h hu hz ih =>
      have hh := Kp.has w h
      have hob := setObj_obj (M := M) (k := k) hn hh.1 (x := { M.obj n with refs := (M.obj n).refs.set i.toNat to })
      refine .strong ih ?_ hz
      rw [hob]
      by_cases e : k = n
      · subst e
        rw [if_pos rfl]
        show u ∈ ((M.obj k).refs.set i.toNat to).drop (soft (M.obj k).kd)
        have hs : soft (M.obj k).kd = 0 := by unfold soft; rw [hk]; rfl
        rw [hs] at hu ⊢
        simp only [List.drop_zero] at hu ⊢
        obtain ⟨j, hj, rfl⟩ := List.mem_iff_getElem.1 hu
        have hne : j ≠ i.toNat := by
          rintro rfl
          apply hz
          have := hi.2.2
          rw [List.getD_eq_getElem?_getD, List.getElem?_eq_getElem hj] at this
          exact this
        refine List.mem_iff_getElem.2 ⟨j, by simpa using hj, ?_⟩
        rw [List.getElem_set_ne (Ne.symm hne)]
      · rw [if_neg e]; exact hu
    | @eph k h h1 _ hz ih ih2 =>
      have hh := Kp.has w h
      have hob := setObj_obj (M := M) (k := k) hn hh.1 (x := { M.obj n with refs := (M.obj n).refs.set i.toNat to })
      have hne : k ≠ n := by rintro rfl; rw [hk] at h1; omega
      rw [if_neg hne] at hob
      have := Kp.eph (M := M.setObj n { M.obj n with refs := (M.obj n).refs.set i.toNat to }) ih (by rw [hob]; exact h1) (by rw [hob]; exact ih2) (by rw [hob]; exact hz)
      rw [hob] at this
      exact this
  · exact h
end Go.Cs

/- ModelNever: the walk. -/
namespace Go.Cs
open Go
/-- Of an object: its shape is as it was. -/
def sameS (x y : Obj) : Prop := y.nr = x.nr ∧ y.nd = x.nd ∧ y.kd = x.kd
theorem Mdl.obj_app {M : Mdl} {n : Int} (hn : M.has n) {y : Obj} : ({ M with objs := M.objs ++ [y] } : Mdl).obj n = M.obj n := by
  unfold Mdl.has at hn
  unfold Mdl.obj
  simp only [List.getD_eq_getElem?_getD]
  rw [List.getElem?_append_left (by omega)]
theorem coll_same {M : Mdl} (w : M.Ok) {ks : List Bool} : ∀ {i : Nat}, i ≤ M.objs.length → ∀ n, M.has n → sameS (M.obj n) ((M.coll ks i).1.obj n)
  | 0, _, n, _ => ⟨rfl, rfl, rfl⟩
  | i + 1, hi, n, hn => by
    have ih := coll_same w (ks := ks) (i := i) (by omega) n hn
    obtain ⟨h1, h2⟩ := Mdl.coll_ok w (ks := ks) (i := i) (by omega)
    unfold Mdl.coll
    split
    · rename_i x e
      have hh : (M.coll ks i).1.has ((i + 1 : Nat) : Int) := by unfold Mdl.has; omega
      have hc := cObj_ok (h1.obj hh) e
      rw [setObj_obj hh hn.1]
      split
      · rename_i e'; subst e'; exact ⟨hc.2.1.trans ih.1, hc.2.2.1.trans ih.2.1, hc.2.2.2.1.trans ih.2.2⟩
      · exact ih
    · exact ih
/-- The object that a call names. -/
def ofS (M : Mdl) (x : Stp) : Int := if x.k = 4 then x.a else if x.k = 0 ∧ x.act.k ≠ 6 then (M.slotAt x.mu x.act.a).1 else 0
theorem eff_never {M : Mdl} (w : M.Ok) {mu : Int} {x : Act} {n : Int} (hn : M.has n) : sameS (M.obj n) ((M.doAct mu x).1.obj n) ∧ ((M.doAct mu x).1.obj n ≠ M.obj n → x.k ≠ 6 ∧ n = (M.slotAt mu x.a).1) := by
  by_cases h : M.errOf mu x = 0
  · obtain ⟨⟨h1, h2, h12⟩, ⟨h3, h3'⟩, hv, hz, hi⟩ := Mdl.errOf_0 h
    have hd : (M.doAct mu x).1 = (M.eff mu.toNat (M.slots.getD mu.toNat []) x).1 := by unfold Mdl.doAct; rw [if_pos h]
    have hs : (M.slotAt mu x.a).1 = (M.slots.getD mu.toNat []).getD x.a.toNat 0 := by unfold Mdl.slotAt; rw [if_pos ⟨h1, h2, h3⟩]
    rw [hd, hs]
    have same : ∀ M' : Mdl, M'.objs = M.objs → sameS (M.obj n) (M'.obj n) ∧ (M'.obj n ≠ M.obj n → x.k ≠ 6 ∧ n = (M.slots.getD mu.toNat []).getD x.a.toNat 0) := fun M' e => by
      have : M'.obj n = M.obj n := by unfold Mdl.obj; rw [e]
      rw [this]; exact ⟨⟨rfl, rfl, rfl⟩, fun h => absurd rfl h⟩
    have hs' := getD_of (l := M.slots) (i := mu.toNat) [] (by omega)
    have sh : ∀ y, sameS (M.obj ((M.slots.getD mu.toNat []).getD x.a.toNat 0)) y → (M.slots.getD mu.toNat []).getD x.a.toNat 0 ≠ 0 → x.k ≠ 6 → sameS (M.obj n) ((M.setObj ((M.slots.getD mu.toNat []).getD x.a.toNat 0) y).obj n) ∧ ((M.setObj ((M.slots.getD mu.toNat []).getD x.a.toNat 0) y).obj n ≠ M.obj n → x.k ≠ 6 ∧ n = (M.slots.getD mu.toNat []).getD x.a.toNat 0) := fun y hy hz hk6 => by
      have hh := slotHas w hs' h3 hz
      rw [setObj_obj hh hn.1]
      split
      · rename_i e; rw [e]; exact ⟨hy, fun _ => ⟨hk6, rfl⟩⟩
      · exact ⟨⟨rfl, rfl, rfl⟩, fun h => absurd rfl h⟩
    rcases k12 h12 with e | e | e | e | e | e | e | e | e | e | e | e <;> simp only [Mdl.eff, e, Int.reduceEq, ↓reduceIte]
    · have : (({ M with objs := M.objs ++ [bornObj x] } : Mdl).setSlot mu.toNat (M.slots.getD mu.toNat []) x.a (M.objs.length + 1)).obj n = M.obj n := Mdl.obj_app hn
      rw [this]; exact ⟨⟨rfl, rfl, rfl⟩, fun h => absurd rfl h⟩
    · have := same (M.setSlot mu.toNat (M.slots.getD mu.toNat []) x.a ((M.obj ((M.slots.getD mu.toNat []).getD x.b.toNat 0)).refs.getD x.i.toNat 0)) rfl
      simpa [e] using this
    · have := sh { M.obj ((M.slots.getD mu.toNat []).getD x.a.toNat 0) with refs := (M.obj ((M.slots.getD mu.toNat []).getD x.a.toNat 0)).refs.set x.i.toNat ((M.slots.getD mu.toNat []).getD x.b.toNat 0) } ⟨rfl, rfl, rfl⟩ (by
        have h5 := hz
        have hwn : wNeed x = x.a := by unfold wNeed; rw [if_neg (by omega), if_pos (by omega)]
        rw [hwn] at h5
        exact h5 h3.1) (by omega)
      simpa [e] using this
    · have := sh { M.obj ((M.slots.getD mu.toNat []).getD x.a.toNat 0) with data := (M.obj ((M.slots.getD mu.toNat []).getD x.a.toNat 0)).data.set x.i.toNat x.n } ⟨rfl, rfl, rfl⟩ (by
        have h5 := hz
        have hwn : wNeed x = x.a := by unfold wNeed; rw [if_neg (by omega), if_pos (by omega)]
        rw [hwn] at h5
        exact h5 h3.1) (by omega)
      simpa [e] using this
    all_goals first
      | exact ⟨⟨rfl, rfl, rfl⟩, fun h => absurd rfl h⟩
      | (refine ⟨⟨rfl, rfl, rfl⟩, fun h => absurd ?_ h⟩; rfl)
  · have : (M.doAct mu x).1 = M := by unfold Mdl.doAct; rw [if_neg h]
    rw [this]; exact ⟨⟨rfl, rfl, rfl⟩, fun h => absurd rfl h⟩
theorem Mdl.never {M : Mdl} (w : M.Ok) {x : Stp} {n : Int} (hn : M.has n) : sameS (M.obj n) ((M.step x).1.obj n) ∧ (x.k ≠ 1 → (M.step x).1.obj n ≠ M.obj n → n = ofS M x) := by
  have same : ∀ M' : Mdl, M'.objs = M.objs → sameS (M.obj n) (M'.obj n) ∧ (x.k ≠ 1 → M'.obj n ≠ M.obj n → n = ofS M x) := fun M' e => by
    have : M'.obj n = M.obj n := by unfold Mdl.obj; rw [e]
    rw [this]; exact ⟨⟨rfl, rfl, rfl⟩, fun _ h => absurd rfl h⟩
  unfold Mdl.step
  by_cases c : x.k = 0
  · rw [if_pos c]
    obtain ⟨h1, h2⟩ := eff_never w (mu := x.mu) (x := x.act) hn
    refine ⟨h1, fun _ h => ?_⟩
    obtain ⟨e1, e2⟩ := h2 h
    unfold ofS
    rw [if_neg (by omega), if_pos ⟨c, e1⟩]; exact e2
  rw [if_neg c]
  by_cases c1 : x.k = 1
  · rw [if_pos c1]
    exact ⟨coll_same w (Nat.le_refl _) n hn, fun h => absurd c1 h⟩
  rw [if_neg c1]
  by_cases c2 : x.k = 2
  · rw [if_pos c2]
    refine same _ ?_
    unfold Mdl.push
    split
    · split <;> rfl
    · rfl
  rw [if_neg c2]
  by_cases c3 : x.k = 3
  · rw [if_pos c3]
    refine same _ ?_
    unfold Mdl.pop
    split <;> rfl
  rw [if_neg c3]
  by_cases c4 : x.k = 4
  · rw [if_pos c4]
    unfold Mdl.setRef
    split
    · rename_i hh
      split
      · dsimp only
        rw [setObj_obj hh hn.1]
        split
        · rename_i e; rw [e]
          exact ⟨⟨rfl, rfl, rfl⟩, fun _ _ => by unfold ofS; rw [if_pos c4]⟩
        · exact ⟨⟨rfl, rfl, rfl⟩, fun _ h => absurd rfl h⟩
      · exact ⟨⟨rfl, rfl, rfl⟩, fun _ h => absurd rfl h⟩
    · exact ⟨⟨rfl, rfl, rfl⟩, fun _ h => absurd rfl h⟩
  rw [if_neg c4]
  exact ⟨⟨rfl, rfl, rfl⟩, fun _ h => absurd rfl h⟩
theorem content_ne {x y : Obj} (h : x.content ≠ y.content) : x ≠ y := fun e => h (by rw [e])
theorem content_len {n m : Nat} {x y : Obj} (hx : x.Ok n) (hy : y.Ok m) (h : sameS x y) : y.content.length = x.content.length := by
  have h1 := hx.nr
  have h2 := hx.nd
  have h3 := hy.nr
  have h4 := hy.nd
  obtain ⟨e1, e2, -⟩ := h
  simp only [Obj.content, List.length_append, List.length_cons, List.length_nil]
  rw [e1] at h3; rw [e2] at h4; omega
theorem content_ints (x : Obj) : ints x.content = .i x.nr :: .i x.nd :: .i x.kd :: ints (x.refs ++ x.data) := by simp [Obj.content, ints]
end Go.Cs

/- Collect, plainly: what is kept stays, what does not lead to kept objects is cleared, once. -/
namespace Go.Cs
open Go
set_option linter.unusedSectionVars false
theorem on_keptL {M : Mdl} {v : Int} (h0 : 0 ≤ v) (h1 : v ≤ (M.objs.length : Int)) : on M.keptL v = true ↔ Kp M v := by
  unfold on Mdl.keptL
  rw [List.getD_eq_getElem?_getD, List.getElem?_map, List.getElem?_range (by omega)]
  simp only [Option.map_some, Option.getD_some, decide_eq_true_eq]
  have : ((v.toNat : Nat) : Int) = v := by omega
  rw [this]
theorem coll_obj {M : Mdl} (w : M.Ok) {ks : List Bool} : ∀ {i : Nat}, i ≤ M.objs.length → ∀ n, M.has n → (M.coll ks i).1.obj n = if n ≤ (i : Int) then (cObj ks (n - 1).toNat (M.obj n)).getD (M.obj n) else M.obj n
  | 0, _, n, hn => by rw [if_neg (by have := hn.1; omega)]; rfl
  | i + 1, hi, n, hn => by
    have ih := coll_obj w (ks := ks) (i := i) (by omega)
    obtain ⟨h1, h2⟩ := Mdl.coll_ok w (ks := ks) (i := i) (by omega)
    have hh0 : M.has ((i + 1 : Nat) : Int) := by unfold Mdl.has; omega
    have hh : (M.coll ks i).1.has ((i + 1 : Nat) : Int) := by unfold Mdl.has; omega
    have e0 := ih _ hh0
    rw [if_neg (by omega)] at e0
    have ei : (((i + 1 : Nat) : Int) - 1).toNat = i := by omega
    unfold Mdl.coll
    rw [e0]
    split
    · rename_i x e
      dsimp only
      rw [setObj_obj hh hn.1, ih n hn]
      by_cases c : n = ((i + 1 : Nat) : Int)
      · subst c
        rw [if_pos rfl, if_pos (by omega), ei, e]; rfl
      · rw [if_neg c]
        by_cases c2 : n ≤ (i : Int)
        · rw [if_pos c2, if_pos (by omega)]
        · rw [if_neg c2, if_neg (by omega)]
    · rename_i e
      rw [ih n hn]
      by_cases c : n = ((i + 1 : Nat) : Int)
      · subst c
        rw [if_neg (by omega), if_pos (by omega), ei, e]; rfl
      · by_cases c2 : n ≤ (i : Int)
        · rw [if_pos c2, if_pos (by omega)]
        · rw [if_neg c2, if_neg (by omega)]
theorem coll_count {M : Mdl} (w : M.Ok) {ks : List Bool} : ∀ {i : Nat}, i ≤ M.objs.length → (M.coll ks i).2 = (((List.range i).countP fun j => (cObj ks j (M.obj ((j + 1 : Nat) : Int))).isSome : Nat) : Int)
  | 0, _ => rfl
  | i + 1, hi => by
    have ih := coll_count w (ks := ks) (i := i) (by omega)
    have e0 := coll_obj w (ks := ks) (i := i) (by omega) ((i + 1 : Nat) : Int) (by unfold Mdl.has; omega)
    rw [if_neg (by omega)] at e0
    unfold Mdl.coll
    rw [e0, List.range_succ, List.countP_append]
    split
    · rename_i x e
      dsimp only
      rw [ih, List.countP_cons, List.countP_nil, if_pos (by rw [e]; rfl)]
      omega
    · rename_i e
      rw [ih, List.countP_cons, List.countP_nil, if_neg (by rw [e]; simp)]
      omega
theorem coll_places {M : Mdl} {ks : List Bool} : ∀ {i : Nat}, (M.coll ks i).1.places = M.places ∧ (M.coll ks i).1.slots = M.slots
  | 0 => ⟨rfl, rfl⟩
  | i + 1 => by
    have ih := coll_places (M := M) (ks := ks) (i := i)
    unfold Mdl.coll
    split
    · exact ih
    · exact ih
section
variable {M : Mdl} (w : M.Ok)
include w
theorem collect_obj {n : Int} (hn : M.has n) : M.collect.1.obj n = (cObj M.keptL (n - 1).toNat (M.obj n)).getD (M.obj n) := by
  unfold Mdl.collect
  rw [coll_obj w (Nat.le_refl _) n hn, if_pos hn.2]
theorem cObj_kept {n : Int} (hn : M.has n) (hk : Kp M n) : cObj M.keptL (n - 1).toNat (M.obj n) =
    if 0 < soft (M.obj n).kd ∧ on M.keptL ((M.obj n).refs.getD 0 0) = false ∧ ((M.obj n).refs.take (soft (M.obj n).kd)).any (· != 0) = true then some { M.obj n with refs := List.replicate (soft (M.obj n).kd) 0 ++ (M.obj n).refs.drop (soft (M.obj n).kd) } else none := by
  have h1 := (on_keptL (M := M) (by have := hn.1; omega) hn.2).2 hk
  unfold on at h1
  unfold cObj
  have e : (n - 1).toNat + 1 = n.toNat := by have := hn.1; omega
  rw [e]
  by_cases c : 0 < soft (M.obj n).kd ∧ on M.keptL ((M.obj n).refs.getD 0 0) = false ∧ ((M.obj n).refs.take (soft (M.obj n).kd)).any (· != 0) = true
  · rw [if_pos c, if_pos ⟨h1, c⟩]
  · rw [if_neg c, if_neg (fun h => c h.2)]
theorem cObj_out {n : Int} (hn : M.has n) (hk : ¬ Kp M n) : cObj M.keptL (n - 1).toNat (M.obj n) = none := by
  unfold cObj
  rw [if_neg]
  rintro ⟨h, -⟩
  have e : (n - 1).toNat + 1 = n.toNat := by have := hn.1; omega
  rw [e] at h
  exact hk ((on_keptL (M := M) (by have := hn.1; omega) hn.2).1 h)
theorem kept_no0 : ¬ Kp M 0 := fun h => by have := Kp.has w h; unfold Mdl.has at this; omega
theorem ref_range {n : Int} (hn : M.has n) (i : Nat) : 0 ≤ (M.obj n).refs.getD i 0 ∧ (M.obj n).refs.getD i 0 ≤ (M.objs.length : Int) :=
  getD_mem (P := fun v => 0 ≤ v ∧ v ≤ (M.objs.length : Int)) (w.obj hn).ids ⟨by omega, by omega⟩
theorem collect_ok : M.collect.1.Ok ∧ M.collect.1.objs.length = M.objs.length := Mdl.coll_ok w (Nat.le_refl _)
theorem collect_places : M.collect.1.places = M.places := coll_places.1
theorem Kp.collect {v : Int} (h : Kp M v) : Kp M.collect.1 v := by
  induction h with
  | root h hz => exact .root (by rw [collect_places w]; exact h) hz
  | @strong k u h hu hz ih =>
    refine .strong ih ?_ hz
    have hk := Kp.has w h
    rw [collect_obj w hk, cObj_kept w hk h]
    split
    · have hs := (w.obj hk).soft
      simp only [Option.getD_some]
      rw [List.drop_append]
      simpa using hu
    · exact hu
  | @eph k h hkd h0 hz ih ih0 =>
    have hk := Kp.has w h
    have hr := ref_range w hk 0
    have hon := (on_keptL (M := M) hr.1 hr.2).2 h0
    have e : M.collect.1.obj k = M.obj k := by
      rw [collect_obj w hk, cObj_kept w hk h, if_neg (by rw [hon]; simp)]; rfl
    have := Kp.eph (M := M.collect.1) (n := k) ih (by rw [e]; exact hkd) (by rw [e]; exact ih0) (by rw [e]; exact hz)
    rw [e] at this
    exact this
theorem Kp.uncollect {v : Int} (h : Kp M.collect.1 v) : Kp M v := by
  induction h with
  | root h hz => exact .root (by rw [collect_places w] at h; exact h) hz
  | @strong k u h hu hz ih =>
    refine .strong ih ?_ hz
    have hk := Kp.has w ih
    rw [collect_obj w hk, cObj_kept w hk ih] at hu
    split at hu
    · have hs := (w.obj hk).soft
      simp only [Option.getD_some] at hu
      rw [List.drop_append] at hu
      simpa using hu
    · exact hu
  | @eph k h hkd h0 hz ih ih0 =>
    have hk := Kp.has w ih
    rw [collect_obj w hk, cObj_kept w hk ih] at hkd hz ih0 ⊢
    split at ih0
    · rename_i c
      simp only [Option.getD_some] at ih0
      have : (List.replicate (soft (M.obj k).kd) (0 : Int) ++ (M.obj k).refs.drop (soft (M.obj k).kd)).getD 0 0 = 0 := by
        rw [List.getD_eq_getElem?_getD, List.getElem?_append_left (by simp; omega), List.getElem?_replicate, if_pos c.1]; rfl
      rw [this] at ih0
      exact absurd ih0 (kept_no0 w)
    · rename_i c
      rw [if_neg c] at hkd hz ⊢
      exact .eph ih hkd ih0 hz
theorem kept_collect : M.collect.1.keptL = M.keptL ∧ M.collect.1.keptI = M.keptI := by
  have hl := (collect_ok w).2
  have h : M.collect.1.keptL = M.keptL := by
    unfold Mdl.keptL
    rw [hl]
    refine List.map_congr_left fun i _ => ?_
    rw [decide_eq_decide]
    exact ⟨fun h => Kp.uncollect w h, fun h => Kp.collect w h⟩
  exact ⟨h, by unfold Mdl.keptI; rw [h, hl]⟩
/-- What stands in the soft references of a kept object behind Collect. -/
theorem soft_after {n : Int} (hn : M.has n) (hk : Kp M n) (hs : 0 < soft (M.obj n).kd) :
    let y := M.collect.1.obj n
    (on M.keptL (y.refs.getD 0 0) = true ∧ y = M.obj n) ∨ (∀ i, i < soft (M.obj n).kd → y.refs.getD i 0 = 0) := by
  dsimp only
  have hsl := (w.obj hn).soft
  rw [collect_obj w hn, cObj_kept w hn hk]
  split
  · rename_i c
    right
    intro i hi
    simp only [Option.getD_some]
    rw [List.getD_eq_getElem?_getD, List.getElem?_append_left (by simpa using hi), List.getElem?_replicate, if_pos hi]; rfl
  · rename_i c
    by_cases ho : on M.keptL ((M.obj n).refs.getD 0 0) = true
    · exact .inl ⟨ho, rfl⟩
    · right
      intro i hi
      have hany : ((M.obj n).refs.take (soft (M.obj n).kd)).any (· != 0) = false := by
        cases h : ((M.obj n).refs.take (soft (M.obj n).kd)).any (· != 0) with
        | false => rfl
        | true => exact absurd ⟨hs, by simpa using ho, h⟩ c
      rw [List.any_eq_false] at hany
      have hi' : i < (M.obj n).refs.length := by omega
      have := hany ((M.obj n).refs.getD i 0) (List.mem_of_getElem? (i := i) (by rw [List.getElem?_take, if_pos hi, getD_of 0 hi']))
      simpa using this
/-- A second Collect changes nothing. -/
theorem collect_twice : M.collect.1.collect = (M.collect.1, 0) := by
  obtain ⟨w', hl⟩ := collect_ok w
  have none : ∀ j, j < M.objs.length → cObj M.keptL j (M.collect.1.obj ((j + 1 : Nat) : Int)) = none := by
    intro j hj
    have hn : M.has ((j + 1 : Nat) : Int) := by unfold Mdl.has; omega
    have ej : (((j + 1 : Nat) : Int) - 1).toNat = j := by omega
    have hkd : (M.collect.1.obj ((j + 1 : Nat) : Int)).kd = (M.obj ((j + 1 : Nat) : Int)).kd := (coll_same w (Nat.le_refl _) _ hn).2.2
    by_cases hk : Kp M ((j + 1 : Nat) : Int)
    · unfold cObj
      rw [if_neg]
      rintro ⟨-, h2, h3, h4⟩
      rw [hkd] at h2 h4
      rcases soft_after w hn hk h2 with ⟨q, -⟩ | q
      · rw [q] at h3; cases h3
      · have h5 := (w'.obj (n := ((j + 1 : Nat) : Int)) (by unfold Mdl.has; omega)).soft
        rw [hkd] at h5
        obtain ⟨u, hu, hz⟩ := List.any_eq_true.1 h4
        obtain ⟨i, hi, e⟩ := List.mem_iff_getElem.1 hu
        have hi2 : i < soft (M.obj ((j + 1 : Nat) : Int)).kd := by rw [List.length_take] at hi; omega
        have := q i hi2
        rw [List.getElem_take] at e
        rw [List.getD_eq_getElem?_getD, List.getElem?_eq_getElem (by omega), Option.getD_some, e] at this
        rw [this] at hz; simp at hz
    · have h1 := cObj_out w hn hk
      have h2 := collect_obj w hn
      rw [h1] at h2
      rw [ej] at h1
      rw [h2]; exact h1
  have all : ∀ i, i ≤ M.objs.length → M.collect.1.coll M.keptL i = (M.collect.1, 0) := by
    intro i
    induction i with
    | zero => intro _; rfl
    | succ i ih =>
      intro hi
      unfold Mdl.coll
      rw [ih (by omega), none i (by omega)]
  show M.collect.1.coll M.collect.1.keptL M.collect.1.objs.length = _
  rw [(kept_collect w).1, hl]
  exact all _ (Nat.le_refl _)
theorem collect_num : 0 ≤ M.collect.2 ∧ M.collect.2 ≤ (M.keptI.length : Int) := by
  have h := coll_count w (ks := M.keptL) (Nat.le_refl _)
  have e : M.collect.2 = (M.coll M.keptL M.objs.length).2 := rfl
  rw [e, h]
  refine ⟨by omega, ?_⟩
  have hk : M.keptI.length = (List.range (M.objs.length + 1)).countP fun j => M.keptL.getD j false := by
    unfold Mdl.keptI idxs
    rw [List.length_map, List.countP_eq_length_filter]
  rw [hk, List.range_succ_eq_map, List.countP_cons, List.countP_map]
  have : (List.range M.objs.length).countP (fun j => (cObj M.keptL j (M.obj ((j + 1 : Nat) : Int))).isSome) ≤ (List.range M.objs.length).countP ((fun j => M.keptL.getD j false) ∘ Nat.succ) := by
    refine List.countP_mono_left fun j _ h => ?_
    unfold cObj at h
    split at h
    · rename_i c; exact c.1
    · cases h
  omega
/-- Collect returns 0 just where nothing changes. -/
theorem collect_zero : M.collect.2 = 0 ↔ ∀ n, M.has n → M.collect.1.obj n = M.obj n := by
  have h := coll_count w (ks := M.keptL) (Nat.le_refl _)
  have e : M.collect.2 = (M.coll M.keptL M.objs.length).2 := rfl
  rw [e, h]
  constructor
  · intro h n hn
    have h0 : (List.range M.objs.length).countP (fun j => (cObj M.keptL j (M.obj ((j + 1 : Nat) : Int))).isSome) = 0 := by omega
    rw [List.countP_eq_zero] at h0
    have hn1 := hn.1
    have hn2 := hn.2
    have := h0 (n - 1).toNat (List.mem_range.2 (by omega))
    have en : (((n - 1).toNat + 1 : Nat) : Int) = n := by omega
    rw [en] at this
    rw [collect_obj w hn]
    cases hc : cObj M.keptL (n - 1).toNat (M.obj n) with
    | none => rfl
    | some y => rw [hc] at this; simp at this
  · intro h
    have : (List.range M.objs.length).countP (fun j => (cObj M.keptL j (M.obj ((j + 1 : Nat) : Int))).isSome) = 0 := by
      rw [List.countP_eq_zero]
      intro j hj
      have hj' := List.mem_range.1 hj
      have hn : M.has ((j + 1 : Nat) : Int) := by unfold Mdl.has; omega
      have ej : (((j + 1 : Nat) : Int) - 1).toNat = j := by omega
      have h1 := h _ hn
      rw [collect_obj w hn, ej] at h1
      cases hc : cObj M.keptL j (M.obj ((j + 1 : Nat) : Int)) with
      | none => simp
      | some y =>
        rw [hc, Option.getD_some] at h1
        exfalso
        unfold cObj at hc
        split at hc
        · rename_i c
          simp only [Option.some.injEq] at hc
          obtain ⟨-, -, -, c4⟩ := c
          obtain ⟨u, hu, hz⟩ := List.any_eq_true.1 c4
          obtain ⟨i, hi, e⟩ := List.mem_iff_getElem.1 hu
          rw [h1] at hc
          have hr : (M.obj ((j + 1 : Nat) : Int)).refs = List.replicate (soft (M.obj ((j + 1 : Nat) : Int)).kd) 0 ++ (M.obj ((j + 1 : Nat) : Int)).refs.drop (soft (M.obj ((j + 1 : Nat) : Int)).kd) := by
            conv => lhs; rw [← hc]
          have hi2 : i < soft (M.obj ((j + 1 : Nat) : Int)).kd := by rw [List.length_take] at hi; omega
          rw [List.getElem_take] at e
          have h3 : (M.obj ((j + 1 : Nat) : Int)).refs[i]? = some u := by rw [List.getElem?_eq_getElem (by rw [List.length_take] at hi; omega), e]
          rw [hr, List.getElem?_append_left (by simpa using hi2), List.getElem?_replicate, if_pos hi2] at h3
          simp only [Option.some.injEq] at h3
          rw [← h3] at hz; simp at hz
        · cases hc
    omega
end
theorem flat_inj : ∀ {A B : List (List Int)}, A.length = B.length → (∀ (i : Nat) (a b : List Int), A[i]? = some a → B[i]? = some b → a.length = b.length) → A.flatten = B.flatten → A = B
  | [], [], _, _, _ => rfl
  | a :: A, b :: B, hl, hp, h => by
    have h0 := hp 0 a b rfl rfl
    rw [List.flatten_cons, List.flatten_cons] at h
    obtain ⟨h1, h2⟩ := List.append_inj h h0
    rw [h1, flat_inj (by simpa using hl) (fun i x y hx hy => hp (i + 1) x y (by simpa using hx) (by simpa using hy)) h2]
  | [], _ :: _, hl, _, _ => by simp at hl
  | _ :: _, [], hl, _, _ => by simp at hl
theorem content_inj {x y : Obj} {n m : Nat} (hx : x.Ok n) (hy : y.Ok m) (hs : sameS x y) (h : x.content = y.content) : x = y := by
  have h1 := hx.nr
  have h2 := hy.nr
  obtain ⟨e1, e2, e3⟩ := hs
  unfold Obj.content at h
  rw [List.append_assoc, List.append_assoc] at h
  have h3 := (List.append_inj h rfl).2
  obtain ⟨h4, h5⟩ := List.append_inj h3 (by rw [h1.2.2, h2.2.2, e1])
  cases x; cases y
  simp only at e1 e2 e3 h4 h5
  subst e1; subst e2; subst e3; subst h4; subst h5; rfl
theorem objs_ext {M M' : Mdl} (hl : M'.objs.length = M.objs.length) (h : ∀ n, M.has n → M'.obj n = M.obj n) : M'.objs = M.objs := by
  refine List.ext_getElem? fun i => ?_
  by_cases hi : i < M.objs.length
  · have hn : M.has ((i + 1 : Nat) : Int) := by unfold Mdl.has; omega
    have hn' : M'.has ((i + 1 : Nat) : Int) := by unfold Mdl.has; omega
    have e1 := Mdl.obj_get hn
    have e2 := Mdl.obj_get hn'
    have ei : (((i + 1 : Nat) : Int) - 1).toNat = i := by omega
    rw [ei] at e1 e2
    rw [e1, e2, h _ hn]
  · rw [List.getElem?_eq_none (by omega), List.getElem?_eq_none (by omega)]
theorem collect_state {M : Mdl} (w : M.Ok) : M.collect.2 = 0 ↔ M.state = M.collect.1.state := by
  obtain ⟨w', hl⟩ := collect_ok w
  have hsl : M.collect.1.slots = M.slots := coll_places.2
  rw [collect_zero w]
  constructor
  · intro h
    have := objs_ext hl h
    unfold Mdl.state
    rw [this, hsl, collect_places w]
  · intro h n hn
    unfold Mdl.state at h
    rw [hl, hsl, collect_places w] at h
    have h1 := (List.append_inj h rfl).2
    have hoi : ∀ i a, M.objs[i]? = some a → M.has ((i + 1 : Nat) : Int) ∧ a = M.obj ((i + 1 : Nat) : Int) := fun i a hi => by
      have hh : M.has ((i + 1 : Nat) : Int) := by have := lt_of_get hi; unfold Mdl.has; omega
      have e1 := Mdl.obj_get hh
      have ei : (((i + 1 : Nat) : Int) - 1).toNat = i := by omega
      rw [ei, hi] at e1
      exact ⟨hh, by simpa using e1⟩
    have hoi' : ∀ i a, M.collect.1.objs[i]? = some a → M.collect.1.has ((i + 1 : Nat) : Int) ∧ a = M.collect.1.obj ((i + 1 : Nat) : Int) := fun i a hi => by
      have hh : M.collect.1.has ((i + 1 : Nat) : Int) := by have := lt_of_get hi; unfold Mdl.has; omega
      have e1 := Mdl.obj_get hh
      have ei : (((i + 1 : Nat) : Int) - 1).toNat = i := by omega
      rw [ei, hi] at e1
      exact ⟨hh, by simpa using e1⟩
    have h2 := flat_inj (by simp [hl]) (fun i a b ha hb => by
      rw [List.getElem?_map, Option.map_eq_some_iff] at ha hb
      obtain ⟨x, hx, rfl⟩ := ha
      obtain ⟨y, hy, rfl⟩ := hb
      obtain ⟨q1, rfl⟩ := hoi i x hx
      obtain ⟨q2, rfl⟩ := hoi' i y hy
      exact (content_len (w.obj q1) (w'.obj q2) (coll_same w (Nat.le_refl _) _ q1)).symm) h1
    have hn1 := hn.1
    have hn2 := hn.2
    have hn' : M.collect.1.has n := by unfold Mdl.has; omega
    have e1 := Mdl.obj_get hn
    have e2 := Mdl.obj_get hn'
    have h3 : (M.objs.map Obj.content)[(n - 1).toNat]? = (M.collect.1.objs.map Obj.content)[(n - 1).toNat]? := by rw [h2]
    rw [List.getElem?_map, List.getElem?_map, e1, e2] at h3
    simp only [Option.map_some, Option.some.injEq] at h3
    exact (content_inj (w.obj hn) (w'.obj hn') (coll_same w (Nat.le_refl _) _ hn) h3).symm
end Go.Cs

/- ModelMore: what is kept in the middle and at the end. -/
namespace Go.Cs.Try
open Go Go.Cs
set_option maxRecDepth 100000
section
variable {o : Tags} {g : Nat} {b : Nat} {M : Mdl} {L : Lay} {H : CHeap}

theorem Mdl.push_len {M : Mdl} {n : Int} : (M.push n).1.objs = M.objs := by
  unfold Mdl.push
  split
  · split <;> rfl
  · rfl

theorem tail3 (m : MRep o g H b M L) (w : M.Ok) (ident : Int) :
    ∃ v17 K1 H2 v71 K2 o2, run P 14 [.ptr b 0] H = some (v17, K1) ∧ run P 18 [.ptr b 0, .i ident] K1 = some (.i (M.push ident).2, H2) ∧
      run P 19 [.ptr b 0, v17] H2 = some (.slice H2.length 0 (M.objs.length + 1) (M.objs.length + 1) 1 false, H2 ++ [⟨bools (marks M.objs.length M.keptI), .rw, 1⟩]) ∧
      run P 14 [.ptr b 0] (H2 ++ [⟨bools (marks M.objs.length M.keptI), .rw, 1⟩]) = some (v71, K2) ∧
      run P 19 [.ptr b 0, v71] K2 = some (.slice K2.length 0 (M.objs.length + 1) (M.objs.length + 1) 1 false, K2 ++ [⟨bools (marks M.objs.length (M.push ident).1.keptI), .rw, 1⟩]) ∧
      Frm g o H o2 (K2 ++ [⟨bools (marks M.objs.length (M.push ident).1.keptI), .rw, 1⟩]) ∧ At (Un o2) z3 (K2 ++ [⟨bools (marks M.objs.length (M.push ident).1.keptI), .rw, 1⟩]) v17 1 M.keptI.length (Go.Cs.ints M.keptI) ∧
      (K2 ++ [⟨bools (marks M.objs.length (M.push ident).1.keptI), .rw, 1⟩])[H2.length]? = some ⟨bools (marks M.objs.length M.keptI), .rw, 1⟩ := by
  have hfew := w.few
  have hid : ∀ {M : Mdl}, M.Ok → ∀ v ∈ M.keptI, 0 ≤ v ∧ v ≤ (M.objs.length : Int) := fun w v hv => by
    have := Kp.has w ((mem_keptI w).1 hv)
    unfold Mdl.has at this; omega
  have hkl : ∀ {M : Mdl}, M.Ok → M.keptI.length ≤ 1000000 := fun {M} w => by
    have := idxs_len (ks := M.keptL) (i := M.objs.length + 1)
    have := w.few
    unfold Mdl.keptI; omega
  obtain ⟨v17, K1, d1, gr1, m1, q1⟩ := kept_frm m w
  obtain ⟨H2, o2, L2, d2, m2, fr2⟩ := f18 m1 w ident
  have w2 := w.push ident
  have hpl := Mdl.push_len (M := M) (n := ident)
  have q2 := q1.unFrm fr2
  have d3 := f19 m2 w2 (hkl w) q2 (by rw [hpl]; exact hid w)
  have m3 := m2.app [⟨bools (marks M.objs.length M.keptI), .rw, 1⟩]
  have fr3 : Frm g o2 H2 o2 (H2 ++ [⟨bools (marks M.objs.length M.keptI), .rw, 1⟩]) := Frm.app m2.dom _
  obtain ⟨v71, K2, d4, gr4, m4, q4⟩ := kept_frm m3 w2
  have d5 := f19 m4 w2 (hkl w2) q4 (hid w2)
  rw [hpl] at d3 d5
  have fr5 : Frm g o2 K2 o2 (K2 ++ [⟨bools (marks M.objs.length (M.push ident).1.keptI), .rw, 1⟩]) := Frm.app m4.dom _
  have hfree : o2 H2.length = none := by
    cases h : o2 H2.length with
    | none => rfl
    | some t => have := m2.dom _ _ h; omega
  have hx := ((gr4.trans fr5).kept (c := H2.length) (k := ⟨bools (marks M.objs.length M.keptI), .rw, 1⟩) (by simp) hfree).1
  exact ⟨v17, K1, H2, v71, K2, o2, d1, d2, d3, d4, d5, (((gr1.trans fr2).trans fr3).trans gr4).trans fr5, ((q2.unFrm fr3).unFrm gr4).unFrm fr5, hx⟩
end
end Go.Cs.Try

/- ModelMore: the walk. -/
namespace Go.Cs
open Go
theorem kid {M : Mdl} (w : M.Ok) : ∀ v ∈ M.keptI, 0 ≤ v ∧ v ≤ (M.objs.length : Int) := fun v hv => by
  have := Kp.has w ((mem_keptI w).1 hv)
  unfold Mdl.has at this; omega
theorem klen {M : Mdl} (w : M.Ok) : M.keptI.length ≤ 1000000 := by
  have := idxs_len (ks := M.keptL) (i := M.objs.length + 1)
  have := w.few
  unfold Mdl.keptI; omega
end Go.Cs
namespace Go.Cs.Try
open Go Go.Cs
set_option maxRecDepth 100000
set_option maxHeartbeats 8000000
theorem f3 {o : Tags} {H : CHeap} {v : CV} {l : List Stp} (hd : ∀ c t, o c = some t → c < H.length) (hg : ∀ c k, o c ≠ some (0, k)) (st : Steps o H v l) (nn ident of i : Int) :
    ∃ H', run P 3 [.i nn, v, .i ident, .i of, .i i] H = some (.bool true, H') := by
  by_cases hok : (1 ≤ nn ∧ nn ≤ 4) ∧ l.length ≤ 120
  case neg =>
    obtain ⟨H1, e12⟩ := f12_no (H := H) (n := nn) st.len (by omega)
    obtain ⟨H2, e13⟩ := f13 (H := H1)
    apply ex_run
    rw [run_lv c3]
    simp (disch := first | omega | rfl | assumption | (simp only [csN, Nat.reduceAdd, Nat.reduceMul, Nat.reduceLeDiff, Nat.reduceEqDiff] <;> omega) | (simp only [csF]; done) | (simp only [csF] <;> assumption) | fail) only [Nat.reduceEqDiff, Nat.reduceAdd, Nat.reduceMul, Nat.reduceSub, Nat.reduceLeDiff, Int.reduceAdd, Int.reduceSub, Int.reduceMul, Int.reduceLT, Int.reduceLE, Int.reduceGT, Int.reduceGE, Int.reduceEq, Int.reduceBEq, Int.reduceBNe, Int.reduceNeg, Int.reduceToNat, csAll, ↓reduceIte, C3, entry_5, e12, e13]
    rfl
  obtain ⟨hn, hl⟩ := hok
  obtain ⟨n, rfl⟩ : ∃ n : Nat, nn = (n : Int) := ⟨nn.toNat, by omega⟩
  obtain ⟨b, H1, o1, L1, e12, m, -⟩ := f12 (g := 0) hd hg (n := n) (by omega) hl st
  obtain ⟨w, -⟩ := madeM_ok (n := n) (by omega) l (by omega)
  obtain ⟨v12, K1, e14, -, mK, q12⟩ := kept_frm m w
  have e15 := f15 mK w of
  have hsa : ∀ H : CHeap, Frm 0 o1 K1 o1 (K1 ++ H) := fun J => Frm.app mK.dom J
  have sh : (madeM n l).has of → (madeM n l).shapeAt of = ((((madeM n l).obj of).nr, ((madeM n l).obj of).nd, ((madeM n l).obj of).kd), 0) := fun h => by unfold Mdl.shapeAt; rw [if_pos h]
  have sn : ¬ (madeM n l).has of → (madeM n l).shapeAt of = ((0, 0, 0), 4) := fun h => by unfold Mdl.shapeAt; rw [if_neg h]
  by_cases hh : (madeM n l).has of
  case neg =>
    rw [sn hh] at e15
    simp only [shape3] at e15
    have mQ := (mK.app [⟨[.i 0, .i 0, .i 0], .rw, 0⟩]).app [⟨[.i 0, .i 0, .i 0], .rw, 0⟩]
    have qQ := (q12.app [⟨[.i 0, .i 0, .i 0], .rw, 0⟩]).app [⟨[.i 0, .i 0, .i 0], .rw, 0⟩]
    obtain ⟨v17, K2, H2, v71, K3, o2, t1, t2, t3, t4, t5, fr, a17, hx⟩ := tail3 mQ w ident
    have a12 := (qQ).unFrm fr
    have hlast : (K3 ++ [⟨bools (marks (madeM n l).objs.length ((madeM n l).push ident).1.keptI), .rw, 1⟩])[K3.length]? = some ⟨bools (marks (madeM n l).objs.length ((madeM n l).push ident).1.keptI), .rw, 1⟩ := by simp
    obtain ⟨Hf, ef⟩ := f13 (H := K3 ++ [⟨bools (marks (madeM n l).objs.length ((madeM n l).push ident).1.keptI), .rw, 1⟩])
    have hl1 : ∀ u ∈ (madeM n l).keptI, 0 ≤ u ∧ u.toNat < (marks (madeM n l).objs.length (madeM n l).keptI).length ∧ on (marks (madeM n l).objs.length (madeM n l).keptI) u = true := fun u hu => by
      have h1 : Kp (madeM n l) u := id ((mem_keptI w).1 hu)
      have h2 := Kp.has w h1
      unfold Mdl.has at h2
      exact ⟨by omega, by rw [marks_len]; omega, (marks_on (kid w) (by omega)).2 ((mem_keptI w).2 h1)⟩
    have hl2 : ∀ u ∈ (madeM n l).keptI, 0 ≤ u ∧ u.toNat < (marks (madeM n l).objs.length ((madeM n l).push ident).1.keptI).length ∧ on (marks (madeM n l).objs.length ((madeM n l).push ident).1.keptI) u = true := fun u hu => by
      have h1 : Kp (madeM n l) u := (mem_keptI w).1 hu
      have h2 := Kp.has w h1
      unfold Mdl.has at h2
      have h3 := kid (w.push ident)
      rw [Mdl.push_len] at h3
      exact ⟨by omega, by rw [marks_len]; omega, (marks_on h3 (by omega)).2 ((mem_keptI (w.push ident)).2 h1.push)⟩
    rw [run_lv c3]
    simp (config := { maxSteps := 2000000 }) (disch := first | omega | rfl | assumption | (simp only [csN, Nat.reduceAdd, Nat.reduceMul, Nat.reduceLeDiff, Nat.reduceEqDiff] <;> omega) | (simp only [csF]; done) | (simp only [csF] <;> assumption) | fail) only [Nat.reduceEqDiff, Nat.reduceAdd, Nat.reduceMul, Nat.reduceSub, Nat.reduceLeDiff, Int.reduceAdd, Int.reduceSub, Int.reduceMul, Int.reduceLT, Int.reduceLE, Int.reduceGT, Int.reduceGE, Int.reduceEq, Int.reduceBEq, Int.reduceBNe, Int.reduceNeg, Int.reduceToNat, csAll, ↓reduceIte, C3, entry_5, e12, e14, e15, t1, t2, t3, t4, t5]
    generalize hr : den P (.loop C3_2) _ _ = r
    obtain ⟨x, E1, H3, rfl, -, rfl, rfl, hE⟩ := (l3_2 (klen w) a12 hx hl1 _).at hr _
      ⟨rfl, by simp only [upd_apply, Nat.reduceEqDiff, ↓reduceIte, marks_len], by simp only [upd_apply, Nat.reduceEqDiff, ↓reduceIte], 0, by simp only [upd_apply, Nat.reduceEqDiff, ↓reduceIte]; rfl, by omega, rfl, fun t ht => rfl⟩
    have e19 := hE 19 (by omega)
    have e17 := hE 17 (by omega)
    simp only [upd_apply, Nat.reduceEqDiff, ↓reduceIte] at e19 e17
    simp (config := { maxSteps := 2000000 }) (disch := first | omega | rfl | assumption | (simp only [csN, Nat.reduceAdd, Nat.reduceMul, Nat.reduceLeDiff, Nat.reduceEqDiff] <;> omega) | (simp only [csF]; done) | (simp only [csF] <;> assumption) | fail) only [Nat.reduceEqDiff, Nat.reduceAdd, Nat.reduceMul, Nat.reduceSub, Nat.reduceLeDiff, Int.reduceAdd, Int.reduceSub, Int.reduceMul, Int.reduceLT, Int.reduceLE, Int.reduceGT, Int.reduceGE, Int.reduceEq, Int.reduceBEq, Int.reduceBNe, Int.reduceNeg, Int.reduceToNat, csAll, ↓reduceIte]
    generalize hr2 : den (cprog Go.Proofs.Try.prog) (.loop C3_1) _ _ = r2
    obtain ⟨x, E2, H4, rfl, -, rfl, rfl⟩ := (l3_1 (klen w) a17 hlast hl2).at hr2 _
      ⟨rfl, by simp only [upd_apply, Nat.reduceEqDiff, ↓reduceIte, marks_len]; exact e19, by simp only [upd_apply, Nat.reduceEqDiff, ↓reduceIte]; exact e17, 0, by simp only [upd_apply, Nat.reduceEqDiff, ↓reduceIte]; rfl, by omega, rfl⟩
    apply ex_run
    simp (config := { maxSteps := 2000000 }) (disch := first | omega | rfl | assumption | (simp only [csN, Nat.reduceAdd, Nat.reduceMul, Nat.reduceLeDiff, Nat.reduceEqDiff] <;> omega) | (simp only [csF]; done) | (simp only [csF] <;> assumption) | fail) only [Nat.reduceEqDiff, Nat.reduceAdd, Nat.reduceMul, Nat.reduceSub, Nat.reduceLeDiff, Int.reduceAdd, Int.reduceSub, Int.reduceMul, Int.reduceLT, Int.reduceLE, Int.reduceGT, Int.reduceGE, Int.reduceEq, Int.reduceBEq, Int.reduceBNe, Int.reduceNeg, Int.reduceToNat, csAll, ↓reduceIte, ef]
    rfl
  rw [sh hh] at e15
  simp only [shape3] at e15
  generalize hx : (madeM n l).obj of = xx at *
  have mQ := (mK.app [⟨[.i xx.nr, .i xx.nd, .i xx.kd], .rw, 0⟩]).app [⟨[.i xx.nr, .i xx.nd, .i xx.kd], .rw, 0⟩]
  have qQ := (q12.app [⟨[.i xx.nr, .i xx.nd, .i xx.kd], .rw, 0⟩]).app [⟨[.i xx.nr, .i xx.nd, .i xx.kd], .rw, 0⟩]
  by_cases hkd : xx.kd = 0
  case neg =>
    obtain ⟨v17, K2, H2, v71, K3, o2, t1, t2, t3, t4, t5, fr, a17, hx⟩ := tail3 mQ w ident
    have a12 := (qQ).unFrm fr
    have hlast : (K3 ++ [⟨bools (marks (madeM n l).objs.length ((madeM n l).push ident).1.keptI), .rw, 1⟩])[K3.length]? = some ⟨bools (marks (madeM n l).objs.length ((madeM n l).push ident).1.keptI), .rw, 1⟩ := by simp
    obtain ⟨Hf, ef⟩ := f13 (H := K3 ++ [⟨bools (marks (madeM n l).objs.length ((madeM n l).push ident).1.keptI), .rw, 1⟩])
    have hl1 : ∀ u ∈ (madeM n l).keptI, 0 ≤ u ∧ u.toNat < (marks (madeM n l).objs.length (madeM n l).keptI).length ∧ on (marks (madeM n l).objs.length (madeM n l).keptI) u = true := fun u hu => by
      have h1 : Kp (madeM n l) u := id ((mem_keptI w).1 hu)
      have h2 := Kp.has w h1
      unfold Mdl.has at h2
      exact ⟨by omega, by rw [marks_len]; omega, (marks_on (kid w) (by omega)).2 ((mem_keptI w).2 h1)⟩
    have hl2 : ∀ u ∈ (madeM n l).keptI, 0 ≤ u ∧ u.toNat < (marks (madeM n l).objs.length ((madeM n l).push ident).1.keptI).length ∧ on (marks (madeM n l).objs.length ((madeM n l).push ident).1.keptI) u = true := fun u hu => by
      have h1 : Kp (madeM n l) u := (mem_keptI w).1 hu
      have h2 := Kp.has w h1
      unfold Mdl.has at h2
      have h3 := kid (w.push ident)
      rw [Mdl.push_len] at h3
      exact ⟨by omega, by rw [marks_len]; omega, (marks_on h3 (by omega)).2 ((mem_keptI (w.push ident)).2 h1.push)⟩
    rw [run_lv c3]
    simp (config := { maxSteps := 2000000 }) (disch := first | omega | rfl | assumption | (simp only [csN, Nat.reduceAdd, Nat.reduceMul, Nat.reduceLeDiff, Nat.reduceEqDiff] <;> omega) | (simp only [csF]; done) | (simp only [csF] <;> assumption) | fail) only [Nat.reduceEqDiff, Nat.reduceAdd, Nat.reduceMul, Nat.reduceSub, Nat.reduceLeDiff, Int.reduceAdd, Int.reduceSub, Int.reduceMul, Int.reduceLT, Int.reduceLE, Int.reduceGT, Int.reduceGE, Int.reduceEq, Int.reduceBEq, Int.reduceBNe, Int.reduceNeg, Int.reduceToNat, csAll, ↓reduceIte, C3, entry_5, e12, e14, e15, t1, t2, t3, t4, t5]
    generalize hr : den P (.loop C3_2) _ _ = r
    obtain ⟨x, E1, H3, rfl, -, rfl, rfl, hE⟩ := (l3_2 (klen w) a12 hx hl1 _).at hr _
      ⟨rfl, by simp only [upd_apply, Nat.reduceEqDiff, ↓reduceIte, marks_len], by simp only [upd_apply, Nat.reduceEqDiff, ↓reduceIte], 0, by simp only [upd_apply, Nat.reduceEqDiff, ↓reduceIte]; rfl, by omega, rfl, fun t ht => rfl⟩
    have e19 := hE 19 (by omega)
    have e17 := hE 17 (by omega)
    simp only [upd_apply, Nat.reduceEqDiff, ↓reduceIte] at e19 e17
    simp (config := { maxSteps := 2000000 }) (disch := first | omega | rfl | assumption | (simp only [csN, Nat.reduceAdd, Nat.reduceMul, Nat.reduceLeDiff, Nat.reduceEqDiff] <;> omega) | (simp only [csF]; done) | (simp only [csF] <;> assumption) | fail) only [Nat.reduceEqDiff, Nat.reduceAdd, Nat.reduceMul, Nat.reduceSub, Nat.reduceLeDiff, Int.reduceAdd, Int.reduceSub, Int.reduceMul, Int.reduceLT, Int.reduceLE, Int.reduceGT, Int.reduceGE, Int.reduceEq, Int.reduceBEq, Int.reduceBNe, Int.reduceNeg, Int.reduceToNat, csAll, ↓reduceIte]
    generalize hr2 : den (cprog Go.Proofs.Try.prog) (.loop C3_1) _ _ = r2
    obtain ⟨x, E2, H4, rfl, -, rfl, rfl⟩ := (l3_1 (klen w) a17 hlast hl2).at hr2 _
      ⟨rfl, by simp only [upd_apply, Nat.reduceEqDiff, ↓reduceIte, marks_len]; exact e19, by simp only [upd_apply, Nat.reduceEqDiff, ↓reduceIte]; exact e17, 0, by simp only [upd_apply, Nat.reduceEqDiff, ↓reduceIte]; rfl, by omega, rfl⟩
    apply ex_run
    simp (config := { maxSteps := 2000000 }) (disch := first | omega | rfl | assumption | (simp only [csN, Nat.reduceAdd, Nat.reduceMul, Nat.reduceLeDiff, Nat.reduceEqDiff] <;> omega) | (simp only [csF]; done) | (simp only [csF] <;> assumption) | fail) only [Nat.reduceEqDiff, Nat.reduceAdd, Nat.reduceMul, Nat.reduceSub, Nat.reduceLeDiff, Int.reduceAdd, Int.reduceSub, Int.reduceMul, Int.reduceLT, Int.reduceLE, Int.reduceGT, Int.reduceGE, Int.reduceEq, Int.reduceBEq, Int.reduceBNe, Int.reduceNeg, Int.reduceToNat, csAll, ↓reduceIte, ef]
    rfl
  have e16 := f16 mQ w of i
  have hr : (madeM n l).refAt of i = elAt xx.refs i := by unfold Mdl.refAt; rw [if_pos hh, hx]
  rw [hr] at e16
  by_cases hz : elAt xx.refs i = (0, 0)
  case neg =>
    have hel : (elAt xx.refs i).2 ≠ 0 ∨ (elAt xx.refs i).2 = 0 ∧ (elAt xx.refs i).1 ≠ 0 := by
      by_cases h2 : (elAt xx.refs i).2 = 0
      · exact .inr ⟨h2, fun h1 => hz (Prod.ext h1 h2)⟩
      · exact .inl h2
    simp only [pair2] at e16
    generalize (elAt xx.refs i).1 = r1 at *
    generalize (elAt xx.refs i).2 = r2 at *
    rcases hel with hel | ⟨hel, hel'⟩
    all_goals (
    obtain ⟨v17, K2, H2, v71, K3, o2, t1, t2, t3, t4, t5, fr, a17, hx⟩ := tail3 mQ w ident
    have a12 := (qQ).unFrm fr
    have hlast : (K3 ++ [⟨bools (marks (madeM n l).objs.length ((madeM n l).push ident).1.keptI), .rw, 1⟩])[K3.length]? = some ⟨bools (marks (madeM n l).objs.length ((madeM n l).push ident).1.keptI), .rw, 1⟩ := by simp
    obtain ⟨Hf, ef⟩ := f13 (H := K3 ++ [⟨bools (marks (madeM n l).objs.length ((madeM n l).push ident).1.keptI), .rw, 1⟩])
    have hl1 : ∀ u ∈ (madeM n l).keptI, 0 ≤ u ∧ u.toNat < (marks (madeM n l).objs.length (madeM n l).keptI).length ∧ on (marks (madeM n l).objs.length (madeM n l).keptI) u = true := fun u hu => by
      have h1 : Kp (madeM n l) u := id ((mem_keptI w).1 hu)
      have h2 := Kp.has w h1
      unfold Mdl.has at h2
      exact ⟨by omega, by rw [marks_len]; omega, (marks_on (kid w) (by omega)).2 ((mem_keptI w).2 h1)⟩
    have hl2 : ∀ u ∈ (madeM n l).keptI, 0 ≤ u ∧ u.toNat < (marks (madeM n l).objs.length ((madeM n l).push ident).1.keptI).length ∧ on (marks (madeM n l).objs.length ((madeM n l).push ident).1.keptI) u = true := fun u hu => by
      have h1 : Kp (madeM n l) u := (mem_keptI w).1 hu
      have h2 := Kp.has w h1
      unfold Mdl.has at h2
      have h3 := kid (w.push ident)
      rw [Mdl.push_len] at h3
      exact ⟨by omega, by rw [marks_len]; omega, (marks_on h3 (by omega)).2 ((mem_keptI (w.push ident)).2 h1.push)⟩
    rw [run_lv c3]
    simp (config := { maxSteps := 2000000 }) (disch := first | omega | rfl | assumption | (simp only [csN, Nat.reduceAdd, Nat.reduceMul, Nat.reduceLeDiff, Nat.reduceEqDiff] <;> omega) | (simp only [csF]; done) | (simp only [csF] <;> assumption) | fail) only [Nat.reduceEqDiff, Nat.reduceAdd, Nat.reduceMul, Nat.reduceSub, Nat.reduceLeDiff, Int.reduceAdd, Int.reduceSub, Int.reduceMul, Int.reduceLT, Int.reduceLE, Int.reduceGT, Int.reduceGE, Int.reduceEq, Int.reduceBEq, Int.reduceBNe, Int.reduceNeg, Int.reduceToNat, csAll, ↓reduceIte, C3, entry_5, e12, e14, e15, e16, t1, t2, t3, t4, t5]
    generalize hr : den P (.loop C3_2) _ _ = r
    obtain ⟨x, E1, H3, rfl, -, rfl, rfl, hE⟩ := (l3_2 (klen w) a12 hx hl1 _).at hr _
      ⟨rfl, by simp only [upd_apply, Nat.reduceEqDiff, ↓reduceIte, marks_len], by simp only [upd_apply, Nat.reduceEqDiff, ↓reduceIte], 0, by simp only [upd_apply, Nat.reduceEqDiff, ↓reduceIte]; rfl, by omega, rfl, fun t ht => rfl⟩
    have e19 := hE 19 (by omega)
    have e17 := hE 17 (by omega)
    simp only [upd_apply, Nat.reduceEqDiff, ↓reduceIte] at e19 e17
    simp (config := { maxSteps := 2000000 }) (disch := first | omega | rfl | assumption | (simp only [csN, Nat.reduceAdd, Nat.reduceMul, Nat.reduceLeDiff, Nat.reduceEqDiff] <;> omega) | (simp only [csF]; done) | (simp only [csF] <;> assumption) | fail) only [Nat.reduceEqDiff, Nat.reduceAdd, Nat.reduceMul, Nat.reduceSub, Nat.reduceLeDiff, Int.reduceAdd, Int.reduceSub, Int.reduceMul, Int.reduceLT, Int.reduceLE, Int.reduceGT, Int.reduceGE, Int.reduceEq, Int.reduceBEq, Int.reduceBNe, Int.reduceNeg, Int.reduceToNat, csAll, ↓reduceIte]
    generalize hr2 : den (cprog Go.Proofs.Try.prog) (.loop C3_1) _ _ = r2
    obtain ⟨x, E2, H4, rfl, -, rfl, rfl⟩ := (l3_1 (klen w) a17 hlast hl2).at hr2 _
      ⟨rfl, by simp only [upd_apply, Nat.reduceEqDiff, ↓reduceIte, marks_len]; exact e19, by simp only [upd_apply, Nat.reduceEqDiff, ↓reduceIte]; exact e17, 0, by simp only [upd_apply, Nat.reduceEqDiff, ↓reduceIte]; rfl, by omega, rfl⟩
    apply ex_run
    simp (config := { maxSteps := 2000000 }) (disch := first | omega | rfl | assumption | (simp only [csN, Nat.reduceAdd, Nat.reduceMul, Nat.reduceLeDiff, Nat.reduceEqDiff] <;> omega) | (simp only [csF]; done) | (simp only [csF] <;> assumption) | fail) only [Nat.reduceEqDiff, Nat.reduceAdd, Nat.reduceMul, Nat.reduceSub, Nat.reduceLeDiff, Int.reduceAdd, Int.reduceSub, Int.reduceMul, Int.reduceLT, Int.reduceLE, Int.reduceGT, Int.reduceGE, Int.reduceEq, Int.reduceBEq, Int.reduceBNe, Int.reduceNeg, Int.reduceToNat, csAll, ↓reduceIte, ef]
    rfl)
  rw [hz] at e16
  simp only [pair2] at e16
  obtain ⟨H5, o5, L5, e17, m5, fr5⟩ := f17 mQ w of i ident
  have w5 := w.setRef of i ident
  have q5 := qQ.unFrm fr5
  have hmono : ∀ {u : Int}, Kp (madeM n l) u → Kp ((madeM n l).setRef of i ident).1 u := fun h => h.setRef w hh (by rw [hx]; exact hkd) (by rw [hx]; exact hz)
  generalize hM : ((madeM n l).setRef of i ident).1 = M5 at *
  generalize ((madeM n l).setRef of i ident).2 = err at *
  obtain ⟨v17, K2, H2, v71, K3, o2, t1, t2, t3, t4, t5, fr, a17, hx⟩ := tail3 m5 w5 ident
  have a12 := (q5).unFrm fr
  have hlast : (K3 ++ [⟨bools (marks M5.objs.length (M5.push ident).1.keptI), .rw, 1⟩])[K3.length]? = some ⟨bools (marks M5.objs.length (M5.push ident).1.keptI), .rw, 1⟩ := by simp
  obtain ⟨Hf, ef⟩ := f13 (H := K3 ++ [⟨bools (marks M5.objs.length (M5.push ident).1.keptI), .rw, 1⟩])
  have hl1 : ∀ u ∈ (madeM n l).keptI, 0 ≤ u ∧ u.toNat < (marks M5.objs.length M5.keptI).length ∧ on (marks M5.objs.length M5.keptI) u = true := fun u hu => by
    have h1 : Kp M5 u := hmono ((mem_keptI w).1 hu)
    have h2 := Kp.has w5 h1
    unfold Mdl.has at h2
    exact ⟨by omega, by rw [marks_len]; omega, (marks_on (kid w5) (by omega)).2 ((mem_keptI w5).2 h1)⟩
  have hl2 : ∀ u ∈ M5.keptI, 0 ≤ u ∧ u.toNat < (marks M5.objs.length (M5.push ident).1.keptI).length ∧ on (marks M5.objs.length (M5.push ident).1.keptI) u = true := fun u hu => by
    have h1 : Kp M5 u := (mem_keptI w5).1 hu
    have h2 := Kp.has w5 h1
    unfold Mdl.has at h2
    have h3 := kid (w5.push ident)
    rw [Mdl.push_len] at h3
    exact ⟨by omega, by rw [marks_len]; omega, (marks_on h3 (by omega)).2 ((mem_keptI (w5.push ident)).2 h1.push)⟩
  rw [run_lv c3]
  simp (config := { maxSteps := 2000000 }) (disch := first | omega | rfl | assumption | (simp only [csN, Nat.reduceAdd, Nat.reduceMul, Nat.reduceLeDiff, Nat.reduceEqDiff] <;> omega) | (simp only [csF]; done) | (simp only [csF] <;> assumption) | fail) only [Nat.reduceEqDiff, Nat.reduceAdd, Nat.reduceMul, Nat.reduceSub, Nat.reduceLeDiff, Int.reduceAdd, Int.reduceSub, Int.reduceMul, Int.reduceLT, Int.reduceLE, Int.reduceGT, Int.reduceGE, Int.reduceEq, Int.reduceBEq, Int.reduceBNe, Int.reduceNeg, Int.reduceToNat, csAll, ↓reduceIte, C3, entry_5, e12, e14, e15, e16, e17, t1, t2, t3, t4, t5]
  generalize hr : den P (.loop C3_2) _ _ = r
  obtain ⟨x, E1, H3, rfl, -, rfl, rfl, hE⟩ := (l3_2 (klen w) a12 hx hl1 _).at hr _
    ⟨rfl, by simp only [upd_apply, Nat.reduceEqDiff, ↓reduceIte, marks_len], by simp only [upd_apply, Nat.reduceEqDiff, ↓reduceIte], 0, by simp only [upd_apply, Nat.reduceEqDiff, ↓reduceIte]; rfl, by omega, rfl, fun t ht => rfl⟩
  have e19 := hE 19 (by omega)
  have e17 := hE 17 (by omega)
  simp only [upd_apply, Nat.reduceEqDiff, ↓reduceIte] at e19 e17
  simp (config := { maxSteps := 2000000 }) (disch := first | omega | rfl | assumption | (simp only [csN, Nat.reduceAdd, Nat.reduceMul, Nat.reduceLeDiff, Nat.reduceEqDiff] <;> omega) | (simp only [csF]; done) | (simp only [csF] <;> assumption) | fail) only [Nat.reduceEqDiff, Nat.reduceAdd, Nat.reduceMul, Nat.reduceSub, Nat.reduceLeDiff, Int.reduceAdd, Int.reduceSub, Int.reduceMul, Int.reduceLT, Int.reduceLE, Int.reduceGT, Int.reduceGE, Int.reduceEq, Int.reduceBEq, Int.reduceBNe, Int.reduceNeg, Int.reduceToNat, csAll, ↓reduceIte]
  generalize hr2 : den (cprog Go.Proofs.Try.prog) (.loop C3_1) _ _ = r2
  obtain ⟨x, E2, H4, rfl, -, rfl, rfl⟩ := (l3_1 (klen w5) a17 hlast hl2).at hr2 _
    ⟨rfl, by simp only [upd_apply, Nat.reduceEqDiff, ↓reduceIte, marks_len]; exact e19, by simp only [upd_apply, Nat.reduceEqDiff, ↓reduceIte]; exact e17, 0, by simp only [upd_apply, Nat.reduceEqDiff, ↓reduceIte]; rfl, by omega, rfl⟩
  apply ex_run
  simp (config := { maxSteps := 2000000 }) (disch := first | omega | rfl | assumption | (simp only [csN, Nat.reduceAdd, Nat.reduceMul, Nat.reduceLeDiff, Nat.reduceEqDiff] <;> omega) | (simp only [csF]; done) | (simp only [csF] <;> assumption) | fail) only [Nat.reduceEqDiff, Nat.reduceAdd, Nat.reduceMul, Nat.reduceSub, Nat.reduceLeDiff, Int.reduceAdd, Int.reduceSub, Int.reduceMul, Int.reduceLT, Int.reduceLE, Int.reduceGT, Int.reduceGE, Int.reduceEq, Int.reduceBEq, Int.reduceBNe, Int.reduceNeg, Int.reduceToNat, csAll, ↓reduceIte, ef]
  rfl

end Go.Cs.Try

/- ModelCollects: the walk. -/
namespace Go.Cs.Try
open Go Go.Cs
set_option maxRecDepth 100000
set_option maxHeartbeats 8000000

theorem vEqv_bools {g a b : Bool} {H : CHeap} : vEqv g 0 (.bool a) (.bool b) H = some (.bool (if g then !(a == b) else a == b), H) := rfl

theorem l7_1 {o : Tags} {g : Nat} {b : Nat} {M : Mdl} {L : Lay} {H : CHeap} (w : M.Ok) (m : MRep o g H b M.collect.1 L) (hf : M.objs.length ≤ 1000) {o1 : Tags} {t1 : Tag} {vk : CV} (hk : At o1 t1 H vk 1 M.keptI.length (Go.Cs.ints M.keptI))
    {ab : Nat} {ms : List Bool} (hms : ms = marks M.objs.length M.keptI) (hb : H[ab]? = some ⟨bools ms, .rw, 1⟩)
    {E0 : Env} (h5 : E0 5 = .ptr b 0) (h7 : E0 7 = vk) (h10 : E0 10 = .slice ab 0 (M.objs.length + 1) (M.objs.length + 1) 1 false) (h11 : E0 11 = .i 0)
    {r : Option (CX × Env × CHeap)} (hr : den P (.loop C7_1) E0 H = r) :
    ∃ E' H', r = some (.exit 0, E', H') ∧ Gr H H' ∧ ∀ t, t ∉ wr C7_1 → E' t = E0 t := by
  obtain ⟨w', hl'⟩ := collect_ok w
  have hlen := hk.len
  have hkl := klen w
  obtain ⟨x', E', H', e, -, ⟨rfl, g1⟩, fr⟩ := loop_at (p := P) (c := C7_1) (E0 := E0) (H0 := H) (fun k E H' => ∃ j : Nat, E 11 = .i j ∧ j ≤ M.keptI.length ∧ k = M.keptI.length - j ∧ Gr H H')
    (fun x' E' H' => x' = .exit 0 ∧ Gr H H') (by
      rintro k E H' hE ⟨j, e11, hj, rfl, gr⟩
      have e5 := (hE 5 (by decide +kernel)).trans h5
      have e7 := (hE 7 (by decide +kernel)).trans h7
      have e10 := (hE 10 (by decide +kernel)).trans h10
      by_cases cj : j < M.keptI.length
      · have hgj := getD_of (l := M.keptI) (i := j) 0 cj
        generalize hv : M.keptI.getD j 0 = v at *
        have hgi : (Go.Cs.ints M.keptI)[j]? = some (.i v) := by rw [ints_get, hgj]; rfl
        have hkv := (mem_keptI w).1 (List.mem_of_getElem? hgj)
        have hh := Kp.has w hkv
        have hh' : M.collect.1.has v := by unfold Mdl.has at hh ⊢; omega
        obtain ⟨tl, p1, -, p3, -⟩ := (hk.gr gr).pos (by omega)
        rw [p1] at e7 hlen
        have hb' := gr.get hb
        have mm := m.gr gr
        have d15 := f15 mm w' v
        have hsh : M.collect.1.shapeAt v = (((M.collect.1.obj v).nr, (M.collect.1.obj v).nd, (M.collect.1.obj v).kd), 0) := by unfold Mdl.shapeAt; rw [if_pos hh']
        rw [hsh] at d15
        simp only [shape3] at d15
        have hw := wrapS j (by omega)
        have hkd : (M.collect.1.obj v).kd = (M.obj v).kd := (coll_same w (ks := M.keptL) (Nat.le_refl _) v hh).2.2
        generalize hy : M.collect.1.obj v = y at *
        have hyk := w'.obj hh'
        rw [hy] at hyk
        have hyk2 : y.kd = (M.obj v).kd := hkd
        have gr2 : Gr H (H' ++ [⟨[.i y.nr, .i y.nd, .i y.kd], .rw, 0⟩] ++ [⟨[.i y.nr, .i y.nd, .i y.kd], .rw, 0⟩]) := (gr.app' _).app' _
        have hb2 : (H' ++ [⟨[.i y.nr, .i y.nd, .i y.kd], .rw, 0⟩] ++ [⟨[.i y.nr, .i y.nd, .i y.kd], .rw, 0⟩] : CHeap)[ab]? = some ⟨bools ms, .rw, 1⟩ := gr2.get hb
        have p3' : (H' ++ [⟨[.i y.nr, .i y.nd, .i y.kd], .rw, 0⟩] ++ [⟨[.i y.nr, .i y.nd, .i y.kd], .rw, 0⟩] : CHeap)[blkOf vk]? = some ⟨Go.Cs.ints M.keptI, .rw, 1⟩ := ((Gr.app _ _).app' _).get p3
        by_cases hs : y.kd = 1 ∨ y.kd = 2
        · have hsoft : 0 < soft (M.obj v).kd := by rw [← hyk2]; unfold soft; rcases hs with h | h <;> rw [h] <;> decide
          have m2 := m.gr gr2
          have d0 := f16 m2 w' v 0
          have hr0 : M.collect.1.refAt v 0 = (y.refs.getD 0 0, 0) := by
            unfold Mdl.refAt; rw [if_pos hh', hy]
            unfold elAt; rw [if_pos (by have := hyk.nr; have := hyk.kd; omega)]; rfl
          rw [hr0] at d0
          simp only [pair2] at d0
          have hsa := soft_after w hh hkv hsoft
          dsimp only at hsa
          rw [hy] at hsa
          have hrr : 0 ≤ y.refs.getD 0 0 ∧ y.refs.getD 0 0 ≤ (M.objs.length : Int) := by
            have := ref_range w' hh' 0
            rw [hy, hl'] at this; exact this
          have hon : y.refs.getD 0 0 ≠ 0 → on ms (y.refs.getD 0 0) = true := fun hne => by
            rcases hsa with ⟨q1, q2⟩ | q
            · rw [hms]; exact (marks_on (kid w) hrr.1).2 ((mem_keptI w).2 ((on_keptL hrr.1 hrr.2).1 q1))
            · exact absurd (q 0 hsoft) hne
          have hmg := on_get (ks := ms) (v := y.refs.getD 0 0) (by rw [hms, marks_len]; omega)
          by_cases he : y.kd = 2
          · have d1 := f16 m2 w' v 1
            have hr1 : M.collect.1.refAt v 1 = (y.refs.getD 1 0, 0) := by
              unfold Mdl.refAt; rw [if_pos hh', hy]
              unfold elAt; rw [if_pos (by have := hyk.nr; have := hyk.kd; omega)]; rfl
            rw [hr1] at d1
            simp only [pair2] at d1
            simp only [he] at d15 p3' hb2 d0 d1 gr2
            by_cases hz : y.refs.getD 0 0 = 0
            · have hz1 : y.refs.getD 1 0 = 0 := by
                rcases hsa with ⟨q1, q2⟩ | q
                · rw [hz] at q1
                  exact absurd ((on_keptL (M := M) (by omega) (by omega)).1 q1) (kept_no0 w)
                · exact q 1 (by rw [← hyk2, he]; decide)
              rw [hz] at d0
              rw [hz1] at d1
              apply step_go (k' := M.keptI.length - (j + 1))
              · simp (disch := first | omega | rfl | assumption | (simp only [csN, Nat.reduceAdd, Nat.reduceMul, Nat.reduceLeDiff, Nat.reduceEqDiff] <;> omega) | (simp only [csF]; done) | (simp only [csF] <;> assumption) | fail) only [Nat.reduceEqDiff, Nat.reduceAdd, Nat.reduceMul, Nat.reduceSub, Nat.reduceLeDiff, Int.reduceAdd, Int.reduceSub, Int.reduceMul, Int.reduceLT, Int.reduceLE, Int.reduceGT, Int.reduceGE, Int.reduceEq, Int.reduceBEq, Int.reduceBNe, Int.reduceNeg, Int.reduceToNat, csAll, ↓reduceIte, C7_1, e5, e7, e10, e11, hlen, hgi, p3, p3', d15, d0, d1, he, hw]
                rfl
              · omega
              · exact ⟨j + 1, by simp [upd_apply], by omega, rfl, gr2⟩
            · have ho := hon hz
              rw [ho] at hmg
              apply step_go (k' := M.keptI.length - (j + 1))
              · simp (disch := first | omega | rfl | assumption | (simp only [csN, Nat.reduceAdd, Nat.reduceMul, Nat.reduceLeDiff, Nat.reduceEqDiff] <;> omega) | (simp only [csF]; done) | (simp only [csF] <;> assumption) | fail) only [Nat.reduceEqDiff, Nat.reduceAdd, Nat.reduceMul, Nat.reduceSub, Nat.reduceLeDiff, Int.reduceAdd, Int.reduceSub, Int.reduceMul, Int.reduceLT, Int.reduceLE, Int.reduceGT, Int.reduceGE, Int.reduceEq, Int.reduceBEq, Int.reduceBNe, Int.reduceNeg, Int.reduceToNat, csAll, ↓reduceIte, C7_1, e5, e7, e10, e11, hlen, hgi, p3, p3', d15, d0, d1, hb2, hmg, he, hz, hw]
                rfl
              · omega
              · exact ⟨j + 1, by simp [upd_apply], by omega, rfl, gr2⟩
          · have he1 : y.kd = 1 := hs.resolve_right he
            simp only [he1] at d15 p3' hb2 d0 gr2
            by_cases hz : y.refs.getD 0 0 = 0
            · rw [hz] at d0
              apply step_go (k' := M.keptI.length - (j + 1))
              · simp (disch := first | omega | rfl | assumption | (simp only [csN, Nat.reduceAdd, Nat.reduceMul, Nat.reduceLeDiff, Nat.reduceEqDiff] <;> omega) | (simp only [csF]; done) | (simp only [csF] <;> assumption) | fail) only [Nat.reduceEqDiff, Nat.reduceAdd, Nat.reduceMul, Nat.reduceSub, Nat.reduceLeDiff, Int.reduceAdd, Int.reduceSub, Int.reduceMul, Int.reduceLT, Int.reduceLE, Int.reduceGT, Int.reduceGE, Int.reduceEq, Int.reduceBEq, Int.reduceBNe, Int.reduceNeg, Int.reduceToNat, csAll, ↓reduceIte, C7_1, e5, e7, e10, e11, hlen, hgi, p3, p3', d15, d0, he1, hw]
                rfl
              · omega
              · exact ⟨j + 1, by simp [upd_apply], by omega, rfl, gr2⟩
            · have ho := hon hz
              rw [ho] at hmg
              apply step_go (k' := M.keptI.length - (j + 1))
              · simp (disch := first | omega | rfl | assumption | (simp only [csN, Nat.reduceAdd, Nat.reduceMul, Nat.reduceLeDiff, Nat.reduceEqDiff] <;> omega) | (simp only [csF]; done) | (simp only [csF] <;> assumption) | fail) only [Nat.reduceEqDiff, Nat.reduceAdd, Nat.reduceMul, Nat.reduceSub, Nat.reduceLeDiff, Int.reduceAdd, Int.reduceSub, Int.reduceMul, Int.reduceLT, Int.reduceLE, Int.reduceGT, Int.reduceGE, Int.reduceEq, Int.reduceBEq, Int.reduceBNe, Int.reduceNeg, Int.reduceToNat, csAll, ↓reduceIte, C7_1, e5, e7, e10, e11, hlen, hgi, p3, p3', d15, d0, hb2, hmg, he1, hz, hw]
                rfl
              · omega
              · exact ⟨j + 1, by simp [upd_apply], by omega, rfl, gr2⟩
        · have h1 : y.kd ≠ 1 := fun h => hs (.inl h)
          have h2 : y.kd ≠ 2 := fun h => hs (.inr h)
          apply step_go (k' := M.keptI.length - (j + 1))
          · simp (disch := first | omega | rfl | assumption | (simp only [csN, Nat.reduceAdd, Nat.reduceMul, Nat.reduceLeDiff, Nat.reduceEqDiff] <;> omega) | (simp only [csF]; done) | (simp only [csF] <;> assumption) | fail) only [Nat.reduceEqDiff, Nat.reduceAdd, Nat.reduceMul, Nat.reduceSub, Nat.reduceLeDiff, Int.reduceAdd, Int.reduceSub, Int.reduceMul, Int.reduceLT, Int.reduceLE, Int.reduceGT, Int.reduceGE, Int.reduceEq, Int.reduceBEq, Int.reduceBNe, Int.reduceNeg, Int.reduceToNat, csAll, ↓reduceIte, C7_1, e5, e7, e10, e11, hlen, hgi, p3, d15, h1, h2, hw]
            rfl
          · omega
          · exact ⟨j + 1, by simp [upd_apply], by omega, rfl, gr2⟩
      · apply step_out (x := .exit 0)
        · simp (disch := first | omega | rfl | assumption | (simp only [csN, Nat.reduceAdd, Nat.reduceMul, Nat.reduceLeDiff, Nat.reduceEqDiff] <;> omega) | (simp only [csF]; done) | (simp only [csF] <;> assumption) | fail) only [Nat.reduceEqDiff, Nat.reduceAdd, Nat.reduceMul, Nat.reduceSub, Nat.reduceLeDiff, Int.reduceAdd, Int.reduceSub, Int.reduceMul, Int.reduceLT, Int.reduceLE, Int.reduceGT, Int.reduceGE, Int.reduceEq, Int.reduceBEq, Int.reduceBNe, Int.reduceNeg, Int.reduceToNat, csAll, ↓reduceIte, C7_1, e7, e11, hlen]
          rfl
        · simp
        · exact ⟨rfl, gr⟩) M.keptI.length ⟨0, h11, by omega, rfl, .refl H⟩
  exact ⟨E', H', hr.symm.trans e, g1, fr⟩

/-- What stands behind the loop. -/
def C7tail : CCode := .seq (.region [⟨some 117, none, .mov (.tmp 5)⟩, ⟨some 118, none, .call 29 [(.tmp 117)]⟩, ⟨some 119, none, .bin .eql (.tmp 118) (.const (.int .i64 0))⟩, ⟨some 120, none, .mov (.tmp 119)⟩, ⟨some 121, some (120, true), .mov (.tmp 5)⟩, ⟨some 122, some (120, true), .call 28 [(.tmp 121)]⟩, ⟨some 123, some (120, true), .mov (.tmp 9)⟩, ⟨some 124, some (120, true), .call 26 [(.tmp 122), (.tmp 123)]⟩, ⟨some 125, none, .pick (.tmp 120) (.tmp 124) (.const (.bool false))⟩, ⟨some 126, none, .mov (.tmp 125)⟩, ⟨some 127, some (126, true), .call 13 []⟩, ⟨some 128, none, .pick (.tmp 126) (.tmp 127) (.const (.bool false))⟩, ⟨some 4, none, .mov (.tmp 128)⟩])
  .ret

theorem f7 {o : Tags} {H : CHeap} {v : CV} {l : List Stp} (hd : ∀ c t, o c = some t → c < H.length) (hg : ∀ c k, o c ≠ some (0, k)) (st : Steps o H v l) (nn : Int) :
    ∃ H', run P 7 [.i nn, v] H = some (.bool true, H') := by
  by_cases hok : (1 ≤ nn ∧ nn ≤ 4) ∧ l.length ≤ 120
  case neg =>
    obtain ⟨H1, e12⟩ := f12_no (H := H) (n := nn) st.len (by omega)
    obtain ⟨H2, e13⟩ := f13 (H := H1)
    apply ex_run
    rw [run_lv c7]
    simp (disch := first | omega | rfl | assumption | (simp only [csN, Nat.reduceAdd, Nat.reduceMul, Nat.reduceLeDiff, Nat.reduceEqDiff] <;> omega) | (simp only [csF]; done) | (simp only [csF] <;> assumption) | fail) only [Nat.reduceEqDiff, Nat.reduceAdd, Nat.reduceMul, Nat.reduceSub, Nat.reduceLeDiff, Int.reduceAdd, Int.reduceSub, Int.reduceMul, Int.reduceLT, Int.reduceLE, Int.reduceGT, Int.reduceGE, Int.reduceEq, Int.reduceBEq, Int.reduceBNe, Int.reduceNeg, Int.reduceToNat, csAll, ↓reduceIte, C7, entry_2, e12, e13]
    rfl
  obtain ⟨hn, hl⟩ := hok
  obtain ⟨n, rfl⟩ : ∃ n : Nat, nn = (n : Int) := ⟨nn.toNat, by omega⟩
  obtain ⟨b, H1, o1, L1, e12, m, fr1⟩ := f12 (g := 0) hd hg (n := n) (by omega) hl st
  obtain ⟨w, hob⟩ := madeM_ok (n := n) (by omega) l (by omega)
  generalize hM : madeM n l = M at *
  obtain ⟨w', hl'⟩ := collect_ok w
  obtain ⟨v6, H2, e28, g2, i2⟩ := f28 m w (by omega)
  have m2 := m.gr g2
  obtain ⟨v7, H3, e14, fr3, m3, a3⟩ := kept_frm m2 w
  obtain ⟨H4, o4, L4, e29, m4, fr4⟩ := f29 m3 w
  obtain ⟨v9, H5, e28', g5, i5⟩ := f28 m4 w' (by omega)
  have m5 := m4.gr g5
  obtain ⟨v33, H6, e14', fr6, m6, a6⟩ := kept_frm m5 w'
  have hkI := (kept_collect w).2
  rw [hkI] at a6
  -- all lists as they lie in H6
  have s6 := (((At.un' i2 m.dom).unFrm fr3).unFrm fr4).gr g5 |>.unFrm fr6
  have k6 := ((a3.unFrm fr4).gr g5).unFrm fr6
  have t6 := (At.un' i5 m4.dom).unFrm fr6
  have hkl := klen w
  have hsl := w.stlen (by omega)
  have hsl' := w'.stlen (by omega)
  have e26a := f26 a6 k6 (by omega)
  rw [decide_eq_true (rfl : M.keptI = M.keptI)] at e26a
  have e26b := f26 s6 t6 hsl
  obtain ⟨hn0, hn1⟩ := collect_num w
  have hcs := collect_state w
  have hlen7 := a3.len
  have e19 := f19 m6 w' (by omega) k6 (by rw [hl']; exact kid w)
  rw [hl'] at e19
  have fr7 : Frm 0 o4 H6 o4 (H6 ++ [(⟨bools (marks M.objs.length M.keptI), .rw, 1⟩ : Blk)]) := .app m6.dom _
  have m7 := m6.app [(⟨bools (marks M.objs.length M.keptI), .rw, 1⟩ : Blk)]
  have k7 := k6.unFrm fr7
  have t7 := t6.unFrm fr7
  have main : ∀ E3 : Env, E3 5 = .ptr b 0 → E3 7 = v7 → E3 9 = v9 → E3 10 = .slice H6.length 0 (M.objs.length + 1) (M.objs.length + 1) 1 false → E3 11 = .i 0 → ∃ Hf, lv C7.res (sq (blk 0 (den P (.loop C7_1) E3 (H6 ++ [(⟨bools (marks M.objs.length M.keptI), .rw, 1⟩ : Blk)]))) (fun E H => den P C7tail E H) ⟨⟩) = some (.bool true, Hf) := by
    intro E3 t5 t7' t9 t10 t11
    generalize hr : den P (.loop C7_1) _ _ = r
    obtain ⟨E4, H8, rfl, g8, k4⟩ := l7_1 w m7 (by omega) k7 rfl (look_last rfl) t5 t7' t10 t11 hr
    have j5 := (k4 5 (by decide +kernel)).trans t5
    have j9 := (k4 9 (by decide +kernel)).trans t9
    have m8 := m7.gr g8
    obtain ⟨H9, o9, L9, e29', m9, fr9⟩ := f29 m8 w'
    rw [collect_twice w] at e29' m9
    dsimp only at e29' m9
    obtain ⟨v122, H10, e28'', g10, i10⟩ := f28 m9 w' (by omega)
    have t10' := ((t7.gr g8).unFrm fr9).gr g10
    have e26c := f26 i10 t10' hsl'
    rw [decide_eq_true (rfl : M.collect.1.state = M.collect.1.state)] at e26c
    obtain ⟨Hf, ef⟩ := f13 (H := H10)
    apply ex_run
    simp (disch := first | omega | rfl | assumption | (simp only [csN, Nat.reduceAdd, Nat.reduceMul, Nat.reduceLeDiff, Nat.reduceEqDiff] <;> omega) | (simp only [csF]; done) | (simp only [csF] <;> assumption) | fail) only [Nat.reduceEqDiff, Nat.reduceAdd, Nat.reduceMul, Nat.reduceSub, Nat.reduceLeDiff, Int.reduceAdd, Int.reduceSub, Int.reduceMul, Int.reduceLT, Int.reduceLE, Int.reduceGT, Int.reduceGE, Int.reduceEq, Int.reduceBEq, Int.reduceBNe, Int.reduceNeg, Int.reduceToNat, csAll, ↓reduceIte, C7, C7tail, j5, j9, e29', e28'', e26c, ef] <;> rfl
  by_cases hz : M.collect.2 = 0
  · rw [hz] at e29
    rw [decide_eq_true (hcs.1 hz)] at e26b
    rw [run_lv c7]
    simp (disch := first | omega | rfl | assumption | (simp only [csN, Nat.reduceAdd, Nat.reduceMul, Nat.reduceLeDiff, Nat.reduceEqDiff] <;> omega) | (simp only [csF]; done) | (simp only [csF] <;> assumption) | fail) only [Nat.reduceEqDiff, Nat.reduceAdd, Nat.reduceMul, Nat.reduceSub, Nat.reduceLeDiff, Int.reduceAdd, Int.reduceSub, Int.reduceMul, Int.reduceLT, Int.reduceLE, Int.reduceGT, Int.reduceGE, Int.reduceEq, Int.reduceBEq, Int.reduceBNe, Int.reduceNeg, Int.reduceToNat, csAll, ↓reduceIte, C7, entry_2, e12, e28, e14, e29, e28', e14', e26a, e26b, hlen7, vEqv_bools, beq_self_eq_true, e19]
    refine main _ ?_ ?_ ?_ ?_ ?_
    all_goals simp only [upd_apply, Nat.reduceEqDiff, ↓reduceIte]
  · rw [decide_eq_false (fun h => hz (hcs.2 h))] at e26b
    rw [run_lv c7]
    simp (disch := first | omega | rfl | assumption | (simp only [csN, Nat.reduceAdd, Nat.reduceMul, Nat.reduceLeDiff, Nat.reduceEqDiff] <;> omega) | (simp only [csF]; done) | (simp only [csF] <;> assumption) | fail) only [Nat.reduceEqDiff, Nat.reduceAdd, Nat.reduceMul, Nat.reduceSub, Nat.reduceLeDiff, Int.reduceAdd, Int.reduceSub, Int.reduceMul, Int.reduceLT, Int.reduceLE, Int.reduceGT, Int.reduceGE, Int.reduceEq, Int.reduceBEq, Int.reduceBNe, Int.reduceNeg, Int.reduceToNat, csAll, ↓reduceIte, C7, entry_2, e12, e28, e14, e29, e28', e14', e26a, e26b, hlen7, vEqv_bools, hz, beq_self_eq_true, e19]
    refine main _ ?_ ?_ ?_ ?_ ?_
    all_goals simp only [upd_apply, Nat.reduceEqDiff, ↓reduceIte]
end Go.Cs.Try

/- The calls that a row's data hold. -/
namespace Go.Cs
open Go
abbrev stepKinds : List FK := List.replicate 13 (.int .i64)
theorem stp_of {x : List CV} (hx : x.length = 13) (h : ∀ (i : Nat) (k : FK), stepKinds[i]? = some k → ∃ c, x[i]? = some c ∧ k.fits c) : ∃ s : Stp, x = stpCells s := by
  obtain ⟨zs, hl, rfl⟩ := fits_i64 hx h
  match zs, hl with
  | [a, b, c, d, e, f, g, h, i, j, k, l, m], _ => exact ⟨⟨a, b, ⟨c, d, e, f, g, h, i, j⟩, k, l, m⟩, rfl⟩
theorem steps_of {H : CHeap} {cv : Nat → CV} {blk : Blk} {l : List (List CV)} (h : SlOf cv blk stepKinds l) {j : Nat} (hj : H[j]? = some blk) : ∃ l' : List Stp, Steps (fun _ => none) H (cv j) l' := by
  obtain ⟨h1, h2, h3⟩ := h
  obtain ⟨l', hl, hp⟩ := exists_fun (n := l.length) (p := fun i s => l[i]? = some (stpCells s)) fun i hi => by
    obtain ⟨e1, e2⟩ := h3 l[i] (List.getElem_mem _)
    obtain ⟨s, hs⟩ := stp_of e1 e2
    exact ⟨s, by rw [List.getElem?_eq_getElem hi, hs]⟩
  refine ⟨l', by rw [hl]; exact h1 j, fun hne => ?_⟩
  have hne' : l ≠ [] := by rintro rfl; exact hne (List.eq_nil_of_length_eq_zero hl)
  obtain ⟨⟨cap, -, q1⟩, q2, q3, q4⟩ := h2 hne'
  obtain ⟨cs, md, es⟩ := blk
  simp only at q2 q3
  refine ⟨j, cap, false, cs, by rw [hl]; exact q1 j, by rw [hj, q2, q3]; rfl, rfl, fun i x hx => ?_⟩
  exact q4 i _ (hp i x hx)
end Go.Cs

/- ModelCollects returns true for every input: after Collect no reference 0 of a kept Weak or Ephemeron leads to an object that is not kept, and no reference 1 of an Ephemeron is there without its reference 0; Kept is as before; a second Collect changes nothing. (At most 120 calls) Conditions: none. -/
namespace Go.Proofs.Ytnhblkjfpbhnnaa.modelCollects
open Go Go.Cs Go.ChangeShapes Go.WideShapes Go.ChangeAt Go.RowKit
set_option linter.unusedVariables false
theorem own : ownKnob Try.prog.godebug = none := by kernel_rfl
theorem laidOut : laidOutB Try.prog = true := by kernel_rfl
theorem follows : Try.prog.follows .mixedOrders = true := by kernel_rfl
set_option maxRecDepth 100000 in
theorem lifted (os : Os) (started : os.Started) (H : Type) (enc : TypeId × Value → H) :
    ReturnsInHanded {} Try.checked os 7 .any (Rows.modelCollectsSpec.pre6 enc Try.prog Try.f7 Rows.modelCollectsRow.domain false) (Rows.modelCollectsSpec.post enc Try.prog Try.f7 false true false false) := by
  refine returnsInHanded_of_change_sized (C := Try.checked) own started (by kernel_rfl) Try.func7
    (ChangeSpec.witness6 (enc := enc) (C := Try.checked) false ⟨#[], #[.int .i64 0, .slice none 0 0], []⟩ 8 (by kernel_rfl) (by kernel_rfl) (by kernel_rfl) (by kernel_rfl)) ?_
  intro W base args ds gs before hval0 hW hcnd hsz0 _
  have hval : ∀ (j : Nat) t v, Try.f7.params[j]? = some t → args[j]? = some v → Value.okWide Try.prog W .any base t v := hval0
  have hW' := hW
  obtain ⟨p, q, hA0, hV, rfl, hfz, hnd⟩ := hW
  have hA : DataW.TrodAll enc Try.prog W 0 (fun _ => true) true Try.f7.params.toList args.toList ds p := hA0
  rw [Try.params7] at hA hval
  clear hA0 hval0 hsz0 hcnd
  obtain ⟨v0, vs0, d0, ds0, p0, q0, hargs, rfl, rfl, h0, r0⟩ := trodAll_cons hA
  obtain ⟨v1, vs1, d1, ds1, p1, q1, rfl, rfl, rfl, h1, r1⟩ := trodAll_cons r0
  obtain ⟨rfl, rfl, rfl⟩ := trodAll_nil r1
  obtain rfl : args = #[v0, v1] := by cases args; simp_all
  obtain ⟨rfl, rfl⟩ := trodVars_none hV
  obtain ⟨x0, rfl, rfl, rfl, w0⟩ := open_int (k := .i64) (show Try.prog.underlying 3 = some (.int .i64) from by kernel_rfl) (hval 0 3 v0 rfl rfl) h0
  have lt1 : ∀ x ∈ p1, x.block < W.heap.size := by obtain ⟨m, hm⟩ := h1; exact DataW.trod_lt m _ _ _ hm
  obtain ⟨x1, b1, g1, l1, vx1, bk1, so1⟩ := open_flat (n := 6) (ks := stepKinds) (show Try.prog.underlying 22 = some (.slice 43) from by kernel_rfl) (by kernel_rfl) (by kernel_rfl) (by decide) (hval 1 22 v1 rfl rfl) h1
  obtain ⟨s1, st1⟩ := steps_of (H := [b1]) so1 (j := 0) rfl
  obtain ⟨H1, hrun⟩ : ∃ H1, run (cprog Try.prog) 7 [.i x0, x1 0] [b1] = some (.bool true, H1) := Go.Cs.Try.f7 (fun _ _ h => by cases h) (fun _ _ h => by cases h) st1 x0
  have hb : ∀ b blk, [b1][b]? = some blk → BlkOk W blk ([g1].getD b none) := by
    intro b blk hb
    match b, hb with
    | 0, hb => simp at hb; subst hb; exact bk1
    | n + 1, hb => simp at hb
  refine (run_calls follows (tgs := [g1]) (W := W) (args' := #[.int .i64 x0, v1]) rfl hb hrun ?_).mono fun e W' he => ?_
  · simp only [VL]
    exact ⟨_, _, rfl, by simp [V], ⟨_, _, rfl, vx1 0 _ rfl, rfl⟩⟩
  obtain ⟨⟨ν, v', rfl, hv'⟩, bel⟩ := he
  simp only [V] at hv'
  subst hv'
  exact ⟨_, rfl, _, _, _, [], _, [], hW', trodAll_mk1 (shut_bool (show Try.prog.underlying 4 = some .bool from by kernel_rfl) _), (trodAll_cons_mk (shut_int (show Try.prog.underlying 3 = some (.int .i64) from by kernel_rfl) w0) (trodAll_cons_mk (Below.trod laidOut (by kernel_rfl) (of_decide_eq_true (by kernel_rfl)) h1 bel lt1) trodAll_mk0)), rfl, bel.frame _, fun h => by cases h⟩
theorem over : Rows.modelCollectsRow.holds Try.pinned (OpenSpec.ofChange Rows.modelCollectsSpec) :=
  OpenClaim.holds_of_wide 7 Try.f7 rfl rfl rfl rfl rfl rfl rfl ⟨rfl, rfl, rfl, rfl, rfl⟩ rfl rfl rfl rfl rfl (by kernel_rfl) Try.func7 (by kernel_rfl)
    (of_decide_eq_true (by kernel_rfl)) (by unfold Func.isWrapper; first | (rw [if_pos (by decide +kernel)]; kernel_rfl) | (rw [if_neg (by decide +kernel)]; exact ⟨rfl, rfl⟩))
    (fun os started H enc _ => lifted os started H enc)
end Go.Proofs.Ytnhblkjfpbhnnaa.modelCollects
namespace Go.Proofs.Ytnhblkjfpbhnnaa
/-- The row. -/
theorem modelCollects_holds : Rows.ModelCollectsSaid := modelCollects.over
#print axioms modelCollects_holds
end Go.Proofs.Ytnhblkjfpbhnnaa
