/- ModelMore returns true for every input: with a further root, or a further reference of a plain object, no fewer objects are kept. (At most 120 calls) Conditions: none. -/
import Derived.Test.YtnhblkjfpbhnnaaMore3
import Derived.Test.YtnhblkjfpbhnnaaRows
import Derived.WalkKit
import Derived.ProofKit
import Derived.OpenShut
import Derived.ShutString
import Derived.ChangeOld
import Derived.Below
import Derived.SizedLaws
import Derived.Carry
set_option linter.unusedVariables false
set_option linter.unusedSimpArgs false
set_option linter.defProp false
/- ModelMore: its loops. -/
namespace Go.Cs.Try
open Go Go.Cs
set_option maxRecDepth 100000
section
variable {H : CHeap}

theorem l3_2 {o : Tags} {t : Tag} {v : CV} {l : List Int} {ks : List Bool} {ab : Nat} (hsz : l.length ≤ 1000000) (a : At o t H v 1 l.length (Go.Cs.ints l)) (hb : H[ab]? = some ⟨bools ks, .rw, 1⟩) (hl : ∀ u ∈ l, 0 ≤ u ∧ u.toNat < ks.length ∧ on ks u = true) (E0 : Env) :
    LoopOk P C3_2 (fun k E H' => H' = H ∧ E 18 = .slice ab 0 ks.length ks.length 1 false ∧ E 12 = v ∧ ∃ i : Nat, E 20 = .i i ∧ i ≤ l.length ∧ k = l.length - i ∧ ∀ t, t < 20 → E t = E0 t)
      (fun x E' H' => H' = H ∧ x = .exit 0 ∧ ∀ t, t < 20 → E' t = E0 t) := by
  refine loop_ind ?_
  rintro k E H' ⟨rfl, h18, h12, i, h20, hi, rfl, hE⟩
  have hlen := a.len
  by_cases c : i < l.length
  · obtain ⟨tl, d1, -, d3, d4⟩ := a.pos (by omega)
    have hg : (Go.Cs.ints l)[i]? = some (.i l[i]) := by rw [ints_get, List.getElem?_eq_getElem c]; rfl
    obtain ⟨u1, u2, u3⟩ := hl l[i] (List.getElem_mem _)
    have hk := on_get (ks := ks) (v := l[i]) u2
    rw [u3] at hk
    have hw : IntKind.i64.wrap ((i : Int) + 1) = ((i + 1 : Nat) : Int) := by rw [wrap_id (by omega)]; rfl
    have h12' := h12
    rw [d1] at h12' hlen
    apply step_go (k' := l.length - (i + 1))
    · simp (disch := first | omega | rfl | assumption | (simp only [csN, Nat.reduceAdd, Nat.reduceMul, Nat.reduceLeDiff, Nat.reduceEqDiff] <;> omega) | (simp only [csF]; done) | (simp only [csF] <;> assumption) | fail) only [Nat.reduceEqDiff, Nat.reduceAdd, Nat.reduceMul, Nat.reduceSub, Nat.reduceLeDiff, Int.reduceAdd, Int.reduceSub, Int.reduceMul, Int.reduceLT, Int.reduceLE, Int.reduceGT, Int.reduceGE, Int.reduceEq, Int.reduceBEq, Int.reduceBNe, Int.reduceNeg, Int.reduceToNat, csAll, ↓reduceIte, C3_2, h18, h12', h20, hlen, d3, hg, hb, hk, hw]
      rfl
    · omega
    · refine ⟨rfl, by simp [upd_apply, h18], by simp [upd_apply, h12], i + 1, by simp [upd_apply], by omega, rfl, fun t ht => ?_⟩
      simp only [upd_apply]
      repeat rw [if_neg (by omega)]
      exact hE t ht
  · apply step_out (x := .exit 0)
    · simp (disch := first | omega | rfl | assumption | (simp only [csN, Nat.reduceAdd, Nat.reduceMul, Nat.reduceLeDiff, Nat.reduceEqDiff] <;> omega) | (simp only [csF]; done) | (simp only [csF] <;> assumption) | fail) only [Nat.reduceEqDiff, Nat.reduceAdd, Nat.reduceMul, Nat.reduceSub, Nat.reduceLeDiff, Int.reduceAdd, Int.reduceSub, Int.reduceMul, Int.reduceLT, Int.reduceLE, Int.reduceGT, Int.reduceGE, Int.reduceEq, Int.reduceBEq, Int.reduceBNe, Int.reduceNeg, Int.reduceToNat, csAll, ↓reduceIte, C3_2, h12, h20, hlen]
      rfl
    · simp
    · refine ⟨rfl, rfl, fun t ht => ?_⟩
      simp only [upd_apply]
      repeat rw [if_neg (by omega)]
      exact hE t ht

theorem l3_1 {o : Tags} {t : Tag} {v : CV} {l : List Int} {ks : List Bool} {ab : Nat} (hsz : l.length ≤ 1000000) (a : At o t H v 1 l.length (Go.Cs.ints l)) (hb : H[ab]? = some ⟨bools ks, .rw, 1⟩) (hl : ∀ u ∈ l, 0 ≤ u ∧ u.toNat < ks.length ∧ on ks u = true) :
    LoopOk P C3_1 (fun k E H' => H' = H ∧ E 19 = .slice ab 0 ks.length ks.length 1 false ∧ E 17 = v ∧ ∃ i : Nat, E 21 = .i i ∧ i ≤ l.length ∧ k = l.length - i)
      (fun x E' H' => H' = H ∧ x = .exit 2) := by
  refine loop_ind ?_
  rintro k E H' ⟨rfl, h18, h12, i, h20, hi, rfl⟩
  have hlen := a.len
  by_cases c : i < l.length
  · obtain ⟨tl, d1, -, d3, d4⟩ := a.pos (by omega)
    have hg : (Go.Cs.ints l)[i]? = some (.i l[i]) := by rw [ints_get, List.getElem?_eq_getElem c]; rfl
    obtain ⟨u1, u2, u3⟩ := hl l[i] (List.getElem_mem _)
    have hk := on_get (ks := ks) (v := l[i]) u2
    rw [u3] at hk
    have hw : IntKind.i64.wrap ((i : Int) + 1) = ((i + 1 : Nat) : Int) := by rw [wrap_id (by omega)]; rfl
    have h12' := h12
    rw [d1] at h12' hlen
    apply step_go (k' := l.length - (i + 1))
    · simp (disch := first | omega | rfl | assumption | (simp only [csN, Nat.reduceAdd, Nat.reduceMul, Nat.reduceLeDiff, Nat.reduceEqDiff] <;> omega) | (simp only [csF]; done) | (simp only [csF] <;> assumption) | fail) only [Nat.reduceEqDiff, Nat.reduceAdd, Nat.reduceMul, Nat.reduceSub, Nat.reduceLeDiff, Int.reduceAdd, Int.reduceSub, Int.reduceMul, Int.reduceLT, Int.reduceLE, Int.reduceGT, Int.reduceGE, Int.reduceEq, Int.reduceBEq, Int.reduceBNe, Int.reduceNeg, Int.reduceToNat, csAll, ↓reduceIte, C3_1, h18, h12', h20, hlen, d3, hg, hb, hk, hw]
      rfl
    · omega
    · exact ⟨rfl, by simp [upd_apply, h18], by simp [upd_apply, h12], i + 1, by simp [upd_apply], by omega, rfl⟩
  · apply step_out (x := .exit 2)
    · simp (disch := first | omega | rfl | assumption | (simp only [csN, Nat.reduceAdd, Nat.reduceMul, Nat.reduceLeDiff, Nat.reduceEqDiff] <;> omega) | (simp only [csF]; done) | (simp only [csF] <;> assumption) | fail) only [Nat.reduceEqDiff, Nat.reduceAdd, Nat.reduceMul, Nat.reduceSub, Nat.reduceLeDiff, Int.reduceAdd, Int.reduceSub, Int.reduceMul, Int.reduceLT, Int.reduceLE, Int.reduceGT, Int.reduceGE, Int.reduceEq, Int.reduceBEq, Int.reduceBNe, Int.reduceNeg, Int.reduceToNat, csAll, ↓reduceIte, C3_1, h12, h20, hlen]
      rfl
    · simp
    · exact ⟨rfl, rfl⟩
end
end Go.Cs.Try

/- ModelMore, plainly: with more, no less is kept. -/
namespace Go.Cs
open Go
theorem mem_keptI {M : Mdl} (w : M.Ok) {v : Int} : v ∈ M.keptI ↔ Kp M v := by
  unfold Mdl.keptI idxs
  simp only [List.mem_map, List.mem_filter, List.mem_range]
  have hg : ∀ i, i < M.objs.length + 1 → (M.keptL.getD i false = true ↔ Kp M (i : Int)) := by
    intro i hi
    unfold Mdl.keptL
    rw [List.getD_eq_getElem?_getD, List.getElem?_map, List.getElem?_range hi]
    simp
  constructor
  · rintro ⟨i, ⟨h1, h2⟩, rfl⟩
    exact (hg i h1).1 h2
  · intro h
    have hh := Kp.has w h
    unfold Mdl.has at hh
    refine ⟨v.toNat, ⟨by omega, ?_⟩, by omega⟩
    rw [hg v.toNat (by omega)]
    have : ((v.toNat : Nat) : Int) = v := by omega
    rw [this]; exact h

theorem Kp.push {M : Mdl} {n v : Int} (h : Kp M v) : Kp (M.push n).1 v := by
  unfold Mdl.push
  split
  · split
    · exact h
    · induction h with
      | root h hz =>
        refine .root ?_ hz
        unfold Mdl.places at h ⊢
        simp only [List.mem_append] at h ⊢
        rcases h with (h | h) | h
        · exact .inl (.inl h)
        · exact .inl (.inr h)
        · exact .inr (.inl h)
      | strong _ h hz ih => exact .strong ih h hz
      | eph _ h1 _ hz ih ih2 => exact .eph ih h1 ih2 hz
  · exact h

theorem setObj_obj {M : Mdl} {n k : Int} (hn : M.has n) (hk : 1 ≤ k) {x : Obj} : (M.setObj n x).obj k = if k = n then x else M.obj k := by
  unfold Mdl.has at hn
  unfold Mdl.setObj Mdl.obj
  simp only [List.getD_eq_getElem?_getD]
  by_cases h : k = n
  · subst h
    rw [if_pos rfl, List.getElem?_set_self (by omega)]; rfl
  · rw [if_neg h, List.getElem?_set_ne (by omega)]

theorem Kp.setRef {M : Mdl} (w : M.Ok) {n i to v : Int} (hn : M.has n) (hk : (M.obj n).kd = 0) (hz : elAt (M.obj n).refs i = (0, 0)) (h : Kp M v) : Kp (M.setRef n i to).1 v := by
  have hi : 0 ≤ i ∧ i < ((M.obj n).refs.length : Int) ∧ (M.obj n).refs.getD i.toNat 0 = 0 := by
    unfold elAt at hz
    split at hz
    · rename_i h
      simp only [Prod.mk.injEq] at hz
      exact ⟨h.1, h.2, hz.1⟩
    · simp at hz
  unfold Mdl.setRef
  rw [if_pos hn]
  split
  · dsimp only
    induction h with
    | root h hz => exact .root h hz
    | @strong k u h hu hz ih =>
      have hh := Kp.has w h
      have hob := setObj_obj (M := M) (k := k) hn hh.1 (x := { M.obj n with refs := (M.obj n).refs.set i.toNat to })
      refine .strong ih ?_ hz
      rw [hob]
      by_cases e : k = n
      · subst e
        rw [if_pos rfl]
        show u ∈ ((M.obj k).refs.set i.toNat to).drop (soft (M.obj k).kd)
        have hs : soft (M.obj k).kd = 0 := by unfold soft; rw [hk]; rfl
        rw [hs] at hu ⊢
        simp only [List.drop_zero] at hu ⊢
        obtain ⟨j, hj, rfl⟩ := List.mem_iff_getElem.1 hu
        have hne : j ≠ i.toNat := by
          rintro rfl
          apply hz
          have := hi.2.2
          rw [List.getD_eq_getElem?_getD, List.getElem?_eq_getElem hj] at this
          exact this
        refine List.mem_iff_getElem.2 ⟨j, by simpa using hj, ?_⟩
        rw [List.getElem_set_ne (Ne.symm hne)]
      · rw [if_neg e]; exact hu
    | @eph k h h1 _ hz ih ih2 =>
      have hh := Kp.has w h
      have hob := setObj_obj (M := M) (k := k) hn hh.1 (x := { M.obj n with refs := (M.obj n).refs.set i.toNat to })
      have hne : k ≠ n := by rintro rfl; rw [hk] at h1; omega
      rw [if_neg hne] at hob
      have := Kp.eph (M := M.setObj n { M.obj n with refs := (M.obj n).refs.set i.toNat to }) ih (by rw [hob]; exact h1) (by rw [hob]; exact ih2) (by rw [hob]; exact hz)
      rw [hob] at this
      exact this
  · exact h
end Go.Cs

/- ModelMore: what is kept in the middle and at the end. -/
namespace Go.Cs.Try
open Go Go.Cs
set_option maxRecDepth 100000
section
variable {o : Tags} {g : Nat} {b : Nat} {M : Mdl} {L : Lay} {H : CHeap}

theorem Mdl.push_len {M : Mdl} {n : Int} : (M.push n).1.objs = M.objs := by
  unfold Mdl.push
  split
  · split <;> rfl
  · rfl

theorem tail3 (m : MRep o g H b M L) (w : M.Ok) (ident : Int) :
    ∃ v17 K1 H2 v71 K2 o2, run P 14 [.ptr b 0] H = some (v17, K1) ∧ run P 18 [.ptr b 0, .i ident] K1 = some (.i (M.push ident).2, H2) ∧
      run P 19 [.ptr b 0, v17] H2 = some (.slice H2.length 0 (M.objs.length + 1) (M.objs.length + 1) 1 false, H2 ++ [⟨bools (marks M.objs.length M.keptI), .rw, 1⟩]) ∧
      run P 14 [.ptr b 0] (H2 ++ [⟨bools (marks M.objs.length M.keptI), .rw, 1⟩]) = some (v71, K2) ∧
      run P 19 [.ptr b 0, v71] K2 = some (.slice K2.length 0 (M.objs.length + 1) (M.objs.length + 1) 1 false, K2 ++ [⟨bools (marks M.objs.length (M.push ident).1.keptI), .rw, 1⟩]) ∧
      Frm g o H o2 (K2 ++ [⟨bools (marks M.objs.length (M.push ident).1.keptI), .rw, 1⟩]) ∧ At (Un o2) z3 (K2 ++ [⟨bools (marks M.objs.length (M.push ident).1.keptI), .rw, 1⟩]) v17 1 M.keptI.length (Go.Cs.ints M.keptI) ∧
      (K2 ++ [⟨bools (marks M.objs.length (M.push ident).1.keptI), .rw, 1⟩])[H2.length]? = some ⟨bools (marks M.objs.length M.keptI), .rw, 1⟩ := by
  have hfew := w.few
  have hid : ∀ {M : Mdl}, M.Ok → ∀ v ∈ M.keptI, 0 ≤ v ∧ v ≤ (M.objs.length : Int) := fun w v hv => by
    have := Kp.has w ((mem_keptI w).1 hv)
    unfold Mdl.has at this; omega
  have hkl : ∀ {M : Mdl}, M.Ok → M.keptI.length ≤ 1000000 := fun {M} w => by
    have := idxs_len (ks := M.keptL) (i := M.objs.length + 1)
    have := w.few
    unfold Mdl.keptI; omega
  obtain ⟨v17, K1, d1, gr1, m1, q1⟩ := kept_frm m w
  obtain ⟨H2, o2, L2, d2, m2, fr2⟩ := f18 m1 w ident
  have w2 := w.push ident
  have hpl := Mdl.push_len (M := M) (n := ident)
  have q2 := q1.unFrm fr2
  have d3 := f19 m2 w2 (hkl w) q2 (by rw [hpl]; exact hid w)
  have m3 := m2.app [⟨bools (marks M.objs.length M.keptI), .rw, 1⟩]
  have fr3 : Frm g o2 H2 o2 (H2 ++ [⟨bools (marks M.objs.length M.keptI), .rw, 1⟩]) := Frm.app m2.dom _
  obtain ⟨v71, K2, d4, gr4, m4, q4⟩ := kept_frm m3 w2
  have d5 := f19 m4 w2 (hkl w2) q4 (hid w2)
  rw [hpl] at d3 d5
  have fr5 : Frm g o2 K2 o2 (K2 ++ [⟨bools (marks M.objs.length (M.push ident).1.keptI), .rw, 1⟩]) := Frm.app m4.dom _
  have hfree : o2 H2.length = none := by
    cases h : o2 H2.length with
    | none => rfl
    | some t => have := m2.dom _ _ h; omega
  have hx := ((gr4.trans fr5).kept (c := H2.length) (k := ⟨bools (marks M.objs.length M.keptI), .rw, 1⟩) (by simp) hfree).1
  exact ⟨v17, K1, H2, v71, K2, o2, d1, d2, d3, d4, d5, (((gr1.trans fr2).trans fr3).trans gr4).trans fr5, ((q2.unFrm fr3).unFrm gr4).unFrm fr5, hx⟩
end
end Go.Cs.Try

/- ModelMore: the walk. -/
namespace Go.Cs
open Go
theorem kid {M : Mdl} (w : M.Ok) : ∀ v ∈ M.keptI, 0 ≤ v ∧ v ≤ (M.objs.length : Int) := fun v hv => by
  have := Kp.has w ((mem_keptI w).1 hv)
  unfold Mdl.has at this; omega
theorem klen {M : Mdl} (w : M.Ok) : M.keptI.length ≤ 1000000 := by
  have := idxs_len (ks := M.keptL) (i := M.objs.length + 1)
  have := w.few
  unfold Mdl.keptI; omega
end Go.Cs
namespace Go.Cs.Try
open Go Go.Cs
set_option maxRecDepth 100000
set_option maxHeartbeats 8000000
theorem f3 {o : Tags} {H : CHeap} {v : CV} {l : List Stp} (hd : ∀ c t, o c = some t → c < H.length) (hg : ∀ c k, o c ≠ some (0, k)) (st : Steps o H v l) (nn ident of i : Int) :
    ∃ H', run P 3 [.i nn, v, .i ident, .i of, .i i] H = some (.bool true, H') := by
  by_cases hok : (1 ≤ nn ∧ nn ≤ 4) ∧ l.length ≤ 120
  case neg =>
    obtain ⟨H1, e12⟩ := f12_no (H := H) (n := nn) st.len (by omega)
    obtain ⟨H2, e13⟩ := f13 (H := H1)
    apply ex_run
    rw [run_lv c3]
    simp (disch := first | omega | rfl | assumption | (simp only [csN, Nat.reduceAdd, Nat.reduceMul, Nat.reduceLeDiff, Nat.reduceEqDiff] <;> omega) | (simp only [csF]; done) | (simp only [csF] <;> assumption) | fail) only [Nat.reduceEqDiff, Nat.reduceAdd, Nat.reduceMul, Nat.reduceSub, Nat.reduceLeDiff, Int.reduceAdd, Int.reduceSub, Int.reduceMul, Int.reduceLT, Int.reduceLE, Int.reduceGT, Int.reduceGE, Int.reduceEq, Int.reduceBEq, Int.reduceBNe, Int.reduceNeg, Int.reduceToNat, csAll, ↓reduceIte, C3, entry_5, e12, e13]
    rfl
  obtain ⟨hn, hl⟩ := hok
  obtain ⟨n, rfl⟩ : ∃ n : Nat, nn = (n : Int) := ⟨nn.toNat, by omega⟩
  obtain ⟨b, H1, o1, L1, e12, m, -⟩ := f12 (g := 0) hd hg (n := n) (by omega) hl st
  obtain ⟨w, -⟩ := madeM_ok (n := n) (by omega) l (by omega)
  obtain ⟨v12, K1, e14, -, mK, q12⟩ := kept_frm m w
  have e15 := f15 mK w of
  have hsa : ∀ H : CHeap, Frm 0 o1 K1 o1 (K1 ++ H) := fun J => Frm.app mK.dom J
  have sh : (madeM n l).has of → (madeM n l).shapeAt of = ((((madeM n l).obj of).nr, ((madeM n l).obj of).nd, ((madeM n l).obj of).kd), 0) := fun h => by unfold Mdl.shapeAt; rw [if_pos h]
  have sn : ¬ (madeM n l).has of → (madeM n l).shapeAt of = ((0, 0, 0), 4) := fun h => by unfold Mdl.shapeAt; rw [if_neg h]
  by_cases hh : (madeM n l).has of
  case neg =>
    rw [sn hh] at e15
    simp only [shape3] at e15
    have mQ := (mK.app [⟨[.i 0, .i 0, .i 0], .rw, 0⟩]).app [⟨[.i 0, .i 0, .i 0], .rw, 0⟩]
    have qQ := (q12.app [⟨[.i 0, .i 0, .i 0], .rw, 0⟩]).app [⟨[.i 0, .i 0, .i 0], .rw, 0⟩]
    obtain ⟨v17, K2, H2, v71, K3, o2, t1, t2, t3, t4, t5, fr, a17, hx⟩ := tail3 mQ w ident
    have a12 := (qQ).unFrm fr
    have hlast : (K3 ++ [⟨bools (marks (madeM n l).objs.length ((madeM n l).push ident).1.keptI), .rw, 1⟩])[K3.length]? = some ⟨bools (marks (madeM n l).objs.length ((madeM n l).push ident).1.keptI), .rw, 1⟩ := by simp
    obtain ⟨Hf, ef⟩ := f13 (H := K3 ++ [⟨bools (marks (madeM n l).objs.length ((madeM n l).push ident).1.keptI), .rw, 1⟩])
    have hl1 : ∀ u ∈ (madeM n l).keptI, 0 ≤ u ∧ u.toNat < (marks (madeM n l).objs.length (madeM n l).keptI).length ∧ on (marks (madeM n l).objs.length (madeM n l).keptI) u = true := fun u hu => by
      have h1 : Kp (madeM n l) u := id ((mem_keptI w).1 hu)
      have h2 := Kp.has w h1
      unfold Mdl.has at h2
      exact ⟨by omega, by rw [marks_len]; omega, (marks_on (kid w) (by omega)).2 ((mem_keptI w).2 h1)⟩
    have hl2 : ∀ u ∈ (madeM n l).keptI, 0 ≤ u ∧ u.toNat < (marks (madeM n l).objs.length ((madeM n l).push ident).1.keptI).length ∧ on (marks (madeM n l).objs.length ((madeM n l).push ident).1.keptI) u = true := fun u hu => by
      have h1 : Kp (madeM n l) u := (mem_keptI w).1 hu
      have h2 := Kp.has w h1
      unfold Mdl.has at h2
      have h3 := kid (w.push ident)
      rw [Mdl.push_len] at h3
      exact ⟨by omega, by rw [marks_len]; omega, (marks_on h3 (by omega)).2 ((mem_keptI (w.push ident)).2 h1.push)⟩
    rw [run_lv c3]
    simp (config := { maxSteps := 2000000 }) (disch := first | omega | rfl | assumption | (simp only [csN, Nat.reduceAdd, Nat.reduceMul, Nat.reduceLeDiff, Nat.reduceEqDiff] <;> omega) | (simp only [csF]; done) | (simp only [csF] <;> assumption) | fail) only [Nat.reduceEqDiff, Nat.reduceAdd, Nat.reduceMul, Nat.reduceSub, Nat.reduceLeDiff, Int.reduceAdd, Int.reduceSub, Int.reduceMul, Int.reduceLT, Int.reduceLE, Int.reduceGT, Int.reduceGE, Int.reduceEq, Int.reduceBEq, Int.reduceBNe, Int.reduceNeg, Int.reduceToNat, csAll, ↓reduceIte, C3, entry_5, e12, e14, e15, t1, t2, t3, t4, t5]
    generalize hr : den P (.loop C3_2) _ _ = r
    obtain ⟨x, E1, H3, rfl, -, rfl, rfl, hE⟩ := (l3_2 (klen w) a12 hx hl1 _).at hr _
      ⟨rfl, by simp only [upd_apply, Nat.reduceEqDiff, ↓reduceIte, marks_len], by simp only [upd_apply, Nat.reduceEqDiff, ↓reduceIte], 0, by simp only [upd_apply, Nat.reduceEqDiff, ↓reduceIte]; rfl, by omega, rfl, fun t ht => rfl⟩
    have e19 := hE 19 (by omega)
    have e17 := hE 17 (by omega)
    simp only [upd_apply, Nat.reduceEqDiff, ↓reduceIte] at e19 e17
    simp (config := { maxSteps := 2000000 }) (disch := first | omega | rfl | assumption | (simp only [csN, Nat.reduceAdd, Nat.reduceMul, Nat.reduceLeDiff, Nat.reduceEqDiff] <;> omega) | (simp only [csF]; done) | (simp only [csF] <;> assumption) | fail) only [Nat.reduceEqDiff, Nat.reduceAdd, Nat.reduceMul, Nat.reduceSub, Nat.reduceLeDiff, Int.reduceAdd, Int.reduceSub, Int.reduceMul, Int.reduceLT, Int.reduceLE, Int.reduceGT, Int.reduceGE, Int.reduceEq, Int.reduceBEq, Int.reduceBNe, Int.reduceNeg, Int.reduceToNat, csAll, ↓reduceIte]
    generalize hr2 : den (cprog Go.Proofs.Try.prog) (.loop C3_1) _ _ = r2
    obtain ⟨x, E2, H4, rfl, -, rfl, rfl⟩ := (l3_1 (klen w) a17 hlast hl2).at hr2 _
      ⟨rfl, by simp only [upd_apply, Nat.reduceEqDiff, ↓reduceIte, marks_len]; exact e19, by simp only [upd_apply, Nat.reduceEqDiff, ↓reduceIte]; exact e17, 0, by simp only [upd_apply, Nat.reduceEqDiff, ↓reduceIte]; rfl, by omega, rfl⟩
    apply ex_run
    simp (config := { maxSteps := 2000000 }) (disch := first | omega | rfl | assumption | (simp only [csN, Nat.reduceAdd, Nat.reduceMul, Nat.reduceLeDiff, Nat.reduceEqDiff] <;> omega) | (simp only [csF]; done) | (simp only [csF] <;> assumption) | fail) only [Nat.reduceEqDiff, Nat.reduceAdd, Nat.reduceMul, Nat.reduceSub, Nat.reduceLeDiff, Int.reduceAdd, Int.reduceSub, Int.reduceMul, Int.reduceLT, Int.reduceLE, Int.reduceGT, Int.reduceGE, Int.reduceEq, Int.reduceBEq, Int.reduceBNe, Int.reduceNeg, Int.reduceToNat, csAll, ↓reduceIte, ef]
    rfl
  rw [sh hh] at e15
  simp only [shape3] at e15
  generalize hx : (madeM n l).obj of = xx at *
  have mQ := (mK.app [⟨[.i xx.nr, .i xx.nd, .i xx.kd], .rw, 0⟩]).app [⟨[.i xx.nr, .i xx.nd, .i xx.kd], .rw, 0⟩]
  have qQ := (q12.app [⟨[.i xx.nr, .i xx.nd, .i xx.kd], .rw, 0⟩]).app [⟨[.i xx.nr, .i xx.nd, .i xx.kd], .rw, 0⟩]
  by_cases hkd : xx.kd = 0
  case neg =>
    obtain ⟨v17, K2, H2, v71, K3, o2, t1, t2, t3, t4, t5, fr, a17, hx⟩ := tail3 mQ w ident
    have a12 := (qQ).unFrm fr
    have hlast : (K3 ++ [⟨bools (marks (madeM n l).objs.length ((madeM n l).push ident).1.keptI), .rw, 1⟩])[K3.length]? = some ⟨bools (marks (madeM n l).objs.length ((madeM n l).push ident).1.keptI), .rw, 1⟩ := by simp
    obtain ⟨Hf, ef⟩ := f13 (H := K3 ++ [⟨bools (marks (madeM n l).objs.length ((madeM n l).push ident).1.keptI), .rw, 1⟩])
    have hl1 : ∀ u ∈ (madeM n l).keptI, 0 ≤ u ∧ u.toNat < (marks (madeM n l).objs.length (madeM n l).keptI).length ∧ on (marks (madeM n l).objs.length (madeM n l).keptI) u = true := fun u hu => by
      have h1 : Kp (madeM n l) u := id ((mem_keptI w).1 hu)
      have h2 := Kp.has w h1
      unfold Mdl.has at h2
      exact ⟨by omega, by rw [marks_len]; omega, (marks_on (kid w) (by omega)).2 ((mem_keptI w).2 h1)⟩
    have hl2 : ∀ u ∈ (madeM n l).keptI, 0 ≤ u ∧ u.toNat < (marks (madeM n l).objs.length ((madeM n l).push ident).1.keptI).length ∧ on (marks (madeM n l).objs.length ((madeM n l).push ident).1.keptI) u = true := fun u hu => by
      have h1 : Kp (madeM n l) u := (mem_keptI w).1 hu
      have h2 := Kp.has w h1
      unfold Mdl.has at h2
      have h3 := kid (w.push ident)
      rw [Mdl.push_len] at h3
      exact ⟨by omega, by rw [marks_len]; omega, (marks_on h3 (by omega)).2 ((mem_keptI (w.push ident)).2 h1.push)⟩
    rw [run_lv c3]
    simp (config := { maxSteps := 2000000 }) (disch := first | omega | rfl | assumption | (simp only [csN, Nat.reduceAdd, Nat.reduceMul, Nat.reduceLeDiff, Nat.reduceEqDiff] <;> omega) | (simp only [csF]; done) | (simp only [csF] <;> assumption) | fail) only [Nat.reduceEqDiff, Nat.reduceAdd, Nat.reduceMul, Nat.reduceSub, Nat.reduceLeDiff, Int.reduceAdd, Int.reduceSub, Int.reduceMul, Int.reduceLT, Int.reduceLE, Int.reduceGT, Int.reduceGE, Int.reduceEq, Int.reduceBEq, Int.reduceBNe, Int.reduceNeg, Int.reduceToNat, csAll, ↓reduceIte, C3, entry_5, e12, e14, e15, t1, t2, t3, t4, t5]
    generalize hr : den P (.loop C3_2) _ _ = r
    obtain ⟨x, E1, H3, rfl, -, rfl, rfl, hE⟩ := (l3_2 (klen w) a12 hx hl1 _).at hr _
      ⟨rfl, by simp only [upd_apply, Nat.reduceEqDiff, ↓reduceIte, marks_len], by simp only [upd_apply, Nat.reduceEqDiff, ↓reduceIte], 0, by simp only [upd_apply, Nat.reduceEqDiff, ↓reduceIte]; rfl, by omega, rfl, fun t ht => rfl⟩
    have e19 := hE 19 (by omega)
    have e17 := hE 17 (by omega)
    simp only [upd_apply, Nat.reduceEqDiff, ↓reduceIte] at e19 e17
    simp (config := { maxSteps := 2000000 }) (disch := first | omega | rfl | assumption | (simp only [csN, Nat.reduceAdd, Nat.reduceMul, Nat.reduceLeDiff, Nat.reduceEqDiff] <;> omega) | (simp only [csF]; done) | (simp only [csF] <;> assumption) | fail) only [Nat.reduceEqDiff, Nat.reduceAdd, Nat.reduceMul, Nat.reduceSub, Nat.reduceLeDiff, Int.reduceAdd, Int.reduceSub, Int.reduceMul, Int.reduceLT, Int.reduceLE, Int.reduceGT, Int.reduceGE, Int.reduceEq, Int.reduceBEq, Int.reduceBNe, Int.reduceNeg, Int.reduceToNat, csAll, ↓reduceIte]
    generalize hr2 : den (cprog Go.Proofs.Try.prog) (.loop C3_1) _ _ = r2
    obtain ⟨x, E2, H4, rfl, -, rfl, rfl⟩ := (l3_1 (klen w) a17 hlast hl2).at hr2 _
      ⟨rfl, by simp only [upd_apply, Nat.reduceEqDiff, ↓reduceIte, marks_len]; exact e19, by simp only [upd_apply, Nat.reduceEqDiff, ↓reduceIte]; exact e17, 0, by simp only [upd_apply, Nat.reduceEqDiff, ↓reduceIte]; rfl, by omega, rfl⟩
    apply ex_run
    simp (config := { maxSteps := 2000000 }) (disch := first | omega | rfl | assumption | (simp only [csN, Nat.reduceAdd, Nat.reduceMul, Nat.reduceLeDiff, Nat.reduceEqDiff] <;> omega) | (simp only [csF]; done) | (simp only [csF] <;> assumption) | fail) only [Nat.reduceEqDiff, Nat.reduceAdd, Nat.reduceMul, Nat.reduceSub, Nat.reduceLeDiff, Int.reduceAdd, Int.reduceSub, Int.reduceMul, Int.reduceLT, Int.reduceLE, Int.reduceGT, Int.reduceGE, Int.reduceEq, Int.reduceBEq, Int.reduceBNe, Int.reduceNeg, Int.reduceToNat, csAll, ↓reduceIte, ef]
    rfl
  have e16 := f16 mQ w of i
  have hr : (madeM n l).refAt of i = elAt xx.refs i := by unfold Mdl.refAt; rw [if_pos hh, hx]
  rw [hr] at e16
  by_cases hz : elAt xx.refs i = (0, 0)
  case neg =>
    have hel : (elAt xx.refs i).2 ≠ 0 ∨ (elAt xx.refs i).2 = 0 ∧ (elAt xx.refs i).1 ≠ 0 := by
      by_cases h2 : (elAt xx.refs i).2 = 0
      · exact .inr ⟨h2, fun h1 => hz (Prod.ext h1 h2)⟩
      · exact .inl h2
    simp only [pair2] at e16
    generalize (elAt xx.refs i).1 = r1 at *
    generalize (elAt xx.refs i).2 = r2 at *
    rcases hel with hel | ⟨hel, hel'⟩
    all_goals (
    obtain ⟨v17, K2, H2, v71, K3, o2, t1, t2, t3, t4, t5, fr, a17, hx⟩ := tail3 mQ w ident
    have a12 := (qQ).unFrm fr
    have hlast : (K3 ++ [⟨bools (marks (madeM n l).objs.length ((madeM n l).push ident).1.keptI), .rw, 1⟩])[K3.length]? = some ⟨bools (marks (madeM n l).objs.length ((madeM n l).push ident).1.keptI), .rw, 1⟩ := by simp
    obtain ⟨Hf, ef⟩ := f13 (H := K3 ++ [⟨bools (marks (madeM n l).objs.length ((madeM n l).push ident).1.keptI), .rw, 1⟩])
    have hl1 : ∀ u ∈ (madeM n l).keptI, 0 ≤ u ∧ u.toNat < (marks (madeM n l).objs.length (madeM n l).keptI).length ∧ on (marks (madeM n l).objs.length (madeM n l).keptI) u = true := fun u hu => by
      have h1 : Kp (madeM n l) u := id ((mem_keptI w).1 hu)
      have h2 := Kp.has w h1
      unfold Mdl.has at h2
      exact ⟨by omega, by rw [marks_len]; omega, (marks_on (kid w) (by omega)).2 ((mem_keptI w).2 h1)⟩
    have hl2 : ∀ u ∈ (madeM n l).keptI, 0 ≤ u ∧ u.toNat < (marks (madeM n l).objs.length ((madeM n l).push ident).1.keptI).length ∧ on (marks (madeM n l).objs.length ((madeM n l).push ident).1.keptI) u = true := fun u hu => by
      have h1 : Kp (madeM n l) u := (mem_keptI w).1 hu
      have h2 := Kp.has w h1
      unfold Mdl.has at h2
      have h3 := kid (w.push ident)
      rw [Mdl.push_len] at h3
      exact ⟨by omega, by rw [marks_len]; omega, (marks_on h3 (by omega)).2 ((mem_keptI (w.push ident)).2 h1.push)⟩
    rw [run_lv c3]
    simp (config := { maxSteps := 2000000 }) (disch := first | omega | rfl | assumption | (simp only [csN, Nat.reduceAdd, Nat.reduceMul, Nat.reduceLeDiff, Nat.reduceEqDiff] <;> omega) | (simp only [csF]; done) | (simp only [csF] <;> assumption) | fail) only [Nat.reduceEqDiff, Nat.reduceAdd, Nat.reduceMul, Nat.reduceSub, Nat.reduceLeDiff, Int.reduceAdd, Int.reduceSub, Int.reduceMul, Int.reduceLT, Int.reduceLE, Int.reduceGT, Int.reduceGE, Int.reduceEq, Int.reduceBEq, Int.reduceBNe, Int.reduceNeg, Int.reduceToNat, csAll, ↓reduceIte, C3, entry_5, e12, e14, e15, e16, t1, t2, t3, t4, t5]
    generalize hr : den P (.loop C3_2) _ _ = r
    obtain ⟨x, E1, H3, rfl, -, rfl, rfl, hE⟩ := (l3_2 (klen w) a12 hx hl1 _).at hr _
      ⟨rfl, by simp only [upd_apply, Nat.reduceEqDiff, ↓reduceIte, marks_len], by simp only [upd_apply, Nat.reduceEqDiff, ↓reduceIte], 0, by simp only [upd_apply, Nat.reduceEqDiff, ↓reduceIte]; rfl, by omega, rfl, fun t ht => rfl⟩
    have e19 := hE 19 (by omega)
    have e17 := hE 17 (by omega)
    simp only [upd_apply, Nat.reduceEqDiff, ↓reduceIte] at e19 e17
    simp (config := { maxSteps := 2000000 }) (disch := first | omega | rfl | assumption | (simp only [csN, Nat.reduceAdd, Nat.reduceMul, Nat.reduceLeDiff, Nat.reduceEqDiff] <;> omega) | (simp only [csF]; done) | (simp only [csF] <;> assumption) | fail) only [Nat.reduceEqDiff, Nat.reduceAdd, Nat.reduceMul, Nat.reduceSub, Nat.reduceLeDiff, Int.reduceAdd, Int.reduceSub, Int.reduceMul, Int.reduceLT, Int.reduceLE, Int.reduceGT, Int.reduceGE, Int.reduceEq, Int.reduceBEq, Int.reduceBNe, Int.reduceNeg, Int.reduceToNat, csAll, ↓reduceIte]
    generalize hr2 : den (cprog Go.Proofs.Try.prog) (.loop C3_1) _ _ = r2
    obtain ⟨x, E2, H4, rfl, -, rfl, rfl⟩ := (l3_1 (klen w) a17 hlast hl2).at hr2 _
      ⟨rfl, by simp only [upd_apply, Nat.reduceEqDiff, ↓reduceIte, marks_len]; exact e19, by simp only [upd_apply, Nat.reduceEqDiff, ↓reduceIte]; exact e17, 0, by simp only [upd_apply, Nat.reduceEqDiff, ↓reduceIte]; rfl, by omega, rfl⟩
    apply ex_run
    simp (config := { maxSteps := 2000000 }) (disch := first | omega | rfl | assumption | (simp only [csN, Nat.reduceAdd, Nat.reduceMul, Nat.reduceLeDiff, Nat.reduceEqDiff] <;> omega) | (simp only [csF]; done) | (simp only [csF] <;> assumption) | fail) only [Nat.reduceEqDiff, Nat.reduceAdd, Nat.reduceMul, Nat.reduceSub, Nat.reduceLeDiff, Int.reduceAdd, Int.reduceSub, Int.reduceMul, Int.reduceLT, Int.reduceLE, Int.reduceGT, Int.reduceGE, Int.reduceEq, Int.reduceBEq, Int.reduceBNe, Int.reduceNeg, Int.reduceToNat, csAll, ↓reduceIte, ef]
    rfl)
  rw [hz] at e16
  simp only [pair2] at e16
  obtain ⟨H5, o5, L5, e17, m5, fr5⟩ := f17 mQ w of i ident
  have w5 := w.setRef of i ident
  have q5 := qQ.unFrm fr5
  have hmono : ∀ {u : Int}, Kp (madeM n l) u → Kp ((madeM n l).setRef of i ident).1 u := fun h => h.setRef w hh (by rw [hx]; exact hkd) (by rw [hx]; exact hz)
  generalize hM : ((madeM n l).setRef of i ident).1 = M5 at *
  generalize ((madeM n l).setRef of i ident).2 = err at *
  obtain ⟨v17, K2, H2, v71, K3, o2, t1, t2, t3, t4, t5, fr, a17, hx⟩ := tail3 m5 w5 ident
  have a12 := (q5).unFrm fr
  have hlast : (K3 ++ [⟨bools (marks M5.objs.length (M5.push ident).1.keptI), .rw, 1⟩])[K3.length]? = some ⟨bools (marks M5.objs.length (M5.push ident).1.keptI), .rw, 1⟩ := by simp
  obtain ⟨Hf, ef⟩ := f13 (H := K3 ++ [⟨bools (marks M5.objs.length (M5.push ident).1.keptI), .rw, 1⟩])
  have hl1 : ∀ u ∈ (madeM n l).keptI, 0 ≤ u ∧ u.toNat < (marks M5.objs.length M5.keptI).length ∧ on (marks M5.objs.length M5.keptI) u = true := fun u hu => by
    have h1 : Kp M5 u := hmono ((mem_keptI w).1 hu)
    have h2 := Kp.has w5 h1
    unfold Mdl.has at h2
    exact ⟨by omega, by rw [marks_len]; omega, (marks_on (kid w5) (by omega)).2 ((mem_keptI w5).2 h1)⟩
  have hl2 : ∀ u ∈ M5.keptI, 0 ≤ u ∧ u.toNat < (marks M5.objs.length (M5.push ident).1.keptI).length ∧ on (marks M5.objs.length (M5.push ident).1.keptI) u = true := fun u hu => by
    have h1 : Kp M5 u := (mem_keptI w5).1 hu
    have h2 := Kp.has w5 h1
    unfold Mdl.has at h2
    have h3 := kid (w5.push ident)
    rw [Mdl.push_len] at h3
    exact ⟨by omega, by rw [marks_len]; omega, (marks_on h3 (by omega)).2 ((mem_keptI (w5.push ident)).2 h1.push)⟩
  rw [run_lv c3]
  simp (config := { maxSteps := 2000000 }) (disch := first | omega | rfl | assumption | (simp only [csN, Nat.reduceAdd, Nat.reduceMul, Nat.reduceLeDiff, Nat.reduceEqDiff] <;> omega) | (simp only [csF]; done) | (simp only [csF] <;> assumption) | fail) only [Nat.reduceEqDiff, Nat.reduceAdd, Nat.reduceMul, Nat.reduceSub, Nat.reduceLeDiff, Int.reduceAdd, Int.reduceSub, Int.reduceMul, Int.reduceLT, Int.reduceLE, Int.reduceGT, Int.reduceGE, Int.reduceEq, Int.reduceBEq, Int.reduceBNe, Int.reduceNeg, Int.reduceToNat, csAll, ↓reduceIte, C3, entry_5, e12, e14, e15, e16, e17, t1, t2, t3, t4, t5]
  generalize hr : den P (.loop C3_2) _ _ = r
  obtain ⟨x, E1, H3, rfl, -, rfl, rfl, hE⟩ := (l3_2 (klen w) a12 hx hl1 _).at hr _
    ⟨rfl, by simp only [upd_apply, Nat.reduceEqDiff, ↓reduceIte, marks_len], by simp only [upd_apply, Nat.reduceEqDiff, ↓reduceIte], 0, by simp only [upd_apply, Nat.reduceEqDiff, ↓reduceIte]; rfl, by omega, rfl, fun t ht => rfl⟩
  have e19 := hE 19 (by omega)
  have e17 := hE 17 (by omega)
  simp only [upd_apply, Nat.reduceEqDiff, ↓reduceIte] at e19 e17
  simp (config := { maxSteps := 2000000 }) (disch := first | omega | rfl | assumption | (simp only [csN, Nat.reduceAdd, Nat.reduceMul, Nat.reduceLeDiff, Nat.reduceEqDiff] <;> omega) | (simp only [csF]; done) | (simp only [csF] <;> assumption) | fail) only [Nat.reduceEqDiff, Nat.reduceAdd, Nat.reduceMul, Nat.reduceSub, Nat.reduceLeDiff, Int.reduceAdd, Int.reduceSub, Int.reduceMul, Int.reduceLT, Int.reduceLE, Int.reduceGT, Int.reduceGE, Int.reduceEq, Int.reduceBEq, Int.reduceBNe, Int.reduceNeg, Int.reduceToNat, csAll, ↓reduceIte]
  generalize hr2 : den (cprog Go.Proofs.Try.prog) (.loop C3_1) _ _ = r2
  obtain ⟨x, E2, H4, rfl, -, rfl, rfl⟩ := (l3_1 (klen w5) a17 hlast hl2).at hr2 _
    ⟨rfl, by simp only [upd_apply, Nat.reduceEqDiff, ↓reduceIte, marks_len]; exact e19, by simp only [upd_apply, Nat.reduceEqDiff, ↓reduceIte]; exact e17, 0, by simp only [upd_apply, Nat.reduceEqDiff, ↓reduceIte]; rfl, by omega, rfl⟩
  apply ex_run
  simp (config := { maxSteps := 2000000 }) (disch := first | omega | rfl | assumption | (simp only [csN, Nat.reduceAdd, Nat.reduceMul, Nat.reduceLeDiff, Nat.reduceEqDiff] <;> omega) | (simp only [csF]; done) | (simp only [csF] <;> assumption) | fail) only [Nat.reduceEqDiff, Nat.reduceAdd, Nat.reduceMul, Nat.reduceSub, Nat.reduceLeDiff, Int.reduceAdd, Int.reduceSub, Int.reduceMul, Int.reduceLT, Int.reduceLE, Int.reduceGT, Int.reduceGE, Int.reduceEq, Int.reduceBEq, Int.reduceBNe, Int.reduceNeg, Int.reduceToNat, csAll, ↓reduceIte, ef]
  rfl

end Go.Cs.Try

/- The calls that a row's data hold. -/
namespace Go.Cs
open Go
abbrev stepKinds : List FK := List.replicate 13 (.int .i64)
theorem stp_of {x : List CV} (hx : x.length = 13) (h : ∀ (i : Nat) (k : FK), stepKinds[i]? = some k → ∃ c, x[i]? = some c ∧ k.fits c) : ∃ s : Stp, x = stpCells s := by
  obtain ⟨zs, hl, rfl⟩ := fits_i64 hx h
  match zs, hl with
  | [a, b, c, d, e, f, g, h, i, j, k, l, m], _ => exact ⟨⟨a, b, ⟨c, d, e, f, g, h, i, j⟩, k, l, m⟩, rfl⟩
theorem steps_of {H : CHeap} {cv : Nat → CV} {blk : Blk} {l : List (List CV)} (h : SlOf cv blk stepKinds l) {j : Nat} (hj : H[j]? = some blk) : ∃ l' : List Stp, Steps (fun _ => none) H (cv j) l' := by
  obtain ⟨h1, h2, h3⟩ := h
  obtain ⟨l', hl, hp⟩ := exists_fun (n := l.length) (p := fun i s => l[i]? = some (stpCells s)) fun i hi => by
    obtain ⟨e1, e2⟩ := h3 l[i] (List.getElem_mem _)
    obtain ⟨s, hs⟩ := stp_of e1 e2
    exact ⟨s, by rw [List.getElem?_eq_getElem hi, hs]⟩
  refine ⟨l', by rw [hl]; exact h1 j, fun hne => ?_⟩
  have hne' : l ≠ [] := by rintro rfl; exact hne (List.eq_nil_of_length_eq_zero hl)
  obtain ⟨⟨cap, -, q1⟩, q2, q3, q4⟩ := h2 hne'
  obtain ⟨cs, md, es⟩ := blk
  simp only at q2 q3
  refine ⟨j, cap, false, cs, by rw [hl]; exact q1 j, by rw [hj, q2, q3]; rfl, rfl, fun i x hx => ?_⟩
  exact q4 i _ (hp i x hx)
end Go.Cs

/- ModelMore returns true for every input: with a further root, or a further reference of a plain object, no fewer objects are kept. (At most 120 calls) Conditions: none. -/
namespace Go.Proofs.Ytnhblkjfpbhnnaa.modelMore
open Go Go.Cs Go.ChangeShapes Go.WideShapes Go.ChangeAt Go.RowKit
set_option linter.unusedVariables false
theorem own : ownKnob Try.prog.godebug = none := by kernel_rfl
theorem laidOut : laidOutB Try.prog = true := by kernel_rfl
theorem follows : Try.prog.follows .mixedOrders = true := by kernel_rfl
set_option maxRecDepth 100000 in
theorem lifted (os : Os) (started : os.Started) (H : Type) (enc : TypeId × Value → H) :
    ReturnsInHanded {} Try.checked os 3 .any (Rows.modelMoreSpec.pre6 enc Try.prog Try.f3 Rows.modelMoreRow.domain false) (Rows.modelMoreSpec.post enc Try.prog Try.f3 false true false false) := by
  refine returnsInHanded_of_change_sized (C := Try.checked) own started (by kernel_rfl) Try.func3
    (ChangeSpec.witness6 (enc := enc) (C := Try.checked) false ⟨#[], #[.int .i64 0, .slice none 0 0, .int .i64 0, .int .i64 0, .int .i64 0], []⟩ 8 (by kernel_rfl) (by kernel_rfl) (by kernel_rfl) (by kernel_rfl)) ?_
  intro W base args ds gs before hval0 hW hcnd hsz0 _
  have hval : ∀ (j : Nat) t v, Try.f3.params[j]? = some t → args[j]? = some v → Value.okWide Try.prog W .any base t v := hval0
  have hW' := hW
  obtain ⟨p, q, hA0, hV, rfl, hfz, hnd⟩ := hW
  have hA : DataW.TrodAll enc Try.prog W 0 (fun _ => true) true Try.f3.params.toList args.toList ds p := hA0
  rw [Try.params3] at hA hval
  clear hA0 hval0 hsz0 hcnd
  obtain ⟨v0, vs0, d0, ds0, p0, q0, hargs, rfl, rfl, h0, r0⟩ := trodAll_cons hA
  obtain ⟨v1, vs1, d1, ds1, p1, q1, rfl, rfl, rfl, h1, r1⟩ := trodAll_cons r0
  obtain ⟨v2, vs2, d2, ds2, p2, q2, rfl, rfl, rfl, h2, r2⟩ := trodAll_cons r1
  obtain ⟨v3, vs3, d3, ds3, p3, q3, rfl, rfl, rfl, h3, r3⟩ := trodAll_cons r2
  obtain ⟨v4, vs4, d4, ds4, p4, q4, rfl, rfl, rfl, h4, r4⟩ := trodAll_cons r3
  obtain ⟨rfl, rfl, rfl⟩ := trodAll_nil r4
  obtain rfl : args = #[v0, v1, v2, v3, v4] := by cases args; simp_all
  obtain ⟨rfl, rfl⟩ := trodVars_none hV
  obtain ⟨x0, rfl, rfl, rfl, w0⟩ := open_int (k := .i64) (show Try.prog.underlying 3 = some (.int .i64) from by kernel_rfl) (hval 0 3 v0 rfl rfl) h0
  have lt1 : ∀ x ∈ p1, x.block < W.heap.size := by obtain ⟨m, hm⟩ := h1; exact DataW.trod_lt m _ _ _ hm
  obtain ⟨x1, b1, g1, l1, vx1, bk1, so1⟩ := open_flat (n := 6) (ks := stepKinds) (show Try.prog.underlying 22 = some (.slice 43) from by kernel_rfl) (by kernel_rfl) (by kernel_rfl) (by decide) (hval 1 22 v1 rfl rfl) h1
  obtain ⟨x2, rfl, rfl, rfl, w2⟩ := open_int (k := .i64) (show Try.prog.underlying 3 = some (.int .i64) from by kernel_rfl) (hval 2 3 v2 rfl rfl) h2
  obtain ⟨x3, rfl, rfl, rfl, w3⟩ := open_int (k := .i64) (show Try.prog.underlying 3 = some (.int .i64) from by kernel_rfl) (hval 3 3 v3 rfl rfl) h3
  obtain ⟨x4, rfl, rfl, rfl, w4⟩ := open_int (k := .i64) (show Try.prog.underlying 3 = some (.int .i64) from by kernel_rfl) (hval 4 3 v4 rfl rfl) h4
  obtain ⟨s1, st1⟩ := steps_of (H := [b1]) so1 (j := 0) rfl
  obtain ⟨H1, hrun⟩ : ∃ H1, run (cprog Try.prog) 3 [.i x0, x1 0, .i x2, .i x3, .i x4] [b1] = some (.bool true, H1) := Go.Cs.Try.f3 (fun _ _ h => by cases h) (fun _ _ h => by cases h) st1 x0 x2 x3 x4
  have hb : ∀ b blk, [b1][b]? = some blk → BlkOk W blk ([g1].getD b none) := by
    intro b blk hb
    match b, hb with
    | 0, hb => simp at hb; subst hb; exact bk1
    | n + 1, hb => simp at hb
  refine (run_calls follows (tgs := [g1]) (W := W) (args' := #[.int .i64 x0, v1, .int .i64 x2, .int .i64 x3, .int .i64 x4]) rfl hb hrun ?_).mono fun e W' he => ?_
  · simp only [VL]
    exact ⟨_, _, rfl, by simp [V], ⟨_, _, rfl, vx1 0 _ rfl, ⟨_, _, rfl, by simp [V], ⟨_, _, rfl, by simp [V], ⟨_, _, rfl, by simp [V], rfl⟩⟩⟩⟩⟩
  obtain ⟨⟨ν, v', rfl, hv'⟩, bel⟩ := he
  simp only [V] at hv'
  subst hv'
  exact ⟨_, rfl, _, _, _, [], _, [], hW', trodAll_mk1 (shut_bool (show Try.prog.underlying 4 = some .bool from by kernel_rfl) _), (trodAll_cons_mk (shut_int (show Try.prog.underlying 3 = some (.int .i64) from by kernel_rfl) w0) (trodAll_cons_mk (Below.trod laidOut (by kernel_rfl) (of_decide_eq_true (by kernel_rfl)) h1 bel lt1) (trodAll_cons_mk (shut_int (show Try.prog.underlying 3 = some (.int .i64) from by kernel_rfl) w2) (trodAll_cons_mk (shut_int (show Try.prog.underlying 3 = some (.int .i64) from by kernel_rfl) w3) (trodAll_cons_mk (shut_int (show Try.prog.underlying 3 = some (.int .i64) from by kernel_rfl) w4) trodAll_mk0))))), rfl, bel.frame _, fun h => by cases h⟩
theorem over : Rows.modelMoreRow.holds Try.pinned (OpenSpec.ofChange Rows.modelMoreSpec) :=
  OpenClaim.holds_of_wide 3 Try.f3 rfl rfl rfl rfl rfl rfl rfl ⟨rfl, rfl, rfl, rfl, rfl⟩ rfl rfl rfl rfl rfl (by kernel_rfl) Try.func3 (by kernel_rfl)
    (of_decide_eq_true (by kernel_rfl)) (by unfold Func.isWrapper; first | (rw [if_pos (by decide +kernel)]; kernel_rfl) | (rw [if_neg (by decide +kernel)]; exact ⟨rfl, rfl⟩))
    (fun os started H enc _ => lifted os started H enc)
end Go.Proofs.Ytnhblkjfpbhnnaa.modelMore
namespace Go.Proofs.Ytnhblkjfpbhnnaa
/-- The row. -/
theorem modelMore_holds : Rows.ModelMoreSaid := modelMore.over
#print axioms modelMore_holds
end Go.Proofs.Ytnhblkjfpbhnnaa
