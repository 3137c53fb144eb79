/- ModelNone returns true for every input: a model that nobody made returns ErrState and zero values. (R1) Conditions: none. -/
import Derived.Test.YtnhblkjfpbhnnaaNone4
import Derived.Test.YtnhblkjfpbhnnaaRows
import Derived.WalkKit
import Derived.ProofKit
import Derived.OpenShut
import Derived.ShutString
import Derived.ChangeOld
import Derived.Below
import Derived.SizedLaws
import Derived.Carry
set_option linter.unusedVariables false
set_option linter.unusedSimpArgs false
set_option linter.defProp false
/- SameEffect; what is played and looked at where nobody made a model; ModelNone. -/
namespace Go.Cs.Try
open Go Go.Cs
set_option maxRecDepth 100000
set_option maxHeartbeats 8000000
section
theorem l56_1 {o o' : Tags} {t t' : Tag} {H : CHeap} {tv tv' : CV} {l : List Int} (a : At o t H tv 1 l.length (Go.Cs.ints l)) (a' : At o' t' H tv' 1 l.length (Go.Cs.ints l)) (hm : l.length ≤ 1000) {b1 b2 : Nat} {r1 r2 : List CV}
    (k1 : H[b1]? = some ⟨tv :: r1, .rw, 0⟩) (k2 : H[b2]? = some ⟨tv' :: r2, .rw, 0⟩)
    {E0 : Env} (h2 : E0 2 = .ptr b1 0) (h3 : E0 3 = .ptr b2 0) (h5 : E0 5 = .i 0) {r : Option (CX × Env × CHeap)} (hr : den P (.loop C56_1) E0 H = r) : ∃ E', r = some (.exit 0, E', H) := by
  have hlen := a.len
  have hlen' := a'.len
  obtain ⟨x', E', H', e, -, ⟨rfl, rfl⟩, fr⟩ := loop_at (p := P) (c := C56_1) (E0 := E0) (H0 := H) (fun k E H' => H' = H ∧ ∃ j : Nat, E 5 = .i j ∧ j ≤ l.length ∧ k = l.length - j) (fun x' E' H' => x' = .exit 0 ∧ H' = H) (by
      rintro k E H' hE ⟨rfl, j, e5, hj, rfl⟩
      have e2 := (hE 2 (by decide +kernel)).trans h2
      have e3 := (hE 3 (by decide +kernel)).trans h3
      by_cases c : j < l.length
      · have hg : (Go.Cs.ints l)[j]? = some (.i (l.getD j 0)) := by rw [ints_get, getD_of 0 c]; rfl
        obtain ⟨tl, p1, -, p3, -⟩ := a.pos (by omega)
        obtain ⟨tl', q1, -, q3, -⟩ := a'.pos (by omega)
        rw [p1] at k1
        rw [q1] at k2
        have hw := wrapS j (by omega)
        apply step_go (k' := l.length - (j + 1))
        · simp (disch := first | omega | rfl | assumption | (simp only [csN, Nat.reduceAdd, Nat.reduceMul, Nat.reduceLeDiff, Nat.reduceEqDiff] <;> omega) | (simp only [csF]; done) | (simp only [csF] <;> assumption) | fail) only [Nat.reduceEqDiff, Nat.reduceAdd, Nat.reduceMul, Nat.reduceSub, Nat.reduceLeDiff, Int.reduceAdd, Int.reduceSub, Int.reduceMul, Int.reduceLT, Int.reduceLE, Int.reduceGT, Int.reduceGE, Int.reduceEq, Int.reduceBEq, Int.reduceBNe, Int.reduceNeg, Int.reduceToNat, csAll, ↓reduceIte, C56_1, e2, e3, e5, k1, k2, p3, q3, hg, hw]
          rfl
        · omega
        · exact ⟨rfl, j + 1, by simp [upd_apply], by omega, rfl⟩
      · apply step_out (x := .exit 0)
        · simp (disch := first | omega | rfl | assumption | (simp only [csN, Nat.reduceAdd, Nat.reduceMul, Nat.reduceLeDiff, Nat.reduceEqDiff] <;> omega) | (simp only [csF]; done) | (simp only [csF] <;> assumption) | fail) only [Nat.reduceEqDiff, Nat.reduceAdd, Nat.reduceMul, Nat.reduceSub, Nat.reduceLeDiff, Int.reduceAdd, Int.reduceSub, Int.reduceMul, Int.reduceLT, Int.reduceLE, Int.reduceGT, Int.reduceGE, Int.reduceEq, Int.reduceBEq, Int.reduceBNe, Int.reduceNeg, Int.reduceToNat, csAll, ↓reduceIte, C56_1, e2, e5, k1, hlen]
          rfl
        · simp
        · exact ⟨rfl, rfl⟩) l.length ⟨rfl, 0, h5, by omega, rfl⟩
  exact ⟨E', hr.symm.trans e⟩
/-- SameEffect of equal effects. -/
theorem f56 {o o' : Tags} {t t' : Tag} {H : CHeap} {tv tv' : CV} {l : List Int} (a : At o t H tv 1 l.length (Go.Cs.ints l)) (a' : At o' t' H tv' 1 l.length (Go.Cs.ints l)) (hm : l.length ≤ 1000) {x1 x2 x3 x4 x5 x6 : Int} :
    ∃ H', run P 56 [.agg [tv, .i x1, .i x2, .i x3, .i x4, .i x5, .i x6], .agg [tv', .i x1, .i x2, .i x3, .i x4, .i x5, .i x6]] H = some (.bool true, H') ∧ Gr H H' := by
  have g1 : Gr H (H ++ [(⟨[tv, .i x1, .i x2, .i x3, .i x4, .i x5, .i x6], .rw, 0⟩ : Blk)]) := .app _ _
  have g2 : Gr (H ++ [(⟨[tv, .i x1, .i x2, .i x3, .i x4, .i x5, .i x6], .rw, 0⟩ : Blk)]) (H ++ [(⟨[tv, .i x1, .i x2, .i x3, .i x4, .i x5, .i x6], .rw, 0⟩ : Blk)] ++ [(⟨[tv', .i x1, .i x2, .i x3, .i x4, .i x5, .i x6], .rw, 0⟩ : Blk)]) := .app _ _
  have k1 : (H ++ [(⟨[tv, .i x1, .i x2, .i x3, .i x4, .i x5, .i x6], .rw, 0⟩ : Blk)] ++ [(⟨[tv', .i x1, .i x2, .i x3, .i x4, .i x5, .i x6], .rw, 0⟩ : Blk)])[H.length]? = some ⟨[tv, .i x1, .i x2, .i x3, .i x4, .i x5, .i x6], .rw, 0⟩ := g2.get (look_last rfl)
  have k2 : (H ++ [(⟨[tv, .i x1, .i x2, .i x3, .i x4, .i x5, .i x6], .rw, 0⟩ : Blk)] ++ [(⟨[tv', .i x1, .i x2, .i x3, .i x4, .i x5, .i x6], .rw, 0⟩ : Blk)])[H.length + 1]? = some ⟨[tv', .i x1, .i x2, .i x3, .i x4, .i x5, .i x6], .rw, 0⟩ := look_last (by simp)
  have hlen := a.len
  have hlen' := a'.len
  have lf := a.leaf
  have lf' := a'.leaf
  have a2 := (a.gr g1).gr g2
  have a2' := (a'.gr g1).gr g2
  apply ex_gr _ (g1.trans g2)
  rw [run_lv c56]
  simp (disch := first | omega | rfl | assumption | (simp only [csN, Nat.reduceAdd, Nat.reduceMul, Nat.reduceLeDiff, Nat.reduceEqDiff] <;> omega) | (simp only [csF]; done) | (simp only [csF] <;> assumption) | fail) only [Nat.reduceEqDiff, Nat.reduceAdd, Nat.reduceMul, Nat.reduceSub, Nat.reduceLeDiff, Int.reduceAdd, Int.reduceSub, Int.reduceMul, Int.reduceLT, Int.reduceLE, Int.reduceGT, Int.reduceGE, Int.reduceEq, Int.reduceBEq, Int.reduceBNe, Int.reduceNeg, Int.reduceToNat, csAll, ↓reduceIte, C56, entry_2, k1, k2, hlen, hlen']
  generalize hr : den P (.loop C56_1) _ _ = r
  obtain ⟨E', rfl⟩ := l56_1 a2 a2' hm k1 k2 (by simp only [upd_apply, Nat.reduceEqDiff, ↓reduceIte]) (by simp only [upd_apply, Nat.reduceEqDiff, ↓reduceIte]) (by simp only [upd_apply, Nat.reduceEqDiff, ↓reduceIte]) hr
  simp (disch := first | omega | rfl | assumption | (simp only [csN, Nat.reduceAdd, Nat.reduceMul, Nat.reduceLeDiff, Nat.reduceEqDiff] <;> omega) | (simp only [csF]; done) | (simp only [csF] <;> assumption) | fail) only [Nat.reduceEqDiff, Nat.reduceAdd, Nat.reduceMul, Nat.reduceSub, Nat.reduceLeDiff, Int.reduceAdd, Int.reduceSub, Int.reduceMul, Int.reduceLT, Int.reduceLE, Int.reduceGT, Int.reduceGE, Int.reduceEq, Int.reduceBEq, Int.reduceBNe, Int.reduceNeg, Int.reduceToNat, csAll, ↓reduceIte]

variable {v : CV} {H : CHeap}
theorem f35n (h : NoneM v H) (x : Stp) : ∃ H', run P 35 [v, .nilPtr, .agg (stpCells x)] H = some (.bool true, H') ∧ Gr H H' := by
  have g0 : Gr H (H ++ [(⟨stpCells x, .rw, 0⟩ : Blk)]) := .app _ _
  have h0 := h.gr g0
  by_cases k0 : x.k = 0
  · have d40 := f40n h0 (a := .i x.mu) (x := x.act)
    have d55 : ∀ H, run P 55 [.nilPtr, .i x.mu, .agg (actCells x.act)] H = some (.tup [.agg zE, .i 5], H ++ [⟨actCells x.act, .rw, 0⟩] ++ [⟨zE, .rw, 0⟩]) := fun H => f55n
    generalize hA : H ++ [(⟨stpCells x, .rw, 0⟩ : Blk)] = HA at *
    have bA : HA[H.length]? = some ⟨stpCells x, .rw, 0⟩ := by rw [← hA]; exact look_last rfl
    have hAl : HA.length = H.length + 1 := by rw [← hA]; simp
    unfold stpCells actCells at *
    have bl := lt_of_get bA
    obtain ⟨H2, d56, g2⟩ := f56 (o := fun _ => none) (o' := fun _ => none) (t := z3) (t' := z3) (l := []) (tv := .nilSlice) (tv' := .nilSlice) (x1 := 0) (x2 := 0) (x3 := 0) (x4 := 0) (x5 := 0) (x6 := 0)
      (H := HA ++ [⟨[.i x.act.k, .i x.act.a, .i x.act.b, .i x.act.i, .i x.act.n, .i x.act.nr, .i x.act.nd, .i x.act.sk], .rw, 0⟩] ++ [⟨zE, .rw, 0⟩] ++ [⟨zE, .rw, 0⟩] ++ [⟨[.i x.act.k, .i x.act.a, .i x.act.b, .i x.act.i, .i x.act.n, .i x.act.nr, .i x.act.nd, .i x.act.sk], .rw, 0⟩] ++ [⟨zE, .rw, 0⟩] ++ [⟨zE, .rw, 0⟩])
      (.inl ⟨rfl, rfl, .inl rfl⟩) (.inl ⟨rfl, rfl, .inl rfl⟩) (by simp)
    simp only [zE] at d40 d55 d56
    apply ex_gr (H' := H2) _ (((((((g0.app' _).app' _).app' _).app' _).app' _).app' _).trans g2)
    rw [run_lv c35]
    simp (disch := first | omega | rfl | assumption | (simp only [csN, Nat.reduceAdd, Nat.reduceMul, Nat.reduceLeDiff, Nat.reduceEqDiff] <;> omega) | (simp only [csF]; done) | (simp only [csF] <;> assumption) | fail) only [Nat.reduceEqDiff, Nat.reduceAdd, Nat.reduceMul, Nat.reduceSub, Nat.reduceLeDiff, Int.reduceAdd, Int.reduceSub, Int.reduceMul, Int.reduceLT, Int.reduceLE, Int.reduceGT, Int.reduceGE, Int.reduceEq, Int.reduceBEq, Int.reduceBNe, Int.reduceNeg, Int.reduceToNat, csAll, ↓reduceIte, C35, entry_3, hA, bA, d40, d55, d56]
  have b0 : (H ++ [(⟨stpCells x, .rw, 0⟩ : Blk)])[H.length]? = some ⟨stpCells x, .rw, 0⟩ := look_last rfl
  apply ex_gr _ g0
  unfold stpCells at *
  rw [run_lv c35]
  by_cases k1 : x.k = 1
  · have d := f29n h0
    simp (disch := first | omega | rfl | assumption | (simp only [csN, Nat.reduceAdd, Nat.reduceMul, Nat.reduceLeDiff, Nat.reduceEqDiff] <;> omega) | (simp only [csF]; done) | (simp only [csF] <;> assumption) | fail) only [Nat.reduceEqDiff, Nat.reduceAdd, Nat.reduceMul, Nat.reduceSub, Nat.reduceLeDiff, Int.reduceAdd, Int.reduceSub, Int.reduceMul, Int.reduceLT, Int.reduceLE, Int.reduceGT, Int.reduceGE, Int.reduceEq, Int.reduceBEq, Int.reduceBNe, Int.reduceNeg, Int.reduceToNat, csAll, ↓reduceIte, C35, entry_3, b0, d, f57n]
  by_cases k2 : x.k = 2
  · have d := f18n h0 (a := .i x.a)
    simp (disch := first | omega | rfl | assumption | (simp only [csN, Nat.reduceAdd, Nat.reduceMul, Nat.reduceLeDiff, Nat.reduceEqDiff] <;> omega) | (simp only [csF]; done) | (simp only [csF] <;> assumption) | fail) only [Nat.reduceEqDiff, Nat.reduceAdd, Nat.reduceMul, Nat.reduceSub, Nat.reduceLeDiff, Int.reduceAdd, Int.reduceSub, Int.reduceMul, Int.reduceLT, Int.reduceLE, Int.reduceGT, Int.reduceGE, Int.reduceEq, Int.reduceBEq, Int.reduceBNe, Int.reduceNeg, Int.reduceToNat, csAll, ↓reduceIte, C35, entry_3, b0, d, f58n]
  by_cases k3 : x.k = 3
  · have d := f46n h0
    simp (disch := first | omega | rfl | assumption | (simp only [csN, Nat.reduceAdd, Nat.reduceMul, Nat.reduceLeDiff, Nat.reduceEqDiff] <;> omega) | (simp only [csF]; done) | (simp only [csF] <;> assumption) | fail) only [Nat.reduceEqDiff, Nat.reduceAdd, Nat.reduceMul, Nat.reduceSub, Nat.reduceLeDiff, Int.reduceAdd, Int.reduceSub, Int.reduceMul, Int.reduceLT, Int.reduceLE, Int.reduceGT, Int.reduceGE, Int.reduceEq, Int.reduceBEq, Int.reduceBNe, Int.reduceNeg, Int.reduceToNat, csAll, ↓reduceIte, C35, entry_3, b0, d, f59n]
  by_cases k4 : x.k = 4
  · have d := f17n h0 (a := .i x.a) (b := .i x.b) (c := .i x.c)
    simp (disch := first | omega | rfl | assumption | (simp only [csN, Nat.reduceAdd, Nat.reduceMul, Nat.reduceLeDiff, Nat.reduceEqDiff] <;> omega) | (simp only [csF]; done) | (simp only [csF] <;> assumption) | fail) only [Nat.reduceEqDiff, Nat.reduceAdd, Nat.reduceMul, Nat.reduceSub, Nat.reduceLeDiff, Int.reduceAdd, Int.reduceSub, Int.reduceMul, Int.reduceLT, Int.reduceLE, Int.reduceGT, Int.reduceGE, Int.reduceEq, Int.reduceBEq, Int.reduceBNe, Int.reduceNeg, Int.reduceToNat, csAll, ↓reduceIte, C35, entry_3, b0, d, f60n]
  · simp (disch := first | omega | rfl | assumption | (simp only [csN, Nat.reduceAdd, Nat.reduceMul, Nat.reduceLeDiff, Nat.reduceEqDiff] <;> omega) | (simp only [csF]; done) | (simp only [csF] <;> assumption) | fail) only [Nat.reduceEqDiff, Nat.reduceAdd, Nat.reduceMul, Nat.reduceSub, Nat.reduceLeDiff, Int.reduceAdd, Int.reduceSub, Int.reduceMul, Int.reduceLT, Int.reduceLE, Int.reduceGT, Int.reduceGE, Int.reduceEq, Int.reduceBEq, Int.reduceBNe, Int.reduceNeg, Int.reduceToNat, csAll, ↓reduceIte, C35, entry_3, b0]

theorem l38_2n (h : NoneM v H) {w : Int} {sb : Nat} (hs : H[sb]? = some ⟨[.i 0, .i 0, .i 0], .rw, 0⟩) {E0 : Env} (h0 : E0 0 = v) (h1 : E0 1 = .nilPtr) (h2 : E0 2 = .i w) (h9 : E0 9 = .ptr sb 0) (h11 : E0 11 = .i (-1))
    {r : Option (CX × Env × CHeap)} (hr : den P (.loop C38_2) E0 H = r) : ∃ E', r = some (.exit 0, E', H) ∧ ∀ t, t ∉ wr C38_2 → E' t = E0 t := by
  obtain ⟨x', E', H', e, -, ⟨rfl, rfl⟩, fr⟩ := loop_at (p := P) (c := C38_2) (E0 := E0) (H0 := H) (fun k E H' => H' = H ∧ ∃ j : Int, E 11 = .i j ∧ -1 ≤ j ∧ j ≤ 1 ∧ k = (1 - j).toNat) (fun x' E' H' => x' = .exit 0 ∧ H' = H) (by
      rintro k E H' hE ⟨rfl, j, e11, hj1, hj2, rfl⟩
      have e0 := (hE 0 (by decide +kernel)).trans h0
      have e1 := (hE 1 (by decide +kernel)).trans h1
      have e2 := (hE 2 (by decide +kernel)).trans h2
      have e9 := (hE 9 (by decide +kernel)).trans h9
      have d := f16n h (a := .i w) (b := .i j)
      have hw : IntKind.i64.wrap (j + 1) = j + 1 := wrap_id (by omega)
      by_cases c : j ≤ 0
      · apply step_go (k' := (1 - (j + 1)).toNat)
        · simp (disch := first | omega | rfl | assumption | (simp only [csN, Nat.reduceAdd, Nat.reduceMul, Nat.reduceLeDiff, Nat.reduceEqDiff] <;> omega) | (simp only [csF]; done) | (simp only [csF] <;> assumption) | fail) only [Nat.reduceEqDiff, Nat.reduceAdd, Nat.reduceMul, Nat.reduceSub, Nat.reduceLeDiff, Int.reduceAdd, Int.reduceSub, Int.reduceMul, Int.reduceLT, Int.reduceLE, Int.reduceGT, Int.reduceGE, Int.reduceEq, Int.reduceBEq, Int.reduceBNe, Int.reduceNeg, Int.reduceToNat, csAll, ↓reduceIte, C38_2, e0, e1, e2, e9, e11, hs, d, f68n, hw]
          rfl
        · omega
        · exact ⟨rfl, j + 1, by simp [upd_apply], by omega, by omega, rfl⟩
      · apply step_out (x := .exit 0)
        · simp (disch := first | omega | rfl | assumption | (simp only [csN, Nat.reduceAdd, Nat.reduceMul, Nat.reduceLeDiff, Nat.reduceEqDiff] <;> omega) | (simp only [csF]; done) | (simp only [csF] <;> assumption) | fail) only [Nat.reduceEqDiff, Nat.reduceAdd, Nat.reduceMul, Nat.reduceSub, Nat.reduceLeDiff, Int.reduceAdd, Int.reduceSub, Int.reduceMul, Int.reduceLT, Int.reduceLE, Int.reduceGT, Int.reduceGE, Int.reduceEq, Int.reduceBEq, Int.reduceBNe, Int.reduceNeg, Int.reduceToNat, csAll, ↓reduceIte, C38_2, e9, e11, hs]
          rfl
        · simp
        · exact ⟨rfl, rfl⟩) 2 ⟨rfl, -1, h11, by omega, by omega, by decide⟩
  exact ⟨E', hr.symm.trans e, fr⟩
theorem l38_1n (h : NoneM v H) {w : Int} {sb : Nat} (hs : H[sb]? = some ⟨[.i 0, .i 0, .i 0], .rw, 0⟩) {E0 : Env} (h0 : E0 0 = v) (h1 : E0 1 = .nilPtr) (h2 : E0 2 = .i w) (h9 : E0 9 = .ptr sb 0) (h11 : E0 16 = .i (-1))
    {r : Option (CX × Env × CHeap)} (hr : den P (.loop C38_1) E0 H = r) : ∃ E', r = some (.exit 2, E', H) := by
  obtain ⟨x', E', H', e, -, ⟨rfl, rfl⟩, fr⟩ := loop_at (p := P) (c := C38_1) (E0 := E0) (H0 := H) (fun k E H' => H' = H ∧ ∃ j : Int, E 16 = .i j ∧ -1 ≤ j ∧ j ≤ 1 ∧ k = (1 - j).toNat) (fun x' E' H' => x' = .exit 2 ∧ H' = H) (by
      rintro k E H' hE ⟨rfl, j, e11, hj1, hj2, rfl⟩
      have e0 := (hE 0 (by decide +kernel)).trans h0
      have e1 := (hE 1 (by decide +kernel)).trans h1
      have e2 := (hE 2 (by decide +kernel)).trans h2
      have e9 := (hE 9 (by decide +kernel)).trans h9
      have d := f47n h (a := .i w) (b := .i j)
      have hw : IntKind.i64.wrap (j + 1) = j + 1 := wrap_id (by omega)
      by_cases c : j ≤ 0
      · apply step_go (k' := (1 - (j + 1)).toNat)
        · simp (disch := first | omega | rfl | assumption | (simp only [csN, Nat.reduceAdd, Nat.reduceMul, Nat.reduceLeDiff, Nat.reduceEqDiff] <;> omega) | (simp only [csF]; done) | (simp only [csF] <;> assumption) | fail) only [Nat.reduceEqDiff, Nat.reduceAdd, Nat.reduceMul, Nat.reduceSub, Nat.reduceLeDiff, Int.reduceAdd, Int.reduceSub, Int.reduceMul, Int.reduceLT, Int.reduceLE, Int.reduceGT, Int.reduceGE, Int.reduceEq, Int.reduceBEq, Int.reduceBNe, Int.reduceNeg, Int.reduceToNat, csAll, ↓reduceIte, C38_1, e0, e1, e2, e9, e11, hs, d, f69n, hw]
          rfl
        · omega
        · exact ⟨rfl, j + 1, by simp [upd_apply], by omega, by omega, rfl⟩
      · apply step_out (x := .exit 2)
        · simp (disch := first | omega | rfl | assumption | (simp only [csN, Nat.reduceAdd, Nat.reduceMul, Nat.reduceLeDiff, Nat.reduceEqDiff] <;> omega) | (simp only [csF]; done) | (simp only [csF] <;> assumption) | fail) only [Nat.reduceEqDiff, Nat.reduceAdd, Nat.reduceMul, Nat.reduceSub, Nat.reduceLeDiff, Int.reduceAdd, Int.reduceSub, Int.reduceMul, Int.reduceLT, Int.reduceLE, Int.reduceGT, Int.reduceGE, Int.reduceEq, Int.reduceBEq, Int.reduceBNe, Int.reduceNeg, Int.reduceToNat, csAll, ↓reduceIte, C38_1, e9, e11, hs]
          rfl
        · simp
        · exact ⟨rfl, rfl⟩) 2 ⟨rfl, -1, h11, by omega, by omega, by decide⟩
  exact ⟨E', hr.symm.trans e⟩
theorem vEqs_ok {g t : Bool} {n : Nat} {xs ys : List CV} {H : CHeap} (h : xs.length = n) (he : eqCells xs ys = some t) : vEqs g n (.agg xs) (.agg ys) H = some (.bool (if g then !t else t), H) := by
  unfold vEqs; simp only [h, if_true, he, Option.map_some]
theorem eqCells_same {zs : List Int} : eqCells (Go.Cs.ints zs) (Go.Cs.ints zs) = some true := by
  induction zs with
  | nil => rfl
  | cons a l ih => simp only [Go.Cs.ints_cons, eqCells, if_true, ih, Option.map_some, beq_self_eq_true, Bool.true_and]
theorem eqs3 {a b c : Int} {H : CHeap} : vEqs true 3 (.agg [.i a, .i b, .i c]) (.agg [.i a, .i b, .i c]) H = some (.bool false, H) :=
  vEqs_ok rfl (eqCells_same (zs := [a, b, c]))
theorem f38n (h : NoneM v H) (w : Int) : ∃ H', run P 38 [v, .nilPtr, .i w] H = some (.bool true, H') ∧ Gr H H' := by
  have d := f15n h (a := .i w)
  have g : Gr H (H ++ [(⟨[.i 0, .i 0, .i 0], .rw, 0⟩ : Blk)] ++ [(⟨[.i 0, .i 0, .i 0], .rw, 0⟩ : Blk)] ++ [(⟨[.i 0, .i 0, .i 0], .rw, 0⟩ : Blk)] ++ [(⟨[.i 0, .i 0, .i 0], .rw, 0⟩ : Blk)]) := (((Gr.app _ _).app' _).app' _).app' _
  apply ex_gr _ g
  rw [run_lv c38]
  simp (disch := first | omega | rfl | assumption | (simp only [csN, Nat.reduceAdd, Nat.reduceMul, Nat.reduceLeDiff, Nat.reduceEqDiff] <;> omega) | (simp only [csF]; done) | (simp only [csF] <;> assumption) | fail) only [Nat.reduceEqDiff, Nat.reduceAdd, Nat.reduceMul, Nat.reduceSub, Nat.reduceLeDiff, Int.reduceAdd, Int.reduceSub, Int.reduceMul, Int.reduceLT, Int.reduceLE, Int.reduceGT, Int.reduceGE, Int.reduceEq, Int.reduceBEq, Int.reduceBNe, Int.reduceNeg, Int.reduceToNat, csAll, ↓reduceIte, C38, entry_3, d, f67n, eqs3]
  generalize hr : den P (.loop C38_2) _ _ = r
  obtain ⟨E1, rfl, k1⟩ := l38_2n (w := w) (sb := H.length + 3) (h.gr g) (look_last (by simp)) (by simp only [upd_apply, Nat.reduceEqDiff, ↓reduceIte]) (by simp only [upd_apply, Nat.reduceEqDiff, ↓reduceIte]) (by simp only [upd_apply, Nat.reduceEqDiff, ↓reduceIte]) (by simp only [upd_apply, Nat.reduceEqDiff, ↓reduceIte]) (by simp only [upd_apply, Nat.reduceEqDiff, ↓reduceIte]) hr
  have k0 := k1 0 (by decide +kernel)
  have k1' := k1 1 (by decide +kernel)
  have k2 := k1 2 (by decide +kernel)
  have k9 := k1 9 (by decide +kernel)
  simp only [upd_apply, Nat.reduceEqDiff, ↓reduceIte] at k0 k1' k2 k9
  simp (disch := first | omega | rfl | assumption | (simp only [csN, Nat.reduceAdd, Nat.reduceMul, Nat.reduceLeDiff, Nat.reduceEqDiff] <;> omega) | (simp only [csF]; done) | (simp only [csF] <;> assumption) | fail) only [Nat.reduceEqDiff, Nat.reduceAdd, Nat.reduceMul, Nat.reduceSub, Nat.reduceLeDiff, Int.reduceAdd, Int.reduceSub, Int.reduceMul, Int.reduceLT, Int.reduceLE, Int.reduceGT, Int.reduceGE, Int.reduceEq, Int.reduceBEq, Int.reduceBNe, Int.reduceNeg, Int.reduceToNat, csAll, ↓reduceIte]
  generalize hr2 : den P (.loop C38_1) _ _ = r2
  obtain ⟨E2, rfl⟩ := l38_1n (w := w) (sb := H.length + 3) (h.gr g) (look_last (by simp)) (by simp only [upd_apply, Nat.reduceEqDiff, ↓reduceIte, k0]) (by simp only [upd_apply, Nat.reduceEqDiff, ↓reduceIte, k1']) (by simp only [upd_apply, Nat.reduceEqDiff, ↓reduceIte, k2]) (by simp only [upd_apply, Nat.reduceEqDiff, ↓reduceIte, k9]) (by simp only [upd_apply, Nat.reduceEqDiff, ↓reduceIte]) hr2
  simp (disch := first | omega | rfl | assumption | (simp only [csN, Nat.reduceAdd, Nat.reduceMul, Nat.reduceLeDiff, Nat.reduceEqDiff] <;> omega) | (simp only [csF]; done) | (simp only [csF] <;> assumption) | fail) only [Nat.reduceEqDiff, Nat.reduceAdd, Nat.reduceMul, Nat.reduceSub, Nat.reduceLeDiff, Int.reduceAdd, Int.reduceSub, Int.reduceMul, Int.reduceLT, Int.reduceLE, Int.reduceGT, Int.reduceGE, Int.reduceEq, Int.reduceBEq, Int.reduceBNe, Int.reduceNeg, Int.reduceToNat, csAll, ↓reduceIte]

/-- ModelNone. -/
theorem f10 (x : Stp) : ∃ H', run P 10 [.agg (stpCells x)] H = some (.bool true, H') := by
  have nn : ∀ H, NoneM .nilPtr H := fun H => .inl rfl
  have g0 : Gr H (H ++ [(⟨stpCells x, .rw, 0⟩ : Blk)] ++ [(⟨[.nilSlice, .nilSlice, .nilSlice, .nilSlice], .rw, 0⟩ : Blk)]) := (Gr.app _ _).app' _
  have bx : (H ++ [(⟨stpCells x, .rw, 0⟩ : Blk)] ++ [(⟨[.nilSlice, .nilSlice, .nilSlice, .nilSlice], .rw, 0⟩ : Blk)])[H.length]? = some ⟨stpCells x, .rw, 0⟩ := by rw [look_lt (by simp)]; exact look_last rfl
  have nz : NoneM (.ptr (H.length + 1) 0) (H ++ [(⟨stpCells x, .rw, 0⟩ : Blk)] ++ [(⟨[.nilSlice, .nilSlice, .nilSlice, .nilSlice], .rw, 0⟩ : Blk)]) := .inr ⟨_, rfl, look_last (by simp)⟩
  generalize hA : H ++ [(⟨stpCells x, .rw, 0⟩ : Blk)] ++ [(⟨[.nilSlice, .nilSlice, .nilSlice, .nilSlice], .rw, 0⟩ : Blk)] = HA at *
  have d25 := f25n (nn HA) (a := .i 0) (b := .i x.a)
  have d37 := f37n nz (a := .i x.a)
  obtain ⟨H1, p1, q1⟩ := f35n (nn HA) x
  obtain ⟨H2, p2, q2⟩ := f35n (nz.gr q1) x
  obtain ⟨H3, p3, q3⟩ := f38n (nn H2) x.a
  obtain ⟨H4, p4, q4⟩ := f38n (((nz.gr q1).gr q2).gr q3) x.a
  have nz4 := (((nz.gr q1).gr q2).gr q3).gr q4
  have b1 := q1.get bx
  have b2 := q2.get b1
  have b3 := q3.get b2
  have d14 := f14n (nn H4)
  have d14' := f14n nz4
  have d23 := f23n (nn H4)
  have d22 := f22n nz4
  have d39 := f39n nz4
  have d33 := f33n (nn H4)
  have d33' := f33n nz4
  obtain ⟨Hf, ef⟩ := f13 (H := H4)
  unfold stpCells at *
  apply ex_run
  rw [run_lv c10]
  simp (disch := first | omega | rfl | assumption | (simp only [csN, Nat.reduceAdd, Nat.reduceMul, Nat.reduceLeDiff, Nat.reduceEqDiff] <;> omega) | (simp only [csF]; done) | (simp only [csF] <;> assumption) | fail) only [Nat.reduceEqDiff, Nat.reduceAdd, Nat.reduceMul, Nat.reduceSub, Nat.reduceLeDiff, Int.reduceAdd, Int.reduceSub, Int.reduceMul, Int.reduceLT, Int.reduceLE, Int.reduceGT, Int.reduceGE, Int.reduceEq, Int.reduceBEq, Int.reduceBNe, Int.reduceNeg, Int.reduceToNat, csAll, ↓reduceIte, C10, entry_1, hA, bx, b1, b2, b3, d25, d37, p1, p2, p3, p4, d14, d14', d23, d22, d39, d33, d33', ef] <;> rfl
end
end Go.Cs.Try

/- The calls that a row's data hold. -/
namespace Go.Cs
open Go
abbrev stepKinds : List FK := List.replicate 13 (.int .i64)
theorem stp_of {x : List CV} (hx : x.length = 13) (h : ∀ (i : Nat) (k : FK), stepKinds[i]? = some k → ∃ c, x[i]? = some c ∧ k.fits c) : ∃ s : Stp, x = stpCells s := by
  obtain ⟨zs, hl, rfl⟩ := fits_i64 hx h
  match zs, hl with
  | [a, b, c, d, e, f, g, h, i, j, k, l, m], _ => exact ⟨⟨a, b, ⟨c, d, e, f, g, h, i, j⟩, k, l, m⟩, rfl⟩
theorem steps_of {H : CHeap} {cv : Nat → CV} {blk : Blk} {l : List (List CV)} (h : SlOf cv blk stepKinds l) {j : Nat} (hj : H[j]? = some blk) : ∃ l' : List Stp, Steps (fun _ => none) H (cv j) l' := by
  obtain ⟨h1, h2, h3⟩ := h
  obtain ⟨l', hl, hp⟩ := exists_fun (n := l.length) (p := fun i s => l[i]? = some (stpCells s)) fun i hi => by
    obtain ⟨e1, e2⟩ := h3 l[i] (List.getElem_mem _)
    obtain ⟨s, hs⟩ := stp_of e1 e2
    exact ⟨s, by rw [List.getElem?_eq_getElem hi, hs]⟩
  refine ⟨l', by rw [hl]; exact h1 j, fun hne => ?_⟩
  have hne' : l ≠ [] := by rintro rfl; exact hne (List.eq_nil_of_length_eq_zero hl)
  obtain ⟨⟨cap, -, q1⟩, q2, q3, q4⟩ := h2 hne'
  obtain ⟨cs, md, es⟩ := blk
  simp only at q2 q3
  refine ⟨j, cap, false, cs, by rw [hl]; exact q1 j, by rw [hj, q2, q3]; rfl, rfl, fun i x hx => ?_⟩
  exact q4 i _ (hp i x hx)
end Go.Cs

/- ModelNone returns true for every input: a model that nobody made returns ErrState and zero values. (R1) Conditions: none. -/
namespace Go.Proofs.Ytnhblkjfpbhnnaa.modelNone
open Go Go.Cs Go.ChangeShapes Go.WideShapes Go.ChangeAt Go.RowKit
set_option linter.unusedVariables false
theorem own : ownKnob Try.prog.godebug = none := by kernel_rfl
theorem laidOut : laidOutB Try.prog = true := by kernel_rfl
theorem follows : Try.prog.follows .mixedOrders = true := by kernel_rfl
set_option maxRecDepth 100000 in
theorem lifted (os : Os) (started : os.Started) (H : Type) (enc : TypeId × Value → H) :
    ReturnsInHanded {} Try.checked os 10 .any (Rows.modelNoneSpec.pre6 enc Try.prog Try.f10 Rows.modelNoneRow.domain false) (Rows.modelNoneSpec.post enc Try.prog Try.f10 false true false false) := by
  refine returnsInHanded_of_change_sized (C := Try.checked) own started (by kernel_rfl) Try.func10
    (ChangeSpec.witness6 (enc := enc) (C := Try.checked) false ⟨#[], #[.agg #[.int .i64 0, .int .i64 0, .int .i64 0, .int .i64 0, .int .i64 0, .int .i64 0, .int .i64 0, .int .i64 0, .int .i64 0, .int .i64 0, .int .i64 0, .int .i64 0, .int .i64 0]], []⟩ 8 (by kernel_rfl) (by kernel_rfl) (by kernel_rfl) (by kernel_rfl)) ?_
  intro W base args ds gs before hval0 hW hcnd hsz0 _
  have hval : ∀ (j : Nat) t v, Try.f10.params[j]? = some t → args[j]? = some v → Value.okWide Try.prog W .any base t v := hval0
  have hW' := hW
  obtain ⟨p, q, hA0, hV, rfl, hfz, hnd⟩ := hW
  have hA : DataW.TrodAll enc Try.prog W 0 (fun _ => true) true Try.f10.params.toList args.toList ds p := hA0
  rw [Try.params10] at hA hval
  clear hA0 hval0 hsz0 hcnd
  obtain ⟨v0, vs0, d0, ds0, p0, q0, hargs, rfl, rfl, h0, r0⟩ := trodAll_cons hA
  obtain ⟨rfl, rfl, rfl⟩ := trodAll_nil r0
  obtain rfl : args = #[v0] := by cases args; simp_all
  obtain ⟨rfl, rfl⟩ := trodVars_none hV
  have lt0 : ∀ x ∈ p0, x.block < W.heap.size := by obtain ⟨m, hm⟩ := h0; exact DataW.trod_lt m _ _ _ hm
  obtain ⟨cs0, vx0, hl0, hf0⟩ := open_agg (n := 6) (ks := stepKinds) Try.underlying43 (by kernel_rfl) (by kernel_rfl) (hval 0 43 v0 rfl rfl) h0
  obtain ⟨s0, rfl⟩ := stp_of hl0 hf0
  obtain ⟨H1, hrun⟩ : ∃ H1, run (cprog Try.prog) 10 [.agg (stpCells s0)] [] = some (.bool true, H1) := Go.Cs.Try.f10 s0
  have hb : ∀ b blk, ([] : CHeap)[b]? = some blk → BlkOk W blk (([] : List (Option Tgt)).getD b none) := fun b blk hb => by simp at hb
  refine (run_calls follows (tgs := []) (W := W) (args' := #[v0]) rfl hb hrun ?_).mono fun e W' he => ?_
  · simp only [VL]
    exact ⟨_, _, rfl, vx0 _, rfl⟩
  obtain ⟨⟨ν, v', rfl, hv'⟩, bel⟩ := he
  simp only [V] at hv'
  subst hv'
  exact ⟨_, rfl, _, _, _, [], _, [], hW', trodAll_mk1 (shut_bool (show Try.prog.underlying 4 = some .bool from by kernel_rfl) _), (trodAll_cons_mk (Below.trod laidOut (by kernel_rfl) (of_decide_eq_true (by kernel_rfl)) h0 bel lt0) trodAll_mk0), rfl, bel.frame _, fun h => by cases h⟩
theorem over : Rows.modelNoneRow.holds Try.pinned (OpenSpec.ofChange Rows.modelNoneSpec) :=
  OpenClaim.holds_of_wide 10 Try.f10 rfl rfl rfl rfl rfl rfl rfl ⟨rfl, rfl, rfl, rfl, rfl⟩ rfl rfl rfl rfl rfl (by kernel_rfl) Try.func10 (by kernel_rfl)
    (of_decide_eq_true (by kernel_rfl)) (by unfold Func.isWrapper; first | (rw [if_pos (by decide +kernel)]; kernel_rfl) | (rw [if_neg (by decide +kernel)]; exact ⟨rfl, rfl⟩))
    (fun os started H enc _ => lifted os started H enc)
end Go.Proofs.Ytnhblkjfpbhnnaa.modelNone
namespace Go.Proofs.Ytnhblkjfpbhnnaa
/-- The row. -/
theorem modelNone_holds : Rows.ModelNoneSaid := modelNone.over
#print axioms modelNone_holds
end Go.Proofs.Ytnhblkjfpbhnnaa
