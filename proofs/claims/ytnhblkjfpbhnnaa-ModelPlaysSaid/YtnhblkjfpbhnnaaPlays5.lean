/- ModelPlays returns true for every input: whatever is called, a model returns what the chapter says, and is in the state that it says. (Functions; at most 120 calls) Conditions: none. -/
import Derived.Test.YtnhblkjfpbhnnaaPlays4
import Derived.Test.YtnhblkjfpbhnnaaRows
import Derived.WalkKit
import Derived.ProofKit
import Derived.OpenShut
import Derived.ShutString
import Derived.ChangeOld
import Derived.Below
import Derived.SizedLaws
import Derived.Carry
set_option linter.unusedVariables false
set_option linter.unusedSimpArgs false
set_option linter.defProp false
/- looks and Same, where both sides are the same. -/
namespace Go.Cs.Try
open Go Go.Cs
set_option maxRecDepth 100000
set_option maxHeartbeats 8000000
section
variable {va vb : CV} {H : CHeap}
theorem l38_2 {w nr nd kd : Int} {p : Int → Int × Int} (d16 : ∀ j, run P 16 [va, .i w, .i j] H = some (pair2 (p j), H)) (d68 : ∀ j, run P 68 [vb, .i w, .i j] H = some (pair2 (p j), H)) (hn : 0 ≤ nr ∧ nr ≤ 1000)
    {sb : Nat} (hs : H[sb]? = some ⟨[.i nr, .i nd, .i kd], .rw, 0⟩) {E0 : Env} (h0 : E0 0 = va) (h1 : E0 1 = vb) (h2 : E0 2 = .i w) (h9 : E0 9 = .ptr sb 0) (h11 : E0 11 = .i (-1))
    {r : Option (CX × Env × CHeap)} (hr : den P (.loop C38_2) E0 H = r) : ∃ E', r = some (.exit 0, E', H) ∧ ∀ t, t ∉ wr C38_2 → E' t = E0 t := by
  obtain ⟨x', E', H', e, -, ⟨rfl, rfl⟩, fr⟩ := loop_at (p := P) (c := C38_2) (E0 := E0) (H0 := H) (fun k E H' => H' = H ∧ ∃ j : Int, E 11 = .i j ∧ -1 ≤ j ∧ j ≤ nr + 1 ∧ k = (nr + 1 - j).toNat) (fun x' E' H' => x' = .exit 0 ∧ H' = H) (by
      rintro k E H' hE ⟨rfl, j, e11, hj1, hj2, rfl⟩
      have e0 := (hE 0 (by decide +kernel)).trans h0
      have e1 := (hE 1 (by decide +kernel)).trans h1
      have e2 := (hE 2 (by decide +kernel)).trans h2
      have e9 := (hE 9 (by decide +kernel)).trans h9
      have d := d16 j
      have d' := d68 j
      unfold pair2 at d d'
      have hw : IntKind.i64.wrap (j + 1) = j + 1 := wrap_id (by omega)
      by_cases c : j ≤ nr
      · apply step_go (k' := (nr + 1 - (j + 1)).toNat)
        · simp (disch := first | omega | rfl | assumption | (simp only [csN, Nat.reduceAdd, Nat.reduceMul, Nat.reduceLeDiff, Nat.reduceEqDiff] <;> omega) | (simp only [csF]; done) | (simp only [csF] <;> assumption) | fail) only [Nat.reduceEqDiff, Nat.reduceAdd, Nat.reduceMul, Nat.reduceSub, Nat.reduceLeDiff, Int.reduceAdd, Int.reduceSub, Int.reduceMul, Int.reduceLT, Int.reduceLE, Int.reduceGT, Int.reduceGE, Int.reduceEq, Int.reduceBEq, Int.reduceBNe, Int.reduceNeg, Int.reduceToNat, csAll, ↓reduceIte, C38_2, e0, e1, e2, e9, e11, hs, d, d', hw]
          rfl
        · omega
        · exact ⟨rfl, j + 1, by simp [upd_apply], by omega, by omega, rfl⟩
      · apply step_out (x := .exit 0)
        · simp (disch := first | omega | rfl | assumption | (simp only [csN, Nat.reduceAdd, Nat.reduceMul, Nat.reduceLeDiff, Nat.reduceEqDiff] <;> omega) | (simp only [csF]; done) | (simp only [csF] <;> assumption) | fail) only [Nat.reduceEqDiff, Nat.reduceAdd, Nat.reduceMul, Nat.reduceSub, Nat.reduceLeDiff, Int.reduceAdd, Int.reduceSub, Int.reduceMul, Int.reduceLT, Int.reduceLE, Int.reduceGT, Int.reduceGE, Int.reduceEq, Int.reduceBEq, Int.reduceBNe, Int.reduceNeg, Int.reduceToNat, csAll, ↓reduceIte, C38_2, e9, e11, hs]
          rfl
        · simp
        · exact ⟨rfl, rfl⟩) (nr + 1 - -1).toNat ⟨rfl, -1, h11, by omega, by omega, rfl⟩
  exact ⟨E', hr.symm.trans e, fr⟩
theorem l38_1 {w nr nd kd : Int} {p : Int → Int × Int} (d16 : ∀ j, run P 47 [va, .i w, .i j] H = some (pair2 (p j), H)) (d68 : ∀ j, run P 69 [vb, .i w, .i j] H = some (pair2 (p j), H)) (hn : 0 ≤ nd ∧ nd ≤ 1000)
    {sb : Nat} (hs : H[sb]? = some ⟨[.i nr, .i nd, .i kd], .rw, 0⟩) {E0 : Env} (h0 : E0 0 = va) (h1 : E0 1 = vb) (h2 : E0 2 = .i w) (h9 : E0 9 = .ptr sb 0) (h11 : E0 16 = .i (-1))
    {r : Option (CX × Env × CHeap)} (hr : den P (.loop C38_1) E0 H = r) : ∃ E', r = some (.exit 2, E', H) := by
  obtain ⟨x', E', H', e, -, ⟨rfl, rfl⟩, fr⟩ := loop_at (p := P) (c := C38_1) (E0 := E0) (H0 := H) (fun k E H' => H' = H ∧ ∃ j : Int, E 16 = .i j ∧ -1 ≤ j ∧ j ≤ nd + 1 ∧ k = (nd + 1 - j).toNat) (fun x' E' H' => x' = .exit 2 ∧ H' = H) (by
      rintro k E H' hE ⟨rfl, j, e11, hj1, hj2, rfl⟩
      have e0 := (hE 0 (by decide +kernel)).trans h0
      have e1 := (hE 1 (by decide +kernel)).trans h1
      have e2 := (hE 2 (by decide +kernel)).trans h2
      have e9 := (hE 9 (by decide +kernel)).trans h9
      have d := d16 j
      have d' := d68 j
      unfold pair2 at d d'
      have hw : IntKind.i64.wrap (j + 1) = j + 1 := wrap_id (by omega)
      by_cases c : j ≤ nd
      · apply step_go (k' := (nd + 1 - (j + 1)).toNat)
        · simp (disch := first | omega | rfl | assumption | (simp only [csN, Nat.reduceAdd, Nat.reduceMul, Nat.reduceLeDiff, Nat.reduceEqDiff] <;> omega) | (simp only [csF]; done) | (simp only [csF] <;> assumption) | fail) only [Nat.reduceEqDiff, Nat.reduceAdd, Nat.reduceMul, Nat.reduceSub, Nat.reduceLeDiff, Int.reduceAdd, Int.reduceSub, Int.reduceMul, Int.reduceLT, Int.reduceLE, Int.reduceGT, Int.reduceGE, Int.reduceEq, Int.reduceBEq, Int.reduceBNe, Int.reduceNeg, Int.reduceToNat, csAll, ↓reduceIte, C38_1, e0, e1, e2, e9, e11, hs, d, d', hw]
          rfl
        · omega
        · exact ⟨rfl, j + 1, by simp [upd_apply], by omega, by omega, rfl⟩
      · apply step_out (x := .exit 2)
        · simp (disch := first | omega | rfl | assumption | (simp only [csN, Nat.reduceAdd, Nat.reduceMul, Nat.reduceLeDiff, Nat.reduceEqDiff] <;> omega) | (simp only [csF]; done) | (simp only [csF] <;> assumption) | fail) only [Nat.reduceEqDiff, Nat.reduceAdd, Nat.reduceMul, Nat.reduceSub, Nat.reduceLeDiff, Int.reduceAdd, Int.reduceSub, Int.reduceMul, Int.reduceLT, Int.reduceLE, Int.reduceGT, Int.reduceGE, Int.reduceEq, Int.reduceBEq, Int.reduceBNe, Int.reduceNeg, Int.reduceToNat, csAll, ↓reduceIte, C38_1, e9, e11, hs]
          rfl
        · simp
        · exact ⟨rfl, rfl⟩) (nd + 1 - -1).toNat ⟨rfl, -1, h11, by omega, by omega, rfl⟩
  exact ⟨E', hr.symm.trans e⟩
theorem f38 {o : Tags} {g g' a b : Nat} {M : Mdl} {La Lb : Lay} (ma : MRep o g H a M La) (mb : MRep o g' H b M Lb) (w : M.Ok) (n : Int) : ∃ H', run P 38 [.ptr a 0, .ptr b 0, .i n] H = some (.bool true, H') ∧ Gr H H' := by
  have d := f15 ma w n
  have gA : Gr H (H ++ [(⟨shape3 (M.shapeAt n).1, .rw, 0⟩ : Blk)] ++ [(⟨shape3 (M.shapeAt n).1, .rw, 0⟩ : Blk)]) := (Gr.app _ _).app' _
  have d' := f67 (mb.gr gA) w n
  have hb : 0 ≤ (M.shapeAt n).1.1 ∧ (M.shapeAt n).1.1 ≤ 1000 ∧ 0 ≤ (M.shapeAt n).1.2.1 ∧ (M.shapeAt n).1.2.1 ≤ 1000 := by
    unfold Mdl.shapeAt
    by_cases c : M.has n
    · rw [if_pos c]
      have h1 := (w.obj c).nr
      have h2 := (w.obj c).nd
      simp only
      omega
    · rw [if_neg c]; simp
  generalize (M.shapeAt n).2 = e at *
  generalize (M.shapeAt n).1 = s at *
  obtain ⟨nr, nd, kd⟩ := s
  unfold shape3 at *
  simp only at *
  have g : Gr H (H ++ [(⟨[.i nr, .i nd, .i kd], .rw, 0⟩ : Blk)] ++ [(⟨[.i nr, .i nd, .i kd], .rw, 0⟩ : Blk)] ++ [(⟨[.i nr, .i nd, .i kd], .rw, 0⟩ : Blk)] ++ [(⟨[.i nr, .i nd, .i kd], .rw, 0⟩ : Blk)]) := (((Gr.app _ _).app' _).app' _).app' _
  apply ex_gr _ g
  rw [run_lv c38]
  simp (disch := first | omega | rfl | assumption | (simp only [csN, Nat.reduceAdd, Nat.reduceMul, Nat.reduceLeDiff, Nat.reduceEqDiff] <;> omega) | (simp only [csF]; done) | (simp only [csF] <;> assumption) | fail) only [Nat.reduceEqDiff, Nat.reduceAdd, Nat.reduceMul, Nat.reduceSub, Nat.reduceLeDiff, Int.reduceAdd, Int.reduceSub, Int.reduceMul, Int.reduceLT, Int.reduceLE, Int.reduceGT, Int.reduceGE, Int.reduceEq, Int.reduceBEq, Int.reduceBNe, Int.reduceNeg, Int.reduceToNat, csAll, ↓reduceIte, C38, entry_3, d, d', eqs3]
  generalize hr : den P (.loop C38_2) _ _ = r
  obtain ⟨E1, rfl, k1⟩ := l38_2 (w := n) (sb := H.length + 3) (f16 (ma.gr g) w n) (f68 (mb.gr g) w n) ⟨hb.1, hb.2.1⟩ (look_last (by simp)) (by simp only [upd_apply, Nat.reduceEqDiff, ↓reduceIte]) (by simp only [upd_apply, Nat.reduceEqDiff, ↓reduceIte]) (by simp only [upd_apply, Nat.reduceEqDiff, ↓reduceIte]) (by simp only [upd_apply, Nat.reduceEqDiff, ↓reduceIte]) (by simp only [upd_apply, Nat.reduceEqDiff, ↓reduceIte]) hr
  have k0 := k1 0 (by decide +kernel)
  have k1' := k1 1 (by decide +kernel)
  have k2 := k1 2 (by decide +kernel)
  have k9 := k1 9 (by decide +kernel)
  simp only [upd_apply, Nat.reduceEqDiff, ↓reduceIte] at k0 k1' k2 k9
  simp (disch := first | omega | rfl | assumption | (simp only [csN, Nat.reduceAdd, Nat.reduceMul, Nat.reduceLeDiff, Nat.reduceEqDiff] <;> omega) | (simp only [csF]; done) | (simp only [csF] <;> assumption) | fail) only [Nat.reduceEqDiff, Nat.reduceAdd, Nat.reduceMul, Nat.reduceSub, Nat.reduceLeDiff, Int.reduceAdd, Int.reduceSub, Int.reduceMul, Int.reduceLT, Int.reduceLE, Int.reduceGT, Int.reduceGE, Int.reduceEq, Int.reduceBEq, Int.reduceBNe, Int.reduceNeg, Int.reduceToNat, csAll, ↓reduceIte]
  generalize hr2 : den P (.loop C38_1) _ _ = r2
  obtain ⟨E2, rfl⟩ := l38_1 (w := n) (sb := H.length + 3) (f47 (ma.gr g) w n) (f69 (mb.gr g) w n) ⟨hb.2.2.1, hb.2.2.2⟩ (look_last (by simp)) (by simp only [upd_apply, Nat.reduceEqDiff, ↓reduceIte, k0]) (by simp only [upd_apply, Nat.reduceEqDiff, ↓reduceIte, k1']) (by simp only [upd_apply, Nat.reduceEqDiff, ↓reduceIte, k2]) (by simp only [upd_apply, Nat.reduceEqDiff, ↓reduceIte, k9]) (by simp only [upd_apply, Nat.reduceEqDiff, ↓reduceIte]) hr2
  simp (disch := first | omega | rfl | assumption | (simp only [csN, Nat.reduceAdd, Nat.reduceMul, Nat.reduceLeDiff, Nat.reduceEqDiff] <;> omega) | (simp only [csF]; done) | (simp only [csF] <;> assumption) | fail) only [Nat.reduceEqDiff, Nat.reduceAdd, Nat.reduceMul, Nat.reduceSub, Nat.reduceLeDiff, Int.reduceAdd, Int.reduceSub, Int.reduceMul, Int.reduceLT, Int.reduceLE, Int.reduceGT, Int.reduceGE, Int.reduceEq, Int.reduceBEq, Int.reduceBNe, Int.reduceNeg, Int.reduceToNat, csAll, ↓reduceIte]

/-- What Same asks of both sides. -/
structure Twin (va vb : CV) (Q : CHeap → Prop) : Prop where
  gr : ∀ H H', Q H → Gr H H' → Q H'
  ptrs : (∃ a b, va = .ptr a 0 ∧ vb = .ptr b 0) ∨ (va = .nilPtr ∧ vb = .nilPtr)
  ns : ∃ n : Int, 0 ≤ n ∧ n ≤ 1000 ∧ ∀ H, Q H → run P 22 [va] H = some (.i n, H) ∧ run P 61 [vb] H = some (.i n, H)
  nb : ∃ n : Int, 0 ≤ n ∧ n ≤ 1000000 ∧ ∀ H, Q H → run P 23 [va] H = some (.i n, H) ∧ run P 62 [vb] H = some (.i n, H)
  qs : ∃ l : List Int, l.length ≤ 16777216 ∧ ∀ H, Q H → (∃ v H', run P 39 [va] H = some (v, H') ∧ Gr H H' ∧ IL 0 H' v l) ∧ (∃ v H', run P 63 [vb] H = some (v, H') ∧ Gr H H' ∧ IL 0 H' v l)
  ks : ∃ l : List Int, l.length ≤ 16777216 ∧ ∀ H, Q H → (∃ v H', run P 14 [va] H = some (v, H') ∧ Gr H H' ∧ IL 0 H' v l) ∧ (∃ v H', run P 64 [vb] H = some (v, H') ∧ Gr H H' ∧ IL 0 H' v l)
  slot : ∃ p : Int → Int → Int × Int, ∀ H i k, Q H → run P 25 [va, .i i, .i k] H = some (pair2 (p i k), H) ∧ run P 65 [vb, .i i, .i k] H = some (pair2 (p i k), H)
  glob : ∃ p : Int → Int × Int, ∀ H k, Q H → run P 37 [va, .i k] H = some (pair2 (p k), H) ∧ run P 66 [vb, .i k] H = some (pair2 (p k), H)
  look : ∀ H n, Q H → ∃ H', run P 38 [va, vb, .i n] H = some (.bool true, H') ∧ Gr H H'

theorem l36_1 {Q : CHeap → Prop} (tw : Twin va vb Q) (q : Q H) {E0 : Env} (h0 : E0 0 = va) (h1 : E0 1 = vb) (h16 : E0 16 = .i (-1))
    {r : Option (CX × Env × CHeap)} (hr : den P (.loop C36_1) E0 H = r) : ∃ E' H', r = some (.exit 6, E', H') ∧ Gr H H' := by
  obtain ⟨n, hn1, hn2, hn⟩ := tw.nb
  obtain ⟨x', E', H', e, -, ⟨rfl, g1⟩, fr⟩ := loop_at (p := P) (c := C36_1) (E0 := E0) (H0 := H) (fun k E H' => Gr H H' ∧ ∃ j : Int, E 16 = .i j ∧ -1 ≤ j ∧ j ≤ n + 2 ∧ k = (n + 2 - j).toNat) (fun x' E' H' => x' = .exit 6 ∧ Gr H H') (by
      rintro k E H' hE ⟨gr, j, e16, hj1, hj2, rfl⟩
      have e0 := (hE 0 (by decide +kernel)).trans h0
      have e1 := (hE 1 (by decide +kernel)).trans h1
      have qq := tw.gr _ _ q gr
      have d := (hn _ qq).2
      have hw1 : IntKind.i64.wrap (n + 1) = n + 1 := wrap_id (by omega)
      have hw : IntKind.i64.wrap (j + 1) = j + 1 := wrap_id (by omega)
      by_cases c : j ≤ n + 1
      · obtain ⟨H2, d38, g2⟩ := tw.look _ j qq
        apply step_go (k' := (n + 2 - (j + 1)).toNat)
        · simp (disch := first | omega | rfl | assumption | (simp only [csN, Nat.reduceAdd, Nat.reduceMul, Nat.reduceLeDiff, Nat.reduceEqDiff] <;> omega) | (simp only [csF]; done) | (simp only [csF] <;> assumption) | fail) only [Nat.reduceEqDiff, Nat.reduceAdd, Nat.reduceMul, Nat.reduceSub, Nat.reduceLeDiff, Int.reduceAdd, Int.reduceSub, Int.reduceMul, Int.reduceLT, Int.reduceLE, Int.reduceGT, Int.reduceGE, Int.reduceEq, Int.reduceBEq, Int.reduceBNe, Int.reduceNeg, Int.reduceToNat, csAll, ↓reduceIte, C36_1, e0, e1, e16, d, hw1, d38, hw]
          rfl
        · omega
        · exact ⟨gr.trans g2, j + 1, by simp [upd_apply], by omega, by omega, rfl⟩
      · apply step_out (x := .exit 6)
        · simp (disch := first | omega | rfl | assumption | (simp only [csN, Nat.reduceAdd, Nat.reduceMul, Nat.reduceLeDiff, Nat.reduceEqDiff] <;> omega) | (simp only [csF]; done) | (simp only [csF] <;> assumption) | fail) only [Nat.reduceEqDiff, Nat.reduceAdd, Nat.reduceMul, Nat.reduceSub, Nat.reduceLeDiff, Int.reduceAdd, Int.reduceSub, Int.reduceMul, Int.reduceLT, Int.reduceLE, Int.reduceGT, Int.reduceGE, Int.reduceEq, Int.reduceBEq, Int.reduceBNe, Int.reduceNeg, Int.reduceToNat, csAll, ↓reduceIte, C36_1, e0, e1, e16, d, hw1]
          rfl
        · simp
        · exact ⟨rfl, gr⟩) (n + 2 - -1).toNat ⟨.refl H, -1, h16, by omega, by omega, rfl⟩
  exact ⟨E', H', hr.symm.trans e, g1⟩
theorem l36_2 {Q : CHeap → Prop} (tw : Twin va vb Q) (q : Q H) {E0 : Env} (h0 : E0 0 = va) (h1 : E0 1 = vb) (h16 : E0 11 = .i (-1))
    {r : Option (CX × Env × CHeap)} (hr : den P (.loop C36_2) E0 H = r) : ∃ E', r = some (.exit 4, E', H) ∧ ∀ t, t ∉ wr C36_2 → E' t = E0 t := by
  obtain ⟨p, hp⟩ := tw.glob
  obtain ⟨x', E', H', e, -, ⟨rfl, rfl⟩, fr⟩ := loop_at (p := P) (c := C36_2) (E0 := E0) (H0 := H) (fun k E H' => H' = H ∧ ∃ j : Int, E 11 = .i j ∧ -1 ≤ j ∧ j ≤ 17 ∧ k = (17 - j).toNat) (fun x' E' H' => x' = .exit 4 ∧ H' = H) (by
      rintro k E H' hE ⟨rfl, j, e16, hj1, hj2, rfl⟩
      have e0 := (hE 0 (by decide +kernel)).trans h0
      have e1 := (hE 1 (by decide +kernel)).trans h1
      obtain ⟨d, d'⟩ := hp _ j q
      unfold pair2 at d d'
      have hw : IntKind.i64.wrap (j + 1) = j + 1 := wrap_id (by omega)
      by_cases c : j ≤ 16
      · apply step_go (k' := (17 - (j + 1)).toNat)
        · simp (disch := first | omega | rfl | assumption | (simp only [csN, Nat.reduceAdd, Nat.reduceMul, Nat.reduceLeDiff, Nat.reduceEqDiff] <;> omega) | (simp only [csF]; done) | (simp only [csF] <;> assumption) | fail) only [Nat.reduceEqDiff, Nat.reduceAdd, Nat.reduceMul, Nat.reduceSub, Nat.reduceLeDiff, Int.reduceAdd, Int.reduceSub, Int.reduceMul, Int.reduceLT, Int.reduceLE, Int.reduceGT, Int.reduceGE, Int.reduceEq, Int.reduceBEq, Int.reduceBNe, Int.reduceNeg, Int.reduceToNat, csAll, ↓reduceIte, C36_2, e0, e1, e16, d, d', hw]
          rfl
        · omega
        · exact ⟨rfl, j + 1, by simp [upd_apply], by omega, by omega, rfl⟩
      · apply step_out (x := .exit 4)
        · simp (disch := first | omega | rfl | assumption | (simp only [csN, Nat.reduceAdd, Nat.reduceMul, Nat.reduceLeDiff, Nat.reduceEqDiff] <;> omega) | (simp only [csF]; done) | (simp only [csF] <;> assumption) | fail) only [Nat.reduceEqDiff, Nat.reduceAdd, Nat.reduceMul, Nat.reduceSub, Nat.reduceLeDiff, Int.reduceAdd, Int.reduceSub, Int.reduceMul, Int.reduceLT, Int.reduceLE, Int.reduceGT, Int.reduceGE, Int.reduceEq, Int.reduceBEq, Int.reduceBNe, Int.reduceNeg, Int.reduceToNat, csAll, ↓reduceIte, C36_2, e0, e1, e16]
          rfl
        · simp
        · exact ⟨rfl, rfl⟩) (17 - -1).toNat ⟨rfl, -1, h16, by omega, by omega, rfl⟩
  exact ⟨E', hr.symm.trans e, fr⟩
theorem l36_3 {Q : CHeap → Prop} (tw : Twin va vb Q) (q : Q H) {i : Int} {E0 : Env} (h0 : E0 0 = va) (h1 : E0 1 = vb) (h5 : E0 5 = .i i) (h16 : E0 6 = .i (-1))
    {r : Option (CX × Env × CHeap)} (hr : den P (.loop C36_3) E0 H = r) : ∃ E', r = some (.exit 2, E', H) ∧ ∀ t, t ∉ wr C36_3 → E' t = E0 t := by
  obtain ⟨p, hp⟩ := tw.slot
  obtain ⟨x', E', H', e, -, ⟨rfl, rfl⟩, fr⟩ := loop_at (p := P) (c := C36_3) (E0 := E0) (H0 := H) (fun k E H' => H' = H ∧ ∃ j : Int, E 6 = .i j ∧ -1 ≤ j ∧ j ≤ 17 ∧ k = (17 - j).toNat) (fun x' E' H' => x' = .exit 2 ∧ H' = H) (by
      rintro k E H' hE ⟨rfl, j, e16, hj1, hj2, rfl⟩
      have e0 := (hE 0 (by decide +kernel)).trans h0
      have e1 := (hE 1 (by decide +kernel)).trans h1
      have e5 := (hE 5 (by decide +kernel)).trans h5
      obtain ⟨d, d'⟩ := hp _ i j q
      unfold pair2 at d d'
      have hw : IntKind.i64.wrap (j + 1) = j + 1 := wrap_id (by omega)
      by_cases c : j ≤ 16
      · apply step_go (k' := (17 - (j + 1)).toNat)
        · simp (disch := first | omega | rfl | assumption | (simp only [csN, Nat.reduceAdd, Nat.reduceMul, Nat.reduceLeDiff, Nat.reduceEqDiff] <;> omega) | (simp only [csF]; done) | (simp only [csF] <;> assumption) | fail) only [Nat.reduceEqDiff, Nat.reduceAdd, Nat.reduceMul, Nat.reduceSub, Nat.reduceLeDiff, Int.reduceAdd, Int.reduceSub, Int.reduceMul, Int.reduceLT, Int.reduceLE, Int.reduceGT, Int.reduceGE, Int.reduceEq, Int.reduceBEq, Int.reduceBNe, Int.reduceNeg, Int.reduceToNat, csAll, ↓reduceIte, C36_3, e0, e1, e5, e16, d, d', hw]
          rfl
        · omega
        · exact ⟨rfl, j + 1, by simp [upd_apply], by omega, by omega, rfl⟩
      · apply step_out (x := .exit 2)
        · simp (disch := first | omega | rfl | assumption | (simp only [csN, Nat.reduceAdd, Nat.reduceMul, Nat.reduceLeDiff, Nat.reduceEqDiff] <;> omega) | (simp only [csF]; done) | (simp only [csF] <;> assumption) | fail) only [Nat.reduceEqDiff, Nat.reduceAdd, Nat.reduceMul, Nat.reduceSub, Nat.reduceLeDiff, Int.reduceAdd, Int.reduceSub, Int.reduceMul, Int.reduceLT, Int.reduceLE, Int.reduceGT, Int.reduceGE, Int.reduceEq, Int.reduceBEq, Int.reduceBNe, Int.reduceNeg, Int.reduceToNat, csAll, ↓reduceIte, C36_3, e0, e1, e16]
          rfl
        · simp
        · exact ⟨rfl, rfl⟩) (17 - -1).toNat ⟨rfl, -1, h16, by omega, by omega, rfl⟩
  exact ⟨E', hr.symm.trans e, fr⟩
theorem l36_4 {Q : CHeap → Prop} (tw : Twin va vb Q) (q : Q H) {E0 : Env} (h0 : E0 0 = va) (h1 : E0 1 = vb) (h16 : E0 5 = .i (-1))
    {r : Option (CX × Env × CHeap)} (hr : den P (.loop C36_4) E0 H = r) : ∃ E', r = some (.exit 0, E', H) ∧ ∀ t, t ∉ wr C36_4 → E' t = E0 t := by
  obtain ⟨n, hn1, hn2, hn⟩ := tw.ns
  obtain ⟨x', E', H', e, -, ⟨rfl, rfl⟩, fr⟩ := loop_at (p := P) (c := C36_4) (E0 := E0) (H0 := H) (fun k E H' => H' = H ∧ ∃ j : Int, E 5 = .i j ∧ -1 ≤ j ∧ j ≤ n + 1 ∧ k = (n + 1 - j).toNat) (fun x' E' H' => x' = .exit 0 ∧ H' = H) (by
      rintro k E H' hE ⟨rfl, j, e5, hj1, hj2, rfl⟩
      have e0 := (hE 0 (by decide +kernel)).trans h0
      have e1 := (hE 1 (by decide +kernel)).trans h1
      have d := (hn _ q).2
      have hw : IntKind.i64.wrap (j + 1) = j + 1 := wrap_id (by omega)
      by_cases c : j ≤ n
      · have key : ∃ E2, den P C36_4 E H' = some (.normal, E2, H') ∧ E2 5 = .i (j + 1) := by
          simp (disch := first | omega | rfl | assumption | (simp only [csN, Nat.reduceAdd, Nat.reduceMul, Nat.reduceLeDiff, Nat.reduceEqDiff] <;> omega) | (simp only [csF]; done) | (simp only [csF] <;> assumption) | fail) only [Nat.reduceEqDiff, Nat.reduceAdd, Nat.reduceMul, Nat.reduceSub, Nat.reduceLeDiff, Int.reduceAdd, Int.reduceSub, Int.reduceMul, Int.reduceLT, Int.reduceLE, Int.reduceGT, Int.reduceGE, Int.reduceEq, Int.reduceBEq, Int.reduceBNe, Int.reduceNeg, Int.reduceToNat, csAll, ↓reduceIte, C36_4, e0, e1, e5, d]
          generalize hr2 : den P (.loop C36_3) _ _ = r2
          obtain ⟨E2, rfl, k2⟩ := l36_3 tw q (i := j) (by simp only [upd_apply, Nat.reduceEqDiff, ↓reduceIte, e0]) (by simp only [upd_apply, Nat.reduceEqDiff, ↓reduceIte, e1]) (by simp only [upd_apply, Nat.reduceEqDiff, ↓reduceIte, e5]) (by simp only [upd_apply, Nat.reduceEqDiff, ↓reduceIte]) hr2
          have k5 := k2 5 (by decide +kernel)
          simp only [upd_apply, Nat.reduceEqDiff, ↓reduceIte, e5] at k5
          simp (disch := first | omega | rfl | assumption | (simp only [csN, Nat.reduceAdd, Nat.reduceMul, Nat.reduceLeDiff, Nat.reduceEqDiff] <;> omega) | (simp only [csF]; done) | (simp only [csF] <;> assumption) | fail) only [Nat.reduceEqDiff, Nat.reduceAdd, Nat.reduceMul, Nat.reduceSub, Nat.reduceLeDiff, Int.reduceAdd, Int.reduceSub, Int.reduceMul, Int.reduceLT, Int.reduceLE, Int.reduceGT, Int.reduceGE, Int.reduceEq, Int.reduceBEq, Int.reduceBNe, Int.reduceNeg, Int.reduceToNat, csAll, ↓reduceIte, k5, hw]
          exact ⟨_, rfl, by simp [upd_apply]⟩
        obtain ⟨E2, a1, a2⟩ := key
        apply step_go (k' := (n + 1 - (j + 1)).toNat) a1
        · omega
        · exact ⟨rfl, j + 1, a2, by omega, by omega, rfl⟩
      · apply step_out (x := .exit 0)
        · simp (disch := first | omega | rfl | assumption | (simp only [csN, Nat.reduceAdd, Nat.reduceMul, Nat.reduceLeDiff, Nat.reduceEqDiff] <;> omega) | (simp only [csF]; done) | (simp only [csF] <;> assumption) | fail) only [Nat.reduceEqDiff, Nat.reduceAdd, Nat.reduceMul, Nat.reduceSub, Nat.reduceLeDiff, Int.reduceAdd, Int.reduceSub, Int.reduceMul, Int.reduceLT, Int.reduceLE, Int.reduceGT, Int.reduceGE, Int.reduceEq, Int.reduceBEq, Int.reduceBNe, Int.reduceNeg, Int.reduceToNat, csAll, ↓reduceIte, C36_4, e0, e1, e5, d]
          rfl
        · simp
        · exact ⟨rfl, rfl⟩) (n + 1 - -1).toNat ⟨rfl, -1, h16, by omega, by omega, rfl⟩
  exact ⟨E', hr.symm.trans e, fr⟩

/-- Same. -/
theorem f36 {Q : CHeap → Prop} (tw : Twin va vb Q) (q : Q H) : ∃ H', run P 36 [va, vb] H = some (.bool true, H') ∧ Gr H H' := by
  obtain ⟨n, hn1, hn2, hn⟩ := tw.ns
  obtain ⟨nb, hb1, hb2, hb⟩ := tw.nb
  obtain ⟨lq, lq1, hlq⟩ := tw.qs
  obtain ⟨lk, lk1, hlk⟩ := tw.ks
  obtain ⟨d22, d61⟩ := hn _ q
  obtain ⟨d23, d62⟩ := hb _ q
  obtain ⟨v1, H1, d39, g1, i1⟩ := (hlq _ q).1
  have q1 := tw.gr _ _ q g1
  obtain ⟨v2, H2, d63, g2, i2⟩ := (hlq _ q1).2
  have q2 := tw.gr _ _ q1 g2
  have d26 := f26 (i1.gr g2) i2 lq1
  rw [decide_eq_true (rfl : lq = lq)] at d26
  obtain ⟨v3, H3, d14, g3, i3⟩ := (hlk _ q2).1
  have q3 := tw.gr _ _ q2 g3
  obtain ⟨v4, H4, d64, g4, i4⟩ := (hlk _ q3).2
  have q4 := tw.gr _ _ q3 g4
  have d26' := f26 (i3.gr g4) i4 lk1
  rw [decide_eq_true (rfl : lk = lk)] at d26'
  have hff : (!(false == false)) = false := rfl
  have htt : (!(true == true)) = false := rfl
  have key : ∃ H', run P 36 [va, vb] H = some (.bool true, H') ∧ Gr H4 H' := by
    rcases tw.ptrs with ⟨a, b, rfl, rfl⟩ | ⟨rfl, rfl⟩
    · rw [run_lv c36]
      simp (disch := first | omega | rfl | assumption | (simp only [csN, Nat.reduceAdd, Nat.reduceMul, Nat.reduceLeDiff, Nat.reduceEqDiff] <;> omega) | (simp only [csF]; done) | (simp only [csF] <;> assumption) | fail) only [Nat.reduceEqDiff, Nat.reduceAdd, Nat.reduceMul, Nat.reduceSub, Nat.reduceLeDiff, Int.reduceAdd, Int.reduceSub, Int.reduceMul, Int.reduceLT, Int.reduceLE, Int.reduceGT, Int.reduceGE, Int.reduceEq, Int.reduceBEq, Int.reduceBNe, Int.reduceNeg, Int.reduceToNat, csAll, ↓reduceIte, C36, entry_2, d22, d61, d23, d62, d39, d63, d26, d14, d64, d26', hff, htt]
      generalize hr : den P (.loop C36_4) _ _ = r
      obtain ⟨E1, rfl, k1⟩ := l36_4 tw q4 (by simp only [upd_apply, Nat.reduceEqDiff, ↓reduceIte]) (by simp only [upd_apply, Nat.reduceEqDiff, ↓reduceIte]) (by simp only [upd_apply, Nat.reduceEqDiff, ↓reduceIte]) hr
      have t0 := k1 0 (by decide +kernel)
      have t1 := k1 1 (by decide +kernel)
      simp only [upd_apply, Nat.reduceEqDiff, ↓reduceIte] at t0 t1
      simp (disch := first | omega | rfl | assumption | (simp only [csN, Nat.reduceAdd, Nat.reduceMul, Nat.reduceLeDiff, Nat.reduceEqDiff] <;> omega) | (simp only [csF]; done) | (simp only [csF] <;> assumption) | fail) only [Nat.reduceEqDiff, Nat.reduceAdd, Nat.reduceMul, Nat.reduceSub, Nat.reduceLeDiff, Int.reduceAdd, Int.reduceSub, Int.reduceMul, Int.reduceLT, Int.reduceLE, Int.reduceGT, Int.reduceGE, Int.reduceEq, Int.reduceBEq, Int.reduceBNe, Int.reduceNeg, Int.reduceToNat, csAll, ↓reduceIte]
      generalize hr2 : den P (.loop C36_2) _ _ = r2
      obtain ⟨E2, rfl, k2⟩ := l36_2 tw q4 (by simp only [upd_apply, Nat.reduceEqDiff, ↓reduceIte, t0]) (by simp only [upd_apply, Nat.reduceEqDiff, ↓reduceIte, t1]) (by simp only [upd_apply, Nat.reduceEqDiff, ↓reduceIte]) hr2
      have u0 := k2 0 (by decide +kernel)
      have u1 := k2 1 (by decide +kernel)
      simp only [upd_apply, Nat.reduceEqDiff, ↓reduceIte, t0, t1] at u0 u1
      simp (disch := first | omega | rfl | assumption | (simp only [csN, Nat.reduceAdd, Nat.reduceMul, Nat.reduceLeDiff, Nat.reduceEqDiff] <;> omega) | (simp only [csF]; done) | (simp only [csF] <;> assumption) | fail) only [Nat.reduceEqDiff, Nat.reduceAdd, Nat.reduceMul, Nat.reduceSub, Nat.reduceLeDiff, Int.reduceAdd, Int.reduceSub, Int.reduceMul, Int.reduceLT, Int.reduceLE, Int.reduceGT, Int.reduceGE, Int.reduceEq, Int.reduceBEq, Int.reduceBNe, Int.reduceNeg, Int.reduceToNat, csAll, ↓reduceIte]
      generalize hr3 : den P (.loop C36_1) _ _ = r3
      obtain ⟨E3, H5, rfl, g5⟩ := l36_1 tw q4 (by simp only [upd_apply, Nat.reduceEqDiff, ↓reduceIte, u0]) (by simp only [upd_apply, Nat.reduceEqDiff, ↓reduceIte, u1]) (by simp only [upd_apply, Nat.reduceEqDiff, ↓reduceIte]) hr3
      simp (disch := first | omega | rfl | assumption | (simp only [csN, Nat.reduceAdd, Nat.reduceMul, Nat.reduceLeDiff, Nat.reduceEqDiff] <;> omega) | (simp only [csF]; done) | (simp only [csF] <;> assumption) | fail) only [Nat.reduceEqDiff, Nat.reduceAdd, Nat.reduceMul, Nat.reduceSub, Nat.reduceLeDiff, Int.reduceAdd, Int.reduceSub, Int.reduceMul, Int.reduceLT, Int.reduceLE, Int.reduceGT, Int.reduceGE, Int.reduceEq, Int.reduceBEq, Int.reduceBNe, Int.reduceNeg, Int.reduceToNat, csAll, ↓reduceIte]
      exact ⟨_, rfl, g5⟩
    · rw [run_lv c36]
      simp (disch := first | omega | rfl | assumption | (simp only [csN, Nat.reduceAdd, Nat.reduceMul, Nat.reduceLeDiff, Nat.reduceEqDiff] <;> omega) | (simp only [csF]; done) | (simp only [csF] <;> assumption) | fail) only [Nat.reduceEqDiff, Nat.reduceAdd, Nat.reduceMul, Nat.reduceSub, Nat.reduceLeDiff, Int.reduceAdd, Int.reduceSub, Int.reduceMul, Int.reduceLT, Int.reduceLE, Int.reduceGT, Int.reduceGE, Int.reduceEq, Int.reduceBEq, Int.reduceBNe, Int.reduceNeg, Int.reduceToNat, csAll, ↓reduceIte, C36, entry_2, d22, d61, d23, d62, d39, d63, d26, d14, d64, d26', hff, htt]
      generalize hr : den P (.loop C36_4) _ _ = r
      obtain ⟨E1, rfl, k1⟩ := l36_4 tw q4 (by simp only [upd_apply, Nat.reduceEqDiff, ↓reduceIte]) (by simp only [upd_apply, Nat.reduceEqDiff, ↓reduceIte]) (by simp only [upd_apply, Nat.reduceEqDiff, ↓reduceIte]) hr
      have t0 := k1 0 (by decide +kernel)
      have t1 := k1 1 (by decide +kernel)
      simp only [upd_apply, Nat.reduceEqDiff, ↓reduceIte] at t0 t1
      simp (disch := first | omega | rfl | assumption | (simp only [csN, Nat.reduceAdd, Nat.reduceMul, Nat.reduceLeDiff, Nat.reduceEqDiff] <;> omega) | (simp only [csF]; done) | (simp only [csF] <;> assumption) | fail) only [Nat.reduceEqDiff, Nat.reduceAdd, Nat.reduceMul, Nat.reduceSub, Nat.reduceLeDiff, Int.reduceAdd, Int.reduceSub, Int.reduceMul, Int.reduceLT, Int.reduceLE, Int.reduceGT, Int.reduceGE, Int.reduceEq, Int.reduceBEq, Int.reduceBNe, Int.reduceNeg, Int.reduceToNat, csAll, ↓reduceIte]
      generalize hr2 : den P (.loop C36_2) _ _ = r2
      obtain ⟨E2, rfl, k2⟩ := l36_2 tw q4 (by simp only [upd_apply, Nat.reduceEqDiff, ↓reduceIte, t0]) (by simp only [upd_apply, Nat.reduceEqDiff, ↓reduceIte, t1]) (by simp only [upd_apply, Nat.reduceEqDiff, ↓reduceIte]) hr2
      have u0 := k2 0 (by decide +kernel)
      have u1 := k2 1 (by decide +kernel)
      simp only [upd_apply, Nat.reduceEqDiff, ↓reduceIte, t0, t1] at u0 u1
      simp (disch := first | omega | rfl | assumption | (simp only [csN, Nat.reduceAdd, Nat.reduceMul, Nat.reduceLeDiff, Nat.reduceEqDiff] <;> omega) | (simp only [csF]; done) | (simp only [csF] <;> assumption) | fail) only [Nat.reduceEqDiff, Nat.reduceAdd, Nat.reduceMul, Nat.reduceSub, Nat.reduceLeDiff, Int.reduceAdd, Int.reduceSub, Int.reduceMul, Int.reduceLT, Int.reduceLE, Int.reduceGT, Int.reduceGE, Int.reduceEq, Int.reduceBEq, Int.reduceBNe, Int.reduceNeg, Int.reduceToNat, csAll, ↓reduceIte]
      generalize hr3 : den P (.loop C36_1) _ _ = r3
      obtain ⟨E3, H5, rfl, g5⟩ := l36_1 tw q4 (by simp only [upd_apply, Nat.reduceEqDiff, ↓reduceIte, u0]) (by simp only [upd_apply, Nat.reduceEqDiff, ↓reduceIte, u1]) (by simp only [upd_apply, Nat.reduceEqDiff, ↓reduceIte]) hr3
      simp (disch := first | omega | rfl | assumption | (simp only [csN, Nat.reduceAdd, Nat.reduceMul, Nat.reduceLeDiff, Nat.reduceEqDiff] <;> omega) | (simp only [csF]; done) | (simp only [csF] <;> assumption) | fail) only [Nat.reduceEqDiff, Nat.reduceAdd, Nat.reduceMul, Nat.reduceSub, Nat.reduceLeDiff, Int.reduceAdd, Int.reduceSub, Int.reduceMul, Int.reduceLT, Int.reduceLE, Int.reduceGT, Int.reduceGE, Int.reduceEq, Int.reduceBEq, Int.reduceBNe, Int.reduceNeg, Int.reduceToNat, csAll, ↓reduceIte]
      exact ⟨_, rfl, g5⟩
  obtain ⟨H', e, g⟩ := key
  exact ⟨H', e, (((g1.trans g2).trans g3).trans g4).trans g⟩

theorem Twin.models {o : Tags} {g g' a b : Nat} {M : Mdl} {La Lb : Lay} (w : M.Ok) : Twin (.ptr a 0) (.ptr b 0) (fun H => MRep o g H a M La ∧ MRep o g' H b M Lb) where
  gr := fun H H' h gr => ⟨h.1.gr gr, h.2.gr gr⟩
  ptrs := .inl ⟨a, b, rfl, rfl⟩
  ns := ⟨M.slots.length, by omega, by have := w.ns; omega, fun H h => ⟨f22 h.1 w, f61 h.2 w⟩⟩
  nb := ⟨M.objs.length, by omega, by have := w.few; omega, fun H h => ⟨f23 h.1 w, f62 h.2 w⟩⟩
  qs := ⟨M.queue, by have := w.q64.1; omega, fun H h => by
    obtain ⟨v, J, e, hh⟩ := f39 h.1 w
    obtain ⟨v', J', e', hh'⟩ := f63 h.2 w
    exact ⟨⟨v, _, e, .app _ _, hh.locMono (Nat.zero_le _)⟩, ⟨v', _, e', .app _ _, hh'.locMono (Nat.zero_le _)⟩⟩⟩
  ks := ⟨M.keptI, by have := klen w; omega, fun H h => by
    obtain ⟨v, H', e, hh1, hh2, hh⟩ := f14 h.1 w
    obtain ⟨v', H'', e', hh', i⟩ := f64 h.2 w
    exact ⟨⟨v, _, e, ⟨hh1, hh2⟩, hh.locMono (Nat.zero_le _)⟩, ⟨v', _, e', hh', i.locMono (Nat.zero_le _)⟩⟩⟩
  slot := ⟨M.slotAt, fun H i k h => ⟨f25 h.1 w i k, f65 h.2 w i k⟩⟩
  glob := ⟨M.globalAt, fun H k h => ⟨f37 h.1 w k, f66 h.2 w k⟩⟩
  look := fun H n h => f38 h.1 h.2 w n

theorem f61n {H : CHeap} : run P 61 [.nilPtr] H = some (.i 0, H) := by
  rw [run_lv c61]; simp (disch := first | omega | rfl | assumption | (simp only [csN, Nat.reduceAdd, Nat.reduceMul, Nat.reduceLeDiff, Nat.reduceEqDiff] <;> omega) | (simp only [csF]; done) | (simp only [csF] <;> assumption) | fail) only [Nat.reduceEqDiff, Nat.reduceAdd, Nat.reduceMul, Nat.reduceSub, Nat.reduceLeDiff, Int.reduceAdd, Int.reduceSub, Int.reduceMul, Int.reduceLT, Int.reduceLE, Int.reduceGT, Int.reduceGE, Int.reduceEq, Int.reduceBEq, Int.reduceBNe, Int.reduceNeg, Int.reduceToNat, csAll, ↓reduceIte, C61, entry_1, f54n]
theorem f62n {H : CHeap} : run P 62 [.nilPtr] H = some (.i 0, H) := by
  rw [run_lv c62]; simp (disch := first | omega | rfl | assumption | (simp only [csN, Nat.reduceAdd, Nat.reduceMul, Nat.reduceLeDiff, Nat.reduceEqDiff] <;> omega) | (simp only [csF]; done) | (simp only [csF] <;> assumption) | fail) only [Nat.reduceEqDiff, Nat.reduceAdd, Nat.reduceMul, Nat.reduceSub, Nat.reduceLeDiff, Int.reduceAdd, Int.reduceSub, Int.reduceMul, Int.reduceLT, Int.reduceLE, Int.reduceGT, Int.reduceGE, Int.reduceEq, Int.reduceBEq, Int.reduceBNe, Int.reduceNeg, Int.reduceToNat, csAll, ↓reduceIte, C62, entry_1, f54n]
theorem f63n {H : CHeap} : run P 63 [.nilPtr] H = some (.nilSlice, H) := by
  rw [run_lv c63]; simp (disch := first | omega | rfl | assumption | (simp only [csN, Nat.reduceAdd, Nat.reduceMul, Nat.reduceLeDiff, Nat.reduceEqDiff] <;> omega) | (simp only [csF]; done) | (simp only [csF] <;> assumption) | fail) only [Nat.reduceEqDiff, Nat.reduceAdd, Nat.reduceMul, Nat.reduceSub, Nat.reduceLeDiff, Int.reduceAdd, Int.reduceSub, Int.reduceMul, Int.reduceLT, Int.reduceLE, Int.reduceGT, Int.reduceGE, Int.reduceEq, Int.reduceBEq, Int.reduceBNe, Int.reduceNeg, Int.reduceToNat, csAll, ↓reduceIte, C63, entry_1, f54n]
theorem f64n {H : CHeap} : run P 64 [.nilPtr] H = some (.nilSlice, H) := by
  rw [run_lv c64]; simp (disch := first | omega | rfl | assumption | (simp only [csN, Nat.reduceAdd, Nat.reduceMul, Nat.reduceLeDiff, Nat.reduceEqDiff] <;> omega) | (simp only [csF]; done) | (simp only [csF] <;> assumption) | fail) only [Nat.reduceEqDiff, Nat.reduceAdd, Nat.reduceMul, Nat.reduceSub, Nat.reduceLeDiff, Int.reduceAdd, Int.reduceSub, Int.reduceMul, Int.reduceLT, Int.reduceLE, Int.reduceGT, Int.reduceGE, Int.reduceEq, Int.reduceBEq, Int.reduceBNe, Int.reduceNeg, Int.reduceToNat, csAll, ↓reduceIte, C64, entry_1, f54n]
theorem f65n {H : CHeap} {a b : CV} : run P 65 [.nilPtr, a, b] H = some (.tup [.i 0, .i 5], H) := by
  rw [run_lv c65]; simp (disch := first | omega | rfl | assumption | (simp only [csN, Nat.reduceAdd, Nat.reduceMul, Nat.reduceLeDiff, Nat.reduceEqDiff] <;> omega) | (simp only [csF]; done) | (simp only [csF] <;> assumption) | fail) only [Nat.reduceEqDiff, Nat.reduceAdd, Nat.reduceMul, Nat.reduceSub, Nat.reduceLeDiff, Int.reduceAdd, Int.reduceSub, Int.reduceMul, Int.reduceLT, Int.reduceLE, Int.reduceGT, Int.reduceGE, Int.reduceEq, Int.reduceBEq, Int.reduceBNe, Int.reduceNeg, Int.reduceToNat, csAll, ↓reduceIte, C65, entry_3, f54n]
theorem f66n {H : CHeap} {a : CV} : run P 66 [.nilPtr, a] H = some (.tup [.i 0, .i 5], H) := by
  rw [run_lv c66]; simp (disch := first | omega | rfl | assumption | (simp only [csN, Nat.reduceAdd, Nat.reduceMul, Nat.reduceLeDiff, Nat.reduceEqDiff] <;> omega) | (simp only [csF]; done) | (simp only [csF] <;> assumption) | fail) only [Nat.reduceEqDiff, Nat.reduceAdd, Nat.reduceMul, Nat.reduceSub, Nat.reduceLeDiff, Int.reduceAdd, Int.reduceSub, Int.reduceMul, Int.reduceLT, Int.reduceLE, Int.reduceGT, Int.reduceGE, Int.reduceEq, Int.reduceBEq, Int.reduceBNe, Int.reduceNeg, Int.reduceToNat, csAll, ↓reduceIte, C66, entry_2, f54n]
theorem Twin.none : Twin .nilPtr .nilPtr (fun _ => True) where
  gr := fun H H' h gr => trivial
  ptrs := .inr ⟨rfl, rfl⟩
  ns := ⟨0, by omega, by omega, fun H h => ⟨f22n (.inl rfl), f61n⟩⟩
  nb := ⟨0, by omega, by omega, fun H h => ⟨f23n (.inl rfl), f62n⟩⟩
  qs := ⟨[], by simp, fun H h => ⟨⟨_, H, f39n (.inl rfl), .refl H, IL.nil⟩, ⟨_, H, f63n, .refl H, IL.nil⟩⟩⟩
  ks := ⟨[], by simp, fun H h => ⟨⟨_, H, f14n (.inl rfl), .refl H, IL.nil⟩, ⟨_, H, f64n, .refl H, IL.nil⟩⟩⟩
  slot := ⟨fun _ _ => (0, 5), fun H i k h => ⟨f25n (.inl rfl), f65n⟩⟩
  glob := ⟨fun _ => (0, 5), fun H k h => ⟨f37n (.inl rfl), f66n⟩⟩
  look := fun H n h => f38n (.inl rfl) n
end
end Go.Cs.Try

/- play. -/
namespace Go.Cs
open Go
/-- What a call on both sides leaves. -/
structure Two (o : Tags) (H : CHeap) (o' : Tags) (H' : CHeap) (g g' : Nat) : Prop where
  steps : ∀ v l, Steps o H v l → Steps o' H' v l
  tags : ∀ N, g < N → g' < N → (∀ c t, o c = some t → t.1 < N) → ∀ c t, o' c = some t → t.1 < N
theorem Frm.low {g : Nat} {o o' : Tags} {H H' : CHeap} (f : Frm g o H o' H') {N : Nat} (h : g < N) (ho : ∀ c t, o c = some t → t.1 < N) : ∀ c t, o' c = some t → t.1 < N := fun c t ht => by
  by_cases hc : c < H.length
  · rw [f.tag c hc] at ht; exact ho c t ht
  · have := f.new c t ht (by omega); omega
theorem Frm.two {g g' : Nat} {o o1 o2 : Tags} {H H1 H2 : CHeap} (f : Frm g o H o1 H1) (f' : Frm g' o1 H1 o2 H2) : Two o H o2 H2 g g' :=
  ⟨fun v l st => (st.frm f).frm f', fun N h1 h2 ho => f'.low h2 (f.low h1 ho)⟩
/-- A call on both sides. -/
theorem two {o : Tags} {g g' a b : Nat} {H : CHeap} {M M' : Mdl} {La Lb : Lay} {v : CV} {r1 r2 : CHeap → Option (CV × CHeap)} (hgg : g ≠ g') (ma : MRep o g H a M La) (mb : MRep o g' H b M Lb)
    (d1 : Does o g H a M' v (r1 H)) (d2 : ∀ o H Lb, MRep o g' H b M Lb → Does o g' H b M' v (r2 H)) {c : Nat} {k : Blk} (hk : H[c]? = some k) (hc : o c = none) :
    ∃ H1 H2 o2 La2 Lb2, r1 H = some (v, H1) ∧ r2 H1 = some (v, H2) ∧ MRep o2 g H2 a M' La2 ∧ MRep o2 g' H2 b M' Lb2 ∧ H1[c]? = some k ∧ H2[c]? = some k ∧ Two o H o2 H2 g g' := by
  obtain ⟨H1, o1, L1, e1, m1, f1⟩ := d1
  obtain ⟨k1, n1⟩ := f1.kept hk hc
  obtain ⟨H2, o2, L2, e2, m2, f2⟩ := d2 _ _ _ (mb.other f1 hgg.symm m1.dom)
  obtain ⟨k2, n2⟩ := f2.kept k1 n1
  exact ⟨H1, H2, o2, L1, L2, e1, e2, m1.other f2 hgg m2.dom, m2, k1, k2, f1.two f2⟩
theorem told_len (M : Mdl) (mu : Int) (x : Act) : (M.doAct mu x).2.1.told.length ≤ 3 := by
  have ite : ∀ (c : Prop) [Decidable c] (a b : Mdl × Eff), a.2.told.length ≤ 3 → b.2.told.length ≤ 3 → (if c then a else b).2.told.length ≤ 3 := by
    intro c _ a b h1 h2; split <;> assumption
  unfold Mdl.doAct
  split
  · unfold Mdl.eff
    dsimp only
    iterate 11 refine ite _ _ _ (by simp [e0]) ?_
    simp
  · simp [e0]
/-- A new list outlives what the other side does. -/
theorem At.across {o o1 o2 : Tags} {g g' k : Nat} {H H1 H2 : CHeap} {v : CV} {e n : Nat} {cs : List CV} (h : At (Loc k) z3 H1 v e n cs) (hgg : g ≠ g') (f1 : Frm g o H o1 H1) (hk : H.length ≤ k) (f2 : Frm g' o1 H1 o2 H2) : At (Loc k) z3 H2 v e n cs :=
  h.grow fun c hc hl => f2.keep c hc fun x hx => by
    have := f1.new c _ hx (by have := (Loc_some.1 hl).1; omega)
    exact hgg this.symm
end Go.Cs
namespace Go.Cs.Try
open Go Go.Cs
set_option maxRecDepth 100000
set_option maxHeartbeats 8000000
section
variable {o : Tags} {g g' a b : Nat} {H : CHeap} {M : Mdl} {La Lb : Lay}
/-- play. -/
theorem f35 (hgg : g ≠ g') (ma : MRep o g H a M La) (mb : MRep o g' H b M Lb) (w : M.Ok) (hf : M.objs.length < 5000) (x : Stp) :
    ∃ H' o' La' Lb', run P 35 [.ptr a 0, .ptr b 0, .agg (stpCells x)] H = some (.bool true, H') ∧ MRep o' g H' a (M.step x).1 La' ∧ MRep o' g' H' b (M.step x).1 Lb' ∧ Two o H o' H' g g' := by
  have g0 : Gr H (H ++ [(⟨stpCells x, .rw, 0⟩ : Blk)]) := .app _ _
  have ma0 := ma.gr g0
  have mb0 := mb.gr g0
  have fr0 : Frm g o H o (H ++ [(⟨stpCells x, .rw, 0⟩ : Blk)]) := g0.frm ma.dom
  have b0 : (H ++ [(⟨stpCells x, .rw, 0⟩ : Blk)])[H.length]? = some ⟨stpCells x, .rw, 0⟩ := look_last rfl
  have n0 : o H.length = none := by
    cases h : o H.length with
    | none => rfl
    | some t => have := ma.dom _ _ h; omega
  have l0 : (H ++ [(⟨stpCells x, .rw, 0⟩ : Blk)]).length = H.length + 1 := by simp
  have st0 : ∀ {o2 H2}, Two o (H ++ [(⟨stpCells x, .rw, 0⟩ : Blk)]) o2 H2 g g' → Two o H o2 H2 g g' := fun t => ⟨fun v l s => t.steps v l (s.frm fr0), t.tags⟩
  generalize hA : H ++ [(⟨stpCells x, .rw, 0⟩ : Blk)] = HA at *
  have fin : ∀ {M' : Mdl} {H2 : CHeap} {o2 : Tags} {La2 Lb2 : Lay}, M' = (M.step x).1 → MRep o2 g H2 a M' La2 → MRep o2 g' H2 b M' Lb2 → Two o HA o2 H2 g g' → run P 35 [.ptr a 0, .ptr b 0, .agg (stpCells x)] H = some (.bool true, H2) →
      ∃ H' o' La' Lb', run P 35 [.ptr a 0, .ptr b 0, .agg (stpCells x)] H = some (.bool true, H') ∧ MRep o' g H' a (M.step x).1 La' ∧ MRep o' g' H' b (M.step x).1 Lb' ∧ Two o H o' H' g g' := by
    rintro M' H2 o2 La2 Lb2 rfl m1 m2 t e
    exact ⟨H2, o2, La2, Lb2, e, m1, m2, st0 t⟩
  by_cases k0 : x.k = 0
  · obtain ⟨H1, o1, L1, t1, e1, m1, fr1, a1⟩ := f40 (mu := x.mu) (x := x.act) ma0 w (by omega)
    obtain ⟨b1, n1⟩ := fr1.kept b0 n0
    have lf1 := a1.leaf
    generalize hM : (M.doAct x.mu x.act).1 = M1 at *
    generalize hr : (M.doAct x.mu x.act).2.2 = r1 at *
    generalize hE : (M.doAct x.mu x.act).2.1 = ef at *
    have mb1 := mb0.other fr1 hgg.symm m1.dom
    have gE1 : Gr H1 (H1 ++ [(⟨[t1, .i ef.o, .i ef.i, .i ef.old, .i ef.new, .i ef.made, .i ef.loaded], .rw, 0⟩ : Blk)]) := .app _ _
    have frE1 : Frm g o1 H1 o1 (H1 ++ [(⟨[t1, .i ef.o, .i ef.i, .i ef.old, .i ef.new, .i ef.made, .i ef.loaded], .rw, 0⟩ : Blk)]) := gE1.frm m1.dom
    have c1 : (H1 ++ [(⟨[t1, .i ef.o, .i ef.i, .i ef.old, .i ef.new, .i ef.made, .i ef.loaded], .rw, 0⟩ : Blk)])[H1.length]? = some ⟨[t1, .i ef.o, .i ef.i, .i ef.old, .i ef.new, .i ef.made, .i ef.loaded], .rw, 0⟩ := look_last rfl
    have cn1 : o1 H1.length = none := by
      cases h : o1 H1.length with
      | none => rfl
      | some t => have := m1.dom _ _ h; omega
    have bE1 := gE1.get b1
    have lE1 : (H1 ++ [(⟨[t1, .i ef.o, .i ef.i, .i ef.old, .i ef.new, .i ef.made, .i ef.loaded], .rw, 0⟩ : Blk)]).length = H1.length + 1 := by simp
    have mbE := mb1.gr gE1
    have maE := m1.gr gE1
    have aE := a1.gr gE1
    generalize hH1 : H1 ++ [(⟨[t1, .i ef.o, .i ef.i, .i ef.old, .i ef.new, .i ef.made, .i ef.loaded], .rw, 0⟩ : Blk)] = HE at *
    obtain ⟨H2, o2, L2, t2, e2, m2, fr2, a2⟩ := f55 (mu := x.mu) (x := x.act) mbE w (by omega)
    rw [hM] at m2
    rw [hr, hE] at e2
    rw [hE] at a2
    obtain ⟨b2, n2⟩ := fr2.kept bE1 n1
    obtain ⟨c2, cn2⟩ := fr2.kept c1 cn1
    have ma2 := maE.other fr2 hgg m2.dom
    have aA := aE.across hgg (fr1.trans frE1) (Nat.le_refl _) fr2
    have lf2 := a2.leaf
    have gE2 : Gr H2 (H2 ++ [(⟨[t2, .i ef.o, .i ef.i, .i ef.old, .i ef.new, .i ef.made, .i ef.loaded], .rw, 0⟩ : Blk)]) := .app _ _
    have d2 : (H2 ++ [(⟨[t2, .i ef.o, .i ef.i, .i ef.old, .i ef.new, .i ef.made, .i ef.loaded], .rw, 0⟩ : Blk)])[H2.length]? = some ⟨[t2, .i ef.o, .i ef.i, .i ef.old, .i ef.new, .i ef.made, .i ef.loaded], .rw, 0⟩ := look_last rfl
    have cE2 := gE2.get c2
    have told : ef.told.length ≤ 1000 := by have := told_len M x.mu x.act; rw [hE] at this; omega
    obtain ⟨H3, e56, g3⟩ := f56 (aA.gr gE2) (a2.gr gE2) told (x1 := ef.o) (x2 := ef.i) (x3 := ef.old) (x4 := ef.new) (x5 := ef.made) (x6 := ef.loaded)
    have gX := gE2.trans g3
    have fr3 := gX.frm (g := g') m2.dom
    refine fin (by unfold Mdl.step; rw [if_pos k0, hM]) (ma2.gr gX) (m2.gr gX) ((fr1.trans frE1).two (fr2.trans fr3)) ?_
    generalize hH2 : H2 ++ [(⟨[t2, .i ef.o, .i ef.i, .i ef.old, .i ef.new, .i ef.made, .i ef.loaded], .rw, 0⟩ : Blk)] = HF at *
    unfold effOf at e1 e2
    unfold actCells at e2
    unfold stpCells at *
    rw [run_lv c35]
    simp (disch := first | omega | rfl | assumption | (simp only [csN, Nat.reduceAdd, Nat.reduceMul, Nat.reduceLeDiff, Nat.reduceEqDiff] <;> omega) | (simp only [csF]; done) | (simp only [csF] <;> assumption) | fail) only [Nat.reduceEqDiff, Nat.reduceAdd, Nat.reduceMul, Nat.reduceSub, Nat.reduceLeDiff, Int.reduceAdd, Int.reduceSub, Int.reduceMul, Int.reduceLT, Int.reduceLE, Int.reduceGT, Int.reduceGE, Int.reduceEq, Int.reduceBEq, Int.reduceBNe, Int.reduceNeg, Int.reduceToNat, csAll, ↓reduceIte, C35, entry_3, hA, b0, e1, b1, hH1, c1, bE1, e2, c2, hH2, cE2, d2, e56]
  by_cases k1 : x.k = 1
  · obtain ⟨H1, H2, o2, La2, Lb2, e1, e2, m1, m2, b1, b2, tw⟩ := two (r1 := run P 29 [.ptr a 0]) (r2 := run P 57 [.ptr b 0]) hgg ma0 mb0 (f29 ma0 w) (fun o H Lb m => f57 m w) b0 n0
    refine fin (by unfold Mdl.step; rw [if_neg k0, if_pos k1]) m1 m2 tw ?_
    unfold stpCells at *
    rw [run_lv c35]
    simp (disch := first | omega | rfl | assumption | (simp only [csN, Nat.reduceAdd, Nat.reduceMul, Nat.reduceLeDiff, Nat.reduceEqDiff] <;> omega) | (simp only [csF]; done) | (simp only [csF] <;> assumption) | fail) only [Nat.reduceEqDiff, Nat.reduceAdd, Nat.reduceMul, Nat.reduceSub, Nat.reduceLeDiff, Int.reduceAdd, Int.reduceSub, Int.reduceMul, Int.reduceLT, Int.reduceLE, Int.reduceGT, Int.reduceGE, Int.reduceEq, Int.reduceBEq, Int.reduceBNe, Int.reduceNeg, Int.reduceToNat, csAll, ↓reduceIte, C35, entry_3, hA, b0, e1, e2, b1, b2]
  by_cases k2 : x.k = 2
  · obtain ⟨H1, H2, o2, La2, Lb2, e1, e2, m1, m2, b1, b2, tw⟩ := two (r1 := run P 18 [.ptr a 0, .i x.a]) (r2 := run P 58 [.ptr b 0, .i x.a]) hgg ma0 mb0 (f18 ma0 w x.a) (fun o H Lb m => f58 m w x.a) b0 n0
    refine fin (by unfold Mdl.step; rw [if_neg k0, if_neg k1, if_pos k2]) m1 m2 tw ?_
    unfold stpCells at *
    rw [run_lv c35]
    simp (disch := first | omega | rfl | assumption | (simp only [csN, Nat.reduceAdd, Nat.reduceMul, Nat.reduceLeDiff, Nat.reduceEqDiff] <;> omega) | (simp only [csF]; done) | (simp only [csF] <;> assumption) | fail) only [Nat.reduceEqDiff, Nat.reduceAdd, Nat.reduceMul, Nat.reduceSub, Nat.reduceLeDiff, Int.reduceAdd, Int.reduceSub, Int.reduceMul, Int.reduceLT, Int.reduceLE, Int.reduceGT, Int.reduceGE, Int.reduceEq, Int.reduceBEq, Int.reduceBNe, Int.reduceNeg, Int.reduceToNat, csAll, ↓reduceIte, C35, entry_3, hA, b0, e1, e2, b1, b2]
  by_cases k3 : x.k = 3
  · obtain ⟨H1, H2, o2, La2, Lb2, e1, e2, m1, m2, b1, b2, tw⟩ := two (r1 := run P 46 [.ptr a 0]) (r2 := run P 59 [.ptr b 0]) hgg ma0 mb0 (f46 ma0 w) (fun o H Lb m => f59 m w) b0 n0
    refine fin (by unfold Mdl.step; rw [if_neg k0, if_neg k1, if_neg k2, if_pos k3]) m1 m2 tw ?_
    unfold pair2 at e1 e2
    unfold stpCells at *
    rw [run_lv c35]
    simp (disch := first | omega | rfl | assumption | (simp only [csN, Nat.reduceAdd, Nat.reduceMul, Nat.reduceLeDiff, Nat.reduceEqDiff] <;> omega) | (simp only [csF]; done) | (simp only [csF] <;> assumption) | fail) only [Nat.reduceEqDiff, Nat.reduceAdd, Nat.reduceMul, Nat.reduceSub, Nat.reduceLeDiff, Int.reduceAdd, Int.reduceSub, Int.reduceMul, Int.reduceLT, Int.reduceLE, Int.reduceGT, Int.reduceGE, Int.reduceEq, Int.reduceBEq, Int.reduceBNe, Int.reduceNeg, Int.reduceToNat, csAll, ↓reduceIte, C35, entry_3, hA, b0, e1, e2, b1, b2]
  by_cases k4 : x.k = 4
  · obtain ⟨H1, H2, o2, La2, Lb2, e1, e2, m1, m2, b1, b2, tw⟩ := two (r1 := run P 17 [.ptr a 0, .i x.a, .i x.b, .i x.c]) (r2 := run P 60 [.ptr b 0, .i x.a, .i x.b, .i x.c]) hgg ma0 mb0 (f17 ma0 w x.a x.b x.c) (fun o H Lb m => f60 m w x.a x.b x.c) b0 n0
    refine fin (by unfold Mdl.step; rw [if_neg k0, if_neg k1, if_neg k2, if_neg k3, if_pos k4]) m1 m2 tw ?_
    unfold stpCells at *
    rw [run_lv c35]
    simp (disch := first | omega | rfl | assumption | (simp only [csN, Nat.reduceAdd, Nat.reduceMul, Nat.reduceLeDiff, Nat.reduceEqDiff] <;> omega) | (simp only [csF]; done) | (simp only [csF] <;> assumption) | fail) only [Nat.reduceEqDiff, Nat.reduceAdd, Nat.reduceMul, Nat.reduceSub, Nat.reduceLeDiff, Int.reduceAdd, Int.reduceSub, Int.reduceMul, Int.reduceLT, Int.reduceLE, Int.reduceGT, Int.reduceGE, Int.reduceEq, Int.reduceBEq, Int.reduceBNe, Int.reduceNeg, Int.reduceToNat, csAll, ↓reduceIte, C35, entry_3, hA, b0, e1, e2, b1, b2]
  · refine fin (by unfold Mdl.step; rw [if_neg k0, if_neg k1, if_neg k2, if_neg k3, if_neg k4]) ma0 mb0 ⟨fun _ _ s => s, fun _ _ _ h => h⟩ ?_
    unfold stpCells at *
    rw [run_lv c35]
    simp (disch := first | omega | rfl | assumption | (simp only [csN, Nat.reduceAdd, Nat.reduceMul, Nat.reduceLeDiff, Nat.reduceEqDiff] <;> omega) | (simp only [csF]; done) | (simp only [csF] <;> assumption) | fail) only [Nat.reduceEqDiff, Nat.reduceAdd, Nat.reduceMul, Nat.reduceSub, Nat.reduceLeDiff, Int.reduceAdd, Int.reduceSub, Int.reduceMul, Int.reduceLT, Int.reduceLE, Int.reduceGT, Int.reduceGE, Int.reduceEq, Int.reduceBEq, Int.reduceBNe, Int.reduceNeg, Int.reduceToNat, csAll, ↓reduceIte, C35, entry_3, hA, b0]
end
end Go.Cs.Try

/- ModelPlays. -/
namespace Go.Cs.Try
open Go Go.Cs
set_option maxRecDepth 100000
set_option maxHeartbeats 8000000
section
/-- The state of both sides. -/
def Duo (N : Nat) (H : CHeap) (v : CV) (l : List Stp) (a b : Nat) (o : Tags) (g g' : Nat) (M : Mdl) (La Lb : Lay) (j : Nat) : Prop :=
  g ≠ g' ∧ g < N ∧ g' < N ∧ MRep o g H a M La ∧ MRep o g' H b M Lb ∧ M.Ok ∧ M.objs.length ≤ j ∧ Steps o H v l ∧ ∀ c t, o c = some t → t.1 < N
theorem steps_k {cs : List CV} {i : Nat} {x : Stp} (h : (cs.drop (i * 13)).take 13 = stpCells x) : cs[i * 13]? = some (.i x.k) := by
  have h2 := congrArg (fun l => l[0]?) h
  simpa [List.getElem?_take, List.getElem?_drop, stpCells] using h2

theorem l9_1 {l : List Stp} {v : CV} (hl : l.length ≤ 120) {H : CHeap} {a b : Nat} {o : Tags} {g g' : Nat} {M : Mdl} {La Lb : Lay} (d : Duo 2 H v l a b o g g' M La Lb 0)
    {E0 : Env} (h1 : E0 1 = v) (h5 : E0 5 = .ptr a 0) (h7 : E0 7 = .ptr b 0) (h9 : E0 9 = .i 0)
    {r : Option (CX × Env × CHeap)} (hr : den P (.loop C9_1) E0 H = r) :
    ∃ E' H' a' b' o' g g' M La Lb, r = some (.exit 0, E', H') ∧ E' 5 = .ptr a' 0 ∧ E' 7 = .ptr b' 0 ∧ MRep o' g H' a' M La ∧ MRep o' g' H' b' M Lb ∧ M.Ok := by
  obtain ⟨x', E', H', e, -, ⟨rfl, a', b', o', g, g', M, La, Lb, t5, t7, m1, m2, w⟩, fr⟩ := loop_at (p := P) (c := C9_1) (E0 := E0) (H0 := H) (fun k E H' => ∃ j : Nat, E 9 = .i j ∧ j ≤ l.length ∧ k = l.length - j ∧ ∃ a b o g g' M La Lb, E 5 = .ptr a 0 ∧ E 7 = .ptr b 0 ∧ Duo (2 * j + 2) H' v l a b o g g' M La Lb j)
    (fun x' E' H' => x' = .exit 0 ∧ ∃ a b o g g' M La Lb, E' 5 = .ptr a 0 ∧ E' 7 = .ptr b 0 ∧ MRep o g H' a M La ∧ MRep o g' H' b M Lb ∧ M.Ok) (by
      rintro k E H hE ⟨j, e9, hj, rfl, a, b, o, g, g', M, La, Lb, e5, e7, hgg, hg1, hg2, ma, mb, w, ho, st, hN⟩
      have e1 := (hE 1 (by decide +kernel)).trans h1
      have hlen := st.len
      by_cases c : j < l.length
      · have hne : l ≠ [] := by rintro rfl; simp at c
        obtain ⟨sb, cap, t, cs, ev, q1, q2, q3⟩ := st.get hne
        obtain ⟨q4, q5⟩ := q3 j l[j] (List.getElem?_eq_getElem c)
        have q6 := steps_k q5
        have hw := wrapS j (by omega)
        rw [ev] at e1 hlen
        obtain ⟨w', w1, w2⟩ := w.step (x := l[j]) (by omega)
        by_cases k5 : l[j].k = 5
        · obtain ⟨xa, H1, o1, L1, d33, ma1, mxa, fr1⟩ := f33 (g' := 2 * j + 2) ma w (by omega) (by omega) (fun c k h => by have := hN c _ h; simp only at this; omega)
          have mb1 := mb.other fr1 (by omega) mxa.dom
          have hN1 : ∀ c t, o1 c = some t → t.1 < 2 * j + 3 := fr1.low (by omega) (fun c t h => by have := hN c t h; omega)
          obtain ⟨xb, H2, o2, L2, d34, mb2, mxb, fr2⟩ := f34 (g' := 2 * j + 3) mb1 w (by omega) (by omega) (fun c k h => by have := hN1 c _ h; simp only at this; omega)
          have mxa2 := mxa.other fr2 (by omega) mxb.dom
          have hN2 : ∀ c t, o2 c = some t → t.1 < 2 * j + 4 := fr2.low (by omega) (fun c t h => by have := hN1 c t h; omega)
          obtain ⟨r1, r2⟩ := fr1.kept q1 q2
          obtain ⟨s1, s2⟩ := fr2.kept r1 r2
          obtain ⟨H3, o3, La3, Lb3, d35, m1, m2, tw⟩ := f35 (g := 2 * j + 2) (g' := 2 * j + 3) (by omega) mxa2 mxb w (by omega) l[j]
          apply step_go (k' := l.length - (j + 1))
          · simp (disch := first | omega | rfl | assumption | (simp only [csN, Nat.reduceAdd, Nat.reduceMul, Nat.reduceLeDiff, Nat.reduceEqDiff] <;> omega) | (simp only [csF]; done) | (simp only [csF] <;> assumption) | fail) only [Nat.reduceEqDiff, Nat.reduceAdd, Nat.reduceMul, Nat.reduceSub, Nat.reduceLeDiff, Int.reduceAdd, Int.reduceSub, Int.reduceMul, Int.reduceLT, Int.reduceLE, Int.reduceGT, Int.reduceGE, Int.reduceEq, Int.reduceBEq, Int.reduceBNe, Int.reduceNeg, Int.reduceToNat, csAll, ↓reduceIte, C9_1, e1, e5, e7, e9, hlen, q1, q4, q5, q6, k5, d33, d34, s1, d35, hw]
            rfl
          · omega
          · exact ⟨j + 1, by simp [upd_apply], by omega, rfl, xa, xb, o3, 2 * j + 2, 2 * j + 3, _, La3, Lb3, by simp [upd_apply], by simp [upd_apply],
              by omega, by omega, by omega, m1, m2, w', by omega, tw.steps _ _ ((st.frm fr1).frm fr2), tw.tags _ (by omega) (by omega) (fun c t h => by have := hN2 c t h; omega)⟩
        · obtain ⟨H3, o3, La3, Lb3, d35, m1, m2, tw⟩ := f35 hgg ma mb w (by omega) l[j]
          apply step_go (k' := l.length - (j + 1))
          · simp (disch := first | omega | rfl | assumption | (simp only [csN, Nat.reduceAdd, Nat.reduceMul, Nat.reduceLeDiff, Nat.reduceEqDiff] <;> omega) | (simp only [csF]; done) | (simp only [csF] <;> assumption) | fail) only [Nat.reduceEqDiff, Nat.reduceAdd, Nat.reduceMul, Nat.reduceSub, Nat.reduceLeDiff, Int.reduceAdd, Int.reduceSub, Int.reduceMul, Int.reduceLT, Int.reduceLE, Int.reduceGT, Int.reduceGE, Int.reduceEq, Int.reduceBEq, Int.reduceBNe, Int.reduceNeg, Int.reduceToNat, csAll, ↓reduceIte, C9_1, e1, e5, e7, e9, hlen, q1, q4, q5, q6, d35, hw]
            rfl
          · omega
          · exact ⟨j + 1, by simp [upd_apply], by omega, rfl, a, b, o3, g, g', _, La3, Lb3, by simp [upd_apply, e5], by simp [upd_apply, e7],
              hgg, by omega, by omega, m1, m2, w', by omega, tw.steps _ _ st, tw.tags _ (by omega) (by omega) (fun c t h => by have := hN c t h; omega)⟩
      · apply step_out (x := .exit 0)
        · simp (disch := first | omega | rfl | assumption | (simp only [csN, Nat.reduceAdd, Nat.reduceMul, Nat.reduceLeDiff, Nat.reduceEqDiff] <;> omega) | (simp only [csF]; done) | (simp only [csF] <;> assumption) | fail) only [Nat.reduceEqDiff, Nat.reduceAdd, Nat.reduceMul, Nat.reduceSub, Nat.reduceLeDiff, Int.reduceAdd, Int.reduceSub, Int.reduceMul, Int.reduceLT, Int.reduceLE, Int.reduceGT, Int.reduceGE, Int.reduceEq, Int.reduceBEq, Int.reduceBNe, Int.reduceNeg, Int.reduceToNat, csAll, ↓reduceIte, C9_1, e1, e9, hlen]
          rfl
        · simp
        · exact ⟨rfl, a, b, o, g, g', M, La, Lb, by simp [upd_apply, e5], by simp [upd_apply, e7], ma, mb, w⟩) l.length ⟨0, h9, by omega, rfl, a, b, o, g, g', M, La, Lb, h5, h7, d⟩
  exact ⟨E', H', a', b', o', g, g', M, La, Lb, hr.symm.trans e, t5, t7, m1, m2, w⟩

/-- Where nobody made a model, nothing is played. -/
theorem l9_n {n : Nat} {v : CV} (hlen : ∀ H', vLen v H' = some (.i n, H')) {H : CHeap} {E0 : Env} (h1 : E0 1 = v) (h5 : E0 5 = .nilPtr) (h7 : E0 7 = .nilPtr) (h9 : E0 9 = .i 0)
    {r : Option (CX × Env × CHeap)} (hr : den P (.loop C9_1) E0 H = r) : ∃ E', r = some (.exit 0, E', H) ∧ E' 5 = .nilPtr ∧ E' 7 = .nilPtr := by
  obtain ⟨x', E', H', e, -, ⟨rfl, rfl, t5, t7⟩, fr⟩ := loop_at (p := P) (c := C9_1) (E0 := E0) (H0 := H) (fun k E H' => H' = H ∧ E = E0) (fun x' E' H' => x' = .exit 0 ∧ H' = H ∧ E' 5 = .nilPtr ∧ E' 7 = .nilPtr) (by
      rintro k E H' hE ⟨rfl, rfl⟩
      by_cases c : 0 < (n : Int)
      · apply step_out (x := .exit 0)
        · simp (disch := first | omega | rfl | assumption | (simp only [csN, Nat.reduceAdd, Nat.reduceMul, Nat.reduceLeDiff, Nat.reduceEqDiff] <;> omega) | (simp only [csF]; done) | (simp only [csF] <;> assumption) | fail) only [Nat.reduceEqDiff, Nat.reduceAdd, Nat.reduceMul, Nat.reduceSub, Nat.reduceLeDiff, Int.reduceAdd, Int.reduceSub, Int.reduceMul, Int.reduceLT, Int.reduceLE, Int.reduceGT, Int.reduceGE, Int.reduceEq, Int.reduceBEq, Int.reduceBNe, Int.reduceNeg, Int.reduceToNat, csAll, ↓reduceIte, C9_1, h1, h7, h9, hlen]
          rfl
        · simp
        · exact ⟨rfl, rfl, by simp [upd_apply, h5], by simp [upd_apply, h7]⟩
      · apply step_out (x := .exit 0)
        · simp (disch := first | omega | rfl | assumption | (simp only [csN, Nat.reduceAdd, Nat.reduceMul, Nat.reduceLeDiff, Nat.reduceEqDiff] <;> omega) | (simp only [csF]; done) | (simp only [csF] <;> assumption) | fail) only [Nat.reduceEqDiff, Nat.reduceAdd, Nat.reduceMul, Nat.reduceSub, Nat.reduceLeDiff, Int.reduceAdd, Int.reduceSub, Int.reduceMul, Int.reduceLT, Int.reduceLE, Int.reduceGT, Int.reduceGE, Int.reduceEq, Int.reduceBEq, Int.reduceBNe, Int.reduceNeg, Int.reduceToNat, csAll, ↓reduceIte, C9_1, h1, h7, h9, hlen]
          rfl
        · simp
        · exact ⟨rfl, rfl, by simp [upd_apply, h5], by simp [upd_apply, h7]⟩) 0 ⟨rfl, rfl⟩
  exact ⟨E', hr.symm.trans e, t5, t7⟩
/-- ModelPlays. -/
theorem f9 {o : Tags} {H : CHeap} {v : CV} {l : List Stp} (hd : ∀ c t, o c = some t → c < H.length) (hg : ∀ g c k, o c ≠ some (g, k)) (st : Steps o H v l) (nn : Int) :
    ∃ H', run P 9 [.i nn, v] H = some (.bool true, H') := by
  have e30 := f30' (H := H) st.len
  by_cases hl : l.length ≤ 120
  case neg =>
    obtain ⟨H2, e13⟩ := f13 (H := H)
    apply ex_run
    rw [run_lv c9]
    simp (disch := first | omega | rfl | assumption | (simp only [csN, Nat.reduceAdd, Nat.reduceMul, Nat.reduceLeDiff, Nat.reduceEqDiff] <;> omega) | (simp only [csF]; done) | (simp only [csF] <;> assumption) | fail) only [Nat.reduceEqDiff, Nat.reduceAdd, Nat.reduceMul, Nat.reduceSub, Nat.reduceLeDiff, Int.reduceAdd, Int.reduceSub, Int.reduceMul, Int.reduceLT, Int.reduceLE, Int.reduceGT, Int.reduceGE, Int.reduceEq, Int.reduceBEq, Int.reduceBNe, Int.reduceNeg, Int.reduceToNat, csAll, ↓reduceIte, C9, entry_2, e30, e13]
    rfl
  have hff : (!(false == false)) = false := rfl
  have htt : (!(true == true)) = false := rfl
  by_cases hn : 1 ≤ nn ∧ nn ≤ 4
  case neg =>
    have e31 := f31_no (H := H) hn
    have e32 := f32_no (H := H) hn
    obtain ⟨H1, e36, -⟩ := f36 (H := H) Twin.none trivial
    obtain ⟨H2, e13⟩ := f13 (H := H1)
    have key : ∃ H', run P 9 [.i nn, v] H = some (.bool true, H') := by
      rw [run_lv c9]
      simp (disch := first | omega | rfl | assumption | (simp only [csN, Nat.reduceAdd, Nat.reduceMul, Nat.reduceLeDiff, Nat.reduceEqDiff] <;> omega) | (simp only [csF]; done) | (simp only [csF] <;> assumption) | fail) only [Nat.reduceEqDiff, Nat.reduceAdd, Nat.reduceMul, Nat.reduceSub, Nat.reduceLeDiff, Int.reduceAdd, Int.reduceSub, Int.reduceMul, Int.reduceLT, Int.reduceLE, Int.reduceGT, Int.reduceGE, Int.reduceEq, Int.reduceBEq, Int.reduceBNe, Int.reduceNeg, Int.reduceToNat, csAll, ↓reduceIte, C9, entry_2, e30, e31, e32, hff, htt]
      generalize hr : den P (.loop C9_1) _ _ = r
      obtain ⟨E1, rfl, t5, t7⟩ := l9_n st.len (by simp only [upd_apply, Nat.reduceEqDiff, ↓reduceIte]) (by simp only [upd_apply, Nat.reduceEqDiff, ↓reduceIte]) (by simp only [upd_apply, Nat.reduceEqDiff, ↓reduceIte]) (by simp only [upd_apply, Nat.reduceEqDiff, ↓reduceIte]) hr
      apply ex_run
      simp (disch := first | omega | rfl | assumption | (simp only [csN, Nat.reduceAdd, Nat.reduceMul, Nat.reduceLeDiff, Nat.reduceEqDiff] <;> omega) | (simp only [csF]; done) | (simp only [csF] <;> assumption) | fail) only [Nat.reduceEqDiff, Nat.reduceAdd, Nat.reduceMul, Nat.reduceSub, Nat.reduceLeDiff, Int.reduceAdd, Int.reduceSub, Int.reduceMul, Int.reduceLT, Int.reduceLE, Int.reduceGT, Int.reduceGE, Int.reduceEq, Int.reduceBEq, Int.reduceBNe, Int.reduceNeg, Int.reduceToNat, csAll, ↓reduceIte, t5, t7, e36, e13] <;> rfl
    exact key
  obtain ⟨n, rfl⟩ : ∃ n : Nat, nn = (n : Int) := ⟨nn.toNat, by omega⟩
  obtain ⟨a, H1, o1, L1, e31, m1, fr1⟩ := f31 (g := 0) hd (hg 0) (n := n) (by omega)
  have hN1 : ∀ c t, o1 c = some t → t.1 < 1 := fr1.low (by omega) (fun c t h => absurd h (by obtain ⟨t1, t2⟩ := t; exact hg t1 c t2))
  obtain ⟨b, H2, o2, L2, e32, m2, fr2⟩ := f32 (g := 1) m1.dom (fun c k h => by have := hN1 c _ h; simp at this) (n := n) (by omega)
  have hN2 : ∀ c t, o2 c = some t → t.1 < 2 := fr2.low (by omega) (fun c t h => by have := hN1 c t h; omega)
  have m12 := m1.other fr2 (by omega) m2.dom
  have duo : Duo 2 H2 v l a b o2 0 1 (Mdl.new n) L1 L2 0 := ⟨by omega, by omega, by omega, m12, m2, Mdl.new_ok (by omega), by simp [Mdl.new], (st.frm fr1).frm fr2, hN2⟩
  rw [run_lv c9]
  simp (disch := first | omega | rfl | assumption | (simp only [csN, Nat.reduceAdd, Nat.reduceMul, Nat.reduceLeDiff, Nat.reduceEqDiff] <;> omega) | (simp only [csF]; done) | (simp only [csF] <;> assumption) | fail) only [Nat.reduceEqDiff, Nat.reduceAdd, Nat.reduceMul, Nat.reduceSub, Nat.reduceLeDiff, Int.reduceAdd, Int.reduceSub, Int.reduceMul, Int.reduceLT, Int.reduceLE, Int.reduceGT, Int.reduceGE, Int.reduceEq, Int.reduceBEq, Int.reduceBNe, Int.reduceNeg, Int.reduceToNat, csAll, ↓reduceIte, C9, entry_2, e30, e31, e32, hff, htt]
  generalize hr : den P (.loop C9_1) _ _ = r
  obtain ⟨E1, H3, a', b', o3, g, g', M, La, Lb, rfl, t5, t7, ma, mb, w⟩ := l9_1 hl duo (by simp only [upd_apply, Nat.reduceEqDiff, ↓reduceIte]) (by simp only [upd_apply, Nat.reduceEqDiff, ↓reduceIte]) (by simp only [upd_apply, Nat.reduceEqDiff, ↓reduceIte]) (by simp only [upd_apply, Nat.reduceEqDiff, ↓reduceIte]) hr
  obtain ⟨H4, e36, -⟩ := f36 (H := H3) (Twin.models (o := o3) (g := g) (g' := g') (a := a') (b := b') (La := La) (Lb := Lb) w) ⟨ma, mb⟩
  obtain ⟨H5, e13⟩ := f13 (H := H4)
  apply ex_run
  simp (disch := first | omega | rfl | assumption | (simp only [csN, Nat.reduceAdd, Nat.reduceMul, Nat.reduceLeDiff, Nat.reduceEqDiff] <;> omega) | (simp only [csF]; done) | (simp only [csF] <;> assumption) | fail) only [Nat.reduceEqDiff, Nat.reduceAdd, Nat.reduceMul, Nat.reduceSub, Nat.reduceLeDiff, Int.reduceAdd, Int.reduceSub, Int.reduceMul, Int.reduceLT, Int.reduceLE, Int.reduceGT, Int.reduceGE, Int.reduceEq, Int.reduceBEq, Int.reduceBNe, Int.reduceNeg, Int.reduceToNat, csAll, ↓reduceIte, t5, t7, e36, e13] <;> rfl
end
end Go.Cs.Try

/- The calls that a row's data hold. -/
namespace Go.Cs
open Go
abbrev stepKinds : List FK := List.replicate 13 (.int .i64)
theorem stp_of {x : List CV} (hx : x.length = 13) (h : ∀ (i : Nat) (k : FK), stepKinds[i]? = some k → ∃ c, x[i]? = some c ∧ k.fits c) : ∃ s : Stp, x = stpCells s := by
  obtain ⟨zs, hl, rfl⟩ := fits_i64 hx h
  match zs, hl with
  | [a, b, c, d, e, f, g, h, i, j, k, l, m], _ => exact ⟨⟨a, b, ⟨c, d, e, f, g, h, i, j⟩, k, l, m⟩, rfl⟩
theorem steps_of {H : CHeap} {cv : Nat → CV} {blk : Blk} {l : List (List CV)} (h : SlOf cv blk stepKinds l) {j : Nat} (hj : H[j]? = some blk) : ∃ l' : List Stp, Steps (fun _ => none) H (cv j) l' := by
  obtain ⟨h1, h2, h3⟩ := h
  obtain ⟨l', hl, hp⟩ := exists_fun (n := l.length) (p := fun i s => l[i]? = some (stpCells s)) fun i hi => by
    obtain ⟨e1, e2⟩ := h3 l[i] (List.getElem_mem _)
    obtain ⟨s, hs⟩ := stp_of e1 e2
    exact ⟨s, by rw [List.getElem?_eq_getElem hi, hs]⟩
  refine ⟨l', by rw [hl]; exact h1 j, fun hne => ?_⟩
  have hne' : l ≠ [] := by rintro rfl; exact hne (List.eq_nil_of_length_eq_zero hl)
  obtain ⟨⟨cap, -, q1⟩, q2, q3, q4⟩ := h2 hne'
  obtain ⟨cs, md, es⟩ := blk
  simp only at q2 q3
  refine ⟨j, cap, false, cs, by rw [hl]; exact q1 j, by rw [hj, q2, q3]; rfl, rfl, fun i x hx => ?_⟩
  exact q4 i _ (hp i x hx)
end Go.Cs

/- ModelPlays returns true for every input: whatever is called, a model returns what the chapter says, and is in the state that it says. (Functions; at most 120 calls) Conditions: none. -/
namespace Go.Proofs.Ytnhblkjfpbhnnaa.modelPlays
open Go Go.Cs Go.ChangeShapes Go.WideShapes Go.ChangeAt Go.RowKit
set_option linter.unusedVariables false
theorem own : ownKnob Try.prog.godebug = none := by kernel_rfl
theorem laidOut : laidOutB Try.prog = true := by kernel_rfl
theorem follows : Try.prog.follows .mixedOrders = true := by kernel_rfl
set_option maxRecDepth 100000 in
theorem lifted (os : Os) (started : os.Started) (H : Type) (enc : TypeId × Value → H) :
    ReturnsInHanded {} Try.checked os 9 .any (Rows.modelPlaysSpec.pre6 enc Try.prog Try.f9 Rows.modelPlaysRow.domain false) (Rows.modelPlaysSpec.post enc Try.prog Try.f9 false true false false) := by
  refine returnsInHanded_of_change_sized (C := Try.checked) own started (by kernel_rfl) Try.func9
    (ChangeSpec.witness6 (enc := enc) (C := Try.checked) false ⟨#[], #[.int .i64 0, .slice none 0 0], []⟩ 8 (by kernel_rfl) (by kernel_rfl) (by kernel_rfl) (by kernel_rfl)) ?_
  intro W base args ds gs before hval0 hW hcnd hsz0 _
  have hval : ∀ (j : Nat) t v, Try.f9.params[j]? = some t → args[j]? = some v → Value.okWide Try.prog W .any base t v := hval0
  have hW' := hW
  obtain ⟨p, q, hA0, hV, rfl, hfz, hnd⟩ := hW
  have hA : DataW.TrodAll enc Try.prog W 0 (fun _ => true) true Try.f9.params.toList args.toList ds p := hA0
  rw [Try.params9] at hA hval
  clear hA0 hval0 hsz0 hcnd
  obtain ⟨v0, vs0, d0, ds0, p0, q0, hargs, rfl, rfl, h0, r0⟩ := trodAll_cons hA
  obtain ⟨v1, vs1, d1, ds1, p1, q1, rfl, rfl, rfl, h1, r1⟩ := trodAll_cons r0
  obtain ⟨rfl, rfl, rfl⟩ := trodAll_nil r1
  obtain rfl : args = #[v0, v1] := by cases args; simp_all
  obtain ⟨rfl, rfl⟩ := trodVars_none hV
  obtain ⟨x0, rfl, rfl, rfl, w0⟩ := open_int (k := .i64) (show Try.prog.underlying 3 = some (.int .i64) from by kernel_rfl) (hval 0 3 v0 rfl rfl) h0
  have lt1 : ∀ x ∈ p1, x.block < W.heap.size := by obtain ⟨m, hm⟩ := h1; exact DataW.trod_lt m _ _ _ hm
  obtain ⟨x1, b1, g1, l1, vx1, bk1, so1⟩ := open_flat (n := 6) (ks := stepKinds) (show Try.prog.underlying 22 = some (.slice 43) from by kernel_rfl) (by kernel_rfl) (by kernel_rfl) (by decide) (hval 1 22 v1 rfl rfl) h1
  obtain ⟨s1, st1⟩ := steps_of (H := [b1]) so1 (j := 0) rfl
  obtain ⟨H1, hrun⟩ : ∃ H1, run (cprog Try.prog) 9 [.i x0, x1 0] [b1] = some (.bool true, H1) := Go.Cs.Try.f9 (fun _ _ h => by cases h) (fun _ _ _ h => by cases h) st1 x0
  have hb : ∀ b blk, [b1][b]? = some blk → BlkOk W blk ([g1].getD b none) := by
    intro b blk hb
    match b, hb with
    | 0, hb => simp at hb; subst hb; exact bk1
    | n + 1, hb => simp at hb
  refine (run_calls follows (tgs := [g1]) (W := W) (args' := #[.int .i64 x0, v1]) rfl hb hrun ?_).mono fun e W' he => ?_
  · simp only [VL]
    exact ⟨_, _, rfl, by simp [V], ⟨_, _, rfl, vx1 0 _ rfl, rfl⟩⟩
  obtain ⟨⟨ν, v', rfl, hv'⟩, bel⟩ := he
  simp only [V] at hv'
  subst hv'
  exact ⟨_, rfl, _, _, _, [], _, [], hW', trodAll_mk1 (shut_bool (show Try.prog.underlying 4 = some .bool from by kernel_rfl) _), (trodAll_cons_mk (shut_int (show Try.prog.underlying 3 = some (.int .i64) from by kernel_rfl) w0) (trodAll_cons_mk (Below.trod laidOut (by kernel_rfl) (of_decide_eq_true (by kernel_rfl)) h1 bel lt1) trodAll_mk0)), rfl, bel.frame _, fun h => by cases h⟩
theorem over : Rows.modelPlaysRow.holds Try.pinned (OpenSpec.ofChange Rows.modelPlaysSpec) :=
  OpenClaim.holds_of_wide 9 Try.f9 rfl rfl rfl rfl rfl rfl rfl ⟨rfl, rfl, rfl, rfl, rfl⟩ rfl rfl rfl rfl rfl (by kernel_rfl) Try.func9 (by kernel_rfl)
    (of_decide_eq_true (by kernel_rfl)) (by unfold Func.isWrapper; first | (rw [if_pos (by decide +kernel)]; kernel_rfl) | (rw [if_neg (by decide +kernel)]; exact ⟨rfl, rfl⟩))
    (fun os started H enc _ => lifted os started H enc)
end Go.Proofs.Ytnhblkjfpbhnnaa.modelPlays
namespace Go.Proofs.Ytnhblkjfpbhnnaa
/-- The row. -/
theorem modelPlays_holds : Rows.ModelPlaysSaid := modelPlays.over
#print axioms modelPlays_holds
end Go.Proofs.Ytnhblkjfpbhnnaa
