/- A part of the proof: ModelClones returns true for every input: a clone and the model do not change each other. (At most 120 calls) Conditions: none. -/
import Derived.Test.YtnhblkjfpbhnnaaClones2
set_option linter.unusedVariables false
set_option linter.unusedSimpArgs false
set_option linter.defProp false
/- What Do does: the walk. -/
namespace Go.Cs
/-- Whether a kind of acts uses slot B; which functions tell what it needs, its bound, and do it. -/
def wB (k : Int) : Bool := k == 1 || k == 2 || k == 5 || k == 7
def wN (k : Int) : Nat := if k = 1 then 82 else if k = 2 ∨ k = 3 ∨ k = 4 ∨ k = 11 then 86 else 80
def wU (k : Int) : Nat := if k = 1 then 83 else if k = 2 then 87 else if k = 3 ∨ k = 4 then 89 else if k = 9 ∨ k = 10 then 97 else 80
def wE (k : Int) : Nat := if k = 0 then 81 else if k = 1 then 84 else if k = 2 then 88 else if k = 3 then 90 else if k = 4 then 91 else if k = 5 then 93 else if k = 6 then 94 else if k = 7 then 95 else if k = 8 then 96 else if k = 9 then 98 else if k = 10 then 99 else 100
def wayCells : List CV := [.bool false, .func 80 [], .func 80 [], .func 81 [], .bool true, .func 82 [], .func 83 [], .func 84 [], .bool true, .func 86 [], .func 87 [], .func 88 [], .bool false, .func 86 [], .func 89 [], .func 90 [], .bool false, .func 86 [], .func 89 [], .func 91 [], .bool true, .func 80 [], .func 80 [], .func 93 [], .bool false, .func 80 [], .func 80 [], .func 94 [], .bool true, .func 80 [], .func 80 [], .func 95 [], .bool false, .func 80 [], .func 80 [], .func 96 [], .bool false, .func 80 [], .func 97 [], .func 98 [], .bool false, .func 80 [], .func 97 [], .func 99 [], .bool false, .func 86 [], .func 80 [], .func 100 []]
theorem wayLen : wayCells.length = 48 := rfl
theorem wayRow {k : Int} (h : 0 ≤ k ∧ k < 12) : (wayCells.drop (k.toNat * 4)).take 4 = [.bool (wB k), .func (wN k) [], .func (wU k) [], .func (wE k) []] := by
  have : k = 0 ∨ k = 1 ∨ k = 2 ∨ k = 3 ∨ k = 4 ∨ k = 5 ∨ k = 6 ∨ k = 7 ∨ k = 8 ∨ k = 9 ∨ k = 10 ∨ k = 11 := by omega
  rcases this with rfl | rfl | rfl | rfl | rfl | rfl | rfl | rfl | rfl | rfl | rfl | rfl <;> rfl

def validS (nr nd sk : Int) : Prop := 0 ≤ nr ∧ nr ≤ 15 ∧ 0 ≤ nd ∧ nd ≤ 200 ∧ 0 ≤ sk ∧ sk ≤ 3 ∧ (sk ≠ 1 ∨ 1 ≤ nr) ∧ (sk ≠ 2 ∨ 2 ≤ nr)
instance (nr nd sk : Int) : Decidable (validS nr nd sk) := by unfold validS; exact inferInstance
end Go.Cs
namespace Go.Cs.Try
open Go Go.Cs
set_option maxRecDepth 100000
set_option maxHeartbeats 8000000

/-- The ways. -/
theorem f70 {H : CHeap} : run P 70 [] H = some (.slice H.length 0 12 12 4 false, H ++ [⟨wayCells, .rw, 4⟩]) := by
  rw [run_lv c70]
  simp (disch := first | omega | rfl | assumption | (simp only [csN, Nat.reduceAdd, Nat.reduceMul, Nat.reduceLeDiff, Nat.reduceEqDiff] <;> omega) | (simp only [csF]; done) | (simp only [csF] <;> assumption) | fail) only [Nat.reduceEqDiff, Nat.reduceAdd, Nat.reduceMul, Nat.reduceSub, Nat.reduceLeDiff, Int.reduceAdd, Int.reduceSub, Int.reduceMul, Int.reduceLT, Int.reduceLE, Int.reduceGT, Int.reduceGE, Int.reduceEq, Int.reduceBEq, Int.reduceBNe, Int.reduceNeg, Int.reduceToNat, csAll, ↓reduceIte, C70, entry_0]
  rfl

/-- valid. -/
theorem f71 {nr nd sk : Int} {H : CHeap} : run P 71 [.agg [.i nr, .i nd, .i sk]] H = some (.bool (decide (validS nr nd sk)), H ++ [⟨[.i nr, .i nd, .i sk], .rw, 0⟩]) := by
  rw [run_lv c71]
  by_cases h0 : 0 ≤ nr
  case neg =>
    have hd : decide (validS nr nd sk) = false := decide_eq_false (fun h => by unfold validS at h; omega)
    simp (disch := first | omega | rfl | assumption | (simp only [csN, Nat.reduceAdd, Nat.reduceMul, Nat.reduceLeDiff, Nat.reduceEqDiff] <;> omega) | (simp only [csF]; done) | (simp only [csF] <;> assumption) | fail) only [Nat.reduceEqDiff, Nat.reduceAdd, Nat.reduceMul, Nat.reduceSub, Nat.reduceLeDiff, Int.reduceAdd, Int.reduceSub, Int.reduceMul, Int.reduceLT, Int.reduceLE, Int.reduceGT, Int.reduceGE, Int.reduceEq, Int.reduceBEq, Int.reduceBNe, Int.reduceNeg, Int.reduceToNat, csAll, ↓reduceIte, C71, entry_1, hd]
  by_cases h1 : nr ≤ 15
  case neg =>
    have hd : decide (validS nr nd sk) = false := decide_eq_false (fun h => by unfold validS at h; omega)
    simp (disch := first | omega | rfl | assumption | (simp only [csN, Nat.reduceAdd, Nat.reduceMul, Nat.reduceLeDiff, Nat.reduceEqDiff] <;> omega) | (simp only [csF]; done) | (simp only [csF] <;> assumption) | fail) only [Nat.reduceEqDiff, Nat.reduceAdd, Nat.reduceMul, Nat.reduceSub, Nat.reduceLeDiff, Int.reduceAdd, Int.reduceSub, Int.reduceMul, Int.reduceLT, Int.reduceLE, Int.reduceGT, Int.reduceGE, Int.reduceEq, Int.reduceBEq, Int.reduceBNe, Int.reduceNeg, Int.reduceToNat, csAll, ↓reduceIte, C71, entry_1, hd]
  by_cases h2 : 0 ≤ nd
  case neg =>
    have hd : decide (validS nr nd sk) = false := decide_eq_false (fun h => by unfold validS at h; omega)
    simp (disch := first | omega | rfl | assumption | (simp only [csN, Nat.reduceAdd, Nat.reduceMul, Nat.reduceLeDiff, Nat.reduceEqDiff] <;> omega) | (simp only [csF]; done) | (simp only [csF] <;> assumption) | fail) only [Nat.reduceEqDiff, Nat.reduceAdd, Nat.reduceMul, Nat.reduceSub, Nat.reduceLeDiff, Int.reduceAdd, Int.reduceSub, Int.reduceMul, Int.reduceLT, Int.reduceLE, Int.reduceGT, Int.reduceGE, Int.reduceEq, Int.reduceBEq, Int.reduceBNe, Int.reduceNeg, Int.reduceToNat, csAll, ↓reduceIte, C71, entry_1, hd]
  by_cases h3 : nd ≤ 200
  case neg =>
    have hd : decide (validS nr nd sk) = false := decide_eq_false (fun h => by unfold validS at h; omega)
    simp (disch := first | omega | rfl | assumption | (simp only [csN, Nat.reduceAdd, Nat.reduceMul, Nat.reduceLeDiff, Nat.reduceEqDiff] <;> omega) | (simp only [csF]; done) | (simp only [csF] <;> assumption) | fail) only [Nat.reduceEqDiff, Nat.reduceAdd, Nat.reduceMul, Nat.reduceSub, Nat.reduceLeDiff, Int.reduceAdd, Int.reduceSub, Int.reduceMul, Int.reduceLT, Int.reduceLE, Int.reduceGT, Int.reduceGE, Int.reduceEq, Int.reduceBEq, Int.reduceBNe, Int.reduceNeg, Int.reduceToNat, csAll, ↓reduceIte, C71, entry_1, hd]
  by_cases h4 : 0 ≤ sk
  case neg =>
    have hd : decide (validS nr nd sk) = false := decide_eq_false (fun h => by unfold validS at h; omega)
    simp (disch := first | omega | rfl | assumption | (simp only [csN, Nat.reduceAdd, Nat.reduceMul, Nat.reduceLeDiff, Nat.reduceEqDiff] <;> omega) | (simp only [csF]; done) | (simp only [csF] <;> assumption) | fail) only [Nat.reduceEqDiff, Nat.reduceAdd, Nat.reduceMul, Nat.reduceSub, Nat.reduceLeDiff, Int.reduceAdd, Int.reduceSub, Int.reduceMul, Int.reduceLT, Int.reduceLE, Int.reduceGT, Int.reduceGE, Int.reduceEq, Int.reduceBEq, Int.reduceBNe, Int.reduceNeg, Int.reduceToNat, csAll, ↓reduceIte, C71, entry_1, hd]
  by_cases h5 : sk ≤ 3
  case neg =>
    have hd : decide (validS nr nd sk) = false := decide_eq_false (fun h => by unfold validS at h; omega)
    simp (disch := first | omega | rfl | assumption | (simp only [csN, Nat.reduceAdd, Nat.reduceMul, Nat.reduceLeDiff, Nat.reduceEqDiff] <;> omega) | (simp only [csF]; done) | (simp only [csF] <;> assumption) | fail) only [Nat.reduceEqDiff, Nat.reduceAdd, Nat.reduceMul, Nat.reduceSub, Nat.reduceLeDiff, Int.reduceAdd, Int.reduceSub, Int.reduceMul, Int.reduceLT, Int.reduceLE, Int.reduceGT, Int.reduceGE, Int.reduceEq, Int.reduceBEq, Int.reduceBNe, Int.reduceNeg, Int.reduceToNat, csAll, ↓reduceIte, C71, entry_1, hd]
  by_cases h6 : sk = 1
  case pos =>
    by_cases h7 : 1 ≤ nr
    · have hd : decide (validS nr nd sk) = true := decide_eq_true (by unfold validS; omega)
      simp (disch := first | omega | rfl | assumption | (simp only [csN, Nat.reduceAdd, Nat.reduceMul, Nat.reduceLeDiff, Nat.reduceEqDiff] <;> omega) | (simp only [csF]; done) | (simp only [csF] <;> assumption) | fail) only [Nat.reduceEqDiff, Nat.reduceAdd, Nat.reduceMul, Nat.reduceSub, Nat.reduceLeDiff, Int.reduceAdd, Int.reduceSub, Int.reduceMul, Int.reduceLT, Int.reduceLE, Int.reduceGT, Int.reduceGE, Int.reduceEq, Int.reduceBEq, Int.reduceBNe, Int.reduceNeg, Int.reduceToNat, csAll, ↓reduceIte, C71, entry_1, hd]
    · have hd : decide (validS nr nd sk) = false := decide_eq_false (fun h => by unfold validS at h; omega)
      simp (disch := first | omega | rfl | assumption | (simp only [csN, Nat.reduceAdd, Nat.reduceMul, Nat.reduceLeDiff, Nat.reduceEqDiff] <;> omega) | (simp only [csF]; done) | (simp only [csF] <;> assumption) | fail) only [Nat.reduceEqDiff, Nat.reduceAdd, Nat.reduceMul, Nat.reduceSub, Nat.reduceLeDiff, Int.reduceAdd, Int.reduceSub, Int.reduceMul, Int.reduceLT, Int.reduceLE, Int.reduceGT, Int.reduceGE, Int.reduceEq, Int.reduceBEq, Int.reduceBNe, Int.reduceNeg, Int.reduceToNat, csAll, ↓reduceIte, C71, entry_1, hd]
  by_cases h8 : sk = 2
  case pos =>
    by_cases h7 : 2 ≤ nr
    · have hd : decide (validS nr nd sk) = true := decide_eq_true (by unfold validS; omega)
      simp (disch := first | omega | rfl | assumption | (simp only [csN, Nat.reduceAdd, Nat.reduceMul, Nat.reduceLeDiff, Nat.reduceEqDiff] <;> omega) | (simp only [csF]; done) | (simp only [csF] <;> assumption) | fail) only [Nat.reduceEqDiff, Nat.reduceAdd, Nat.reduceMul, Nat.reduceSub, Nat.reduceLeDiff, Int.reduceAdd, Int.reduceSub, Int.reduceMul, Int.reduceLT, Int.reduceLE, Int.reduceGT, Int.reduceGE, Int.reduceEq, Int.reduceBEq, Int.reduceBNe, Int.reduceNeg, Int.reduceToNat, csAll, ↓reduceIte, C71, entry_1, hd]
    · have hd : decide (validS nr nd sk) = false := decide_eq_false (fun h => by unfold validS at h; omega)
      simp (disch := first | omega | rfl | assumption | (simp only [csN, Nat.reduceAdd, Nat.reduceMul, Nat.reduceLeDiff, Nat.reduceEqDiff] <;> omega) | (simp only [csF]; done) | (simp only [csF] <;> assumption) | fail) only [Nat.reduceEqDiff, Nat.reduceAdd, Nat.reduceMul, Nat.reduceSub, Nat.reduceLeDiff, Int.reduceAdd, Int.reduceSub, Int.reduceMul, Int.reduceLT, Int.reduceLE, Int.reduceGT, Int.reduceGE, Int.reduceEq, Int.reduceBEq, Int.reduceBNe, Int.reduceNeg, Int.reduceToNat, csAll, ↓reduceIte, C71, entry_1, hd]
  have hd : decide (validS nr nd sk) = true := decide_eq_true (by unfold validS; omega)
  simp (disch := first | omega | rfl | assumption | (simp only [csN, Nat.reduceAdd, Nat.reduceMul, Nat.reduceLeDiff, Nat.reduceEqDiff] <;> omega) | (simp only [csF]; done) | (simp only [csF] <;> assumption) | fail) only [Nat.reduceEqDiff, Nat.reduceAdd, Nat.reduceMul, Nat.reduceSub, Nat.reduceLeDiff, Int.reduceAdd, Int.reduceSub, Int.reduceMul, Int.reduceLT, Int.reduceLE, Int.reduceGT, Int.reduceGE, Int.reduceEq, Int.reduceBEq, Int.reduceBNe, Int.reduceNeg, Int.reduceToNat, csAll, ↓reduceIte, C71, entry_1, hd]

/-- What Do looks at. -/
structure DoAt (b : Nat) (H : CHeap) (n bs : Nat) (t2 : Bool) (gl qv ov : CV) (svs : List CV) : Prop where
  made : ∀ J, run P 41 [.ptr b 0] (H ++ J) = some (.bool true, H ++ J)
  blk : H[b]? = some ⟨[.slice bs 0 n n 1 t2, gl, qv, ov], .rw, 0⟩
  sls : H[bs]? = some ⟨svs, .rw, 1⟩

section
variable {b : Nat} {H : CHeap} {x : Act} {mu : Int} {n sb bs : Nat} {tl t2 : Bool} {gl qv ov : CV} {svs : List CV} {s : List Int}

theorem d_mu (D : DoAt b H n bs t2 gl qv ov svs) (c : ¬ (0 ≤ mu ∧ mu < (n : Int)) ∨ ¬ (0 ≤ x.k ∧ x.k < 12)) :
    run P 40 [.ptr b 0, .i mu, .agg [.i x.k, .i x.a, .i x.b, .i x.i, .i x.n, .i x.nr, .i x.nd, .i x.sk]] H = some (.tup [.agg zEff, .i 1], H ++ [⟨[.i x.k, .i x.a, .i x.b, .i x.i, .i x.n, .i x.nr, .i x.nd, .i x.sk], .rw, 0⟩] ++ [⟨zEff, .rw, 0⟩] ++ [⟨wayCells, .rw, 4⟩]) := by
  have h1 : ∀ J, run P 41 [.ptr b 0] (H ++ J) = some (.bool true, H ++ J) := D.made
  have h1' := h1 ([⟨[.i x.k, .i x.a, .i x.b, .i x.i, .i x.n, .i x.nr, .i x.nd, .i x.sk], .rw, 0⟩] ++ [⟨zEff, .rw, 0⟩])
  rw [← List.append_assoc] at h1'
  have h2 := D.blk
  have h3 := D.sls
  have hl2 := lt_of_get h2
  have hl3 := lt_of_get h3
  have hw := wayLen
  rw [run_lv c40]
  by_cases m0 : 0 ≤ mu
  · by_cases m1 : mu < (n : Int)
    · by_cases k0 : 0 ≤ x.k
      · simp (disch := first | omega | rfl | assumption | (simp only [csN, Nat.reduceAdd, Nat.reduceMul, Nat.reduceLeDiff, Nat.reduceEqDiff] <;> omega) | (simp only [csF]; done) | (simp only [csF] <;> assumption) | fail) only [Nat.reduceEqDiff, Nat.reduceAdd, Nat.reduceMul, Nat.reduceSub, Nat.reduceLeDiff, Int.reduceAdd, Int.reduceSub, Int.reduceMul, Int.reduceLT, Int.reduceLE, Int.reduceGT, Int.reduceGE, Int.reduceEq, Int.reduceBEq, Int.reduceBNe, Int.reduceNeg, Int.reduceToNat, csAll, ↓reduceIte, C40, entry_3, h1', h2, h3, f70, hw]
      · simp (disch := first | omega | rfl | assumption | (simp only [csN, Nat.reduceAdd, Nat.reduceMul, Nat.reduceLeDiff, Nat.reduceEqDiff] <;> omega) | (simp only [csF]; done) | (simp only [csF] <;> assumption) | fail) only [Nat.reduceEqDiff, Nat.reduceAdd, Nat.reduceMul, Nat.reduceSub, Nat.reduceLeDiff, Int.reduceAdd, Int.reduceSub, Int.reduceMul, Int.reduceLT, Int.reduceLE, Int.reduceGT, Int.reduceGE, Int.reduceEq, Int.reduceBEq, Int.reduceBNe, Int.reduceNeg, Int.reduceToNat, csAll, ↓reduceIte, C40, entry_3, h1', h2, h3, f70, hw]
    · simp (disch := first | omega | rfl | assumption | (simp only [csN, Nat.reduceAdd, Nat.reduceMul, Nat.reduceLeDiff, Nat.reduceEqDiff] <;> omega) | (simp only [csF]; done) | (simp only [csF] <;> assumption) | fail) only [Nat.reduceEqDiff, Nat.reduceAdd, Nat.reduceMul, Nat.reduceSub, Nat.reduceLeDiff, Int.reduceAdd, Int.reduceSub, Int.reduceMul, Int.reduceLT, Int.reduceLE, Int.reduceGT, Int.reduceGE, Int.reduceEq, Int.reduceBEq, Int.reduceBNe, Int.reduceNeg, Int.reduceToNat, csAll, ↓reduceIte, C40, entry_3, h1', h2, h3, f70, hw]
  · simp (disch := first | omega | rfl | assumption | (simp only [csN, Nat.reduceAdd, Nat.reduceMul, Nat.reduceLeDiff, Nat.reduceEqDiff] <;> omega) | (simp only [csF]; done) | (simp only [csF] <;> assumption) | fail) only [Nat.reduceEqDiff, Nat.reduceAdd, Nat.reduceMul, Nat.reduceSub, Nat.reduceLeDiff, Int.reduceAdd, Int.reduceSub, Int.reduceMul, Int.reduceLT, Int.reduceLE, Int.reduceGT, Int.reduceGE, Int.reduceEq, Int.reduceBEq, Int.reduceBNe, Int.reduceNeg, Int.reduceToNat, csAll, ↓reduceIte, C40, entry_3, h1', h2, h3, f70, hw]

theorem d_slot (D : DoAt b H n bs t2 gl qv ov svs) {wb : Bool} (hwB : wB x.k = wb) (c : 0 ≤ mu ∧ mu < (n : Int) ∧ 0 ≤ x.k ∧ x.k < 12) (hsv : svs[mu.toNat]? = some (.slice sb 0 16 16 1 tl)) (ca : ¬ (0 ≤ x.a ∧ x.a < 16) ∨ (wb = true ∧ ¬ (0 ≤ x.b ∧ x.b < 16))) :
    run P 40 [.ptr b 0, .i mu, .agg [.i x.k, .i x.a, .i x.b, .i x.i, .i x.n, .i x.nr, .i x.nd, .i x.sk]] H = some (.tup [.agg zEff, .i 1], H ++ [⟨[.i x.k, .i x.a, .i x.b, .i x.i, .i x.n, .i x.nr, .i x.nd, .i x.sk], .rw, 0⟩] ++ [⟨zEff, .rw, 0⟩] ++ [⟨wayCells, .rw, 4⟩] ++ [⟨[.bool wb, .func (wN x.k) [], .func (wU x.k) [], .func (wE x.k) []], .rw, 0⟩] ++ [⟨[.i x.k, .i x.a, .i x.b, .i x.i, .i x.n, .i x.nr, .i x.nd, .i x.sk, .ptr b 0, .slice sb 0 16 16 1 tl], .rw, 0⟩]) := by
  have h1 : ∀ J, run P 41 [.ptr b 0] (H ++ J) = some (.bool true, H ++ J) := D.made
  have h1' := h1 ([⟨[.i x.k, .i x.a, .i x.b, .i x.i, .i x.n, .i x.nr, .i x.nd, .i x.sk], .rw, 0⟩] ++ [⟨zEff, .rw, 0⟩])
  rw [← List.append_assoc] at h1'
  have h2 := D.blk
  have h3 := D.sls
  have hl2 := lt_of_get h2
  have hl3 := lt_of_get h3
  have hw := wayLen
  rw [run_lv c40]
  obtain ⟨c1, c2, c3, c4⟩ := c
  have hrow := wayRow ⟨c3, c4⟩
  rw [hwB] at hrow
  by_cases ha : 0 ≤ x.a ∧ x.a < 16
  · have ha' : decide (0 ≤ x.a ∧ x.a < 16) = true := decide_eq_true ha
    have hwb := (ca.resolve_left (fun h => h ha)).1
    subst hwb
    have hb' : decide (0 ≤ x.b ∧ x.b < 16) = false := decide_eq_false (ca.resolve_left (fun h => h ha)).2
    simp (disch := first | omega | rfl | assumption | (simp only [csN, Nat.reduceAdd, Nat.reduceMul, Nat.reduceLeDiff, Nat.reduceEqDiff] <;> omega) | (simp only [csF]; done) | (simp only [csF] <;> assumption) | fail) only [Nat.reduceEqDiff, Nat.reduceAdd, Nat.reduceMul, Nat.reduceSub, Nat.reduceLeDiff, Int.reduceAdd, Int.reduceSub, Int.reduceMul, Int.reduceLT, Int.reduceLE, Int.reduceGT, Int.reduceGE, Int.reduceEq, Int.reduceBEq, Int.reduceBNe, Int.reduceNeg, Int.reduceToNat, csAll, ↓reduceIte, C40, entry_3, h1', h2, h3, f70, hw, hrow, hsv, f48, ha', hb']
  · have ha' : decide (0 ≤ x.a ∧ x.a < 16) = false := decide_eq_false ha
    simp (disch := first | omega | rfl | assumption | (simp only [csN, Nat.reduceAdd, Nat.reduceMul, Nat.reduceLeDiff, Nat.reduceEqDiff] <;> omega) | (simp only [csF]; done) | (simp only [csF] <;> assumption) | fail) only [Nat.reduceEqDiff, Nat.reduceAdd, Nat.reduceMul, Nat.reduceSub, Nat.reduceLeDiff, Int.reduceAdd, Int.reduceSub, Int.reduceMul, Int.reduceLT, Int.reduceLE, Int.reduceGT, Int.reduceGE, Int.reduceEq, Int.reduceBEq, Int.reduceBNe, Int.reduceNeg, Int.reduceToNat, csAll, ↓reduceIte, C40, entry_3, h1', h2, h3, f70, hw, hrow, hsv, f48, ha']

theorem d_form (D : DoAt b H n bs t2 gl qv ov svs) {wb : Bool} (hwB : wB x.k = wb) (c : 0 ≤ mu ∧ mu < (n : Int) ∧ 0 ≤ x.k ∧ x.k < 12) (hsv : svs[mu.toNat]? = some (.slice sb 0 16 16 1 tl)) (ca : (0 ≤ x.a ∧ x.a < 16) ∧ (wb = true → 0 ≤ x.b ∧ x.b < 16)) (hk : x.k = 0) (hv : ¬ validS x.nr x.nd x.sk) :
    run P 40 [.ptr b 0, .i mu, .agg [.i x.k, .i x.a, .i x.b, .i x.i, .i x.n, .i x.nr, .i x.nd, .i x.sk]] H = some (.tup [.agg zEff, .i 2], H ++ [⟨[.i x.k, .i x.a, .i x.b, .i x.i, .i x.n, .i x.nr, .i x.nd, .i x.sk], .rw, 0⟩] ++ [⟨zEff, .rw, 0⟩] ++ [⟨wayCells, .rw, 4⟩] ++ [⟨[.bool wb, .func (wN x.k) [], .func (wU x.k) [], .func (wE x.k) []], .rw, 0⟩] ++ [⟨[.i x.k, .i x.a, .i x.b, .i x.i, .i x.n, .i x.nr, .i x.nd, .i x.sk, .ptr b 0, .slice sb 0 16 16 1 tl], .rw, 0⟩] ++ [⟨[.i x.nr, .i x.nd, .i x.sk], .rw, 0⟩]) := by
  have h1 : ∀ J, run P 41 [.ptr b 0] (H ++ J) = some (.bool true, H ++ J) := D.made
  have h1' := h1 ([⟨[.i x.k, .i x.a, .i x.b, .i x.i, .i x.n, .i x.nr, .i x.nd, .i x.sk], .rw, 0⟩] ++ [⟨zEff, .rw, 0⟩])
  rw [← List.append_assoc] at h1'
  have h2 := D.blk
  have h3 := D.sls
  have hl2 := lt_of_get h2
  have hl3 := lt_of_get h3
  have hw := wayLen
  rw [run_lv c40]
  obtain ⟨c1, c2, c3, c4⟩ := c
  have hrow := wayRow ⟨c3, c4⟩
  rw [hwB] at hrow
  have ha' : decide (0 ≤ x.a ∧ x.a < 16) = true := decide_eq_true ca.1
  have hwb : wb = false := by rw [← hwB, hk]; rfl
  subst hwb
  have hv' : decide (validS x.nr x.nd x.sk) = false := decide_eq_false hv
  simp (disch := first | omega | rfl | assumption | (simp only [csN, Nat.reduceAdd, Nat.reduceMul, Nat.reduceLeDiff, Nat.reduceEqDiff] <;> omega) | (simp only [csF]; done) | (simp only [csF] <;> assumption) | fail) only [Nat.reduceEqDiff, Nat.reduceAdd, Nat.reduceMul, Nat.reduceSub, Nat.reduceLeDiff, Int.reduceAdd, Int.reduceSub, Int.reduceMul, Int.reduceLT, Int.reduceLE, Int.reduceGT, Int.reduceGE, Int.reduceEq, Int.reduceBEq, Int.reduceBNe, Int.reduceNeg, Int.reduceToNat, csAll, ↓reduceIte, C40, entry_3, h1', h2, h3, f70, hw, hrow, hsv, f48, ha', f71, hv']

theorem d_nil (D : DoAt b H n bs t2 gl qv ov svs) {wb : Bool} (hwB : wB x.k = wb) (c : 0 ≤ mu ∧ mu < (n : Int) ∧ 0 ≤ x.k ∧ x.k < 12) (hsv : svs[mu.toNat]? = some (.slice sb 0 16 16 1 tl)) (ca : (0 ≤ x.a ∧ x.a < 16) ∧ (wb = true → 0 ≤ x.b ∧ x.b < 16)) (hk : x.k ≠ 0) {nd : Int} (hn : run P (wN x.k) [.ptr (H.length + 4) 0] (H ++ [⟨[.i x.k, .i x.a, .i x.b, .i x.i, .i x.n, .i x.nr, .i x.nd, .i x.sk], .rw, 0⟩] ++ [⟨zEff, .rw, 0⟩] ++ [⟨wayCells, .rw, 4⟩] ++ [⟨[.bool wb, .func (wN x.k) [], .func (wU x.k) [], .func (wE x.k) []], .rw, 0⟩] ++ [⟨[.i x.k, .i x.a, .i x.b, .i x.i, .i x.n, .i x.nr, .i x.nd, .i x.sk, .ptr b 0, .slice sb 0 16 16 1 tl], .rw, 0⟩]) = some (.i nd, H ++ [⟨[.i x.k, .i x.a, .i x.b, .i x.i, .i x.n, .i x.nr, .i x.nd, .i x.sk], .rw, 0⟩] ++ [⟨zEff, .rw, 0⟩] ++ [⟨wayCells, .rw, 4⟩] ++ [⟨[.bool wb, .func (wN x.k) [], .func (wU x.k) [], .func (wE x.k) []], .rw, 0⟩] ++ [⟨[.i x.k, .i x.a, .i x.b, .i x.i, .i x.n, .i x.nr, .i x.nd, .i x.sk, .ptr b 0, .slice sb 0 16 16 1 tl], .rw, 0⟩])) (hnd : 0 ≤ nd ∧ nd < 16) (hs : H[sb]? = some ⟨Go.Cs.ints s, .rw, 1⟩) (hz : (Go.Cs.ints s)[nd.toNat]? = some (.i 0)) :
    run P 40 [.ptr b 0, .i mu, .agg [.i x.k, .i x.a, .i x.b, .i x.i, .i x.n, .i x.nr, .i x.nd, .i x.sk]] H = some (.tup [.agg zEff, .i 7], H ++ [⟨[.i x.k, .i x.a, .i x.b, .i x.i, .i x.n, .i x.nr, .i x.nd, .i x.sk], .rw, 0⟩] ++ [⟨zEff, .rw, 0⟩] ++ [⟨wayCells, .rw, 4⟩] ++ [⟨[.bool wb, .func (wN x.k) [], .func (wU x.k) [], .func (wE x.k) []], .rw, 0⟩] ++ [⟨[.i x.k, .i x.a, .i x.b, .i x.i, .i x.n, .i x.nr, .i x.nd, .i x.sk, .ptr b 0, .slice sb 0 16 16 1 tl], .rw, 0⟩]) := by
  have h1 : ∀ J, run P 41 [.ptr b 0] (H ++ J) = some (.bool true, H ++ J) := D.made
  have h1' := h1 ([⟨[.i x.k, .i x.a, .i x.b, .i x.i, .i x.n, .i x.nr, .i x.nd, .i x.sk], .rw, 0⟩] ++ [⟨zEff, .rw, 0⟩])
  rw [← List.append_assoc] at h1'
  have h2 := D.blk
  have h3 := D.sls
  have hl2 := lt_of_get h2
  have hl3 := lt_of_get h3
  have hw := wayLen
  rw [run_lv c40]
  obtain ⟨c1, c2, c3, c4⟩ := c
  have hrow := wayRow ⟨c3, c4⟩
  rw [hwB] at hrow
  have ha' : decide (0 ≤ x.a ∧ x.a < 16) = true := decide_eq_true ca.1
  have hl4 := lt_of_get hs
  simp only [zEff] at hn
  cases wb with
  | true =>
    have hb' : decide (0 ≤ x.b ∧ x.b < 16) = true := decide_eq_true (ca.2 rfl)
    simp (disch := first | omega | rfl | assumption | (simp only [csN, Nat.reduceAdd, Nat.reduceMul, Nat.reduceLeDiff, Nat.reduceEqDiff] <;> omega) | (simp only [csF]; done) | (simp only [csF] <;> assumption) | fail) only [Nat.reduceEqDiff, Nat.reduceAdd, Nat.reduceMul, Nat.reduceSub, Nat.reduceLeDiff, Int.reduceAdd, Int.reduceSub, Int.reduceMul, Int.reduceLT, Int.reduceLE, Int.reduceGT, Int.reduceGE, Int.reduceEq, Int.reduceBEq, Int.reduceBNe, Int.reduceNeg, Int.reduceToNat, csAll, ↓reduceIte, C40, entry_3, h1', h2, h3, f70, hw, hrow, hsv, f48, ha', hb', hn, hs, hz]
  | false =>
    simp (disch := first | omega | rfl | assumption | (simp only [csN, Nat.reduceAdd, Nat.reduceMul, Nat.reduceLeDiff, Nat.reduceEqDiff] <;> omega) | (simp only [csF]; done) | (simp only [csF] <;> assumption) | fail) only [Nat.reduceEqDiff, Nat.reduceAdd, Nat.reduceMul, Nat.reduceSub, Nat.reduceLeDiff, Int.reduceAdd, Int.reduceSub, Int.reduceMul, Int.reduceLT, Int.reduceLE, Int.reduceGT, Int.reduceGE, Int.reduceEq, Int.reduceBEq, Int.reduceBNe, Int.reduceNeg, Int.reduceToNat, csAll, ↓reduceIte, C40, entry_3, h1', h2, h3, f70, hw, hrow, hsv, f48, ha', hn, hs, hz]

theorem d_index (D : DoAt b H n bs t2 gl qv ov svs) {wb : Bool} (hwB : wB x.k = wb) (c : 0 ≤ mu ∧ mu < (n : Int) ∧ 0 ≤ x.k ∧ x.k < 12) (hsv : svs[mu.toNat]? = some (.slice sb 0 16 16 1 tl)) (ca : (0 ≤ x.a ∧ x.a < 16) ∧ (wb = true → 0 ≤ x.b ∧ x.b < 16)) (hk : x.k ≠ 0) {nd : Int} (hn : run P (wN x.k) [.ptr (H.length + 4) 0] (H ++ [⟨[.i x.k, .i x.a, .i x.b, .i x.i, .i x.n, .i x.nr, .i x.nd, .i x.sk], .rw, 0⟩] ++ [⟨zEff, .rw, 0⟩] ++ [⟨wayCells, .rw, 4⟩] ++ [⟨[.bool wb, .func (wN x.k) [], .func (wU x.k) [], .func (wE x.k) []], .rw, 0⟩] ++ [⟨[.i x.k, .i x.a, .i x.b, .i x.i, .i x.n, .i x.nr, .i x.nd, .i x.sk, .ptr b 0, .slice sb 0 16 16 1 tl], .rw, 0⟩]) = some (.i nd, H ++ [⟨[.i x.k, .i x.a, .i x.b, .i x.i, .i x.n, .i x.nr, .i x.nd, .i x.sk], .rw, 0⟩] ++ [⟨zEff, .rw, 0⟩] ++ [⟨wayCells, .rw, 4⟩] ++ [⟨[.bool wb, .func (wN x.k) [], .func (wU x.k) [], .func (wE x.k) []], .rw, 0⟩] ++ [⟨[.i x.k, .i x.a, .i x.b, .i x.i, .i x.n, .i x.nr, .i x.nd, .i x.sk, .ptr b 0, .slice sb 0 16 16 1 tl], .rw, 0⟩])) (hnd : nd < 0 ∨ (0 ≤ nd ∧ nd < 16 ∧ ∃ z, (Go.Cs.ints s)[nd.toNat]? = some (.i z) ∧ z ≠ 0)) (hs : H[sb]? = some ⟨Go.Cs.ints s, .rw, 1⟩) {bd : Int} (hu : run P (wU x.k) [.ptr (H.length + 4) 0] (H ++ [⟨[.i x.k, .i x.a, .i x.b, .i x.i, .i x.n, .i x.nr, .i x.nd, .i x.sk], .rw, 0⟩] ++ [⟨zEff, .rw, 0⟩] ++ [⟨wayCells, .rw, 4⟩] ++ [⟨[.bool wb, .func (wN x.k) [], .func (wU x.k) [], .func (wE x.k) []], .rw, 0⟩] ++ [⟨[.i x.k, .i x.a, .i x.b, .i x.i, .i x.n, .i x.nr, .i x.nd, .i x.sk, .ptr b 0, .slice sb 0 16 16 1 tl], .rw, 0⟩]) = some (.i bd, H ++ [⟨[.i x.k, .i x.a, .i x.b, .i x.i, .i x.n, .i x.nr, .i x.nd, .i x.sk], .rw, 0⟩] ++ [⟨zEff, .rw, 0⟩] ++ [⟨wayCells, .rw, 4⟩] ++ [⟨[.bool wb, .func (wN x.k) [], .func (wU x.k) [], .func (wE x.k) []], .rw, 0⟩] ++ [⟨[.i x.k, .i x.a, .i x.b, .i x.i, .i x.n, .i x.nr, .i x.nd, .i x.sk, .ptr b 0, .slice sb 0 16 16 1 tl], .rw, 0⟩])) (hbd : 0 ≤ bd ∧ ¬ (0 ≤ x.i ∧ x.i < bd)) :
    run P 40 [.ptr b 0, .i mu, .agg [.i x.k, .i x.a, .i x.b, .i x.i, .i x.n, .i x.nr, .i x.nd, .i x.sk]] H = some (.tup [.agg zEff, .i 1], H ++ [⟨[.i x.k, .i x.a, .i x.b, .i x.i, .i x.n, .i x.nr, .i x.nd, .i x.sk], .rw, 0⟩] ++ [⟨zEff, .rw, 0⟩] ++ [⟨wayCells, .rw, 4⟩] ++ [⟨[.bool wb, .func (wN x.k) [], .func (wU x.k) [], .func (wE x.k) []], .rw, 0⟩] ++ [⟨[.i x.k, .i x.a, .i x.b, .i x.i, .i x.n, .i x.nr, .i x.nd, .i x.sk, .ptr b 0, .slice sb 0 16 16 1 tl], .rw, 0⟩]) := by
  have h1 : ∀ J, run P 41 [.ptr b 0] (H ++ J) = some (.bool true, H ++ J) := D.made
  have h1' := h1 ([⟨[.i x.k, .i x.a, .i x.b, .i x.i, .i x.n, .i x.nr, .i x.nd, .i x.sk], .rw, 0⟩] ++ [⟨zEff, .rw, 0⟩])
  rw [← List.append_assoc] at h1'
  have h2 := D.blk
  have h3 := D.sls
  have hl2 := lt_of_get h2
  have hl3 := lt_of_get h3
  have hw := wayLen
  rw [run_lv c40]
  obtain ⟨c1, c2, c3, c4⟩ := c
  have hrow := wayRow ⟨c3, c4⟩
  rw [hwB] at hrow
  have ha' : decide (0 ≤ x.a ∧ x.a < 16) = true := decide_eq_true ca.1
  have hl4 := lt_of_get hs
  simp only [zEff] at hn hu
  by_cases i0 : 0 ≤ x.i
  case neg =>
    cases wb with
    | true =>
      have hb' : decide (0 ≤ x.b ∧ x.b < 16) = true := decide_eq_true (ca.2 rfl)
      rcases hnd with hnd | ⟨n1, n2, z, hz, hz'⟩
      · simp (disch := first | omega | rfl | assumption | (simp only [csN, Nat.reduceAdd, Nat.reduceMul, Nat.reduceLeDiff, Nat.reduceEqDiff] <;> omega) | (simp only [csF]; done) | (simp only [csF] <;> assumption) | fail) only [Nat.reduceEqDiff, Nat.reduceAdd, Nat.reduceMul, Nat.reduceSub, Nat.reduceLeDiff, Int.reduceAdd, Int.reduceSub, Int.reduceMul, Int.reduceLT, Int.reduceLE, Int.reduceGT, Int.reduceGE, Int.reduceEq, Int.reduceBEq, Int.reduceBNe, Int.reduceNeg, Int.reduceToNat, csAll, ↓reduceIte, C40, entry_3, h1', h2, h3, f70, hw, hrow, hsv, f48, ha', hb', hn, hu]
      · simp (disch := first | omega | rfl | assumption | (simp only [csN, Nat.reduceAdd, Nat.reduceMul, Nat.reduceLeDiff, Nat.reduceEqDiff] <;> omega) | (simp only [csF]; done) | (simp only [csF] <;> assumption) | fail) only [Nat.reduceEqDiff, Nat.reduceAdd, Nat.reduceMul, Nat.reduceSub, Nat.reduceLeDiff, Int.reduceAdd, Int.reduceSub, Int.reduceMul, Int.reduceLT, Int.reduceLE, Int.reduceGT, Int.reduceGE, Int.reduceEq, Int.reduceBEq, Int.reduceBNe, Int.reduceNeg, Int.reduceToNat, csAll, ↓reduceIte, C40, entry_3, h1', h2, h3, f70, hw, hrow, hsv, f48, ha', hb', hn, hs, hz, hu]
    | false =>
      rcases hnd with hnd | ⟨n1, n2, z, hz, hz'⟩
      · simp (disch := first | omega | rfl | assumption | (simp only [csN, Nat.reduceAdd, Nat.reduceMul, Nat.reduceLeDiff, Nat.reduceEqDiff] <;> omega) | (simp only [csF]; done) | (simp only [csF] <;> assumption) | fail) only [Nat.reduceEqDiff, Nat.reduceAdd, Nat.reduceMul, Nat.reduceSub, Nat.reduceLeDiff, Int.reduceAdd, Int.reduceSub, Int.reduceMul, Int.reduceLT, Int.reduceLE, Int.reduceGT, Int.reduceGE, Int.reduceEq, Int.reduceBEq, Int.reduceBNe, Int.reduceNeg, Int.reduceToNat, csAll, ↓reduceIte, C40, entry_3, h1', h2, h3, f70, hw, hrow, hsv, f48, ha', hn, hu]
      · simp (disch := first | omega | rfl | assumption | (simp only [csN, Nat.reduceAdd, Nat.reduceMul, Nat.reduceLeDiff, Nat.reduceEqDiff] <;> omega) | (simp only [csF]; done) | (simp only [csF] <;> assumption) | fail) only [Nat.reduceEqDiff, Nat.reduceAdd, Nat.reduceMul, Nat.reduceSub, Nat.reduceLeDiff, Int.reduceAdd, Int.reduceSub, Int.reduceMul, Int.reduceLT, Int.reduceLE, Int.reduceGT, Int.reduceGE, Int.reduceEq, Int.reduceBEq, Int.reduceBNe, Int.reduceNeg, Int.reduceToNat, csAll, ↓reduceIte, C40, entry_3, h1', h2, h3, f70, hw, hrow, hsv, f48, ha', hn, hs, hz, hu]
  
  cases wb with
  | true =>
    have hb' : decide (0 ≤ x.b ∧ x.b < 16) = true := decide_eq_true (ca.2 rfl)
    rcases hnd with hnd | ⟨n1, n2, z, hz, hz'⟩
    · simp (disch := first | omega | rfl | assumption | (simp only [csN, Nat.reduceAdd, Nat.reduceMul, Nat.reduceLeDiff, Nat.reduceEqDiff] <;> omega) | (simp only [csF]; done) | (simp only [csF] <;> assumption) | fail) only [Nat.reduceEqDiff, Nat.reduceAdd, Nat.reduceMul, Nat.reduceSub, Nat.reduceLeDiff, Int.reduceAdd, Int.reduceSub, Int.reduceMul, Int.reduceLT, Int.reduceLE, Int.reduceGT, Int.reduceGE, Int.reduceEq, Int.reduceBEq, Int.reduceBNe, Int.reduceNeg, Int.reduceToNat, csAll, ↓reduceIte, C40, entry_3, h1', h2, h3, f70, hw, hrow, hsv, f48, ha', hb', hn, hu]
    · simp (disch := first | omega | rfl | assumption | (simp only [csN, Nat.reduceAdd, Nat.reduceMul, Nat.reduceLeDiff, Nat.reduceEqDiff] <;> omega) | (simp only [csF]; done) | (simp only [csF] <;> assumption) | fail) only [Nat.reduceEqDiff, Nat.reduceAdd, Nat.reduceMul, Nat.reduceSub, Nat.reduceLeDiff, Int.reduceAdd, Int.reduceSub, Int.reduceMul, Int.reduceLT, Int.reduceLE, Int.reduceGT, Int.reduceGE, Int.reduceEq, Int.reduceBEq, Int.reduceBNe, Int.reduceNeg, Int.reduceToNat, csAll, ↓reduceIte, C40, entry_3, h1', h2, h3, f70, hw, hrow, hsv, f48, ha', hb', hn, hs, hz, hu]
  | false =>
    rcases hnd with hnd | ⟨n1, n2, z, hz, hz'⟩
    · simp (disch := first | omega | rfl | assumption | (simp only [csN, Nat.reduceAdd, Nat.reduceMul, Nat.reduceLeDiff, Nat.reduceEqDiff] <;> omega) | (simp only [csF]; done) | (simp only [csF] <;> assumption) | fail) only [Nat.reduceEqDiff, Nat.reduceAdd, Nat.reduceMul, Nat.reduceSub, Nat.reduceLeDiff, Int.reduceAdd, Int.reduceSub, Int.reduceMul, Int.reduceLT, Int.reduceLE, Int.reduceGT, Int.reduceGE, Int.reduceEq, Int.reduceBEq, Int.reduceBNe, Int.reduceNeg, Int.reduceToNat, csAll, ↓reduceIte, C40, entry_3, h1', h2, h3, f70, hw, hrow, hsv, f48, ha', hn, hu]
    · simp (disch := first | omega | rfl | assumption | (simp only [csN, Nat.reduceAdd, Nat.reduceMul, Nat.reduceLeDiff, Nat.reduceEqDiff] <;> omega) | (simp only [csF]; done) | (simp only [csF] <;> assumption) | fail) only [Nat.reduceEqDiff, Nat.reduceAdd, Nat.reduceMul, Nat.reduceSub, Nat.reduceLeDiff, Int.reduceAdd, Int.reduceSub, Int.reduceMul, Int.reduceLT, Int.reduceLE, Int.reduceGT, Int.reduceGE, Int.reduceEq, Int.reduceBEq, Int.reduceBNe, Int.reduceNeg, Int.reduceToNat, csAll, ↓reduceIte, C40, entry_3, h1', h2, h3, f70, hw, hrow, hsv, f48, ha', hn, hs, hz, hu]

theorem d_ok (D : DoAt b H n bs t2 gl qv ov svs) {wb : Bool} (hwB : wB x.k = wb) (c : 0 ≤ mu ∧ mu < (n : Int) ∧ 0 ≤ x.k ∧ x.k < 12) (hsv : svs[mu.toNat]? = some (.slice sb 0 16 16 1 tl)) (ca : (0 ≤ x.a ∧ x.a < 16) ∧ (wb = true → 0 ≤ x.b ∧ x.b < 16)) (hk : x.k ≠ 0) {nd : Int} (hn : run P (wN x.k) [.ptr (H.length + 4) 0] (H ++ [⟨[.i x.k, .i x.a, .i x.b, .i x.i, .i x.n, .i x.nr, .i x.nd, .i x.sk], .rw, 0⟩] ++ [⟨zEff, .rw, 0⟩] ++ [⟨wayCells, .rw, 4⟩] ++ [⟨[.bool wb, .func (wN x.k) [], .func (wU x.k) [], .func (wE x.k) []], .rw, 0⟩] ++ [⟨[.i x.k, .i x.a, .i x.b, .i x.i, .i x.n, .i x.nr, .i x.nd, .i x.sk, .ptr b 0, .slice sb 0 16 16 1 tl], .rw, 0⟩]) = some (.i nd, H ++ [⟨[.i x.k, .i x.a, .i x.b, .i x.i, .i x.n, .i x.nr, .i x.nd, .i x.sk], .rw, 0⟩] ++ [⟨zEff, .rw, 0⟩] ++ [⟨wayCells, .rw, 4⟩] ++ [⟨[.bool wb, .func (wN x.k) [], .func (wU x.k) [], .func (wE x.k) []], .rw, 0⟩] ++ [⟨[.i x.k, .i x.a, .i x.b, .i x.i, .i x.n, .i x.nr, .i x.nd, .i x.sk, .ptr b 0, .slice sb 0 16 16 1 tl], .rw, 0⟩])) (hnd : nd < 0 ∨ (0 ≤ nd ∧ nd < 16 ∧ ∃ z, (Go.Cs.ints s)[nd.toNat]? = some (.i z) ∧ z ≠ 0)) (hs : H[sb]? = some ⟨Go.Cs.ints s, .rw, 1⟩) {bd : Int} (hu : run P (wU x.k) [.ptr (H.length + 4) 0] (H ++ [⟨[.i x.k, .i x.a, .i x.b, .i x.i, .i x.n, .i x.nr, .i x.nd, .i x.sk], .rw, 0⟩] ++ [⟨zEff, .rw, 0⟩] ++ [⟨wayCells, .rw, 4⟩] ++ [⟨[.bool wb, .func (wN x.k) [], .func (wU x.k) [], .func (wE x.k) []], .rw, 0⟩] ++ [⟨[.i x.k, .i x.a, .i x.b, .i x.i, .i x.n, .i x.nr, .i x.nd, .i x.sk, .ptr b 0, .slice sb 0 16 16 1 tl], .rw, 0⟩]) = some (.i bd, H ++ [⟨[.i x.k, .i x.a, .i x.b, .i x.i, .i x.n, .i x.nr, .i x.nd, .i x.sk], .rw, 0⟩] ++ [⟨zEff, .rw, 0⟩] ++ [⟨wayCells, .rw, 4⟩] ++ [⟨[.bool wb, .func (wN x.k) [], .func (wU x.k) [], .func (wE x.k) []], .rw, 0⟩] ++ [⟨[.i x.k, .i x.a, .i x.b, .i x.i, .i x.n, .i x.nr, .i x.nd, .i x.sk, .ptr b 0, .slice sb 0 16 16 1 tl], .rw, 0⟩])) (hbd : bd < 0 ∨ (0 ≤ bd ∧ 0 ≤ x.i ∧ x.i < bd))
    {tv : CV} {e : Eff} {H' : CHeap} (he : run P (wE x.k) [.ptr (H.length + 4) 0] (H ++ [⟨[.i x.k, .i x.a, .i x.b, .i x.i, .i x.n, .i x.nr, .i x.nd, .i x.sk], .rw, 0⟩] ++ [⟨zEff, .rw, 0⟩] ++ [⟨wayCells, .rw, 4⟩] ++ [⟨[.bool wb, .func (wN x.k) [], .func (wU x.k) [], .func (wE x.k) []], .rw, 0⟩] ++ [⟨[.i x.k, .i x.a, .i x.b, .i x.i, .i x.n, .i x.nr, .i x.nd, .i x.sk, .ptr b 0, .slice sb 0 16 16 1 tl], .rw, 0⟩]) = some (effOf tv e, H')) (hr : H'[H.length + 1]? = some ⟨zEff, .rw, 0⟩) (htv : leaf tv = true) :
    run P 40 [.ptr b 0, .i mu, .agg [.i x.k, .i x.a, .i x.b, .i x.i, .i x.n, .i x.nr, .i x.nd, .i x.sk]] H = some (.tup [effOf tv e, .i 0], H'.set (H.length + 1) ⟨[tv, .i e.o, .i e.i, .i e.old, .i e.new, .i e.made, .i e.loaded], .rw, 0⟩) := by
  have h1 : ∀ J, run P 41 [.ptr b 0] (H ++ J) = some (.bool true, H ++ J) := D.made
  have h1' := h1 ([⟨[.i x.k, .i x.a, .i x.b, .i x.i, .i x.n, .i x.nr, .i x.nd, .i x.sk], .rw, 0⟩] ++ [⟨zEff, .rw, 0⟩])
  rw [← List.append_assoc] at h1'
  have h2 := D.blk
  have h3 := D.sls
  have hl2 := lt_of_get h2
  have hl3 := lt_of_get h3
  have hw := wayLen
  have hl4 := lt_of_get hs
  have hl5 := lt_of_get hr
  simp only [zEff] at hn hu he hr
  simp only [effOf] at he ⊢
  rw [run_lv c40]
  obtain ⟨c1, c2, c3, c4⟩ := c
  have hrow := wayRow ⟨c3, c4⟩
  rw [hwB] at hrow
  have ha' : decide (0 ≤ x.a ∧ x.a < 16) = true := decide_eq_true ca.1
  cases wb with
  | true =>
    have hb' : decide (0 ≤ x.b ∧ x.b < 16) = true := decide_eq_true (ca.2 rfl)
    rcases hnd with hnd | ⟨n1, n2, z, hz, hz'⟩
    · rcases hbd with hbd | hbd
      · simp (disch := first | omega | rfl | assumption | (simp only [csN, Nat.reduceAdd, Nat.reduceMul, Nat.reduceLeDiff, Nat.reduceEqDiff] <;> omega) | (simp only [csF]; done) | (simp only [csF] <;> assumption) | fail) only [Nat.reduceEqDiff, Nat.reduceAdd, Nat.reduceMul, Nat.reduceSub, Nat.reduceLeDiff, Int.reduceAdd, Int.reduceSub, Int.reduceMul, Int.reduceLT, Int.reduceLE, Int.reduceGT, Int.reduceGE, Int.reduceEq, Int.reduceBEq, Int.reduceBNe, Int.reduceNeg, Int.reduceToNat, csAll, ↓reduceIte, C40, entry_3, h1', h2, h3, f70, hw, hrow, hsv, f48, ha', hb', hn, hu, he, hr]
      · simp (disch := first | omega | rfl | assumption | (simp only [csN, Nat.reduceAdd, Nat.reduceMul, Nat.reduceLeDiff, Nat.reduceEqDiff] <;> omega) | (simp only [csF]; done) | (simp only [csF] <;> assumption) | fail) only [Nat.reduceEqDiff, Nat.reduceAdd, Nat.reduceMul, Nat.reduceSub, Nat.reduceLeDiff, Int.reduceAdd, Int.reduceSub, Int.reduceMul, Int.reduceLT, Int.reduceLE, Int.reduceGT, Int.reduceGE, Int.reduceEq, Int.reduceBEq, Int.reduceBNe, Int.reduceNeg, Int.reduceToNat, csAll, ↓reduceIte, C40, entry_3, h1', h2, h3, f70, hw, hrow, hsv, f48, ha', hb', hn, hu, he, hr]
    · rcases hbd with hbd | hbd
      · simp (disch := first | omega | rfl | assumption | (simp only [csN, Nat.reduceAdd, Nat.reduceMul, Nat.reduceLeDiff, Nat.reduceEqDiff] <;> omega) | (simp only [csF]; done) | (simp only [csF] <;> assumption) | fail) only [Nat.reduceEqDiff, Nat.reduceAdd, Nat.reduceMul, Nat.reduceSub, Nat.reduceLeDiff, Int.reduceAdd, Int.reduceSub, Int.reduceMul, Int.reduceLT, Int.reduceLE, Int.reduceGT, Int.reduceGE, Int.reduceEq, Int.reduceBEq, Int.reduceBNe, Int.reduceNeg, Int.reduceToNat, csAll, ↓reduceIte, C40, entry_3, h1', h2, h3, f70, hw, hrow, hsv, f48, ha', hb', hn, hs, hz, hu, he, hr]
      · simp (disch := first | omega | rfl | assumption | (simp only [csN, Nat.reduceAdd, Nat.reduceMul, Nat.reduceLeDiff, Nat.reduceEqDiff] <;> omega) | (simp only [csF]; done) | (simp only [csF] <;> assumption) | fail) only [Nat.reduceEqDiff, Nat.reduceAdd, Nat.reduceMul, Nat.reduceSub, Nat.reduceLeDiff, Int.reduceAdd, Int.reduceSub, Int.reduceMul, Int.reduceLT, Int.reduceLE, Int.reduceGT, Int.reduceGE, Int.reduceEq, Int.reduceBEq, Int.reduceBNe, Int.reduceNeg, Int.reduceToNat, csAll, ↓reduceIte, C40, entry_3, h1', h2, h3, f70, hw, hrow, hsv, f48, ha', hb', hn, hs, hz, hu, he, hr]
  | false =>
    rcases hnd with hnd | ⟨n1, n2, z, hz, hz'⟩
    · rcases hbd with hbd | hbd
      · simp (disch := first | omega | rfl | assumption | (simp only [csN, Nat.reduceAdd, Nat.reduceMul, Nat.reduceLeDiff, Nat.reduceEqDiff] <;> omega) | (simp only [csF]; done) | (simp only [csF] <;> assumption) | fail) only [Nat.reduceEqDiff, Nat.reduceAdd, Nat.reduceMul, Nat.reduceSub, Nat.reduceLeDiff, Int.reduceAdd, Int.reduceSub, Int.reduceMul, Int.reduceLT, Int.reduceLE, Int.reduceGT, Int.reduceGE, Int.reduceEq, Int.reduceBEq, Int.reduceBNe, Int.reduceNeg, Int.reduceToNat, csAll, ↓reduceIte, C40, entry_3, h1', h2, h3, f70, hw, hrow, hsv, f48, ha', hn, hu, he, hr]
      · simp (disch := first | omega | rfl | assumption | (simp only [csN, Nat.reduceAdd, Nat.reduceMul, Nat.reduceLeDiff, Nat.reduceEqDiff] <;> omega) | (simp only [csF]; done) | (simp only [csF] <;> assumption) | fail) only [Nat.reduceEqDiff, Nat.reduceAdd, Nat.reduceMul, Nat.reduceSub, Nat.reduceLeDiff, Int.reduceAdd, Int.reduceSub, Int.reduceMul, Int.reduceLT, Int.reduceLE, Int.reduceGT, Int.reduceGE, Int.reduceEq, Int.reduceBEq, Int.reduceBNe, Int.reduceNeg, Int.reduceToNat, csAll, ↓reduceIte, C40, entry_3, h1', h2, h3, f70, hw, hrow, hsv, f48, ha', hn, hu, he, hr]
    · rcases hbd with hbd | hbd
      · simp (disch := first | omega | rfl | assumption | (simp only [csN, Nat.reduceAdd, Nat.reduceMul, Nat.reduceLeDiff, Nat.reduceEqDiff] <;> omega) | (simp only [csF]; done) | (simp only [csF] <;> assumption) | fail) only [Nat.reduceEqDiff, Nat.reduceAdd, Nat.reduceMul, Nat.reduceSub, Nat.reduceLeDiff, Int.reduceAdd, Int.reduceSub, Int.reduceMul, Int.reduceLT, Int.reduceLE, Int.reduceGT, Int.reduceGE, Int.reduceEq, Int.reduceBEq, Int.reduceBNe, Int.reduceNeg, Int.reduceToNat, csAll, ↓reduceIte, C40, entry_3, h1', h2, h3, f70, hw, hrow, hsv, f48, ha', hn, hs, hz, hu, he, hr]
      · simp (disch := first | omega | rfl | assumption | (simp only [csN, Nat.reduceAdd, Nat.reduceMul, Nat.reduceLeDiff, Nat.reduceEqDiff] <;> omega) | (simp only [csF]; done) | (simp only [csF] <;> assumption) | fail) only [Nat.reduceEqDiff, Nat.reduceAdd, Nat.reduceMul, Nat.reduceSub, Nat.reduceLeDiff, Int.reduceAdd, Int.reduceSub, Int.reduceMul, Int.reduceLT, Int.reduceLE, Int.reduceGT, Int.reduceGE, Int.reduceEq, Int.reduceBEq, Int.reduceBNe, Int.reduceNeg, Int.reduceToNat, csAll, ↓reduceIte, C40, entry_3, h1', h2, h3, f70, hw, hrow, hsv, f48, ha', hn, hs, hz, hu, he, hr]

theorem d_new (D : DoAt b H n bs t2 gl qv ov svs) {wb : Bool} (hwB : wB x.k = wb) (c : 0 ≤ mu ∧ mu < (n : Int) ∧ 0 ≤ x.k ∧ x.k < 12) (hsv : svs[mu.toNat]? = some (.slice sb 0 16 16 1 tl)) (ca : (0 ≤ x.a ∧ x.a < 16) ∧ (wb = true → 0 ≤ x.b ∧ x.b < 16)) (hk : x.k = 0) (hv : validS x.nr x.nd x.sk) {nd : Int} (hn : run P (wN x.k) [.ptr (H.length + 4) 0] (H ++ [⟨[.i x.k, .i x.a, .i x.b, .i x.i, .i x.n, .i x.nr, .i x.nd, .i x.sk], .rw, 0⟩] ++ [⟨zEff, .rw, 0⟩] ++ [⟨wayCells, .rw, 4⟩] ++ [⟨[.bool wb, .func (wN x.k) [], .func (wU x.k) [], .func (wE x.k) []], .rw, 0⟩] ++ [⟨[.i x.k, .i x.a, .i x.b, .i x.i, .i x.n, .i x.nr, .i x.nd, .i x.sk, .ptr b 0, .slice sb 0 16 16 1 tl], .rw, 0⟩] ++ [⟨[.i x.nr, .i x.nd, .i x.sk], .rw, 0⟩]) = some (.i nd, H ++ [⟨[.i x.k, .i x.a, .i x.b, .i x.i, .i x.n, .i x.nr, .i x.nd, .i x.sk], .rw, 0⟩] ++ [⟨zEff, .rw, 0⟩] ++ [⟨wayCells, .rw, 4⟩] ++ [⟨[.bool wb, .func (wN x.k) [], .func (wU x.k) [], .func (wE x.k) []], .rw, 0⟩] ++ [⟨[.i x.k, .i x.a, .i x.b, .i x.i, .i x.n, .i x.nr, .i x.nd, .i x.sk, .ptr b 0, .slice sb 0 16 16 1 tl], .rw, 0⟩] ++ [⟨[.i x.nr, .i x.nd, .i x.sk], .rw, 0⟩])) (hnd : nd < 0 ∨ (0 ≤ nd ∧ nd < 16 ∧ ∃ z, (Go.Cs.ints s)[nd.toNat]? = some (.i z) ∧ z ≠ 0)) (hs : H[sb]? = some ⟨Go.Cs.ints s, .rw, 1⟩) {bd : Int} (hu : run P (wU x.k) [.ptr (H.length + 4) 0] (H ++ [⟨[.i x.k, .i x.a, .i x.b, .i x.i, .i x.n, .i x.nr, .i x.nd, .i x.sk], .rw, 0⟩] ++ [⟨zEff, .rw, 0⟩] ++ [⟨wayCells, .rw, 4⟩] ++ [⟨[.bool wb, .func (wN x.k) [], .func (wU x.k) [], .func (wE x.k) []], .rw, 0⟩] ++ [⟨[.i x.k, .i x.a, .i x.b, .i x.i, .i x.n, .i x.nr, .i x.nd, .i x.sk, .ptr b 0, .slice sb 0 16 16 1 tl], .rw, 0⟩] ++ [⟨[.i x.nr, .i x.nd, .i x.sk], .rw, 0⟩]) = some (.i bd, H ++ [⟨[.i x.k, .i x.a, .i x.b, .i x.i, .i x.n, .i x.nr, .i x.nd, .i x.sk], .rw, 0⟩] ++ [⟨zEff, .rw, 0⟩] ++ [⟨wayCells, .rw, 4⟩] ++ [⟨[.bool wb, .func (wN x.k) [], .func (wU x.k) [], .func (wE x.k) []], .rw, 0⟩] ++ [⟨[.i x.k, .i x.a, .i x.b, .i x.i, .i x.n, .i x.nr, .i x.nd, .i x.sk, .ptr b 0, .slice sb 0 16 16 1 tl], .rw, 0⟩] ++ [⟨[.i x.nr, .i x.nd, .i x.sk], .rw, 0⟩])) (hbd : bd < 0 ∨ (0 ≤ bd ∧ 0 ≤ x.i ∧ x.i < bd))
    {tv : CV} {e : Eff} {H' : CHeap} (he : run P (wE x.k) [.ptr (H.length + 4) 0] (H ++ [⟨[.i x.k, .i x.a, .i x.b, .i x.i, .i x.n, .i x.nr, .i x.nd, .i x.sk], .rw, 0⟩] ++ [⟨zEff, .rw, 0⟩] ++ [⟨wayCells, .rw, 4⟩] ++ [⟨[.bool wb, .func (wN x.k) [], .func (wU x.k) [], .func (wE x.k) []], .rw, 0⟩] ++ [⟨[.i x.k, .i x.a, .i x.b, .i x.i, .i x.n, .i x.nr, .i x.nd, .i x.sk, .ptr b 0, .slice sb 0 16 16 1 tl], .rw, 0⟩] ++ [⟨[.i x.nr, .i x.nd, .i x.sk], .rw, 0⟩]) = some (effOf tv e, H')) (hr : H'[H.length + 1]? = some ⟨zEff, .rw, 0⟩) (htv : leaf tv = true) :
    run P 40 [.ptr b 0, .i mu, .agg [.i x.k, .i x.a, .i x.b, .i x.i, .i x.n, .i x.nr, .i x.nd, .i x.sk]] H = some (.tup [effOf tv e, .i 0], H'.set (H.length + 1) ⟨[tv, .i e.o, .i e.i, .i e.old, .i e.new, .i e.made, .i e.loaded], .rw, 0⟩) := by
  have h1 : ∀ J, run P 41 [.ptr b 0] (H ++ J) = some (.bool true, H ++ J) := D.made
  have h1' := h1 ([⟨[.i x.k, .i x.a, .i x.b, .i x.i, .i x.n, .i x.nr, .i x.nd, .i x.sk], .rw, 0⟩] ++ [⟨zEff, .rw, 0⟩])
  rw [← List.append_assoc] at h1'
  have h2 := D.blk
  have h3 := D.sls
  have hl2 := lt_of_get h2
  have hl3 := lt_of_get h3
  have hw := wayLen
  have hl4 := lt_of_get hs
  have hl5 := lt_of_get hr
  simp only [zEff] at hn hu he hr
  simp only [effOf] at he ⊢
  rw [run_lv c40]
  obtain ⟨c1, c2, c3, c4⟩ := c
  have hrow := wayRow ⟨c3, c4⟩
  rw [hwB] at hrow
  have ha' : decide (0 ≤ x.a ∧ x.a < 16) = true := decide_eq_true ca.1
  have hwb : wb = false := by rw [← hwB, hk]; rfl
  subst hwb
  have hv' : decide (validS x.nr x.nd x.sk) = true := decide_eq_true hv
  rcases hnd with hnd | ⟨n1, n2, z, hz, hz'⟩
  · rcases hbd with hbd | hbd
    · simp (disch := first | omega | rfl | assumption | (simp only [csN, Nat.reduceAdd, Nat.reduceMul, Nat.reduceLeDiff, Nat.reduceEqDiff] <;> omega) | (simp only [csF]; done) | (simp only [csF] <;> assumption) | fail) only [Nat.reduceEqDiff, Nat.reduceAdd, Nat.reduceMul, Nat.reduceSub, Nat.reduceLeDiff, Int.reduceAdd, Int.reduceSub, Int.reduceMul, Int.reduceLT, Int.reduceLE, Int.reduceGT, Int.reduceGE, Int.reduceEq, Int.reduceBEq, Int.reduceBNe, Int.reduceNeg, Int.reduceToNat, csAll, ↓reduceIte, C40, entry_3, h1', h2, h3, f70, hw, hrow, hsv, f48, ha', hn, f71, hv', hu, he, hr]
    · simp (disch := first | omega | rfl | assumption | (simp only [csN, Nat.reduceAdd, Nat.reduceMul, Nat.reduceLeDiff, Nat.reduceEqDiff] <;> omega) | (simp only [csF]; done) | (simp only [csF] <;> assumption) | fail) only [Nat.reduceEqDiff, Nat.reduceAdd, Nat.reduceMul, Nat.reduceSub, Nat.reduceLeDiff, Int.reduceAdd, Int.reduceSub, Int.reduceMul, Int.reduceLT, Int.reduceLE, Int.reduceGT, Int.reduceGE, Int.reduceEq, Int.reduceBEq, Int.reduceBNe, Int.reduceNeg, Int.reduceToNat, csAll, ↓reduceIte, C40, entry_3, h1', h2, h3, f70, hw, hrow, hsv, f48, ha', hn, f71, hv', hu, he, hr]
  · rcases hbd with hbd | hbd
    · simp (disch := first | omega | rfl | assumption | (simp only [csN, Nat.reduceAdd, Nat.reduceMul, Nat.reduceLeDiff, Nat.reduceEqDiff] <;> omega) | (simp only [csF]; done) | (simp only [csF] <;> assumption) | fail) only [Nat.reduceEqDiff, Nat.reduceAdd, Nat.reduceMul, Nat.reduceSub, Nat.reduceLeDiff, Int.reduceAdd, Int.reduceSub, Int.reduceMul, Int.reduceLT, Int.reduceLE, Int.reduceGT, Int.reduceGE, Int.reduceEq, Int.reduceBEq, Int.reduceBNe, Int.reduceNeg, Int.reduceToNat, csAll, ↓reduceIte, C40, entry_3, h1', h2, h3, f70, hw, hrow, hsv, f48, ha', hn, hs, hz, f71, hv', hu, he, hr]
    · simp (disch := first | omega | rfl | assumption | (simp only [csN, Nat.reduceAdd, Nat.reduceMul, Nat.reduceLeDiff, Nat.reduceEqDiff] <;> omega) | (simp only [csF]; done) | (simp only [csF] <;> assumption) | fail) only [Nat.reduceEqDiff, Nat.reduceAdd, Nat.reduceMul, Nat.reduceSub, Nat.reduceLeDiff, Int.reduceAdd, Int.reduceSub, Int.reduceMul, Int.reduceLT, Int.reduceLE, Int.reduceGT, Int.reduceGE, Int.reduceEq, Int.reduceBEq, Int.reduceBNe, Int.reduceNeg, Int.reduceToNat, csAll, ↓reduceIte, C40, entry_3, h1', h2, h3, f70, hw, hrow, hsv, f48, ha', hn, hs, hz, f71, hv', hu, he, hr]
end
end Go.Cs.Try

/- Do. -/
namespace Go.Cs
open Go
def e0 : Eff := ⟨[], 0, 0, 0, 0, 0, 0⟩
def wNeed (x : Act) : Int := if x.k = 1 then x.b else if x.k = 2 ∨ x.k = 3 ∨ x.k = 4 ∨ x.k = 11 then x.a else -1
def Mdl.bound (M : Mdl) (s : List Int) (x : Act) : Int :=
  if x.k = 1 then (M.obj (s.getD x.b.toNat 0)).nr else if x.k = 2 then (M.obj (s.getD x.a.toNat 0)).nr
  else if x.k = 3 ∨ x.k = 4 then (M.obj (s.getD x.a.toNat 0)).nd else if x.k = 9 ∨ x.k = 10 then 16 else -1
def Mdl.setSlot (M : Mdl) (mu : Nat) (s : List Int) (a : Int) (z : Int) : Mdl := { M with slots := M.slots.set mu (s.set a.toNat z) }

/-- What an act does, when nothing is against it. -/
def Mdl.eff (M : Mdl) (mu : Nat) (s : List Int) (x : Act) : Mdl × Eff :=
  let sa := s.getD x.a.toNat 0
  let sb := s.getD x.b.toNat 0
  if x.k = 0 then (({ M with objs := M.objs ++ [bornObj x] } : Mdl).setSlot mu s x.a (M.objs.length + 1), ⟨[], 0, 0, 0, 0, M.objs.length + 1, 0⟩)
  else if x.k = 1 then (M.setSlot mu s x.a ((M.obj sb).refs.getD x.i.toNat 0), ⟨[], 0, 0, 0, 0, 0, (M.obj sb).refs.getD x.i.toNat 0⟩)
  else if x.k = 2 then (M.setObj sa { M.obj sa with refs := (M.obj sa).refs.set x.i.toNat sb }, ⟨[], sa, x.i, (M.obj sa).refs.getD x.i.toNat 0, sb, 0, 0⟩)
  else if x.k = 3 then (M.setObj sa { M.obj sa with data := (M.obj sa).data.set x.i.toNat x.n }, e0)
  else if x.k = 4 then (M, ⟨[(M.obj sa).data.getD x.i.toNat 0], 0, 0, 0, 0, 0, 0⟩)
  else if x.k = 5 then (M.setSlot mu s x.a sb, ⟨[], 0, 0, 0, 0, 0, sb⟩)
  else if x.k = 6 then (M.setSlot mu s x.a 0, e0)
  else if x.k = 7 then (M, ⟨[if sa = sb then 1 else 0], 0, 0, 0, 0, 0, 0⟩)
  else if x.k = 8 then (M, ⟨[sa], 0, 0, 0, 0, 0, 0⟩)
  else if x.k = 9 then ({ M with globals := M.globals.set x.i.toNat sa }, e0)
  else if x.k = 10 then (M.setSlot mu s x.a (M.globals.getD x.i.toNat 0), ⟨[], 0, 0, 0, 0, 0, M.globals.getD x.i.toNat 0⟩)
  else (M, ⟨[(M.obj sa).nr, (M.obj sa).nd, (M.obj sa).kd], 0, 0, 0, 0, 0, 0⟩)

/-- The error of an act: 0, if it has none. -/
def Mdl.errOf (M : Mdl) (mu : Int) (x : Act) : Int :=
  if ¬ (0 ≤ mu ∧ mu < (M.slots.length : Int) ∧ 0 ≤ x.k ∧ x.k < 12) then 1
  else if ¬ ((0 ≤ x.a ∧ x.a < 16) ∧ (wB x.k = true → 0 ≤ x.b ∧ x.b < 16)) then 1
  else if x.k = 0 ∧ ¬ validS x.nr x.nd x.sk then 2
  else if 0 ≤ wNeed x ∧ (M.slots.getD mu.toNat []).getD (wNeed x).toNat 0 = 0 then 7
  else if 0 ≤ M.bound (M.slots.getD mu.toNat []) x ∧ ¬ (0 ≤ x.i ∧ x.i < M.bound (M.slots.getD mu.toNat []) x) then 1
  else 0

def Mdl.doAct (M : Mdl) (mu : Int) (x : Act) : Mdl × Eff × Int :=
  if M.errOf mu x = 0 then ((M.eff mu.toNat (M.slots.getD mu.toNat []) x).1, (M.eff mu.toNat (M.slots.getD mu.toNat []) x).2, 0)
  else (M, e0, M.errOf mu x)

/-- What Do comes to. -/
def DoesD (o : Tags) (g : Nat) (H : CHeap) (b : Nat) (M' : Mdl) (e : Eff) (n : Int) (r : Option (CV × CHeap)) : Prop :=
  ∃ H' o' L' tv, r = some (.tup [effOf tv e, .i n], H') ∧ MRep o' g H' b M' L' ∧ Frm g o H o' H' ∧ At (Loc H.length) z3 H' tv 1 e.told.length (ints e.told)

theorem k12 {k : Int} (h : 0 ≤ k ∧ k < 12) : k = 0 ∨ k = 1 ∨ k = 2 ∨ k = 3 ∨ k = 4 ∨ k = 5 ∨ k = 6 ∨ k = 7 ∨ k = 8 ∨ k = 9 ∨ k = 10 ∨ k = 11 := by omega
end Go.Cs

namespace Go.Cs.Try
open Go Go.Cs
set_option maxRecDepth 100000
section
variable {o : Tags} {g : Nat} {H : CHeap} {b : Nat} {M : Mdl} {L : Lay} {ab : Nat} {x : Act} {mu : Nat} {s : List Int} {v : CV} {tl : Bool}

theorem needs_ok (A : ActAt o g H b M L ab x mu s v tl) (hk : 0 ≤ x.k ∧ x.k < 12) : run P (wN x.k) [.ptr ab 0] H = some (.i (wNeed x), H) := by
  unfold wN wNeed
  by_cases h1 : x.k = 1
  · rw [if_pos h1, if_pos h1]; exact f82 A
  · rw [if_neg h1, if_neg h1]
    by_cases h2 : x.k = 2 ∨ x.k = 3 ∨ x.k = 4 ∨ x.k = 11
    · rw [if_pos h2, if_pos h2]; exact f86 A
    · rw [if_neg h2, if_neg h2]; exact f80

theorem bound_ok (A : ActAt o g H b M L ab x mu s v tl) (hk : 0 ≤ x.k ∧ x.k < 12) (ha : 0 ≤ x.a ∧ x.a < 16) (hb : wB x.k = true → 0 ≤ x.b ∧ x.b < 16) (hz : 0 ≤ wNeed x → s.getD (wNeed x).toNat 0 ≠ 0) :
    run P (wU x.k) [.ptr ab 0] H = some (.i (M.bound s x), H) := by
  have hc := k12 hk
  unfold wU Mdl.bound
  by_cases h1 : x.k = 1
  · have hn : wNeed x = x.b := by unfold wNeed; rw [if_pos h1]
    have hb' := hb (by rw [h1]; rfl)
    rw [hn] at hz
    rw [if_pos h1, if_pos h1]; exact f83 A hb' (hz hb'.1)
  · have hn : x.k = 2 ∨ x.k = 3 ∨ x.k = 4 → wNeed x = x.a := by
      intro h; unfold wNeed; rw [if_neg h1, if_pos (by omega)]
    rw [if_neg h1, if_neg h1]
    by_cases h2 : x.k = 2
    · rw [hn (.inl h2)] at hz
      rw [if_pos h2, if_pos h2]; exact f87 A ha (hz ha.1)
    · rw [if_neg h2, if_neg h2]
      by_cases h3 : x.k = 3 ∨ x.k = 4
      · rw [hn (.inr h3)] at hz
        rw [if_pos h3, if_pos h3]; exact f89 A ha (hz ha.1)
      · rw [if_neg h3, if_neg h3]
        by_cases h4 : x.k = 9 ∨ x.k = 10
        · rw [if_pos h4, if_pos h4]; exact f97
        · rw [if_neg h4, if_neg h4]; exact f80

theorem eff_ok (A : ActAt o g H b M L ab x mu s v tl) (hk : 0 ≤ x.k ∧ x.k < 12) (ha : 0 ≤ x.a ∧ x.a < 16) (hb : wB x.k = true → 0 ≤ x.b ∧ x.b < 16) (hv : x.k = 0 → validS x.nr x.nd x.sk)
    (hz : 0 ≤ wNeed x → s.getD (wNeed x).toNat 0 ≠ 0) (hi : 0 ≤ M.bound s x → 0 ≤ x.i ∧ x.i < M.bound s x) (hf : M.objs.length < 100000) :
    DoesE o g H b (M.eff mu s x).1 (M.eff mu s x).2 (run P (wE x.k) [.ptr ab 0] H) := by
  rcases k12 hk with h | h | h | h | h | h | h | h | h | h | h | h
  · have e1 : wE x.k = 81 := by rw [h]; rfl
    have e2 : M.eff mu s x = (({ M with objs := M.objs ++ [Go.Cs.bornObj x] } : Mdl).setSlot mu s x.a (M.objs.length + 1), ⟨[], 0, 0, 0, 0, M.objs.length + 1, 0⟩) := by unfold Mdl.eff; simp only [h]; rfl
    rw [e1, e2]
    have hv' := hv h
    unfold validS at hv'
    exact e81 A ha (by omega) hf
  · have e1 : wE x.k = 84 := by rw [h]; rfl
    have e2 : M.eff mu s x = (M.setSlot mu s x.a ((M.obj (s.getD x.b.toNat 0)).refs.getD x.i.toNat 0), ⟨[], 0, 0, 0, 0, 0, (M.obj (s.getD x.b.toNat 0)).refs.getD x.i.toNat 0⟩) := by unfold Mdl.eff; simp only [h]; rfl
    have e3 : wNeed x = x.b := by unfold wNeed; rw [if_pos h]
    have e4 : M.bound s x = (M.obj (s.getD x.b.toNat 0)).nr := by unfold Mdl.bound; rw [if_pos h]
    have hb' := hb (by rw [h]; rfl)
    rw [e3] at hz
    rw [e4] at hi
    have := (A.w.obj (slotHas A.w A.hs hb' (hz hb'.1))).nr
    rw [e1, e2]
    exact e84 A ha hb' (hz hb'.1) (hi (by omega))
  · have e1 : wE x.k = 88 := by rw [h]; rfl
    have e2 : M.eff mu s x = (M.setObj (s.getD x.a.toNat 0) { M.obj (s.getD x.a.toNat 0) with refs := (M.obj (s.getD x.a.toNat 0)).refs.set x.i.toNat (s.getD x.b.toNat 0) }, ⟨[], s.getD x.a.toNat 0, x.i, (M.obj (s.getD x.a.toNat 0)).refs.getD x.i.toNat 0, s.getD x.b.toNat 0, 0, 0⟩) := by unfold Mdl.eff; simp only [h]; rfl
    have e3 : wNeed x = x.a := by unfold wNeed; rw [if_neg (by omega), if_pos (by omega)]
    have e4 : M.bound s x = (M.obj (s.getD x.a.toNat 0)).nr := by unfold Mdl.bound; rw [if_neg (by omega), if_pos h]
    have hb' := hb (by rw [h]; rfl)
    rw [e3] at hz
    rw [e4] at hi
    have := (A.w.obj (slotHas A.w A.hs ha (hz ha.1))).nr
    rw [e1, e2]
    exact e88 A ha hb' (hz ha.1) (hi (by omega))
  · have e1 : wE x.k = 90 := by rw [h]; rfl
    have e2 : M.eff mu s x = (M.setObj (s.getD x.a.toNat 0) { M.obj (s.getD x.a.toNat 0) with data := (M.obj (s.getD x.a.toNat 0)).data.set x.i.toNat x.n }, e0) := by unfold Mdl.eff; simp only [h]; rfl
    have e3 : wNeed x = x.a := by unfold wNeed; rw [if_neg (by omega), if_pos (by omega)]
    have e4 : M.bound s x = (M.obj (s.getD x.a.toNat 0)).nd := by unfold Mdl.bound; rw [if_neg (by omega), if_neg (by omega), if_pos (by omega)]
    rw [e3] at hz
    rw [e4] at hi
    have := (A.w.obj (slotHas A.w A.hs ha (hz ha.1))).nd
    rw [e1, e2]
    exact e90 A ha (hz ha.1) (hi (by omega))
  · have e1 : wE x.k = 91 := by rw [h]; rfl
    have e2 : M.eff mu s x = (M, ⟨[(M.obj (s.getD x.a.toNat 0)).data.getD x.i.toNat 0], 0, 0, 0, 0, 0, 0⟩) := by unfold Mdl.eff; simp only [h]; rfl
    have e3 : wNeed x = x.a := by unfold wNeed; rw [if_neg (by omega), if_pos (by omega)]
    have e4 : M.bound s x = (M.obj (s.getD x.a.toNat 0)).nd := by unfold Mdl.bound; rw [if_neg (by omega), if_neg (by omega), if_pos (by omega)]
    rw [e3] at hz
    rw [e4] at hi
    have := (A.w.obj (slotHas A.w A.hs ha (hz ha.1))).nd
    rw [e1, e2]
    exact e91 A ha (hz ha.1) (hi (by omega))
  · have e1 : wE x.k = 93 := by rw [h]; rfl
    have e2 : M.eff mu s x = (M.setSlot mu s x.a (s.getD x.b.toNat 0), ⟨[], 0, 0, 0, 0, 0, s.getD x.b.toNat 0⟩) := by unfold Mdl.eff; simp only [h]; rfl
    rw [e1, e2]
    exact e93 A ha (hb (by rw [h]; rfl))
  · have e1 : wE x.k = 94 := by rw [h]; rfl
    have e2 : M.eff mu s x = (M.setSlot mu s x.a 0, e0) := by unfold Mdl.eff; simp only [h]; rfl
    rw [e1, e2]
    exact e94 A ha
  · have e1 : wE x.k = 95 := by rw [h]; rfl
    have e2 : M.eff mu s x = (M, ⟨[if s.getD x.a.toNat 0 = s.getD x.b.toNat 0 then 1 else 0], 0, 0, 0, 0, 0, 0⟩) := by unfold Mdl.eff; simp only [h]; rfl
    rw [e1, e2]
    exact e95 A ha (hb (by rw [h]; rfl))
  · have e1 : wE x.k = 96 := by rw [h]; rfl
    have e2 : M.eff mu s x = (M, ⟨[s.getD x.a.toNat 0], 0, 0, 0, 0, 0, 0⟩) := by unfold Mdl.eff; simp only [h]; rfl
    rw [e1, e2]
    exact e96 A ha
  · have e1 : wE x.k = 98 := by rw [h]; rfl
    have e2 : M.eff mu s x = ({ M with globals := M.globals.set x.i.toNat (s.getD x.a.toNat 0) }, e0) := by unfold Mdl.eff; simp only [h]; rfl
    have e4 : M.bound s x = 16 := by unfold Mdl.bound; rw [if_neg (by omega), if_neg (by omega), if_neg (by omega), if_pos (by omega)]
    rw [e4] at hi
    rw [e1, e2]
    exact e98 A ha (hi (by omega))
  · have e1 : wE x.k = 99 := by rw [h]; rfl
    have e2 : M.eff mu s x = (M.setSlot mu s x.a (M.globals.getD x.i.toNat 0), ⟨[], 0, 0, 0, 0, 0, M.globals.getD x.i.toNat 0⟩) := by unfold Mdl.eff; simp only [h]; rfl
    have e4 : M.bound s x = 16 := by unfold Mdl.bound; rw [if_neg (by omega), if_neg (by omega), if_neg (by omega), if_pos (by omega)]
    rw [e4] at hi
    rw [e1, e2]
    exact e99 A ha (hi (by omega))
  · have e1 : wE x.k = 100 := by rw [h]; rfl
    have e2 : M.eff mu s x = (M, ⟨[(M.obj (s.getD x.a.toNat 0)).nr, (M.obj (s.getD x.a.toNat 0)).nd, (M.obj (s.getD x.a.toNat 0)).kd], 0, 0, 0, 0, 0, 0⟩) := by unfold Mdl.eff; simp only [h]; rfl
    have e3 : wNeed x = x.a := by unfold wNeed; rw [if_neg (by omega), if_pos (by omega)]
    rw [e3] at hz
    rw [e1, e2]
    exact e100 A ha (hz ha.1)
end
end Go.Cs.Try

/- What is kept, plainly: the least set, and how it is found. -/
namespace Go.Cs
open Go

def soft (kd : Int) : Nat := if kd = 1 then 1 else if kd = 2 then 2 else 0
def Mdl.places (M : Mdl) : List Int := M.slots.flatten ++ M.globals ++ M.queue

/-- What is kept. -/
inductive Kp (M : Mdl) : Int → Prop
  | root {v : Int} : v ∈ M.places → v ≠ 0 → Kp M v
  | strong {n v : Int} : Kp M n → v ∈ (M.obj n).refs.drop (soft (M.obj n).kd) → v ≠ 0 → Kp M v
  | eph {n : Int} : Kp M n → (M.obj n).kd = 2 → Kp M ((M.obj n).refs.getD 0 0) → (M.obj n).refs.getD 1 0 ≠ 0 → Kp M ((M.obj n).refs.getD 1 0)

theorem Mdl.Ok.place {M : Mdl} (w : M.Ok) {v : Int} (h : v ∈ M.places) : 0 ≤ v ∧ v ≤ (M.objs.length : Int) := by
  unfold Mdl.places at h
  simp only [List.mem_append, List.mem_flatten] at h
  rcases h with (⟨s, hs, hv⟩ | h) | h
  · exact (w.s16 s hs).2 v hv
  · exact w.g16.2 v h
  · have := w.q64.2 v h; omega

theorem Kp.has {M : Mdl} (w : M.Ok) {v : Int} (h : Kp M v) : M.has v := by
  unfold Mdl.has
  induction h with
  | root h hz => have := w.place h; omega
  | strong _ h hz ih => have := (w.obj ih).ids _ (List.mem_of_mem_drop h); omega
  | @eph n _ h1 _ hz ih _ =>
    have hk := (w.obj ih)
    have h2 := hk.kd.2.2.2 h1
    have h3 := hk.nr
    have := hk.ids _ (List.mem_of_getElem? (getD_of (l := (M.obj n).refs) (i := 1) 0 (by omega)))
    omega

abbrev KSt := List Bool × List Int
def on (ks : List Bool) (v : Int) : Bool := ks.getD v.toNat false

def reach (s : KSt) (v : Int) : KSt := if v ≠ 0 ∧ on s.1 v = false then (s.1.set v.toNat true, s.2 ++ [v]) else s

def falses (ks : List Bool) : Nat := ks.count false
def meas (s : KSt) : Nat := falses s.1 + s.2.length

theorem count_set {ks : List Bool} : ∀ {i : Nat}, i < ks.length → ks.getD i false = false → (ks.set i true).count false + 1 = ks.count false := by
  induction ks with
  | nil => intro i h; simp at h
  | cons a r ih =>
    intro i h hf
    cases i with
    | zero => simp at hf; subst hf; simp
    | succ i =>
      simp only [List.length_cons] at h
      have := ih (i := i) (by omega) (by simpa using hf)
      simp only [List.set_cons_succ, List.count_cons]
      omega

theorem on_set {ks : List Bool} {v u : Int} (hv : 0 ≤ v ∧ v.toNat < ks.length) (hu : 0 ≤ u) : on (ks.set v.toNat true) u = (decide (u = v) || on ks u) := by
  unfold on
  by_cases h : u = v
  · subst h
    simp [List.getD_eq_getElem?_getD, List.getElem?_set_self hv.2]
  · have : v.toNat ≠ u.toNat := by omega
    simp [List.getD_eq_getElem?_getD, List.getElem?_set_ne this, h]

theorem on_lt {ks : List Bool} {v : Int} (h : on ks v = true) : v.toNat < ks.length := by
  unfold on at h
  by_cases hl : v.toNat < ks.length
  · exact hl
  · rw [List.getD_eq_getElem?_getD, List.getElem?_eq_none (by omega)] at h; simp at h

/-- In order: lengths, and what lies on the stack. -/
structure KOk (n : Nat) (s : KSt) : Prop where
  len : s.1.length = n + 1
  zero : on s.1 0 = false
  stk : ∀ v ∈ s.2, 1 ≤ v ∧ v ≤ (n : Int) ∧ on s.1 v = true
  few : s.2.length + falses s.1 ≤ n + 1

theorem KOk.reach {n : Nat} {s : KSt} (h : KOk n s) {v : Int} (hv : 0 ≤ v ∧ v ≤ (n : Int)) : KOk n (reach s v) ∧ meas (Go.Cs.reach s v) = meas s ∧ (∀ u, 0 ≤ u → on s.1 u = true → on (Go.Cs.reach s v).1 u = true) ∧ (v ≠ 0 → on (Go.Cs.reach s v).1 v = true) ∧
    (∀ u, 0 ≤ u → on (Go.Cs.reach s v).1 u = true → on s.1 u = true ∨ (u = v ∧ v ≠ 0 ∧ u ∈ (Go.Cs.reach s v).2)) ∧ (∀ u ∈ s.2, u ∈ (Go.Cs.reach s v).2) ∧ ((Go.Cs.reach s v).2 = [] → Go.Cs.reach s v = s) := by
  unfold Go.Cs.reach
  by_cases c : v ≠ 0 ∧ on s.1 v = false
  · rw [if_pos c]
    have hl : v.toNat < s.1.length := by rw [h.len]; omega
    have hc := count_set hl c.2
    have hs : ∀ u, 0 ≤ u → on (s.1.set v.toNat true) u = (decide (u = v) || on s.1 u) := fun u hu => on_set ⟨hv.1, hl⟩ hu
    have hfew := h.few
    unfold falses at hfew
    refine ⟨⟨by simp [h.len], ?_, ?_, ?_⟩, ?_, ?_, ?_, ?_, ?_, ?_⟩
    · rw [hs 0 (by omega), h.zero]; simp; omega
    · intro u hu
      simp only [List.mem_append, List.mem_singleton] at hu
      rcases hu with hu | rfl
      · have := h.stk u hu
        refine ⟨this.1, this.2.1, ?_⟩
        rw [hs u (by omega), this.2.2]; simp
      · refine ⟨by omega, hv.2, ?_⟩
        rw [hs u hv.1]; simp
    · unfold falses; simp only [List.length_append, List.length_singleton]; omega
    · unfold meas falses; simp only [List.length_append, List.length_singleton]; omega
    · intro u hu h1; rw [hs u hu, h1]; simp
    · intro _; rw [hs v hv.1]; simp
    · intro u hu h1
      rw [hs u hu] at h1
      simp only [Bool.or_eq_true, decide_eq_true_eq] at h1
      rcases h1 with rfl | h1
      · exact .inr ⟨rfl, c.1, by simp⟩
      · exact .inl h1
    · intro u hu; simp [hu]
    · intro hh; simp at hh
  · rw [if_neg c]
    refine ⟨h, rfl, fun _ _ h => h, ?_, fun _ _ h => .inl h, fun _ h => h, fun _ => rfl⟩
    intro hz
    cases e : on s.1 v with
    | true => rfl
    | false => exact absurd ⟨hz, e⟩ c

/-- Many. -/
def reaches (s : KSt) (l : List Int) : KSt := l.foldl reach s

theorem KOk.reaches {n : Nat} : ∀ {l : List Int} {s : KSt}, KOk n s → (∀ v ∈ l, 0 ≤ v ∧ v ≤ (n : Int)) → KOk n (reaches s l) ∧ meas (Go.Cs.reaches s l) = meas s ∧ (∀ u, 0 ≤ u → on s.1 u = true → on (Go.Cs.reaches s l).1 u = true) ∧ (∀ v ∈ l, v ≠ 0 → on (Go.Cs.reaches s l).1 v = true) ∧
    (∀ u, 0 ≤ u → on (Go.Cs.reaches s l).1 u = true → on s.1 u = true ∨ (u ∈ l ∧ u ≠ 0 ∧ u ∈ (Go.Cs.reaches s l).2)) ∧ (∀ u ∈ s.2, u ∈ (Go.Cs.reaches s l).2)
  | [], s, h, _ => ⟨h, rfl, fun _ _ h => h, fun v hv => by simp at hv, fun _ _ h => .inl h, fun _ h => h⟩
  | v :: l, s, h, hl => by
    obtain ⟨a1, a2, a3, a4, a5, a6, _⟩ := h.reach (hl v (by simp))
    obtain ⟨b1, b2, b3, b4, b5, b6⟩ := a1.reaches (l := l) (fun u hu => hl u (by simp [hu]))
    refine ⟨b1, b2.trans a2, fun u hu h1 => b3 u hu (a3 u hu h1), ?_, ?_, fun u hu => b6 u (a6 u hu)⟩
    · intro u hu hz
      simp only [List.mem_cons] at hu
      rcases hu with rfl | hu
      · exact b3 u (hl u (by simp)).1 (a4 hz)
      · exact b4 u hu hz
    · intro u hu h1
      rcases b5 u hu h1 with h2 | ⟨h2, h3, h4⟩
      · rcases a5 u hu h2 with h5 | ⟨rfl, h6, h7⟩
        · exact .inl h5
        · exact .inr ⟨by simp, h6, b6 u h7⟩
      · exact .inr ⟨by simp [h2], h3, h4⟩

theorem falses_reach {s : KSt} {v : Int} : falses (reach s v).1 ≤ falses s.1 := by
  unfold reach
  split
  · rename_i h
    by_cases hl : v.toNat < s.1.length
    · have := count_set hl h.2
      unfold falses; dsimp only; omega
    · dsimp only; rw [List.set_eq_of_length_le (by omega)]; exact Nat.le_refl _
  · exact Nat.le_refl _
theorem falses_reaches : ∀ {l : List Int} {s : KSt}, falses (reaches s l).1 ≤ falses s.1
  | [], _ => Nat.le_refl _
  | v :: l, s => Nat.le_trans (falses_reaches (l := l) (s := reach s v)) falses_reach
theorem reaches_append {s : KSt} {l k : List Int} : reaches s (l ++ k) = reaches (reaches s l) k := by unfold reaches; rw [List.foldl_append]

/-- What is found so far is kept; and what is not on the stack has led on. -/
structure KInv (M : Mdl) (s : KSt) : Prop where
  ok : KOk M.objs.length s
  snd : ∀ v, 0 ≤ v → on s.1 v = true → Kp M v
  roots : ∀ v ∈ M.places, v ≠ 0 → on s.1 v = true
  cl : ∀ n, 0 ≤ n → on s.1 n = true → n ∉ s.2 → ∀ v ∈ (M.obj n).refs.drop (soft (M.obj n).kd), v ≠ 0 → on s.1 v = true

theorem KInv.mono {M : Mdl} (w : M.Ok) {s s' : KSt} (h : KInv M s) (k : KOk M.objs.length s') (hm : ∀ u, 0 ≤ u → on s.1 u = true → on s'.1 u = true)
    (hn : ∀ u, 0 ≤ u → on s'.1 u = true → on s.1 u = true ∨ (Kp M u ∧ u ∈ s'.2)) (hs : ∀ u, u ∈ s.2 → u ∈ s'.2) : KInv M s' := by
  refine ⟨k, ?_, ?_, ?_⟩
  · intro u hu h1
    rcases hn u hu h1 with h2 | ⟨h2, _⟩
    · exact h.snd u hu h2
    · exact h2
  · intro u hu hz
    exact hm u (w.place hu).1 (h.roots u hu hz)
  · intro n hn' h1 h2 u hu hz
    rcases hn n hn' h1 with h3 | ⟨_, h4⟩
    · have := (w.obj (Kp.has w (h.snd n hn' h3))).ids u (List.mem_of_mem_drop hu)
      exact hm u this.1 (h.cl n hn' h3 (fun hh => h2 (hs n hh)) u hu hz)
    · exact absurd h4 h2

theorem KInv.reach {M : Mdl} (w : M.Ok) {s : KSt} (h : KInv M s) {v : Int} (hv : 0 ≤ v ∧ v ≤ (M.objs.length : Int)) (hk : v ≠ 0 → Kp M v) : KInv M (reach s v) := by
  obtain ⟨a1, a2, a3, a4, a5, a6, _⟩ := h.ok.reach hv
  refine h.mono w a1 a3 (fun u hu h1 => ?_) a6
  rcases a5 u hu h1 with h2 | ⟨rfl, h3, h4⟩
  · exact .inl h2
  · exact .inr ⟨hk h3, h4⟩

/-- One from the stack is done. -/
theorem KInv.pop {M : Mdl} (w : M.Ok) {ks : List Bool} {st : List Int} {v : Int} (h : KInv M (ks, st ++ [v])) :
    KInv M (reaches (ks, st) ((M.obj v).refs.drop (soft (M.obj v).kd))) ∧ meas (reaches (ks, st) ((M.obj v).refs.drop (soft (M.obj v).kd))) + 1 = meas (ks, st ++ [v]) := by
  have hv := h.ok.stk v (by simp)
  have hkv := h.snd v (by omega) hv.2.2
  have hids : ∀ u ∈ (M.obj v).refs.drop (soft (M.obj v).kd), 0 ≤ u ∧ u ≤ (M.objs.length : Int) := fun u hu => (w.obj (Kp.has w hkv)).ids u (List.mem_of_mem_drop hu)
  have k0 : KOk M.objs.length (ks, st) := by
    refine ⟨h.ok.len, h.ok.zero, fun u hu => h.ok.stk u (by simp [hu]), ?_⟩
    have := h.ok.few
    simp only [List.length_append, List.length_singleton] at this ⊢
    omega
  obtain ⟨b1, b2, b3, b4, b5, b6⟩ := k0.reaches hids
  refine ⟨⟨b1, ?_, ?_, ?_⟩, ?_⟩
  · intro u hu h1
    rcases b5 u hu h1 with h2 | ⟨h2, h3, _⟩
    · exact h.snd u hu h2
    · exact .strong hkv h2 h3
  · intro u hu hz
    exact b3 u (w.place hu).1 (h.roots u hu hz)
  · intro n hn h1 h2 u hu hz
    rcases b5 n hn h1 with h3 | ⟨_, _, h4⟩
    · have hr := (w.obj (Kp.has w (h.snd n hn h3))).ids u (List.mem_of_mem_drop hu)
      by_cases e : n = v
      · subst e; exact b4 u hu hz
      · refine b3 u hr.1 (h.cl n hn h3 (fun hh => ?_) u hu hz)
        simp only [List.mem_append, List.mem_singleton] at hh
        rcases hh with hh | hh
        · exact h2 (b6 n hh)
        · exact e hh
    · exact absurd h4 h2
  · rw [b2]; unfold meas; simp; omega

/-- Whether the ephemeron n has led on. -/
def ephOk (M : Mdl) (ks : List Bool) (n : Int) : Prop := on ks n = true → (M.obj n).kd = 2 → on ks ((M.obj n).refs.getD 0 0) = true → (M.obj n).refs.getD 1 0 = 0 ∨ on ks ((M.obj n).refs.getD 1 0) = true

/-- In the end what is found is just what is kept. -/
theorem KInv.done {M : Mdl} (w : M.Ok) {ks : List Bool} (h : KInv M (ks, [])) (he : ∀ n : Int, 1 ≤ n → n ≤ (M.objs.length : Int) → ephOk M ks n) {v : Int} (hv : 0 ≤ v) : on ks v = true ↔ Kp M v := by
  constructor
  · exact h.snd v hv
  · intro hk
    clear hv
    induction hk with
    | root h1 hz => exact h.roots _ h1 hz
    | strong h1 h2 hz ih =>
      have := Kp.has w h1
      unfold Mdl.has at this
      exact h.cl _ (by omega) ih (by simp) _ h2 hz
    | @eph n h1 h2 _ hz ih ih2 =>
      have := Kp.has w h1
      unfold Mdl.has at this
      exact (he n this.1 this.2 ih h2 ih2).resolve_left hz

noncomputable instance (M : Mdl) (v : Int) : Decidable (Kp M v) := Classical.propDecidable _
noncomputable def Mdl.keptL (M : Mdl) : List Bool := (List.range (M.objs.length + 1)).map fun (i : Nat) => decide (Kp M (i : Int))

theorem KInv.keptL {M : Mdl} (w : M.Ok) {ks : List Bool} (h : KInv M (ks, [])) (he : ∀ n : Int, 1 ≤ n → n ≤ (M.objs.length : Int) → ephOk M ks n) : ks = M.keptL := by
  apply List.ext_getElem?
  intro i
  by_cases hi : i < M.objs.length + 1
  · have h1 := getD_of (l := ks) (i := i) false (by rw [h.ok.len]; exact hi)
    rw [h1]
    unfold Mdl.keptL
    rw [List.getElem?_map, List.getElem?_range hi, Option.map_some]
    congr 1
    have h2 := h.done w he (v := (i : Int)) (by omega)
    unfold on at h2
    rw [Int.toNat_natCast] at h2
    by_cases hk : Kp M (i : Int)
    · rw [h2.2 hk]; exact (decide_eq_true hk).symm
    · rw [decide_eq_false hk]
      cases e : ks.getD i false with
      | false => rfl
      | true => exact absurd (h2.1 e) hk
  · rw [List.getElem?_eq_none (by rw [h.ok.len]; omega), List.getElem?_eq_none]
    unfold Mdl.keptL
    simp; omega

/-- The start. -/
theorem KInv.start {M : Mdl} (w : M.Ok) : KInv M (reaches (List.replicate (M.objs.length + 1) false, []) M.places) := by
  have k0 : KOk M.objs.length (List.replicate (M.objs.length + 1) false, ([] : List Int)) := by
    refine ⟨by simp, by simp [on, List.getD_eq_getElem?_getD], by simp, by simp [falses]⟩
  have hf : ∀ u : Int, on (List.replicate (M.objs.length + 1) false) u = false := by
    intro u
    unfold on
    rw [List.getD_eq_getElem?_getD, List.getElem?_replicate]
    split <;> rfl
  obtain ⟨b1, b2, b3, b4, b5, b6⟩ := k0.reaches (l := M.places) (fun v hv => w.place hv)
  refine ⟨b1, ?_, b4, ?_⟩
  · intro u hu h1
    rcases b5 u hu h1 with h2 | ⟨h2, h3, _⟩
    · exact absurd h2 (by rw [hf]; simp)
    · exact .root h2 h3
  · intro n hn h1 h2
    rcases b5 n hn h1 with h3 | ⟨_, _, h4⟩
    · exact absurd h3 (by rw [hf]; simp)
    · exact absurd h4 h2
end Go.Cs

/- The contract of Do. -/
namespace Go.Cs.Try
open Go Go.Cs
set_option maxRecDepth 100000
section
variable {o : Tags} {g : Nat} {H : CHeap} {b : Nat} {M : Mdl} {L : Lay} {x : Act} {mu : Int}

theorem doAt (m : MRep o g H b M L) (w : M.Ok) : ∃ t2, L.sl = .slice (blkOf L.sl) 0 M.slots.length M.slots.length 1 t2 ∧ DoAt b H M.slots.length (blkOf L.sl) t2 L.gl L.qv L.ov L.sv := by
  have hn := w.ns
  obtain ⟨t2, e1, e2, e3, e4⟩ := m.slots.pos (by omega)
  have hc := m.cells
  rw [e1] at hc
  exact ⟨t2, e1, fun J => f41 (m.app J) w, hc, e3⟩

/-- A failed act: nothing happens. -/
theorem failed {r : Option (CV × CHeap)} {n : Int} {J : CHeap} (m : MRep o g H b M L) (hr : r = some (.tup [.agg zEff, .i n], H ++ J)) : DoesD o g H b M e0 n r :=
  ⟨_, o, L, .nilSlice, hr, m.app J, .grow m.dom (by simp) (fun c hc => List.getElem?_append_left hc), At.nil⟩

theorem app5 {a b c d e : CHeap} : H ++ a ++ b ++ c ++ d ++ e = H ++ (a ++ b ++ c ++ d ++ e) := by simp only [List.append_assoc]
theorem app6 {a b c d e f : CHeap} : H ++ a ++ b ++ c ++ d ++ e ++ f = H ++ (a ++ b ++ c ++ d ++ e ++ f) := by simp only [List.append_assoc]
theorem app3 {a b c : CHeap} : H ++ a ++ b ++ c = H ++ (a ++ b ++ c) := by simp only [List.append_assoc]

/-- A done act. -/
theorem finished {r : Option (CV × CHeap)} {J : CHeap} {M' : Mdl} {e : Eff} {q : Option (CV × CHeap)} (m : MRep o g H b M L) (hJ : 2 ≤ J.length) (hd : DoesE o g (H ++ J) b M' e q)
    (hz : (H ++ J)[H.length + 1]? = some ⟨zEff, .rw, 0⟩)
    (hr : ∀ tv H', q = some (effOf tv e, H') → H'[H.length + 1]? = some ⟨zEff, .rw, 0⟩ → leaf tv = true → r = some (.tup [effOf tv e, .i 0], H'.set (H.length + 1) ⟨[tv, .i e.o, .i e.i, .i e.old, .i e.new, .i e.made, .i e.loaded], .rw, 0⟩)) :
    DoesD o g H b M' e 0 r := by
  obtain ⟨H', o', L', tv, e1, m1, fr, at1⟩ := hd
  have hfree : ∀ c, H.length ≤ c → ∀ t, o c ≠ some t := fun c hc t h => by have := m.dom c t h; omega
  have hl : H.length + 1 < (H ++ J).length := by simp; omega
  have hk : H'[H.length + 1]? = some ⟨zEff, .rw, 0⟩ := by
    rw [fr.keep _ hl (fun k h => hfree _ (by omega) _ h), hz]
  have hl' := lt_of_get hk
  have ho' : ∀ t, o' (H.length + 1) ≠ some t := fun t h => by
    rw [fr.tag _ hl] at h; exact hfree _ (by omega) _ h
  refine ⟨_, o', L', tv, hr tv H' e1 hk at1.leaf, ?_, ?_, ?_⟩
  · refine m1.frame (fun c t h => by rw [List.length_set]; exact m1.dom c t h) (fun _ _ h => h) (fun c k h => ?_)
    rw [List.getElem?_set_ne]
    rintro rfl; exact ho' _ h
  · have f1 : Frm g o H o (H ++ J) := .grow m.dom (by simp) (fun c hc => List.getElem?_append_left hc)
    have f2 := f1.trans fr
    refine ⟨by rw [List.length_set]; exact f2.len, f2.tag, f2.new, fun c hc hk' => ?_⟩
    rw [List.getElem?_set_ne (by omega), f2.keep c hc hk']
  · rcases at1 with h | ⟨k, t, rfl, h1, h2, h3⟩
    · exact .inl h
    · have := (Loc_some.1 h1).1
      refine .inr ⟨k, t, rfl, Loc_some.2 ⟨by simp at this; omega, rfl⟩, ?_, h3⟩
      rw [List.getElem?_set_ne (by omega), h2]

/-- Do. -/
theorem f40 (m : MRep o g H b M L) (w : M.Ok) (hf : M.objs.length < 100000) : DoesD o g H b (M.doAct mu x).1 (M.doAct mu x).2.1 (M.doAct mu x).2.2 (run P 40 [.ptr b 0, .i mu, .agg [.i x.k, .i x.a, .i x.b, .i x.i, .i x.n, .i x.nr, .i x.nd, .i x.sk]] H) := by
  obtain ⟨t2, e1, D⟩ := doAt m w
  have fail : ∀ n, M.errOf mu x = n → n ≠ 0 → M.doAct mu x = (M, e0, n) := fun n h hn => by unfold Mdl.doAct; rw [if_neg (by rw [h]; exact hn), h]
  by_cases c : 0 ≤ mu ∧ mu < (M.slots.length : Int) ∧ 0 ≤ x.k ∧ x.k < 12
  case neg =>
    rw [fail 1 (by unfold Mdl.errOf; rw [if_pos c]) (by omega)]
    have h := d_mu (x := x) (mu := mu) D (by omega)
    rw [app3] at h
    exact failed m h
  have hs := getD_of (l := M.slots) (i := mu.toNat) [] (by omega)
  obtain ⟨v, hv, ha⟩ := m.slot _ _ hs
  obtain ⟨tl, d1, d2, d3, d4⟩ := ha.pos (by omega)
  have h16 := (w.s16 _ (List.mem_of_getElem? hs)).1
  have hsl := hv
  rw [d1] at hsl
  generalize hS : M.slots.getD mu.toNat [] = s at *
  by_cases ca : (0 ≤ x.a ∧ x.a < 16) ∧ (wB x.k = true → 0 ≤ x.b ∧ x.b < 16)
  case neg =>
    rw [fail 1 (by unfold Mdl.errOf; rw [if_neg (fun h => h c), if_pos ca]) (by omega)]
    have h := d_slot D rfl c hsl (by
      by_cases h : 0 ≤ x.a ∧ x.a < 16
      · cases hw : wB x.k with
        | true => exact .inr ⟨rfl, fun h' => ca ⟨h, fun _ => h'⟩⟩
        | false => exact absurd ⟨h, fun h' => by rw [hw] at h'; cases h'⟩ ca
      · exact .inl h)
    rw [app5] at h
    exact failed m h
  have hnd : ∀ c, H.length ≤ c → o c = none := fun c hc => by
    cases h : o c with
    | none => rfl
    | some t => have := m.dom c t h; omega
  have hl5 := m.dom _ _ d2
  have hlb := m.dom _ _ m.top
  have A : ActAt o g (H ++ [⟨[.i x.k, .i x.a, .i x.b, .i x.i, .i x.n, .i x.nr, .i x.nd, .i x.sk], .rw, 0⟩] ++ [⟨zEff, .rw, 0⟩] ++ [⟨wayCells, .rw, 4⟩] ++ [⟨[.bool (wB x.k), .func (wN x.k) [], .func (wU x.k) [], .func (wE x.k) []], .rw, 0⟩] ++ [⟨[.i x.k, .i x.a, .i x.b, .i x.i, .i x.n, .i x.nr, .i x.nd, .i x.sk, .ptr b 0, .slice (blkOf v) 0 16 16 1 tl], .rw, 0⟩]) b M L (H.length + 4) x mu.toNat s v tl :=
    ⟨((((m.app _).app _).app _).app _).app _, w, by rw [← d1]; simp (disch := first | omega | rfl | assumption | (simp only [csN, Nat.reduceAdd, Nat.reduceMul, Nat.reduceLeDiff, Nat.reduceEqDiff] <;> omega) | (simp only [csF]; done) | (simp only [csF] <;> assumption) | fail) only [Nat.reduceEqDiff, Nat.reduceAdd, Nat.reduceMul, Nat.reduceSub, Nat.reduceLeDiff, Int.reduceAdd, Int.reduceSub, Int.reduceMul, Int.reduceLT, Int.reduceLE, Int.reduceGT, Int.reduceGE, Int.reduceEq, Int.reduceBEq, Int.reduceBNe, Int.reduceNeg, Int.reduceToNat, csAll, ↓reduceIte], hnd _ (by omega), hs, hv, d1, d2, by simp (disch := first | omega | rfl | assumption | (simp only [csN, Nat.reduceAdd, Nat.reduceMul, Nat.reduceLeDiff, Nat.reduceEqDiff] <;> omega) | (simp only [csF]; done) | (simp only [csF] <;> assumption) | fail) only [Nat.reduceEqDiff, Nat.reduceAdd, Nat.reduceMul, Nat.reduceSub, Nat.reduceLeDiff, Int.reduceAdd, Int.reduceSub, Int.reduceMul, Int.reduceLT, Int.reduceLE, Int.reduceGT, Int.reduceGE, Int.reduceEq, Int.reduceBEq, Int.reduceBNe, Int.reduceNeg, Int.reduceToNat, csAll, ↓reduceIte, d3], h16⟩
  by_cases ck : x.k = 0 ∧ ¬ validS x.nr x.nd x.sk
  · rw [fail 2 (by unfold Mdl.errOf; rw [if_neg (fun h => h c), if_neg (fun h => h ca), if_pos ck]) (by omega)]
    have h := d_form D rfl c hsl ca ck.1 ck.2
    rw [app6] at h
    exact failed m h
  have hk12 : 0 ≤ x.k ∧ x.k < 12 := ⟨c.2.2.1, c.2.2.2⟩
  have hneed : wNeed x < 0 ∨ 0 ≤ wNeed x ∧ wNeed x < 16 := by
    unfold wNeed
    by_cases h1 : x.k = 1
    · rw [if_pos h1]; exact .inr (ca.2 (by rw [h1]; rfl))
    · rw [if_neg h1]
      split
      · exact .inr ca.1
      · exact .inl (by omega)
  have hk0 : x.k = 0 → wNeed x = -1 ∧ M.bound s x = -1 := fun h => by
    unfold wNeed Mdl.bound; simp [h]
  by_cases cz : 0 ≤ wNeed x ∧ s.getD (wNeed x).toNat 0 = 0
  · rw [fail 7 (by unfold Mdl.errOf; rw [if_neg (fun h => h c), if_neg (fun h => h ca), if_neg ck, hS, if_pos cz]) (by omega)]
    have hr := hneed.resolve_left (by omega)
    have h := d_nil D rfl c hsl ca (fun h => by have := (hk0 h).1; omega) (needs_ok A hk12) hr d3 (by rw [slotGet h16 hr, cz.2])
    rw [app5] at h
    exact failed m h
  have hz : 0 ≤ wNeed x → s.getD (wNeed x).toNat 0 ≠ 0 := fun h h' => cz ⟨h, h'⟩
  have hnd' : wNeed x < 0 ∨ (0 ≤ wNeed x ∧ wNeed x < 16 ∧ ∃ z, (Go.Cs.ints s)[(wNeed x).toNat]? = some (.i z) ∧ z ≠ 0) := by
    rcases hneed with h | h
    · exact .inl h
    · exact .inr ⟨h.1, h.2, _, slotGet h16 h, hz h.1⟩
  by_cases ci : 0 ≤ M.bound s x ∧ ¬ (0 ≤ x.i ∧ x.i < M.bound s x)
  · rw [fail 1 (by unfold Mdl.errOf; rw [if_neg (fun h => h c), if_neg (fun h => h ca), if_neg ck, hS, if_neg cz, if_pos ci]) (by omega)]
    have h := d_index D rfl c hsl ca (fun h => by have := (hk0 h).2; omega) (needs_ok A hk12) hnd' d3 (bound_ok A hk12 ca.1 ca.2 hz) ci
    rw [app5] at h
    exact failed m h
  have hi : 0 ≤ M.bound s x → 0 ≤ x.i ∧ x.i < M.bound s x := fun h => by
    by_cases h' : 0 ≤ x.i ∧ x.i < M.bound s x
    · exact h'
    · exact absurd ⟨h, h'⟩ ci
  have hbd : M.bound s x < 0 ∨ (0 ≤ M.bound s x ∧ 0 ≤ x.i ∧ x.i < M.bound s x) := by
    by_cases h : 0 ≤ M.bound s x
    · exact .inr ⟨h, hi h⟩
    · exact .inl (by omega)
  have hok : M.doAct mu x = ((M.eff mu.toNat s x).1, (M.eff mu.toNat s x).2, 0) := by
    unfold Mdl.doAct
    rw [if_pos (by unfold Mdl.errOf; rw [if_neg (fun h => h c), if_neg (fun h => h ca), if_neg ck, hS, if_neg cz, if_neg ci]), hS]
  rw [hok]
  by_cases k0 : x.k = 0
  · have hv0 : validS x.nr x.nd x.sk := by
      by_cases h : validS x.nr x.nd x.sk
      · exact h
      · exact absurd ⟨k0, h⟩ ck
    have A' := A.app [⟨[.i x.nr, .i x.nd, .i x.sk], .rw, 0⟩]
    have he := eff_ok A' hk12 ca.1 ca.2 (fun _ => hv0) hz hi hf
    have hn := needs_ok A' hk12
    have hu := bound_ok A' hk12 ca.1 ca.2 hz
    refine finished (J := [⟨[.i x.k, .i x.a, .i x.b, .i x.i, .i x.n, .i x.nr, .i x.nd, .i x.sk], .rw, 0⟩] ++ [⟨zEff, .rw, 0⟩] ++ [⟨wayCells, .rw, 4⟩] ++ [⟨[.bool (wB x.k), .func (wN x.k) [], .func (wU x.k) [], .func (wE x.k) []], .rw, 0⟩] ++ [⟨[.i x.k, .i x.a, .i x.b, .i x.i, .i x.n, .i x.nr, .i x.nd, .i x.sk, .ptr b 0, .slice (blkOf v) 0 16 16 1 tl], .rw, 0⟩] ++ [⟨[.i x.nr, .i x.nd, .i x.sk], .rw, 0⟩]) m (by simp) (by rw [← app6]; exact he) (by rw [← app6]; simp (disch := first | omega | rfl | assumption | (simp only [csN, Nat.reduceAdd, Nat.reduceMul, Nat.reduceLeDiff, Nat.reduceEqDiff] <;> omega) | (simp only [csF]; done) | (simp only [csF] <;> assumption) | fail) only [Nat.reduceEqDiff, Nat.reduceAdd, Nat.reduceMul, Nat.reduceSub, Nat.reduceLeDiff, Int.reduceAdd, Int.reduceSub, Int.reduceMul, Int.reduceLT, Int.reduceLE, Int.reduceGT, Int.reduceGE, Int.reduceEq, Int.reduceBEq, Int.reduceBNe, Int.reduceNeg, Int.reduceToNat, csAll, ↓reduceIte]) ?_
    intro tv H' hq hr htv
    exact d_new D rfl c hsl ca k0 hv0 hn hnd' d3 hu hbd hq hr htv
  · have he := eff_ok A hk12 ca.1 ca.2 (fun h => absurd h k0) hz hi hf
    have hn := needs_ok A hk12
    have hu := bound_ok A hk12 ca.1 ca.2 hz
    refine finished (J := [⟨[.i x.k, .i x.a, .i x.b, .i x.i, .i x.n, .i x.nr, .i x.nd, .i x.sk], .rw, 0⟩] ++ [⟨zEff, .rw, 0⟩] ++ [⟨wayCells, .rw, 4⟩] ++ [⟨[.bool (wB x.k), .func (wN x.k) [], .func (wU x.k) [], .func (wE x.k) []], .rw, 0⟩] ++ [⟨[.i x.k, .i x.a, .i x.b, .i x.i, .i x.n, .i x.nr, .i x.nd, .i x.sk, .ptr b 0, .slice (blkOf v) 0 16 16 1 tl], .rw, 0⟩]) m (by simp) (by rw [← app5]; exact he) (by rw [← app5]; simp (disch := first | omega | rfl | assumption | (simp only [csN, Nat.reduceAdd, Nat.reduceMul, Nat.reduceLeDiff, Nat.reduceEqDiff] <;> omega) | (simp only [csF]; done) | (simp only [csF] <;> assumption) | fail) only [Nat.reduceEqDiff, Nat.reduceAdd, Nat.reduceMul, Nat.reduceSub, Nat.reduceLeDiff, Int.reduceAdd, Int.reduceSub, Int.reduceMul, Int.reduceLT, Int.reduceLE, Int.reduceGT, Int.reduceGE, Int.reduceEq, Int.reduceBEq, Int.reduceBNe, Int.reduceNeg, Int.reduceToNat, csAll, ↓reduceIte]) ?_
    intro tv H' hq hr htv
    exact d_ok D rfl c hsl ca k0 hn hnd' d3 hu hbd hq hr htv
end
end Go.Cs.Try

/- Loops. -/
namespace Go.Cs
open Go

/-- A loop that comes to an end: its invariant by a measure, and what holds when it is left. -/
def LoopOk (p : CProg) (c : CCode) (Inv : Nat → Env → CHeap → Prop) (Post : CX → Env → CHeap → Prop) : Prop :=
  ∀ k E H, Inv k E H → ∃ x E' H', den p (.loop c) E H = some (x, E', H') ∧ x ≠ .normal ∧ Post x E' H'

theorem loop_ind {p : CProg} {c : CCode} {Inv : Nat → Env → CHeap → Prop} {Post : CX → Env → CHeap → Prop}
    (step : ∀ k E H, Inv k E H → ∃ x E' H', den p c E H = some (x, E', H') ∧ ((x = .normal ∧ ∃ k', k' < k ∧ Inv k' E' H') ∨ (x ≠ .normal ∧ Post x E' H'))) : LoopOk p c Inv Post := by
  intro k
  induction k using Nat.strongRecOn with
  | _ k ih =>
    intro E H hi
    obtain ⟨x, E', H', e, h⟩ := step k E H hi
    rcases h with ⟨rfl, k', hk, hi'⟩ | ⟨hx, hp⟩
    · obtain ⟨x2, E2, H2, e2, h2⟩ := ih k' hk E' H' hi'
      refine ⟨x2, E2, H2, ?_, h2⟩
      rw [den_loop, e, sq_normal, e2]
    · refine ⟨x, E', H', ?_, hx, hp⟩
      rw [den_loop, e]
      cases x with
      | normal => exact absurd rfl hx
      | exit i => rfl
      | ret => rfl

theorem LoopOk.at {p : CProg} {c : CCode} {Inv : Nat → Env → CHeap → Prop} {Post : CX → Env → CHeap → Prop} (h : LoopOk p c Inv Post) {E : Env} {H : CHeap} {r : Option (CX × Env × CHeap)} (hr : den p (.loop c) E H = r) (k : Nat) (hi : Inv k E H) :
    ∃ x E' H', r = some (x, E', H') ∧ x ≠ .normal ∧ Post x E' H' := by
  obtain ⟨x, E', H', e, h⟩ := h k E H hi
  exact ⟨x, E', H', hr.symm.trans e, h⟩

theorem step_go {p : CProg} {c : CCode} {Inv : Nat → Env → CHeap → Prop} {Post : CX → Env → CHeap → Prop} {k k' : Nat} {E E' : Env} {H H' : CHeap} (e : den p c E H = some (.normal, E', H')) (hk : k' < k) (hi : Inv k' E' H') :
    ∃ x E' H', den p c E H = some (x, E', H') ∧ ((x = .normal ∧ ∃ k', k' < k ∧ Inv k' E' H') ∨ (x ≠ .normal ∧ Post x E' H')) := ⟨_, _, _, e, .inl ⟨rfl, k', hk, hi⟩⟩
theorem step_out {p : CProg} {c : CCode} {Inv : Nat → Env → CHeap → Prop} {Post : CX → Env → CHeap → Prop} {k : Nat} {x : CX} {E E' : Env} {H H' : CHeap} (e : den p c E H = some (x, E', H')) (hx : x ≠ .normal) (hp : Post x E' H') :
    ∃ x E' H', den p c E H = some (x, E', H') ∧ ((x = .normal ∧ ∃ k', k' < k ∧ Inv k' E' H') ∨ (x ≠ .normal ∧ Post x E' H')) := ⟨_, _, _, e, .inr ⟨hx, hp⟩⟩

/-- Going on behind something that comes to an end. -/
theorem sq_some {x : CX} {E : Env} {H : CHeap} {k : Env → CHeap → Option (CX × Env × CHeap)} {kk : Keep k} (h : x ≠ .normal) : sq (some (x, E, H)) k kk = some (x, E, H) := by
  cases x with
  | normal => exact absurd rfl h
  | exit i => rfl
  | ret => rfl
theorem upd_same {E : Env} {d : Nat} {v : CV} : (E.upd d v) d = v := by simp [Env.upd]
theorem upd_ne {E : Env} {d t : Nat} {v : CV} (h : t ≠ d) : (E.upd d v) t = E t := by simp [Env.upd, h]
theorem ex_env {p : CProg} {c : CCode} {E : Env} {H H2 : CHeap} {x : CX} {Q : Env → Prop} {E2 : Env} (e : den p c E H = some (x, E2, H2)) (q : Q E2) : ∃ E2, den p c E H = some (x, E2, H2) ∧ Q E2 := ⟨_, e, q⟩
end Go.Cs

/- ints: whether two lists are equal. -/
namespace Go.Cs.Try
open Go Go.Cs
set_option maxRecDepth 100000
section
variable {H : CHeap} {o o' : Tags} {t t' : Tag} {v v' : CV} {l l' : List Int}

theorem f26_1 (a : At o t H v 1 l.length (Go.Cs.ints l)) (a' : At o' t' H v' 1 l'.length (Go.Cs.ints l')) (hl : l.length = l'.length) (hm : l.length ≤ 16777216) :
    LoopOk P C26_1 (fun k E H' => E 0 = v ∧ E 1 = v' ∧ H' = H ∧ ∃ i : Nat, E 5 = .i i ∧ i ≤ l.length ∧ k = l.length - i ∧ ∀ j, j < i → l[j]? = l'[j]?)
      (fun x E' H' => H' = H ∧ ((x = .exit 0 ∧ l = l') ∨ (x = .ret ∧ l ≠ l' ∧ E' 4 = .bool false))) := by
  refine loop_ind ?_
  rintro k E H' ⟨h0, h1, rfl, i, h5, hi, hk, hj⟩
  have h2 := a.len
  by_cases c : i < l.length
  · obtain ⟨tl, d1, -, d3, d4⟩ := a.pos (by omega)
    obtain ⟨tl', d1', -, d3', d4'⟩ := a'.pos (by omega)
    have e1 : (Go.Cs.ints l)[i]? = some (.i (l.getD i 0)) := by rw [ints_get, getD_of 0 c]; rfl
    have e2 : (Go.Cs.ints l')[i]? = some (.i (l'.getD i 0)) := by rw [ints_get, getD_of 0 (by omega)]; rfl
    rw [d1] at h2 h0
    rw [d1'] at h1
    by_cases q : l.getD i 0 = l'.getD i 0
    · apply step_go (k' := l.length - (i + 1))
      · have hw : IntKind.i64.wrap ((i : Int) + 1) = ((i + 1 : Nat) : Int) := by rw [wrap_id (by omega)]; rfl
        simp (disch := first | omega | rfl | assumption | (simp only [csN, Nat.reduceAdd, Nat.reduceMul, Nat.reduceLeDiff, Nat.reduceEqDiff] <;> omega) | (simp only [csF]; done) | (simp only [csF] <;> assumption) | fail) only [Nat.reduceEqDiff, Nat.reduceAdd, Nat.reduceMul, Nat.reduceSub, Nat.reduceLeDiff, Int.reduceAdd, Int.reduceSub, Int.reduceMul, Int.reduceLT, Int.reduceLE, Int.reduceGT, Int.reduceGE, Int.reduceEq, Int.reduceBEq, Int.reduceBNe, Int.reduceNeg, Int.reduceToNat, csAll, ↓reduceIte, C26_1, h0, h1, h2, h5, d3, d3', e1, e2, hw]
        rfl
      · omega
      · refine ⟨by simp [upd_apply, h0]; exact d1.symm, by simp [upd_apply, h1]; exact d1'.symm, rfl, i + 1, by simp [upd_apply], by omega, rfl, fun j hjl => ?_⟩
        by_cases hji : j = i
        · subst hji
          rw [getD_of 0 c, getD_of 0 (by omega : j < l'.length), q]
        · exact hj j (by omega)
    · apply step_out (x := .ret)
      · simp (disch := first | omega | rfl | assumption | (simp only [csN, Nat.reduceAdd, Nat.reduceMul, Nat.reduceLeDiff, Nat.reduceEqDiff] <;> omega) | (simp only [csF]; done) | (simp only [csF] <;> assumption) | fail) only [Nat.reduceEqDiff, Nat.reduceAdd, Nat.reduceMul, Nat.reduceSub, Nat.reduceLeDiff, Int.reduceAdd, Int.reduceSub, Int.reduceMul, Int.reduceLT, Int.reduceLE, Int.reduceGT, Int.reduceGE, Int.reduceEq, Int.reduceBEq, Int.reduceBNe, Int.reduceNeg, Int.reduceToNat, csAll, ↓reduceIte, C26_1, h0, h1, h2, h5, d3, d3', e1, e2]
        rfl
      · simp
      · exact ⟨rfl, .inr ⟨rfl, by rintro rfl; exact q rfl, by simp [upd_apply]⟩⟩
  · apply step_out (x := .exit 0)
    · rw [← h0] at h2
      simp (disch := first | omega | rfl | assumption | (simp only [csN, Nat.reduceAdd, Nat.reduceMul, Nat.reduceLeDiff, Nat.reduceEqDiff] <;> omega) | (simp only [csF]; done) | (simp only [csF] <;> assumption) | fail) only [Nat.reduceEqDiff, Nat.reduceAdd, Nat.reduceMul, Nat.reduceSub, Nat.reduceLeDiff, Int.reduceAdd, Int.reduceSub, Int.reduceMul, Int.reduceLT, Int.reduceLE, Int.reduceGT, Int.reduceGE, Int.reduceEq, Int.reduceBEq, Int.reduceBNe, Int.reduceNeg, Int.reduceToNat, csAll, ↓reduceIte, C26_1, h2, h5]
      rfl
    · simp
    · refine ⟨rfl, .inl ⟨rfl, ?_⟩⟩
      apply List.ext_getElem?
      intro j
      by_cases hjl : j < l.length
      · exact hj j (by omega)
      · rw [List.getElem?_eq_none (by omega), List.getElem?_eq_none (by omega)]

/-- ints. -/
theorem f26 (a : At o t H v 1 l.length (Go.Cs.ints l)) (a' : At o' t' H v' 1 l'.length (Go.Cs.ints l')) (hm : l.length ≤ 16777216) : run P 26 [v, v'] H = some (.bool (decide (l = l')), H) := by
  have h2 := a.len
  have h2' := a'.len
  rw [run_lv c26]
  by_cases hl : l.length = l'.length
  · simp (disch := first | omega | rfl | assumption | (simp only [csN, Nat.reduceAdd, Nat.reduceMul, Nat.reduceLeDiff, Nat.reduceEqDiff] <;> omega) | (simp only [csF]; done) | (simp only [csF] <;> assumption) | fail) only [Nat.reduceEqDiff, Nat.reduceAdd, Nat.reduceMul, Nat.reduceSub, Nat.reduceLeDiff, Int.reduceAdd, Int.reduceSub, Int.reduceMul, Int.reduceLT, Int.reduceLE, Int.reduceGT, Int.reduceGE, Int.reduceEq, Int.reduceBEq, Int.reduceBNe, Int.reduceNeg, Int.reduceToNat, csAll, ↓reduceIte, C26, entry_2, h2, h2']
    generalize hr : den P (.loop C26_1) _ _ = r
    obtain ⟨x, E', H', e, hx, rfl, hp⟩ := (f26_1 a a' hl hm).at hr _ ⟨by simp [upd_apply], by simp [upd_apply], rfl, 0, by simp [upd_apply], by omega, rfl, fun j hj => by omega⟩
    subst e
    rcases hp with ⟨rfl, he⟩ | ⟨rfl, he, h4⟩
    · have hd : decide (l = l') = true := decide_eq_true he
      simp (disch := first | omega | rfl | assumption | (simp only [csN, Nat.reduceAdd, Nat.reduceMul, Nat.reduceLeDiff, Nat.reduceEqDiff] <;> omega) | (simp only [csF]; done) | (simp only [csF] <;> assumption) | fail) only [Nat.reduceEqDiff, Nat.reduceAdd, Nat.reduceMul, Nat.reduceSub, Nat.reduceLeDiff, Int.reduceAdd, Int.reduceSub, Int.reduceMul, Int.reduceLT, Int.reduceLE, Int.reduceGT, Int.reduceGE, Int.reduceEq, Int.reduceBEq, Int.reduceBNe, Int.reduceNeg, Int.reduceToNat, csAll, ↓reduceIte, hd]
    · have hd : decide (l = l') = false := decide_eq_false he
      simp (disch := first | omega | rfl | assumption | (simp only [csN, Nat.reduceAdd, Nat.reduceMul, Nat.reduceLeDiff, Nat.reduceEqDiff] <;> omega) | (simp only [csF]; done) | (simp only [csF] <;> assumption) | fail) only [Nat.reduceEqDiff, Nat.reduceAdd, Nat.reduceMul, Nat.reduceSub, Nat.reduceLeDiff, Int.reduceAdd, Int.reduceSub, Int.reduceMul, Int.reduceLT, Int.reduceLE, Int.reduceGT, Int.reduceGE, Int.reduceEq, Int.reduceBEq, Int.reduceBNe, Int.reduceNeg, Int.reduceToNat, csAll, ↓reduceIte, hd, h4]
  · have hd : decide (l = l') = false := decide_eq_false (fun h => hl (by rw [h]))
    simp (disch := first | omega | rfl | assumption | (simp only [csN, Nat.reduceAdd, Nat.reduceMul, Nat.reduceLeDiff, Nat.reduceEqDiff] <;> omega) | (simp only [csF]; done) | (simp only [csF] <;> assumption) | fail) only [Nat.reduceEqDiff, Nat.reduceAdd, Nat.reduceMul, Nat.reduceSub, Nat.reduceLeDiff, Int.reduceAdd, Int.reduceSub, Int.reduceMul, Int.reduceLT, Int.reduceLE, Int.reduceGT, Int.reduceGE, Int.reduceEq, Int.reduceBEq, Int.reduceBNe, Int.reduceNeg, Int.reduceToNat, csAll, ↓reduceIte, C26, entry_2, h2, h2', hd]
end
end Go.Cs.Try

/- The walk of kept: its parts. -/
namespace Go.Cs
open Go

theorem At.grow {o : Tags} {t : Tag} {H H' : CHeap} {v : CV} {e n : Nat} {cs : List CV} (h : At o t H v e n cs) (hf : ∀ c, c < H.length → o c = some t → H'[c]? = H[c]?) : At o t H' v e n cs := by
  rcases h with h | ⟨b, tl, rfl, h1, h2, h3⟩
  · exact .inl h
  · exact .inr ⟨b, tl, rfl, h1, by rw [hf b (lt_of_get h2) h1, h2], h3⟩
theorem At.app {o : Tags} {t : Tag} {H : CHeap} {v : CV} {e n : Nat} {cs : List CV} (h : At o t H v e n cs) (J : CHeap) : At o t (H ++ J) v e n cs := h.grow fun _ hc _ => List.getElem?_append_left hc

/-- A stack of integers in memory that is newer than B. -/
def Stk (B : Nat) (H : CHeap) (sv : CV) (st : List Int) : Prop :=
  (st = [] ∧ sv = .nilSlice) ∨ ∃ lb cap cs, sv = .slice lb 0 st.length cap 1 true ∧ B ≤ lb ∧ H[lb]? = some ⟨cs, .rw, 1⟩ ∧ cs.length = cap ∧ cs.take st.length = ints st ∧ st.length ≤ cap

theorem Stk.push {B : Nat} {H : CHeap} {sv : CV} {st : List Int} (h : Stk B H sv st) (hm : st.length + 1 ≤ maxEls) (hB : B ≤ H.length) (v : Int) :
    ∃ sv' H', appendTo H 1 sv 1 [.i v] = some (sv', H') ∧ leaf sv' = true ∧ Stk B H' sv' (st ++ [v]) ∧ H.length ≤ H'.length ∧ ∀ c, c < B → H'[c]? = H[c]? := by
  rcases h with ⟨rfl, rfl⟩ | ⟨lb, cap, cs, rfl, h1, h5, h6, h7, h8⟩
  · refine ⟨.slice H.length 0 1 1 1 true, H ++ [⟨[.i v], .rw, 1⟩], ?_, rfl, .inr ⟨H.length, 1, [.i v], rfl, hB, by simp, rfl, rfl, by simp⟩, by simp, fun c hc => by rw [List.getElem?_append_left (by omega)]⟩
    unfold appendTo
    dsimp only
    rw [if_neg (by omega), if_pos (by simp at hm; exact hm)]
  · have hb := lt_of_get h5
    by_cases hc : st.length + 1 ≤ cap
    · refine ⟨.slice lb 0 (st.length + 1) cap 1 true, H.set lb ⟨cs.set st.length (.i v), .rw, 1⟩, ?_, rfl, .inr ⟨lb, cap, cs.set st.length (.i v), by simp, h1, ?_, by simp [h6], ?_, by simpa using hc⟩, by simp, ?_⟩
      · unfold appendTo
        dsimp only
        rw [if_neg (by omega), if_pos hc, Nat.zero_add, Nat.mul_one, storeN_stN, h5, stN_1 rfl (by omega)]
        rfl
      · rw [List.getElem?_set_self hb]
      · simp only [List.length_append, List.length_singleton]
        rw [ints_app, ← h7, List.take_succ_eq_append_getElem (by simp; omega)]
        rw [List.take_set_of_le (by omega)]
        simp [ints]
      · intro c hc'
        rw [List.getElem?_set_ne (by omega)]
    · have hl : (if st.length = 0 then some [] else loadN H lb 0 (st.length * 1)) = some (ints st) := by
        by_cases hz : st.length = 0
        · rw [if_pos hz]
          have : st = [] := List.eq_nil_of_length_eq_zero hz
          subst this; rfl
        · rw [if_neg hz, loadN_ldN, h5, ldN_rw, if_pos (by omega), Nat.mul_one, List.drop_zero, h7]
      refine ⟨.slice H.length 0 (st.length + 1) (st.length + 1) 1 true, H.set lb ⟨cs, .dead, 1⟩ ++ [⟨ints st ++ [.i v], .rw, 1⟩], ?_, rfl, .inr ⟨H.length, st.length + 1, ints st ++ [.i v], by simp, hB, ?_, by simp [ints_len], ?_, by simp⟩, by simp, ?_⟩
      · unfold appendTo
        dsimp only
        rw [if_neg (by omega), if_neg hc, if_pos hm, hl, Option.bind_some, if_pos rfl, h5]
        dsimp only
        rw [if_pos ⟨rfl, rfl, by omega, rfl⟩]
      · rw [List.getElem?_append_right (by simp)]; simp
      · rw [List.take_of_length_le (by simp [ints_len]), ints_app]; rfl
      · intro c hc'
        rw [List.getElem?_append_left (by simp; omega), List.getElem?_set_ne (by omega)]

theorem Stk.frame {B : Nat} {H H' : CHeap} {sv : CV} {st : List Int} (h : Stk B H sv st) (hf : ∀ c, c < H.length → B ≤ c → H'[c]? = H[c]?) : Stk B H' sv st := by
  rcases h with h | ⟨lb, cap, cs, e, h1, h5, h6, h7, h8⟩
  · exact .inl h
  · exact .inr ⟨lb, cap, cs, e, h1, by rw [hf lb (lt_of_get h5) h1, h5], h6, h7, h8⟩

def bools (l : List Bool) : List CV := l.map CV.bool
theorem bools_len (l : List Bool) : (bools l).length = l.length := by simp [bools]
theorem bools_get (l : List Bool) (i : Nat) : (bools l)[i]? = l[i]?.map CV.bool := by simp [bools]
theorem bools_set (l : List Bool) (i : Nat) (v : Bool) : bools (l.set i v) = (bools l).set i (.bool v) := by simp [bools, List.map_set]

/-- The state of the search in memory. -/
structure KS (H0 : CHeap) (b3 b4 ob : Nat) (H : CHeap) (s : KSt) : Prop where
  low : ∀ c, c < H0.length → c ≠ b3 → c ≠ b4 → c ≠ ob → H[c]? = H0[c]?
  bs : b3 < H0.length ∧ b4 < H0.length ∧ ob < H0.length ∧ b3 ≠ b4 ∧ b3 ≠ ob ∧ b4 ≠ ob
  len : H0.length ≤ H.length
  o3 : H[b3]? = some ⟨[.slice ob 0 s.1.length s.1.length 1 false], .rw, 0⟩
  oo : H[ob]? = some ⟨bools s.1, .rw, 1⟩
  o4 : ∃ sv, H[b4]? = some ⟨[sv], .rw, 0⟩ ∧ Stk H0.length H sv s.2

theorem KS.app {H0 : CHeap} {b3 b4 ob : Nat} {H : CHeap} {s : KSt} (k : KS H0 b3 b4 ob H s) (J : CHeap) : KS H0 b3 b4 ob (H ++ J) s := by
  have h3 := lt_of_get k.o3
  have ho := lt_of_get k.oo
  obtain ⟨sv, h4, h5⟩ := k.o4
  have hl4 := lt_of_get h4
  have hl := k.len
  exact ⟨fun c hc d3 d4 d5 => by rw [List.getElem?_append_left (by omega), k.low c hc d3 d4 d5], k.bs, by simp; omega, by rw [List.getElem?_append_left h3, k.o3], by rw [List.getElem?_append_left ho, k.oo], sv, by rw [List.getElem?_append_left hl4, h4], h5.frame (fun c hc _ => List.getElem?_append_left hc)⟩
end Go.Cs
namespace Go.Cs.Try
open Go Go.Cs
set_option maxRecDepth 100000
section
/-- slices.Clone of a list of lists. -/
theorem f73 {H : CHeap} {v : CV} {n : Nat} {cs : List CV} (hv : v = .nilSlice ∧ n = 0 ∧ cs = [] ∨ ∃ b f l c z t, v = .slice b f l c z t) (he : ∀ J, elems (H ++ J) 1 v = some (n, cs)) (hc : cs.length = n) (hl : cs.all leaf = true) (hn : n ≤ maxEls) :
    ∃ v' J, run P 73 [v] H = some (v', H ++ J) ∧ At (Loc H.length) z3 (H ++ J) v' 1 n cs := by
  rcases hv with ⟨rfl, rfl, rfl⟩ | ⟨b, f, l, c, z, t, rfl⟩
  · refine ⟨.nilSlice, [], ?_, .inl ⟨rfl, rfl, .inl rfl⟩⟩
    rw [run_lv c73, List.append_nil]
    have e : ∀ H, vEqv false 2 .nilSlice .nilSlice H = some (.bool true, H) := fun _ => rfl
    simp (disch := first | omega | rfl | assumption | (simp only [csN, Nat.reduceAdd, Nat.reduceMul, Nat.reduceLeDiff, Nat.reduceEqDiff] <;> omega) | (simp only [csF]; done) | (simp only [csF] <;> assumption) | fail) only [Nat.reduceEqDiff, Nat.reduceAdd, Nat.reduceMul, Nat.reduceSub, Nat.reduceLeDiff, Int.reduceAdd, Int.reduceSub, Int.reduceMul, Int.reduceLT, Int.reduceLE, Int.reduceGT, Int.reduceGE, Int.reduceEq, Int.reduceBEq, Int.reduceBNe, Int.reduceNeg, Int.reduceToNat, csAll, ↓reduceIte, C73, entry_1, e]
  · have e : ∀ H, vEqv false 2 (.slice b f l c z t) .nilSlice H = some (.bool false, H) := fun _ => rfl
    have he' := he [⟨[], .rw, 1⟩]
    have ha : At (Loc H.length) z3 (H ++ [⟨[], .rw, 1⟩]) (.slice H.length 0 0 0 1 false) 1 0 [] := .inl ⟨rfl, rfl, .inr ⟨_, _, rfl⟩⟩
    rcases Nat.eq_zero_or_pos n with rfl | hp
    · have : cs = [] := List.eq_nil_of_length_eq_zero hc
      subst this
      refine ⟨.slice H.length 0 0 0 1 false, [⟨[], .rw, 1⟩], ?_, ?_⟩
      · rw [run_lv c73]
        have ea : ∀ H', appendTo H' 1 (.slice H.length 0 0 0 1 false) 0 [] = some (.slice H.length 0 0 0 1 false, H') := fun _ => rfl
        simp (disch := first | omega | rfl | assumption | (simp only [csN, Nat.reduceAdd, Nat.reduceMul, Nat.reduceLeDiff, Nat.reduceEqDiff] <;> omega) | (simp only [csF]; done) | (simp only [csF] <;> assumption) | fail) only [Nat.reduceEqDiff, Nat.reduceAdd, Nat.reduceMul, Nat.reduceSub, Nat.reduceLeDiff, Int.reduceAdd, Int.reduceSub, Int.reduceMul, Int.reduceLT, Int.reduceLE, Int.reduceGT, Int.reduceGE, Int.reduceEq, Int.reduceBEq, Int.reduceBNe, Int.reduceNeg, Int.reduceToNat, csAll, ↓reduceIte, C73, entry_1, e, he', ea]
      · exact .inl ⟨rfl, rfl, .inr ⟨_, _, rfl⟩⟩
    · have ea : appendTo (H ++ [⟨[], .rw, 1⟩]) 1 (.slice H.length 0 0 0 1 false) n cs = some (.slice (H.length + 1) 0 n n 1 true, H ++ [⟨[], .rw, 1⟩] ++ [⟨cs, .rw, 1⟩]) := by
        unfold appendTo
        dsimp only
        rw [if_neg (by omega), if_neg (by omega), if_pos (by omega)]
        simp
      refine ⟨.slice (H.length + 1) 0 n n 1 true, [⟨[], .rw, 1⟩, ⟨cs, .rw, 1⟩], ?_, ?_⟩
      · rw [run_lv c73]
        simp (disch := first | omega | rfl | assumption | (simp only [csN, Nat.reduceAdd, Nat.reduceMul, Nat.reduceLeDiff, Nat.reduceEqDiff] <;> omega) | (simp only [csF]; done) | (simp only [csF] <;> assumption) | fail) only [Nat.reduceEqDiff, Nat.reduceAdd, Nat.reduceMul, Nat.reduceSub, Nat.reduceLeDiff, Int.reduceAdd, Int.reduceSub, Int.reduceMul, Int.reduceLT, Int.reduceLE, Int.reduceGT, Int.reduceGE, Int.reduceEq, Int.reduceBEq, Int.reduceBNe, Int.reduceNeg, Int.reduceToNat, csAll, ↓reduceIte, C73, entry_1, e, he', ea]
        simp
      · refine .inr ⟨_, _, rfl, ?_, ?_, by omega⟩
        · rw [Loc_some]; exact ⟨by omega, rfl⟩
        · rw [List.getElem?_append_right (by omega)]; simp


/-- softs. -/
theorem f50 {nr nd kd : Int} {H : CHeap} : run P 50 [.agg [.i nr, .i nd, .i kd]] H = some (.i (soft kd), H ++ [⟨[.i nr, .i nd, .i kd], .rw, 0⟩]) := by
  rw [run_lv c50]
  by_cases h1 : kd = 1
  · have hs : (soft kd : Int) = 1 := by unfold soft; rw [if_pos h1]; rfl
    simp (disch := first | omega | rfl | assumption | (simp only [csN, Nat.reduceAdd, Nat.reduceMul, Nat.reduceLeDiff, Nat.reduceEqDiff] <;> omega) | (simp only [csF]; done) | (simp only [csF] <;> assumption) | fail) only [Nat.reduceEqDiff, Nat.reduceAdd, Nat.reduceMul, Nat.reduceSub, Nat.reduceLeDiff, Int.reduceAdd, Int.reduceSub, Int.reduceMul, Int.reduceLT, Int.reduceLE, Int.reduceGT, Int.reduceGE, Int.reduceEq, Int.reduceBEq, Int.reduceBNe, Int.reduceNeg, Int.reduceToNat, csAll, ↓reduceIte, C50, entry_1, hs]
  · by_cases h2 : kd = 2
    · have hs : (soft kd : Int) = 2 := by unfold soft; rw [if_neg h1, if_pos h2]; rfl
      simp (disch := first | omega | rfl | assumption | (simp only [csN, Nat.reduceAdd, Nat.reduceMul, Nat.reduceLeDiff, Nat.reduceEqDiff] <;> omega) | (simp only [csF]; done) | (simp only [csF] <;> assumption) | fail) only [Nat.reduceEqDiff, Nat.reduceAdd, Nat.reduceMul, Nat.reduceSub, Nat.reduceLeDiff, Int.reduceAdd, Int.reduceSub, Int.reduceMul, Int.reduceLT, Int.reduceLE, Int.reduceGT, Int.reduceGE, Int.reduceEq, Int.reduceBEq, Int.reduceBNe, Int.reduceNeg, Int.reduceToNat, csAll, ↓reduceIte, C50, entry_1, hs]
    · have hs : (soft kd : Int) = 0 := by unfold soft; rw [if_neg h1, if_neg h2]; rfl
      simp (disch := first | omega | rfl | assumption | (simp only [csN, Nat.reduceAdd, Nat.reduceMul, Nat.reduceLeDiff, Nat.reduceEqDiff] <;> omega) | (simp only [csF]; done) | (simp only [csF] <;> assumption) | fail) only [Nat.reduceEqDiff, Nat.reduceAdd, Nat.reduceMul, Nat.reduceSub, Nat.reduceLeDiff, Int.reduceAdd, Int.reduceSub, Int.reduceMul, Int.reduceLT, Int.reduceLE, Int.reduceGT, Int.reduceGE, Int.reduceEq, Int.reduceBEq, Int.reduceBNe, Int.reduceNeg, Int.reduceToNat, csAll, ↓reduceIte, C50, entry_1, hs]

theorem on_get {ks : List Bool} {v : Int} (h : v.toNat < ks.length) : (bools ks)[v.toNat]? = some (.bool (on ks v)) := by
  rw [bools_get, getD_of false h]; rfl

/-- Marking one. -/
theorem f72 {H0 : CHeap} {b3 b4 ob : Nat} {H : CHeap} {s : KSt} (k : KS H0 b3 b4 ob H s) {v : Int} (hv : 0 ≤ v ∧ v < s.1.length) (hm : s.2.length + 1 ≤ maxEls) :
    ∃ H', run P 72 [.i v, .ptr b3 0, .ptr b4 0] H = some (.tup [], H') ∧ KS H0 b3 b4 ob H' (reach s v) := by
  have h3 := k.o3
  have ho := k.oo
  have hl3 := lt_of_get h3
  have hlo := lt_of_get ho
  have hg := on_get (ks := s.1) (v := v) (by omega)
  have hd := k.bs
  by_cases hz : v = 0
  · refine ⟨H, ?_, by unfold reach; rw [if_neg (fun h => h.1 hz)]; exact k⟩
    rw [run_lv c72]
    simp (disch := first | omega | rfl | assumption | (simp only [csN, Nat.reduceAdd, Nat.reduceMul, Nat.reduceLeDiff, Nat.reduceEqDiff] <;> omega) | (simp only [csF]; done) | (simp only [csF] <;> assumption) | fail) only [Nat.reduceEqDiff, Nat.reduceAdd, Nat.reduceMul, Nat.reduceSub, Nat.reduceLeDiff, Int.reduceAdd, Int.reduceSub, Int.reduceMul, Int.reduceLT, Int.reduceLE, Int.reduceGT, Int.reduceGE, Int.reduceEq, Int.reduceBEq, Int.reduceBNe, Int.reduceNeg, Int.reduceToNat, csAll, ↓reduceIte, C72, entry_3]
  · cases hon : on s.1 v with
    | true =>
      rw [hon] at hg
      refine ⟨H, ?_, by unfold reach; rw [if_neg (fun h => by rw [hon] at h; cases h.2)]; exact k⟩
      rw [run_lv c72]
      simp (disch := first | omega | rfl | assumption | (simp only [csN, Nat.reduceAdd, Nat.reduceMul, Nat.reduceLeDiff, Nat.reduceEqDiff] <;> omega) | (simp only [csF]; done) | (simp only [csF] <;> assumption) | fail) only [Nat.reduceEqDiff, Nat.reduceAdd, Nat.reduceMul, Nat.reduceSub, Nat.reduceLeDiff, Int.reduceAdd, Int.reduceSub, Int.reduceMul, Int.reduceLT, Int.reduceLE, Int.reduceGT, Int.reduceGE, Int.reduceEq, Int.reduceBEq, Int.reduceBNe, Int.reduceNeg, Int.reduceToNat, csAll, ↓reduceIte, C72, entry_3, h3, ho, hg]
    | false =>
      rw [hon] at hg
      obtain ⟨sv, h4, h5⟩ := k.o4
      have hl4 := lt_of_get h4
      have hb : (bools s.1).length = s.1.length := bools_len _
      have hk := k.len
      have hst : Stk H0.length (H.set ob ⟨(bools s.1).set v.toNat (.bool true), .rw, 1⟩ ++ [⟨[.i v], .rw, 1⟩]) sv s.2 := h5.frame (fun c hc h => by
        rw [List.getElem?_append_left (by simpa using hc), List.getElem?_set_ne (by omega)])
      obtain ⟨sv', H', a1, a2, a3, a4, a5⟩ := hst.push hm (by simp; omega) v
      have hlen : (H.set ob ⟨(bools s.1).set v.toNat (.bool true), .rw, 1⟩ ++ [⟨[.i v], .rw, 1⟩] : CHeap).length = H.length + 1 := by simp
      rw [hlen] at a4
      have c3 : H'[b3]? = some ⟨[.slice ob 0 s.1.length s.1.length 1 false], .rw, 0⟩ := by rw [a5 b3 hd.1]; simp (disch := first | omega | rfl | assumption | (simp only [csN, Nat.reduceAdd, Nat.reduceMul, Nat.reduceLeDiff, Nat.reduceEqDiff] <;> omega) | (simp only [csF]; done) | (simp only [csF] <;> assumption) | fail) only [Nat.reduceEqDiff, Nat.reduceAdd, Nat.reduceMul, Nat.reduceSub, Nat.reduceLeDiff, Int.reduceAdd, Int.reduceSub, Int.reduceMul, Int.reduceLT, Int.reduceLE, Int.reduceGT, Int.reduceGE, Int.reduceEq, Int.reduceBEq, Int.reduceBNe, Int.reduceNeg, Int.reduceToNat, csAll, ↓reduceIte, h3]
      have co : H'[ob]? = some ⟨(bools s.1).set v.toNat (.bool true), .rw, 1⟩ := by rw [a5 ob hd.2.2.1]; simp (disch := first | omega | rfl | assumption | (simp only [csN, Nat.reduceAdd, Nat.reduceMul, Nat.reduceLeDiff, Nat.reduceEqDiff] <;> omega) | (simp only [csF]; done) | (simp only [csF] <;> assumption) | fail) only [Nat.reduceEqDiff, Nat.reduceAdd, Nat.reduceMul, Nat.reduceSub, Nat.reduceLeDiff, Int.reduceAdd, Int.reduceSub, Int.reduceMul, Int.reduceLT, Int.reduceLE, Int.reduceGT, Int.reduceGE, Int.reduceEq, Int.reduceBEq, Int.reduceBNe, Int.reduceNeg, Int.reduceToNat, csAll, ↓reduceIte]
      have c4 : H'[b4]? = some ⟨[sv], .rw, 0⟩ := by rw [a5 b4 hd.2.1]; simp (disch := first | omega | rfl | assumption | (simp only [csN, Nat.reduceAdd, Nat.reduceMul, Nat.reduceLeDiff, Nat.reduceEqDiff] <;> omega) | (simp only [csF]; done) | (simp only [csF] <;> assumption) | fail) only [Nat.reduceEqDiff, Nat.reduceAdd, Nat.reduceMul, Nat.reduceSub, Nat.reduceLeDiff, Int.reduceAdd, Int.reduceSub, Int.reduceMul, Int.reduceLT, Int.reduceLE, Int.reduceGT, Int.reduceGE, Int.reduceEq, Int.reduceBEq, Int.reduceBNe, Int.reduceNeg, Int.reduceToNat, csAll, ↓reduceIte, h4]
      have hr : reach s v = (s.1.set v.toNat true, s.2 ++ [v]) := by unfold reach; rw [if_pos ⟨hz, hon⟩]
      refine ⟨H'.set b4 ⟨[sv'], .rw, 0⟩, ?_, ?_⟩
      · rw [run_lv c72]
        simp (disch := first | omega | rfl | assumption | (simp only [csN, Nat.reduceAdd, Nat.reduceMul, Nat.reduceLeDiff, Nat.reduceEqDiff] <;> omega) | (simp only [csF]; done) | (simp only [csF] <;> assumption) | fail) only [Nat.reduceEqDiff, Nat.reduceAdd, Nat.reduceMul, Nat.reduceSub, Nat.reduceLeDiff, Int.reduceAdd, Int.reduceSub, Int.reduceMul, Int.reduceLT, Int.reduceLE, Int.reduceGT, Int.reduceGE, Int.reduceEq, Int.reduceBEq, Int.reduceBNe, Int.reduceNeg, Int.reduceToNat, csAll, ↓reduceIte, C72, entry_3, h3, ho, hg, hb, h4, a1, c4]
      · rw [hr]
        refine ⟨fun c hc d3 d4 d5 => ?_, k.bs, by simp; omega, ?_, ?_, sv', ?_, a3.frame (fun c _ h => List.getElem?_set_ne (by omega))⟩
        · rw [List.getElem?_set_ne (by omega), a5 c hc, ← k.low c hc d3 d4 d5]
          simp (disch := first | omega | rfl | assumption | (simp only [csN, Nat.reduceAdd, Nat.reduceMul, Nat.reduceLeDiff, Nat.reduceEqDiff] <;> omega) | (simp only [csF]; done) | (simp only [csF] <;> assumption) | fail) only [Nat.reduceEqDiff, Nat.reduceAdd, Nat.reduceMul, Nat.reduceSub, Nat.reduceLeDiff, Int.reduceAdd, Int.reduceSub, Int.reduceMul, Int.reduceLT, Int.reduceLE, Int.reduceGT, Int.reduceGE, Int.reduceEq, Int.reduceBEq, Int.reduceBNe, Int.reduceNeg, Int.reduceToNat, csAll, ↓reduceIte]
        · rw [List.getElem?_set_ne (Ne.symm hd.2.2.2.1), c3]; simp
        · rw [List.getElem?_set_ne hd.2.2.2.2.2, co, bools_set]
        · rw [List.getElem?_set_self (by omega)]

theorem reaches_take {s : KSt} {l : List Int} {i : Nat} (h : i < l.length) : reaches s (l.take (i + 1)) = reach (reaches s (l.take i)) (l.getD i 0) := by
  unfold reaches
  rw [List.take_succ_eq_append_getElem h, List.foldl_append]
  simp [List.getD_eq_getElem?_getD, h]

/-- The references of one object. -/
theorem l42_2 {H0 : CHeap} {b3 b4 ob : Nat} {s : KSt} {n : Nat} (hk : KOk n s) (hn : n ≤ 100000) {lst full : List Int} {rb off cap : Nat} {tl : Bool} (hsz : lst.length ≤ 100000) (hl : ∀ v ∈ lst, 0 ≤ v ∧ v ≤ (n : Int)) (hr : lst ≠ [] → rb < H0.length ∧ rb ≠ b3 ∧ rb ≠ b4 ∧ rb ≠ ob ∧ H0[rb]? = some ⟨Go.Cs.ints full, .rw, 1⟩) (hf : lst = full.drop off) (E0 : Env) :
    LoopOk P C42_2 (fun k E H => E 5 = .func 72 [.ptr b3 0, .ptr b4 0] ∧ (lst ≠ [] → E 81 = .slice rb off lst.length cap 1 tl) ∧ E 82 = .i lst.length ∧ ∃ i : Nat, E 83 = .i i ∧ i ≤ lst.length ∧ k = lst.length - i ∧ KS H0 b3 b4 ob H (reaches s (lst.take i)) ∧ ∀ t, t < 13 → E t = E0 t)
      (fun x E' H' => x = .exit 8 ∧ KS H0 b3 b4 ob H' (reaches s lst) ∧ ∀ t, t < 13 → E' t = E0 t) := by
  refine loop_ind ?_
  rintro k E H ⟨h5, h81, h82, i, h83, hi, rfl, K, hE⟩
  by_cases c : i < lst.length
  · have hne : lst ≠ [] := by rintro rfl; simp at c
    obtain ⟨r1, r2, r3, r4, r5⟩ := hr hne
    have h81' := h81 hne
    have hg : (Go.Cs.ints full)[off + i]? = some (.i (lst.getD i 0)) := by
      rw [ints_get]
      have : full[off + i]? = lst[i]? := by rw [hf, List.getElem?_drop]
      rw [this, getD_of 0 c]; rfl
    have hb : H[rb]? = some ⟨Go.Cs.ints full, .rw, 1⟩ := by rw [K.low rb r1 r2 r3 r4, r5]
    have hx := hl _ (List.mem_of_getElem? (getD_of (l := lst) (i := i) 0 c))
    obtain ⟨k1, -⟩ := hk.reaches (l := lst.take i) (fun v hv => hl v (List.mem_of_mem_take hv))
    have hlen := k1.len
    have hfew := k1.few
    obtain ⟨H', e1, K'⟩ := f72 K (v := lst.getD i 0) (by omega) (Nat.le_trans (by omega : _ ≤ 100002) (by decide))
    rw [← reaches_take c] at K'
    apply step_go (k' := lst.length - (i + 1))
    · have hw : IntKind.i64.wrap ((i : Int) + 1) = ((i + 1 : Nat) : Int) := by rw [wrap_id (by omega)]; rfl
      simp (disch := first | omega | rfl | assumption | (simp only [csN, Nat.reduceAdd, Nat.reduceMul, Nat.reduceLeDiff, Nat.reduceEqDiff] <;> omega) | (simp only [csF]; done) | (simp only [csF] <;> assumption) | fail) only [Nat.reduceEqDiff, Nat.reduceAdd, Nat.reduceMul, Nat.reduceSub, Nat.reduceLeDiff, Int.reduceAdd, Int.reduceSub, Int.reduceMul, Int.reduceLT, Int.reduceLE, Int.reduceGT, Int.reduceGE, Int.reduceEq, Int.reduceBEq, Int.reduceBNe, Int.reduceNeg, Int.reduceToNat, csAll, ↓reduceIte, C42_2, h5, h81', h82, h83, hb, hg, e1, hw]
      rfl
    · omega
    · refine ⟨by simp [upd_apply, h5], fun _ => by simp [upd_apply, h81'], by simp [upd_apply, h82], i + 1, by simp [upd_apply], by omega, rfl, K', fun t ht => ?_⟩
      have := hE t ht
      simp only [upd_apply]
      rw [if_neg (by omega), if_neg (by omega), if_neg (by omega), if_neg (by omega), if_neg (by omega), if_neg (by omega), if_neg (by omega), if_neg (by omega), if_neg (by omega)]
      exact this
  · apply step_out (x := .exit 8)
    · simp (disch := first | omega | rfl | assumption | (simp only [csN, Nat.reduceAdd, Nat.reduceMul, Nat.reduceLeDiff, Nat.reduceEqDiff] <;> omega) | (simp only [csF]; done) | (simp only [csF] <;> assumption) | fail) only [Nat.reduceEqDiff, Nat.reduceAdd, Nat.reduceMul, Nat.reduceSub, Nat.reduceLeDiff, Int.reduceAdd, Int.reduceSub, Int.reduceMul, Int.reduceLT, Int.reduceLE, Int.reduceGT, Int.reduceGE, Int.reduceEq, Int.reduceBEq, Int.reduceBNe, Int.reduceNeg, Int.reduceToNat, csAll, ↓reduceIte, C42_2, h82, h83]
      rfl
    · simp
    · have : lst.take i = lst := List.take_of_length_le (by omega)
      rw [this] at K
      exact ⟨rfl, K, fun t ht => by simp only [upd_apply]; rw [if_neg (by omega)]; exact hE t ht⟩
end
end Go.Cs.Try

/- The walk of kept: its loops. -/
namespace Go.Cs
open Go
/-- A list that is read while a search runs. -/
structure RdL (H0 : CHeap) (b3 b4 ob : Nat) (v : CV) (l : List Int) : Prop where
  len : ∀ H, vLen v H = some (.i l.length, H)
  get : l ≠ [] → ∃ rb cap tl, v = .slice rb 0 l.length cap 1 tl ∧ rb < H0.length ∧ rb ≠ b3 ∧ rb ≠ b4 ∧ rb ≠ ob ∧ H0[rb]? = some ⟨ints l, .rw, 1⟩

theorem At.rd {o : Tags} {t : Tag} {H0 : CHeap} {v : CV} {l : List Int} {b3 b4 ob n : Nat} (a : At o t H0 v 1 n (ints l)) (hn : l.length = n) (h3 : o b3 = none) (h4 : o b4 = none) (ho : o ob = none) : RdL H0 b3 b4 ob v l := by
  subst hn
  refine ⟨a.len, fun hne => ?_⟩
  have hp : 0 < l.length := by
    cases l with
    | nil => exact absurd rfl hne
    | cons => simp
  obtain ⟨tl, d1, d2, d3, -⟩ := a.pos hp
  refine ⟨blkOf v, _, tl, d1, lt_of_get d3, ?_, ?_, ?_, d3⟩ <;> (intro e; rw [e] at d2; simp_all)

theorem KS.rep {o : Tags} {g : Nat} {b : Nat} {M : Mdl} {L : Lay} {H0 : CHeap} {b3 b4 ob : Nat} {H : CHeap} {s : KSt} (m : MRep o g H0 b M L) (k : KS H0 b3 b4 ob H s) (h3 : o b3 = none) (h4 : o b4 = none) (ho : o ob = none) : MRep o g H b M L :=
  m.frame (fun c t h => Nat.lt_of_lt_of_le (m.dom c t h) k.len) (fun _ _ h => h) (fun c t h => k.low c (m.dom c _ h) (by rintro rfl; rw [h3] at h; cases h) (by rintro rfl; rw [h4] at h; cases h) (by rintro rfl; rw [ho] at h; cases h))
end Go.Cs
namespace Go.Cs.Try
open Go Go.Cs
set_option maxRecDepth 100000
section
variable {H0 : CHeap} {b3 b4 ob : Nat}

/-- The places of one list. -/
theorem l42_5 {s : KSt} {n : Nat} (hk : KOk n s) (hn : n ≤ 100000) {lst : List Int} {v : CV} (hsz : lst.length ≤ 100000) (hl : ∀ v ∈ lst, 0 ≤ v ∧ v ≤ (n : Int)) (hr : RdL H0 b3 b4 ob v lst) (E0 : Env) :
    LoopOk P C42_5 (fun k E H => E 5 = .func 72 [.ptr b3 0, .ptr b4 0] ∧ E 44 = v ∧ E 45 = .i lst.length ∧ ∃ i : Nat, E 46 = .i i ∧ i ≤ lst.length ∧ k = lst.length - i ∧ KS H0 b3 b4 ob H (reaches s (lst.take i)) ∧ ∀ t, t < 7 ∨ (38 ≤ t ∧ t ≤ 40) → E t = E0 t)
      (fun x E' H' => x = .exit 2 ∧ KS H0 b3 b4 ob H' (reaches s lst) ∧ ∀ t, t < 7 ∨ (38 ≤ t ∧ t ≤ 40) → E' t = E0 t) := by
  refine loop_ind ?_
  rintro k E H ⟨h5, h44, h45, i, h46, hi, rfl, K, hE⟩
  by_cases c : i < lst.length
  · have hne : lst ≠ [] := by rintro rfl; simp at c
    obtain ⟨rb, cap, tl, r0, r1, r2, r3, r4, r5⟩ := hr.get hne
    have hv := h44
    rw [r0] at hv
    have hg : (Go.Cs.ints lst)[i]? = some (.i (lst.getD i 0)) := by rw [ints_get, getD_of 0 c]; rfl
    have hb : H[rb]? = some ⟨Go.Cs.ints lst, .rw, 1⟩ := by rw [K.low rb r1 r2 r3 r4, r5]
    have hx := hl _ (List.mem_of_getElem? (getD_of (l := lst) (i := i) 0 c))
    obtain ⟨k1, -⟩ := hk.reaches (l := lst.take i) (fun v hv => hl v (List.mem_of_mem_take hv))
    have hlen := k1.len
    have hfew := k1.few
    obtain ⟨H', e1, K'⟩ := f72 K (v := lst.getD i 0) (by omega) (Nat.le_trans (by omega : _ ≤ 100002) (by decide))
    rw [← reaches_take c] at K'
    apply step_go (k' := lst.length - (i + 1))
    · have hw : IntKind.i64.wrap ((i : Int) + 1) = ((i + 1 : Nat) : Int) := by rw [wrap_id (by omega)]; rfl
      simp (disch := first | omega | rfl | assumption | (simp only [csN, Nat.reduceAdd, Nat.reduceMul, Nat.reduceLeDiff, Nat.reduceEqDiff] <;> omega) | (simp only [csF]; done) | (simp only [csF] <;> assumption) | fail) only [Nat.reduceEqDiff, Nat.reduceAdd, Nat.reduceMul, Nat.reduceSub, Nat.reduceLeDiff, Int.reduceAdd, Int.reduceSub, Int.reduceMul, Int.reduceLT, Int.reduceLE, Int.reduceGT, Int.reduceGE, Int.reduceEq, Int.reduceBEq, Int.reduceBNe, Int.reduceNeg, Int.reduceToNat, csAll, ↓reduceIte, C42_5, h5, hv, h45, h46, hb, hg, e1, hw]
      rfl
    · omega
    · refine ⟨by simp [upd_apply, h5], by simp [upd_apply, h44], by simp [upd_apply, h45], i + 1, by simp [upd_apply], by omega, rfl, K', fun t ht => ?_⟩
      have := hE t ht
      simp only [upd_apply]
      rw [if_neg (by omega), if_neg (by omega), if_neg (by omega), if_neg (by omega), if_neg (by omega), if_neg (by omega), if_neg (by omega), if_neg (by omega), if_neg (by omega)]
      exact this
  · apply step_out (x := .exit 2)
    · simp (disch := first | omega | rfl | assumption | (simp only [csN, Nat.reduceAdd, Nat.reduceMul, Nat.reduceLeDiff, Nat.reduceEqDiff] <;> omega) | (simp only [csF]; done) | (simp only [csF] <;> assumption) | fail) only [Nat.reduceEqDiff, Nat.reduceAdd, Nat.reduceMul, Nat.reduceSub, Nat.reduceLeDiff, Int.reduceAdd, Int.reduceSub, Int.reduceMul, Int.reduceLT, Int.reduceLE, Int.reduceGT, Int.reduceGE, Int.reduceEq, Int.reduceBEq, Int.reduceBNe, Int.reduceNeg, Int.reduceToNat, csAll, ↓reduceIte, C42_5, h45, h46]
      rfl
    · simp
    · have : lst.take i = lst := List.take_of_length_le (by omega)
      rw [this] at K
      exact ⟨rfl, K, fun t ht => by simp only [upd_apply]; rw [if_neg (by omega)]; exact hE t ht⟩

theorem take_flatten {α : Type} {ls : List (List α)} {i : Nat} (h : i < ls.length) : (ls.take (i + 1)).flatten = (ls.take i).flatten ++ ls.getD i [] := by
  rw [List.take_succ_eq_append_getElem h, List.flatten_append]
  simp [List.getD_eq_getElem?_getD, h]

/-- The places of all lists. -/
theorem l42_6 {s : KSt} {n : Nat} (hk : KOk n s) (hn : n ≤ 100000) {ls : List (List Int)} {svs : List CV} {qb cap : Nat} {tl : Bool} (hsz : ls.length ≤ 100000 ∧ ∀ l ∈ ls, l.length ≤ 100000) (hl : ∀ l ∈ ls, ∀ v ∈ l, 0 ≤ v ∧ v ≤ (n : Int))
    (hq : qb < H0.length ∧ qb ≠ b3 ∧ qb ≠ b4 ∧ qb ≠ ob ∧ H0[qb]? = some ⟨svs, .rw, 1⟩) (hr : ∀ (i : Nat) (l : List Int), ls[i]? = some l → ∃ v, svs[i]? = some v ∧ RdL H0 b3 b4 ob v l) (E0 : Env) :
    LoopOk P C42_6 (fun k E H => E 5 = .func 72 [.ptr b3 0, .ptr b4 0] ∧ E 38 = .slice qb 0 ls.length cap 1 tl ∧ E 39 = .i ls.length ∧ ∃ i : Nat, E 40 = .i i ∧ i ≤ ls.length ∧ k = ls.length - i ∧ KS H0 b3 b4 ob H (reaches s (ls.take i).flatten) ∧ ∀ t, t < 7 → E t = E0 t)
      (fun x E' H' => x = .exit 0 ∧ KS H0 b3 b4 ob H' (reaches s ls.flatten) ∧ ∀ t, t < 7 → E' t = E0 t) := by
  refine loop_ind ?_
  rintro k E H ⟨h5, h38, h39, i, h40, hi, rfl, K, hE⟩
  by_cases c : i < ls.length
  · obtain ⟨r1, r2, r3, r4, r5⟩ := hq
    have hli := getD_of (l := ls) (i := i) [] c
    obtain ⟨v, hv, hrd⟩ := hr i _ hli
    have hb : H[qb]? = some ⟨svs, .rw, 1⟩ := by rw [K.low qb r1 r2 r3 r4, r5]
    obtain ⟨k1, -⟩ := hk.reaches (l := (ls.take i).flatten) (fun v hv => by
      simp only [List.mem_flatten] at hv
      obtain ⟨l, h1, h2⟩ := hv
      exact hl l (List.mem_of_mem_take h1) v h2)
    have hmem := List.mem_of_getElem? hli
    have hlen := hrd.len
    have L5 := l42_5 k1 hn (hsz.2 _ hmem) (hl _ hmem) hrd
    have hw : IntKind.i64.wrap ((i : Int) + 1) = ((i + 1 : Nat) : Int) := by rw [wrap_id (by omega)]; rfl
    generalize hg : ls.getD i [] = lst at *
    -- the inner loop
    obtain ⟨x, E2, H2, e2, -, rfl, K2, hE2⟩ := L5 ((((((((E.upd 41 (.bool true)).upd 42 (.ptr qb i)).upd 43 v).upd 7 v).upd 44 v).upd 45 (.i lst.length)).upd 46 (.i 0))) lst.length
      ((((((((E.upd 41 (.bool true)).upd 42 (.ptr qb i)).upd 43 v).upd 7 v).upd 44 v).upd 45 (.i lst.length)).upd 46 (.i 0))) H
      ⟨by simp [upd_apply, h5], by simp [upd_apply], by simp [upd_apply], 0, by simp [upd_apply], by omega, by omega, K, fun t ht => rfl⟩
    rw [← reaches_append, ← hg, ← take_flatten c] at K2
    have q5 := hE2 5 (by omega)
    have q38 := hE2 38 (by omega)
    have q39 := hE2 39 (by omega)
    have q40 := hE2 40 (by omega)
    simp [upd_apply, h5, h38, h39, h40] at q5 q38 q39 q40
    apply step_go (k' := ls.length - (i + 1))
    · simp (disch := first | omega | rfl | assumption | (simp only [csN, Nat.reduceAdd, Nat.reduceMul, Nat.reduceLeDiff, Nat.reduceEqDiff] <;> omega) | (simp only [csF]; done) | (simp only [csF] <;> assumption) | fail) only [Nat.reduceEqDiff, Nat.reduceAdd, Nat.reduceMul, Nat.reduceSub, Nat.reduceLeDiff, Int.reduceAdd, Int.reduceSub, Int.reduceMul, Int.reduceLT, Int.reduceLE, Int.reduceGT, Int.reduceGE, Int.reduceEq, Int.reduceBEq, Int.reduceBNe, Int.reduceNeg, Int.reduceToNat, csAll, ↓reduceIte, C42_6, h38, h39, h40, hb, hv, hlen, e2, q40, hw]
      rfl
    · omega
    · refine ⟨by simp [upd_apply, q5], by simp [upd_apply, q38], by simp [upd_apply, q39], i + 1, by simp [upd_apply], by omega, rfl, K2, fun t ht => ?_⟩
      have h1 := hE t ht
      have h2 := hE2 t (.inl ht)
      simp only [upd_apply] at h2 ⊢
      rw [if_neg (by omega), if_neg (by omega), if_neg (by omega), if_neg (by omega), if_neg (by omega), if_neg (by omega), if_neg (by omega)] at h2
      rw [if_neg (by omega), if_neg (by omega), h2, h1]
  · apply step_out (x := .exit 0)
    · simp (disch := first | omega | rfl | assumption | (simp only [csN, Nat.reduceAdd, Nat.reduceMul, Nat.reduceLeDiff, Nat.reduceEqDiff] <;> omega) | (simp only [csF]; done) | (simp only [csF] <;> assumption) | fail) only [Nat.reduceEqDiff, Nat.reduceAdd, Nat.reduceMul, Nat.reduceSub, Nat.reduceLeDiff, Int.reduceAdd, Int.reduceSub, Int.reduceMul, Int.reduceLT, Int.reduceLE, Int.reduceGT, Int.reduceGE, Int.reduceEq, Int.reduceBEq, Int.reduceBNe, Int.reduceNeg, Int.reduceToNat, csAll, ↓reduceIte, C42_6, h39, h40]
      rfl
    · simp
    · have : ls.take i = ls := List.take_of_length_le (by omega)
      rw [this] at K
      exact ⟨rfl, K, fun t ht => by simp only [upd_apply]; rw [if_neg (by omega)]; exact hE t ht⟩
end
end Go.Cs.Try

/- The walk of kept: the search. -/
namespace Go.Cs
open Go
/-- The rest of a list behind some elements. -/
theorem At.drop {o : Tags} {t : Tag} {H0 : CHeap} {v : CV} {l : List Int} (a : At o t H0 v 1 l.length (ints l)) {j : Nat} (hj : j ≤ l.length) :
    ∃ v', (sliceV 1 v (some (.i j)) none none = some v') ∧ (∀ H, vLen v' H = some (.i (l.drop j).length, H)) ∧
      (l.drop j ≠ [] → ∃ rb cap tl, v' = .slice rb j (l.drop j).length cap 1 tl ∧ o rb = some t ∧ H0[rb]? = some ⟨ints l, .rw, 1⟩) := by
  rcases a with ⟨h1, h2, rfl | ⟨b, f, rfl⟩⟩ | ⟨b, tl, rfl, h1, h2, h3⟩
  · have hl : l = [] := List.eq_nil_of_length_eq_zero h1
    subst hl
    have : j = 0 := by simpa using hj
    subst this
    refine ⟨.nilSlice, ?_, fun H => rfl, fun h => absurd rfl h⟩
    simp [sliceV, sliceBndsV, boundOV, boundV]
  · have hl : l = [] := List.eq_nil_of_length_eq_zero h1
    subst hl
    have : j = 0 := by simpa using hj
    subst this
    refine ⟨.slice b f 0 0 1 false, ?_, fun H => rfl, fun h => absurd rfl h⟩
    simp [sliceV, sliceBndsV, boundOV, boundV]
  · refine ⟨.slice b j (l.length - j) (l.length - j) 1 tl, ?_, fun H => by simp [vLen], fun _ => ⟨b, l.length - j, tl, by simp, h1, h2⟩⟩
    simp [sliceV, sliceBndsV, boundOV, boundV]
    rw [if_pos (by omega)]
    simp

theorem snoc_of {α : Type} {l : List α} (h : 0 < l.length) : ∃ k x, l = k ++ [x] := by
  refine ⟨l.dropLast, l.getLast (by intro e; subst e; simp at h), ?_⟩
  rw [List.dropLast_concat_getLast]
end Go.Cs
namespace Go.Cs.Try
open Go Go.Cs
set_option maxRecDepth 100000
section
variable {o : Tags} {g : Nat} {b : Nat} {M : Mdl} {L : Lay} {H0 : CHeap} {b3 b4 ob : Nat}

/-- The stack is worked off. -/
theorem l42_3 (m : MRep o g H0 b M L) (w : M.Ok) (f3 : o b3 = none) (f4 : o b4 = none) (fo : o ob = none) (N : Nat) (E0 : Env) (h0 : E0 0 = .ptr b 0) (h4 : E0 4 = .ptr b4 0) (h5 : E0 5 = .func 72 [.ptr b3 0, .ptr b4 0]) :
    LoopOk P C42_3 (fun k E H => ∃ s, KS H0 b3 b4 ob H s ∧ KInv M s ∧ k = meas s ∧ falses s.1 ≤ N ∧ ∀ t, t < 11 → E t = E0 t)
      (fun x E' H' => x = .exit 6 ∧ ∃ ks, KS H0 b3 b4 ob H' (ks, []) ∧ KInv M (ks, []) ∧ falses ks ≤ N ∧ ∀ t, t < 11 → E' t = E0 t) := by
  refine loop_ind ?_
  rintro k E H ⟨⟨ks, st⟩, K, I, rfl, hN, hE⟩
  have e0 := (hE 0 (by omega)).trans h0
  have e4 := (hE 4 (by omega)).trans h4
  have e5 := (hE 5 (by omega)).trans h5
  have hfew := w.few
  rcases Nat.eq_zero_or_pos st.length with hz | hp
  · have : st = [] := List.eq_nil_of_length_eq_zero hz
    subst this
    obtain ⟨sv, k4, k5⟩ := K.o4
    have hv : ∀ H, vLen sv H = some (.i 0, H) := by
      rcases k5 with ⟨_, rfl⟩ | ⟨lb, cap, cs, rfl, _⟩ <;> exact fun _ => rfl
    apply step_out (x := .exit 6)
    · simp (disch := first | omega | rfl | assumption | (simp only [csN, Nat.reduceAdd, Nat.reduceMul, Nat.reduceLeDiff, Nat.reduceEqDiff] <;> omega) | (simp only [csF]; done) | (simp only [csF] <;> assumption) | fail) only [Nat.reduceEqDiff, Nat.reduceAdd, Nat.reduceMul, Nat.reduceSub, Nat.reduceLeDiff, Int.reduceAdd, Int.reduceSub, Int.reduceMul, Int.reduceLT, Int.reduceLE, Int.reduceGT, Int.reduceGE, Int.reduceEq, Int.reduceBEq, Int.reduceBNe, Int.reduceNeg, Int.reduceToNat, csAll, ↓reduceIte, C42_3, e4, k4, hv]
      rfl
    · simp
    · refine ⟨rfl, ks, K, I, hN, fun t ht => ?_⟩
      simp only [upd_apply]
      rw [if_neg (by omega), if_neg (by omega), if_neg (by omega)]
      exact hE t ht
  · obtain ⟨st', v, rfl⟩ := snoc_of hp
    have hv := I.ok.stk v (by simp)
    obtain ⟨sv, k4, k5⟩ := K.o4
    rcases k5 with ⟨h, _⟩ | ⟨lb, cap, cs, rfl, q1, q2, q3, q4, q5⟩
    · simp at h
    simp only [List.length_append, List.length_singleton] at k4 q4 q5
    have hcs : cs[st'.length]? = some (.i v) := by
      have : (cs.take (st'.length + 1))[st'.length]? = (Go.Cs.ints (st' ++ [v]))[st'.length]? := by rw [q4]
      rw [List.getElem?_take_of_lt (by omega)] at this
      rw [this, ints_get]; simp
    have hkv := I.snd v (by omega) hv.2.2
    have hhas := Kp.has w hkv
    have hob := w.obj hhas
    have hb4 := K.bs.2.1
    have hl4 := lt_of_get k4
    -- the stack without its last one
    have K1 : KS H0 b3 b4 ob (H.set b4 ⟨[.slice lb 0 st'.length cap 1 true], .rw, 0⟩) (ks, st') := by
      have hbs := K.bs
      refine ⟨fun c hc d3 d4 d5 => by rw [List.getElem?_set_ne (Ne.symm d4), K.low c hc d3 d4 d5], K.bs, by simp [K.len], by rw [List.getElem?_set_ne (Ne.symm hbs.2.2.2.1), K.o3], by rw [List.getElem?_set_ne hbs.2.2.2.2.2, K.oo], _, by rw [List.getElem?_set_self hl4], .inr ⟨lb, cap, cs, rfl, q1, by rw [List.getElem?_set_ne (by omega), q2], q3, ?_, by show st'.length ≤ cap; omega⟩⟩
      show cs.take st'.length = Go.Cs.ints st'
      have : cs.take st'.length = (cs.take (st'.length + 1)).take st'.length := by rw [List.take_take]; congr 1; omega
      rw [this, q4, ints_app, List.take_append_of_le_length (by simp [ints_len]), List.take_of_length_le (by simp [ints_len])]
    have m0 := K.rep m f3 f4 fo
    have m1 := K1.rep m f3 f4 fo
    have K2 := K1.app [⟨[.i (M.obj v).nr, .i (M.obj v).nd, .i (M.obj v).kd], .rw, 0⟩]
    have c74 := f74 m0 w v hhas
    obtain ⟨hh, rest, g0, g1, g2, g3, g4, g5, g6⟩ := m0.objAt v hhas
    have g42 : b4 ≠ blkOf L.ov := by intro e; rw [e, g4] at f4; cases f4
    have g21 := drop0 g2
    have g4' := m1.dom _ _ g4
    obtain ⟨hh', rest', g0', -, -, -, -, g5', -⟩ := m.objAt v hhas
    have : hh = hh' := by rw [g0] at g0'; simpa using g0'
    subst this
    have hsoft : soft (M.obj v).kd ≤ (M.obj v).refs.length := by
      unfold soft
      have h1 := hob.nr
      have h2 := hob.kd
      split
      · have := h2.2.2.1 (by assumption); omega
      · split
        · have := h2.2.2.2 (by assumption); omega
        · omega
    obtain ⟨v', s1, s2, s3⟩ := g5'.drop hsoft
    obtain ⟨Ipop, hme⟩ := I.pop w
    have kpop : KOk M.objs.length (ks, st') := by
      refine ⟨I.ok.len, I.ok.zero, fun u hu => I.ok.stk u (by simp [hu]), ?_⟩
      have := I.ok.few
      simp only [List.length_append, List.length_singleton] at this ⊢
      omega
    generalize hlst : (M.obj v).refs.drop (soft (M.obj v).kd) = lst at *
    have hlr : lst.length ≤ 15 := by rw [← hlst, List.length_drop]; have := hob.nr; omega
    have hids : ∀ u ∈ lst, 0 ≤ u ∧ u ≤ (M.objs.length : Int) := fun u hu => hob.ids u (List.mem_of_mem_drop (by rw [hlst]; exact hu))
    -- the inner loop, whatever its slice is
    have inner : ∀ (E1 : Env) (r : Option (CX × Env × CHeap)), den P (.loop C42_2) E1 (H.set b4 ⟨[.slice lb 0 st'.length cap 1 true], .rw, 0⟩ ++ [⟨[.i (M.obj v).nr, .i (M.obj v).nd, .i (M.obj v).kd], .rw, 0⟩]) = r → E1 5 = .func 72 [.ptr b3 0, .ptr b4 0] → E1 81 = v' → E1 82 = .i lst.length → E1 83 = .i 0 →
        ∃ E2 H2, r = some (.exit 8, E2, H2) ∧ KS H0 b3 b4 ob H2 (reaches (ks, st') lst) ∧ ∀ t, t < 13 → E2 t = E1 t := by
      intro E1 r hr i5 i81 i82 i83
      by_cases hne : lst = []
      · obtain ⟨x, E2, H2, e2, -, rfl, K3, hE2⟩ := l42_2 (H0 := H0) (b3 := b3) (b4 := b4) (ob := ob) kpop hfew (lst := lst) (full := (M.obj v).refs) (off := soft (M.obj v).kd) (rb := 0) (cap := 0) (tl := true) (by omega) hids (fun h => absurd hne h) hlst.symm E1 lst.length E1 _
          ⟨i5, fun h => absurd hne h, i82, 0, i83, by omega, by omega, K2, fun _ _ => rfl⟩
        exact ⟨E2, H2, hr.symm.trans e2, K3, hE2⟩
      · obtain ⟨rb, cap', tl', t1, t2, t3⟩ := s3 hne
        obtain ⟨x, E2, H2, e2, -, rfl, K3, hE2⟩ := l42_2 (H0 := H0) (b3 := b3) (b4 := b4) (ob := ob) kpop hfew (lst := lst) (full := (M.obj v).refs) (off := soft (M.obj v).kd) (rb := rb) (cap := cap') (tl := tl') (by omega) hids (fun _ => ⟨lt_of_get t3, (by intro e; rw [e, f3] at t2; cases t2), (by intro e; rw [e, f4] at t2; cases t2), (by intro e; rw [e, fo] at t2; cases t2), t3⟩) hlst.symm E1 lst.length E1 _
          ⟨i5, fun _ => by rw [i81, t1], i82, 0, i83, by omega, by omega, K2, fun _ _ => rfl⟩
        exact ⟨E2, H2, hr.symm.trans e2, K3, hE2⟩
    have hlen := s2
    have hw1 : IntKind.i64.wrap (((st'.length + 1 : Nat) : Int) - 1) = (st'.length : Int) := by
      have := I.ok.few
      simp only [List.length_append, List.length_singleton] at this
      rw [wrap_id (by omega)]; omega
    have hsl : sliceV 1 (.slice lb 0 (st'.length + 1) cap 1 true) none (some (.i st'.length)) none = some (.slice lb 0 st'.length cap 1 true) := by
      simp [sliceV, sliceBndsV, boundOV, boundV]
      refine ⟨by omega, ?_⟩
      rw [if_pos (by omega)]
      simp
    have hnn : ((st'.length + 1 : Nat) : Int) - 1 = (st'.length : Int) := by omega
    have key : ∃ E2 H2, den P C42_3 E H = some (.normal, E2, H2) ∧ KS H0 b3 b4 ob H2 (reaches (ks, st') lst) ∧ ∀ t, t < 11 → E2 t = E t := by
      simp (disch := first | omega | rfl | assumption | (simp only [csN, Nat.reduceAdd, Nat.reduceMul, Nat.reduceLeDiff, Nat.reduceEqDiff] <;> omega) | (simp only [csF]; done) | (simp only [csF] <;> assumption) | fail) only [Nat.reduceEqDiff, Nat.reduceAdd, Nat.reduceMul, Nat.reduceSub, Nat.reduceLeDiff, Int.reduceAdd, Int.reduceSub, Int.reduceMul, Int.reduceLT, Int.reduceLE, Int.reduceGT, Int.reduceGE, Int.reduceEq, Int.reduceBEq, Int.reduceBNe, Int.reduceNeg, Int.reduceToNat, csAll, ↓reduceIte, C42_3, e0, e4, e5, k4, q2, hcs, hw1, c74, hsl, g1, g2, g21, g3, f50, drop_get, s1, s2, mLen_of s2]
      generalize hr : den P (.loop C42_2) _ _ = r
      obtain ⟨E2, H2, rfl, K3, hE2⟩ := inner _ _ hr (by simp only [upd_apply, Nat.reduceEqDiff, ↓reduceIte]; exact e5) (by simp only [upd_apply, Nat.reduceEqDiff, ↓reduceIte]) (by simp only [upd_apply, Nat.reduceEqDiff, ↓reduceIte]) (by simp only [upd_apply, Nat.reduceEqDiff, ↓reduceIte])
      refine ⟨E2, H2, by simp (disch := first | omega | rfl | assumption | (simp only [csN, Nat.reduceAdd, Nat.reduceMul, Nat.reduceLeDiff, Nat.reduceEqDiff] <;> omega) | (simp only [csF]; done) | (simp only [csF] <;> assumption) | fail) only [Nat.reduceEqDiff, Nat.reduceAdd, Nat.reduceMul, Nat.reduceSub, Nat.reduceLeDiff, Int.reduceAdd, Int.reduceSub, Int.reduceMul, Int.reduceLT, Int.reduceLE, Int.reduceGT, Int.reduceGE, Int.reduceEq, Int.reduceBEq, Int.reduceBNe, Int.reduceNeg, Int.reduceToNat, csAll, ↓reduceIte], K3, fun t ht => ?_⟩
      rw [hE2 t (by omega)]
      simp only [upd_apply]
      repeat rw [if_neg (by omega)]
    obtain ⟨E2, H2, e2, K3, hE2⟩ := key
    apply step_go (k' := meas (reaches (ks, st') lst)) e2
    · omega
    · exact ⟨_, K3, Ipop, rfl, Nat.le_trans falses_reaches hN, fun t ht => (hE2 t ht).trans (hE t ht)⟩
end
end Go.Cs.Try

/- The walk of kept: ephemerons, and all of it. -/
namespace Go.Cs.Try
open Go Go.Cs
set_option maxRecDepth 100000
set_option maxHeartbeats 4000000
section
variable {o : Tags} {g : Nat} {b : Nat} {M : Mdl} {L : Lay} {H0 : CHeap} {b3 b4 ob : Nat}

/-- Ephemerons lead on. -/
theorem l42_1 (m : MRep o g H0 b M L) (w : M.Ok) (f3 : o b3 = none) (f4 : o b4 = none) (fo : o ob = none) (s1 : KSt) (E0 : Env) (h3 : E0 3 = .ptr b3 0) (h5 : E0 5 = .func 72 [.ptr b3 0, .ptr b4 0]) :
    LoopOk P C42_1 (fun k E H => ∃ s, KS H0 b3 b4 ob H s ∧ KInv M s ∧ meas s = meas s1 ∧ falses s.1 ≤ falses s1.1 ∧ E 94 = L.ov ∧ E 95 = .i M.objs.length ∧ ∃ i : Nat, E 96 = .i i ∧ i ≤ M.objs.length ∧ k = M.objs.length - i ∧ (s.2 = [] → ∀ n : Int, 1 ≤ n → n ≤ (i : Int) → ephOk M s.1 n) ∧ ∀ t, t < 11 → E t = E0 t)
      (fun x E' H' => x = .exit 10 ∧ ∃ s, KS H0 b3 b4 ob H' s ∧ KInv M s ∧ meas s = meas s1 ∧ falses s.1 ≤ falses s1.1 ∧ (s.2 = [] → ∀ n : Int, 1 ≤ n → n ≤ (M.objs.length : Int) → ephOk M s.1 n) ∧ ∀ t, t < 11 → E' t = E0 t) := by
  refine loop_ind ?_
  rintro k E H ⟨s, K, I, hme, hfa, h94, h95, i, h96, hi, rfl, hp, hE⟩
  have e3 := (hE 3 (by omega)).trans h3
  have e5 := (hE 5 (by omega)).trans h5
  have hfew := w.few
  by_cases c : i < M.objs.length
  · have hhas : M.has ((i + 1 : Nat) : Int) := by unfold Mdl.has; omega
    have m0 := K.rep m f3 f4 fo
    obtain ⟨hh, rest, g0, g1, g2, g3, g4, g5, g6⟩ := m0.objAt _ hhas
    have hio : (((i + 1 : Nat) : Int) - 1).toNat = i := by omega
    rw [hio] at g0 g2 g3 g5 g6
    obtain ⟨tl, d1, -, -, -⟩ := m0.objs.pos (by omega)
    have hov := h94
    rw [d1] at hov
    have hob := w.obj hhas
    have k3 := K.o3
    have ko := K.oo
    have hb3 := lt_of_get k3
    have hbo := lt_of_get ko
    have hlen := I.ok.len
    have hfw := I.ok.few
    have hw : IntKind.i64.wrap ((i : Int) + 1) = ((i + 1 : Nat) : Int) := by rw [wrap_id (by omega)]; rfl
    have hon : (bools s.1)[i + 1]? = some (.bool (on s.1 ((i + 1 : Nat) : Int))) := on_get (v := ((i + 1 : Nat) : Int)) (by simp; omega)
    have hg1 := lt_of_get g1
    have hall : ([.i (M.obj ((i + 1 : Nat) : Int)).nr, .i (M.obj ((i + 1 : Nat) : Int)).nd, .i (M.obj ((i + 1 : Nat) : Int)).kd, hh.1, hh.2] : List CV).all leaf = true := by
      simp only [List.all_cons, List.all_nil, g5.leaf, g6.leaf, leaf_int, Bool.and_true]
    generalize hx : M.obj ((i + 1 : Nat) : Int) = xx at *
    -- what stays the same
    have frame : ∀ (E2 : Env) (H2 : CHeap) (s2 : KSt), den P C42_1 E H = some (.normal, E2, H2) → KS H0 b3 b4 ob H2 s2 → KInv M s2 → meas s2 = meas s1 → falses s2.1 ≤ falses s1.1 → E2 94 = L.ov → E2 95 = .i M.objs.length → E2 96 = .i ((i + 1 : Nat) : Int) → (s2.2 = [] → s2 = s ∧ ephOk M s.1 ((i + 1 : Nat) : Int)) → (∀ t, t < 11 → E2 t = E t) →
        ∃ x E' H', den P C42_1 E H = some (x, E', H') ∧ ((x = .normal ∧ ∃ k', k' < M.objs.length - i ∧ ∃ s, KS H0 b3 b4 ob H' s ∧ KInv M s ∧ meas s = meas s1 ∧ falses s.1 ≤ falses s1.1 ∧ E' 94 = L.ov ∧ E' 95 = .i M.objs.length ∧ ∃ i : Nat, E' 96 = .i i ∧ i ≤ M.objs.length ∧ k' = M.objs.length - i ∧ (s.2 = [] → ∀ n : Int, 1 ≤ n → n ≤ (i : Int) → ephOk M s.1 n) ∧ ∀ t, t < 11 → E' t = E0 t) ∨
          (x ≠ .normal ∧ x = .exit 10 ∧ ∃ s, KS H0 b3 b4 ob H' s ∧ KInv M s ∧ meas s = meas s1 ∧ falses s.1 ≤ falses s1.1 ∧ (s.2 = [] → ∀ n : Int, 1 ≤ n → n ≤ (M.objs.length : Int) → ephOk M s.1 n) ∧ ∀ t, t < 11 → E' t = E0 t)) := by
      intro E2 H2 s2 e K2 I2 q1 q2 q3 q4 q5 q6 q7
      refine ⟨_, E2, H2, e, .inl ⟨rfl, M.objs.length - (i + 1), by omega, s2, K2, I2, q1, q2, q3, q4, i + 1, q5, by omega, rfl, fun hz n hn1 hn2 => ?_, fun t ht => (q7 t ht).trans (hE t ht)⟩⟩
      obtain ⟨rfl, he⟩ := q6 hz
      by_cases hni : n ≤ (i : Int)
      · exact hp hz n hn1 hni
      · have : n = ((i + 1 : Nat) : Int) := by omega
        subst this
        exact he
    have K1 := K.app [⟨[.i xx.nr, .i xx.nd, .i xx.kd, hh.1, hh.2], .rw, 5⟩]
    have K1' := K.app [⟨[.i xx.nr, .i xx.nd, .i xx.kd, hh.1, hh.2], .rw, 0⟩]
    cases hon1 : on s.1 ((i + 1 : Nat) : Int) with
    | false =>
      rw [hon1] at hon
      have key : ∃ E2, den P C42_1 E H = some (.normal, E2, H ++ [⟨[.i xx.nr, .i xx.nd, .i xx.kd, hh.1, hh.2], .rw, 0⟩]) ∧ E2 94 = L.ov ∧ E2 95 = .i M.objs.length ∧ E2 96 = .i ((i + 1 : Nat) : Int) ∧ ∀ t, t < 11 → E2 t = E t := by
        apply ex_env
        · simp (disch := first | omega | rfl | assumption | (simp only [csN, Nat.reduceAdd, Nat.reduceMul, Nat.reduceLeDiff, Nat.reduceEqDiff] <;> omega) | (simp only [csF]; done) | (simp only [csF] <;> assumption) | fail) only [Nat.reduceEqDiff, Nat.reduceAdd, Nat.reduceMul, Nat.reduceSub, Nat.reduceLeDiff, Int.reduceAdd, Int.reduceSub, Int.reduceMul, Int.reduceLT, Int.reduceLE, Int.reduceGT, Int.reduceGE, Int.reduceEq, Int.reduceBEq, Int.reduceBNe, Int.reduceNeg, Int.reduceToNat, csAll, ↓reduceIte, C42_1, e3, e5, hov, h95, h96, g1, g2, g3, k3, ko, hw, hon, hlen]
          rfl
        · refine ⟨by simp only [upd_apply, Nat.reduceEqDiff, ↓reduceIte, h94], by simp only [upd_apply, Nat.reduceEqDiff, ↓reduceIte, h95], by simp only [upd_apply, Nat.reduceEqDiff, ↓reduceIte], fun t ht => ?_⟩
          simp only [upd_apply]
          repeat rw [if_neg (by omega)]
      obtain ⟨E2, e, q3, q4, q5, q7⟩ := key
      exact frame E2 _ s e K1' I hme hfa q3 q4 q5 (fun hz => ⟨rfl, fun h => by rw [hon1] at h; cases h⟩) q7
    | true =>
      rw [hon1] at hon
      by_cases hkd : xx.kd = 2
      case neg =>
        have key : ∃ E2, den P C42_1 E H = some (.normal, E2, H ++ [⟨[.i xx.nr, .i xx.nd, .i xx.kd, hh.1, hh.2], .rw, 0⟩]) ∧ E2 94 = L.ov ∧ E2 95 = .i M.objs.length ∧ E2 96 = .i ((i + 1 : Nat) : Int) ∧ ∀ t, t < 11 → E2 t = E t := by
          apply ex_env
          · simp (disch := first | omega | rfl | assumption | (simp only [csN, Nat.reduceAdd, Nat.reduceMul, Nat.reduceLeDiff, Nat.reduceEqDiff] <;> omega) | (simp only [csF]; done) | (simp only [csF] <;> assumption) | fail) only [Nat.reduceEqDiff, Nat.reduceAdd, Nat.reduceMul, Nat.reduceSub, Nat.reduceLeDiff, Int.reduceAdd, Int.reduceSub, Int.reduceMul, Int.reduceLT, Int.reduceLE, Int.reduceGT, Int.reduceGE, Int.reduceEq, Int.reduceBEq, Int.reduceBNe, Int.reduceNeg, Int.reduceToNat, csAll, ↓reduceIte, C42_1, e3, e5, hov, h95, h96, g1, g2, g3, k3, ko, hw, hon, hlen]
            rfl
          · refine ⟨by simp only [upd_apply, Nat.reduceEqDiff, ↓reduceIte, h94], by simp only [upd_apply, Nat.reduceEqDiff, ↓reduceIte, h95], by simp only [upd_apply, Nat.reduceEqDiff, ↓reduceIte], fun t ht => ?_⟩
            simp only [upd_apply]
            repeat rw [if_neg (by omega)]
        obtain ⟨E2, e, q3, q4, q5, q7⟩ := key
        exact frame E2 _ s e K1' I hme hfa q3 q4 q5 (fun hz => ⟨rfl, fun _ h2 => by rw [hx] at h2; exact absurd h2 hkd⟩) q7
      -- an ephemeron that is kept
      have hnr := hob.kd.2.2.2 hkd
      have hnl := hob.nr
      obtain ⟨tl6, p1, p2, p3, p4⟩ := g5.pos (by omega)
      have hl6 := lt_of_get p3
      have r0 : (Go.Cs.ints xx.refs)[0]? = some (.i (xx.refs.getD 0 0)) := by rw [ints_get, getD_of 0 (by omega)]; rfl
      have r1 : (Go.Cs.ints xx.refs)[1]? = some (.i (xx.refs.getD 1 0)) := by rw [ints_get, getD_of 0 (by omega)]; rfl
      have i0 := hob.ids _ (List.mem_of_getElem? (getD_of (l := xx.refs) (i := 0) 0 (by omega)))
      have i1 := hob.ids _ (List.mem_of_getElem? (getD_of (l := xx.refs) (i := 1) 0 (by omega)))
      have hon0 := on_get (ks := s.1) (v := xx.refs.getD 0 0) (by omega)
      rw [p1] at g2 hall K1'
      cases hk0 : on s.1 (xx.refs.getD 0 0) with
      | false =>
        rw [hk0] at hon0
        have key : ∃ E2, den P C42_1 E H = some (.normal, E2, H ++ [⟨[.i xx.nr, .i xx.nd, .i xx.kd, .slice (blkOf hh.1) 0 xx.refs.length xx.refs.length 1 tl6, hh.2], .rw, 0⟩]) ∧ E2 94 = L.ov ∧ E2 95 = .i M.objs.length ∧ E2 96 = .i ((i + 1 : Nat) : Int) ∧ ∀ t, t < 11 → E2 t = E t := by
          apply ex_env
          · simp (disch := first | omega | rfl | assumption | (simp only [csN, Nat.reduceAdd, Nat.reduceMul, Nat.reduceLeDiff, Nat.reduceEqDiff] <;> omega) | (simp only [csF]; done) | (simp only [csF] <;> assumption) | fail) only [Nat.reduceEqDiff, Nat.reduceAdd, Nat.reduceMul, Nat.reduceSub, Nat.reduceLeDiff, Int.reduceAdd, Int.reduceSub, Int.reduceMul, Int.reduceLT, Int.reduceLE, Int.reduceGT, Int.reduceGE, Int.reduceEq, Int.reduceBEq, Int.reduceBNe, Int.reduceNeg, Int.reduceToNat, csAll, ↓reduceIte, C42_1, e3, e5, hov, h95, h96, g1, g2, g3, k3, ko, hw, hon, hlen, p3, r0, hon0]
            rfl
          · refine ⟨by simp only [upd_apply, Nat.reduceEqDiff, ↓reduceIte, h94], by simp only [upd_apply, Nat.reduceEqDiff, ↓reduceIte, h95], by simp only [upd_apply, Nat.reduceEqDiff, ↓reduceIte], fun t ht => ?_⟩
            simp only [upd_apply]
            repeat rw [if_neg (by omega)]
        obtain ⟨E2, e, q3, q4, q5, q7⟩ := key
        exact frame E2 _ s e K1' I hme hfa q3 q4 q5 (fun hz => ⟨rfl, fun _ _ h3 => by rw [hx, hk0] at h3; cases h3⟩) q7
      | true =>
        rw [hk0] at hon0
        obtain ⟨H', e1, K2⟩ := f72 K1' (v := xx.refs.getD 1 0) (by omega) (Nat.le_trans (by omega : _ ≤ 100002) (by decide))
        obtain ⟨a1, a2, a3, a4, a5, a6, a7⟩ := I.ok.reach (v := xx.refs.getD 1 0) i1
        have hkk := I.snd _ (by omega) hon1
        have I2 : KInv M (reach s (xx.refs.getD 1 0)) := I.reach w i1 (fun hz => by
          have h0 := I.snd _ i0.1 hk0
          have := Kp.eph hkk (by rw [hx]; exact hkd) (by rw [hx]; exact h0) (by rw [hx]; exact hz)
          rw [hx] at this; exact this)
        have key : ∃ E2, den P C42_1 E H = some (.normal, E2, H') ∧ E2 94 = L.ov ∧ E2 95 = .i M.objs.length ∧ E2 96 = .i ((i + 1 : Nat) : Int) ∧ ∀ t, t < 11 → E2 t = E t := by
          apply ex_env
          · simp (disch := first | omega | rfl | assumption | (simp only [csN, Nat.reduceAdd, Nat.reduceMul, Nat.reduceLeDiff, Nat.reduceEqDiff] <;> omega) | (simp only [csF]; done) | (simp only [csF] <;> assumption) | fail) only [Nat.reduceEqDiff, Nat.reduceAdd, Nat.reduceMul, Nat.reduceSub, Nat.reduceLeDiff, Int.reduceAdd, Int.reduceSub, Int.reduceMul, Int.reduceLT, Int.reduceLE, Int.reduceGT, Int.reduceGE, Int.reduceEq, Int.reduceBEq, Int.reduceBNe, Int.reduceNeg, Int.reduceToNat, csAll, ↓reduceIte, C42_1, e3, e5, hov, h95, h96, g1, g2, g3, k3, ko, hw, hon, hlen, p3, r0, r1, hon0, e1]
            rfl
          · refine ⟨by simp only [upd_apply, Nat.reduceEqDiff, ↓reduceIte, h94], by simp only [upd_apply, Nat.reduceEqDiff, ↓reduceIte, h95], by simp only [upd_apply, Nat.reduceEqDiff, ↓reduceIte], fun t ht => ?_⟩
            simp only [upd_apply]
            repeat rw [if_neg (by omega)]
        obtain ⟨E2, e, q3, q4, q5, q7⟩ := key
        refine frame E2 _ _ e K2 I2 (a2.trans hme) (Nat.le_trans falses_reach hfa) q3 q4 q5 (fun hz => ⟨a7 hz, fun _ _ _ => ?_⟩) q7
        rw [hx]
        by_cases hz1 : xx.refs.getD 1 0 = 0
        · exact .inl hz1
        · have := a4 hz1
          rw [a7 hz] at this
          exact .inr this
  · apply step_out (x := .exit 10)
    · simp (disch := first | omega | rfl | assumption | (simp only [csN, Nat.reduceAdd, Nat.reduceMul, Nat.reduceLeDiff, Nat.reduceEqDiff] <;> omega) | (simp only [csF]; done) | (simp only [csF] <;> assumption) | fail) only [Nat.reduceEqDiff, Nat.reduceAdd, Nat.reduceMul, Nat.reduceSub, Nat.reduceLeDiff, Int.reduceAdd, Int.reduceSub, Int.reduceMul, Int.reduceLT, Int.reduceLE, Int.reduceGT, Int.reduceGE, Int.reduceEq, Int.reduceBEq, Int.reduceBNe, Int.reduceNeg, Int.reduceToNat, csAll, ↓reduceIte, C42_1, h95, h96]
      rfl
    · simp
    · have : i = M.objs.length := by omega
      subst this
      exact ⟨rfl, s, K, I, hme, hfa, hp, fun t ht => by simp only [upd_apply]; rw [if_neg (by omega)]; exact hE t ht⟩
end
end Go.Cs.Try

/- The walk of kept, all of it; Kept. -/
namespace Go.Cs
open Go
theorem Stk.len {B : Nat} {H : CHeap} {sv : CV} {st : List Int} (h : Stk B H sv st) : ∀ H', vLen sv H' = some (.i st.length, H') := by
  rcases h with ⟨rfl, rfl⟩ | ⟨lb, cap, cs, rfl, _⟩ <;> exact fun _ => rfl
end Go.Cs
namespace Go.Cs.Try
open Go Go.Cs
set_option maxRecDepth 100000
set_option maxHeartbeats 4000000
section
variable {o : Tags} {g : Nat} {b : Nat} {M : Mdl} {L : Lay} {H0 : CHeap} {b3 b4 ob : Nat}

/-- The search goes on until nothing more is found. -/
theorem l42_4 (m : MRep o g H0 b M L) (w : M.Ok) (f3 : o b3 = none) (f4 : o b4 = none) (fo : o ob = none) (E0 : Env) (h0 : E0 0 = .ptr b 0) (h3 : E0 3 = .ptr b3 0) (h4 : E0 4 = .ptr b4 0) (h5 : E0 5 = .func 72 [.ptr b3 0, .ptr b4 0]) :
    LoopOk P C42_4 (fun k E H => ∃ s, KS H0 b3 b4 ob H s ∧ KInv M s ∧ ∃ again : Bool, E 10 = .bool again ∧ (again = false → s.2 = [] ∧ ∀ n : Int, 1 ≤ n → n ≤ (M.objs.length : Int) → ephOk M s.1 n) ∧ k = 2 * falses s.1 + (if again = true then 1 else 0) ∧ ∀ t, t < 10 → E t = E0 t)
      (fun x E' H' => x = .exit 4 ∧ KS H0 b3 b4 ob H' (M.keptL, []) ∧ ∀ t, t < 10 → E' t = E0 t) := by
  refine loop_ind ?_
  rintro k E H ⟨s, K, I, again, h10, hag, rfl, hE⟩
  have e0 := (hE 0 (by omega)).trans h0
  have e3 := (hE 3 (by omega)).trans h3
  have e4 := (hE 4 (by omega)).trans h4
  have e5 := (hE 5 (by omega)).trans h5
  cases again with
  | false =>
    obtain ⟨hz, he⟩ := hag rfl
    obtain ⟨ks, st⟩ := s
    dsimp only at hz he
    subst hz
    apply step_out (x := .exit 4)
    · simp (disch := first | omega | rfl | assumption | (simp only [csN, Nat.reduceAdd, Nat.reduceMul, Nat.reduceLeDiff, Nat.reduceEqDiff] <;> omega) | (simp only [csF]; done) | (simp only [csF] <;> assumption) | fail) only [Nat.reduceEqDiff, Nat.reduceAdd, Nat.reduceMul, Nat.reduceSub, Nat.reduceLeDiff, Int.reduceAdd, Int.reduceSub, Int.reduceMul, Int.reduceLT, Int.reduceLE, Int.reduceGT, Int.reduceGE, Int.reduceEq, Int.reduceBEq, Int.reduceBNe, Int.reduceNeg, Int.reduceToNat, csAll, ↓reduceIte, C42_4, h10]
      rfl
    · simp
    · rw [← I.keptL w he]
      exact ⟨rfl, K, fun t ht => by simp only [upd_apply]; rw [if_neg (by omega)]; exact hE t ht⟩
  | true =>
    have key : ∃ E2 H2 s2 ag, den P C42_4 E H = some (.normal, E2, H2) ∧ KS H0 b3 b4 ob H2 s2 ∧ KInv M s2 ∧ E2 10 = .bool ag ∧ (ag = false → s2.2 = [] ∧ ∀ n : Int, 1 ≤ n → n ≤ (M.objs.length : Int) → ephOk M s2.1 n) ∧ 2 * falses s2.1 + (if ag = true then 1 else 0) < 2 * falses s.1 + 1 ∧ ∀ t, t < 10 → E2 t = E t := by
      simp (disch := first | omega | rfl | assumption | (simp only [csN, Nat.reduceAdd, Nat.reduceMul, Nat.reduceLeDiff, Nat.reduceEqDiff] <;> omega) | (simp only [csF]; done) | (simp only [csF] <;> assumption) | fail) only [Nat.reduceEqDiff, Nat.reduceAdd, Nat.reduceMul, Nat.reduceSub, Nat.reduceLeDiff, Int.reduceAdd, Int.reduceSub, Int.reduceMul, Int.reduceLT, Int.reduceLE, Int.reduceGT, Int.reduceGE, Int.reduceEq, Int.reduceBEq, Int.reduceBNe, Int.reduceNeg, Int.reduceToNat, csAll, ↓reduceIte, C42_4, h10]
      generalize hr : den P (.loop C42_3) _ _ = r
      obtain ⟨x, E1, H1, rfl, -, rfl, ks, K1, I1, hf1, hE1⟩ := (l42_3 m w f3 f4 fo (falses s.1) (E.upd 55 (.bool true)) (by simp [upd_apply, e0]) (by simp [upd_apply, e4]) (by simp [upd_apply, e5])).at hr _ ⟨s, K, I, rfl, Nat.le_refl _, fun t ht => rfl⟩
      have m1 := K1.rep m f3 f4 fo
      have hc := m1.cells
      have hl := m1.objs.len
      have q0 : E1 0 = .ptr b 0 := by rw [hE1 0 (by omega)]; simp [upd_apply, e0]
      have q3 : E1 3 = .ptr b3 0 := by rw [hE1 3 (by omega)]; simp [upd_apply, e3]
      have q4 : E1 4 = .ptr b4 0 := by rw [hE1 4 (by omega)]; simp [upd_apply, e4]
      have q5 : E1 5 = .func 72 [.ptr b3 0, .ptr b4 0] := by rw [hE1 5 (by omega)]; simp [upd_apply, e5]
      simp (disch := first | omega | rfl | assumption | (simp only [csN, Nat.reduceAdd, Nat.reduceMul, Nat.reduceLeDiff, Nat.reduceEqDiff] <;> omega) | (simp only [csF]; done) | (simp only [csF] <;> assumption) | fail) only [Nat.reduceEqDiff, Nat.reduceAdd, Nat.reduceMul, Nat.reduceSub, Nat.reduceLeDiff, Int.reduceAdd, Int.reduceSub, Int.reduceMul, Int.reduceLT, Int.reduceLE, Int.reduceGT, Int.reduceGE, Int.reduceEq, Int.reduceBEq, Int.reduceBNe, Int.reduceNeg, Int.reduceToNat, csAll, ↓reduceIte, q0, hc, hl]
      generalize hr2 : den P (.loop C42_1) _ _ = r2
      obtain ⟨x, E2, H2, rfl, -, rfl, s2, K2, I2, hm2, hf2, he2, hE2⟩ := (l42_1 m w f3 f4 fo (ks, []) _ (by simp only [upd_apply, Nat.reduceEqDiff, ↓reduceIte]; exact q3) (by simp only [upd_apply, Nat.reduceEqDiff, ↓reduceIte]; exact q5)).at hr2 _
        ⟨(ks, []), K1, I1, rfl, Nat.le_refl _, by simp only [upd_apply, Nat.reduceEqDiff, ↓reduceIte], by simp only [upd_apply, Nat.reduceEqDiff, ↓reduceIte], 0, by simp only [upd_apply, Nat.reduceEqDiff, ↓reduceIte]; rfl, by omega, rfl, fun _ n h1 h2 => by omega, fun t ht => rfl⟩
      have p4 : E2 4 = .ptr b4 0 := by rw [hE2 4 (by omega)]; simp [upd_apply, q4]
      obtain ⟨sv, k4, k5⟩ := K2.o4
      have hsl := k5.len
      have hst : ∀ t, t < 10 → E2 t = E t := fun t ht => by
        rw [hE2 t (by omega)]
        simp only [upd_apply]
        repeat rw [if_neg (by omega)]
        rw [hE1 t (by omega)]
        simp only [upd_apply]
        rw [if_neg (by omega)]
      unfold meas at hm2
      simp only [List.length_nil, Nat.add_zero] at hm2
      rcases Nat.eq_zero_or_pos s2.2.length with hz | hp
      · refine ⟨(((E2.upd 128 sv).upd 129 (.i s2.2.length)).upd 130 (.bool false)).upd 10 (.bool false), H2, s2, false, ?_, K2, I2, by simp [upd_apply], fun _ => ⟨List.eq_nil_of_length_eq_zero hz, he2 (List.eq_nil_of_length_eq_zero hz)⟩, (by simp; omega), fun t ht => ?_⟩
        · simp (disch := first | omega | rfl | assumption | (simp only [csN, Nat.reduceAdd, Nat.reduceMul, Nat.reduceLeDiff, Nat.reduceEqDiff] <;> omega) | (simp only [csF]; done) | (simp only [csF] <;> assumption) | fail) only [Nat.reduceEqDiff, Nat.reduceAdd, Nat.reduceMul, Nat.reduceSub, Nat.reduceLeDiff, Int.reduceAdd, Int.reduceSub, Int.reduceMul, Int.reduceLT, Int.reduceLE, Int.reduceGT, Int.reduceGE, Int.reduceEq, Int.reduceBEq, Int.reduceBNe, Int.reduceNeg, Int.reduceToNat, csAll, ↓reduceIte, p4, k4, hsl]
        · simp only [upd_apply]
          repeat rw [if_neg (by omega)]
          exact hst t ht
      · refine ⟨(((E2.upd 128 sv).upd 129 (.i s2.2.length)).upd 130 (.bool true)).upd 10 (.bool true), H2, s2, true, ?_, K2, I2, by simp [upd_apply], (fun h => by cases h), (by simp; omega), fun t ht => ?_⟩
        · simp (disch := first | omega | rfl | assumption | (simp only [csN, Nat.reduceAdd, Nat.reduceMul, Nat.reduceLeDiff, Nat.reduceEqDiff] <;> omega) | (simp only [csF]; done) | (simp only [csF] <;> assumption) | fail) only [Nat.reduceEqDiff, Nat.reduceAdd, Nat.reduceMul, Nat.reduceSub, Nat.reduceLeDiff, Int.reduceAdd, Int.reduceSub, Int.reduceMul, Int.reduceLT, Int.reduceLE, Int.reduceGT, Int.reduceGE, Int.reduceEq, Int.reduceBEq, Int.reduceBNe, Int.reduceNeg, Int.reduceToNat, csAll, ↓reduceIte, p4, k4, hsl]
        · simp only [upd_apply]
          repeat rw [if_neg (by omega)]
          exact hst t ht
    obtain ⟨E2, H2, s2, ag, e2, K2, I2, g10, gag, gk, gE⟩ := key
    apply step_go (k' := 2 * falses s2.1 + (if ag = true then 1 else 0)) e2
    · simpa using gk
    · exact ⟨s2, K2, I2, ag, g10, gag, rfl, fun t ht => (gE t ht).trans (hE t ht)⟩

theorem bools_rep (n : Nat) : bools (List.replicate n false) = (List.replicate n [CV.bool false]).flatten := by
  induction n with
  | zero => rfl
  | succ n ih =>
    have : bools (List.replicate (n + 1) false) = .bool false :: bools (List.replicate n false) := rfl
    rw [this, ih, List.replicate_succ, List.flatten_cons]; rfl

/-- kept. -/
theorem f42 {H : CHeap} (m : MRep o g H b M L) (w : M.Ok) : ∃ v H', run P 42 [.ptr b 0] H = some (v, H') ∧ H.length ≤ H'.length ∧ (∀ c, c < H.length → H'[c]? = H[c]?) ∧ At (Loc H.length) z3 H' v 1 (M.objs.length + 1) (bools M.keptL) := by
  have hc := m.cells
  have hl := m.objs.len
  have hlb := lt_of_get hc
  have hfew := w.few
  have hns := w.ns
  have hX : (H ++ [⟨(List.replicate (M.objs.length + 1) [CV.bool false]).flatten, .rw, 1⟩] ++ [⟨[.slice H.length 0 (M.objs.length + 1) (M.objs.length + 1) 1 false], .rw, 0⟩] ++ [⟨[.nilSlice], .rw, 0⟩] : CHeap).length = H.length + 3 := by simp
  have mX : MRep o g (H ++ [⟨(List.replicate (M.objs.length + 1) [CV.bool false]).flatten, .rw, 1⟩] ++ [⟨[.slice H.length 0 (M.objs.length + 1) (M.objs.length + 1) 1 false], .rw, 0⟩] ++ [⟨[.nilSlice], .rw, 0⟩] : CHeap) b M L := ((m.app _).app _).app _
  obtain ⟨v', J, e73, a73⟩ := f73 (H := (H ++ [⟨(List.replicate (M.objs.length + 1) [CV.bool false]).flatten, .rw, 1⟩] ++ [⟨[.slice H.length 0 (M.objs.length + 1) (M.objs.length + 1) 1 false], .rw, 0⟩] ++ [⟨[.nilSlice], .rw, 0⟩] : CHeap)) (v := L.sl) (n := M.slots.length) (cs := L.sv) (At.slicey m.slots) (fun J => mX.slots.elems (fun c hc => List.getElem?_append_left (mX.dom _ _ hc))) m.nsv (by
      simp only [List.all_eq_true]
      intro x hx
      obtain ⟨i, hi, rfl⟩ := List.mem_iff_getElem.1 hx
      have hi' : i < M.slots.length := by rw [← m.nsv]; exact hi
      obtain ⟨v, h1, h2⟩ := m.slot i _ (getD_of [] hi')
      rw [List.getElem?_eq_getElem hi] at h1
      simp only [Option.some.injEq] at h1
      rw [h1]; exact h2.leaf) (Nat.le_trans hns.2 (by decide))
  have hbJ : ((H ++ [⟨(List.replicate (M.objs.length + 1) [CV.bool false]).flatten, .rw, 1⟩] ++ [⟨[.slice H.length 0 (M.objs.length + 1) (M.objs.length + 1) 1 false], .rw, 0⟩] ++ [⟨[.nilSlice], .rw, 0⟩] : CHeap) ++ J)[b]? = some ⟨[L.sl, L.gl, L.qv, L.ov], .rw, 0⟩ := by rw [List.getElem?_append_left (by simp; omega)]; simp (disch := first | omega | rfl | assumption | (simp only [csN, Nat.reduceAdd, Nat.reduceMul, Nat.reduceLeDiff, Nat.reduceEqDiff] <;> omega) | (simp only [csF]; done) | (simp only [csF] <;> assumption) | fail) only [Nat.reduceEqDiff, Nat.reduceAdd, Nat.reduceMul, Nat.reduceSub, Nat.reduceLeDiff, Int.reduceAdd, Int.reduceSub, Int.reduceMul, Int.reduceLT, Int.reduceLE, Int.reduceGT, Int.reduceGE, Int.reduceEq, Int.reduceBEq, Int.reduceBNe, Int.reduceNeg, Int.reduceToNat, csAll, ↓reduceIte, hc]
  have a73' := a73.app [⟨[L.gl, L.qv], .rw, 1⟩]
  obtain ⟨H', b1, b2, b3', b4'⟩ := a73'.append (k := 2) (new := [L.gl, L.qv]) (by omega) (Nat.le_trans (by omega : M.slots.length + 2 ≤ 6) (by decide)) (by simp [m.globals.leaf, m.queue.leaf]) rfl
  have hlen : ((H ++ [⟨(List.replicate (M.objs.length + 1) [CV.bool false]).flatten, .rw, 1⟩] ++ [⟨[.slice H.length 0 (M.objs.length + 1) (M.objs.length + 1) 1 false], .rw, 0⟩] ++ [⟨[.nilSlice], .rw, 0⟩] : CHeap) ++ J ++ [⟨[L.gl, L.qv], .rw, 1⟩] : CHeap).length = H.length + 3 + J.length + 1 := by simp; omega
  rw [hlen] at b1 b2 b3' b4'
  have low : ∀ c, c < H.length + 3 → H'[c]? = (H ++ [⟨(List.replicate (M.objs.length + 1) [CV.bool false]).flatten, .rw, 1⟩] ++ [⟨[.slice H.length 0 (M.objs.length + 1) (M.objs.length + 1) 1 false], .rw, 0⟩] ++ [⟨[.nilSlice], .rw, 0⟩] : CHeap)[c]? := fun c hc' => by
    rw [b4' c (by omega) (by rw [hX]; intro h; have := (Loc_some.1 h).1; omega), List.getElem?_append_left (by simp; omega), List.getElem?_append_left (by simp; omega)]
  have k0 : H'[H.length]? = some ⟨bools (List.replicate (M.objs.length + 1) false), .rw, 1⟩ := by rw [low _ (by omega), bools_rep]; simp (disch := first | omega | rfl | assumption | (simp only [csN, Nat.reduceAdd, Nat.reduceMul, Nat.reduceLeDiff, Nat.reduceEqDiff] <;> omega) | (simp only [csF]; done) | (simp only [csF] <;> assumption) | fail) only [Nat.reduceEqDiff, Nat.reduceAdd, Nat.reduceMul, Nat.reduceSub, Nat.reduceLeDiff, Int.reduceAdd, Int.reduceSub, Int.reduceMul, Int.reduceLT, Int.reduceLE, Int.reduceGT, Int.reduceGE, Int.reduceEq, Int.reduceBEq, Int.reduceBNe, Int.reduceNeg, Int.reduceToNat, csAll, ↓reduceIte]
  have k1 : H'[H.length + 1]? = some ⟨[.slice H.length 0 (M.objs.length + 1) (M.objs.length + 1) 1 false], .rw, 0⟩ := by rw [low _ (by omega)]; simp (disch := first | omega | rfl | assumption | (simp only [csN, Nat.reduceAdd, Nat.reduceMul, Nat.reduceLeDiff, Nat.reduceEqDiff] <;> omega) | (simp only [csF]; done) | (simp only [csF] <;> assumption) | fail) only [Nat.reduceEqDiff, Nat.reduceAdd, Nat.reduceMul, Nat.reduceSub, Nat.reduceLeDiff, Int.reduceAdd, Int.reduceSub, Int.reduceMul, Int.reduceLT, Int.reduceLE, Int.reduceGT, Int.reduceGE, Int.reduceEq, Int.reduceBEq, Int.reduceBNe, Int.reduceNeg, Int.reduceToNat, csAll, ↓reduceIte]
  have k2 : H'[H.length + 2]? = some ⟨[.nilSlice], .rw, 0⟩ := by rw [low _ (by omega)]; simp (disch := first | omega | rfl | assumption | (simp only [csN, Nat.reduceAdd, Nat.reduceMul, Nat.reduceLeDiff, Nat.reduceEqDiff] <;> omega) | (simp only [csF]; done) | (simp only [csF] <;> assumption) | fail) only [Nat.reduceEqDiff, Nat.reduceAdd, Nat.reduceMul, Nat.reduceSub, Nat.reduceLeDiff, Int.reduceAdd, Int.reduceSub, Int.reduceMul, Int.reduceLT, Int.reduceLE, Int.reduceGT, Int.reduceGE, Int.reduceEq, Int.reduceBEq, Int.reduceBNe, Int.reduceNeg, Int.reduceToNat, csAll, ↓reduceIte]
  have hfree : ∀ c, H.length ≤ c → o c = none := fun c hc' => by
    cases h : o c with
    | none => rfl
    | some t => have := m.dom c t h; omega
  have hold : ∀ c, c < H.length → H'[c]? = H[c]? := fun c hc' => by rw [low c (by omega)]; simp (disch := first | omega | rfl | assumption | (simp only [csN, Nat.reduceAdd, Nat.reduceMul, Nat.reduceLeDiff, Nat.reduceEqDiff] <;> omega) | (simp only [csF]; done) | (simp only [csF] <;> assumption) | fail) only [Nat.reduceEqDiff, Nat.reduceAdd, Nat.reduceMul, Nat.reduceSub, Nat.reduceLeDiff, Int.reduceAdd, Int.reduceSub, Int.reduceMul, Int.reduceLT, Int.reduceLE, Int.reduceGT, Int.reduceGE, Int.reduceEq, Int.reduceBEq, Int.reduceBNe, Int.reduceNeg, Int.reduceToNat, csAll, ↓reduceIte]
  have m' : MRep o g H' b M L := m.frame (fun c t h => by have := m.dom c t h; omega) (fun _ _ h => h) (fun c k h => hold c (m.dom c _ h))
  have KS0 : KS H' (H.length + 1) (H.length + 2) H.length H' (List.replicate (M.objs.length + 1) false, []) :=
    ⟨fun _ _ _ _ _ => rfl, by omega, Nat.le_refl _, by rw [k1]; simp, k0, _, k2, .inl ⟨rfl, rfl⟩⟩
  have I0 := KInv.start w
  have kst : KOk M.objs.length (List.replicate (M.objs.length + 1) false, ([] : List Int)) := by
    refine ⟨by simp, by simp [on, List.getD_eq_getElem?_getD], by simp, by simp [falses]⟩
  have hpl : (M.slots ++ [M.globals, M.queue]).flatten = M.places := by unfold Mdl.places; simp
  have f1 := hfree (H.length + 1) (by omega)
  have f2 := hfree (H.length + 2) (by omega)
  have f0 := hfree H.length (by omega)
  have key : ∃ v H2, run P 42 [.ptr b 0] H = some (v, H2) ∧ v = .slice H.length 0 (M.objs.length + 1) (M.objs.length + 1) 1 false ∧ KS H' (H.length + 1) (H.length + 2) H.length H2 (M.keptL, []) := by
    have hw : IntKind.i64.wrap ((M.objs.length : Int) + 1) = ((M.objs.length + 1 : Nat) : Int) := by rw [wrap_id (by omega)]; rfl
    rw [run_lv c42]
    have hgl := m.globals.leaf
    have hql := m.queue.leaf
    simp (disch := first | omega | rfl | assumption | (simp only [csN, Nat.reduceAdd, Nat.reduceMul, Nat.reduceLeDiff, Nat.reduceEqDiff] <;> omega) | (simp only [csF]; done) | (simp only [csF] <;> assumption) | fail) only [Nat.reduceEqDiff, Nat.reduceAdd, Nat.reduceMul, Nat.reduceSub, Nat.reduceLeDiff, Int.reduceAdd, Int.reduceSub, Int.reduceMul, Int.reduceLT, Int.reduceLE, Int.reduceGT, Int.reduceGE, Int.reduceEq, Int.reduceBEq, Int.reduceBNe, Int.reduceNeg, Int.reduceToNat, csAll, ↓reduceIte, C42, entry_1, hc, hl, hw, e73, hbJ, b1]
    generalize hr : den P (.loop C42_6) _ _ = r
    have hw4 : ∀ l ∈ M.slots ++ [M.globals, M.queue], l.length ≤ 100000 ∧ ∀ v ∈ l, 0 ≤ v ∧ v ≤ (M.objs.length : Int) := by
      intro l hl'
      simp only [List.mem_append, List.mem_cons, List.not_mem_nil, or_false] at hl'
      rcases hl' with h | rfl | rfl
      · have := w.s16 l h; exact ⟨by omega, this.2⟩
      · have := w.g16; exact ⟨by omega, this.2⟩
      · have := w.q64; exact ⟨by omega, fun v hv => by have := this.2 v hv; omega⟩
    obtain ⟨x, E1, H1, rfl, -, rfl, K1, hE1⟩ := (l42_6 (H0 := H') (b3 := H.length + 1) (b4 := H.length + 2) (ob := H.length) kst hfew (ls := M.slots ++ [M.globals, M.queue]) (svs := L.sv ++ [L.gl, L.qv]) (qb := H.length + 3 + J.length + 1) (cap := M.slots.length + 2) (tl := true) ⟨by simp; omega, fun l hl' => (hw4 l hl').1⟩ (fun l hl' => (hw4 l hl').2)
      ⟨by omega, by omega, by omega, by omega, b3'⟩ (by
        intro i l hi
        rw [List.getElem?_append] at hi
        split at hi
        · obtain ⟨v, h1, h2⟩ := m'.slot i l hi
          refine ⟨v, ?_, h2.rd (w.s16 l (List.mem_of_getElem? hi)).1 f1 f2 f0⟩
          rw [List.getElem?_append_left (by rw [m.nsv]; assumption), h1]
        · rename_i hni
          have hi' := lt_of_get hi
          simp only [List.length_cons, List.length_nil] at hi'
          have h2 : i - M.slots.length = 0 ∨ i - M.slots.length = 1 := by omega
          rcases h2 with h2 | h2
          · rw [h2] at hi
            simp only [List.getElem?_cons_zero, Option.some.injEq] at hi
            subst hi
            refine ⟨L.gl, ?_, m'.globals.rd w.g16.1 f1 f2 f0⟩
            rw [List.getElem?_append_right (by rw [m.nsv]; omega), m.nsv, h2]; rfl
          · rw [h2] at hi
            simp only [List.getElem?_cons_succ, List.getElem?_cons_zero, Option.some.injEq] at hi
            subst hi
            refine ⟨L.qv, ?_, m'.queue.rd rfl f1 f2 f0⟩
            rw [List.getElem?_append_right (by rw [m.nsv]; omega), m.nsv, h2]; rfl) _).at hr _
      ⟨by simp only [upd_apply, Nat.reduceEqDiff, ↓reduceIte], by simp only [upd_apply, Nat.reduceEqDiff, ↓reduceIte, List.length_append, List.length_cons, List.length_nil], by simp only [upd_apply, Nat.reduceEqDiff, ↓reduceIte, List.length_append, List.length_cons, List.length_nil], 0, by simp only [upd_apply, Nat.reduceEqDiff, ↓reduceIte]; rfl, by omega, rfl, KS0, fun t ht => rfl⟩
    rw [hpl] at K1
    have q0 := hE1 0 (by omega)
    have q3 := hE1 3 (by omega)
    have q4 := hE1 4 (by omega)
    have q5 := hE1 5 (by omega)
    simp only [upd_apply, Nat.reduceEqDiff, ↓reduceIte] at q0 q3 q4 q5
    simp (disch := first | omega | rfl | assumption | (simp only [csN, Nat.reduceAdd, Nat.reduceMul, Nat.reduceLeDiff, Nat.reduceEqDiff] <;> omega) | (simp only [csF]; done) | (simp only [csF] <;> assumption) | fail) only [Nat.reduceEqDiff, Nat.reduceAdd, Nat.reduceMul, Nat.reduceSub, Nat.reduceLeDiff, Int.reduceAdd, Int.reduceSub, Int.reduceMul, Int.reduceLT, Int.reduceLE, Int.reduceGT, Int.reduceGE, Int.reduceEq, Int.reduceBEq, Int.reduceBNe, Int.reduceNeg, Int.reduceToNat, csAll, ↓reduceIte]
    generalize hr2 : den (cprog Go.Proofs.Try.prog) (.loop C42_4) _ _ = r2
    obtain ⟨x, E2, H2, rfl, -, rfl, K2, hE2⟩ := (l42_4 m' w f1 f2 f0 (E1.upd 10 (.bool true)) (by simp only [upd_apply, Nat.reduceEqDiff, ↓reduceIte]; exact q0) (by simp only [upd_apply, Nat.reduceEqDiff, ↓reduceIte]; exact q3) (by simp only [upd_apply, Nat.reduceEqDiff, ↓reduceIte]; exact q4) (by simp only [upd_apply, Nat.reduceEqDiff, ↓reduceIte]; exact q5)).at hr2 _
      ⟨_, K1, I0, true, by simp only [upd_apply, ↓reduceIte], (fun h => by cases h), rfl, fun t ht => rfl⟩
    have r3 : E2 3 = .ptr (H.length + 1) 0 := by rw [hE2 3 (by omega)]; simp only [upd_apply, Nat.reduceEqDiff, ↓reduceIte]; exact q3
    have o3 := K2.o3
    have hkl : M.keptL.length = M.objs.length + 1 := by simp [Mdl.keptL]
    dsimp only at o3
    rw [hkl] at o3
    refine ⟨_, H2, ?_, rfl, K2⟩
    simp (disch := first | omega | rfl | assumption | (simp only [csN, Nat.reduceAdd, Nat.reduceMul, Nat.reduceLeDiff, Nat.reduceEqDiff] <;> omega) | (simp only [csF]; done) | (simp only [csF] <;> assumption) | fail) only [Nat.reduceEqDiff, Nat.reduceAdd, Nat.reduceMul, Nat.reduceSub, Nat.reduceLeDiff, Int.reduceAdd, Int.reduceSub, Int.reduceMul, Int.reduceLT, Int.reduceLE, Int.reduceGT, Int.reduceGE, Int.reduceEq, Int.reduceBEq, Int.reduceBNe, Int.reduceNeg, Int.reduceToNat, csAll, ↓reduceIte, r3, o3]
  obtain ⟨v, H2, e, rfl, K2⟩ := key
  have hkl : M.keptL.length = M.objs.length + 1 := by simp [Mdl.keptL]
  refine ⟨_, H2, e, by have := K2.len; omega, fun c hc' => ?_, .inr ⟨_, _, rfl, Loc_some.2 ⟨by omega, rfl⟩, K2.oo, by rw [bools_len, hkl]; omega⟩⟩
  rw [K2.low c (by omega) (by omega) (by omega) (by omega), hold c hc']
end
end Go.Cs.Try

/- Kept. -/
namespace Go.Cs
open Go
theorem At.locMono {k k' : Nat} {H : CHeap} {v : CV} {e n : Nat} {cs : List CV} (h : At (Loc k) z3 H v e n cs) (hk : k' ≤ k) : At (Loc k') z3 H v e n cs := by
  rcases h with h | ⟨b, tl, rfl, h1, h2, h3⟩
  · exact .inl h
  · have := (Loc_some.1 h1).1
    exact .inr ⟨b, tl, rfl, Loc_some.2 ⟨by omega, rfl⟩, h2, h3⟩

/-- A local list grows by one. -/
theorem out_push {B : Nat} {H : CHeap} {v : CV} {l : List Int} (h : At (Loc B) z3 H v 1 l.length (ints l)) (hB : B ≤ H.length) (hm : l.length + 1 ≤ maxEls) (x : Int) :
    ∃ v' H', appendTo (H ++ [⟨[.i x], .rw, 1⟩]) 1 v 1 [.i x] = some (v', H') ∧ At (Loc B) z3 H' v' 1 (l ++ [x]).length (ints (l ++ [x])) ∧ H.length ≤ H'.length ∧ ∀ c, c < B → H'[c]? = H[c]? := by
  obtain ⟨H', a1, a2, a3, a4⟩ := (h.app [⟨[.i x], .rw, 1⟩]).append (k := 1) (new := [.i x]) (by omega) hm rfl rfl
  have hlen : (H ++ [⟨[.i x], .rw, 1⟩] : CHeap).length = H.length + 1 := by simp
  rw [hlen] at a1 a2 a3 a4
  refine ⟨_, H', a1, .inr ⟨H.length + 1, true, by simp, Loc_some.2 ⟨by omega, rfl⟩, by rw [a3, ints_app]; rfl, by simp [ints_len]⟩, by omega, fun c hc => ?_⟩
  rw [a4 c (by omega) (fun h => by have := (Loc_some.1 h).1; omega), List.getElem?_append_left (by omega)]

def idxs (ks : List Bool) (i : Nat) : List Int := ((List.range i).filter fun j => ks.getD j false).map fun (j : Nat) => (j : Int)
theorem idxs_succ {ks : List Bool} {i : Nat} : idxs ks (i + 1) = idxs ks i ++ (if ks.getD i false = true then [(i : Int)] else []) := by
  unfold idxs
  rw [List.range_succ, List.filter_append, List.map_append]
  cases h : ks.getD i false with
  | false => rw [List.filter_cons_of_neg (by rw [h]; simp)]; simp
  | true => rw [List.filter_cons_of_pos (by exact h)]; simp
theorem idxs_len {ks : List Bool} : ∀ {i : Nat}, (idxs ks i).length ≤ i
  | 0 => by simp [idxs]
  | i + 1 => by
    rw [idxs_succ, List.length_append]
    have := idxs_len (ks := ks) (i := i)
    split <;> simp <;> omega
noncomputable def Mdl.keptI (M : Mdl) : List Int := idxs M.keptL (M.objs.length + 1)
theorem keptL_len (M : Mdl) : M.keptL.length = M.objs.length + 1 := by simp [Mdl.keptL]
end Go.Cs
namespace Go.Cs.Try
open Go Go.Cs
set_option maxRecDepth 100000
section
variable {o : Tags} {g : Nat} {b : Nat} {M : Mdl} {L : Lay} {H0 : CHeap}

theorem l14_1 {ks : List Bool} {kv : CV} {ob : Nat} {tl : Bool} (hn : ks.length ≤ 1000000) (hkv : kv = .slice ob 0 ks.length ks.length 1 tl) (hob : H0[ob]? = some ⟨bools ks, .rw, 1⟩) (E0 : Env) :
    LoopOk P C14_1 (fun k E H => E 10 = kv ∧ E 11 = .i ks.length ∧ H0.length ≤ H.length ∧ (∀ c, c < H0.length → H[c]? = H0[c]?) ∧ ∃ i : Nat, E 12 = .i i ∧ i ≤ ks.length ∧ k = ks.length - i ∧ At (Loc H0.length) z3 H (E 3) 1 (idxs ks i).length (Go.Cs.ints (idxs ks i)))
      (fun x E' H' => x = .exit 0 ∧ H0.length ≤ H'.length ∧ (∀ c, c < H0.length → H'[c]? = H0[c]?) ∧ At (Loc H0.length) z3 H' (E' 3) 1 (idxs ks ks.length).length (Go.Cs.ints (idxs ks ks.length))) := by
  refine loop_ind ?_
  rintro k E H ⟨h10, h11, hl, hlow, i, h12, hi, rfl, ha⟩
  rw [hkv] at h10
  by_cases c : i < ks.length
  · have hb : H[ob]? = some ⟨bools ks, .rw, 1⟩ := by rw [hlow ob (lt_of_get hob), hob]
    have hg : (bools ks)[i]? = some (.bool (ks.getD i false)) := by rw [bools_get, getD_of false c]; rfl
    have hw : IntKind.i64.wrap ((i : Int) + 1) = ((i + 1 : Nat) : Int) := by rw [wrap_id (by omega)]; rfl
    cases hk : ks.getD i false with
    | false =>
      rw [hk] at hg
      apply step_go (k' := ks.length - (i + 1))
      · simp (disch := first | omega | rfl | assumption | (simp only [csN, Nat.reduceAdd, Nat.reduceMul, Nat.reduceLeDiff, Nat.reduceEqDiff] <;> omega) | (simp only [csF]; done) | (simp only [csF] <;> assumption) | fail) only [Nat.reduceEqDiff, Nat.reduceAdd, Nat.reduceMul, Nat.reduceSub, Nat.reduceLeDiff, Int.reduceAdd, Int.reduceSub, Int.reduceMul, Int.reduceLT, Int.reduceLE, Int.reduceGT, Int.reduceGE, Int.reduceEq, Int.reduceBEq, Int.reduceBNe, Int.reduceNeg, Int.reduceToNat, csAll, ↓reduceIte, C14_1, h10, h11, h12, hb, hg, hw]
        rfl
      · omega
      · refine ⟨by simp [upd_apply, h10, hkv], by simp [upd_apply, h11], hl, hlow, i + 1, by simp [upd_apply], by omega, rfl, ?_⟩
        rw [idxs_succ, hk]
        simpa [upd_apply] using ha
    | true =>
      rw [hk] at hg
      have hil := idxs_len (ks := ks) (i := i)
      obtain ⟨v', H', a1, a2, a3, a4⟩ := out_push ha hl (Nat.le_trans (by omega : _ ≤ 1000000) (by decide)) (i : Int)
      generalize he3 : E 3 = v3 at *
      apply step_go (k' := ks.length - (i + 1))
      · simp (disch := first | omega | rfl | assumption | (simp only [csN, Nat.reduceAdd, Nat.reduceMul, Nat.reduceLeDiff, Nat.reduceEqDiff] <;> omega) | (simp only [csF]; done) | (simp only [csF] <;> assumption) | fail) only [Nat.reduceEqDiff, Nat.reduceAdd, Nat.reduceMul, Nat.reduceSub, Nat.reduceLeDiff, Int.reduceAdd, Int.reduceSub, Int.reduceMul, Int.reduceLT, Int.reduceLE, Int.reduceGT, Int.reduceGE, Int.reduceEq, Int.reduceBEq, Int.reduceBNe, Int.reduceNeg, Int.reduceToNat, csAll, ↓reduceIte, C14_1, h10, h11, h12, hb, hg, hw, he3, a1]
        rfl
      · omega
      · refine ⟨by simp [upd_apply, h10, hkv], by simp [upd_apply, h11], by omega, fun c hc => (a4 c hc).trans (hlow c hc), i + 1, by simp [upd_apply], by omega, rfl, ?_⟩
        rw [idxs_succ, hk]
        simpa [upd_apply] using a2
  · apply step_out (x := .exit 0)
    · simp (disch := first | omega | rfl | assumption | (simp only [csN, Nat.reduceAdd, Nat.reduceMul, Nat.reduceLeDiff, Nat.reduceEqDiff] <;> omega) | (simp only [csF]; done) | (simp only [csF] <;> assumption) | fail) only [Nat.reduceEqDiff, Nat.reduceAdd, Nat.reduceMul, Nat.reduceSub, Nat.reduceLeDiff, Int.reduceAdd, Int.reduceSub, Int.reduceMul, Int.reduceLT, Int.reduceLE, Int.reduceGT, Int.reduceGE, Int.reduceEq, Int.reduceBEq, Int.reduceBNe, Int.reduceNeg, Int.reduceToNat, csAll, ↓reduceIte, C14_1, h11, h12]
      rfl
    · simp
    · have : i = ks.length := by omega
      subst this
      exact ⟨rfl, hl, hlow, by simpa [upd_apply] using ha⟩

/-- Kept. -/
theorem f14 {H : CHeap} (m : MRep o g H b M L) (w : M.Ok) : ∃ v H', run P 14 [.ptr b 0] H = some (v, H') ∧ H.length ≤ H'.length ∧ (∀ c, c < H.length → H'[c]? = H[c]?) ∧ At (Loc H.length) z3 H' v 1 M.keptI.length (Go.Cs.ints M.keptI) := by
  obtain ⟨kv, H1, e1, e2, e3, e4⟩ := f42 m w
  have h41 := f41 m w
  obtain ⟨tl, d1, d2, d3, d4⟩ := e4.pos (by omega)
  have hlen := e4.len
  have hfew := w.few
  have hkl := keptL_len M
  have key : ∃ v H', run P 14 [.ptr b 0] H = some (v, H') ∧ H1.length ≤ H'.length ∧ (∀ c, c < H1.length → H'[c]? = H1[c]?) ∧ At (Loc H1.length) z3 H' v 1 M.keptI.length (Go.Cs.ints M.keptI) := by
    rw [run_lv c14]
    simp (disch := first | omega | rfl | assumption | (simp only [csN, Nat.reduceAdd, Nat.reduceMul, Nat.reduceLeDiff, Nat.reduceEqDiff] <;> omega) | (simp only [csF]; done) | (simp only [csF] <;> assumption) | fail) only [Nat.reduceEqDiff, Nat.reduceAdd, Nat.reduceMul, Nat.reduceSub, Nat.reduceLeDiff, Int.reduceAdd, Int.reduceSub, Int.reduceMul, Int.reduceLT, Int.reduceLE, Int.reduceGT, Int.reduceGE, Int.reduceEq, Int.reduceBEq, Int.reduceBNe, Int.reduceNeg, Int.reduceToNat, csAll, ↓reduceIte, C14, entry_1, h41, e1, hlen]
    generalize hr : den P (.loop C14_1) _ _ = r
    obtain ⟨x, E2, H2, rfl, -, rfl, g1, g2, g3⟩ := (l14_1 (H0 := H1) (ks := M.keptL) (kv := kv) (ob := blkOf kv) (by omega) (by rw [hkl]; exact d1) d3 (fun _ => .undef)).at hr _
      ⟨by simp only [upd_apply, Nat.reduceEqDiff, ↓reduceIte], by simp only [upd_apply, Nat.reduceEqDiff, ↓reduceIte, hkl], Nat.le_refl _, fun _ _ => rfl, 0, by simp only [upd_apply, Nat.reduceEqDiff, ↓reduceIte]; rfl, by omega, rfl, by simp only [upd_apply, Nat.reduceEqDiff, ↓reduceIte]; exact At.nil⟩
    rw [hkl] at g3
    refine ⟨_, H2, ?_, g1, g2, g3⟩
    simp (disch := first | omega | rfl | assumption | (simp only [csN, Nat.reduceAdd, Nat.reduceMul, Nat.reduceLeDiff, Nat.reduceEqDiff] <;> omega) | (simp only [csF]; done) | (simp only [csF] <;> assumption) | fail) only [Nat.reduceEqDiff, Nat.reduceAdd, Nat.reduceMul, Nat.reduceSub, Nat.reduceLeDiff, Int.reduceAdd, Int.reduceSub, Int.reduceMul, Int.reduceLT, Int.reduceLE, Int.reduceGT, Int.reduceGE, Int.reduceEq, Int.reduceBEq, Int.reduceBNe, Int.reduceNeg, Int.reduceToNat, csAll, ↓reduceIte]
  obtain ⟨v, H', k1, k2, k3, k4⟩ := key
  exact ⟨v, H', k1, by omega, fun c hc => by rw [k3 c (by omega), e3 c hc], k4.locMono e2⟩
end
end Go.Cs.Try

/- New. -/
namespace Go.Cs
open Go

/-- A further mutator. -/
theorem MRep.addSlot {o : Tags} {g : Nat} {H H' : CHeap} {b : Nat} {M : Mdl} {L : Lay} (m : MRep o g H b M L) {s : List Int} {u v : CV} {o' : Tags}
    (hd : ∀ c t, o' c = some t → c < H'.length) (ho : ∀ c k, o c = some (g, k) → o' c = some (g, k))
    (hf : ∀ c k, o c = some (g, k) → k ≠ (1, 0) → k ≠ (0, 0) → H'[c]? = H[c]?) (hb : H'[b]? = some ⟨[v, L.gl, L.qv, L.ov], .rw, 0⟩)
    (hr : At o' (g, 1, 0) H' v 1 (M.slots.length + 1) (L.sv ++ [u])) (h1 : At o' (g, 2, M.slots.length) H' u 1 16 (ints s)) :
    MRep o' g H' b { M with slots := M.slots ++ [s] } { L with sl := v, sv := L.sv ++ [u] } where
  dom := hd
  top := ho _ _ m.top
  cells := hb
  nsv := by simp [m.nsv]
  slots := by rw [List.length_append]; exact hr
  slot := fun i y hy => by
    rw [List.getElem?_append] at hy
    split at hy
    · rename_i hj
      obtain ⟨v, e1, e2⟩ := m.slot i y hy
      refine ⟨v, ?_, e2.frame (fun c => ho c _) (fun c h => hf c _ h (by simp) (by simp))⟩
      show (L.sv ++ [u])[i]? = _
      rw [List.getElem?_append_left (by rw [m.nsv]; exact hj)]
      exact e1
    · rename_i hj
      have hj' : i = M.slots.length := by
        have := lt_of_get hy
        simp at this; omega
      subst hj'
      simp at hy
      subst hy
      refine ⟨u, ?_, h1⟩
      show (L.sv ++ [u])[M.slots.length]? = _
      rw [← m.nsv]; simp
  globals := m.globals.frame (fun c => ho c _) (fun c h => hf c _ h (by simp) (by simp))
  queue := m.queue.frame (fun c => ho c _) (fun c h => hf c _ h (by simp) (by simp))
  nhv := m.nhv
  objs := m.objs.frame (fun c => ho c _) (fun c h => hf c _ h (by simp) (by simp))
  refs := fun j y hy => by
    obtain ⟨v, e1, e2, e3⟩ := m.refs j y hy
    exact ⟨v, e1, e2.frame (fun c => ho c _) (fun c h => hf c _ h (by simp) (by simp)), e3.frame (fun c => ho c _) (fun c h => hf c _ h (by simp) (by simp))⟩

/-- The same, from memory that is new: u is a list of its own, v is the longer list of lists. -/
theorem MRep.newSlot {o : Tags} {g : Nat} {H Hf : CHeap} {b : Nat} {M : Mdl} {L : Lay} (m : MRep o g H b M L) {s : List Int} {u v : CV} {ub vb : Nat} {tu tv : Bool} (hu : u = .slice ub 0 16 16 1 tu) (hv : v = .slice vb 0 (M.slots.length + 1) (M.slots.length + 1) 1 tv)
    (hn : ub ≠ vb) (hub : H.length ≤ ub) (hvb : H.length ≤ vb) (hs : s.length = 16) (cu : Hf[ub]? = some ⟨ints s, .rw, 1⟩) (cv : Hf[vb]? = some ⟨L.sv ++ [u], .rw, 1⟩) (hl : H.length ≤ Hf.length)
    (hb : Hf[b]? = some ⟨[v, L.gl, L.qv, L.ov], .rw, 0⟩) (hf : ∀ d, d < H.length → o d ≠ some (g, 1, 0) → d ≠ b → Hf[d]? = H[d]?) :
    ∃ o' L', MRep o' g Hf b { M with slots := M.slots ++ [s] } L' ∧ Frm g o H o' Hf := by
  have hlu := lt_of_get cu
  have hlv := lt_of_get cv
  refine ⟨(o.put ub (g, 2, M.slots.length)).put vb (g, 1, 0), _, m.addSlot (s := s) (u := u) (v := v) ?_ ?_ ?_ hb (.inr ⟨vb, tv, hv, Tags.put_eq, cv, by simp [m.nsv]⟩) (.inr ⟨ub, tu, hu, by rw [Tags.put_ne hn, Tags.put_eq], cu, by simp [ints_len, hs]⟩), ?_⟩
  · intro c t h
    by_cases e : c = vb
    · omega
    · rw [Tags.put_ne e] at h
      by_cases e' : c = ub
      · omega
      · rw [Tags.put_ne e'] at h; have := m.dom c t h; omega
  · intro c k h
    have := m.dom c _ h
    rw [Tags.put_ne (by omega), Tags.put_ne (by omega), h]
  · intro c k h k1 k2
    refine hf c (m.dom c _ h) (by rw [h]; simpa using k1) ?_
    rintro rfl
    rw [m.top] at h
    simp only [Option.some.injEq, Prod.mk.injEq, true_and] at h
    exact k2 h.symm
  · refine ⟨hl, fun c hc => by rw [Tags.put_ne (by omega), Tags.put_ne (by omega)], fun c t h hc => ?_, fun c hc hk => hf c hc (hk _) ?_⟩
    · by_cases e : c = vb
      · rw [e, Tags.put_eq] at h; simp only [Option.some.injEq] at h; rw [← h]
      · rw [Tags.put_ne e] at h
        by_cases e' : c = ub
        · rw [e', Tags.put_eq] at h; simp only [Option.some.injEq] at h; rw [← h]
        · rw [Tags.put_ne e'] at h; have := m.dom c t h; omega
    · rintro rfl; exact hk _ m.top

def zeros16 : List Int := List.replicate 16 0
def Mdl.new (n : Nat) : Mdl := ⟨List.replicate n zeros16, zeros16, [], []⟩
theorem Mdl.new_ok {n : Nat} (h : 1 ≤ n ∧ n ≤ 4) : (Mdl.new n).Ok where
  ns := by simpa [Mdl.new] using h
  s16 := fun s hs => by
    simp only [Mdl.new, List.mem_replicate] at hs
    rw [hs.2]
    refine ⟨by simp [zeros16], fun v hv => ?_⟩
    simp only [zeros16, List.mem_replicate] at hv
    rw [hv.2]; simp [Mdl.new]
  g16 := by
    refine ⟨by simp [Mdl.new, zeros16], fun v hv => ?_⟩
    simp only [Mdl.new, zeros16, List.mem_replicate] at hv
    rw [hv.2]; simp [Mdl.new]
  q64 := by simp [Mdl.new]
  objs := fun x hx => by simp [Mdl.new] at hx
  few := by simp [Mdl.new]
end Go.Cs
namespace Go.Cs.Try
open Go Go.Cs
set_option maxRecDepth 100000
section

theorem cz16 : (List.replicate (16 : Int).toNat [CV.int .i64 0]).flatten = Go.Cs.ints zeros16 := rfl

theorem l31_1 {o0 : Tags} {g : Nat} {H0 : CHeap} {b n : Nat} (hn : n ≤ 4) (hb : H0.length ≤ b) :
    LoopOk P C31_1 (fun k E H => E 4 = .ptr b 0 ∧ E 14 = .i n ∧ ∃ i : Nat, E 15 = .i i ∧ i ≤ n ∧ k = n - i ∧ ∃ o L, MRep o g H b (Mdl.new i) L ∧ Frm g o0 H0 o H)
      (fun x E' H' => x = .exit 0 ∧ E' 4 = .ptr b 0 ∧ ∃ o L, MRep o g H' b (Mdl.new n) L ∧ Frm g o0 H0 o H') := by
  refine loop_ind ?_
  rintro k E H ⟨h4, h14, i, h15, hi, rfl, o, L, m, fr⟩
  by_cases c : i < n
  · have hc := m.cells
    have hl := lt_of_get hc
    have hns : (Mdl.new i).slots.length = i := by simp [Mdl.new]
    have hz : (List.replicate 16 [CV.int .i64 0]).flatten = Go.Cs.ints zeros16 := rfl
    have ms := ((m.app [⟨Go.Cs.ints zeros16, .rw, 1⟩]).app [⟨[.slice H.length 0 16 16 1 false], .rw, 1⟩]).slots
    rw [hns] at ms
    obtain ⟨H', a1, a2, a3, a4⟩ := ms.append (k := 1) (new := [.slice H.length 0 16 16 1 false]) (by omega) (Nat.le_trans (by omega : i + 1 ≤ 5) (by decide)) rfl rfl
    have hlen : (H ++ [⟨Go.Cs.ints zeros16, .rw, 1⟩] ++ [⟨[.slice H.length 0 16 16 1 false], .rw, 1⟩] : CHeap).length = H.length + 2 := by simp
    rw [hlen] at a1 a2 a3 a4
    have hfree : ∀ c, H.length ≤ c → o c ≠ some (g, 1, 0) := fun c hc h => by have := m.dom c _ h; omega
    have k0 : H'[H.length]? = some ⟨Go.Cs.ints zeros16, .rw, 1⟩ := by rw [a4 _ (by omega) (hfree _ (by omega))]; simp (disch := first | omega | rfl | assumption | (simp only [csN, Nat.reduceAdd, Nat.reduceMul, Nat.reduceLeDiff, Nat.reduceEqDiff] <;> omega) | (simp only [csF]; done) | (simp only [csF] <;> assumption) | fail) only [Nat.reduceEqDiff, Nat.reduceAdd, Nat.reduceMul, Nat.reduceSub, Nat.reduceLeDiff, Int.reduceAdd, Int.reduceSub, Int.reduceMul, Int.reduceLT, Int.reduceLE, Int.reduceGT, Int.reduceGE, Int.reduceEq, Int.reduceBEq, Int.reduceBNe, Int.reduceNeg, Int.reduceToNat, csAll, ↓reduceIte]
    have kb : H'[b]? = some ⟨[L.sl, L.gl, L.qv, L.ov], .rw, 0⟩ := by rw [a4 _ (by omega) (by rw [m.top]; simp)]; simp (disch := first | omega | rfl | assumption | (simp only [csN, Nat.reduceAdd, Nat.reduceMul, Nat.reduceLeDiff, Nat.reduceEqDiff] <;> omega) | (simp only [csF]; done) | (simp only [csF] <;> assumption) | fail) only [Nat.reduceEqDiff, Nat.reduceAdd, Nat.reduceMul, Nat.reduceSub, Nat.reduceLeDiff, Int.reduceAdd, Int.reduceSub, Int.reduceMul, Int.reduceLT, Int.reduceLE, Int.reduceGT, Int.reduceGE, Int.reduceEq, Int.reduceBEq, Int.reduceBNe, Int.reduceNeg, Int.reduceToNat, csAll, ↓reduceIte, hc]
    obtain ⟨o', L', m', fr'⟩ := m.newSlot (Hf := H'.set b ⟨[.slice (H.length + 2) 0 (i + 1) (i + 1) 1 true, L.gl, L.qv, L.ov], .rw, 0⟩) (s := zeros16) (u := .slice H.length 0 16 16 1 false) (v := .slice (H.length + 2) 0 (i + 1) (i + 1) 1 true) (ub := H.length) (vb := H.length + 2) (tu := false) (tv := true)
      rfl (by rw [hns]) (by omega) (by omega) (by omega) rfl (by rw [List.getElem?_set_ne (by omega), k0]) (by rw [List.getElem?_set_ne (by omega), a3]) (by rw [List.length_set]; omega) (by rw [List.getElem?_set_self (by omega)])
      (fun d hd h h' => by rw [List.getElem?_set_ne (Ne.symm h'), a4 d (by omega) h]; simp (disch := first | omega | rfl | assumption | (simp only [csN, Nat.reduceAdd, Nat.reduceMul, Nat.reduceLeDiff, Nat.reduceEqDiff] <;> omega) | (simp only [csF]; done) | (simp only [csF] <;> assumption) | fail) only [Nat.reduceEqDiff, Nat.reduceAdd, Nat.reduceMul, Nat.reduceSub, Nat.reduceLeDiff, Int.reduceAdd, Int.reduceSub, Int.reduceMul, Int.reduceLT, Int.reduceLE, Int.reduceGT, Int.reduceGE, Int.reduceEq, Int.reduceBEq, Int.reduceBNe, Int.reduceNeg, Int.reduceToNat, csAll, ↓reduceIte])
    have hnew : ({ Mdl.new i with slots := (Mdl.new i).slots ++ [zeros16] } : Mdl) = Mdl.new (i + 1) := by simp [Mdl.new, List.replicate_succ']
    rw [hnew] at m'
    have hw : IntKind.i64.wrap ((i : Int) + 1) = ((i + 1 : Nat) : Int) := by rw [wrap_id (by omega)]; rfl
    apply step_go (k' := n - (i + 1))
    · simp (disch := first | omega | rfl | assumption | (simp only [csN, Nat.reduceAdd, Nat.reduceMul, Nat.reduceLeDiff, Nat.reduceEqDiff] <;> omega) | (simp only [csF]; done) | (simp only [csF] <;> assumption) | fail) only [Nat.reduceEqDiff, Nat.reduceAdd, Nat.reduceMul, Nat.reduceSub, Nat.reduceLeDiff, Int.reduceAdd, Int.reduceSub, Int.reduceMul, Int.reduceLT, Int.reduceLE, Int.reduceGT, Int.reduceGE, Int.reduceEq, Int.reduceBEq, Int.reduceBNe, Int.reduceNeg, Int.reduceToNat, csAll, ↓reduceIte, C31_1, h4, h14, h15, hc, hz, a1, kb, hw]
      rfl
    · omega
    · exact ⟨by simp [upd_apply, h4], by simp [upd_apply, h14], i + 1, by simp [upd_apply], by omega, rfl, o', L', m', fr.trans fr'⟩
  · apply step_out (x := .exit 0)
    · simp (disch := first | omega | rfl | assumption | (simp only [csN, Nat.reduceAdd, Nat.reduceMul, Nat.reduceLeDiff, Nat.reduceEqDiff] <;> omega) | (simp only [csF]; done) | (simp only [csF] <;> assumption) | fail) only [Nat.reduceEqDiff, Nat.reduceAdd, Nat.reduceMul, Nat.reduceSub, Nat.reduceLeDiff, Int.reduceAdd, Int.reduceSub, Int.reduceMul, Int.reduceLT, Int.reduceLE, Int.reduceGT, Int.reduceGE, Int.reduceEq, Int.reduceBEq, Int.reduceBNe, Int.reduceNeg, Int.reduceToNat, csAll, ↓reduceIte, C31_1, h14, h15]
      rfl
    · simp
    · have : i = n := by omega
      subst this
      exact ⟨rfl, by simp [upd_apply, h4], o, L, m, fr⟩

/-- New. -/
theorem f31 {o : Tags} {g : Nat} {H : CHeap} (hd : ∀ c t, o c = some t → c < H.length) (hg : ∀ c k, o c ≠ some (g, k)) {n : Nat} (hn : 1 ≤ n ∧ n ≤ 4) :
    ∃ b H' o' L, run P 31 [.i n] H = some (.tup [.ptr b 0, .i 0], H') ∧ MRep o' g H' b (Mdl.new n) L ∧ Frm g o H o' H' := by
  have hz : (List.replicate 16 [CV.int .i64 0]).flatten = Go.Cs.ints zeros16 := rfl
  have m0 : MRep ((o.put (H.length + 1) (g, 0, 0)).put H.length (g, 3, 0)) g (H ++ [⟨Go.Cs.ints zeros16, .rw, 1⟩] ++ [⟨[.nilSlice, .slice H.length 0 16 16 1 false, .nilSlice, .nilSlice], .rw, 0⟩]) (H.length + 1) (Mdl.new 0) ⟨.nilSlice, .slice H.length 0 16 16 1 false, .nilSlice, .nilSlice, [], []⟩ :=
    { dom := fun c t h => by
        simp only [List.length_append, List.length_cons, List.length_nil]
        by_cases e : c = H.length
        · omega
        · rw [Tags.put_ne e] at h
          by_cases e' : c = H.length + 1
          · omega
          · rw [Tags.put_ne e'] at h; have := hd c t h; omega
      top := by rw [Tags.put_ne (by omega), Tags.put_eq]
      cells := by simp (disch := first | omega | rfl | assumption | (simp only [csN, Nat.reduceAdd, Nat.reduceMul, Nat.reduceLeDiff, Nat.reduceEqDiff] <;> omega) | (simp only [csF]; done) | (simp only [csF] <;> assumption) | fail) only [Nat.reduceEqDiff, Nat.reduceAdd, Nat.reduceMul, Nat.reduceSub, Nat.reduceLeDiff, Int.reduceAdd, Int.reduceSub, Int.reduceMul, Int.reduceLT, Int.reduceLE, Int.reduceGT, Int.reduceGE, Int.reduceEq, Int.reduceBEq, Int.reduceBNe, Int.reduceNeg, Int.reduceToNat, csAll, ↓reduceIte]
      nsv := rfl
      slots := .inl ⟨rfl, rfl, .inl rfl⟩
      slot := fun i s h => by simp [Mdl.new] at h
      globals := .inr ⟨H.length, false, rfl, Tags.put_eq, by simp (disch := first | omega | rfl | assumption | (simp only [csN, Nat.reduceAdd, Nat.reduceMul, Nat.reduceLeDiff, Nat.reduceEqDiff] <;> omega) | (simp only [csF]; done) | (simp only [csF] <;> assumption) | fail) only [Nat.reduceEqDiff, Nat.reduceAdd, Nat.reduceMul, Nat.reduceSub, Nat.reduceLeDiff, Int.reduceAdd, Int.reduceSub, Int.reduceMul, Int.reduceLT, Int.reduceLE, Int.reduceGT, Int.reduceGE, Int.reduceEq, Int.reduceBEq, Int.reduceBNe, Int.reduceNeg, Int.reduceToNat, csAll, ↓reduceIte, Mdl.new], rfl⟩
      queue := .inl ⟨rfl, rfl, .inl rfl⟩
      nhv := rfl
      objs := .inl ⟨rfl, rfl, .inl rfl⟩
      refs := fun i s h => by simp [Mdl.new] at h }
  have f0 : Frm g o H ((o.put (H.length + 1) (g, 0, 0)).put H.length (g, 3, 0)) (H ++ [⟨Go.Cs.ints zeros16, .rw, 1⟩] ++ [⟨[.nilSlice, .slice H.length 0 16 16 1 false, .nilSlice, .nilSlice], .rw, 0⟩]) := by
    refine ⟨by simp, fun c hc => by rw [Tags.put_ne (by omega), Tags.put_ne (by omega)], fun c t h hc => ?_, fun c hc _ => by simp (disch := first | omega | rfl | assumption | (simp only [csN, Nat.reduceAdd, Nat.reduceMul, Nat.reduceLeDiff, Nat.reduceEqDiff] <;> omega) | (simp only [csF]; done) | (simp only [csF] <;> assumption) | fail) only [Nat.reduceEqDiff, Nat.reduceAdd, Nat.reduceMul, Nat.reduceSub, Nat.reduceLeDiff, Int.reduceAdd, Int.reduceSub, Int.reduceMul, Int.reduceLT, Int.reduceLE, Int.reduceGT, Int.reduceGE, Int.reduceEq, Int.reduceBEq, Int.reduceBNe, Int.reduceNeg, Int.reduceToNat, csAll, ↓reduceIte]⟩
    by_cases e : c = H.length
    · rw [e, Tags.put_eq] at h; simp only [Option.some.injEq] at h; rw [← h]
    · rw [Tags.put_ne e] at h
      by_cases e' : c = H.length + 1
      · rw [e', Tags.put_eq] at h; simp only [Option.some.injEq] at h; rw [← h]
      · rw [Tags.put_ne e'] at h; have := hd c t h; omega
  have key : ∃ H' o' L, run P 31 [.i n] H = some (.tup [.ptr (H.length + 1) 0, .i 0], H') ∧ MRep o' g H' (H.length + 1) (Mdl.new n) L ∧ Frm g o H o' H' := by
    rw [run_lv c31]
    simp (disch := first | omega | rfl | assumption | (simp only [csN, Nat.reduceAdd, Nat.reduceMul, Nat.reduceLeDiff, Nat.reduceEqDiff] <;> omega) | (simp only [csF]; done) | (simp only [csF] <;> assumption) | fail) only [Nat.reduceEqDiff, Nat.reduceAdd, Nat.reduceMul, Nat.reduceSub, Nat.reduceLeDiff, Int.reduceAdd, Int.reduceSub, Int.reduceMul, Int.reduceLT, Int.reduceLE, Int.reduceGT, Int.reduceGE, Int.reduceEq, Int.reduceBEq, Int.reduceBNe, Int.reduceNeg, Int.reduceToNat, csAll, ↓reduceIte, C31, entry_1, hz]
    generalize hr : den P (.loop C31_1) _ _ = r
    obtain ⟨x, E2, H2, rfl, -, rfl, q4, o', L', m', fr⟩ := (l31_1 (o0 := o) (g := g) (H0 := H) (b := H.length + 1) hn.2 (by omega)).at hr _
      ⟨by simp only [upd_apply, Nat.reduceEqDiff, ↓reduceIte], by simp only [upd_apply, Nat.reduceEqDiff, ↓reduceIte], 0, by simp only [upd_apply, Nat.reduceEqDiff, ↓reduceIte]; rfl, by omega, rfl, _, _, m0, f0⟩
    refine ⟨H2, o', L', ?_, m', fr⟩
    simp (disch := first | omega | rfl | assumption | (simp only [csN, Nat.reduceAdd, Nat.reduceMul, Nat.reduceLeDiff, Nat.reduceEqDiff] <;> omega) | (simp only [csF]; done) | (simp only [csF] <;> assumption) | fail) only [Nat.reduceEqDiff, Nat.reduceAdd, Nat.reduceMul, Nat.reduceSub, Nat.reduceLeDiff, Int.reduceAdd, Int.reduceSub, Int.reduceMul, Int.reduceLT, Int.reduceLE, Int.reduceGT, Int.reduceGE, Int.reduceEq, Int.reduceBEq, Int.reduceBNe, Int.reduceNeg, Int.reduceToNat, csAll, ↓reduceIte, q4]
  obtain ⟨H', o', L, k1, k2, k3⟩ := key
  exact ⟨_, H', o', L, k1, k2, k3⟩

theorem f31_no {H : CHeap} {n : Int} (hn : ¬ (1 ≤ n ∧ n ≤ 4)) : run P 31 [.i n] H = some (.tup [.nilPtr, .i 1], H) := by
  rw [run_lv c31]
  by_cases h : 1 ≤ n
  · simp (disch := first | omega | rfl | assumption | (simp only [csN, Nat.reduceAdd, Nat.reduceMul, Nat.reduceLeDiff, Nat.reduceEqDiff] <;> omega) | (simp only [csF]; done) | (simp only [csF] <;> assumption) | fail) only [Nat.reduceEqDiff, Nat.reduceAdd, Nat.reduceMul, Nat.reduceSub, Nat.reduceLeDiff, Int.reduceAdd, Int.reduceSub, Int.reduceMul, Int.reduceLT, Int.reduceLE, Int.reduceGT, Int.reduceGE, Int.reduceEq, Int.reduceBEq, Int.reduceBNe, Int.reduceNeg, Int.reduceToNat, csAll, ↓reduceIte, C31, entry_1]
  · simp (disch := first | omega | rfl | assumption | (simp only [csN, Nat.reduceAdd, Nat.reduceMul, Nat.reduceLeDiff, Nat.reduceEqDiff] <;> omega) | (simp only [csF]; done) | (simp only [csF] <;> assumption) | fail) only [Nat.reduceEqDiff, Nat.reduceAdd, Nat.reduceMul, Nat.reduceSub, Nat.reduceLeDiff, Int.reduceAdd, Int.reduceSub, Int.reduceMul, Int.reduceLT, Int.reduceLE, Int.reduceGT, Int.reduceGE, Int.reduceEq, Int.reduceBEq, Int.reduceBNe, Int.reduceNeg, Int.reduceToNat, csAll, ↓reduceIte, C31, entry_1]
end
end Go.Cs.Try

/- Collect: what it looks for. -/
namespace Go.Cs.Try
open Go Go.Cs
set_option maxRecDepth 100000
section
variable {H : CHeap}

theorem f52 {n : Int} : run P 52 [.i n] H = some (.bool (n != 0), H) := by
  rw [run_lv c52]
  simp (disch := first | omega | rfl | assumption | (simp only [csN, Nat.reduceAdd, Nat.reduceMul, Nat.reduceLeDiff, Nat.reduceEqDiff] <;> omega) | (simp only [csF]; done) | (simp only [csF] <;> assumption) | fail) only [Nat.reduceEqDiff, Nat.reduceAdd, Nat.reduceMul, Nat.reduceSub, Nat.reduceLeDiff, Int.reduceAdd, Int.reduceSub, Int.reduceMul, Int.reduceLT, Int.reduceLE, Int.reduceGT, Int.reduceGE, Int.reduceEq, Int.reduceBEq, Int.reduceBNe, Int.reduceNeg, Int.reduceToNat, csAll, ↓reduceIte, C52, entry_1]

theorem l75_1 {full : List Int} {rb k cap : Nat} {tl : Bool} (hk : k ≤ full.length) (hm : k ≤ 100000) (hb : H[rb]? = some ⟨Go.Cs.ints full, .rw, 1⟩) :
    LoopOk P C75_1 (fun m E H' => H' = H ∧ E 0 = .slice rb 0 k cap 1 tl ∧ E 1 = .func 52 [] ∧ E 7 = .i k ∧ ∃ i : Nat, E 8 = .i i ∧ i ≤ k ∧ m = k - i ∧ ∀ j, j < i → full.getD j 0 = 0)
      (fun x E' H' => H' = H ∧ ((x = .exit 0 ∧ ∀ j, j < k → full.getD j 0 = 0) ∨ (x = .ret ∧ ∃ j : Nat, E' 4 = .i j ∧ j < k ∧ full.getD j 0 ≠ 0))) := by
  refine loop_ind ?_
  rintro m E H' ⟨rfl, h0, h1, h7, i, h8, hi, rfl, hz⟩
  by_cases c : i < k
  · have hg : (Go.Cs.ints full)[i]? = some (.i (full.getD i 0)) := by rw [ints_get, getD_of 0 (by omega)]; rfl
    have hw : IntKind.i64.wrap ((i : Int) + 1) = ((i + 1 : Nat) : Int) := by rw [wrap_id (by omega)]; rfl
    by_cases hx : full.getD i 0 = 0
    · apply step_go (k' := k - (i + 1))
      · simp (disch := first | omega | rfl | assumption | (simp only [csN, Nat.reduceAdd, Nat.reduceMul, Nat.reduceLeDiff, Nat.reduceEqDiff] <;> omega) | (simp only [csF]; done) | (simp only [csF] <;> assumption) | fail) only [Nat.reduceEqDiff, Nat.reduceAdd, Nat.reduceMul, Nat.reduceSub, Nat.reduceLeDiff, Int.reduceAdd, Int.reduceSub, Int.reduceMul, Int.reduceLT, Int.reduceLE, Int.reduceGT, Int.reduceGE, Int.reduceEq, Int.reduceBEq, Int.reduceBNe, Int.reduceNeg, Int.reduceToNat, csAll, ↓reduceIte, C75_1, h0, h1, h7, h8, hb, hg, f52, hw]
        rfl
      · omega
      · refine ⟨rfl, by simp [upd_apply, h0], by simp [upd_apply, h1], by simp [upd_apply, h7], i + 1, by simp [upd_apply], by omega, rfl, fun j hj => ?_⟩
        by_cases e : j = i
        · subst e; exact hx
        · exact hz j (by omega)
    · apply step_out (x := .ret)
      · simp (disch := first | omega | rfl | assumption | (simp only [csN, Nat.reduceAdd, Nat.reduceMul, Nat.reduceLeDiff, Nat.reduceEqDiff] <;> omega) | (simp only [csF]; done) | (simp only [csF] <;> assumption) | fail) only [Nat.reduceEqDiff, Nat.reduceAdd, Nat.reduceMul, Nat.reduceSub, Nat.reduceLeDiff, Int.reduceAdd, Int.reduceSub, Int.reduceMul, Int.reduceLT, Int.reduceLE, Int.reduceGT, Int.reduceGE, Int.reduceEq, Int.reduceBEq, Int.reduceBNe, Int.reduceNeg, Int.reduceToNat, csAll, ↓reduceIte, C75_1, h0, h1, h7, h8, hb, hg, f52, hw]
        rfl
      · simp
      · exact ⟨rfl, .inr ⟨rfl, i, by simp [upd_apply], c, hx⟩⟩
  · apply step_out (x := .exit 0)
    · simp (disch := first | omega | rfl | assumption | (simp only [csN, Nat.reduceAdd, Nat.reduceMul, Nat.reduceLeDiff, Nat.reduceEqDiff] <;> omega) | (simp only [csF]; done) | (simp only [csF] <;> assumption) | fail) only [Nat.reduceEqDiff, Nat.reduceAdd, Nat.reduceMul, Nat.reduceSub, Nat.reduceLeDiff, Int.reduceAdd, Int.reduceSub, Int.reduceMul, Int.reduceLT, Int.reduceLE, Int.reduceGT, Int.reduceGE, Int.reduceEq, Int.reduceBEq, Int.reduceBNe, Int.reduceNeg, Int.reduceToNat, csAll, ↓reduceIte, C75_1, h7, h8]
      rfl
    · simp
    · exact ⟨rfl, .inl ⟨rfl, fun j hj => hz j (by omega)⟩⟩

/-- slices.ContainsFunc, of what is not 0. -/
theorem f51 {full : List Int} {rb k cap : Nat} {tl : Bool} (hk : k ≤ full.length) (hm : k ≤ 100000) (hb : H[rb]? = some ⟨Go.Cs.ints full, .rw, 1⟩) :
    run P 51 [.slice rb 0 k cap 1 tl, .func 52 []] H = some (.bool ((full.take k).any (· != 0)), H) := by
  have key : ∃ j : Int, run P 75 [.slice rb 0 k cap 1 tl, .func 52 []] H = some (.i j, H) ∧ (0 ≤ j ↔ (full.take k).any (· != 0) = true) := by
    rw [run_lv c75]
    simp (disch := first | omega | rfl | assumption | (simp only [csN, Nat.reduceAdd, Nat.reduceMul, Nat.reduceLeDiff, Nat.reduceEqDiff] <;> omega) | (simp only [csF]; done) | (simp only [csF] <;> assumption) | fail) only [Nat.reduceEqDiff, Nat.reduceAdd, Nat.reduceMul, Nat.reduceSub, Nat.reduceLeDiff, Int.reduceAdd, Int.reduceSub, Int.reduceMul, Int.reduceLT, Int.reduceLE, Int.reduceGT, Int.reduceGE, Int.reduceEq, Int.reduceBEq, Int.reduceBNe, Int.reduceNeg, Int.reduceToNat, csAll, ↓reduceIte, C75, entry_2]
    generalize hr : den P (.loop C75_1) _ _ = r
    obtain ⟨x, E2, H2, rfl, -, rfl, hp⟩ := (l75_1 (H := H) (tl := tl) (cap := cap) hk hm hb).at hr _
      ⟨rfl, by simp only [upd_apply, Nat.reduceEqDiff, ↓reduceIte], by simp only [upd_apply, Nat.reduceEqDiff, ↓reduceIte], by simp only [upd_apply, Nat.reduceEqDiff, ↓reduceIte], 0, by simp only [upd_apply, Nat.reduceEqDiff, ↓reduceIte]; rfl, by omega, rfl, fun j hj => by omega⟩
    rcases hp with ⟨rfl, hz⟩ | ⟨rfl, j, h4, hj, hne⟩
    · refine ⟨-1, ?_, ?_⟩
      · simp (disch := first | omega | rfl | assumption | (simp only [csN, Nat.reduceAdd, Nat.reduceMul, Nat.reduceLeDiff, Nat.reduceEqDiff] <;> omega) | (simp only [csF]; done) | (simp only [csF] <;> assumption) | fail) only [Nat.reduceEqDiff, Nat.reduceAdd, Nat.reduceMul, Nat.reduceSub, Nat.reduceLeDiff, Int.reduceAdd, Int.reduceSub, Int.reduceMul, Int.reduceLT, Int.reduceLE, Int.reduceGT, Int.reduceGE, Int.reduceEq, Int.reduceBEq, Int.reduceBNe, Int.reduceNeg, Int.reduceToNat, csAll, ↓reduceIte]
      · constructor
        · intro h; omega
        · intro h
          simp only [List.any_eq_true, bne_iff_ne, ne_eq] at h
          obtain ⟨v, hv, hne⟩ := h
          obtain ⟨j, hj, rfl⟩ := List.mem_iff_getElem.1 hv
          simp only [List.length_take] at hj
          have := hz j (by omega)
          simp [List.getD_eq_getElem?_getD, List.getElem_take] at this hne
          rw [List.getElem?_eq_getElem (by omega)] at this
          exact absurd this hne
    · refine ⟨j, ?_, ?_⟩
      · simp (disch := first | omega | rfl | assumption | (simp only [csN, Nat.reduceAdd, Nat.reduceMul, Nat.reduceLeDiff, Nat.reduceEqDiff] <;> omega) | (simp only [csF]; done) | (simp only [csF] <;> assumption) | fail) only [Nat.reduceEqDiff, Nat.reduceAdd, Nat.reduceMul, Nat.reduceSub, Nat.reduceLeDiff, Int.reduceAdd, Int.reduceSub, Int.reduceMul, Int.reduceLT, Int.reduceLE, Int.reduceGT, Int.reduceGE, Int.reduceEq, Int.reduceBEq, Int.reduceBNe, Int.reduceNeg, Int.reduceToNat, csAll, ↓reduceIte, h4]
      · constructor
        · intro _
          simp only [List.any_eq_true, bne_iff_ne, ne_eq]
          refine ⟨full.getD j 0, ?_, hne⟩
          have := getD_of (l := full) (i := j) 0 (by omega)
          have h2 : (full.take k)[j]? = some (full.getD j 0) := by rw [List.getElem?_take_of_lt hj, this]
          exact List.mem_of_getElem? h2
        · intro _; omega
  obtain ⟨j, e, hj⟩ := key
  rw [run_lv c51]
  by_cases h : 0 ≤ j
  · have := hj.1 h
    simp (disch := first | omega | rfl | assumption | (simp only [csN, Nat.reduceAdd, Nat.reduceMul, Nat.reduceLeDiff, Nat.reduceEqDiff] <;> omega) | (simp only [csF]; done) | (simp only [csF] <;> assumption) | fail) only [Nat.reduceEqDiff, Nat.reduceAdd, Nat.reduceMul, Nat.reduceSub, Nat.reduceLeDiff, Int.reduceAdd, Int.reduceSub, Int.reduceMul, Int.reduceLT, Int.reduceLE, Int.reduceGT, Int.reduceGE, Int.reduceEq, Int.reduceBEq, Int.reduceBNe, Int.reduceNeg, Int.reduceToNat, csAll, ↓reduceIte, C51, entry_2, e, this]
  · have : (full.take k).any (· != 0) = false := by
      cases hh : (full.take k).any (· != 0) with
      | false => rfl
      | true => exact absurd (hj.2 hh) h
    simp (disch := first | omega | rfl | assumption | (simp only [csN, Nat.reduceAdd, Nat.reduceMul, Nat.reduceLeDiff, Nat.reduceEqDiff] <;> omega) | (simp only [csF]; done) | (simp only [csF] <;> assumption) | fail) only [Nat.reduceEqDiff, Nat.reduceAdd, Nat.reduceMul, Nat.reduceSub, Nat.reduceLeDiff, Int.reduceAdd, Int.reduceSub, Int.reduceMul, Int.reduceLT, Int.reduceLE, Int.reduceGT, Int.reduceGE, Int.reduceEq, Int.reduceBEq, Int.reduceBNe, Int.reduceNeg, Int.reduceToNat, csAll, ↓reduceIte, C51, entry_2, e, this]
end
end Go.Cs.Try

/- Collect. -/
namespace Go.Cs
open Go
def cObj (ks : List Bool) (i : Nat) (x : Obj) : Option Obj :=
  if ks.getD (i + 1) false = true ∧ 0 < soft x.kd ∧ on ks (x.refs.getD 0 0) = false ∧ (x.refs.take (soft x.kd)).any (· != 0) = true then some { x with refs := List.replicate (soft x.kd) 0 ++ x.refs.drop (soft x.kd) } else none

def Mdl.coll (M : Mdl) (ks : List Bool) : Nat → Mdl × Int
  | 0 => (M, 0)
  | i + 1 => match cObj ks i ((M.coll ks i).1.obj (i + 1 : Nat)) with
    | some x => ((M.coll ks i).1.setObj (i + 1 : Nat) x, (M.coll ks i).2 + 1)
    | none => M.coll ks i

theorem Obj.Ok.soft {n : Nat} {x : Obj} (h : x.Ok n) : soft x.kd ≤ x.refs.length := by
  unfold Go.Cs.soft
  have h1 := h.nr
  have h2 := h.kd
  split
  · have := h2.2.2.1 (by assumption); omega
  · split
    · have := h2.2.2.2 (by assumption); omega
    · omega

theorem cObj_ok {ks : List Bool} {i n : Nat} {x y : Obj} (h : x.Ok n) (e : cObj ks i x = some y) : y.Ok n ∧ y.nr = x.nr ∧ y.nd = x.nd ∧ y.kd = x.kd ∧ y.refs.length = x.refs.length ∧ y.data = x.data := by
  unfold cObj at e
  split at e
  · simp only [Option.some.injEq] at e
    subst e
    have hs := h.soft
    have hl : (List.replicate (soft x.kd) (0 : Int) ++ x.refs.drop (soft x.kd)).length = x.refs.length := by simp; omega
    refine ⟨⟨by simpa [hl] using h.nr, h.nd, h.kd, fun v hv => ?_⟩, rfl, rfl, rfl, hl, rfl⟩
    simp only [List.mem_append, List.mem_replicate] at hv
    rcases hv with ⟨_, rfl⟩ | hv
    · omega
    · exact h.ids v (List.mem_of_mem_drop hv)
  · cases e

theorem Mdl.coll_ok {M : Mdl} (w : M.Ok) {ks : List Bool} : ∀ {i : Nat}, i ≤ M.objs.length → (M.coll ks i).1.Ok ∧ (M.coll ks i).1.objs.length = M.objs.length
  | 0, _ => ⟨w, rfl⟩
  | i + 1, hi => by
    obtain ⟨h1, h2⟩ := Mdl.coll_ok w (ks := ks) (i := i) (by omega)
    unfold Mdl.coll
    split
    · rename_i x e
      have hh : (M.coll ks i).1.has ((i + 1 : Nat) : Int) := by unfold Mdl.has; omega
      have := cObj_ok (h1.obj hh) e
      exact ⟨h1.setObj this.1, by simp [Mdl.setObj, h2]⟩
    · exact ⟨h1, h2⟩

/-- The first elements of a list. -/
theorem At.take {o : Tags} {t : Tag} {H0 : CHeap} {v : CV} {l : List Int} (a : At o t H0 v 1 l.length (ints l)) {j : Nat} (hj : j ≤ l.length) :
    ∃ v', sliceV 1 v none (some (.i j)) none = some v' ∧ (∀ H, vLen v' H = some (.i j, H)) ∧
      (0 < j → ∃ rb cap tl, v = .slice rb 0 l.length l.length 1 tl ∧ v' = .slice rb 0 j cap 1 tl ∧ o rb = some t ∧ H0[rb]? = some ⟨ints l, .rw, 1⟩) := by
  rcases a with ⟨h1, h2, rfl | ⟨b, f, rfl⟩⟩ | ⟨b, tl, rfl, h1, h2, h3⟩
  · have : j = 0 := by omega
    subst this
    refine ⟨.nilSlice, ?_, fun H => rfl, fun h => by omega⟩
    simp [sliceV, sliceBndsV, boundOV, boundV]
  · have : j = 0 := by omega
    subst this
    refine ⟨.slice b f 0 0 1 false, ?_, fun H => rfl, fun h => by omega⟩
    simp [sliceV, sliceBndsV, boundOV, boundV]
  · refine ⟨.slice b 0 j l.length 1 tl, ?_, fun H => rfl, fun _ => ⟨b, l.length, tl, rfl, rfl, h1, h2⟩⟩
    simp [sliceV, sliceBndsV, boundOV, boundV]
    rw [if_pos (by omega)]
    simp

theorem splice_clear {l : List Int} {k : Nat} (h : k ≤ l.length) : splice (ints l) 0 (List.replicate k [CV.int .i64 0]).flatten = ints (List.replicate k 0 ++ l.drop k) := by
  have : (List.replicate k [CV.int .i64 0]).flatten = ints (List.replicate k 0) := by
    induction k with
    | zero => rfl
    | succ n ih => rw [List.replicate_succ, List.replicate_succ, List.flatten_cons, ih (by omega), ints_cons]; rfl
  rw [this, ints_app]
  unfold splice
  simp [ints, List.map_drop]
end Go.Cs
namespace Go.Cs.Try
open Go Go.Cs
set_option maxRecDepth 100000
set_option maxHeartbeats 4000000
section
variable {o : Tags} {g : Nat} {b : Nat} {M : Mdl} {L : Lay} {H0 : CHeap}

theorem l29_1 (w : M.Ok) {ks : List Bool} (hks : ks.length = M.objs.length + 1) {kv : CV} {ob : Nat} {tlk : Bool} (hkv : kv = .slice ob 0 (M.objs.length + 1) (M.objs.length + 1) 1 tlk) (fo : o ob = none) (hH : ∀ c t, o c = some t → c < H0.length) :
    LoopOk P C29_1 (fun k E H => E 3 = kv ∧ E 18 = L.ov ∧ E 19 = .i M.objs.length ∧ ∃ i : Nat, E 20 = .i i ∧ i ≤ M.objs.length ∧ k = M.objs.length - i ∧ E 4 = .i (M.coll ks i).2 ∧ 0 ≤ (M.coll ks i).2 ∧ (M.coll ks i).2 ≤ i ∧ MRep o g H b (M.coll ks i).1 L ∧ Frm g o H0 o H ∧ H[ob]? = some ⟨bools ks, .rw, 1⟩)
      (fun x E' H' => x = .exit 0 ∧ E' 4 = .i (M.coll ks M.objs.length).2 ∧ MRep o g H' b (M.coll ks M.objs.length).1 L ∧ Frm g o H0 o H') := by
  refine loop_ind ?_
  rintro k E H ⟨h3, h18, h19, i, h20, hi, rfl, h4, hc0, hc1, m, fr, hob⟩
  have hfew := w.few
  obtain ⟨wi, hli⟩ := Mdl.coll_ok w (ks := ks) hi
  by_cases c : i < M.objs.length
  · have hhas : (M.coll ks i).1.has ((i + 1 : Nat) : Int) := by unfold Mdl.has; omega
    obtain ⟨hh, rest, g0, g1, g2, g3, g4, g5, g6⟩ := m.objAt _ hhas
    have hio : (((i + 1 : Nat) : Int) - 1).toNat = i := by omega
    have g0' := g0
    have g5' := g5
    have g6' := g6
    rw [hio] at g0 g2 g3 g5 g6
    obtain ⟨tl, d1, -, -, -⟩ := m.objs.pos (by omega)
    have hov := h18
    rw [d1, hli] at hov
    have hobj := wi.obj hhas
    have hbo := lt_of_get hob
    have hg1 := lt_of_get g1
    have hsoft := hobj.soft
    have hw : IntKind.i64.wrap ((i : Int) + 1) = ((i + 1 : Nat) : Int) := by rw [wrap_id (by omega)]; rfl
    have hon : (bools ks)[i + 1]? = some (.bool (ks.getD (i + 1) false)) := by rw [bools_get, getD_of false (by omega)]; rfl
    have hcoll : M.coll ks (i + 1) = match cObj ks i ((M.coll ks i).1.obj (i + 1 : Nat)) with
      | some x => ((M.coll ks i).1.setObj (i + 1 : Nat) x, (M.coll ks i).2 + 1)
      | none => M.coll ks i := rfl
    obtain ⟨sv, s1, s2, s3⟩ := g5.take hsoft
    generalize hx : (M.coll ks i).1.obj ((i + 1 : Nat) : Int) = xx at *
    generalize hcn : (M.coll ks i).2 = cn at *
    have hall : ([.i xx.nr, .i xx.nd, .i xx.kd, hh.1, hh.2] : List CV).all leaf = true := by
      simp only [List.all_cons, List.all_nil, g5.leaf, g6.leaf, leaf_int, Bool.and_true]
    have m2 := (m.app [⟨[.i xx.nr, .i xx.nd, .i xx.kd, hh.1, hh.2], .rw, 0⟩]).app [⟨[.i xx.nr, .i xx.nd, .i xx.kd], .rw, 0⟩]
    -- nothing is cleared
    have stay : cObj ks i xx = none → (∃ E2, den P C29_1 E H = some (.normal, E2, H ++ [⟨[.i xx.nr, .i xx.nd, .i xx.kd, hh.1, hh.2], .rw, 0⟩] ++ [⟨[.i xx.nr, .i xx.nd, .i xx.kd], .rw, 0⟩]) ∧ E2 3 = E 3 ∧ E2 18 = E 18 ∧ E2 19 = E 19 ∧ E2 4 = E 4 ∧ E2 20 = .i ((i + 1 : Nat) : Int)) →
        ∃ x E' H', den P C29_1 E H = some (x, E', H') ∧ ((x = .normal ∧ ∃ k', k' < M.objs.length - i ∧ E' 3 = kv ∧ E' 18 = L.ov ∧ E' 19 = .i M.objs.length ∧ ∃ i : Nat, E' 20 = .i i ∧ i ≤ M.objs.length ∧ k' = M.objs.length - i ∧ E' 4 = .i (M.coll ks i).2 ∧ 0 ≤ (M.coll ks i).2 ∧ (M.coll ks i).2 ≤ i ∧ MRep o g H' b (M.coll ks i).1 L ∧ Frm g o H0 o H' ∧ H'[ob]? = some ⟨bools ks, .rw, 1⟩) ∨
          (x ≠ .normal ∧ x = .exit 0 ∧ E' 4 = .i (M.coll ks M.objs.length).2 ∧ MRep o g H' b (M.coll ks M.objs.length).1 L ∧ Frm g o H0 o H')) := by
      rintro hn ⟨E2, e, q3, q18, q19, q4, q20⟩
      have hcc : M.coll ks (i + 1) = M.coll ks i := by rw [hcoll, hn]
      refine ⟨_, E2, _, e, .inl ⟨rfl, M.objs.length - (i + 1), by omega, q3.trans h3, q18.trans h18, q19.trans h19, i + 1, q20, by omega, rfl, ?_, ?_, ?_, ?_, ?_, ?_⟩⟩
      · rw [hcc, hcn]; exact q4.trans h4
      · rw [hcc, hcn]; exact hc0
      · rw [hcc, hcn]; omega
      · rw [hcc]; exact m2
      · exact fr.trans (.grow m.dom (by simp) (fun c hc => by simp (disch := first | omega | rfl | assumption | (simp only [csN, Nat.reduceAdd, Nat.reduceMul, Nat.reduceLeDiff, Nat.reduceEqDiff] <;> omega) | (simp only [csF]; done) | (simp only [csF] <;> assumption) | fail) only [Nat.reduceEqDiff, Nat.reduceAdd, Nat.reduceMul, Nat.reduceSub, Nat.reduceLeDiff, Int.reduceAdd, Int.reduceSub, Int.reduceMul, Int.reduceLT, Int.reduceLE, Int.reduceGT, Int.reduceGE, Int.reduceEq, Int.reduceBEq, Int.reduceBNe, Int.reduceNeg, Int.reduceToNat, csAll, ↓reduceIte]))
      · simp (disch := first | omega | rfl | assumption | (simp only [csN, Nat.reduceAdd, Nat.reduceMul, Nat.reduceLeDiff, Nat.reduceEqDiff] <;> omega) | (simp only [csF]; done) | (simp only [csF] <;> assumption) | fail) only [Nat.reduceEqDiff, Nat.reduceAdd, Nat.reduceMul, Nat.reduceSub, Nat.reduceLeDiff, Int.reduceAdd, Int.reduceSub, Int.reduceMul, Int.reduceLT, Int.reduceLE, Int.reduceGT, Int.reduceGE, Int.reduceEq, Int.reduceBEq, Int.reduceBNe, Int.reduceNeg, Int.reduceToNat, csAll, ↓reduceIte, hob]
    have fin : ∀ E2 : Env, True := fun _ => trivial
    cases hk1 : ks.getD (i + 1) false with
    | false =>
      rw [hk1] at hon
      refine stay (by unfold cObj; rw [if_neg (fun h => by rw [hk1] at h; cases h.1)]) ?_
      apply ex_env
      · simp (disch := first | omega | rfl | assumption | (simp only [csN, Nat.reduceAdd, Nat.reduceMul, Nat.reduceLeDiff, Nat.reduceEqDiff] <;> omega) | (simp only [csF]; done) | (simp only [csF] <;> assumption) | fail) only [Nat.reduceEqDiff, Nat.reduceAdd, Nat.reduceMul, Nat.reduceSub, Nat.reduceLeDiff, Int.reduceAdd, Int.reduceSub, Int.reduceMul, Int.reduceLT, Int.reduceLE, Int.reduceGT, Int.reduceGE, Int.reduceEq, Int.reduceBEq, Int.reduceBNe, Int.reduceNeg, Int.reduceToNat, csAll, ↓reduceIte, C29_1, h3, hkv, hov, h19, h20, g1, g2, g3, f50, s1, hob, hon, hw]
        rfl
      · simp [upd_apply]
    | true =>
      rw [hk1] at hon
      by_cases hk0 : soft xx.kd = 0
      · rw [hk0] at s2
        have hz : ((0 : Nat) : Int) = 0 := rfl
        refine stay (by unfold cObj; rw [if_neg (fun h => by rw [hk0] at h; omega)]) ?_
        apply ex_env
        · simp (disch := first | omega | rfl | assumption | (simp only [csN, Nat.reduceAdd, Nat.reduceMul, Nat.reduceLeDiff, Nat.reduceEqDiff] <;> omega) | (simp only [csF]; done) | (simp only [csF] <;> assumption) | fail) only [Nat.reduceEqDiff, Nat.reduceAdd, Nat.reduceMul, Nat.reduceSub, Nat.reduceLeDiff, Int.reduceAdd, Int.reduceSub, Int.reduceMul, Int.reduceLT, Int.reduceLE, Int.reduceGT, Int.reduceGE, Int.reduceEq, Int.reduceBEq, Int.reduceBNe, Int.reduceNeg, Int.reduceToNat, csAll, ↓reduceIte, C29_1, h3, hkv, hov, h19, h20, g1, g2, g3, f50, s1, hob, hon, hw, s2, hz]
          rfl
        · simp [upd_apply]
      · obtain ⟨rb, cap, tl6, p0, p1, p2, p3⟩ := s3 (by omega)
        have hrl := lt_of_get p3
        have hnr := hobj.nr
        have r0 : (Go.Cs.ints xx.refs)[0]? = some (.i (xx.refs.getD 0 0)) := by rw [ints_get, getD_of 0 (by omega)]; rfl
        have i0 := hobj.ids _ (List.mem_of_getElem? (getD_of (l := xx.refs) (i := 0) 0 (by omega)))
        have hon0 := on_get (ks := ks) (v := xx.refs.getD 0 0) (by omega)
        subst p1
        cases hk2 : on ks (xx.refs.getD 0 0) with
        | true =>
          rw [hk2] at hon0
          refine stay (by unfold cObj; rw [if_neg (fun h => by rw [hk2] at h; cases h.2.2.1)]) ?_
          apply ex_env
          · simp (disch := first | omega | rfl | assumption | (simp only [csN, Nat.reduceAdd, Nat.reduceMul, Nat.reduceLeDiff, Nat.reduceEqDiff] <;> omega) | (simp only [csF]; done) | (simp only [csF] <;> assumption) | fail) only [Nat.reduceEqDiff, Nat.reduceAdd, Nat.reduceMul, Nat.reduceSub, Nat.reduceLeDiff, Int.reduceAdd, Int.reduceSub, Int.reduceMul, Int.reduceLT, Int.reduceLE, Int.reduceGT, Int.reduceGE, Int.reduceEq, Int.reduceBEq, Int.reduceBNe, Int.reduceNeg, Int.reduceToNat, csAll, ↓reduceIte, C29_1, h3, hkv, hov, h19, h20, g1, g2, g3, f50, s1, hob, hon, hw, p3, r0, hon0]
            rfl
          · simp [upd_apply]
        | false =>
          rw [hk2] at hon0
          have c51 := f51 (H := H ++ [⟨[.i xx.nr, .i xx.nd, .i xx.kd, hh.1, hh.2], .rw, 0⟩] ++ [⟨[.i xx.nr, .i xx.nd, .i xx.kd], .rw, 0⟩]) (full := xx.refs) (rb := rb) (k := soft xx.kd) (cap := cap) (tl := tl6) hsoft (by omega) (by simp (disch := first | omega | rfl | assumption | (simp only [csN, Nat.reduceAdd, Nat.reduceMul, Nat.reduceLeDiff, Nat.reduceEqDiff] <;> omega) | (simp only [csF]; done) | (simp only [csF] <;> assumption) | fail) only [Nat.reduceEqDiff, Nat.reduceAdd, Nat.reduceMul, Nat.reduceSub, Nat.reduceLeDiff, Int.reduceAdd, Int.reduceSub, Int.reduceMul, Int.reduceLT, Int.reduceLE, Int.reduceGT, Int.reduceGE, Int.reduceEq, Int.reduceBEq, Int.reduceBNe, Int.reduceNeg, Int.reduceToNat, csAll, ↓reduceIte, p3])
          cases hk3 : (xx.refs.take (soft xx.kd)).any (· != 0) with
          | false =>
            rw [hk3] at c51
            refine stay (by unfold cObj; rw [if_neg (fun h => by rw [hk3] at h; cases h.2.2.2)]) ?_
            apply ex_env
            · simp (disch := first | omega | rfl | assumption | (simp only [csN, Nat.reduceAdd, Nat.reduceMul, Nat.reduceLeDiff, Nat.reduceEqDiff] <;> omega) | (simp only [csF]; done) | (simp only [csF] <;> assumption) | fail) only [Nat.reduceEqDiff, Nat.reduceAdd, Nat.reduceMul, Nat.reduceSub, Nat.reduceLeDiff, Int.reduceAdd, Int.reduceSub, Int.reduceMul, Int.reduceLT, Int.reduceLE, Int.reduceGT, Int.reduceGE, Int.reduceEq, Int.reduceBEq, Int.reduceBNe, Int.reduceNeg, Int.reduceToNat, csAll, ↓reduceIte, C29_1, h3, hkv, hov, h19, h20, g1, g2, g3, f50, s1, hob, hon, hw, p3, r0, hon0, c51]
              rfl
            · simp [upd_apply]
          | true =>
            rw [hk3] at c51
            have hc : cObj ks i xx = some { xx with refs := List.replicate (soft xx.kd) 0 ++ xx.refs.drop (soft xx.kd) } := by unfold cObj; rw [if_pos ⟨hk1, by omega, hk2, hk3⟩]
            have hcc : M.coll ks (i + 1) = ((M.coll ks i).1.setObj (i + 1 : Nat) { xx with refs := List.replicate (soft xx.kd) 0 ++ xx.refs.drop (soft xx.kd) }, cn + 1) := by rw [hcoll, hc]
            have hlr : (List.replicate (soft xx.kd) (0 : Int) ++ xx.refs.drop (soft xx.kd)).length = xx.refs.length := by simp; omega
            have hw2 : IntKind.i64.wrap (cn + 1) = cn + 1 := wrap_id (by omega)
            have hsp := splice_clear (l := xx.refs) (k := soft xx.kd) hsoft
            have hln : (List.replicate (soft xx.kd) [CV.int .i64 0]).flatten.length = soft xx.kd := by simp
            have hlf : (List.replicate (soft xx.kd) [CV.int .i64 0]).flatten.all leaf = true := by
              simp only [List.all_eq_true, List.mem_flatten, List.mem_replicate]
              rintro v ⟨l, ⟨_, rfl⟩, hv⟩
              simp only [List.mem_singleton] at hv
              subst hv; rfl
            have hil : (Go.Cs.ints xx.refs).length = xx.refs.length := ints_len _
            obtain ⟨m3, fr3⟩ := m.objOf (Hf := H.set rb ⟨Go.Cs.ints (List.replicate (soft xx.kd) 0 ++ xx.refs.drop (soft xx.kd)), .rw, 1⟩ ++ [⟨[.i xx.nr, .i xx.nd, .i xx.kd, hh.1, hh.2], .rw, 0⟩] ++ [⟨[.i xx.nr, .i xx.nd, .i xx.kd], .rw, 0⟩]) hhas g0' (x' := { xx with refs := List.replicate (soft xx.kd) 0 ++ xx.refs.drop (soft xx.kd) })
              (by rw [hx]; exact ⟨rfl, rfl, rfl, hlr, rfl⟩) (c0 := rb) (.inl rfl) (by rw [hio]; exact p2) (by simp) (fun d hd hd' => by simp (disch := first | omega | rfl | assumption | (simp only [csN, Nat.reduceAdd, Nat.reduceMul, Nat.reduceLeDiff, Nat.reduceEqDiff] <;> omega) | (simp only [csF]; done) | (simp only [csF] <;> assumption) | fail) only [Nat.reduceEqDiff, Nat.reduceAdd, Nat.reduceMul, Nat.reduceSub, Nat.reduceLeDiff, Int.reduceAdd, Int.reduceSub, Int.reduceMul, Int.reduceLT, Int.reduceLE, Int.reduceGT, Int.reduceGE, Int.reduceEq, Int.reduceBEq, Int.reduceBNe, Int.reduceNeg, Int.reduceToNat, csAll, ↓reduceIte])
              ⟨by rw [hx, hio]; exact .inr ⟨rb, tl6, p0, p2, by simp (disch := first | omega | rfl | assumption | (simp only [csN, Nat.reduceAdd, Nat.reduceMul, Nat.reduceLeDiff, Nat.reduceEqDiff] <;> omega) | (simp only [csF]; done) | (simp only [csF] <;> assumption) | fail) only [Nat.reduceEqDiff, Nat.reduceAdd, Nat.reduceMul, Nat.reduceSub, Nat.reduceLeDiff, Int.reduceAdd, Int.reduceSub, Int.reduceMul, Int.reduceLT, Int.reduceLE, Int.reduceGT, Int.reduceGE, Int.reduceEq, Int.reduceBEq, Int.reduceBNe, Int.reduceNeg, Int.reduceToNat, csAll, ↓reduceIte], by rw [ints_len, hlr, Nat.mul_one]⟩, by
                rw [hx, hio]
                exact g6.grow (fun c hc ht => by
                  have : c ≠ rb := by rintro rfl; rw [p2] at ht; simp at ht
                  simp (disch := first | omega | rfl | assumption | (simp only [csN, Nat.reduceAdd, Nat.reduceMul, Nat.reduceLeDiff, Nat.reduceEqDiff] <;> omega) | (simp only [csF]; done) | (simp only [csF] <;> assumption) | fail) only [Nat.reduceEqDiff, Nat.reduceAdd, Nat.reduceMul, Nat.reduceSub, Nat.reduceLeDiff, Int.reduceAdd, Int.reduceSub, Int.reduceMul, Int.reduceLT, Int.reduceLE, Int.reduceGT, Int.reduceGE, Int.reduceEq, Int.reduceBEq, Int.reduceBNe, Int.reduceNeg, Int.reduceToNat, csAll, ↓reduceIte])⟩
            have hor : ob ≠ rb := by rintro rfl; rw [fo] at p2; cases p2
            apply step_go (k' := M.objs.length - (i + 1))
            · simp (disch := first | omega | rfl | assumption | (simp only [csN, Nat.reduceAdd, Nat.reduceMul, Nat.reduceLeDiff, Nat.reduceEqDiff] <;> omega) | (simp only [csF]; done) | (simp only [csF] <;> assumption) | fail) only [Nat.reduceEqDiff, Nat.reduceAdd, Nat.reduceMul, Nat.reduceSub, Nat.reduceLeDiff, Int.reduceAdd, Int.reduceSub, Int.reduceMul, Int.reduceLT, Int.reduceLE, Int.reduceGT, Int.reduceGE, Int.reduceEq, Int.reduceBEq, Int.reduceBNe, Int.reduceNeg, Int.reduceToNat, csAll, ↓reduceIte, C29_1, h3, hkv, hov, h19, h20, g1, g2, g3, f50, s1, hob, hon, hw, p3, r0, hon0, c51, h4, hw2, hsp, hln, hil]
              rfl
            · omega
            · refine ⟨by simp [upd_apply, h3], by simp [upd_apply, h18], by simp [upd_apply, h19], i + 1, by simp [upd_apply], by omega, rfl, ?_, ?_, ?_, ?_, ?_, ?_⟩
              · rw [hcc]; simp [upd_apply]
              · rw [hcc]; show 0 ≤ cn + 1; omega
              · rw [hcc]; show cn + 1 ≤ ((i + 1 : Nat) : Int); omega
              · rw [hcc]; exact m3
              · exact fr.trans fr3
              · simp (disch := first | omega | rfl | assumption | (simp only [csN, Nat.reduceAdd, Nat.reduceMul, Nat.reduceLeDiff, Nat.reduceEqDiff] <;> omega) | (simp only [csF]; done) | (simp only [csF] <;> assumption) | fail) only [Nat.reduceEqDiff, Nat.reduceAdd, Nat.reduceMul, Nat.reduceSub, Nat.reduceLeDiff, Int.reduceAdd, Int.reduceSub, Int.reduceMul, Int.reduceLT, Int.reduceLE, Int.reduceGT, Int.reduceGE, Int.reduceEq, Int.reduceBEq, Int.reduceBNe, Int.reduceNeg, Int.reduceToNat, csAll, ↓reduceIte, hob]
  · apply step_out (x := .exit 0)
    · simp (disch := first | omega | rfl | assumption | (simp only [csN, Nat.reduceAdd, Nat.reduceMul, Nat.reduceLeDiff, Nat.reduceEqDiff] <;> omega) | (simp only [csF]; done) | (simp only [csF] <;> assumption) | fail) only [Nat.reduceEqDiff, Nat.reduceAdd, Nat.reduceMul, Nat.reduceSub, Nat.reduceLeDiff, Int.reduceAdd, Int.reduceSub, Int.reduceMul, Int.reduceLT, Int.reduceLE, Int.reduceGT, Int.reduceGE, Int.reduceEq, Int.reduceBEq, Int.reduceBNe, Int.reduceNeg, Int.reduceToNat, csAll, ↓reduceIte, C29_1, h19, h20]
      rfl
    · simp
    · have : i = M.objs.length := by omega
      subst this
      exact ⟨rfl, by simp [upd_apply, h4], m, fr⟩
end
end Go.Cs.Try

/- Collect; do; made. -/
namespace Go.Cs
open Go
noncomputable def Mdl.collect (M : Mdl) : Mdl × Int := M.coll M.keptL M.objs.length

structure Stp where
  k : Int
  mu : Int
  act : Act
  a : Int
  b : Int
  c : Int
def stpCells (x : Stp) : List CV := [.i x.k, .i x.mu, .i x.act.k, .i x.act.a, .i x.act.b, .i x.act.i, .i x.act.n, .i x.act.nr, .i x.act.nd, .i x.act.sk, .i x.a, .i x.b, .i x.c]

/-- What a call does, and its error. -/
noncomputable def Mdl.step (M : Mdl) (x : Stp) : Mdl × Int :=
  if x.k = 0 then ((M.doAct x.mu x.act).1, (M.doAct x.mu x.act).2.2)
  else if x.k = 1 then (M.collect.1, 0)
  else if x.k = 2 then M.push x.a
  else if x.k = 3 then (M.pop.1, M.pop.2.2)
  else if x.k = 4 then M.setRef x.a x.b x.c
  else (M, 0)
end Go.Cs
namespace Go.Cs.Try
open Go Go.Cs
set_option maxRecDepth 100000
section
variable {o : Tags} {g : Nat} {b : Nat} {M : Mdl} {L : Lay} {H : CHeap}

theorem f30 {b f n c z : Nat} {t : Bool} : run P 30 [.slice b f n c z t] H = some (.bool (decide (120 < (n : Int))), H) := by
  rw [run_lv c30]
  simp (disch := first | omega | rfl | assumption | (simp only [csN, Nat.reduceAdd, Nat.reduceMul, Nat.reduceLeDiff, Nat.reduceEqDiff] <;> omega) | (simp only [csF]; done) | (simp only [csF] <;> assumption) | fail) only [Nat.reduceEqDiff, Nat.reduceAdd, Nat.reduceMul, Nat.reduceSub, Nat.reduceLeDiff, Int.reduceAdd, Int.reduceSub, Int.reduceMul, Int.reduceLT, Int.reduceLE, Int.reduceGT, Int.reduceGE, Int.reduceEq, Int.reduceBEq, Int.reduceBNe, Int.reduceNeg, Int.reduceToNat, csAll, ↓reduceIte, C30, entry_1]
theorem f30_nil : run P 30 [.nilSlice] H = some (.bool false, H) := by
  rw [run_lv c30]
  simp (disch := first | omega | rfl | assumption | (simp only [csN, Nat.reduceAdd, Nat.reduceMul, Nat.reduceLeDiff, Nat.reduceEqDiff] <;> omega) | (simp only [csF]; done) | (simp only [csF] <;> assumption) | fail) only [Nat.reduceEqDiff, Nat.reduceAdd, Nat.reduceMul, Nat.reduceSub, Nat.reduceLeDiff, Int.reduceAdd, Int.reduceSub, Int.reduceMul, Int.reduceLT, Int.reduceLE, Int.reduceGT, Int.reduceGE, Int.reduceEq, Int.reduceBEq, Int.reduceBNe, Int.reduceNeg, Int.reduceToNat, csAll, ↓reduceIte, C30, entry_1]

theorem keptL_0 (w : M.Ok) : M.keptL.set 0 false = M.keptL := by
  apply List.ext_getElem?
  intro i
  cases i with
  | zero =>
    have h : M.keptL[0]? = some false := by
      unfold Mdl.keptL
      rw [List.getElem?_map, List.getElem?_range (by omega), Option.map_some]
      congr 1
      exact decide_eq_false (fun h => by have := Kp.has w h; unfold Mdl.has at this; omega)
    rw [h, List.getElem?_set_self (by rw [keptL_len]; omega)]
  | succ i => rw [List.getElem?_set_ne (by omega)]

/-- Collect. -/
theorem f29 (m : MRep o g H b M L) (w : M.Ok) : Does o g H b M.collect.1 (.i M.collect.2) (run P 29 [.ptr b 0] H) := by
  obtain ⟨kv, H1, e1, e2, e3, e4⟩ := f42 m w
  have h41 := f41 m w
  obtain ⟨tl, d1, d2, d3, d4⟩ := e4.pos (by omega)
  have hfew := w.few
  have hkl := keptL_len M
  have fr1 : Frm g o H o H1 := .grow m.dom e2 e3
  have m1 : MRep o g H1 b M L := m.frame (fun c t h => Nat.lt_of_lt_of_le (m.dom c t h) e2) (fun _ _ h => h) (fun c k h => e3 c (m.dom c _ h))
  have hc := m1.cells
  have hol := m1.objs.len
  have hob := (Loc_some.1 d2).1
  have fo : o (blkOf kv) = none := by
    cases h : o (blkOf kv) with
    | none => rfl
    | some t => have := m.dom _ t h; omega
  have hobl := lt_of_get d3
  have hk0 : (bools M.keptL).set 0 (.bool false) = bools M.keptL := by rw [← bools_set, keptL_0 w]
  have hset : H1.set (blkOf kv) ⟨bools M.keptL, .rw, 1⟩ = H1 := by
    apply List.ext_getElem?
    intro i
    by_cases h : i = blkOf kv
    · subst h; rw [List.getElem?_set_self hobl, d3]
    · rw [List.getElem?_set_ne (Ne.symm h)]
  have hbl := bools_len M.keptL
  have key : ∃ v H', run P 29 [.ptr b 0] H = some (v, H') ∧ v = .i M.collect.2 ∧ MRep o g H' b M.collect.1 L ∧ Frm g o H1 o H' := by
    rw [run_lv c29]
    rw [d1] at e1
    simp (disch := first | omega | rfl | assumption | (simp only [csN, Nat.reduceAdd, Nat.reduceMul, Nat.reduceLeDiff, Nat.reduceEqDiff] <;> omega) | (simp only [csF]; done) | (simp only [csF] <;> assumption) | fail) only [Nat.reduceEqDiff, Nat.reduceAdd, Nat.reduceMul, Nat.reduceSub, Nat.reduceLeDiff, Int.reduceAdd, Int.reduceSub, Int.reduceMul, Int.reduceLT, Int.reduceLE, Int.reduceGT, Int.reduceGE, Int.reduceEq, Int.reduceBEq, Int.reduceBNe, Int.reduceNeg, Int.reduceToNat, csAll, ↓reduceIte, C29, entry_1, h41, e1, d3, hbl, hkl, hk0, hset, hc, hol]
    generalize hr : den P (.loop C29_1) _ _ = r
    obtain ⟨x, E2, H2, rfl, -, rfl, q4, m2, fr2⟩ := (l29_1 (o := o) (g := g) (b := b) (L := L) (H0 := H1) w hkl (kv := kv) (ob := blkOf kv) (tlk := tl) d1 fo m1.dom).at hr _
      ⟨by simp only [upd_apply, Nat.reduceEqDiff, ↓reduceIte]; exact d1.symm, by simp only [upd_apply, Nat.reduceEqDiff, ↓reduceIte], by simp only [upd_apply, Nat.reduceEqDiff, ↓reduceIte], 0, by simp only [upd_apply, Nat.reduceEqDiff, ↓reduceIte]; rfl, by omega, rfl, by simp only [upd_apply, Nat.reduceEqDiff, ↓reduceIte]; rfl, Int.le_refl _, Int.le_refl _, m1, .refl m1.dom, d3⟩
    refine ⟨_, H2, ?_, rfl, m2, fr2⟩
    simp (disch := first | omega | rfl | assumption | (simp only [csN, Nat.reduceAdd, Nat.reduceMul, Nat.reduceLeDiff, Nat.reduceEqDiff] <;> omega) | (simp only [csF]; done) | (simp only [csF] <;> assumption) | fail) only [Nat.reduceEqDiff, Nat.reduceAdd, Nat.reduceMul, Nat.reduceSub, Nat.reduceLeDiff, Int.reduceAdd, Int.reduceSub, Int.reduceMul, Int.reduceLT, Int.reduceLE, Int.reduceGT, Int.reduceGE, Int.reduceEq, Int.reduceBEq, Int.reduceBNe, Int.reduceNeg, Int.reduceToNat, csAll, ↓reduceIte, q4]
    rfl
  obtain ⟨v, H', k1, rfl, k2, k3⟩ := key
  exact ⟨H', o, L, k1, k2, fr1.trans k3⟩

/-- do. -/
theorem f21 (m : MRep o g H b M L) (w : M.Ok) (hf : M.objs.length < 100000) (x : Stp) : Does o g H b (M.step x).1 (.i (M.step x).2) (run P 21 [.ptr b 0, .agg (stpCells x)] H) := by
  have mm := m.app [⟨stpCells x, .rw, 0⟩]
  have fr : Frm g o H o (H ++ [⟨stpCells x, .rw, 0⟩]) := .grow m.dom (by simp) (fun c hc => List.getElem?_append_left hc)
  unfold Mdl.step
  unfold stpCells at *
  by_cases k0 : x.k = 0
  · rw [if_pos k0]
    obtain ⟨H', o', L', tv, e, m', fr', -⟩ := f40 (mu := x.mu) (x := x.act) mm w hf
    refine ⟨H', o', L', ?_, m', fr.trans fr'⟩
    unfold effOf at e
    rw [run_lv c21]
    simp (disch := first | omega | rfl | assumption | (simp only [csN, Nat.reduceAdd, Nat.reduceMul, Nat.reduceLeDiff, Nat.reduceEqDiff] <;> omega) | (simp only [csF]; done) | (simp only [csF] <;> assumption) | fail) only [Nat.reduceEqDiff, Nat.reduceAdd, Nat.reduceMul, Nat.reduceSub, Nat.reduceLeDiff, Int.reduceAdd, Int.reduceSub, Int.reduceMul, Int.reduceLT, Int.reduceLE, Int.reduceGT, Int.reduceGE, Int.reduceEq, Int.reduceBEq, Int.reduceBNe, Int.reduceNeg, Int.reduceToNat, csAll, ↓reduceIte, C21, entry_2, e]
  rw [if_neg k0]
  by_cases k1 : x.k = 1
  · rw [if_pos k1]
    obtain ⟨H', o', L', e, m', fr'⟩ := f29 mm w
    refine ⟨H', o', L', ?_, m', fr.trans fr'⟩
    rw [run_lv c21]
    simp (disch := first | omega | rfl | assumption | (simp only [csN, Nat.reduceAdd, Nat.reduceMul, Nat.reduceLeDiff, Nat.reduceEqDiff] <;> omega) | (simp only [csF]; done) | (simp only [csF] <;> assumption) | fail) only [Nat.reduceEqDiff, Nat.reduceAdd, Nat.reduceMul, Nat.reduceSub, Nat.reduceLeDiff, Int.reduceAdd, Int.reduceSub, Int.reduceMul, Int.reduceLT, Int.reduceLE, Int.reduceGT, Int.reduceGE, Int.reduceEq, Int.reduceBEq, Int.reduceBNe, Int.reduceNeg, Int.reduceToNat, csAll, ↓reduceIte, C21, entry_2, e]
  rw [if_neg k1]
  by_cases k2 : x.k = 2
  · rw [if_pos k2]
    obtain ⟨H', o', L', e, m', fr'⟩ := f18 mm w x.a
    refine ⟨H', o', L', ?_, m', fr.trans fr'⟩
    rw [run_lv c21]
    simp (disch := first | omega | rfl | assumption | (simp only [csN, Nat.reduceAdd, Nat.reduceMul, Nat.reduceLeDiff, Nat.reduceEqDiff] <;> omega) | (simp only [csF]; done) | (simp only [csF] <;> assumption) | fail) only [Nat.reduceEqDiff, Nat.reduceAdd, Nat.reduceMul, Nat.reduceSub, Nat.reduceLeDiff, Int.reduceAdd, Int.reduceSub, Int.reduceMul, Int.reduceLT, Int.reduceLE, Int.reduceGT, Int.reduceGE, Int.reduceEq, Int.reduceBEq, Int.reduceBNe, Int.reduceNeg, Int.reduceToNat, csAll, ↓reduceIte, C21, entry_2, e]
  rw [if_neg k2]
  by_cases k3 : x.k = 3
  · rw [if_pos k3]
    obtain ⟨H', o', L', e, m', fr'⟩ := f46 mm w
    refine ⟨H', o', L', ?_, m', fr.trans fr'⟩
    unfold pair2 at e
    rw [run_lv c21]
    simp (disch := first | omega | rfl | assumption | (simp only [csN, Nat.reduceAdd, Nat.reduceMul, Nat.reduceLeDiff, Nat.reduceEqDiff] <;> omega) | (simp only [csF]; done) | (simp only [csF] <;> assumption) | fail) only [Nat.reduceEqDiff, Nat.reduceAdd, Nat.reduceMul, Nat.reduceSub, Nat.reduceLeDiff, Int.reduceAdd, Int.reduceSub, Int.reduceMul, Int.reduceLT, Int.reduceLE, Int.reduceGT, Int.reduceGE, Int.reduceEq, Int.reduceBEq, Int.reduceBNe, Int.reduceNeg, Int.reduceToNat, csAll, ↓reduceIte, C21, entry_2, e]
  rw [if_neg k3]
  by_cases k4 : x.k = 4
  · rw [if_pos k4]
    obtain ⟨H', o', L', e, m', fr'⟩ := f17 mm w x.a x.b x.c
    refine ⟨H', o', L', ?_, m', fr.trans fr'⟩
    rw [run_lv c21]
    simp (disch := first | omega | rfl | assumption | (simp only [csN, Nat.reduceAdd, Nat.reduceMul, Nat.reduceLeDiff, Nat.reduceEqDiff] <;> omega) | (simp only [csF]; done) | (simp only [csF] <;> assumption) | fail) only [Nat.reduceEqDiff, Nat.reduceAdd, Nat.reduceMul, Nat.reduceSub, Nat.reduceLeDiff, Int.reduceAdd, Int.reduceSub, Int.reduceMul, Int.reduceLT, Int.reduceLE, Int.reduceGT, Int.reduceGE, Int.reduceEq, Int.reduceBEq, Int.reduceBNe, Int.reduceNeg, Int.reduceToNat, csAll, ↓reduceIte, C21, entry_2, e]
  rw [if_neg k4]
  refine ⟨_, o, L, ?_, mm, fr⟩
  rw [run_lv c21]
  simp (disch := first | omega | rfl | assumption | (simp only [csN, Nat.reduceAdd, Nat.reduceMul, Nat.reduceLeDiff, Nat.reduceEqDiff] <;> omega) | (simp only [csF]; done) | (simp only [csF] <;> assumption) | fail) only [Nat.reduceEqDiff, Nat.reduceAdd, Nat.reduceMul, Nat.reduceSub, Nat.reduceLeDiff, Int.reduceAdd, Int.reduceSub, Int.reduceMul, Int.reduceLT, Int.reduceLE, Int.reduceGT, Int.reduceGE, Int.reduceEq, Int.reduceBEq, Int.reduceBNe, Int.reduceNeg, Int.reduceToNat, csAll, ↓reduceIte, C21, entry_2]
end
end Go.Cs.Try

/- Calls keep a model in order. -/
namespace Go.Cs
open Go

theorem getD_mem {l : List Int} {i : Nat} {P : Int → Prop} (h : ∀ v ∈ l, P v) (h0 : P 0) : P (l.getD i 0) := by
  by_cases hi : i < l.length
  · exact h _ (List.mem_of_getElem? (getD_of 0 hi))
  · rw [List.getD_eq_getElem?_getD, List.getElem?_eq_none (by omega)]; exact h0

theorem Mdl.Ok.slotIds {M : Mdl} (w : M.Ok) {mu : Nat} {s : List Int} (hs : M.slots[mu]? = some s) (i : Nat) : 0 ≤ s.getD i 0 ∧ s.getD i 0 ≤ (M.objs.length : Int) :=
  getD_mem (P := fun v => 0 ≤ v ∧ v ≤ (M.objs.length : Int)) (w.s16 s (List.mem_of_getElem? hs)).2 ⟨by omega, by omega⟩

theorem Mdl.Ok.setSlot {M : Mdl} (w : M.Ok) {mu : Nat} {s : List Int} (hs : M.slots[mu]? = some s) {a z : Int} (hz : 0 ≤ z ∧ z ≤ (M.objs.length : Int)) : (M.setSlot mu s a z).Ok where
  ns := by simpa [Mdl.setSlot] using w.ns
  s16 := fun t ht => by
    rcases List.mem_or_eq_of_mem_set ht with ht | rfl
    · exact w.s16 t ht
    · have := w.s16 s (List.mem_of_getElem? hs)
      refine ⟨by simpa using this.1, fun v hv => ?_⟩
      rcases List.mem_or_eq_of_mem_set hv with hv | rfl
      · exact this.2 v hv
      · exact hz
  g16 := w.g16
  q64 := w.q64
  objs := w.objs
  few := w.few

theorem Mdl.Ok.born {M : Mdl} (w : M.Ok) {x : Act} (hv : validS x.nr x.nd x.sk) (hf : M.objs.length < 100000) : ({ M with objs := M.objs ++ [bornObj x] } : Mdl).Ok where
  ns := w.ns
  s16 := fun s hs => by
    have := w.s16 s hs
    refine ⟨this.1, fun v hv => ?_⟩
    have := this.2 v hv
    simp only [List.length_append, List.length_singleton]; omega
  g16 := by
    refine ⟨w.g16.1, fun v hv => ?_⟩
    have := w.g16.2 v hv
    simp only [List.length_append, List.length_singleton]; omega
  q64 := by
    refine ⟨w.q64.1, fun v hv => ?_⟩
    have := w.q64.2 v hv
    simp only [List.length_append, List.length_singleton]; omega
  objs := fun y hy => by
    simp only [List.mem_append, List.mem_singleton] at hy
    rcases hy with hy | rfl
    · exact (w.objs y hy).more (by simp)
    · unfold validS at hv
      refine ⟨⟨hv.1, hv.2.1, by simp [bornObj]⟩, ⟨hv.2.2.1, hv.2.2.2.1, by simp [bornObj]⟩, ⟨hv.2.2.2.2.1, hv.2.2.2.2.2.1, fun h => ?_, fun h => ?_⟩, fun v hv' => ?_⟩
      · exact (hv.2.2.2.2.2.2.1).resolve_left (fun h' => h' h)
      · exact (hv.2.2.2.2.2.2.2).resolve_left (fun h' => h' h)
      · simp only [bornObj, List.mem_replicate] at hv'
        rw [hv'.2]; omega
  few := by simp only [List.length_append, List.length_singleton]; omega

theorem Mdl.Ok.eff {M : Mdl} (w : M.Ok) {mu : Nat} {s : List Int} (hs : M.slots[mu]? = some s) {x : Act} (hk : 0 ≤ x.k ∧ x.k < 12) (ha : 0 ≤ x.a ∧ x.a < 16) (hb : wB x.k = true → 0 ≤ x.b ∧ x.b < 16) (hv : x.k = 0 → validS x.nr x.nd x.sk)
    (hz : 0 ≤ wNeed x → s.getD (wNeed x).toNat 0 ≠ 0) (hi : 0 ≤ M.bound s x → 0 ≤ x.i ∧ x.i < M.bound s x) (hf : M.objs.length < 100000) : (M.eff mu s x).1.Ok ∧ M.objs.length ≤ (M.eff mu s x).1.objs.length ∧ (M.eff mu s x).1.objs.length ≤ M.objs.length + 1 := by
  have h16 := (w.s16 s (List.mem_of_getElem? hs)).1
  unfold Mdl.eff
  dsimp only
  by_cases h0 : x.k = 0
  · rw [if_pos h0]
    refine ⟨(w.born (hv h0) hf).setSlot hs (by simp only [List.length_append, List.length_singleton]; omega), by simp [Mdl.setSlot], by simp [Mdl.setSlot]⟩
  rw [if_neg h0]
  by_cases h1 : x.k = 1
  · rw [if_pos h1]
    have e3 : wNeed x = x.b := by unfold wNeed; rw [if_pos h1]
    have hb' := hb (by rw [h1]; rfl)
    rw [e3] at hz
    have ho := w.obj (slotHas w hs hb' (hz hb'.1))
    refine ⟨w.setSlot hs (getD_mem (P := fun v => 0 ≤ v ∧ v ≤ (M.objs.length : Int)) ho.ids ⟨by omega, by omega⟩), by simp [Mdl.setSlot], by simp [Mdl.setSlot]⟩
  rw [if_neg h1]
  by_cases h2 : x.k = 2
  · rw [if_pos h2]
    have e3 : wNeed x = x.a := by unfold wNeed; rw [if_neg (by omega), if_pos (by omega)]
    rw [e3] at hz
    have ho := w.obj (slotHas w hs ha (hz ha.1))
    refine ⟨w.setObj ⟨by simpa using ho.nr, ho.nd, ho.kd, fun v hv => ?_⟩, by simp [Mdl.setObj], by simp [Mdl.setObj]⟩
    rcases List.mem_or_eq_of_mem_set hv with hv | rfl
    · exact ho.ids v hv
    · exact w.slotIds hs _
  rw [if_neg h2]
  by_cases h3 : x.k = 3
  · rw [if_pos h3]
    have e3 : wNeed x = x.a := by unfold wNeed; rw [if_neg (by omega), if_pos (by omega)]
    rw [e3] at hz
    have ho := w.obj (slotHas w hs ha (hz ha.1))
    exact ⟨w.setObj ⟨ho.nr, by simpa using ho.nd, ho.kd, ho.ids⟩, by simp [Mdl.setObj], by simp [Mdl.setObj]⟩
  rw [if_neg h3]
  by_cases h4 : x.k = 4
  · rw [if_pos h4]
    exact ⟨w, Nat.le_refl _, Nat.le_succ _⟩
  rw [if_neg h4]
  by_cases h5 : x.k = 5
  · rw [if_pos h5]
    exact ⟨w.setSlot hs (w.slotIds hs _), by simp [Mdl.setSlot], by simp [Mdl.setSlot]⟩
  rw [if_neg h5]
  by_cases h6 : x.k = 6
  · rw [if_pos h6]
    exact ⟨w.setSlot hs ⟨by omega, by omega⟩, by simp [Mdl.setSlot], by simp [Mdl.setSlot]⟩
  rw [if_neg h6]
  by_cases h7 : x.k = 7
  · rw [if_pos h7]
    exact ⟨w, Nat.le_refl _, Nat.le_succ _⟩
  rw [if_neg h7]
  by_cases h8 : x.k = 8
  · rw [if_pos h8]
    exact ⟨w, Nat.le_refl _, Nat.le_succ _⟩
  rw [if_neg h8]
  by_cases h9 : x.k = 9
  · rw [if_pos h9]
    refine ⟨⟨w.ns, w.s16, ⟨by simpa using w.g16.1, fun v hv => ?_⟩, w.q64, w.objs, w.few⟩, Nat.le_refl _, Nat.le_succ _⟩
    rcases List.mem_or_eq_of_mem_set hv with hv | rfl
    · exact w.g16.2 v hv
    · exact w.slotIds hs _
  rw [if_neg h9]
  by_cases h10 : x.k = 10
  · rw [if_pos h10]
    exact ⟨w.setSlot hs (getD_mem (P := fun v => 0 ≤ v ∧ v ≤ (M.objs.length : Int)) w.g16.2 ⟨by omega, by omega⟩), by simp [Mdl.setSlot], by simp [Mdl.setSlot]⟩
  rw [if_neg h10]
  exact ⟨w, Nat.le_refl _, Nat.le_succ _⟩

/-- When an act has no error. -/
theorem Mdl.errOf_0 {M : Mdl} {mu : Int} {x : Act} (h : M.errOf mu x = 0) : (0 ≤ mu ∧ mu < (M.slots.length : Int) ∧ 0 ≤ x.k ∧ x.k < 12) ∧ ((0 ≤ x.a ∧ x.a < 16) ∧ (wB x.k = true → 0 ≤ x.b ∧ x.b < 16)) ∧ (x.k = 0 → validS x.nr x.nd x.sk) ∧
    (0 ≤ wNeed x → (M.slots.getD mu.toNat []).getD (wNeed x).toNat 0 ≠ 0) ∧ (0 ≤ M.bound (M.slots.getD mu.toNat []) x → 0 ≤ x.i ∧ x.i < M.bound (M.slots.getD mu.toNat []) x) := by
  unfold Mdl.errOf at h
  split at h
  · omega
  rename_i h1
  split at h
  · omega
  rename_i h2
  split at h
  · omega
  rename_i h3
  split at h
  · omega
  rename_i h4
  split at h
  · omega
  rename_i h5
  refine ⟨Decidable.not_not.1 h1, Decidable.not_not.1 h2, fun hk => ?_, fun hn hz => h4 ⟨hn, hz⟩, fun hb => ?_⟩
  · by_cases hv : validS x.nr x.nd x.sk
    · exact hv
    · exact absurd ⟨hk, hv⟩ h3
  · by_cases hi : 0 ≤ x.i ∧ x.i < M.bound (M.slots.getD mu.toNat []) x
    · exact hi
    · exact absurd ⟨hb, hi⟩ h5

theorem Mdl.Ok.doAct {M : Mdl} (w : M.Ok) {mu : Int} {x : Act} (hf : M.objs.length < 100000) : (M.doAct mu x).1.Ok ∧ M.objs.length ≤ (M.doAct mu x).1.objs.length ∧ (M.doAct mu x).1.objs.length ≤ M.objs.length + 1 := by
  unfold Mdl.doAct
  split
  · rename_i h
    obtain ⟨h1, h2, h3, h4, h5⟩ := Mdl.errOf_0 h
    exact w.eff (getD_of [] (by omega)) ⟨h1.2.2.1, h1.2.2.2⟩ h2.1 h2.2 h3 h4 h5 hf
  · exact ⟨w, Nat.le_refl _, Nat.le_succ _⟩

theorem Mdl.Ok.step {M : Mdl} (w : M.Ok) {x : Stp} (hf : M.objs.length < 100000) : (M.step x).1.Ok ∧ M.objs.length ≤ (M.step x).1.objs.length ∧ (M.step x).1.objs.length ≤ M.objs.length + 1 := by
  unfold Mdl.step
  split
  · exact w.doAct hf
  split
  · have := Mdl.coll_ok w (ks := M.keptL) (Nat.le_refl _)
    exact ⟨this.1, by show _ ≤ (Mdl.coll _ _ _).1.objs.length; rw [this.2]; exact Nat.le_refl _, by show (Mdl.coll _ _ _).1.objs.length ≤ _; rw [this.2]; exact Nat.le_succ _⟩
  split
  · refine ⟨w.push _, ?_, ?_⟩ <;> (unfold Mdl.push; split <;> (try split) <;> simp)
  split
  · refine ⟨w.pop, ?_, ?_⟩ <;> (unfold Mdl.pop; split <;> simp)
  split
  · refine ⟨w.setRef _ _ _, ?_, ?_⟩ <;> (unfold Mdl.setRef; split <;> (try split) <;> simp [Mdl.setObj])
  · exact ⟨w, Nat.le_refl _, Nat.le_succ _⟩

noncomputable def madeM (n : Nat) (l : List Stp) : Mdl := l.foldl (fun M x => (M.step x).1) (Mdl.new n)
theorem madeM_snoc {n : Nat} {l : List Stp} {x : Stp} : madeM n (l ++ [x]) = ((madeM n l).step x).1 := by unfold madeM; rw [List.foldl_append]; rfl
theorem madeM_ok {n : Nat} (hn : 1 ≤ n ∧ n ≤ 4) (l : List Stp) (hl : l.length ≤ 10000) : (madeM n l).Ok ∧ (madeM n l).objs.length ≤ l.length := by
  have h : ∀ (k : Nat), k ≤ l.length → (madeM n (l.take k)).Ok ∧ (madeM n (l.take k)).objs.length ≤ k := by
    intro k
    induction k with
    | zero => intro _; exact ⟨by simpa [madeM] using Mdl.new_ok hn, by simp [madeM, Mdl.new]⟩
    | succ k ih =>
      intro hk
      obtain ⟨h1, h2⟩ := ih (by omega)
      rw [List.take_succ_eq_append_getElem (by omega), madeM_snoc]
      have := h1.step (x := l[k]) (by omega)
      exact ⟨this.1, by omega⟩
  have := h l.length (Nat.le_refl _)
  rw [List.take_length] at this
  exact this
end Go.Cs

/- made: the model behind calls. -/
namespace Go.Cs
open Go
/-- Calls that lie in memory that is only read. -/
structure Steps (o : Tags) (H : CHeap) (v : CV) (l : List Stp) : Prop where
  len : ∀ H', vLen v H' = some (.i l.length, H')
  get : l ≠ [] → ∃ sb cap t cs, v = .slice sb 0 l.length cap 13 t ∧ H[sb]? = some ⟨cs, .ro, 13⟩ ∧ o sb = none ∧ ∀ (i : Nat) (x : Stp), l[i]? = some x → i * 13 + 13 ≤ cs.length ∧ (cs.drop (i * 13)).take 13 = stpCells x

theorem Steps.frm {o o' : Tags} {g : Nat} {H H' : CHeap} {v : CV} {l : List Stp} (h : Steps o H v l) (f : Frm g o H o' H') : Steps o' H' v l := by
  refine ⟨h.len, fun hne => ?_⟩
  obtain ⟨sb, cap, t, cs, e, h1, h2, h3⟩ := h.get hne
  have hl := lt_of_get h1
  exact ⟨sb, cap, t, cs, e, by rw [f.keep sb hl (fun k hk => by rw [h2] at hk; cases hk), h1], by rw [f.tag sb hl, h2], h3⟩
end Go.Cs
namespace Go.Cs.Try
open Go Go.Cs
set_option maxRecDepth 100000
section
variable {o : Tags} {g : Nat} {b : Nat} {H : CHeap}

theorem f30' {v : CV} {n : Nat} (h : ∀ H', vLen v H' = some (.i n, H')) : run P 30 [v] H = some (.bool (decide (120 < (n : Int))), H) := by
  rw [run_lv c30]
  simp (disch := first | omega | rfl | assumption | (simp only [csN, Nat.reduceAdd, Nat.reduceMul, Nat.reduceLeDiff, Nat.reduceEqDiff] <;> omega) | (simp only [csF]; done) | (simp only [csF] <;> assumption) | fail) only [Nat.reduceEqDiff, Nat.reduceAdd, Nat.reduceMul, Nat.reduceSub, Nat.reduceLeDiff, Int.reduceAdd, Int.reduceSub, Int.reduceMul, Int.reduceLT, Int.reduceLE, Int.reduceGT, Int.reduceGE, Int.reduceEq, Int.reduceBEq, Int.reduceBNe, Int.reduceNeg, Int.reduceToNat, csAll, ↓reduceIte, C30, entry_1, h]

theorem l12_1 {o0 : Tags} {H0 : CHeap} {n : Nat} (hn : 1 ≤ n ∧ n ≤ 4) {l : List Stp} {v : CV} (hl : l.length ≤ 120) (st : Steps o0 H0 v l) :
    LoopOk P C12_1 (fun k E H => E 5 = .ptr b 0 ∧ E 1 = v ∧ ∃ i : Nat, E 7 = .i i ∧ i ≤ l.length ∧ k = l.length - i ∧ ∃ o L, MRep o g H b (madeM n (l.take i)) L ∧ Frm g o0 H0 o H)
      (fun x E' H' => x = .exit 0 ∧ E' 5 = .ptr b 0 ∧ ∃ o L, MRep o g H' b (madeM n l) L ∧ Frm g o0 H0 o H') := by
  refine loop_ind ?_
  rintro k E H ⟨h5, h1, i, h7, hi, rfl, o, L, m, fr⟩
  have hlen := st.len
  by_cases c : i < l.length
  · have hne : l ≠ [] := by rintro rfl; simp at c
    obtain ⟨sb, cap, t, cs, e, q1, q2, q3⟩ := (st.frm fr).get hne
    obtain ⟨q4, q5⟩ := q3 i l[i] (List.getElem?_eq_getElem c)
    obtain ⟨w, hw0⟩ := madeM_ok hn (l.take i) (by simp; omega)
    have hli : (l.take i).length ≤ i := by simp; omega
    obtain ⟨H', o', L', e1, m', fr'⟩ := f21 m w (by omega) l[i]
    have hsnoc : madeM n (l.take (i + 1)) = ((madeM n (l.take i)).step l[i]).1 := by rw [List.take_succ_eq_append_getElem c, madeM_snoc]
    rw [← hsnoc] at m'
    have hw : IntKind.i64.wrap ((i : Int) + 1) = ((i + 1 : Nat) : Int) := by rw [wrap_id (by omega)]; rfl
    have h1' := h1
    rw [e] at h1' hlen
    apply step_go (k' := l.length - (i + 1))
    · simp (disch := first | omega | rfl | assumption | (simp only [csN, Nat.reduceAdd, Nat.reduceMul, Nat.reduceLeDiff, Nat.reduceEqDiff] <;> omega) | (simp only [csF]; done) | (simp only [csF] <;> assumption) | fail) only [Nat.reduceEqDiff, Nat.reduceAdd, Nat.reduceMul, Nat.reduceSub, Nat.reduceLeDiff, Int.reduceAdd, Int.reduceSub, Int.reduceMul, Int.reduceLT, Int.reduceLE, Int.reduceGT, Int.reduceGE, Int.reduceEq, Int.reduceBEq, Int.reduceBNe, Int.reduceNeg, Int.reduceToNat, csAll, ↓reduceIte, C12_1, h5, h1', h7, hlen, q1, q4, q5, e1, hw]
      rfl
    · omega
    · exact ⟨by simp [upd_apply, h5], by simp [upd_apply, h1], i + 1, by simp [upd_apply], by omega, rfl, o', L', m', fr.trans fr'⟩
  · apply step_out (x := .exit 0)
    · simp (disch := first | omega | rfl | assumption | (simp only [csN, Nat.reduceAdd, Nat.reduceMul, Nat.reduceLeDiff, Nat.reduceEqDiff] <;> omega) | (simp only [csF]; done) | (simp only [csF] <;> assumption) | fail) only [Nat.reduceEqDiff, Nat.reduceAdd, Nat.reduceMul, Nat.reduceSub, Nat.reduceLeDiff, Int.reduceAdd, Int.reduceSub, Int.reduceMul, Int.reduceLT, Int.reduceLE, Int.reduceGT, Int.reduceGE, Int.reduceEq, Int.reduceBEq, Int.reduceBNe, Int.reduceNeg, Int.reduceToNat, csAll, ↓reduceIte, C12_1, h1, h7, hlen]
      rfl
    · simp
    · have : l.take i = l := List.take_of_length_le (by omega)
      rw [this] at m
      exact ⟨rfl, by simp [upd_apply, h5], o, L, m, fr⟩

/-- made. -/
theorem f12 (hd : ∀ c t, o c = some t → c < H.length) (hg : ∀ c k, o c ≠ some (g, k)) {n : Nat} (hn : 1 ≤ n ∧ n ≤ 4) {l : List Stp} {v : CV} (hl : l.length ≤ 120) (st : Steps o H v l) :
    ∃ b H' o' L, run P 12 [.i n, v] H = some (.ptr b 0, H') ∧ MRep o' g H' b (madeM n l) L ∧ Frm g o H o' H' := by
  obtain ⟨b, H1, o1, L1, e1, m1, fr1⟩ := f31 (g := g) hd hg hn
  have h30 := f30' (H := H1) st.len
  have key : ∃ H' o' L, run P 12 [.i n, v] H = some (.ptr b 0, H') ∧ MRep o' g H' b (madeM n l) L ∧ Frm g o1 H1 o' H' := by
    rw [run_lv c12]
    simp (disch := first | omega | rfl | assumption | (simp only [csN, Nat.reduceAdd, Nat.reduceMul, Nat.reduceLeDiff, Nat.reduceEqDiff] <;> omega) | (simp only [csF]; done) | (simp only [csF] <;> assumption) | fail) only [Nat.reduceEqDiff, Nat.reduceAdd, Nat.reduceMul, Nat.reduceSub, Nat.reduceLeDiff, Int.reduceAdd, Int.reduceSub, Int.reduceMul, Int.reduceLT, Int.reduceLE, Int.reduceGT, Int.reduceGE, Int.reduceEq, Int.reduceBEq, Int.reduceBNe, Int.reduceNeg, Int.reduceToNat, csAll, ↓reduceIte, C12, entry_2, e1, h30]
    generalize hr : den P (.loop C12_1) _ _ = r
    obtain ⟨x, E2, H2, rfl, -, rfl, q5, o2, L2, m2, fr2⟩ := (l12_1 (b := b) (g := g) (o0 := o1) (H0 := H1) hn hl (st.frm fr1)).at hr _
      ⟨by simp only [upd_apply, Nat.reduceEqDiff, ↓reduceIte], by simp only [upd_apply, Nat.reduceEqDiff, ↓reduceIte], 0, by simp only [upd_apply, Nat.reduceEqDiff, ↓reduceIte]; rfl, by omega, rfl, o1, L1, m1, .refl m1.dom⟩
    refine ⟨H2, o2, L2, ?_, m2, fr2⟩
    simp (disch := first | omega | rfl | assumption | (simp only [csN, Nat.reduceAdd, Nat.reduceMul, Nat.reduceLeDiff, Nat.reduceEqDiff] <;> omega) | (simp only [csF]; done) | (simp only [csF] <;> assumption) | fail) only [Nat.reduceEqDiff, Nat.reduceAdd, Nat.reduceMul, Nat.reduceSub, Nat.reduceLeDiff, Int.reduceAdd, Int.reduceSub, Int.reduceMul, Int.reduceLT, Int.reduceLE, Int.reduceGT, Int.reduceGE, Int.reduceEq, Int.reduceBEq, Int.reduceBNe, Int.reduceNeg, Int.reduceToNat, csAll, ↓reduceIte, q5]
  obtain ⟨H', o', L, k1, k2, k3⟩ := key
  exact ⟨b, H', o', L, k1, k2, fr1.trans k3⟩

/-- made: no model. -/
theorem f12_no {n : Int} {v : CV} {k : Nat} (hlen : ∀ H', vLen v H' = some (.i k, H')) (h : ¬ (1 ≤ n ∧ n ≤ 4) ∨ 120 < k) : ∃ H', run P 12 [.i n, v] H = some (.nilPtr, H') := by
  by_cases hn : 1 ≤ n ∧ n ≤ 4
  · obtain ⟨b, H1, o1, L1, e1, m1, fr1⟩ := f31 (o := fun _ => none) (g := 0) (H := H) (fun _ _ h => by cases h) (fun _ _ h => by cases h) (n := n.toNat) (by omega)
    have hnn : ((n.toNat : Nat) : Int) = n := by omega
    rw [hnn] at e1
    have h30 := f30' (H := H1) hlen
    refine ⟨H1, ?_⟩
    rw [run_lv c12]
    simp (disch := first | omega | rfl | assumption | (simp only [csN, Nat.reduceAdd, Nat.reduceMul, Nat.reduceLeDiff, Nat.reduceEqDiff] <;> omega) | (simp only [csF]; done) | (simp only [csF] <;> assumption) | fail) only [Nat.reduceEqDiff, Nat.reduceAdd, Nat.reduceMul, Nat.reduceSub, Nat.reduceLeDiff, Int.reduceAdd, Int.reduceSub, Int.reduceMul, Int.reduceLT, Int.reduceLE, Int.reduceGT, Int.reduceGE, Int.reduceEq, Int.reduceBEq, Int.reduceBNe, Int.reduceNeg, Int.reduceToNat, csAll, ↓reduceIte, C12, entry_2, e1, h30]
  · have e1 := f31_no (H := H) hn
    have h30 := f30' (H := H) hlen
    refine ⟨H, ?_⟩
    rw [run_lv c12]
    by_cases hk : 120 < (k : Int)
    · simp (disch := first | omega | rfl | assumption | (simp only [csN, Nat.reduceAdd, Nat.reduceMul, Nat.reduceLeDiff, Nat.reduceEqDiff] <;> omega) | (simp only [csF]; done) | (simp only [csF] <;> assumption) | fail) only [Nat.reduceEqDiff, Nat.reduceAdd, Nat.reduceMul, Nat.reduceSub, Nat.reduceLeDiff, Int.reduceAdd, Int.reduceSub, Int.reduceMul, Int.reduceLT, Int.reduceLE, Int.reduceGT, Int.reduceGE, Int.reduceEq, Int.reduceBEq, Int.reduceBNe, Int.reduceNeg, Int.reduceToNat, csAll, ↓reduceIte, C12, entry_2, e1, h30]
    · simp (disch := first | omega | rfl | assumption | (simp only [csN, Nat.reduceAdd, Nat.reduceMul, Nat.reduceLeDiff, Nat.reduceEqDiff] <;> omega) | (simp only [csF]; done) | (simp only [csF] <;> assumption) | fail) only [Nat.reduceEqDiff, Nat.reduceAdd, Nat.reduceMul, Nat.reduceSub, Nat.reduceLeDiff, Int.reduceAdd, Int.reduceSub, Int.reduceMul, Int.reduceLT, Int.reduceLE, Int.reduceGT, Int.reduceGE, Int.reduceEq, Int.reduceBEq, Int.reduceBNe, Int.reduceNeg, Int.reduceToNat, csAll, ↓reduceIte, C12, entry_2, e1, h30]
end
end Go.Cs.Try

/- The law's kept: which identities are in a list. -/
namespace Go.Cs
open Go
def marks (n : Nat) (l : List Int) : List Bool := l.foldl (fun ks v => ks.set v.toNat true) (List.replicate (n + 1) false)
theorem marks_len {n : Nat} : ∀ {l : List Int}, (marks n l).length = n + 1 := by
  intro l
  unfold marks
  have : ∀ (l : List Int) (ks : List Bool), (l.foldl (fun ks v => ks.set v.toNat true) ks).length = ks.length := by
    intro l
    induction l with
    | nil => intro ks; rfl
    | cons a r ih => intro ks; rw [List.foldl_cons, ih]; simp
  rw [this]; simp
theorem marks_snoc {n : Nat} {l : List Int} {v : Int} : marks n (l ++ [v]) = (marks n l).set v.toNat true := by unfold marks; rw [List.foldl_append]; rfl

/-- What is marked. -/
theorem marks_on {n : Nat} {l : List Int} (hl : ∀ v ∈ l, 0 ≤ v ∧ v ≤ (n : Int)) {u : Int} (hu : 0 ≤ u) : on (marks n l) u = true ↔ u ∈ l := by
  have h : ∀ k, k ≤ l.length → (on (marks n (l.take k)) u = true ↔ u ∈ l.take k) := by
    intro k
    induction k with
    | zero =>
      intro _
      simp only [List.take_zero, List.not_mem_nil, iff_false]
      unfold marks on
      simp only [List.foldl_nil]
      rw [List.getD_eq_getElem?_getD, List.getElem?_replicate]
      split <;> simp
    | succ k ih =>
      intro hk
      rw [List.take_succ_eq_append_getElem (by omega), marks_snoc]
      have hv := hl l[k] (List.getElem_mem _)
      rw [on_set ⟨hv.1, by rw [marks_len]; omega⟩ hu]
      simp only [Bool.or_eq_true, decide_eq_true_eq, List.mem_append, List.mem_singleton]
      rw [ih (by omega)]
      exact Or.comm
  have := h l.length (Nat.le_refl _)
  rwa [List.take_length] at this
end Go.Cs
namespace Go.Cs.Try
open Go Go.Cs
set_option maxRecDepth 100000
section
variable {o : Tags} {g : Nat} {b : Nat} {M : Mdl} {L : Lay} {H : CHeap}

theorem l19_1 {o' : Tags} {t : Tag} {lv : CV} {n : Nat} {l : List Int} (hn : n ≤ 100000) (hsz : l.length ≤ 1000000) (a : At o' t H lv 1 l.length (Go.Cs.ints l)) (hl : ∀ v ∈ l, 0 ≤ v ∧ v ≤ (n : Int)) :
    LoopOk P C19_1 (fun k E H' => E 5 = .slice H.length 0 (n + 1) (n + 1) 1 false ∧ E 1 = lv ∧ ∃ i : Nat, E 6 = .i i ∧ i ≤ l.length ∧ k = l.length - i ∧ H' = H ++ [⟨bools (marks n (l.take i)), .rw, 1⟩])
      (fun x E' H' => x = .exit 0 ∧ E' 5 = .slice H.length 0 (n + 1) (n + 1) 1 false ∧ H' = H ++ [⟨bools (marks n l), .rw, 1⟩]) := by
  refine loop_ind ?_
  rintro k E H' ⟨h5, h1, i, h6, hi, rfl, rfl⟩
  have hlen := a.len
  by_cases c : i < l.length
  · obtain ⟨tl, d1, -, d3, d4⟩ := a.pos (by omega)
    have hlb := lt_of_get d3
    have hg : (Go.Cs.ints l)[i]? = some (.i l[i]) := by rw [ints_get, List.getElem?_eq_getElem c]; rfl
    have hv := hl l[i] (List.getElem_mem _)
    have hw : IntKind.i64.wrap ((i : Int) + 1) = ((i + 1 : Nat) : Int) := by rw [wrap_id (by omega)]; rfl
    have hbl : (bools (marks n (l.take i))).length = n + 1 := by rw [bools_len, marks_len]
    have hsn : bools (marks n (l.take (i + 1))) = (bools (marks n (l.take i))).set l[i].toNat (.bool true) := by
      rw [List.take_succ_eq_append_getElem c, marks_snoc, bools_set]
    have h1' := h1
    rw [d1] at h1' hlen
    apply step_go (k' := l.length - (i + 1))
    · simp (disch := first | omega | rfl | assumption | (simp only [csN, Nat.reduceAdd, Nat.reduceMul, Nat.reduceLeDiff, Nat.reduceEqDiff] <;> omega) | (simp only [csF]; done) | (simp only [csF] <;> assumption) | fail) only [Nat.reduceEqDiff, Nat.reduceAdd, Nat.reduceMul, Nat.reduceSub, Nat.reduceLeDiff, Int.reduceAdd, Int.reduceSub, Int.reduceMul, Int.reduceLT, Int.reduceLE, Int.reduceGT, Int.reduceGE, Int.reduceEq, Int.reduceBEq, Int.reduceBNe, Int.reduceNeg, Int.reduceToNat, csAll, ↓reduceIte, C19_1, h5, h1', h6, hlen, d3, hg, hbl, hw]
      rfl
    · omega
    · refine ⟨by simp [upd_apply, h5], by simp [upd_apply, h1], i + 1, by simp [upd_apply], by omega, rfl, ?_⟩
      rw [hsn]
  · apply step_out (x := .exit 0)
    · simp (disch := first | omega | rfl | assumption | (simp only [csN, Nat.reduceAdd, Nat.reduceMul, Nat.reduceLeDiff, Nat.reduceEqDiff] <;> omega) | (simp only [csF]; done) | (simp only [csF] <;> assumption) | fail) only [Nat.reduceEqDiff, Nat.reduceAdd, Nat.reduceMul, Nat.reduceSub, Nat.reduceLeDiff, Int.reduceAdd, Int.reduceSub, Int.reduceMul, Int.reduceLT, Int.reduceLE, Int.reduceGT, Int.reduceGE, Int.reduceEq, Int.reduceBEq, Int.reduceBNe, Int.reduceNeg, Int.reduceToNat, csAll, ↓reduceIte, C19_1, h1, h6, hlen]
      rfl
    · simp
    · have : l.take i = l := List.take_of_length_le (by omega)
      rw [this]
      exact ⟨rfl, by simp [upd_apply, h5], rfl⟩

/-- kept. -/
theorem f19 (m : MRep o g H b M L) (w : M.Ok) {o' : Tags} {t : Tag} {lv : CV} {l : List Int} (hsz : l.length ≤ 1000000) (a : At o' t H lv 1 l.length (Go.Cs.ints l)) (hl : ∀ v ∈ l, 0 ≤ v ∧ v ≤ (M.objs.length : Int)) :
    run P 19 [.ptr b 0, lv] H = some (.slice H.length 0 (M.objs.length + 1) (M.objs.length + 1) 1 false, H ++ [⟨bools (marks M.objs.length l), .rw, 1⟩]) := by
  have h23 := f23 m w
  have hfew := w.few
  have hw : IntKind.i64.wrap ((M.objs.length : Int) + 1) = ((M.objs.length + 1 : Nat) : Int) := by rw [wrap_id (by omega)]; rfl
  have hz : (List.replicate (M.objs.length + 1) [CV.bool false]).flatten = bools (marks M.objs.length []) := by rw [← bools_rep]; rfl
  rw [run_lv c19]
  simp (disch := first | omega | rfl | assumption | (simp only [csN, Nat.reduceAdd, Nat.reduceMul, Nat.reduceLeDiff, Nat.reduceEqDiff] <;> omega) | (simp only [csF]; done) | (simp only [csF] <;> assumption) | fail) only [Nat.reduceEqDiff, Nat.reduceAdd, Nat.reduceMul, Nat.reduceSub, Nat.reduceLeDiff, Int.reduceAdd, Int.reduceSub, Int.reduceMul, Int.reduceLT, Int.reduceLE, Int.reduceGT, Int.reduceGE, Int.reduceEq, Int.reduceBEq, Int.reduceBNe, Int.reduceNeg, Int.reduceToNat, csAll, ↓reduceIte, C19, entry_2, h23, hw, hz]
  generalize hr : den P (.loop C19_1) _ _ = r
  obtain ⟨x, E2, H2, rfl, -, rfl, q5, rfl⟩ := (l19_1 (H := H) hfew hsz a hl).at hr _
    ⟨by simp only [upd_apply, Nat.reduceEqDiff, ↓reduceIte], by simp only [upd_apply, Nat.reduceEqDiff, ↓reduceIte], 0, by simp only [upd_apply, Nat.reduceEqDiff, ↓reduceIte]; rfl, by omega, rfl, rfl⟩
  simp (disch := first | omega | rfl | assumption | (simp only [csN, Nat.reduceAdd, Nat.reduceMul, Nat.reduceLeDiff, Nat.reduceEqDiff] <;> omega) | (simp only [csF]; done) | (simp only [csF] <;> assumption) | fail) only [Nat.reduceEqDiff, Nat.reduceAdd, Nat.reduceMul, Nat.reduceSub, Nat.reduceLeDiff, Int.reduceAdd, Int.reduceSub, Int.reduceMul, Int.reduceLT, Int.reduceLE, Int.reduceGT, Int.reduceGE, Int.reduceEq, Int.reduceBEq, Int.reduceBNe, Int.reduceNeg, Int.reduceToNat, csAll, ↓reduceIte, q5]
end
end Go.Cs.Try

/- The examples of the chapter, plainly. -/
namespace Go.Cs
open Go
def actK (k a b nr nd sk : Int) : Act := ⟨k, a, b, 0, 0, nr, nd, sk⟩
def ex0 : Mdl := Mdl.new 1
def ex1 : Mdl := (ex0.doAct 0 (actK 0 0 0 1 1 0)).1
def ex2 : Mdl := (ex1.doAct 0 (actK 0 1 0 0 2 0)).1
def ex3 : Mdl := (ex2.doAct 0 (actK 2 0 1 0 0 0)).1
def ex4 : Mdl := (ex3.doAct 0 (actK 6 1 0 0 0 0)).1
def ex5 : Mdl := (ex4.doAct 0 (actK 6 0 0 0 0 0)).1
def ex6 : Mdl := (ex5.doAct 0 (actK 0 0 0 1 0 1)).1
def ex7 : Mdl := (ex6.doAct 0 (actK 0 1 0 0 0 0)).1
def ex8 : Mdl := (ex7.doAct 0 (actK 2 0 1 0 0 0)).1
def ex9 : Mdl := (ex8.doAct 0 (actK 6 1 0 0 0 0)).1
theorem ex_ok : ex9.Ok ∧ ex9.objs.length ≤ 9 ∧ ex4.Ok ∧ ex5.Ok := by
  have h0 : ex0.Ok ∧ ex0.objs.length ≤ 0 := ⟨Mdl.new_ok (by omega), by simp [ex0, Mdl.new]⟩
  have st : ∀ {M : Mdl} {k : Nat} {x : Act}, M.Ok ∧ M.objs.length ≤ k → k < 100 → (M.doAct 0 x).1.Ok ∧ (M.doAct 0 x).1.objs.length ≤ k + 1 := by
    intro M k x h hk
    have := h.1.doAct (mu := 0) (x := x) (by omega)
    exact ⟨this.1, by omega⟩
  have h1 : ex1.Ok ∧ ex1.objs.length ≤ 1 := st h0 (by omega)
  have h2 : ex2.Ok ∧ ex2.objs.length ≤ 2 := st h1 (by omega)
  have h3 : ex3.Ok ∧ ex3.objs.length ≤ 3 := st h2 (by omega)
  have h4 : ex4.Ok ∧ ex4.objs.length ≤ 4 := st h3 (by omega)
  have h5 : ex5.Ok ∧ ex5.objs.length ≤ 5 := st h4 (by omega)
  have h6 : ex6.Ok ∧ ex6.objs.length ≤ 6 := st h5 (by omega)
  have h7 : ex7.Ok ∧ ex7.objs.length ≤ 7 := st h6 (by omega)
  have h8 : ex8.Ok ∧ ex8.objs.length ≤ 8 := st h7 (by omega)
  have h9 : ex9.Ok ∧ ex9.objs.length ≤ 9 := st h8 (by omega)
  exact ⟨h9.1, h9.2, h4.1, h5.1⟩
theorem ex4_kept : ex4.keptL = [false, true, true] := by
  have k0 := KInv.start ex_ok.2.2.1
  have e0 : reaches (List.replicate (ex4.objs.length + 1) false, []) ex4.places = ([false, true, false], [] ++ [1]) := by rfl
  rw [e0] at k0
  have k1 := (k0.pop ex_ok.2.2.1).1
  have e1 : reaches ([false, true, false], []) ((ex4.obj 1).refs.drop (soft (ex4.obj 1).kd)) = ([false, true, true], [] ++ [2]) := by rfl
  rw [e1] at k1
  have k2 := (k1.pop ex_ok.2.2.1).1
  have e2 : reaches ([false, true, true], []) ((ex4.obj 2).refs.drop (soft (ex4.obj 2).kd)) = ([false, true, true], []) := by rfl
  rw [e2] at k2
  refine (k2.keptL ex_ok.2.2.1 (fun n h1 h2 => ?_)).symm
  have hl : ex4.objs.length = 2 := by rfl
  rw [hl] at h2
  have : n = 1 ∨ n = 2 := by omega
  rcases this with rfl | rfl <;> (intro _ h; exact absurd h (by decide))
theorem ex5_kept : ex5.keptL = [false, false, false] := by
  have k0 := KInv.start ex_ok.2.2.2
  have e0 : reaches (List.replicate (ex5.objs.length + 1) false, []) ex5.places = ([false, false, false], []) := by rfl
  rw [e0] at k0
  refine (k0.keptL ex_ok.2.2.2 (fun n h1 h2 => ?_)).symm
  have hl : ex5.objs.length = 2 := by rfl
  rw [hl] at h2
  have : n = 1 ∨ n = 2 := by omega
  rcases this with rfl | rfl <;> (intro _ h; exact absurd h (by decide))
theorem ex9_kept : ex9.keptL = [false, false, false, true, false] := by
  have k0 := KInv.start ex_ok.1
  have e0 : reaches (List.replicate (ex9.objs.length + 1) false, []) ex9.places = ([false, false, false, true, false], [] ++ [3]) := by rfl
  rw [e0] at k0
  have k1 := (k0.pop ex_ok.1).1
  have e1 : reaches ([false, false, false, true, false], []) ((ex9.obj 3).refs.drop (soft (ex9.obj 3).kd)) = ([false, false, false, true, false], []) := by rfl
  rw [e1] at k1
  refine (k1.keptL ex_ok.1 (fun n h1 h2 => ?_)).symm
  have hl : ex9.objs.length = 4 := by rfl
  rw [hl] at h2
  have : n = 1 ∨ n = 2 ∨ n = 3 ∨ n = 4 := by omega
  rcases this with rfl | rfl | rfl | rfl <;> (intro _ h; exact absurd h (by decide))
def ex10 : Mdl := (ex9.coll [false, false, false, true, false] 4).1
theorem ex9_collect : ex9.collect = (ex10, 1) := by
  unfold Mdl.collect
  rw [ex9_kept]
  rfl
theorem ex10_ok : ex10.Ok := (Mdl.coll_ok ex_ok.1 (ks := [false, false, false, true, false]) (i := 4) (by decide)).1
theorem ex_keptI : ex4.keptI = [1, 2] ∧ ex5.keptI = [] ∧ ex9.keptI = [3] := by
  unfold Mdl.keptI
  rw [ex4_kept, ex5_kept, ex9_kept]
  exact ⟨rfl, rfl, rfl⟩
end Go.Cs

/- alive: the examples of the chapter hold. -/
namespace Go.Cs
open Go
/-- The tags of what belongs to nobody. -/
def Un (o : Tags) : Tags := fun c => match o c with | none => some (0, 0, 0) | some _ => none
theorem Un_some {o : Tags} {c : Nat} {t : Tag} : Un o c = some t ↔ o c = none ∧ t = z3 := by
  unfold Un
  cases o c with
  | none => simp only [Option.some.injEq, true_and]; exact ⟨fun h => h.symm, fun h => h.symm⟩
  | some t => simp
theorem At.un {o : Tags} {H : CHeap} {k : Nat} {v : CV} {e n : Nat} {cs : List CV} (h : At (Loc k) z3 H v e n cs) (hd : ∀ c t, o c = some t → c < k) : At (Un o) z3 H v e n cs := by
  rcases h with h | ⟨b, tl, rfl, h1, h2, h3⟩
  · exact .inl h
  · have h4 := (Loc_some.1 h1).1
    refine .inr ⟨b, tl, rfl, Un_some.2 ⟨?_, rfl⟩, h2, h3⟩
    cases h5 : o b with
    | none => rfl
    | some t => have := hd b t h5; omega
theorem At.unFrm {o o' : Tags} {g : Nat} {H H' : CHeap} {v : CV} {e n : Nat} {cs : List CV} (h : At (Un o) z3 H v e n cs) (f : Frm g o H o' H') : At (Un o') z3 H' v e n cs := by
  rcases h with h | ⟨b, tl, rfl, h1, h2, h3⟩
  · exact .inl h
  · have h4 := (Un_some.1 h1).1
    have hl := lt_of_get h2
    exact .inr ⟨b, tl, rfl, Un_some.2 ⟨by rw [f.tag b hl, h4], rfl⟩, by rw [f.keep b hl (fun k hk => by rw [h4] at hk; cases hk), h2], h3⟩
theorem Frm.app {g : Nat} {o : Tags} {H : CHeap} (hd : ∀ c t, o c = some t → c < H.length) (J : CHeap) : Frm g o H o (H ++ J) := .grow hd (by simp) (fun c hc => List.getElem?_append_left hc)
/-- A block that belongs to nobody stays as it is. -/
theorem Frm.kept {g : Nat} {o o' : Tags} {H H' : CHeap} (f : Frm g o H o' H') {c : Nat} {k : Blk} (h : H[c]? = some k) (ho : o c = none) : H'[c]? = some k ∧ o' c = none := by
  have hl := lt_of_get h
  exact ⟨by rw [f.keep c hl (fun k hk => by rw [ho] at hk; cases hk), h], by rw [f.tag c hl, ho]⟩
end Go.Cs
namespace Go.Cs.Try
open Go Go.Cs
set_option maxRecDepth 100000
set_option maxHeartbeats 8000000
theorem kept_frm {o : Tags} {g : Nat} {b : Nat} {M : Mdl} {L : Lay} {H : CHeap} (m : MRep o g H b M L) (w : M.Ok) :
    ∃ v H', run P 14 [.ptr b 0] H = some (v, H') ∧ Frm g o H o H' ∧ MRep o g H' b M L ∧ At (Un o) z3 H' v 1 M.keptI.length (Go.Cs.ints M.keptI) := by
  obtain ⟨v, H', e, h1, h2, h3⟩ := f14 m w
  exact ⟨v, H', e, .grow m.dom h1 h2, m.frame (fun c t h => Nat.lt_of_lt_of_le (m.dom c t h) h1) (fun _ _ h => h) (fun c k h => h2 c (m.dom c _ h)), h3.un m.dom⟩

theorem ex_run {r : Option (CV × CHeap)} {v : CV} {H' : CHeap} (h : r = some (v, H')) : ∃ H', r = some (v, H') := ⟨_, h⟩

theorem f13 {H : CHeap} : ∃ H', run P 13 [] H = some (.bool true, H') := by
  obtain ⟨b, H0, o0, L0, c0, m0, -⟩ := f31 (o := fun _ => none) (g := 0) (H := H) (fun _ _ h => by cases h) (fun _ _ h => by cases h) (n := 1) (by omega)
  have w0 : ex0.Ok := Mdl.new_ok (by omega)
  have st : ∀ {M : Mdl} {x : Act}, M.Ok → M.objs.length < 100000 → (M.doAct 0 x).1.Ok := fun h hf => (h.doAct (mu := 0) hf).1
  obtain ⟨H1, o1, L1, t1, c1, m1, fr1, -⟩ := f40 (M := ex0) (mu := 0) (x := actK 0 0 0 1 1 0) m0 w0 (by decide)
  have w1 : ex1.Ok := st w0 (by decide)
  obtain ⟨H2, o2, L2, t2, c2, m2, fr2, -⟩ := f40 (M := ex1) (mu := 0) (x := actK 0 1 0 0 2 0) m1 w1 (by decide)
  have w2 : ex2.Ok := st w1 (by decide)
  obtain ⟨H3, o3, L3, t3, c3, m3, fr3, a3⟩ := f40 (M := ex2) (mu := 0) (x := actK 2 0 1 0 0 0) m2 w2 (by decide)
  have w3 : ex3.Ok := st w2 (by decide)
  have lt3 : leaf t3 = true := a3.leaf
  have m3' := m3.app [⟨[t3, .i 1, .i 0, .i 0, .i 2, .i 0, .i 0], .rw, 0⟩]
  obtain ⟨H4, o4, L4, t4, c4, m4, fr4, -⟩ := f40 (M := ex3) (mu := 0) (x := actK 6 1 0 0 0 0) m3' w3 (by decide)
  have w4 : ex4.Ok := st w3 (by decide)
  obtain ⟨v4, K4, d4, gr4, n4, q4⟩ := kept_frm (M := ex4) m4 w4
  obtain ⟨H5, o5, L5, t5, c5, m5, fr5, -⟩ := f40 (M := ex4) (mu := 0) (x := actK 6 0 0 0 0 0) n4 w4 (by decide)
  have w5 : ex5.Ok := st w4 (by decide)
  obtain ⟨v5, K5, d5, gr5, n5, q5⟩ := kept_frm (M := ex5) m5 w5
  obtain ⟨H6, o6, L6, t6, c6, m6, fr6, -⟩ := f40 (M := ex5) (mu := 0) (x := actK 0 0 0 1 0 1) n5 w5 (by decide)
  have w6 : ex6.Ok := st w5 (by decide)
  obtain ⟨H7, o7, L7, t7, c7, m7, fr7, -⟩ := f40 (M := ex6) (mu := 0) (x := actK 0 1 0 0 0 0) m6 w6 (by decide)
  have w7 : ex7.Ok := st w6 (by decide)
  obtain ⟨H8, o8, L8, t8, c8, m8, fr8, -⟩ := f40 (M := ex7) (mu := 0) (x := actK 2 0 1 0 0 0) m7 w7 (by decide)
  have w8 : ex8.Ok := st w7 (by decide)
  obtain ⟨H9, o9, L9, t9, c9, m9, fr9, -⟩ := f40 (M := ex8) (mu := 0) (x := actK 6 1 0 0 0 0) m8 w8 (by decide)
  have w9 : ex9.Ok := st w8 (by decide)
  obtain ⟨v9, K9, d9, gr9, n9, q9⟩ := kept_frm (M := ex9) m9 w9
  obtain ⟨H10, o10, L10, c10, m10, fr10⟩ := f29 (M := ex9) n9 w9
  rw [ex9_collect] at c10 m10
  obtain ⟨H11, o11, L11, t11, c11, m11, fr11, a11⟩ := f40 (M := ex10) (mu := 0) (x := actK 1 2 0 0 0 0) m10 ex10_ok (by decide)
  have lt11 : leaf t11 = true := a11.leaf
  have FA : Frm 0 o4 K4 o11 H11 := ((((((((fr5.trans gr5).trans fr6).trans fr7).trans fr8).trans fr9).trans gr9).trans fr10).trans fr11)
  have FB : Frm 0 o5 K5 o11 H11 := ((((((fr6.trans fr7).trans fr8).trans fr9).trans gr9).trans fr10).trans fr11)
  have FC : Frm 0 o9 K9 o11 H11 := fr10.trans fr11
  have FD : Frm 0 o3 (H3 ++ [⟨[t3, .i 1, .i 0, .i 0, .i 2, .i 0, .i 0], .rw, 0⟩]) o11 H11 := (fr4.trans gr4).trans FA
  have fo3 : o3 H3.length = none := by
    cases h : o3 H3.length with
    | none => rfl
    | some t => have := m3.dom _ _ h; omega
  obtain ⟨x3, -⟩ := FD.kept (c := H3.length) (k := ⟨[t3, .i 1, .i 0, .i 0, .i 2, .i 0, .i 0], .rw, 0⟩) (by simp) fo3
  have y4 := q4.unFrm FA
  have y5 := q5.unFrm FB
  have y9 := q9.unFrm FC
  rw [ex_keptI.1] at y4
  rw [ex_keptI.2.1] at y5
  rw [ex_keptI.2.2] at y9
  simp only [actK] at c1 c2 c3 c4 c5 c6 c7 c8 c9 c11
  have c3' : run P 40 [.ptr b 0, .i 0, .agg [.i 2, .i 0, .i 1, .i 0, .i 0, .i 0, .i 0, .i 0]] H2 = some (.tup [.agg [t3, .i 1, .i 0, .i 0, .i 2, .i 0, .i 0], .i 0], H3) := c3
  have c11' : run P 40 [.ptr b 0, .i 0, .agg [.i 1, .i 2, .i 0, .i 0, .i 0, .i 0, .i 0, .i 0]] H10 = some (.tup [.agg [t11, .i 0, .i 0, .i 0, .i 0, .i 0, .i 0], .i 0], H11) := c11
  have z4 := (y4.app [⟨[t11, .i 0, .i 0, .i 0, .i 0, .i 0, .i 0], .rw, 0⟩]).app [⟨[.i 1, .i 2], .rw, 1⟩]
  have z9 := ((y9.app [⟨[t11, .i 0, .i 0, .i 0, .i 0, .i 0, .i 0], .rw, 0⟩]).app [⟨[.i 1, .i 2], .rw, 1⟩]).app [⟨[.i 3], .rw, 1⟩]
  have i4 := f26 (l' := [1, 2]) (v' := .slice (H11.length + 1) 0 2 2 1 false) (o' := Loc 0) (t' := z3) z4 (.inr ⟨_, _, rfl, Loc_some.2 ⟨by omega, rfl⟩, by simp (disch := first | omega | rfl | assumption | (simp only [csN, Nat.reduceAdd, Nat.reduceMul, Nat.reduceLeDiff, Nat.reduceEqDiff] <;> omega) | (simp only [csF]; done) | (simp only [csF] <;> assumption) | fail) only [Nat.reduceEqDiff, Nat.reduceAdd, Nat.reduceMul, Nat.reduceSub, Nat.reduceLeDiff, Int.reduceAdd, Int.reduceSub, Int.reduceMul, Int.reduceLT, Int.reduceLE, Int.reduceGT, Int.reduceGE, Int.reduceEq, Int.reduceBEq, Int.reduceBNe, Int.reduceNeg, Int.reduceToNat, csAll, ↓reduceIte, ints_cons, ints_nil], rfl⟩) (by decide)
  have i9 := f26 (l' := [3]) (v' := .slice (H11.length + 2) 0 1 1 1 false) (o' := Loc 0) (t' := z3) z9 (.inr ⟨_, _, rfl, Loc_some.2 ⟨by omega, rfl⟩, by simp (disch := first | omega | rfl | assumption | (simp only [csN, Nat.reduceAdd, Nat.reduceMul, Nat.reduceLeDiff, Nat.reduceEqDiff] <;> omega) | (simp only [csF]; done) | (simp only [csF] <;> assumption) | fail) only [Nat.reduceEqDiff, Nat.reduceAdd, Nat.reduceMul, Nat.reduceSub, Nat.reduceLeDiff, Int.reduceAdd, Int.reduceSub, Int.reduceMul, Int.reduceLT, Int.reduceLE, Int.reduceGT, Int.reduceGE, Int.reduceEq, Int.reduceBEq, Int.reduceBNe, Int.reduceNeg, Int.reduceToNat, csAll, ↓reduceIte, ints_cons, ints_nil], rfl⟩) (by decide)
  have l5 := y5.len
  have hx3 := lt_of_get x3
  simp only [decide_true] at i4 i9
  have c0' : run P 31 [.i 1] H = some (.tup [.ptr b 0, .i 0], H0) := c0
  apply ex_run
  rw [run_lv c13]
  simp (config := { maxSteps := 2000000 }) (disch := first | omega | rfl | assumption | (simp only [csN, Nat.reduceAdd, Nat.reduceMul, Nat.reduceLeDiff, Nat.reduceEqDiff] <;> omega) | (simp only [csF]; done) | (simp only [csF] <;> assumption) | fail) only [Nat.reduceEqDiff, Nat.reduceAdd, Nat.reduceMul, Nat.reduceSub, Nat.reduceLeDiff, Int.reduceAdd, Int.reduceSub, Int.reduceMul, Int.reduceLT, Int.reduceLE, Int.reduceGT, Int.reduceGE, Int.reduceEq, Int.reduceBEq, Int.reduceBNe, Int.reduceNeg, Int.reduceToNat, csAll, ↓reduceIte, C13, entry_0, c0', c1, c2, c3', c4, d4, c5, d5, c6, c7, c8, c9, d9, c10, c11', x3, i4, i9, l5]
  rfl
end Go.Cs.Try
