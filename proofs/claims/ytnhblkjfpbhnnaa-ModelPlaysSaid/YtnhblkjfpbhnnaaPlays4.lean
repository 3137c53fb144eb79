/- A part of the proof: ModelPlays returns true for every input: whatever is called, a model returns what the chapter says, and is in the state that it says. (Functions; at most 120 calls) Conditions: none. -/
import Derived.Test.YtnhblkjfpbhnnaaPlays3
set_option linter.unusedVariables false
set_option linter.unusedSimpArgs false
set_option linter.defProp false
/- The reference's model: what is asked of it, and plain changes. -/
namespace Go.Cs
open Go
section
variable {o : Tags} {g : Nat} {H : CHeap} {b : Nat} {M : Mdl} {L : Lay}
/-- A reference is another one. -/
theorem MRep.putRef (m : MRep o g H b M L) {n : Int} (c : M.has n) {h : CV × CV} (h0 : L.hv[(n - 1).toNat]? = some h) (h6 : At o (g, 6, (n - 1).toNat) H h.1 1 (M.obj n).refs.length (ints (M.obj n).refs)) (h7 : At o (g, 7, (n - 1).toNat) H h.2 1 (M.obj n).data.length (ints (M.obj n).data))
    {i : Nat} (hi : i < (M.obj n).refs.length) (to : Int) :
    MRep o g (H.set (blkOf h.1) ⟨ints ((M.obj n).refs.set i to), .rw, 1⟩) b (M.setObj n { M.obj n with refs := (M.obj n).refs.set i to }) L ∧ Frm g o H o (H.set (blkOf h.1) ⟨ints ((M.obj n).refs.set i to), .rw, 1⟩) := by
  obtain ⟨tl, d1, d2, d3, d4⟩ := h6.pos (by omega)
  have d5 := lt_of_get d3
  refine ⟨m.setObj (Mdl.obj_get c) ⟨rfl, rfl, rfl, by simp, rfl⟩ (by simp) ?_ ?_, by simp, fun _ _ => rfl, fun c t h hc => by have := m.dom c t h; omega, fun c' hc' hk => ?_⟩
  · intro c' k hk h6' _
    rw [List.getElem?_set_ne]
    rintro rfl
    rw [d2] at hk
    simp only [Option.some.injEq, Prod.mk.injEq, true_and] at hk
    exact h6' (by rw [← hk])
  · intro h' hh
    rw [h0] at hh
    simp only [Option.some.injEq] at hh
    subst hh
    refine ⟨.inr ⟨blkOf h.1, tl, d1, d2, by rw [List.getElem?_set_self d5], by simp [ints_len]⟩, h7.frame (fun _ h => h) (fun c' hc' => ?_)⟩
    rw [List.getElem?_set_ne]
    rintro rfl
    rw [d2] at hc'
    simp at hc'
  · rw [List.getElem?_set_ne]
    rintro rfl
    exact hk _ d2
/-- A data word is another one. -/
theorem MRep.putData (m : MRep o g H b M L) {n : Int} (c : M.has n) {h : CV × CV} (h0 : L.hv[(n - 1).toNat]? = some h) (h6 : At o (g, 6, (n - 1).toNat) H h.1 1 (M.obj n).refs.length (ints (M.obj n).refs)) (h7 : At o (g, 7, (n - 1).toNat) H h.2 1 (M.obj n).data.length (ints (M.obj n).data))
    {i : Nat} (hi : i < (M.obj n).data.length) (to : Int) :
    MRep o g (H.set (blkOf h.2) ⟨ints ((M.obj n).data.set i to), .rw, 1⟩) b (M.setObj n { M.obj n with data := (M.obj n).data.set i to }) L ∧ Frm g o H o (H.set (blkOf h.2) ⟨ints ((M.obj n).data.set i to), .rw, 1⟩) := by
  obtain ⟨tl, d1, d2, d3, d4⟩ := h7.pos (by omega)
  have d5 := lt_of_get d3
  refine ⟨m.setObj (Mdl.obj_get c) ⟨rfl, rfl, rfl, rfl, by simp⟩ (by simp) ?_ ?_, by simp, fun _ _ => rfl, fun c t h hc => by have := m.dom c t h; omega, fun c' hc' hk => ?_⟩
  · intro c' k hk _ h7'
    rw [List.getElem?_set_ne]
    rintro rfl
    rw [d2] at hk
    simp only [Option.some.injEq, Prod.mk.injEq, true_and] at hk
    exact h7' (by rw [← hk])
  · intro h' hh
    rw [h0] at hh
    simp only [Option.some.injEq] at hh
    subst hh
    refine ⟨h6.frame (fun _ h => h) (fun c' hc' => ?_), .inr ⟨blkOf h.2, tl, d1, d2, by rw [List.getElem?_set_self d5], by simp [ints_len]⟩⟩
    rw [List.getElem?_set_ne]
    rintro rfl
    rw [d2] at hc'
    simp at hc'
  · rw [List.getElem?_set_ne]
    rintro rfl
    exact hk _ d2
end
end Go.Cs
namespace Go.Cs.Try
open Go Go.Cs
set_option maxRecDepth 100000
set_option maxHeartbeats 8000000
section
variable {o : Tags} {g : Nat} {H : CHeap} {b : Nat} {M : Mdl} {L : Lay}

theorem f54 (m : MRep o g H b M L) (w : M.Ok) : run P 54 [.ptr b 0] H = some (.bool true, H) := by
  have h1 := m.cells
  have h2 := m.slots.len
  have h3 := w.ns
  rw [run_lv c54]
  simp (disch := first | omega | rfl | assumption | (simp only [csN, Nat.reduceAdd, Nat.reduceMul, Nat.reduceLeDiff, Nat.reduceEqDiff] <;> omega) | (simp only [csF]; done) | (simp only [csF] <;> assumption) | fail) only [Nat.reduceEqDiff, Nat.reduceAdd, Nat.reduceMul, Nat.reduceSub, Nat.reduceLeDiff, Int.reduceAdd, Int.reduceSub, Int.reduceMul, Int.reduceLT, Int.reduceLE, Int.reduceGT, Int.reduceGE, Int.reduceEq, Int.reduceBEq, Int.reduceBNe, Int.reduceNeg, Int.reduceToNat, csAll, ↓reduceIte, C54, entry_1, h1, h2]
theorem f61 (m : MRep o g H b M L) (w : M.Ok) : run P 61 [.ptr b 0] H = some (.i M.slots.length, H) := by
  have h1 := m.cells
  have h2 := m.slots.len
  have h4 := f54 m w
  rw [run_lv c61]
  simp (disch := first | omega | rfl | assumption | (simp only [csN, Nat.reduceAdd, Nat.reduceMul, Nat.reduceLeDiff, Nat.reduceEqDiff] <;> omega) | (simp only [csF]; done) | (simp only [csF] <;> assumption) | fail) only [Nat.reduceEqDiff, Nat.reduceAdd, Nat.reduceMul, Nat.reduceSub, Nat.reduceLeDiff, Int.reduceAdd, Int.reduceSub, Int.reduceMul, Int.reduceLT, Int.reduceLE, Int.reduceGT, Int.reduceGE, Int.reduceEq, Int.reduceBEq, Int.reduceBNe, Int.reduceNeg, Int.reduceToNat, csAll, ↓reduceIte, C61, entry_1, h1, h2, h4]
theorem f62 (m : MRep o g H b M L) (w : M.Ok) : run P 62 [.ptr b 0] H = some (.i M.objs.length, H) := by
  have h1 := m.cells
  have h2 := m.objs.len
  have h4 := f54 m w
  rw [run_lv c62]
  simp (disch := first | omega | rfl | assumption | (simp only [csN, Nat.reduceAdd, Nat.reduceMul, Nat.reduceLeDiff, Nat.reduceEqDiff] <;> omega) | (simp only [csF]; done) | (simp only [csF] <;> assumption) | fail) only [Nat.reduceEqDiff, Nat.reduceAdd, Nat.reduceMul, Nat.reduceSub, Nat.reduceLeDiff, Int.reduceAdd, Int.reduceSub, Int.reduceMul, Int.reduceLT, Int.reduceLE, Int.reduceGT, Int.reduceGE, Int.reduceEq, Int.reduceBEq, Int.reduceBNe, Int.reduceNeg, Int.reduceToNat, csAll, ↓reduceIte, C62, entry_1, h1, h2, h4]
theorem f65 (m : MRep o g H b M L) (w : M.Ok) (mu i : Int) : run P 65 [.ptr b 0, .i mu, .i i] H = some (pair2 (M.slotAt mu i), H) := by
  have h1 := m.cells
  have h2 := m.slots.len
  have h4 := f54 m w
  rw [run_lv c65]
  by_cases c1 : 0 ≤ mu
  case neg =>
    have hp : M.slotAt mu i = (0, 1) := by unfold Mdl.slotAt; rw [if_neg (by omega)]
    simp (disch := first | omega | rfl | assumption | (simp only [csN, Nat.reduceAdd, Nat.reduceMul, Nat.reduceLeDiff, Nat.reduceEqDiff] <;> omega) | (simp only [csF]; done) | (simp only [csF] <;> assumption) | fail) only [Nat.reduceEqDiff, Nat.reduceAdd, Nat.reduceMul, Nat.reduceSub, Nat.reduceLeDiff, Int.reduceAdd, Int.reduceSub, Int.reduceMul, Int.reduceLT, Int.reduceLE, Int.reduceGT, Int.reduceGE, Int.reduceEq, Int.reduceBEq, Int.reduceBNe, Int.reduceNeg, Int.reduceToNat, csAll, ↓reduceIte, C65, entry_3, h1, h2, h4, hp, pair2]
  by_cases c2 : mu < (M.slots.length : Int)
  case neg =>
    have hp : M.slotAt mu i = (0, 1) := by unfold Mdl.slotAt; rw [if_neg (by omega)]
    simp (disch := first | omega | rfl | assumption | (simp only [csN, Nat.reduceAdd, Nat.reduceMul, Nat.reduceLeDiff, Nat.reduceEqDiff] <;> omega) | (simp only [csF]; done) | (simp only [csF] <;> assumption) | fail) only [Nat.reduceEqDiff, Nat.reduceAdd, Nat.reduceMul, Nat.reduceSub, Nat.reduceLeDiff, Int.reduceAdd, Int.reduceSub, Int.reduceMul, Int.reduceLT, Int.reduceLE, Int.reduceGT, Int.reduceGE, Int.reduceEq, Int.reduceBEq, Int.reduceBNe, Int.reduceNeg, Int.reduceToNat, csAll, ↓reduceIte, C65, entry_3, h1, h2, h4, hp, pair2]
  by_cases c3 : 0 ≤ i
  case neg =>
    have hp : M.slotAt mu i = (0, 1) := by unfold Mdl.slotAt; rw [if_neg (by omega)]
    simp (disch := first | omega | rfl | assumption | (simp only [csN, Nat.reduceAdd, Nat.reduceMul, Nat.reduceLeDiff, Nat.reduceEqDiff] <;> omega) | (simp only [csF]; done) | (simp only [csF] <;> assumption) | fail) only [Nat.reduceEqDiff, Nat.reduceAdd, Nat.reduceMul, Nat.reduceSub, Nat.reduceLeDiff, Int.reduceAdd, Int.reduceSub, Int.reduceMul, Int.reduceLT, Int.reduceLE, Int.reduceGT, Int.reduceGE, Int.reduceEq, Int.reduceBEq, Int.reduceBNe, Int.reduceNeg, Int.reduceToNat, csAll, ↓reduceIte, C65, entry_3, h1, h2, h4, hp, pair2]
  by_cases c4 : i < 16
  case neg =>
    have hp : M.slotAt mu i = (0, 1) := by unfold Mdl.slotAt; rw [if_neg (by omega)]
    simp (disch := first | omega | rfl | assumption | (simp only [csN, Nat.reduceAdd, Nat.reduceMul, Nat.reduceLeDiff, Nat.reduceEqDiff] <;> omega) | (simp only [csF]; done) | (simp only [csF] <;> assumption) | fail) only [Nat.reduceEqDiff, Nat.reduceAdd, Nat.reduceMul, Nat.reduceSub, Nat.reduceLeDiff, Int.reduceAdd, Int.reduceSub, Int.reduceMul, Int.reduceLT, Int.reduceLE, Int.reduceGT, Int.reduceGE, Int.reduceEq, Int.reduceBEq, Int.reduceBNe, Int.reduceNeg, Int.reduceToNat, csAll, ↓reduceIte, C65, entry_3, h1, h2, h4, hp, pair2]
  have hs := getD_of (l := M.slots) (i := mu.toNat) [] (by omega)
  obtain ⟨v, hv, ha⟩ := m.slot _ _ hs
  obtain ⟨tl, e1, e2, e3, e4⟩ := m.slots.pos (by omega)
  obtain ⟨tl', d1, d2, d3, d4⟩ := ha.pos (by omega)
  have hx := getD_of (l := M.slots.getD mu.toNat []) (i := i.toNat) 0 (by have := (w.s16 _ (List.mem_of_getElem? hs)).1; omega)
  have hx' := ints_get (M.slots.getD mu.toNat []) i.toNat
  rw [hx] at hx'
  rw [e1] at h1 h2
  rw [d1] at hv
  have hp : M.slotAt mu i = ((M.slots.getD mu.toNat []).getD i.toNat 0, 0) := by unfold Mdl.slotAt; rw [if_pos ⟨c1, c2, c3, c4⟩]
  simp (disch := first | omega | rfl | assumption | (simp only [csN, Nat.reduceAdd, Nat.reduceMul, Nat.reduceLeDiff, Nat.reduceEqDiff] <;> omega) | (simp only [csF]; done) | (simp only [csF] <;> assumption) | fail) only [Nat.reduceEqDiff, Nat.reduceAdd, Nat.reduceMul, Nat.reduceSub, Nat.reduceLeDiff, Int.reduceAdd, Int.reduceSub, Int.reduceMul, Int.reduceLT, Int.reduceLE, Int.reduceGT, Int.reduceGE, Int.reduceEq, Int.reduceBEq, Int.reduceBNe, Int.reduceNeg, Int.reduceToNat, csAll, ↓reduceIte, C65, entry_3, h1, h2, h4, e3, hv, d3, hx', pair2, hp]
theorem f66 (m : MRep o g H b M L) (w : M.Ok) (i : Int) : run P 66 [.ptr b 0, .i i] H = some (pair2 (M.globalAt i), H) := by
  have h1 := m.cells
  have h4 := f54 m w
  rw [run_lv c66]
  by_cases c : 0 ≤ i ∧ i < 16
  · obtain ⟨c3, c4⟩ := c
    obtain ⟨tl, e1, e2, e3, e4⟩ := m.globals.pos (by omega)
    have hx := getD_of (l := M.globals) (i := i.toNat) 0 (by have := w.g16.1; omega)
    have hx' := ints_get M.globals i.toNat
    rw [hx] at hx'
    rw [e1] at h1
    have hp : M.globalAt i = (M.globals.getD i.toNat 0, 0) := by unfold Mdl.globalAt; rw [if_pos ⟨c3, c4⟩]
    simp (disch := first | omega | rfl | assumption | (simp only [csN, Nat.reduceAdd, Nat.reduceMul, Nat.reduceLeDiff, Nat.reduceEqDiff] <;> omega) | (simp only [csF]; done) | (simp only [csF] <;> assumption) | fail) only [Nat.reduceEqDiff, Nat.reduceAdd, Nat.reduceMul, Nat.reduceSub, Nat.reduceLeDiff, Int.reduceAdd, Int.reduceSub, Int.reduceMul, Int.reduceLT, Int.reduceLE, Int.reduceGT, Int.reduceGE, Int.reduceEq, Int.reduceBEq, Int.reduceBNe, Int.reduceNeg, Int.reduceToNat, csAll, ↓reduceIte, C66, entry_2, h1, h4, e3, hx', pair2, hp]
  · have hp : pair2 (M.globalAt i) = .tup [.i 0, .i 1] := by unfold Mdl.globalAt pair2; rw [if_neg c]
    rw [hp]
    by_cases c1 : 0 ≤ i
    · simp (disch := first | omega | rfl | assumption | (simp only [csN, Nat.reduceAdd, Nat.reduceMul, Nat.reduceLeDiff, Nat.reduceEqDiff] <;> omega) | (simp only [csF]; done) | (simp only [csF] <;> assumption) | fail) only [Nat.reduceEqDiff, Nat.reduceAdd, Nat.reduceMul, Nat.reduceSub, Nat.reduceLeDiff, Int.reduceAdd, Int.reduceSub, Int.reduceMul, Int.reduceLT, Int.reduceLE, Int.reduceGT, Int.reduceGE, Int.reduceEq, Int.reduceBEq, Int.reduceBNe, Int.reduceNeg, Int.reduceToNat, csAll, ↓reduceIte, C66, entry_2, h1, h4]
    · simp (disch := first | omega | rfl | assumption | (simp only [csN, Nat.reduceAdd, Nat.reduceMul, Nat.reduceLeDiff, Nat.reduceEqDiff] <;> omega) | (simp only [csF]; done) | (simp only [csF] <;> assumption) | fail) only [Nat.reduceEqDiff, Nat.reduceAdd, Nat.reduceMul, Nat.reduceSub, Nat.reduceLeDiff, Int.reduceAdd, Int.reduceSub, Int.reduceMul, Int.reduceLT, Int.reduceLE, Int.reduceGT, Int.reduceGE, Int.reduceEq, Int.reduceBEq, Int.reduceBNe, Int.reduceNeg, Int.reduceToNat, csAll, ↓reduceIte, C66, entry_2, h1, h4]
theorem f78 (m : MRep o g H b M L) (n : Int) : run P 78 [.ptr b 0, .i n] H = some (.bool (decide (M.has n)), H) := by
  have h1 := m.cells
  have h2 := m.objs.len
  rw [run_lv c78]
  by_cases c : 1 ≤ n
  · by_cases c' : n ≤ M.objs.length
    · have : decide (M.has n) = true := by simp [Mdl.has, c, c']
      simp (disch := first | omega | rfl | assumption | (simp only [csN, Nat.reduceAdd, Nat.reduceMul, Nat.reduceLeDiff, Nat.reduceEqDiff] <;> omega) | (simp only [csF]; done) | (simp only [csF] <;> assumption) | fail) only [Nat.reduceEqDiff, Nat.reduceAdd, Nat.reduceMul, Nat.reduceSub, Nat.reduceLeDiff, Int.reduceAdd, Int.reduceSub, Int.reduceMul, Int.reduceLT, Int.reduceLE, Int.reduceGT, Int.reduceGE, Int.reduceEq, Int.reduceBEq, Int.reduceBNe, Int.reduceNeg, Int.reduceToNat, csAll, ↓reduceIte, C78, entry_2, h1, h2, this]
    · have : decide (M.has n) = false := by simp [Mdl.has, c, c']
      simp (disch := first | omega | rfl | assumption | (simp only [csN, Nat.reduceAdd, Nat.reduceMul, Nat.reduceLeDiff, Nat.reduceEqDiff] <;> omega) | (simp only [csF]; done) | (simp only [csF] <;> assumption) | fail) only [Nat.reduceEqDiff, Nat.reduceAdd, Nat.reduceMul, Nat.reduceSub, Nat.reduceLeDiff, Int.reduceAdd, Int.reduceSub, Int.reduceMul, Int.reduceLT, Int.reduceLE, Int.reduceGT, Int.reduceGE, Int.reduceEq, Int.reduceBEq, Int.reduceBNe, Int.reduceNeg, Int.reduceToNat, csAll, ↓reduceIte, C78, entry_2, h1, h2, this]
  · have : decide (M.has n) = false := by simp [Mdl.has, c]
    simp (disch := first | omega | rfl | assumption | (simp only [csN, Nat.reduceAdd, Nat.reduceMul, Nat.reduceLeDiff, Nat.reduceEqDiff] <;> omega) | (simp only [csF]; done) | (simp only [csF] <;> assumption) | fail) only [Nat.reduceEqDiff, Nat.reduceAdd, Nat.reduceMul, Nat.reduceSub, Nat.reduceLeDiff, Int.reduceAdd, Int.reduceSub, Int.reduceMul, Int.reduceLT, Int.reduceLE, Int.reduceGT, Int.reduceGE, Int.reduceEq, Int.reduceBEq, Int.reduceBNe, Int.reduceNeg, Int.reduceToNat, csAll, ↓reduceIte, C78, entry_2, h1, h2, this]
theorem f79 (m : MRep o g H b M L) (w : M.Ok) (n : Int) : run P 79 [.ptr b 0, .i n] H = some (.i (if M.has n then 0 else 4), H) := by
  have h1 := f54 m w
  have h2 := f78 m n
  rw [run_lv c79]
  by_cases c : M.has n
  · have h3 : decide (M.has n) = true := by simp [c]
    rw [if_pos c]
    simp (disch := first | omega | rfl | assumption | (simp only [csN, Nat.reduceAdd, Nat.reduceMul, Nat.reduceLeDiff, Nat.reduceEqDiff] <;> omega) | (simp only [csF]; done) | (simp only [csF] <;> assumption) | fail) only [Nat.reduceEqDiff, Nat.reduceAdd, Nat.reduceMul, Nat.reduceSub, Nat.reduceLeDiff, Int.reduceAdd, Int.reduceSub, Int.reduceMul, Int.reduceLT, Int.reduceLE, Int.reduceGT, Int.reduceGE, Int.reduceEq, Int.reduceBEq, Int.reduceBNe, Int.reduceNeg, Int.reduceToNat, csAll, ↓reduceIte, C79, entry_2, h1, h2, h3]
  · have h3 : decide (M.has n) = false := by simp [c]
    rw [if_neg c]
    simp (disch := first | omega | rfl | assumption | (simp only [csN, Nat.reduceAdd, Nat.reduceMul, Nat.reduceLeDiff, Nat.reduceEqDiff] <;> omega) | (simp only [csF]; done) | (simp only [csF] <;> assumption) | fail) only [Nat.reduceEqDiff, Nat.reduceAdd, Nat.reduceMul, Nat.reduceSub, Nat.reduceLeDiff, Int.reduceAdd, Int.reduceSub, Int.reduceMul, Int.reduceLT, Int.reduceLE, Int.reduceGT, Int.reduceGE, Int.reduceEq, Int.reduceBEq, Int.reduceBNe, Int.reduceNeg, Int.reduceToNat, csAll, ↓reduceIte, C79, entry_2, h1, h2, h3]
/-- What an object's index comes to. -/
theorem objIx (w : M.Ok) {n : Int} (c : M.has n) : IntKind.i64.wrap (n - 1) = n - 1 ∧ 0 ≤ n - 1 ∧ n - 1 < (M.objs.length : Int) := by
  unfold Mdl.has at c
  have := w.few
  exact ⟨wrap_id (by omega), by omega, by omega⟩
theorem f67 (m : MRep o g H b M L) (w : M.Ok) (n : Int) : run P 67 [.ptr b 0, .i n] H = some (.tup [.agg (shape3 (M.shapeAt n).1), .i (M.shapeAt n).2], H ++ [⟨shape3 (M.shapeAt n).1, .rw, 0⟩]) := by
  have m' := m.app [⟨[.i 0, .i 0, .i 0], .rw, 0⟩]
  have h0 := f79 m' w n
  rw [run_lv c67]
  by_cases c : M.has n
  · rw [if_pos c] at h0
    have h1 := m'.cells
    obtain ⟨tl, e1, -, -, -⟩ := m.objs.pos (by have := c.2; have := c.1; omega)
    obtain ⟨h, rest, -, h2, h3, h4, e, -, -⟩ := m'.objAt n c
    rw [e1] at h1
    have hw := objIx w c
    have hw1 := hw.1
    have h5 : blkOf L.ov < H.length := m.dom _ _ e
    have hbl : b < H.length := m.dom _ _ m.top
    rw [List.getElem?_append_left h5] at h2
    rw [List.getElem?_append_left hbl] at h1
    have hp : M.shapeAt n = (((M.obj n).nr, (M.obj n).nd, (M.obj n).kd), 0) := by unfold Mdl.shapeAt; rw [if_pos c]
    simp (disch := first | omega | rfl | assumption | (simp only [csN, Nat.reduceAdd, Nat.reduceMul, Nat.reduceLeDiff, Nat.reduceEqDiff] <;> omega) | (simp only [csF]; done) | (simp only [csF] <;> assumption) | fail) only [Nat.reduceEqDiff, Nat.reduceAdd, Nat.reduceMul, Nat.reduceSub, Nat.reduceLeDiff, Int.reduceAdd, Int.reduceSub, Int.reduceMul, Int.reduceLT, Int.reduceLE, Int.reduceGT, Int.reduceGE, Int.reduceEq, Int.reduceBEq, Int.reduceBNe, Int.reduceNeg, Int.reduceToNat, csAll, ↓reduceIte, C67, entry_2, h0, h1, hw1, h2, h3, hp, shape3]
  · rw [if_neg c] at h0
    have hp : M.shapeAt n = ((0, 0, 0), 4) := by unfold Mdl.shapeAt; rw [if_neg c]
    simp (disch := first | omega | rfl | assumption | (simp only [csN, Nat.reduceAdd, Nat.reduceMul, Nat.reduceLeDiff, Nat.reduceEqDiff] <;> omega) | (simp only [csF]; done) | (simp only [csF] <;> assumption) | fail) only [Nat.reduceEqDiff, Nat.reduceAdd, Nat.reduceMul, Nat.reduceSub, Nat.reduceLeDiff, Int.reduceAdd, Int.reduceSub, Int.reduceMul, Int.reduceLT, Int.reduceLE, Int.reduceGT, Int.reduceGE, Int.reduceEq, Int.reduceBEq, Int.reduceBNe, Int.reduceNeg, Int.reduceToNat, csAll, ↓reduceIte, C67, entry_2, h0, hp, shape3]
theorem f68 (m : MRep o g H b M L) (w : M.Ok) (n i : Int) : run P 68 [.ptr b 0, .i n, .i i] H = some (pair2 (M.refAt n i), H) := by
  have h0 := f79 m w n
  rw [run_lv c68]
  by_cases c : M.has n
  · rw [if_pos c] at h0
    have h1 := m.cells
    obtain ⟨tl, e1, -, -, -⟩ := m.objs.pos (by have := c.2; have := c.1; omega)
    obtain ⟨h, rest, -, h2, h3, h4, e, h6, h7⟩ := m.objAt n c
    rw [e1] at h1
    have hw := objIx w c
    have hw1 := hw.1
    have h8 := h6.len
    have hp : M.refAt n i = elAt (M.obj n).refs i := by unfold Mdl.refAt; rw [if_pos c]
    by_cases c1 : 0 ≤ i
    · by_cases c2 : i < ((M.obj n).refs.length : Int)
      · obtain ⟨tl', d1, -, d3, -⟩ := h6.pos (by omega)
        have hx := getD_of (l := (M.obj n).refs) (i := i.toNat) 0 (by omega)
        have hx' := ints_get (M.obj n).refs i.toNat
        rw [hx] at hx'
        have he : elAt (M.obj n).refs i = ((M.obj n).refs.getD i.toNat 0, 0) := by unfold elAt; rw [if_pos ⟨c1, c2⟩]
        rw [d1] at h3 h8
        simp (disch := first | omega | rfl | assumption | (simp only [csN, Nat.reduceAdd, Nat.reduceMul, Nat.reduceLeDiff, Nat.reduceEqDiff] <;> omega) | (simp only [csF]; done) | (simp only [csF] <;> assumption) | fail) only [Nat.reduceEqDiff, Nat.reduceAdd, Nat.reduceMul, Nat.reduceSub, Nat.reduceLeDiff, Int.reduceAdd, Int.reduceSub, Int.reduceMul, Int.reduceLT, Int.reduceLE, Int.reduceGT, Int.reduceGE, Int.reduceEq, Int.reduceBEq, Int.reduceBNe, Int.reduceNeg, Int.reduceToNat, csAll, ↓reduceIte, C68, entry_3, h0, h1, hw1, h2, drop_get, h3, h8, d3, hx', hp, he, pair2]
      · have he : elAt (M.obj n).refs i = (0, 1) := by unfold elAt; rw [if_neg (by omega)]
        simp (disch := first | omega | rfl | assumption | (simp only [csN, Nat.reduceAdd, Nat.reduceMul, Nat.reduceLeDiff, Nat.reduceEqDiff] <;> omega) | (simp only [csF]; done) | (simp only [csF] <;> assumption) | fail) only [Nat.reduceEqDiff, Nat.reduceAdd, Nat.reduceMul, Nat.reduceSub, Nat.reduceLeDiff, Int.reduceAdd, Int.reduceSub, Int.reduceMul, Int.reduceLT, Int.reduceLE, Int.reduceGT, Int.reduceGE, Int.reduceEq, Int.reduceBEq, Int.reduceBNe, Int.reduceNeg, Int.reduceToNat, csAll, ↓reduceIte, C68, entry_3, h0, h1, hw1, h2, drop_get, h3, h8, hp, he, pair2]
    · have he : elAt (M.obj n).refs i = (0, 1) := by unfold elAt; rw [if_neg (by omega)]
      simp (disch := first | omega | rfl | assumption | (simp only [csN, Nat.reduceAdd, Nat.reduceMul, Nat.reduceLeDiff, Nat.reduceEqDiff] <;> omega) | (simp only [csF]; done) | (simp only [csF] <;> assumption) | fail) only [Nat.reduceEqDiff, Nat.reduceAdd, Nat.reduceMul, Nat.reduceSub, Nat.reduceLeDiff, Int.reduceAdd, Int.reduceSub, Int.reduceMul, Int.reduceLT, Int.reduceLE, Int.reduceGT, Int.reduceGE, Int.reduceEq, Int.reduceBEq, Int.reduceBNe, Int.reduceNeg, Int.reduceToNat, csAll, ↓reduceIte, C68, entry_3, h0, h1, hw1, h2, drop_get, h3, h8, hp, he, pair2]
  · rw [if_neg c] at h0
    have hp : M.refAt n i = (0, 4) := by unfold Mdl.refAt; rw [if_neg c]
    simp (disch := first | omega | rfl | assumption | (simp only [csN, Nat.reduceAdd, Nat.reduceMul, Nat.reduceLeDiff, Nat.reduceEqDiff] <;> omega) | (simp only [csF]; done) | (simp only [csF] <;> assumption) | fail) only [Nat.reduceEqDiff, Nat.reduceAdd, Nat.reduceMul, Nat.reduceSub, Nat.reduceLeDiff, Int.reduceAdd, Int.reduceSub, Int.reduceMul, Int.reduceLT, Int.reduceLE, Int.reduceGT, Int.reduceGE, Int.reduceEq, Int.reduceBEq, Int.reduceBNe, Int.reduceNeg, Int.reduceToNat, csAll, ↓reduceIte, C68, entry_3, h0, hp, pair2]
theorem f69 (m : MRep o g H b M L) (w : M.Ok) (n i : Int) : run P 69 [.ptr b 0, .i n, .i i] H = some (pair2 (M.dataAt n i), H) := by
  have h0 := f79 m w n
  rw [run_lv c69]
  by_cases c : M.has n
  · rw [if_pos c] at h0
    have h1 := m.cells
    obtain ⟨tl, e1, -, -, -⟩ := m.objs.pos (by have := c.2; have := c.1; omega)
    obtain ⟨h, rest, -, h2, h3, h4, e, h6, h7⟩ := m.objAt n c
    rw [e1] at h1
    have hw := objIx w c
    have hw1 := hw.1
    have h8 := h7.len
    have hp : M.dataAt n i = elAt (M.obj n).data i := by unfold Mdl.dataAt; rw [if_pos c]
    by_cases c1 : 0 ≤ i
    · by_cases c2 : i < ((M.obj n).data.length : Int)
      · obtain ⟨tl', d1, -, d3, -⟩ := h7.pos (by omega)
        have hx := getD_of (l := (M.obj n).data) (i := i.toNat) 0 (by omega)
        have hx' := ints_get (M.obj n).data i.toNat
        rw [hx] at hx'
        have he : elAt (M.obj n).data i = ((M.obj n).data.getD i.toNat 0, 0) := by unfold elAt; rw [if_pos ⟨c1, c2⟩]
        rw [d1] at h3 h8
        simp (disch := first | omega | rfl | assumption | (simp only [csN, Nat.reduceAdd, Nat.reduceMul, Nat.reduceLeDiff, Nat.reduceEqDiff] <;> omega) | (simp only [csF]; done) | (simp only [csF] <;> assumption) | fail) only [Nat.reduceEqDiff, Nat.reduceAdd, Nat.reduceMul, Nat.reduceSub, Nat.reduceLeDiff, Int.reduceAdd, Int.reduceSub, Int.reduceMul, Int.reduceLT, Int.reduceLE, Int.reduceGT, Int.reduceGE, Int.reduceEq, Int.reduceBEq, Int.reduceBNe, Int.reduceNeg, Int.reduceToNat, csAll, ↓reduceIte, C69, entry_3, h0, h1, hw1, h2, drop_get, h3, h8, d3, hx', hp, he, pair2]
      · have he : elAt (M.obj n).data i = (0, 1) := by unfold elAt; rw [if_neg (by omega)]
        simp (disch := first | omega | rfl | assumption | (simp only [csN, Nat.reduceAdd, Nat.reduceMul, Nat.reduceLeDiff, Nat.reduceEqDiff] <;> omega) | (simp only [csF]; done) | (simp only [csF] <;> assumption) | fail) only [Nat.reduceEqDiff, Nat.reduceAdd, Nat.reduceMul, Nat.reduceSub, Nat.reduceLeDiff, Int.reduceAdd, Int.reduceSub, Int.reduceMul, Int.reduceLT, Int.reduceLE, Int.reduceGT, Int.reduceGE, Int.reduceEq, Int.reduceBEq, Int.reduceBNe, Int.reduceNeg, Int.reduceToNat, csAll, ↓reduceIte, C69, entry_3, h0, h1, hw1, h2, drop_get, h3, h8, hp, he, pair2]
    · have he : elAt (M.obj n).data i = (0, 1) := by unfold elAt; rw [if_neg (by omega)]
      simp (disch := first | omega | rfl | assumption | (simp only [csN, Nat.reduceAdd, Nat.reduceMul, Nat.reduceLeDiff, Nat.reduceEqDiff] <;> omega) | (simp only [csF]; done) | (simp only [csF] <;> assumption) | fail) only [Nat.reduceEqDiff, Nat.reduceAdd, Nat.reduceMul, Nat.reduceSub, Nat.reduceLeDiff, Int.reduceAdd, Int.reduceSub, Int.reduceMul, Int.reduceLT, Int.reduceLE, Int.reduceGT, Int.reduceGE, Int.reduceEq, Int.reduceBEq, Int.reduceBNe, Int.reduceNeg, Int.reduceToNat, csAll, ↓reduceIte, C69, entry_3, h0, h1, hw1, h2, drop_get, h3, h8, hp, he, pair2]
  · rw [if_neg c] at h0
    have hp : M.dataAt n i = (0, 4) := by unfold Mdl.dataAt; rw [if_neg c]
    simp (disch := first | omega | rfl | assumption | (simp only [csN, Nat.reduceAdd, Nat.reduceMul, Nat.reduceLeDiff, Nat.reduceEqDiff] <;> omega) | (simp only [csF]; done) | (simp only [csF] <;> assumption) | fail) only [Nat.reduceEqDiff, Nat.reduceAdd, Nat.reduceMul, Nat.reduceSub, Nat.reduceLeDiff, Int.reduceAdd, Int.reduceSub, Int.reduceMul, Int.reduceLT, Int.reduceLE, Int.reduceGT, Int.reduceGE, Int.reduceEq, Int.reduceBEq, Int.reduceBNe, Int.reduceNeg, Int.reduceToNat, csAll, ↓reduceIte, C69, entry_3, h0, hp, pair2]
/-- SetRef. -/
theorem f60 (m : MRep o g H b M L) (w : M.Ok) (n i to : Int) : Does o g H b (M.setRef n i to).1 (.i (M.setRef n i to).2) (run P 60 [.ptr b 0, .i n, .i i, .i to] H) := by
  have h0 := f79 m w n
  by_cases c : M.has n
  · rw [if_pos c] at h0
    have h1 := m.cells
    obtain ⟨tl, e1, -, -, -⟩ := m.objs.pos (by have := c.2; have := c.1; omega)
    obtain ⟨h, rest, hh0, h2, h3, h4, e, h6, h7⟩ := m.objAt n c
    rw [e1] at h1
    have hw := objIx w c
    have hw1 := hw.1
    have h8 := h6.len
    have h9 := f78 m to
    by_cases ci : 0 ≤ i ∧ i < ((M.obj n).refs.length : Int)
    · obtain ⟨tl', d1, d2, d3, d4⟩ := h6.pos (by omega)
      have hl := ints_len (M.obj n).refs
      have h3' := h3
      rw [d1] at h3 h8
      by_cases ct : to = 0 ∨ M.has to
      · have hs : M.setRef n i to = (M.setObj n { M.obj n with refs := (M.obj n).refs.set i.toNat to }, 0) := by
          unfold Mdl.setRef; rw [if_pos c, if_pos ⟨ci.1, ci.2, ct⟩]
        obtain ⟨mm, ff⟩ := m.putRef c hh0 h6 h7 (i := i.toNat) (by omega) to
        refine ⟨_, o, L, ?_, by rw [hs]; exact mm, ff⟩
        rw [run_lv c60, hs]
        by_cases c0 : to = 0
        · simp (disch := first | omega | rfl | assumption | (simp only [csN, Nat.reduceAdd, Nat.reduceMul, Nat.reduceLeDiff, Nat.reduceEqDiff] <;> omega) | (simp only [csF]; done) | (simp only [csF] <;> assumption) | fail) only [Nat.reduceEqDiff, Nat.reduceAdd, Nat.reduceMul, Nat.reduceSub, Nat.reduceLeDiff, Int.reduceAdd, Int.reduceSub, Int.reduceMul, Int.reduceLT, Int.reduceLE, Int.reduceGT, Int.reduceGE, Int.reduceEq, Int.reduceBEq, Int.reduceBNe, Int.reduceNeg, Int.reduceToNat, csAll, ↓reduceIte, C60, entry_4, h0, h1, hw1, h2, drop_get, h3, h8, d3, hl, ints_set]
        · have ct' : decide (M.has to) = true := by simp [ct.resolve_left c0]
          simp (disch := first | omega | rfl | assumption | (simp only [csN, Nat.reduceAdd, Nat.reduceMul, Nat.reduceLeDiff, Nat.reduceEqDiff] <;> omega) | (simp only [csF]; done) | (simp only [csF] <;> assumption) | fail) only [Nat.reduceEqDiff, Nat.reduceAdd, Nat.reduceMul, Nat.reduceSub, Nat.reduceLeDiff, Int.reduceAdd, Int.reduceSub, Int.reduceMul, Int.reduceLT, Int.reduceLE, Int.reduceGT, Int.reduceGE, Int.reduceEq, Int.reduceBEq, Int.reduceBNe, Int.reduceNeg, Int.reduceToNat, csAll, ↓reduceIte, C60, entry_4, h0, h1, hw1, h2, drop_get, h3, h8, h9, ct', d3, hl, ints_set]
      · have hs : M.setRef n i to = (M, 1) := by
          unfold Mdl.setRef; rw [if_pos c, if_neg (fun h => ct h.2.2)]
        refine ⟨H, o, L, ?_, by rw [hs]; exact m, .refl m.dom⟩
        rw [run_lv c60, hs]
        simp only [not_or] at ct
        have c0 := ct.1
        have ct' : decide (M.has to) = false := by simp [ct.2]
        simp (disch := first | omega | rfl | assumption | (simp only [csN, Nat.reduceAdd, Nat.reduceMul, Nat.reduceLeDiff, Nat.reduceEqDiff] <;> omega) | (simp only [csF]; done) | (simp only [csF] <;> assumption) | fail) only [Nat.reduceEqDiff, Nat.reduceAdd, Nat.reduceMul, Nat.reduceSub, Nat.reduceLeDiff, Int.reduceAdd, Int.reduceSub, Int.reduceMul, Int.reduceLT, Int.reduceLE, Int.reduceGT, Int.reduceGE, Int.reduceEq, Int.reduceBEq, Int.reduceBNe, Int.reduceNeg, Int.reduceToNat, csAll, ↓reduceIte, C60, entry_4, h0, h1, hw1, h2, drop_get, h3, h8, h9, ct']
    · have hs : M.setRef n i to = (M, 1) := by
        unfold Mdl.setRef; rw [if_pos c, if_neg (fun h => ci ⟨h.1, h.2.1⟩)]
      refine ⟨H, o, L, ?_, by rw [hs]; exact m, .refl m.dom⟩
      rw [run_lv c60, hs]
      by_cases c1 : 0 ≤ i
      · simp (disch := first | omega | rfl | assumption | (simp only [csN, Nat.reduceAdd, Nat.reduceMul, Nat.reduceLeDiff, Nat.reduceEqDiff] <;> omega) | (simp only [csF]; done) | (simp only [csF] <;> assumption) | fail) only [Nat.reduceEqDiff, Nat.reduceAdd, Nat.reduceMul, Nat.reduceSub, Nat.reduceLeDiff, Int.reduceAdd, Int.reduceSub, Int.reduceMul, Int.reduceLT, Int.reduceLE, Int.reduceGT, Int.reduceGE, Int.reduceEq, Int.reduceBEq, Int.reduceBNe, Int.reduceNeg, Int.reduceToNat, csAll, ↓reduceIte, C60, entry_4, h0, h1, hw1, h2, drop_get, h3, h8]
      · simp (disch := first | omega | rfl | assumption | (simp only [csN, Nat.reduceAdd, Nat.reduceMul, Nat.reduceLeDiff, Nat.reduceEqDiff] <;> omega) | (simp only [csF]; done) | (simp only [csF] <;> assumption) | fail) only [Nat.reduceEqDiff, Nat.reduceAdd, Nat.reduceMul, Nat.reduceSub, Nat.reduceLeDiff, Int.reduceAdd, Int.reduceSub, Int.reduceMul, Int.reduceLT, Int.reduceLE, Int.reduceGT, Int.reduceGE, Int.reduceEq, Int.reduceBEq, Int.reduceBNe, Int.reduceNeg, Int.reduceToNat, csAll, ↓reduceIte, C60, entry_4, h0, h1, hw1, h2, drop_get, h3, h8]
  · rw [if_neg c] at h0
    have hs : M.setRef n i to = (M, 4) := by unfold Mdl.setRef; rw [if_neg c]
    refine ⟨H, o, L, ?_, by rw [hs]; exact m, .refl m.dom⟩
    rw [run_lv c60, hs]
    simp (disch := first | omega | rfl | assumption | (simp only [csN, Nat.reduceAdd, Nat.reduceMul, Nat.reduceLeDiff, Nat.reduceEqDiff] <;> omega) | (simp only [csF]; done) | (simp only [csF] <;> assumption) | fail) only [Nat.reduceEqDiff, Nat.reduceAdd, Nat.reduceMul, Nat.reduceSub, Nat.reduceLeDiff, Int.reduceAdd, Int.reduceSub, Int.reduceMul, Int.reduceLT, Int.reduceLE, Int.reduceGT, Int.reduceGE, Int.reduceEq, Int.reduceBEq, Int.reduceBNe, Int.reduceNeg, Int.reduceToNat, csAll, ↓reduceIte, C60, entry_4, h0]
/-- Push. -/
theorem f58 (m : MRep o g H b M L) (w : M.Ok) (n : Int) : Does o g H b (M.push n).1 (.i (M.push n).2) (run P 58 [.ptr b 0, .i n] H) := by
  have h0 := m.cells
  have h1 := f54 m w
  have h2 := f78 m n
  have h3 := m.queue.len
  have hb := lt_of_get h0
  have hq64 := w.q64.1
  by_cases c : M.has n
  · have c' : decide (M.has n) = true := by simp [c]
    by_cases q : M.queue.length = 64
    · have hs : M.push n = (M, 6) := by unfold Mdl.push; rw [if_pos c, if_pos q]
      refine ⟨H, o, L, ?_, by rw [hs]; exact m, .refl m.dom⟩
      rw [run_lv c58, hs]
      simp (disch := first | omega | rfl | assumption | (simp only [csN, Nat.reduceAdd, Nat.reduceMul, Nat.reduceLeDiff, Nat.reduceEqDiff] <;> omega) | (simp only [csF]; done) | (simp only [csF] <;> assumption) | fail) only [Nat.reduceEqDiff, Nat.reduceAdd, Nat.reduceMul, Nat.reduceSub, Nat.reduceLeDiff, Int.reduceAdd, Int.reduceSub, Int.reduceMul, Int.reduceLT, Int.reduceLE, Int.reduceGT, Int.reduceGE, Int.reduceEq, Int.reduceBEq, Int.reduceBNe, Int.reduceNeg, Int.reduceToNat, csAll, ↓reduceIte, C58, entry_2, h0, h1, h2, h3, c']
    · have hs : M.push n = ({ M with queue := M.queue ++ [n] }, 0) := by unfold Mdl.push; rw [if_pos c, if_neg q]
      have mm := m.app [⟨[.i n], .rw, 1⟩]
      obtain ⟨H', e1, e2, e3, e4⟩ := mm.queue.append (k := 1) (new := [.i n]) (by omega) (Nat.le_trans (Nat.add_le_add_right w.q64.1 1) (by decide)) (by simp [leaf]) (by simp)
      simp only [List.length_append, List.length_cons, List.length_nil, Nat.zero_add] at e1 e2 e3 e4
      have hbk : H'[b]? = some ⟨[L.sl, L.gl, L.qv, L.ov], .rw, 0⟩ := by
        rw [e4 b (by omega) (by rw [m.top]; simp), List.getElem?_append_left hb, h0]
      have hf := m.newQueue (Hf := H'.set b ⟨[L.sl, L.gl, .slice (H.length + 1) 0 (M.queue.length + 1) (M.queue.length + 1) 1 true, L.ov], .rw, 0⟩) (l := M.queue ++ [n])
        (.inr ⟨H.length + 1, true, (by simp : CV.slice (H.length + 1) 0 (M.queue.length + 1) (M.queue.length + 1) 1 true = _), Loc_some.2 ⟨by omega, rfl⟩, by rw [List.getElem?_set_ne (by omega), e3, ints_app]; rfl, by simp [ints_len]⟩)
        (by rw [List.length_set]; omega) (by rw [List.getElem?_set_self (by omega)])
        (fun d hd h h' => by rw [List.getElem?_set_ne (Ne.symm h'), e4 d (by omega) h, List.getElem?_append_left hd])
      obtain ⟨o', L', r1, r2⟩ := hf
      refine ⟨_, o', L', ?_, by rw [hs]; exact r1, r2⟩
      rw [run_lv c58, hs]
      have hst : elems (H ++ [⟨[.i n], .rw, 1⟩]) 1 (.slice H.length 0 1 1 1 false) = some (1, [.i n]) := by
        unfold elems loadN; simp
      simp (disch := first | omega | rfl | assumption | (simp only [csN, Nat.reduceAdd, Nat.reduceMul, Nat.reduceLeDiff, Nat.reduceEqDiff] <;> omega) | (simp only [csF]; done) | (simp only [csF] <;> assumption) | fail) only [Nat.reduceEqDiff, Nat.reduceAdd, Nat.reduceMul, Nat.reduceSub, Nat.reduceLeDiff, Int.reduceAdd, Int.reduceSub, Int.reduceMul, Int.reduceLT, Int.reduceLE, Int.reduceGT, Int.reduceGE, Int.reduceEq, Int.reduceBEq, Int.reduceBNe, Int.reduceNeg, Int.reduceToNat, csAll, ↓reduceIte, C58, entry_2, h0, h1, h2, h3, c', hst, e1, hbk]
  · have c' : decide (M.has n) = false := by simp [c]
    have hs : M.push n = (M, 4) := by unfold Mdl.push; rw [if_neg c]
    refine ⟨H, o, L, ?_, by rw [hs]; exact m, .refl m.dom⟩
    rw [run_lv c58, hs]
    simp (disch := first | omega | rfl | assumption | (simp only [csN, Nat.reduceAdd, Nat.reduceMul, Nat.reduceLeDiff, Nat.reduceEqDiff] <;> omega) | (simp only [csF]; done) | (simp only [csF] <;> assumption) | fail) only [Nat.reduceEqDiff, Nat.reduceAdd, Nat.reduceMul, Nat.reduceSub, Nat.reduceLeDiff, Int.reduceAdd, Int.reduceSub, Int.reduceMul, Int.reduceLT, Int.reduceLE, Int.reduceGT, Int.reduceGE, Int.reduceEq, Int.reduceBEq, Int.reduceBNe, Int.reduceNeg, Int.reduceToNat, csAll, ↓reduceIte, C58, entry_2, h1, h2, c']
/-- append([]int{}, l...). -/
theorem app0 {v : CV} {n : Nat} {cs : List CV} (he : elems (H ++ [⟨[], .rw, 1⟩]) 1 v = some (n, cs)) (hc : cs.length = n) (hl : cs.all leaf = true) (hn : n ≤ maxEls) :
    ∃ v' J, appendTo (H ++ [⟨[], .rw, 1⟩]) 1 (.slice H.length 0 0 0 1 false) n cs = some (v', H ++ J) ∧ At (Loc H.length) z3 (H ++ J) v' 1 n cs ∧ J ≠ [] := by
  rcases Nat.eq_zero_or_pos n with rfl | hp
  · have : cs = [] := List.eq_nil_of_length_eq_zero hc
    subst this
    exact ⟨_, [⟨[], .rw, 1⟩], rfl, .inl ⟨rfl, rfl, .inr ⟨_, _, rfl⟩⟩, by simp⟩
  · refine ⟨.slice (H.length + 1) 0 n n 1 true, [⟨[], .rw, 1⟩, ⟨cs, .rw, 1⟩], ?_, ?_, by simp⟩
    · unfold appendTo
      dsimp only
      rw [if_neg (by omega), if_neg (by omega), if_pos (by omega)]
      simp
    · refine .inr ⟨_, _, rfl, Loc_some.2 ⟨by omega, rfl⟩, ?_, by omega⟩
      rw [List.getElem?_append_right (by omega)]; simp
/-- Queue. -/
theorem f63 (m : MRep o g H b M L) (w : M.Ok) : ∃ v J, run P 63 [.ptr b 0] H = some (v, H ++ J) ∧ At (Loc H.length) z3 (H ++ J) v 1 M.queue.length (Go.Cs.ints M.queue) := by
  have h1 := m.cells
  have h2 := f54 m w
  have hb := lt_of_get h1
  have he := m.queue.elems (H' := H ++ [⟨[], .rw, 1⟩]) (fun c hc => List.getElem?_append_left (m.dom _ _ hc))
  obtain ⟨v, J, e, h, -⟩ := app0 he (ints_len _) (ints_leaf _) (Nat.le_trans w.q64.1 (by decide))
  refine ⟨v, J, ?_, h⟩
  rw [run_lv c63]
  simp (disch := first | omega | rfl | assumption | (simp only [csN, Nat.reduceAdd, Nat.reduceMul, Nat.reduceLeDiff, Nat.reduceEqDiff] <;> omega) | (simp only [csF]; done) | (simp only [csF] <;> assumption) | fail) only [Nat.reduceEqDiff, Nat.reduceAdd, Nat.reduceMul, Nat.reduceSub, Nat.reduceLeDiff, Int.reduceAdd, Int.reduceSub, Int.reduceMul, Int.reduceLT, Int.reduceLE, Int.reduceGT, Int.reduceGE, Int.reduceEq, Int.reduceBEq, Int.reduceBNe, Int.reduceNeg, Int.reduceToNat, csAll, ↓reduceIte, C63, entry_1, h1, h2, he, e]
/-- Pop. -/
theorem f59 (m : MRep o g H b M L) (w : M.Ok) : Does o g H b M.pop.1 (pair2 M.pop.2) (run P 59 [.ptr b 0] H) := by
  have h0 := m.cells
  have h1 := f54 m w
  have h3 := m.queue.len
  have hb := lt_of_get h0
  cases hq : M.queue with
  | nil =>
    have hs : M.pop = (M, 0, 4) := by unfold Mdl.pop; rw [hq]
    refine ⟨H, o, L, ?_, by rw [hs]; exact m, .refl m.dom⟩
    rw [hq] at h3
    rw [run_lv c59, hs]
    simp (disch := first | omega | rfl | assumption | (simp only [csN, Nat.reduceAdd, Nat.reduceMul, Nat.reduceLeDiff, Nat.reduceEqDiff] <;> omega) | (simp only [csF]; done) | (simp only [csF] <;> assumption) | fail) only [Nat.reduceEqDiff, Nat.reduceAdd, Nat.reduceMul, Nat.reduceSub, Nat.reduceLeDiff, Int.reduceAdd, Int.reduceSub, Int.reduceMul, Int.reduceLT, Int.reduceLE, Int.reduceGT, Int.reduceGE, Int.reduceEq, Int.reduceBEq, Int.reduceBNe, Int.reduceNeg, Int.reduceToNat, csAll, ↓reduceIte, C59, entry_1, h0, h1, h3, pair2]
  | cons a r =>
    have hs : M.pop = ({ M with queue := r }, a, 0) := by unfold Mdl.pop; rw [hq]
    have mq := m.queue
    rw [hq] at mq h3
    obtain ⟨tl, d1, d2, d3, d4⟩ := mq.pos (by simp)
    have d5 := lt_of_get d3
    rw [ints_cons] at d3
    rw [d1] at h0 h3
    have hle : r.length + 1 ≤ 64 := by have := w.q64.1; rw [hq] at this; simpa using this
    have hel : elems (H ++ [⟨[], .rw, 1⟩]) 1 (.slice (blkOf L.qv) 1 r.length r.length 1 tl) = some (r.length, Go.Cs.ints r) := by
      rcases Nat.eq_zero_or_pos r.length with hr | hr
      · rw [hr]
        have : r = [] := List.eq_nil_of_length_eq_zero hr
        subst this; rfl
      · rw [elems_s hr, List.getElem?_append_left d5, d3, ldN_rw, if_pos (by simp [ints_len]; omega)]
        simp [← ints_len r]
    obtain ⟨v', J, e1, e2, -⟩ := app0 hel (ints_len _) (ints_leaf _) (Nat.le_trans (by omega : r.length ≤ 64) (by decide))
    have hf := m.newQueue (Hf := (H ++ J).set b ⟨[L.sl, L.gl, v', L.ov], .rw, 0⟩) (l := r) (e2.frame (fun _ h => h) (fun c hc => by
        rw [List.getElem?_set_ne]
        have := (Loc_some.1 hc).1; omega)) (by simp) (by rw [List.getElem?_set_self (by simp; omega)])
      (fun d hd h h' => by rw [List.getElem?_set_ne (Ne.symm h'), List.getElem?_append_left hd])
    obtain ⟨o', L', r1, r2⟩ := hf
    refine ⟨_, o', L', ?_, by rw [hs]; exact r1, r2⟩
    have hbk : (H ++ J)[b]? = some ⟨[L.sl, L.gl, L.qv, L.ov], .rw, 0⟩ := by rw [List.getElem?_append_left hb, m.cells]
    have hst : sliceV 1 (.slice (blkOf L.qv) 0 (r.length + 1) (r.length + 1) 1 tl) (some (.i 1)) none none = some (.slice (blkOf L.qv) 1 r.length r.length 1 tl) := by
      simp [sliceV, sliceBndsV, boundOV, boundV]
      rw [if_pos (by omega)]
      rfl
    have hv' := e2.leaf
    rw [run_lv c59, hs]
    simp only [List.length_cons] at h0 h3
    rw [d1] at hbk
    simp only [List.length_cons] at hbk
    simp (disch := first | omega | rfl | assumption | (simp only [csN, Nat.reduceAdd, Nat.reduceMul, Nat.reduceLeDiff, Nat.reduceEqDiff] <;> omega) | (simp only [csF]; done) | (simp only [csF] <;> assumption) | fail) only [Nat.reduceEqDiff, Nat.reduceAdd, Nat.reduceMul, Nat.reduceSub, Nat.reduceLeDiff, Int.reduceAdd, Int.reduceSub, Int.reduceMul, Int.reduceLT, Int.reduceLE, Int.reduceGT, Int.reduceGE, Int.reduceEq, Int.reduceBEq, Int.reduceBNe, Int.reduceNeg, Int.reduceToNat, csAll, ↓reduceIte, C59, entry_1, h0, h1, h3, pair2, d3, hst, hel, e1, hbk]
end
end Go.Cs.Try

/- The reference's Do: the errors of an act. -/
namespace Go.Cs
open Go
def headErr (ns : Nat) (mu : Int) (x : Act) : Int :=
  if ¬ (0 ≤ mu ∧ mu < (ns : Int) ∧ 0 ≤ x.k ∧ x.k < 12) then 1 else if ¬ ((0 ≤ x.a ∧ x.a < 16) ∧ (wB x.k = true → 0 ≤ x.b ∧ x.b < 16)) then 1 else if x.k = 0 ∧ ¬ validS x.nr x.nd x.sk then 2 else 0
def idxOk (x : Act) (nr nd : Int) : Prop := (x.k = 1 ∨ x.k = 2 → 0 ≤ x.i ∧ x.i < nr) ∧ (x.k = 3 ∨ x.k = 4 → 0 ≤ x.i ∧ x.i < nd) ∧ (x.k = 9 ∨ x.k = 10 → 0 ≤ x.i ∧ x.i < 16)
instance (x : Act) (nr nd : Int) : Decidable (idxOk x nr nd) := by unfold idxOk; exact inferInstance
theorem wB_eq {k : Int} : wB k = decide (k = 1 ∨ k = 2 ∨ k = 5 ∨ k = 7) := by
  unfold wB
  by_cases h1 : k = 1
  · simp [h1]
  by_cases h2 : k = 2
  · simp [h2]
  by_cases h5 : k = 5
  · simp [h5]
  by_cases h7 : k = 7
  · simp [h7]
  simp [h1, h2, h5, h7]
end Go.Cs
namespace Go.Cs.Try
open Go Go.Cs
set_option maxRecDepth 100000
set_option maxHeartbeats 8000000
section
variable {H : CHeap}
theorem f104 {k : Int} : run P 104 [.i k] H = some (.bool (wB k), H) := by
  rw [run_lv c104, wB_eq]
  by_cases h1 : k = 1
  · have hd : decide (k = 1 ∨ k = 2 ∨ k = 5 ∨ k = 7) = true := decide_eq_true (by omega)
    simp (disch := first | omega | rfl | assumption | (simp only [csN, Nat.reduceAdd, Nat.reduceMul, Nat.reduceLeDiff, Nat.reduceEqDiff] <;> omega) | (simp only [csF]; done) | (simp only [csF] <;> assumption) | fail) only [Nat.reduceEqDiff, Nat.reduceAdd, Nat.reduceMul, Nat.reduceSub, Nat.reduceLeDiff, Int.reduceAdd, Int.reduceSub, Int.reduceMul, Int.reduceLT, Int.reduceLE, Int.reduceGT, Int.reduceGE, Int.reduceEq, Int.reduceBEq, Int.reduceBNe, Int.reduceNeg, Int.reduceToNat, csAll, ↓reduceIte, C104, entry_1, hd]
  by_cases h2 : k = 2
  · have hd : decide (k = 1 ∨ k = 2 ∨ k = 5 ∨ k = 7) = true := decide_eq_true (by omega)
    simp (disch := first | omega | rfl | assumption | (simp only [csN, Nat.reduceAdd, Nat.reduceMul, Nat.reduceLeDiff, Nat.reduceEqDiff] <;> omega) | (simp only [csF]; done) | (simp only [csF] <;> assumption) | fail) only [Nat.reduceEqDiff, Nat.reduceAdd, Nat.reduceMul, Nat.reduceSub, Nat.reduceLeDiff, Int.reduceAdd, Int.reduceSub, Int.reduceMul, Int.reduceLT, Int.reduceLE, Int.reduceGT, Int.reduceGE, Int.reduceEq, Int.reduceBEq, Int.reduceBNe, Int.reduceNeg, Int.reduceToNat, csAll, ↓reduceIte, C104, entry_1, hd]
  by_cases h5 : k = 5
  · have hd : decide (k = 1 ∨ k = 2 ∨ k = 5 ∨ k = 7) = true := decide_eq_true (by omega)
    simp (disch := first | omega | rfl | assumption | (simp only [csN, Nat.reduceAdd, Nat.reduceMul, Nat.reduceLeDiff, Nat.reduceEqDiff] <;> omega) | (simp only [csF]; done) | (simp only [csF] <;> assumption) | fail) only [Nat.reduceEqDiff, Nat.reduceAdd, Nat.reduceMul, Nat.reduceSub, Nat.reduceLeDiff, Int.reduceAdd, Int.reduceSub, Int.reduceMul, Int.reduceLT, Int.reduceLE, Int.reduceGT, Int.reduceGE, Int.reduceEq, Int.reduceBEq, Int.reduceBNe, Int.reduceNeg, Int.reduceToNat, csAll, ↓reduceIte, C104, entry_1, hd]
  by_cases h7 : k = 7
  · have hd : decide (k = 1 ∨ k = 2 ∨ k = 5 ∨ k = 7) = true := decide_eq_true (by omega)
    simp (disch := first | omega | rfl | assumption | (simp only [csN, Nat.reduceAdd, Nat.reduceMul, Nat.reduceLeDiff, Nat.reduceEqDiff] <;> omega) | (simp only [csF]; done) | (simp only [csF] <;> assumption) | fail) only [Nat.reduceEqDiff, Nat.reduceAdd, Nat.reduceMul, Nat.reduceSub, Nat.reduceLeDiff, Int.reduceAdd, Int.reduceSub, Int.reduceMul, Int.reduceLT, Int.reduceLE, Int.reduceGT, Int.reduceGE, Int.reduceEq, Int.reduceBEq, Int.reduceBNe, Int.reduceNeg, Int.reduceToNat, csAll, ↓reduceIte, C104, entry_1, hd]
  have hd : decide (k = 1 ∨ k = 2 ∨ k = 5 ∨ k = 7) = false := decide_eq_false (by omega)
  simp (disch := first | omega | rfl | assumption | (simp only [csN, Nat.reduceAdd, Nat.reduceMul, Nat.reduceLeDiff, Nat.reduceEqDiff] <;> omega) | (simp only [csF]; done) | (simp only [csF] <;> assumption) | fail) only [Nat.reduceEqDiff, Nat.reduceAdd, Nat.reduceMul, Nat.reduceSub, Nat.reduceLeDiff, Int.reduceAdd, Int.reduceSub, Int.reduceMul, Int.reduceLT, Int.reduceLE, Int.reduceGT, Int.reduceGE, Int.reduceEq, Int.reduceBEq, Int.reduceBNe, Int.reduceNeg, Int.reduceToNat, csAll, ↓reduceIte, C104, entry_1, hd]
theorem f102 {x : Act} : run P 102 [.agg (actCells x)] H = some (.i (wNeed x), H ++ [⟨actCells x, .rw, 0⟩]) := by
  rw [run_lv c102]
  unfold wNeed actCells
  by_cases h1 : x.k = 1
  · rw [if_pos h1]; simp (disch := first | omega | rfl | assumption | (simp only [csN, Nat.reduceAdd, Nat.reduceMul, Nat.reduceLeDiff, Nat.reduceEqDiff] <;> omega) | (simp only [csF]; done) | (simp only [csF] <;> assumption) | fail) only [Nat.reduceEqDiff, Nat.reduceAdd, Nat.reduceMul, Nat.reduceSub, Nat.reduceLeDiff, Int.reduceAdd, Int.reduceSub, Int.reduceMul, Int.reduceLT, Int.reduceLE, Int.reduceGT, Int.reduceGE, Int.reduceEq, Int.reduceBEq, Int.reduceBNe, Int.reduceNeg, Int.reduceToNat, csAll, ↓reduceIte, C102, entry_1]
  rw [if_neg h1]
  by_cases h2 : x.k = 2
  · rw [if_pos (by omega)]; simp (disch := first | omega | rfl | assumption | (simp only [csN, Nat.reduceAdd, Nat.reduceMul, Nat.reduceLeDiff, Nat.reduceEqDiff] <;> omega) | (simp only [csF]; done) | (simp only [csF] <;> assumption) | fail) only [Nat.reduceEqDiff, Nat.reduceAdd, Nat.reduceMul, Nat.reduceSub, Nat.reduceLeDiff, Int.reduceAdd, Int.reduceSub, Int.reduceMul, Int.reduceLT, Int.reduceLE, Int.reduceGT, Int.reduceGE, Int.reduceEq, Int.reduceBEq, Int.reduceBNe, Int.reduceNeg, Int.reduceToNat, csAll, ↓reduceIte, C102, entry_1]
  by_cases h3 : x.k = 3
  · rw [if_pos (by omega)]; simp (disch := first | omega | rfl | assumption | (simp only [csN, Nat.reduceAdd, Nat.reduceMul, Nat.reduceLeDiff, Nat.reduceEqDiff] <;> omega) | (simp only [csF]; done) | (simp only [csF] <;> assumption) | fail) only [Nat.reduceEqDiff, Nat.reduceAdd, Nat.reduceMul, Nat.reduceSub, Nat.reduceLeDiff, Int.reduceAdd, Int.reduceSub, Int.reduceMul, Int.reduceLT, Int.reduceLE, Int.reduceGT, Int.reduceGE, Int.reduceEq, Int.reduceBEq, Int.reduceBNe, Int.reduceNeg, Int.reduceToNat, csAll, ↓reduceIte, C102, entry_1]
  by_cases h4 : x.k = 4
  · rw [if_pos (by omega)]; simp (disch := first | omega | rfl | assumption | (simp only [csN, Nat.reduceAdd, Nat.reduceMul, Nat.reduceLeDiff, Nat.reduceEqDiff] <;> omega) | (simp only [csF]; done) | (simp only [csF] <;> assumption) | fail) only [Nat.reduceEqDiff, Nat.reduceAdd, Nat.reduceMul, Nat.reduceSub, Nat.reduceLeDiff, Int.reduceAdd, Int.reduceSub, Int.reduceMul, Int.reduceLT, Int.reduceLE, Int.reduceGT, Int.reduceGE, Int.reduceEq, Int.reduceBEq, Int.reduceBNe, Int.reduceNeg, Int.reduceToNat, csAll, ↓reduceIte, C102, entry_1]
  by_cases h11 : x.k = 11
  · rw [if_pos (by omega)]; simp (disch := first | omega | rfl | assumption | (simp only [csN, Nat.reduceAdd, Nat.reduceMul, Nat.reduceLeDiff, Nat.reduceEqDiff] <;> omega) | (simp only [csF]; done) | (simp only [csF] <;> assumption) | fail) only [Nat.reduceEqDiff, Nat.reduceAdd, Nat.reduceMul, Nat.reduceSub, Nat.reduceLeDiff, Int.reduceAdd, Int.reduceSub, Int.reduceMul, Int.reduceLT, Int.reduceLE, Int.reduceGT, Int.reduceGE, Int.reduceEq, Int.reduceBEq, Int.reduceBNe, Int.reduceNeg, Int.reduceToNat, csAll, ↓reduceIte, C102, entry_1]
  rw [if_neg (by omega)]; simp (disch := first | omega | rfl | assumption | (simp only [csN, Nat.reduceAdd, Nat.reduceMul, Nat.reduceLeDiff, Nat.reduceEqDiff] <;> omega) | (simp only [csF]; done) | (simp only [csF] <;> assumption) | fail) only [Nat.reduceEqDiff, Nat.reduceAdd, Nat.reduceMul, Nat.reduceSub, Nat.reduceLeDiff, Int.reduceAdd, Int.reduceSub, Int.reduceMul, Int.reduceLT, Int.reduceLE, Int.reduceGT, Int.reduceGE, Int.reduceEq, Int.reduceBEq, Int.reduceBNe, Int.reduceNeg, Int.reduceToNat, csAll, ↓reduceIte, C102, entry_1]
theorem f105 {nr nd sk : Int} : run P 105 [.agg [.i nr, .i nd, .i sk]] H = some (.bool (decide (validS nr nd sk)), H ++ [⟨[.i nr, .i nd, .i sk], .rw, 0⟩]) := by
  rw [run_lv c105]
  by_cases h0 : 0 ≤ nr
  case neg =>
    have hd : decide (validS nr nd sk) = false := decide_eq_false (fun h => by unfold validS at h; omega)
    simp (disch := first | omega | rfl | assumption | (simp only [csN, Nat.reduceAdd, Nat.reduceMul, Nat.reduceLeDiff, Nat.reduceEqDiff] <;> omega) | (simp only [csF]; done) | (simp only [csF] <;> assumption) | fail) only [Nat.reduceEqDiff, Nat.reduceAdd, Nat.reduceMul, Nat.reduceSub, Nat.reduceLeDiff, Int.reduceAdd, Int.reduceSub, Int.reduceMul, Int.reduceLT, Int.reduceLE, Int.reduceGT, Int.reduceGE, Int.reduceEq, Int.reduceBEq, Int.reduceBNe, Int.reduceNeg, Int.reduceToNat, csAll, ↓reduceIte, C105, entry_1, hd]
  by_cases h1 : nr ≤ 15
  case neg =>
    have hd : decide (validS nr nd sk) = false := decide_eq_false (fun h => by unfold validS at h; omega)
    simp (disch := first | omega | rfl | assumption | (simp only [csN, Nat.reduceAdd, Nat.reduceMul, Nat.reduceLeDiff, Nat.reduceEqDiff] <;> omega) | (simp only [csF]; done) | (simp only [csF] <;> assumption) | fail) only [Nat.reduceEqDiff, Nat.reduceAdd, Nat.reduceMul, Nat.reduceSub, Nat.reduceLeDiff, Int.reduceAdd, Int.reduceSub, Int.reduceMul, Int.reduceLT, Int.reduceLE, Int.reduceGT, Int.reduceGE, Int.reduceEq, Int.reduceBEq, Int.reduceBNe, Int.reduceNeg, Int.reduceToNat, csAll, ↓reduceIte, C105, entry_1, hd]
  by_cases h2 : 0 ≤ nd
  case neg =>
    have hd : decide (validS nr nd sk) = false := decide_eq_false (fun h => by unfold validS at h; omega)
    simp (disch := first | omega | rfl | assumption | (simp only [csN, Nat.reduceAdd, Nat.reduceMul, Nat.reduceLeDiff, Nat.reduceEqDiff] <;> omega) | (simp only [csF]; done) | (simp only [csF] <;> assumption) | fail) only [Nat.reduceEqDiff, Nat.reduceAdd, Nat.reduceMul, Nat.reduceSub, Nat.reduceLeDiff, Int.reduceAdd, Int.reduceSub, Int.reduceMul, Int.reduceLT, Int.reduceLE, Int.reduceGT, Int.reduceGE, Int.reduceEq, Int.reduceBEq, Int.reduceBNe, Int.reduceNeg, Int.reduceToNat, csAll, ↓reduceIte, C105, entry_1, hd]
  by_cases h3 : nd ≤ 200
  case neg =>
    have hd : decide (validS nr nd sk) = false := decide_eq_false (fun h => by unfold validS at h; omega)
    simp (disch := first | omega | rfl | assumption | (simp only [csN, Nat.reduceAdd, Nat.reduceMul, Nat.reduceLeDiff, Nat.reduceEqDiff] <;> omega) | (simp only [csF]; done) | (simp only [csF] <;> assumption) | fail) only [Nat.reduceEqDiff, Nat.reduceAdd, Nat.reduceMul, Nat.reduceSub, Nat.reduceLeDiff, Int.reduceAdd, Int.reduceSub, Int.reduceMul, Int.reduceLT, Int.reduceLE, Int.reduceGT, Int.reduceGE, Int.reduceEq, Int.reduceBEq, Int.reduceBNe, Int.reduceNeg, Int.reduceToNat, csAll, ↓reduceIte, C105, entry_1, hd]
  by_cases k0 : sk = 0
  · have hd : decide (validS nr nd sk) = true := decide_eq_true (by unfold validS; omega)
    simp (disch := first | omega | rfl | assumption | (simp only [csN, Nat.reduceAdd, Nat.reduceMul, Nat.reduceLeDiff, Nat.reduceEqDiff] <;> omega) | (simp only [csF]; done) | (simp only [csF] <;> assumption) | fail) only [Nat.reduceEqDiff, Nat.reduceAdd, Nat.reduceMul, Nat.reduceSub, Nat.reduceLeDiff, Int.reduceAdd, Int.reduceSub, Int.reduceMul, Int.reduceLT, Int.reduceLE, Int.reduceGT, Int.reduceGE, Int.reduceEq, Int.reduceBEq, Int.reduceBNe, Int.reduceNeg, Int.reduceToNat, csAll, ↓reduceIte, C105, entry_1, hd]
  by_cases k3 : sk = 3
  · have hd : decide (validS nr nd sk) = true := decide_eq_true (by unfold validS; omega)
    simp (disch := first | omega | rfl | assumption | (simp only [csN, Nat.reduceAdd, Nat.reduceMul, Nat.reduceLeDiff, Nat.reduceEqDiff] <;> omega) | (simp only [csF]; done) | (simp only [csF] <;> assumption) | fail) only [Nat.reduceEqDiff, Nat.reduceAdd, Nat.reduceMul, Nat.reduceSub, Nat.reduceLeDiff, Int.reduceAdd, Int.reduceSub, Int.reduceMul, Int.reduceLT, Int.reduceLE, Int.reduceGT, Int.reduceGE, Int.reduceEq, Int.reduceBEq, Int.reduceBNe, Int.reduceNeg, Int.reduceToNat, csAll, ↓reduceIte, C105, entry_1, hd]
  by_cases k1 : sk = 1
  · by_cases h7 : 1 ≤ nr
    · have hd : decide (validS nr nd sk) = true := decide_eq_true (by unfold validS; omega)
      simp (disch := first | omega | rfl | assumption | (simp only [csN, Nat.reduceAdd, Nat.reduceMul, Nat.reduceLeDiff, Nat.reduceEqDiff] <;> omega) | (simp only [csF]; done) | (simp only [csF] <;> assumption) | fail) only [Nat.reduceEqDiff, Nat.reduceAdd, Nat.reduceMul, Nat.reduceSub, Nat.reduceLeDiff, Int.reduceAdd, Int.reduceSub, Int.reduceMul, Int.reduceLT, Int.reduceLE, Int.reduceGT, Int.reduceGE, Int.reduceEq, Int.reduceBEq, Int.reduceBNe, Int.reduceNeg, Int.reduceToNat, csAll, ↓reduceIte, C105, entry_1, hd]
    · have hd : decide (validS nr nd sk) = false := decide_eq_false (fun h => by unfold validS at h; omega)
      simp (disch := first | omega | rfl | assumption | (simp only [csN, Nat.reduceAdd, Nat.reduceMul, Nat.reduceLeDiff, Nat.reduceEqDiff] <;> omega) | (simp only [csF]; done) | (simp only [csF] <;> assumption) | fail) only [Nat.reduceEqDiff, Nat.reduceAdd, Nat.reduceMul, Nat.reduceSub, Nat.reduceLeDiff, Int.reduceAdd, Int.reduceSub, Int.reduceMul, Int.reduceLT, Int.reduceLE, Int.reduceGT, Int.reduceGE, Int.reduceEq, Int.reduceBEq, Int.reduceBNe, Int.reduceNeg, Int.reduceToNat, csAll, ↓reduceIte, C105, entry_1, hd]
  by_cases k2 : sk = 2
  · by_cases h7 : 2 ≤ nr
    · have hd : decide (validS nr nd sk) = true := decide_eq_true (by unfold validS; omega)
      simp (disch := first | omega | rfl | assumption | (simp only [csN, Nat.reduceAdd, Nat.reduceMul, Nat.reduceLeDiff, Nat.reduceEqDiff] <;> omega) | (simp only [csF]; done) | (simp only [csF] <;> assumption) | fail) only [Nat.reduceEqDiff, Nat.reduceAdd, Nat.reduceMul, Nat.reduceSub, Nat.reduceLeDiff, Int.reduceAdd, Int.reduceSub, Int.reduceMul, Int.reduceLT, Int.reduceLE, Int.reduceGT, Int.reduceGE, Int.reduceEq, Int.reduceBEq, Int.reduceBNe, Int.reduceNeg, Int.reduceToNat, csAll, ↓reduceIte, C105, entry_1, hd]
    · have hd : decide (validS nr nd sk) = false := decide_eq_false (fun h => by unfold validS at h; omega)
      simp (disch := first | omega | rfl | assumption | (simp only [csN, Nat.reduceAdd, Nat.reduceMul, Nat.reduceLeDiff, Nat.reduceEqDiff] <;> omega) | (simp only [csF]; done) | (simp only [csF] <;> assumption) | fail) only [Nat.reduceEqDiff, Nat.reduceAdd, Nat.reduceMul, Nat.reduceSub, Nat.reduceLeDiff, Int.reduceAdd, Int.reduceSub, Int.reduceMul, Int.reduceLT, Int.reduceLE, Int.reduceGT, Int.reduceGE, Int.reduceEq, Int.reduceBEq, Int.reduceBNe, Int.reduceNeg, Int.reduceToNat, csAll, ↓reduceIte, C105, entry_1, hd]
  have hd : decide (validS nr nd sk) = false := decide_eq_false (fun h => by unfold validS at h; omega)
  simp (disch := first | omega | rfl | assumption | (simp only [csN, Nat.reduceAdd, Nat.reduceMul, Nat.reduceLeDiff, Nat.reduceEqDiff] <;> omega) | (simp only [csF]; done) | (simp only [csF] <;> assumption) | fail) only [Nat.reduceEqDiff, Nat.reduceAdd, Nat.reduceMul, Nat.reduceSub, Nat.reduceLeDiff, Int.reduceAdd, Int.reduceSub, Int.reduceMul, Int.reduceLT, Int.reduceLE, Int.reduceGT, Int.reduceGE, Int.reduceEq, Int.reduceBEq, Int.reduceBNe, Int.reduceNeg, Int.reduceToNat, csAll, ↓reduceIte, C105, entry_1, hd]
theorem f101 {ns : Nat} {mu : Int} {x : Act} : ∃ H', run P 101 [.i ns, .i mu, .agg (actCells x)] H = some (.i (headErr ns mu x), H') ∧ Gr H H' := by
  have g1 : Gr H (H ++ [(⟨actCells x, .rw, 0⟩ : Blk)]) := .app _ _
  have hr : ∀ n, headErr ns mu x = n → (∃ H', run P 101 [.i ns, .i mu, .agg (actCells x)] H = some (.i n, H') ∧ Gr H H') → ∃ H', run P 101 [.i ns, .i mu, .agg (actCells x)] H = some (.i (headErr ns mu x), H') ∧ Gr H H' := fun n e h => by rw [e]; exact h
  by_cases c : 0 ≤ mu ∧ mu < (ns : Int) ∧ 0 ≤ x.k ∧ x.k < 12
  case neg =>
    refine hr 1 (by unfold headErr; rw [if_pos c]) (ex_gr (H' := H ++ [(⟨actCells x, .rw, 0⟩ : Blk)]) ?_ g1)
    unfold actCells
    rw [run_lv c101]
    by_cases h1 : 0 ≤ mu
    · by_cases h2 : mu < (ns : Int)
      · by_cases h3 : 0 ≤ x.k
        · simp (disch := first | omega | rfl | assumption | (simp only [csN, Nat.reduceAdd, Nat.reduceMul, Nat.reduceLeDiff, Nat.reduceEqDiff] <;> omega) | (simp only [csF]; done) | (simp only [csF] <;> assumption) | fail) only [Nat.reduceEqDiff, Nat.reduceAdd, Nat.reduceMul, Nat.reduceSub, Nat.reduceLeDiff, Int.reduceAdd, Int.reduceSub, Int.reduceMul, Int.reduceLT, Int.reduceLE, Int.reduceGT, Int.reduceGE, Int.reduceEq, Int.reduceBEq, Int.reduceBNe, Int.reduceNeg, Int.reduceToNat, csAll, ↓reduceIte, C101, entry_3]
        · simp (disch := first | omega | rfl | assumption | (simp only [csN, Nat.reduceAdd, Nat.reduceMul, Nat.reduceLeDiff, Nat.reduceEqDiff] <;> omega) | (simp only [csF]; done) | (simp only [csF] <;> assumption) | fail) only [Nat.reduceEqDiff, Nat.reduceAdd, Nat.reduceMul, Nat.reduceSub, Nat.reduceLeDiff, Int.reduceAdd, Int.reduceSub, Int.reduceMul, Int.reduceLT, Int.reduceLE, Int.reduceGT, Int.reduceGE, Int.reduceEq, Int.reduceBEq, Int.reduceBNe, Int.reduceNeg, Int.reduceToNat, csAll, ↓reduceIte, C101, entry_3]
      · simp (disch := first | omega | rfl | assumption | (simp only [csN, Nat.reduceAdd, Nat.reduceMul, Nat.reduceLeDiff, Nat.reduceEqDiff] <;> omega) | (simp only [csF]; done) | (simp only [csF] <;> assumption) | fail) only [Nat.reduceEqDiff, Nat.reduceAdd, Nat.reduceMul, Nat.reduceSub, Nat.reduceLeDiff, Int.reduceAdd, Int.reduceSub, Int.reduceMul, Int.reduceLT, Int.reduceLE, Int.reduceGT, Int.reduceGE, Int.reduceEq, Int.reduceBEq, Int.reduceBNe, Int.reduceNeg, Int.reduceToNat, csAll, ↓reduceIte, C101, entry_3]
    · simp (disch := first | omega | rfl | assumption | (simp only [csN, Nat.reduceAdd, Nat.reduceMul, Nat.reduceLeDiff, Nat.reduceEqDiff] <;> omega) | (simp only [csF]; done) | (simp only [csF] <;> assumption) | fail) only [Nat.reduceEqDiff, Nat.reduceAdd, Nat.reduceMul, Nat.reduceSub, Nat.reduceLeDiff, Int.reduceAdd, Int.reduceSub, Int.reduceMul, Int.reduceLT, Int.reduceLE, Int.reduceGT, Int.reduceGE, Int.reduceEq, Int.reduceBEq, Int.reduceBNe, Int.reduceNeg, Int.reduceToNat, csAll, ↓reduceIte, C101, entry_3]
  obtain ⟨c1, c2, c3, c4⟩ := c
  by_cases ca : (0 ≤ x.a ∧ x.a < 16) ∧ (wB x.k = true → 0 ≤ x.b ∧ x.b < 16)
  case neg =>
    refine hr 1 (by unfold headErr; rw [if_neg (by omega), if_pos ca]) (ex_gr (H' := H ++ [(⟨actCells x, .rw, 0⟩ : Blk)]) ?_ g1)
    unfold actCells
    rw [run_lv c101]
    by_cases h1 : 0 ≤ x.a
    · by_cases h2 : x.a < 16
      · have hb : wB x.k = true := by
          cases h : wB x.k with
          | true => rfl
          | false => exact absurd ⟨⟨h1, h2⟩, fun h' => by rw [h] at h'; cases h'⟩ ca
        by_cases h3 : 0 ≤ x.b
        · have h4 : ¬ x.b < 16 := fun h4 => ca ⟨⟨h1, h2⟩, fun _ => ⟨h3, h4⟩⟩
          simp (disch := first | omega | rfl | assumption | (simp only [csN, Nat.reduceAdd, Nat.reduceMul, Nat.reduceLeDiff, Nat.reduceEqDiff] <;> omega) | (simp only [csF]; done) | (simp only [csF] <;> assumption) | fail) only [Nat.reduceEqDiff, Nat.reduceAdd, Nat.reduceMul, Nat.reduceSub, Nat.reduceLeDiff, Int.reduceAdd, Int.reduceSub, Int.reduceMul, Int.reduceLT, Int.reduceLE, Int.reduceGT, Int.reduceGE, Int.reduceEq, Int.reduceBEq, Int.reduceBNe, Int.reduceNeg, Int.reduceToNat, csAll, ↓reduceIte, C101, entry_3, f104, hb]
        · simp (disch := first | omega | rfl | assumption | (simp only [csN, Nat.reduceAdd, Nat.reduceMul, Nat.reduceLeDiff, Nat.reduceEqDiff] <;> omega) | (simp only [csF]; done) | (simp only [csF] <;> assumption) | fail) only [Nat.reduceEqDiff, Nat.reduceAdd, Nat.reduceMul, Nat.reduceSub, Nat.reduceLeDiff, Int.reduceAdd, Int.reduceSub, Int.reduceMul, Int.reduceLT, Int.reduceLE, Int.reduceGT, Int.reduceGE, Int.reduceEq, Int.reduceBEq, Int.reduceBNe, Int.reduceNeg, Int.reduceToNat, csAll, ↓reduceIte, C101, entry_3, f104, hb]
      · simp (disch := first | omega | rfl | assumption | (simp only [csN, Nat.reduceAdd, Nat.reduceMul, Nat.reduceLeDiff, Nat.reduceEqDiff] <;> omega) | (simp only [csF]; done) | (simp only [csF] <;> assumption) | fail) only [Nat.reduceEqDiff, Nat.reduceAdd, Nat.reduceMul, Nat.reduceSub, Nat.reduceLeDiff, Int.reduceAdd, Int.reduceSub, Int.reduceMul, Int.reduceLT, Int.reduceLE, Int.reduceGT, Int.reduceGE, Int.reduceEq, Int.reduceBEq, Int.reduceBNe, Int.reduceNeg, Int.reduceToNat, csAll, ↓reduceIte, C101, entry_3]
    · simp (disch := first | omega | rfl | assumption | (simp only [csN, Nat.reduceAdd, Nat.reduceMul, Nat.reduceLeDiff, Nat.reduceEqDiff] <;> omega) | (simp only [csF]; done) | (simp only [csF] <;> assumption) | fail) only [Nat.reduceEqDiff, Nat.reduceAdd, Nat.reduceMul, Nat.reduceSub, Nat.reduceLeDiff, Int.reduceAdd, Int.reduceSub, Int.reduceMul, Int.reduceLT, Int.reduceLE, Int.reduceGT, Int.reduceGE, Int.reduceEq, Int.reduceBEq, Int.reduceBNe, Int.reduceNeg, Int.reduceToNat, csAll, ↓reduceIte, C101, entry_3]
  obtain ⟨⟨a1, a2⟩, ab⟩ := ca
  by_cases k0 : x.k = 0
  · have hb : wB x.k = false := by rw [k0]; rfl
    by_cases hv : validS x.nr x.nd x.sk
    · have hd : decide (validS x.nr x.nd x.sk) = true := decide_eq_true hv
      refine hr 0 (by unfold headErr; rw [if_neg (by omega), if_neg (fun h => h ⟨⟨a1, a2⟩, ab⟩), if_neg (fun h => h.2 hv)]) (ex_gr (H' := H ++ [(⟨actCells x, .rw, 0⟩ : Blk)] ++ [⟨[.i x.nr, .i x.nd, .i x.sk], .rw, 0⟩]) ?_ (g1.app' _))
      unfold actCells
      rw [run_lv c101]
      simp (disch := first | omega | rfl | assumption | (simp only [csN, Nat.reduceAdd, Nat.reduceMul, Nat.reduceLeDiff, Nat.reduceEqDiff] <;> omega) | (simp only [csF]; done) | (simp only [csF] <;> assumption) | fail) only [Nat.reduceEqDiff, Nat.reduceAdd, Nat.reduceMul, Nat.reduceSub, Nat.reduceLeDiff, Int.reduceAdd, Int.reduceSub, Int.reduceMul, Int.reduceLT, Int.reduceLE, Int.reduceGT, Int.reduceGE, Int.reduceEq, Int.reduceBEq, Int.reduceBNe, Int.reduceNeg, Int.reduceToNat, csAll, ↓reduceIte, C101, entry_3, f104, hb, f105, hd]
    · have hd : decide (validS x.nr x.nd x.sk) = false := decide_eq_false hv
      refine hr 2 (by unfold headErr; rw [if_neg (by omega), if_neg (fun h => h ⟨⟨a1, a2⟩, ab⟩), if_pos ⟨k0, hv⟩]) (ex_gr (H' := H ++ [(⟨actCells x, .rw, 0⟩ : Blk)] ++ [⟨[.i x.nr, .i x.nd, .i x.sk], .rw, 0⟩]) ?_ (g1.app' _))
      unfold actCells
      rw [run_lv c101]
      simp (disch := first | omega | rfl | assumption | (simp only [csN, Nat.reduceAdd, Nat.reduceMul, Nat.reduceLeDiff, Nat.reduceEqDiff] <;> omega) | (simp only [csF]; done) | (simp only [csF] <;> assumption) | fail) only [Nat.reduceEqDiff, Nat.reduceAdd, Nat.reduceMul, Nat.reduceSub, Nat.reduceLeDiff, Int.reduceAdd, Int.reduceSub, Int.reduceMul, Int.reduceLT, Int.reduceLE, Int.reduceGT, Int.reduceGE, Int.reduceEq, Int.reduceBEq, Int.reduceBNe, Int.reduceNeg, Int.reduceToNat, csAll, ↓reduceIte, C101, entry_3, f104, hb, f105, hd]
  · refine hr 0 (by unfold headErr; rw [if_neg (by omega), if_neg (fun h => h ⟨⟨a1, a2⟩, ab⟩), if_neg (fun h => k0 h.1)]) (ex_gr (H' := H ++ [(⟨actCells x, .rw, 0⟩ : Blk)]) ?_ g1)
    unfold actCells
    rw [run_lv c101]
    cases hb : wB x.k with
    | true =>
      have := ab hb
      simp (disch := first | omega | rfl | assumption | (simp only [csN, Nat.reduceAdd, Nat.reduceMul, Nat.reduceLeDiff, Nat.reduceEqDiff] <;> omega) | (simp only [csF]; done) | (simp only [csF] <;> assumption) | fail) only [Nat.reduceEqDiff, Nat.reduceAdd, Nat.reduceMul, Nat.reduceSub, Nat.reduceLeDiff, Int.reduceAdd, Int.reduceSub, Int.reduceMul, Int.reduceLT, Int.reduceLE, Int.reduceGT, Int.reduceGE, Int.reduceEq, Int.reduceBEq, Int.reduceBNe, Int.reduceNeg, Int.reduceToNat, csAll, ↓reduceIte, C101, entry_3, f104, hb]
    | false => simp (disch := first | omega | rfl | assumption | (simp only [csN, Nat.reduceAdd, Nat.reduceMul, Nat.reduceLeDiff, Nat.reduceEqDiff] <;> omega) | (simp only [csF]; done) | (simp only [csF] <;> assumption) | fail) only [Nat.reduceEqDiff, Nat.reduceAdd, Nat.reduceMul, Nat.reduceSub, Nat.reduceLeDiff, Int.reduceAdd, Int.reduceSub, Int.reduceMul, Int.reduceLT, Int.reduceLE, Int.reduceGT, Int.reduceGE, Int.reduceEq, Int.reduceBEq, Int.reduceBNe, Int.reduceNeg, Int.reduceToNat, csAll, ↓reduceIte, C101, entry_3, f104, hb]
theorem f103 {x : Act} {nr nd sk : Int} : run P 103 [.agg (actCells x), .agg [.i nr, .i nd, .i sk]] H = some (.bool (decide (idxOk x nr nd)), H ++ [⟨actCells x, .rw, 0⟩] ++ [⟨[.i nr, .i nd, .i sk], .rw, 0⟩]) := by
  have dt : idxOk x nr nd → decide (idxOk x nr nd) = true := fun h => decide_eq_true h
  have df : ¬ idxOk x nr nd → decide (idxOk x nr nd) = false := fun h => decide_eq_false h
  rw [run_lv c103]
  unfold actCells
  by_cases h1 : x.k = 1
  · by_cases hi : 0 ≤ x.i
    · by_cases hj : x.i < nr
      · have hd := dt (by unfold idxOk; omega); simp (disch := first | omega | rfl | assumption | (simp only [csN, Nat.reduceAdd, Nat.reduceMul, Nat.reduceLeDiff, Nat.reduceEqDiff] <;> omega) | (simp only [csF]; done) | (simp only [csF] <;> assumption) | fail) only [Nat.reduceEqDiff, Nat.reduceAdd, Nat.reduceMul, Nat.reduceSub, Nat.reduceLeDiff, Int.reduceAdd, Int.reduceSub, Int.reduceMul, Int.reduceLT, Int.reduceLE, Int.reduceGT, Int.reduceGE, Int.reduceEq, Int.reduceBEq, Int.reduceBNe, Int.reduceNeg, Int.reduceToNat, csAll, ↓reduceIte, C103, entry_2, hd]
      · have hd := df (by unfold idxOk; omega); simp (disch := first | omega | rfl | assumption | (simp only [csN, Nat.reduceAdd, Nat.reduceMul, Nat.reduceLeDiff, Nat.reduceEqDiff] <;> omega) | (simp only [csF]; done) | (simp only [csF] <;> assumption) | fail) only [Nat.reduceEqDiff, Nat.reduceAdd, Nat.reduceMul, Nat.reduceSub, Nat.reduceLeDiff, Int.reduceAdd, Int.reduceSub, Int.reduceMul, Int.reduceLT, Int.reduceLE, Int.reduceGT, Int.reduceGE, Int.reduceEq, Int.reduceBEq, Int.reduceBNe, Int.reduceNeg, Int.reduceToNat, csAll, ↓reduceIte, C103, entry_2, hd]
    · have hd := df (by unfold idxOk; omega); simp (disch := first | omega | rfl | assumption | (simp only [csN, Nat.reduceAdd, Nat.reduceMul, Nat.reduceLeDiff, Nat.reduceEqDiff] <;> omega) | (simp only [csF]; done) | (simp only [csF] <;> assumption) | fail) only [Nat.reduceEqDiff, Nat.reduceAdd, Nat.reduceMul, Nat.reduceSub, Nat.reduceLeDiff, Int.reduceAdd, Int.reduceSub, Int.reduceMul, Int.reduceLT, Int.reduceLE, Int.reduceGT, Int.reduceGE, Int.reduceEq, Int.reduceBEq, Int.reduceBNe, Int.reduceNeg, Int.reduceToNat, csAll, ↓reduceIte, C103, entry_2, hd]
  by_cases h2 : x.k = 2
  · by_cases hi : 0 ≤ x.i
    · by_cases hj : x.i < nr
      · have hd := dt (by unfold idxOk; omega); simp (disch := first | omega | rfl | assumption | (simp only [csN, Nat.reduceAdd, Nat.reduceMul, Nat.reduceLeDiff, Nat.reduceEqDiff] <;> omega) | (simp only [csF]; done) | (simp only [csF] <;> assumption) | fail) only [Nat.reduceEqDiff, Nat.reduceAdd, Nat.reduceMul, Nat.reduceSub, Nat.reduceLeDiff, Int.reduceAdd, Int.reduceSub, Int.reduceMul, Int.reduceLT, Int.reduceLE, Int.reduceGT, Int.reduceGE, Int.reduceEq, Int.reduceBEq, Int.reduceBNe, Int.reduceNeg, Int.reduceToNat, csAll, ↓reduceIte, C103, entry_2, hd]
      · have hd := df (by unfold idxOk; omega); simp (disch := first | omega | rfl | assumption | (simp only [csN, Nat.reduceAdd, Nat.reduceMul, Nat.reduceLeDiff, Nat.reduceEqDiff] <;> omega) | (simp only [csF]; done) | (simp only [csF] <;> assumption) | fail) only [Nat.reduceEqDiff, Nat.reduceAdd, Nat.reduceMul, Nat.reduceSub, Nat.reduceLeDiff, Int.reduceAdd, Int.reduceSub, Int.reduceMul, Int.reduceLT, Int.reduceLE, Int.reduceGT, Int.reduceGE, Int.reduceEq, Int.reduceBEq, Int.reduceBNe, Int.reduceNeg, Int.reduceToNat, csAll, ↓reduceIte, C103, entry_2, hd]
    · have hd := df (by unfold idxOk; omega); simp (disch := first | omega | rfl | assumption | (simp only [csN, Nat.reduceAdd, Nat.reduceMul, Nat.reduceLeDiff, Nat.reduceEqDiff] <;> omega) | (simp only [csF]; done) | (simp only [csF] <;> assumption) | fail) only [Nat.reduceEqDiff, Nat.reduceAdd, Nat.reduceMul, Nat.reduceSub, Nat.reduceLeDiff, Int.reduceAdd, Int.reduceSub, Int.reduceMul, Int.reduceLT, Int.reduceLE, Int.reduceGT, Int.reduceGE, Int.reduceEq, Int.reduceBEq, Int.reduceBNe, Int.reduceNeg, Int.reduceToNat, csAll, ↓reduceIte, C103, entry_2, hd]
  by_cases h3 : x.k = 3
  · by_cases hi : 0 ≤ x.i
    · by_cases hj : x.i < nd
      · have hd := dt (by unfold idxOk; omega); simp (disch := first | omega | rfl | assumption | (simp only [csN, Nat.reduceAdd, Nat.reduceMul, Nat.reduceLeDiff, Nat.reduceEqDiff] <;> omega) | (simp only [csF]; done) | (simp only [csF] <;> assumption) | fail) only [Nat.reduceEqDiff, Nat.reduceAdd, Nat.reduceMul, Nat.reduceSub, Nat.reduceLeDiff, Int.reduceAdd, Int.reduceSub, Int.reduceMul, Int.reduceLT, Int.reduceLE, Int.reduceGT, Int.reduceGE, Int.reduceEq, Int.reduceBEq, Int.reduceBNe, Int.reduceNeg, Int.reduceToNat, csAll, ↓reduceIte, C103, entry_2, hd]
      · have hd := df (by unfold idxOk; omega); simp (disch := first | omega | rfl | assumption | (simp only [csN, Nat.reduceAdd, Nat.reduceMul, Nat.reduceLeDiff, Nat.reduceEqDiff] <;> omega) | (simp only [csF]; done) | (simp only [csF] <;> assumption) | fail) only [Nat.reduceEqDiff, Nat.reduceAdd, Nat.reduceMul, Nat.reduceSub, Nat.reduceLeDiff, Int.reduceAdd, Int.reduceSub, Int.reduceMul, Int.reduceLT, Int.reduceLE, Int.reduceGT, Int.reduceGE, Int.reduceEq, Int.reduceBEq, Int.reduceBNe, Int.reduceNeg, Int.reduceToNat, csAll, ↓reduceIte, C103, entry_2, hd]
    · have hd := df (by unfold idxOk; omega); simp (disch := first | omega | rfl | assumption | (simp only [csN, Nat.reduceAdd, Nat.reduceMul, Nat.reduceLeDiff, Nat.reduceEqDiff] <;> omega) | (simp only [csF]; done) | (simp only [csF] <;> assumption) | fail) only [Nat.reduceEqDiff, Nat.reduceAdd, Nat.reduceMul, Nat.reduceSub, Nat.reduceLeDiff, Int.reduceAdd, Int.reduceSub, Int.reduceMul, Int.reduceLT, Int.reduceLE, Int.reduceGT, Int.reduceGE, Int.reduceEq, Int.reduceBEq, Int.reduceBNe, Int.reduceNeg, Int.reduceToNat, csAll, ↓reduceIte, C103, entry_2, hd]
  by_cases h4 : x.k = 4
  · by_cases hi : 0 ≤ x.i
    · by_cases hj : x.i < nd
      · have hd := dt (by unfold idxOk; omega); simp (disch := first | omega | rfl | assumption | (simp only [csN, Nat.reduceAdd, Nat.reduceMul, Nat.reduceLeDiff, Nat.reduceEqDiff] <;> omega) | (simp only [csF]; done) | (simp only [csF] <;> assumption) | fail) only [Nat.reduceEqDiff, Nat.reduceAdd, Nat.reduceMul, Nat.reduceSub, Nat.reduceLeDiff, Int.reduceAdd, Int.reduceSub, Int.reduceMul, Int.reduceLT, Int.reduceLE, Int.reduceGT, Int.reduceGE, Int.reduceEq, Int.reduceBEq, Int.reduceBNe, Int.reduceNeg, Int.reduceToNat, csAll, ↓reduceIte, C103, entry_2, hd]
      · have hd := df (by unfold idxOk; omega); simp (disch := first | omega | rfl | assumption | (simp only [csN, Nat.reduceAdd, Nat.reduceMul, Nat.reduceLeDiff, Nat.reduceEqDiff] <;> omega) | (simp only [csF]; done) | (simp only [csF] <;> assumption) | fail) only [Nat.reduceEqDiff, Nat.reduceAdd, Nat.reduceMul, Nat.reduceSub, Nat.reduceLeDiff, Int.reduceAdd, Int.reduceSub, Int.reduceMul, Int.reduceLT, Int.reduceLE, Int.reduceGT, Int.reduceGE, Int.reduceEq, Int.reduceBEq, Int.reduceBNe, Int.reduceNeg, Int.reduceToNat, csAll, ↓reduceIte, C103, entry_2, hd]
    · have hd := df (by unfold idxOk; omega); simp (disch := first | omega | rfl | assumption | (simp only [csN, Nat.reduceAdd, Nat.reduceMul, Nat.reduceLeDiff, Nat.reduceEqDiff] <;> omega) | (simp only [csF]; done) | (simp only [csF] <;> assumption) | fail) only [Nat.reduceEqDiff, Nat.reduceAdd, Nat.reduceMul, Nat.reduceSub, Nat.reduceLeDiff, Int.reduceAdd, Int.reduceSub, Int.reduceMul, Int.reduceLT, Int.reduceLE, Int.reduceGT, Int.reduceGE, Int.reduceEq, Int.reduceBEq, Int.reduceBNe, Int.reduceNeg, Int.reduceToNat, csAll, ↓reduceIte, C103, entry_2, hd]
  by_cases h9 : x.k = 9
  · by_cases hi : 0 ≤ x.i
    · by_cases hj : x.i < 16
      · have hd := dt (by unfold idxOk; omega); simp (disch := first | omega | rfl | assumption | (simp only [csN, Nat.reduceAdd, Nat.reduceMul, Nat.reduceLeDiff, Nat.reduceEqDiff] <;> omega) | (simp only [csF]; done) | (simp only [csF] <;> assumption) | fail) only [Nat.reduceEqDiff, Nat.reduceAdd, Nat.reduceMul, Nat.reduceSub, Nat.reduceLeDiff, Int.reduceAdd, Int.reduceSub, Int.reduceMul, Int.reduceLT, Int.reduceLE, Int.reduceGT, Int.reduceGE, Int.reduceEq, Int.reduceBEq, Int.reduceBNe, Int.reduceNeg, Int.reduceToNat, csAll, ↓reduceIte, C103, entry_2, hd]
      · have hd := df (by unfold idxOk; omega); simp (disch := first | omega | rfl | assumption | (simp only [csN, Nat.reduceAdd, Nat.reduceMul, Nat.reduceLeDiff, Nat.reduceEqDiff] <;> omega) | (simp only [csF]; done) | (simp only [csF] <;> assumption) | fail) only [Nat.reduceEqDiff, Nat.reduceAdd, Nat.reduceMul, Nat.reduceSub, Nat.reduceLeDiff, Int.reduceAdd, Int.reduceSub, Int.reduceMul, Int.reduceLT, Int.reduceLE, Int.reduceGT, Int.reduceGE, Int.reduceEq, Int.reduceBEq, Int.reduceBNe, Int.reduceNeg, Int.reduceToNat, csAll, ↓reduceIte, C103, entry_2, hd]
    · have hd := df (by unfold idxOk; omega); simp (disch := first | omega | rfl | assumption | (simp only [csN, Nat.reduceAdd, Nat.reduceMul, Nat.reduceLeDiff, Nat.reduceEqDiff] <;> omega) | (simp only [csF]; done) | (simp only [csF] <;> assumption) | fail) only [Nat.reduceEqDiff, Nat.reduceAdd, Nat.reduceMul, Nat.reduceSub, Nat.reduceLeDiff, Int.reduceAdd, Int.reduceSub, Int.reduceMul, Int.reduceLT, Int.reduceLE, Int.reduceGT, Int.reduceGE, Int.reduceEq, Int.reduceBEq, Int.reduceBNe, Int.reduceNeg, Int.reduceToNat, csAll, ↓reduceIte, C103, entry_2, hd]
  by_cases h10 : x.k = 10
  · by_cases hi : 0 ≤ x.i
    · by_cases hj : x.i < 16
      · have hd := dt (by unfold idxOk; omega); simp (disch := first | omega | rfl | assumption | (simp only [csN, Nat.reduceAdd, Nat.reduceMul, Nat.reduceLeDiff, Nat.reduceEqDiff] <;> omega) | (simp only [csF]; done) | (simp only [csF] <;> assumption) | fail) only [Nat.reduceEqDiff, Nat.reduceAdd, Nat.reduceMul, Nat.reduceSub, Nat.reduceLeDiff, Int.reduceAdd, Int.reduceSub, Int.reduceMul, Int.reduceLT, Int.reduceLE, Int.reduceGT, Int.reduceGE, Int.reduceEq, Int.reduceBEq, Int.reduceBNe, Int.reduceNeg, Int.reduceToNat, csAll, ↓reduceIte, C103, entry_2, hd]
      · have hd := df (by unfold idxOk; omega); simp (disch := first | omega | rfl | assumption | (simp only [csN, Nat.reduceAdd, Nat.reduceMul, Nat.reduceLeDiff, Nat.reduceEqDiff] <;> omega) | (simp only [csF]; done) | (simp only [csF] <;> assumption) | fail) only [Nat.reduceEqDiff, Nat.reduceAdd, Nat.reduceMul, Nat.reduceSub, Nat.reduceLeDiff, Int.reduceAdd, Int.reduceSub, Int.reduceMul, Int.reduceLT, Int.reduceLE, Int.reduceGT, Int.reduceGE, Int.reduceEq, Int.reduceBEq, Int.reduceBNe, Int.reduceNeg, Int.reduceToNat, csAll, ↓reduceIte, C103, entry_2, hd]
    · have hd := df (by unfold idxOk; omega); simp (disch := first | omega | rfl | assumption | (simp only [csN, Nat.reduceAdd, Nat.reduceMul, Nat.reduceLeDiff, Nat.reduceEqDiff] <;> omega) | (simp only [csF]; done) | (simp only [csF] <;> assumption) | fail) only [Nat.reduceEqDiff, Nat.reduceAdd, Nat.reduceMul, Nat.reduceSub, Nat.reduceLeDiff, Int.reduceAdd, Int.reduceSub, Int.reduceMul, Int.reduceLT, Int.reduceLE, Int.reduceGT, Int.reduceGE, Int.reduceEq, Int.reduceBEq, Int.reduceBNe, Int.reduceNeg, Int.reduceToNat, csAll, ↓reduceIte, C103, entry_2, hd]
  have hd := dt (by unfold idxOk; omega)
  simp (disch := first | omega | rfl | assumption | (simp only [csN, Nat.reduceAdd, Nat.reduceMul, Nat.reduceLeDiff, Nat.reduceEqDiff] <;> omega) | (simp only [csF]; done) | (simp only [csF] <;> assumption) | fail) only [Nat.reduceEqDiff, Nat.reduceAdd, Nat.reduceMul, Nat.reduceSub, Nat.reduceLeDiff, Int.reduceAdd, Int.reduceSub, Int.reduceMul, Int.reduceLT, Int.reduceLE, Int.reduceGT, Int.reduceGE, Int.reduceEq, Int.reduceBEq, Int.reduceBNe, Int.reduceNeg, Int.reduceToNat, csAll, ↓reduceIte, C103, entry_2, hd]
end
section
variable {o : Tags} {g : Nat} {H : CHeap} {b : Nat} {M : Mdl} {L : Lay}
theorem errOf_head {mu : Int} {x : Act} (h : headErr M.slots.length mu x ≠ 0) : M.errOf mu x = headErr M.slots.length mu x := by
  unfold headErr at h ⊢
  unfold Mdl.errOf
  split
  · rfl
  · rename_i c1
    rw [if_neg c1] at h
    split
    · rfl
    · rename_i c2
      rw [if_neg c2] at h
      split
      · rfl
      · rename_i c3
        rw [if_neg c3] at h
        exact absurd rfl h
theorem head_0 {mu : Int} {x : Act} (h : headErr M.slots.length mu x = 0) : (0 ≤ mu ∧ mu < (M.slots.length : Int) ∧ 0 ≤ x.k ∧ x.k < 12) ∧ ((0 ≤ x.a ∧ x.a < 16) ∧ (wB x.k = true → 0 ≤ x.b ∧ x.b < 16)) ∧
    M.errOf mu x = (if 0 ≤ wNeed x ∧ (M.slots.getD mu.toNat []).getD (wNeed x).toNat 0 = 0 then 7 else if 0 ≤ M.bound (M.slots.getD mu.toNat []) x ∧ ¬ (0 ≤ x.i ∧ x.i < M.bound (M.slots.getD mu.toNat []) x) then 1 else 0) := by
  unfold headErr at h
  unfold Mdl.errOf
  split at h
  · omega
  rename_i c1
  split at h
  · omega
  rename_i c2
  split at h
  · omega
  rename_i c3
  exact ⟨Decidable.not_not.1 c1, Decidable.not_not.1 c2, by rw [if_neg c1, if_neg c2, if_neg c3]⟩
theorem bnd_idx {s : List Int} {x : Act} (hk : 0 ≤ x.k ∧ x.k < 12) {nr nd : Int} (h1 : x.k = 1 → nr = (M.obj (s.getD x.b.toNat 0)).nr) (h2 : x.k = 2 → nr = (M.obj (s.getD x.a.toNat 0)).nr) (h3 : x.k = 3 ∨ x.k = 4 → nd = (M.obj (s.getD x.a.toNat 0)).nd) (h0 : 0 ≤ nr ∧ 0 ≤ nd) :
    (0 ≤ M.bound s x ∧ ¬ (0 ≤ x.i ∧ x.i < M.bound s x)) ↔ ¬ idxOk x nr nd := by
  unfold Mdl.bound idxOk
  split
  · rename_i c; have := h1 c; omega
  · split
    · rename_i c; have := h2 c; omega
    · split
      · rename_i c; have := h3 c; omega
      · split <;> omega
/-- The errors of an act. -/
theorem f76 (m : MRep o g H b M L) (w : M.Ok) (mu : Int) (x : Act) : ∃ H', run P 76 [.ptr b 0, .i mu, .agg (actCells x)] H = some (.i (M.errOf mu x), H') ∧ Gr H H' := by
  have g1 : Gr H (H ++ [(⟨actCells x, .rw, 0⟩ : Blk)]) := .app _ _
  have m1 := m.gr g1
  have h1 := m1.cells
  have h2 := m1.slots.len
  have hml := mLen_of h2
  have ba : (H ++ [(⟨actCells x, .rw, 0⟩ : Blk)])[H.length]? = some ⟨actCells x, .rw, 0⟩ := look_last rfl
  generalize hA : H ++ [(⟨actCells x, .rw, 0⟩ : Blk)] = HA at *
  obtain ⟨HB, d101, g2⟩ := f101 (H := HA) (ns := M.slots.length) (mu := mu) (x := x)
  by_cases hh : headErr M.slots.length mu x = 0
  case neg =>
    rw [errOf_head hh]
    generalize headErr M.slots.length mu x = e at *
    apply ex_gr (H' := HB) _ (g1.trans g2)
    unfold actCells at *
    rw [run_lv c76]
    simp (disch := first | omega | rfl | assumption | (simp only [csN, Nat.reduceAdd, Nat.reduceMul, Nat.reduceLeDiff, Nat.reduceEqDiff] <;> omega) | (simp only [csF]; done) | (simp only [csF] <;> assumption) | fail) only [Nat.reduceEqDiff, Nat.reduceAdd, Nat.reduceMul, Nat.reduceSub, Nat.reduceLeDiff, Int.reduceAdd, Int.reduceSub, Int.reduceMul, Int.reduceLT, Int.reduceLE, Int.reduceGT, Int.reduceGE, Int.reduceEq, Int.reduceBEq, Int.reduceBNe, Int.reduceNeg, Int.reduceToNat, csAll, ↓reduceIte, C76, entry_3, hA, h1, hml, ba, d101]
  obtain ⟨⟨c1, c2, c3⟩, ⟨ca, cb⟩, he⟩ := head_0 hh
  rw [he]
  rw [hh] at d101
  have m2 := m1.gr g2
  have ba2 := g2.get ba
  have g3 : Gr HB (HB ++ [(⟨[.i 0, .i 0, .i 0], .rw, 0⟩ : Blk)]) := .app _ _
  have ba3 := g3.get ba2
  have bs3 : (HB ++ [(⟨[.i 0, .i 0, .i 0], .rw, 0⟩ : Blk)])[HB.length]? = some ⟨[.i 0, .i 0, .i 0], .rw, 0⟩ := look_last rfl
  have m3 := m2.gr g3
  have d102 := f102 (H := HB ++ [(⟨[.i 0, .i 0, .i 0], .rw, 0⟩ : Blk)]) (x := x)
  have g4 : Gr (HB ++ [(⟨[.i 0, .i 0, .i 0], .rw, 0⟩ : Blk)]) (HB ++ [(⟨[.i 0, .i 0, .i 0], .rw, 0⟩ : Blk)] ++ [(⟨actCells x, .rw, 0⟩ : Blk)]) := .app _ _
  have ba4 := g4.get ba3
  have bs4 := g4.get bs3
  have m4 := m3.gr g4
  have hbl : H.length < HB.length := lt_of_get ba2
  have hs := getD_of (l := M.slots) (i := mu.toNat) [] (by omega)
  generalize hsv : M.slots.getD mu.toNat [] = s at *
  have h16 := (w.s16 _ (List.mem_of_getElem? hs)).1
  have c4 := m4.cells
  have l4 := m4.slots.len
  obtain ⟨tl, p1, p2, p3, -⟩ := m4.slots.pos (by omega)
  obtain ⟨v, hv, ha⟩ := m4.slot _ _ hs
  obtain ⟨tv, q1, q2, q3, -⟩ := ha.pos (by omega)
  rw [p1] at c4
  rw [q1] at hv
  generalize hC : HB ++ [(⟨[.i 0, .i 0, .i 0], .rw, 0⟩ : Blk)] ++ [(⟨actCells x, .rw, 0⟩ : Blk)] = HC at *
  have hCl : HC.length = HB.length + 2 := by rw [← hC]; simp
  have gA : Gr H HC := ((g1.trans g2).trans g3).trans g4
  have wrange : wNeed x < 16 ∧ (0 ≤ wNeed x → (x.k = 1 ∧ wNeed x = x.b) ∨ ((x.k = 2 ∨ x.k = 3 ∨ x.k = 4 ∨ x.k = 11) ∧ wNeed x = x.a)) ∧ (wNeed x < 0 → ¬ (x.k = 1 ∨ x.k = 2 ∨ x.k = 3 ∨ x.k = 4 ∨ x.k = 11)) := by
    unfold wNeed
    have hcb : x.k = 1 → 0 ≤ x.b ∧ x.b < 16 := fun h => cb (by rw [h]; rfl)
    split
    · rename_i c; have := hcb c; omega
    · split
      · omega
      · omega
  have d103 : ∀ (HH : CHeap) nr nd sk, run P 103 [.agg (actCells x), .agg [.i nr, .i nd, .i sk]] HH = some (.bool (decide (idxOk x nr nd)), HH ++ [⟨actCells x, .rw, 0⟩] ++ [⟨[.i nr, .i nd, .i sk], .rw, 0⟩]) := fun HH nr nd sk => f103
  generalize hn : wNeed x = n at *
  by_cases n0 : 0 ≤ n
  · have hsg := slotGet (s := s) h16 (a := n) ⟨n0, wrange.1⟩
    by_cases hz : s.getD n.toNat 0 = 0
    · rw [if_pos ⟨n0, hz⟩]
      rw [hz] at hsg
      apply ex_gr (H' := HC) _ gA
      unfold actCells at *
      rw [run_lv c76]
      simp (disch := first | omega | rfl | assumption | (simp only [csN, Nat.reduceAdd, Nat.reduceMul, Nat.reduceLeDiff, Nat.reduceEqDiff] <;> omega) | (simp only [csF]; done) | (simp only [csF] <;> assumption) | fail) only [Nat.reduceEqDiff, Nat.reduceAdd, Nat.reduceMul, Nat.reduceSub, Nat.reduceLeDiff, Int.reduceAdd, Int.reduceSub, Int.reduceMul, Int.reduceLT, Int.reduceLE, Int.reduceGT, Int.reduceGE, Int.reduceEq, Int.reduceBEq, Int.reduceBNe, Int.reduceNeg, Int.reduceToNat, csAll, ↓reduceIte, C76, entry_3, hA, h1, hml, ba, d101, ba2, ba3, d102, hC, c4, p3, hv, q3, hsg]
    · rw [if_neg (fun h => hz h.2)]
      have hH := slotHas w hs (a := n) ⟨n0, wrange.1⟩ hz
      obtain ⟨hh2, rest, -, o2, o3, o4, o5, -, -⟩ := m4.objAt _ hH
      obtain ⟨tlo, po, -, -, -⟩ := m4.objs.pos (by have := hH.2; have := hH.1; omega)
      rw [po] at c4
      have hw1 := (objIx w hH).1
      have hw2 := objIx w hH
      have hobl := lt_of_get o2
      have hob := w.obj hH
      generalize hx : M.obj (s.getD n.toNat 0) = y at *
      have hbi := bnd_idx (M := M) (s := s) (x := x) c3 (nr := y.nr) (nd := y.nd) (fun h => by rcases wrange.2.1 n0 with ⟨-, e⟩ | ⟨e, -⟩; rw [← hx, e]; omega)
        (fun h => by rcases wrange.2.1 n0 with ⟨e, -⟩ | ⟨-, e⟩; omega; rw [← hx, e]) (fun h => by rcases wrange.2.1 n0 with ⟨e, -⟩ | ⟨-, e⟩; omega; rw [← hx, e]) ⟨hob.nr.1, hob.nd.1⟩
      have gS : Gr H (HC.set HB.length ⟨[.i y.nr, .i y.nd, .i y.kd], .rw, 0⟩) := ⟨by rw [List.length_set]; exact gA.len, fun c hc => by rw [List.getElem?_set_ne (by omega), gA.low c hc]⟩
      by_cases hid : idxOk x y.nr y.nd
      · have hd : decide (idxOk x y.nr y.nd) = true := decide_eq_true hid
        rw [if_neg (fun h => hbi.1 h hid)]
        refine ex_gr ?_ ((gS.app' [⟨actCells x, .rw, 0⟩]).app' [⟨[.i y.nr, .i y.nd, .i y.kd], .rw, 0⟩])
        unfold actCells at *
        rw [run_lv c76]
        simp (disch := first | omega | rfl | assumption | (simp only [csN, Nat.reduceAdd, Nat.reduceMul, Nat.reduceLeDiff, Nat.reduceEqDiff] <;> omega) | (simp only [csF]; done) | (simp only [csF] <;> assumption) | fail) only [Nat.reduceEqDiff, Nat.reduceAdd, Nat.reduceMul, Nat.reduceSub, Nat.reduceLeDiff, Int.reduceAdd, Int.reduceSub, Int.reduceMul, Int.reduceLT, Int.reduceLE, Int.reduceGT, Int.reduceGE, Int.reduceEq, Int.reduceBEq, Int.reduceBNe, Int.reduceNeg, Int.reduceToNat, csAll, ↓reduceIte, C76, entry_3, hA, h1, hml, ba, d101, ba2, ba3, d102, hC, c4, p3, hv, q3, hsg, hw1, o2, o3, bs4, ba4, d103, hd]
      · have hd : decide (idxOk x y.nr y.nd) = false := decide_eq_false hid
        rw [if_pos (hbi.2 hid)]
        refine ex_gr ?_ ((gS.app' [⟨actCells x, .rw, 0⟩]).app' [⟨[.i y.nr, .i y.nd, .i y.kd], .rw, 0⟩])
        unfold actCells at *
        rw [run_lv c76]
        simp (disch := first | omega | rfl | assumption | (simp only [csN, Nat.reduceAdd, Nat.reduceMul, Nat.reduceLeDiff, Nat.reduceEqDiff] <;> omega) | (simp only [csF]; done) | (simp only [csF] <;> assumption) | fail) only [Nat.reduceEqDiff, Nat.reduceAdd, Nat.reduceMul, Nat.reduceSub, Nat.reduceLeDiff, Int.reduceAdd, Int.reduceSub, Int.reduceMul, Int.reduceLT, Int.reduceLE, Int.reduceGT, Int.reduceGE, Int.reduceEq, Int.reduceBEq, Int.reduceBNe, Int.reduceNeg, Int.reduceToNat, csAll, ↓reduceIte, C76, entry_3, hA, h1, hml, ba, d101, ba2, ba3, d102, hC, c4, p3, hv, q3, hsg, hw1, o2, o3, bs4, ba4, d103, hd]
  · rw [if_neg (fun h => n0 h.1)]
    have hbi := bnd_idx (M := M) (s := s) (x := x) c3 (nr := 0) (nd := 0) (fun h => absurd (by omega) (wrange.2.2 (by omega))) (fun h => absurd (by omega) (wrange.2.2 (by omega))) (fun h => absurd (by omega) (wrange.2.2 (by omega))) ⟨by omega, by omega⟩
    by_cases hid : idxOk x 0 0
    · have hd : decide (idxOk x 0 0) = true := decide_eq_true hid
      rw [if_neg (fun h => hbi.1 h hid)]
      refine ex_gr ?_ ((gA.app' [⟨actCells x, .rw, 0⟩]).app' [⟨[.i 0, .i 0, .i 0], .rw, 0⟩])
      unfold actCells at *
      rw [run_lv c76]
      simp (disch := first | omega | rfl | assumption | (simp only [csN, Nat.reduceAdd, Nat.reduceMul, Nat.reduceLeDiff, Nat.reduceEqDiff] <;> omega) | (simp only [csF]; done) | (simp only [csF] <;> assumption) | fail) only [Nat.reduceEqDiff, Nat.reduceAdd, Nat.reduceMul, Nat.reduceSub, Nat.reduceLeDiff, Int.reduceAdd, Int.reduceSub, Int.reduceMul, Int.reduceLT, Int.reduceLE, Int.reduceGT, Int.reduceGE, Int.reduceEq, Int.reduceBEq, Int.reduceBNe, Int.reduceNeg, Int.reduceToNat, csAll, ↓reduceIte, C76, entry_3, hA, h1, hml, ba, d101, ba2, ba3, d102, hC, bs4, ba4, d103, hd]
    · have hd : decide (idxOk x 0 0) = false := decide_eq_false hid
      rw [if_pos (hbi.2 hid)]
      refine ex_gr ?_ ((gA.app' [⟨actCells x, .rw, 0⟩]).app' [⟨[.i 0, .i 0, .i 0], .rw, 0⟩])
      unfold actCells at *
      rw [run_lv c76]
      simp (disch := first | omega | rfl | assumption | (simp only [csN, Nat.reduceAdd, Nat.reduceMul, Nat.reduceLeDiff, Nat.reduceEqDiff] <;> omega) | (simp only [csF]; done) | (simp only [csF] <;> assumption) | fail) only [Nat.reduceEqDiff, Nat.reduceAdd, Nat.reduceMul, Nat.reduceSub, Nat.reduceLeDiff, Int.reduceAdd, Int.reduceSub, Int.reduceMul, Int.reduceLT, Int.reduceLE, Int.reduceGT, Int.reduceGE, Int.reduceEq, Int.reduceBEq, Int.reduceBNe, Int.reduceNeg, Int.reduceToNat, csAll, ↓reduceIte, C76, entry_3, hA, h1, hml, ba, d101, ba2, ba3, d102, hC, bs4, ba4, d103, hd]
end
end Go.Cs.Try

/- The reference's Do. -/
namespace Go.Cs
open Go
theorem zeros_ints : ∀ {n : Nat}, (List.replicate n [CV.int .i64 0]).flatten = ints (List.replicate n 0)
  | 0 => rfl
  | n + 1 => by rw [List.replicate_succ, List.replicate_succ, List.flatten_cons, zeros_ints, ints_cons]; rfl
section
variable {o : Tags} {g : Nat} {H : CHeap} {b : Nat} {M : Mdl} {L : Lay}
theorem MRep.setFree (m : MRep o g H b M L) {c : Nat} (hc : o c = none) (k : Blk) : MRep o g (H.set c k) b M L :=
  m.frame (fun d t h => by rw [List.length_set]; exact m.dom d t h) (fun _ _ h => h) (fun d k' h => by rw [List.getElem?_set_ne]; rintro rfl; rw [hc] at h; cases h)
theorem Frm.setNew {o' : Tags} {H' : CHeap} (f : Frm g o H o' H') {c : Nat} (hc : H.length ≤ c) (k : Blk) : Frm g o H o' (H'.set c k) :=
  ⟨by rw [List.length_set]; exact f.len, f.tag, f.new, fun d hd hk => by rw [List.getElem?_set_ne (by omega), f.keep d hd hk]⟩
theorem MRep.putSlot (m : MRep o g H b M L) {mu : Nat} {s : List Int} (hs : M.slots[mu]? = some s) {v : CV} (hv : L.sv[mu]? = some v) (ha : At o (g, 2, mu) H v 1 16 (ints s)) {s' : List Int} (hl : s'.length = 16) :
    MRep o g (H.set (blkOf v) ⟨ints s', .rw, 1⟩) b { M with slots := M.slots.set mu s' } L ∧ Frm g o H o (H.set (blkOf v) ⟨ints s', .rw, 1⟩) := by
  obtain ⟨tl, d1, d2, d3, d4⟩ := ha.pos (by omega)
  have d5 := lt_of_get d3
  refine ⟨m.setSlot hs (by simp) ?_ ?_, by simp, fun _ _ => rfl, fun c t h hc => by have := m.dom c t h; omega, fun c' hc' hk => ?_⟩
  · intro c' k hk h6'
    rw [List.getElem?_set_ne]
    rintro rfl
    rw [d2] at hk
    simp only [Option.some.injEq, Prod.mk.injEq, true_and] at hk
    exact h6' (by rw [← hk])
  · intro v' hv'
    rw [hv] at hv'
    simp only [Option.some.injEq] at hv'
    subst hv'
    exact .inr ⟨blkOf v, tl, d1, d2, by rw [List.getElem?_set_self d5], by simp [ints_len, hl]⟩
  · rw [List.getElem?_set_ne]
    rintro rfl
    exact hk _ d2
theorem MRep.putGlobal (m : MRep o g H b M L) {l' : List Int} (hl : l'.length = 16) :
    MRep o g (H.set (blkOf L.gl) ⟨ints l', .rw, 1⟩) b { M with globals := l' } L ∧ Frm g o H o (H.set (blkOf L.gl) ⟨ints l', .rw, 1⟩) := by
  obtain ⟨tl, d1, d2, d3, d4⟩ := m.globals.pos (by omega)
  have d5 := lt_of_get d3
  refine ⟨m.setGlobals (by simp) ?_ (.inr ⟨blkOf L.gl, tl, d1, d2, by rw [List.getElem?_set_self d5], by simp [ints_len, hl]⟩), by simp, fun _ _ => rfl, fun c t h hc => by have := m.dom c t h; omega, fun c' hc' hk => ?_⟩
  · intro c' k hk h6'
    rw [List.getElem?_set_ne]
    rintro rfl
    rw [d2] at hk
    simp only [Option.some.injEq, Prod.mk.injEq, true_and] at hk
    exact h6' (by rw [← hk])
  · rw [List.getElem?_set_ne]
    rintro rfl
    exact hk _ d2
end
end Go.Cs
namespace Go.Cs.Try
open Go Go.Cs
set_option maxRecDepth 100000
set_option maxHeartbeats 16000000
section
variable {o : Tags} {g : Nat} {H : CHeap} {b : Nat} {M : Mdl} {L : Lay}
abbrev zF : List CV := [.nilSlice, .int .i64 0, .int .i64 0, .int .i64 0, .int .i64 0, .int .i64 0, .int .i64 0]

/-- What Do stands before, when nothing is against the act. -/
theorem f55 (m : MRep o g H b M L) (w : M.Ok) (hf : M.objs.length < 10000) {mu : Int} {x : Act} : DoesD o g H b (M.doAct mu x).1 (M.doAct mu x).2.1 (M.doAct mu x).2.2 (run P 55 [.ptr b 0, .i mu, .agg (actCells x)] H) := by
  have g1 : Gr H (H ++ [(⟨actCells x, .rw, 0⟩ : Blk)]) := .app _ _
  have g2 : Gr (H ++ [(⟨actCells x, .rw, 0⟩ : Blk)]) (H ++ [(⟨actCells x, .rw, 0⟩ : Blk)] ++ [(⟨zF, .rw, 0⟩ : Blk)]) := .app _ _
  have ba1 := g2.get (look_last (l := H) (a := (⟨actCells x, .rw, 0⟩ : Blk)) rfl)
  have br1 : (H ++ [(⟨actCells x, .rw, 0⟩ : Blk)] ++ [(⟨zF, .rw, 0⟩ : Blk)])[H.length + 1]? = some ⟨zF, .rw, 0⟩ := look_last (by simp)
  have hAl : (H ++ [(⟨actCells x, .rw, 0⟩ : Blk)] ++ [(⟨zF, .rw, 0⟩ : Blk)]).length = H.length + 2 := by simp
  have g12 := g1.trans g2
  have m1 := m.gr g12
  have h54 := f54 m1 w
  generalize hA : H ++ [(⟨actCells x, .rw, 0⟩ : Blk)] ++ [(⟨zF, .rw, 0⟩ : Blk)] = HA at *
  obtain ⟨He, d76, g3⟩ := f76 m1 w mu x
  have hel := g3.len
  by_cases hE : M.errOf mu x = 0
  case neg =>
    have hd : M.doAct mu x = (M, e0, M.errOf mu x) := by unfold Mdl.doAct; rw [if_neg hE]
    rw [hd]
    have br2 := g3.get br1
    have hrl := lt_of_get br2
    generalize M.errOf mu x = e at *
    refine ⟨He.set (H.length + 1) ⟨zF, .rw, 0⟩, o, L, .nilSlice, ?_, (m1.gr g3).setFree ?_ _, ((g12.trans g3).frm m.dom).setNew (by omega) _, .inl ⟨rfl, rfl, .inl rfl⟩⟩
    · unfold actCells effOf e0 at *
      rw [run_lv c55]
      simp (disch := first | omega | rfl | assumption | (simp only [csN, Nat.reduceAdd, Nat.reduceMul, Nat.reduceLeDiff, Nat.reduceEqDiff] <;> omega) | (simp only [csF]; done) | (simp only [csF] <;> assumption) | fail) only [Nat.reduceEqDiff, Nat.reduceAdd, Nat.reduceMul, Nat.reduceSub, Nat.reduceLeDiff, Int.reduceAdd, Int.reduceSub, Int.reduceMul, Int.reduceLT, Int.reduceLE, Int.reduceGT, Int.reduceGE, Int.reduceEq, Int.reduceBEq, Int.reduceBNe, Int.reduceNeg, Int.reduceToNat, csAll, ↓reduceIte, C55, entry_3, hA, h54, ba1, br1, br2, d76]
    · cases h : o (H.length + 1) with
      | none => rfl
      | some t => have := m.dom _ _ h; omega
  obtain ⟨⟨c1, c2, c3⟩, ⟨ca, cb⟩, hv, hz, hi⟩ := Mdl.errOf_0 hE
  have hd : M.doAct mu x = ((M.eff mu.toNat (M.slots.getD mu.toNat []) x).1, (M.eff mu.toNat (M.slots.getD mu.toNat []) x).2, 0) := by unfold Mdl.doAct; rw [if_pos hE]
  rw [hd]
  rw [hE] at d76
  have g4 : Gr He (He ++ [(⟨zF, .rw, 0⟩ : Blk)]) := .app _ _
  have ba2 := g3.get ba1
  have cE := (m1.gr g3).cells
  have be : (He ++ [(⟨zF, .rw, 0⟩ : Blk)])[He.length]? = some ⟨zF, .rw, 0⟩ := look_last rfl
  have hXl : (He ++ [(⟨zF, .rw, 0⟩ : Blk)]).length = He.length + 1 := by simp
  have ba3 := g4.get ba2
  have br3 := g4.get (g3.get br1)
  have gX : Gr H (He ++ [(⟨zF, .rw, 0⟩ : Blk)]) := (g12.trans g3).trans g4
  have mE := m1.gr g3
  obtain ⟨tlE, pE1, -, pE3, -⟩ := mE.slots.pos (by omega)
  have mX := m.gr gX
  have hs := getD_of (l := M.slots) (i := mu.toNat) [] (by omega)
  generalize hsv : M.slots.getD mu.toNat [] = s at *
  have h16 := (w.s16 _ (List.mem_of_getElem? hs)).1
  have cX := mX.cells
  obtain ⟨v, hvv, ha⟩ := mX.slot _ _ hs
  obtain ⟨tv, q1, q2, q3, -⟩ := ha.pos (by omega)
  have hvl : blkOf v < H.length := m.dom _ _ q2
  have hbl : b < H.length := m.dom _ _ m.top
  have hol := mX.objs.len
  have sga := slotGet h16 ca
  have hfr : ∀ c, H.length ≤ c → o c = none := fun c hc => by
    cases h : o c with
    | none => rfl
    | some t => have := m.dom _ _ h; omega
  have fX : Frm g o H o (He ++ [(⟨zF, .rw, 0⟩ : Blk)]) := gX.frm m.dom
  generalize hX : He ++ [(⟨zF, .rw, 0⟩ : Blk)] = HX at *
  have vv := hvv
  rw [q1] at vv
  have cE' := cE
  rw [pE1] at cE'
  have il : (Go.Cs.ints s).length = 16 := by rw [ints_len, h16]
  -- what a change of slot A comes to
  have slotA : ∀ z, MRep o g (HX.set (blkOf v) ⟨Go.Cs.ints (s.set x.a.toNat z), .rw, 1⟩) b { M with slots := M.slots.set mu.toNat (s.set x.a.toNat z) } L ∧ Frm g o HX o (HX.set (blkOf v) ⟨Go.Cs.ints (s.set x.a.toNat z), .rw, 1⟩) := fun z => mX.putSlot hs hvv ha (by rw [List.length_set]; exact h16)
  have fin : ∀ {H2 : CHeap} {M2 : Mdl} {o2 : Tags} {L2 : Lay} (k1 k2 : Blk), MRep o2 g H2 b M2 L2 → Frm g o HX o2 H2 → MRep o2 g ((H2.set He.length k1).set (H.length + 1) k2) b M2 L2 ∧ Frm g o H o2 ((H2.set He.length k1).set (H.length + 1) k2) := by
    intro H2 M2 o2 L2 k1 k2 mm ff
    have ff' := fX.trans ff
    have hno : ∀ c, H.length ≤ c → c < HX.length → o2 c = none := fun c hc hc2 => by rw [ff.tag c hc2, hfr c hc]
    exact ⟨(mm.setFree (hno _ (by omega) (by omega)) _).setFree (hno _ (by omega) (by omega)) _, (ff'.setNew (by omega) _).setNew (by omega) _⟩
  have fin1 : ∀ {H2 : CHeap} {M2 : Mdl} {o2 : Tags} {L2 : Lay} (k2 : Blk), MRep o2 g H2 b M2 L2 → Frm g o HX o2 H2 → MRep o2 g (H2.set (H.length + 1) k2) b M2 L2 ∧ Frm g o H o2 (H2.set (H.length + 1) k2) := by
    intro H2 M2 o2 L2 k2 mm ff
    have ff' := fX.trans ff
    exact ⟨mm.setFree (by rw [ff.tag _ (by omega), hfr _ (by omega)]) _, ff'.setNew (by omega) _⟩
  have finS : ∀ {H1 : CHeap} {M2 : Mdl} {o2 : Tags} {L2 : Lay} {k1 : Blk} (k2 : Blk) (c : Nat) (kc : Blk), c < H.length → MRep o2 g (H1.set c kc) b M2 L2 → Frm g o HX o2 (H1.set c kc) → MRep o2 g (((H1.set He.length k1).set c kc).set (H.length + 1) k2) b M2 L2 ∧ Frm g o H o2 (((H1.set He.length k1).set c kc).set (H.length + 1) k2) := by
    intro H1 M2 o2 L2 k1 k2 c kc hc mm ff
    rw [List.set_comm (l := H1) _ _ (show He.length ≠ c by omega)]
    exact fin k1 k2 mm ff
  have setget : ∀ z : Int, ((Go.Cs.ints s).set x.a.toNat (.i z))[x.a.toNat]? = some (.i z) := fun z => by rw [List.getElem?_set_self (by omega)]
  have setints : ∀ z : Int, Go.Cs.ints (s.set x.a.toNat z) = (Go.Cs.ints s).set x.a.toNat (.i z) := fun z => ints_set _ _ _
  have idf : Frm g o HX o HX := .refl mX.dom
  have toldAt : ∀ {H2 : CHeap} {c : Nat} {l : List Int} {n : Nat}, H.length ≤ c → H2[c]? = some ⟨Go.Cs.ints l, .rw, 1⟩ → l.length = n → At (Loc H.length) z3 H2 (.slice c 0 n n 1 false) 1 l.length (Go.Cs.ints l) := fun hc h hn => IL.blk hc h hn
  have hnb : ∀ n, wNeed x = n → 0 ≤ n → n < 16 → s.getD n.toNat 0 ≠ 0 := fun n e h0 _ => by rw [← e]; exact hz (by omega)
  rcases k12 c3 with hk | hk | hk | hk | hk | hk | hk | hk | hk | hk | hk | hk
  · -- New
    have hvs := hv hk
    have hvs' := hvs
    unfold validS at hvs'
    have he : M.eff mu.toNat s x = (({ M with objs := M.objs ++ [bornObj x] } : Mdl).setSlot mu.toNat s x.a (M.objs.length + 1), ⟨[], 0, 0, 0, 0, M.objs.length + 1, 0⟩) := by simp only [Mdl.eff, hk, Int.reduceEq, ↓reduceIte]
    rw [he]
    have z1 : (List.replicate x.nr.toNat [CV.int .i64 0]).flatten = Go.Cs.ints (List.replicate x.nr.toNat 0) := zeros_ints
    have z2 : (List.replicate x.nd.toNat [CV.int .i64 0]).flatten = Go.Cs.ints (List.replicate x.nd.toNat 0) := zeros_ints
    have b1 : (bornObj x).refs = List.replicate x.nr.toNat 0 := rfl
    have b2 : (bornObj x).data = List.replicate x.nd.toNat 0 := rfl
    generalize hR : Go.Cs.ints (List.replicate x.nr.toNat 0) = RR at *
    generalize hD : Go.Cs.ints (List.replicate x.nd.toNat 0) = DD at *
    have lR : RR.length = x.nr.toNat := by rw [← hR, ints_len, List.length_replicate]
    have lD : DD.length = x.nd.toNat := by rw [← hD, ints_len, List.length_replicate]
    have gR : Gr HX (HX ++ [(⟨RR, .rw, 1⟩ : Blk)]) := .app _ _
    have gD : Gr (HX ++ [(⟨RR, .rw, 1⟩ : Blk)]) (HX ++ [(⟨RR, .rw, 1⟩ : Blk)] ++ [(⟨DD, .rw, 1⟩ : Blk)]) := .app _ _
    have gE : Gr (HX ++ [(⟨RR, .rw, 1⟩ : Blk)] ++ [(⟨DD, .rw, 1⟩ : Blk)]) (HX ++ [(⟨RR, .rw, 1⟩ : Blk)] ++ [(⟨DD, .rw, 1⟩ : Blk)] ++ [(⟨[.i x.nr, .i x.nd, .i x.sk, .slice HX.length 0 x.nr.toNat x.nr.toNat 1 false, .slice (HX.length + 1) 0 x.nd.toNat x.nd.toNat 1 false], .rw, 5⟩ : Blk)]) := .app _ _
    have gAll := (gR.trans gD).trans gE
    have ms := (mX.gr gAll).objs
    obtain ⟨H', a1, a2, a3, a4⟩ := ms.append (k := 1) (new := [.i x.nr, .i x.nd, .i x.sk, .slice HX.length 0 x.nr.toNat x.nr.toNat 1 false, .slice (HX.length + 1) 0 x.nd.toNat x.nd.toNat 1 false]) (by omega) (Nat.le_trans (by omega : M.objs.length + 1 ≤ 20000) (by decide)) rfl rfl
    have hcl : (HX ++ [(⟨RR, .rw, 1⟩ : Blk)] ++ [(⟨DD, .rw, 1⟩ : Blk)] ++ [(⟨[.i x.nr, .i x.nd, .i x.sk, .slice HX.length 0 x.nr.toNat x.nr.toNat 1 false, .slice (HX.length + 1) 0 x.nd.toNat x.nd.toNat 1 false], .rw, 5⟩ : Blk)]).length = HX.length + 3 := by simp
    rw [hcl] at a1 a2 a3 a4
    have hnt : ∀ c, H.length ≤ c → o c ≠ some (g, 5, 0) := fun c hc => by rw [hfr c hc]; simp
    have low : ∀ c, c < HX.length → o c ≠ some (g, 5, 0) → H'[c]? = HX[c]? := fun c hc h => by rw [a4 c (by omega) h, gAll.low c hc]
    have kb : H'[b]? = some ⟨[L.sl, L.gl, L.qv, L.ov], .rw, 0⟩ := by rw [low b (by omega) (by rw [mX.top]; simp), cX]
    have kv : H'[blkOf v]? = some ⟨Go.Cs.ints s, .rw, 1⟩ := by rw [low _ (by omega) (by rw [q2]; simp), q3]
    have ka : H'[H.length]? = some ⟨actCells x, .rw, 0⟩ := by rw [low _ (by omega) (hnt _ (by omega)), ba3]
    have ke : H'[He.length]? = some ⟨zF, .rw, 0⟩ := by rw [low _ (by omega) (hnt _ (by omega)), be]
    have kr : H'[H.length + 1]? = some ⟨zF, .rw, 0⟩ := by rw [low _ (by omega) (hnt _ (by omega)), br3]
    have hbv : b ≠ blkOf v := by rintro h; have := mX.top; rw [h, q2] at this; simp at this
    have kR : H'[HX.length]? = some ⟨RR, .rw, 1⟩ := by rw [a4 _ (by omega) (hnt _ (by omega)), gE.get (gD.get (look_last rfl))]
    have kD : H'[HX.length + 1]? = some ⟨DD, .rw, 1⟩ := by rw [a4 _ (by omega) (hnt _ (by omega)), gE.get (look_last (by simp))]
    obtain ⟨o', mO, fO⟩ := mX.newObjL (Hm1 := HX ++ [(⟨RR, .rw, 1⟩ : Blk)]) (Hm2 := HX ++ [(⟨RR, .rw, 1⟩ : Blk)] ++ [(⟨DD, .rw, 1⟩ : Blk)]) (Hf := H'.set b ⟨[L.sl, L.gl, L.qv, .slice (HX.length + 3) 0 (M.objs.length + 1) (M.objs.length + 1) 5 true], .rw, 0⟩) (x := bornObj x)
      (rv := .slice HX.length 0 x.nr.toNat x.nr.toNat 1 false) (dv := .slice (HX.length + 1) 0 x.nd.toNat x.nd.toNat 1 false) (v := .slice (HX.length + 3) 0 (M.objs.length + 1) (M.objs.length + 1) 5 true) (k1 := HX.length) (k2 := HX.length + 1) (k3 := HX.length + 2) (vb := HX.length + 3) (tv := true)
      rfl (.inr ⟨HX.length, false, by rw [b1, List.length_replicate], Loc_some.2 ⟨by omega, rfl⟩, by rw [b1, hR]; exact look_last rfl, by rw [b1, ints_len, List.length_replicate]; omega⟩)
      (.inr ⟨HX.length + 1, false, by rw [b2, List.length_replicate], Loc_some.2 ⟨by omega, rfl⟩, by rw [b2, hD]; exact look_last (by simp), by rw [b2, ints_len, List.length_replicate]; omega⟩) (by omega) (by omega) (by omega) (by simp) (by simp)
      (fun c c1 c2 => by
        simp only [List.length_append, List.length_cons, List.length_nil] at c2
        have : c = HX.length := by omega
        subst this
        rw [List.getElem?_set_ne (by omega), kR]; exact (look_last rfl).symm)
      (fun c c1 c2 => by
        simp only [List.length_append, List.length_cons, List.length_nil] at c2
        have : c = HX.length + 1 := by omega
        subst this
        rw [List.getElem?_set_ne (by omega), kD]; exact (look_last (by simp)).symm) (by omega)
      (by rw [List.getElem?_set_ne (by omega), a3]; rfl) (by rw [List.getElem?_set_self (lt_of_get kb)])
      (fun d hd h h' => by rw [List.getElem?_set_ne (Ne.symm h'), low d hd h])
    obtain ⟨v', hv', ha'⟩ := mO.slot mu.toNat s hs
    have hvv' : v' = v := by
      have : L.sv[mu.toNat]? = some v' := hv'
      rw [hvv] at this; exact (by simpa using this : v = v').symm
    subst hvv'
    obtain ⟨mm, ff⟩ := mO.putSlot hs hv' ha' (s' := s.set x.a.toNat (M.objs.length + 1)) (by rw [List.length_set]; exact h16)
    obtain ⟨m9, f9⟩ := fin ⟨[.nilSlice, .i 0, .i 0, .i 0, .i 0, .i (M.objs.length + 1), .i 0], .rw, 0⟩ ⟨[.nilSlice, .i 0, .i 0, .i 0, .i 0, .i (M.objs.length + 1), .i 0], .rw, 0⟩ mm (fO.trans ff)
    refine ⟨_, o', _, .nilSlice, ?_, m9, f9, .inl ⟨rfl, rfl, .inl rfl⟩⟩
    rw [setints]
    have hcast : ((M.objs.length + 1 : Nat) : Int) = (M.objs.length : Int) + 1 := rfl
    unfold actCells effOf at *
    rw [run_lv c55]
    simp (disch := first | omega | rfl | assumption | (simp only [csN, Nat.reduceAdd, Nat.reduceMul, Nat.reduceLeDiff, Nat.reduceEqDiff] <;> omega) | (simp only [csF]; done) | (simp only [csF] <;> assumption) | fail) only [Nat.reduceEqDiff, Nat.reduceAdd, Nat.reduceMul, Nat.reduceSub, Nat.reduceLeDiff, Int.reduceAdd, Int.reduceSub, Int.reduceMul, Int.reduceLT, Int.reduceLE, Int.reduceGT, Int.reduceGE, Int.reduceEq, Int.reduceBEq, Int.reduceBNe, Int.reduceNeg, Int.reduceToNat, csAll, ↓reduceIte, C55, entry_3, hA, h54, ba1, br1, d76, ba2, cE', pE3, vv, hX, ba3, br3, be, q3, il, sga, cX, z1, z2, a1, kb, kv, ka, ke, kr, hcast]
  · -- Load
    have cbb := cb (by rw [hk]; rfl)
    have hne := hnb x.b (by unfold wNeed; rw [if_pos hk]) cbb.1 cbb.2
    have sgb := slotGet h16 cbb
    have he : M.eff mu.toNat s x = (M.setSlot mu.toNat s x.a ((M.obj (s.getD x.b.toNat 0)).refs.getD x.i.toNat 0), ⟨[], 0, 0, 0, 0, 0, (M.obj (s.getD x.b.toNat 0)).refs.getD x.i.toNat 0⟩) := by simp only [Mdl.eff, hk, Int.reduceEq, ↓reduceIte]
    rw [he]
    have hH := slotHas w hs cbb hne
    have hbd : M.bound s x = (M.obj (s.getD x.b.toNat 0)).nr := by unfold Mdl.bound; rw [if_pos hk]
    generalize s.getD x.b.toNat 0 = y at *
    have hob := w.obj hH
    have hnr := hob.nr
    have hix := hi (by rw [hbd]; exact hnr.1)
    rw [hbd] at hix
    obtain ⟨hh, rest, oo1, oo2, oo3, oo4, oo5, h6, h7⟩ := mX.objAt _ hH
    obtain ⟨tlo, po, -, -, -⟩ := mX.objs.pos (by have := hH.2; have := hH.1; omega)
    rw [po] at cX
    have hw1 := (objIx w hH).1
    have hw2 := objIx w hH
    obtain ⟨tr, r1, r2, r3, -⟩ := h6.pos (by omega)
    rw [r1] at oo3
    have hrg : (Go.Cs.ints (M.obj y).refs)[x.i.toNat]? = some (.i ((M.obj y).refs.getD x.i.toNat 0)) := by rw [ints_get, getD_of 0 (by omega)]; rfl
    generalize (M.obj y).refs.getD x.i.toNat 0 = z at *
    obtain ⟨mm, ff⟩ := slotA z
    obtain ⟨m9, f9⟩ := fin ⟨[.nilSlice, .i 0, .i 0, .i 0, .i 0, .i 0, .i z], .rw, 0⟩ ⟨[.nilSlice, .i 0, .i 0, .i 0, .i 0, .i 0, .i z], .rw, 0⟩ mm ff
    have sg := setget z
    refine ⟨_, o, L, .nilSlice, ?_, m9, f9, .inl ⟨rfl, rfl, .inl rfl⟩⟩
    rw [setints]
    unfold actCells effOf at *
    rw [run_lv c55]
    simp (disch := first | omega | rfl | assumption | (simp only [csN, Nat.reduceAdd, Nat.reduceMul, Nat.reduceLeDiff, Nat.reduceEqDiff] <;> omega) | (simp only [csF]; done) | (simp only [csF] <;> assumption) | fail) only [Nat.reduceEqDiff, Nat.reduceAdd, Nat.reduceMul, Nat.reduceSub, Nat.reduceLeDiff, Int.reduceAdd, Int.reduceSub, Int.reduceMul, Int.reduceLT, Int.reduceLE, Int.reduceGT, Int.reduceGE, Int.reduceEq, Int.reduceBEq, Int.reduceBNe, Int.reduceNeg, Int.reduceToNat, csAll, ↓reduceIte, C55, entry_3, hA, h54, ba1, br1, d76, ba2, cE', pE3, vv, hX, ba3, br3, be, q3, il, sga, sgb, sg, cX, hw1, oo2, drop_get, oo3, r3, hrg]
  · -- Store
    have cbb := cb (by rw [hk]; rfl)
    have hne := hnb x.a (by unfold wNeed; rw [if_neg (by omega), if_pos (by omega)]) ca.1 ca.2
    have sgb := slotGet h16 cbb
    have he : M.eff mu.toNat s x = (M.setObj (s.getD x.a.toNat 0) { M.obj (s.getD x.a.toNat 0) with refs := (M.obj (s.getD x.a.toNat 0)).refs.set x.i.toNat (s.getD x.b.toNat 0) }, ⟨[], s.getD x.a.toNat 0, x.i, (M.obj (s.getD x.a.toNat 0)).refs.getD x.i.toNat 0, s.getD x.b.toNat 0, 0, 0⟩) := by simp only [Mdl.eff, hk, Int.reduceEq, ↓reduceIte]
    rw [he]
    have hH := slotHas w hs ca hne
    have hbd : M.bound s x = (M.obj (s.getD x.a.toNat 0)).nr := by unfold Mdl.bound; rw [if_neg (by omega), if_pos hk]
    generalize s.getD x.a.toNat 0 = y at *
    generalize s.getD x.b.toNat 0 = u at *
    have hob := w.obj hH
    have hnr := hob.nr
    have hix := hi (by rw [hbd]; exact hnr.1)
    rw [hbd] at hix
    obtain ⟨hh, rest, oo1, oo2, oo3, oo4, oo5, h6, h7⟩ := mX.objAt _ hH
    obtain ⟨tlo, po, -, -, -⟩ := mX.objs.pos (by have := hH.2; have := hH.1; omega)
    rw [po] at cX
    have hw1 := (objIx w hH).1
    have hw2 := objIx w hH
    obtain ⟨mm, ff⟩ := mX.putRef hH oo1 h6 h7 (i := x.i.toNat) (by omega) u
    obtain ⟨tr, r1, r2, r3, -⟩ := h6.pos (by omega)
    have hrl : blkOf hh.1 < H.length := m.dom _ _ r2
    have hovl : blkOf L.ov < H.length := m.dom _ _ oo5
    have hil := ints_len (M.obj y).refs
    rw [r1] at oo3
    have hrg : (Go.Cs.ints (M.obj y).refs)[x.i.toNat]? = some (.i ((M.obj y).refs.getD x.i.toNat 0)) := by rw [ints_get, getD_of 0 (by omega)]; rfl
    obtain ⟨m9, f9⟩ := finS (k1 := ⟨[.nilSlice, .i y, .i x.i, .i ((M.obj y).refs.getD x.i.toNat 0), .i u, .i 0, .i 0], .rw, 0⟩) ⟨[.nilSlice, .i y, .i x.i, .i ((M.obj y).refs.getD x.i.toNat 0), .i u, .i 0, .i 0], .rw, 0⟩ (blkOf hh.1) ⟨Go.Cs.ints ((M.obj y).refs.set x.i.toNat u), .rw, 1⟩ (by omega) mm ff
    refine ⟨_, o, L, .nilSlice, ?_, m9, f9, .inl ⟨rfl, rfl, .inl rfl⟩⟩
    rw [ints_set]
    generalize (M.obj y).refs.getD x.i.toNat 0 = z at *
    unfold actCells effOf at *
    rw [run_lv c55]
    simp (disch := first | omega | rfl | assumption | (simp only [csN, Nat.reduceAdd, Nat.reduceMul, Nat.reduceLeDiff, Nat.reduceEqDiff] <;> omega) | (simp only [csF]; done) | (simp only [csF] <;> assumption) | fail) only [Nat.reduceEqDiff, Nat.reduceAdd, Nat.reduceMul, Nat.reduceSub, Nat.reduceLeDiff, Int.reduceAdd, Int.reduceSub, Int.reduceMul, Int.reduceLT, Int.reduceLE, Int.reduceGT, Int.reduceGE, Int.reduceEq, Int.reduceBEq, Int.reduceBNe, Int.reduceNeg, Int.reduceToNat, csAll, ↓reduceIte, C55, entry_3, hA, h54, ba1, br1, d76, ba2, cE', pE3, vv, hX, ba3, br3, be, q3, il, sga, sgb, cX, hw1, oo2, drop_get, oo3, r3, hrg, List.set_set]
  · -- Put
    have hne := hnb x.a (by unfold wNeed; rw [if_neg (by omega), if_pos (by omega)]) ca.1 ca.2
    have he : M.eff mu.toNat s x = (M.setObj (s.getD x.a.toNat 0) { M.obj (s.getD x.a.toNat 0) with data := (M.obj (s.getD x.a.toNat 0)).data.set x.i.toNat x.n }, e0) := by simp only [Mdl.eff, hk, Int.reduceEq, ↓reduceIte]
    rw [he]
    have hH := slotHas w hs ca hne
    have hbd : M.bound s x = (M.obj (s.getD x.a.toNat 0)).nd := by unfold Mdl.bound; rw [if_neg (by omega), if_neg (by omega), if_pos (by omega)]
    generalize s.getD x.a.toNat 0 = y at *
    have hob := w.obj hH
    have hnd := hob.nd
    have hix := hi (by rw [hbd]; exact hnd.1)
    rw [hbd] at hix
    obtain ⟨hh, rest, oo1, oo2, oo3, oo4, oo5, h6, h7⟩ := mX.objAt _ hH
    obtain ⟨tlo, po, -, -, -⟩ := mX.objs.pos (by have := hH.2; have := hH.1; omega)
    rw [po] at cX
    have hw1 := (objIx w hH).1
    have hw2 := objIx w hH
    obtain ⟨mm, ff⟩ := mX.putData hH oo1 h6 h7 (i := x.i.toNat) (by omega) x.n
    obtain ⟨tr, r1, r2, r3, -⟩ := h7.pos (by omega)
    have hrl : blkOf hh.2 < H.length := m.dom _ _ r2
    have hil := ints_len (M.obj y).data
    rw [r1] at oo3
    obtain ⟨m9, f9⟩ := fin1 ⟨zF, .rw, 0⟩ mm ff
    refine ⟨_, o, L, .nilSlice, ?_, m9, f9, .inl ⟨rfl, rfl, .inl rfl⟩⟩
    rw [ints_set]
    unfold actCells effOf e0 at *
    rw [run_lv c55]
    simp (disch := first | omega | rfl | assumption | (simp only [csN, Nat.reduceAdd, Nat.reduceMul, Nat.reduceLeDiff, Nat.reduceEqDiff] <;> omega) | (simp only [csF]; done) | (simp only [csF] <;> assumption) | fail) only [Nat.reduceEqDiff, Nat.reduceAdd, Nat.reduceMul, Nat.reduceSub, Nat.reduceLeDiff, Int.reduceAdd, Int.reduceSub, Int.reduceMul, Int.reduceLT, Int.reduceLE, Int.reduceGT, Int.reduceGE, Int.reduceEq, Int.reduceBEq, Int.reduceBNe, Int.reduceNeg, Int.reduceToNat, csAll, ↓reduceIte, C55, entry_3, hA, h54, ba1, br1, d76, ba2, cE', pE3, vv, hX, ba3, br3, be, q3, il, sga, cX, hw1, oo2, drop_get, oo3, r3]
  · -- Get
    have hne := hnb x.a (by unfold wNeed; rw [if_neg (by omega), if_pos (by omega)]) ca.1 ca.2
    have he : M.eff mu.toNat s x = (M, ⟨[(M.obj (s.getD x.a.toNat 0)).data.getD x.i.toNat 0], 0, 0, 0, 0, 0, 0⟩) := by simp only [Mdl.eff, hk, Int.reduceEq, ↓reduceIte]
    rw [he]
    have hH := slotHas w hs ca hne
    have hbd : M.bound s x = (M.obj (s.getD x.a.toNat 0)).nd := by unfold Mdl.bound; rw [if_neg (by omega), if_neg (by omega), if_pos (by omega)]
    generalize s.getD x.a.toNat 0 = y at *
    have hob := w.obj hH
    have hnd := hob.nd
    have hix := hi (by rw [hbd]; exact hnd.1)
    rw [hbd] at hix
    obtain ⟨hh, rest, oo1, oo2, oo3, oo4, oo5, h6, h7⟩ := mX.objAt _ hH
    obtain ⟨tlo, po, -, -, -⟩ := mX.objs.pos (by have := hH.2; have := hH.1; omega)
    rw [po] at cX
    have hw1 := (objIx w hH).1
    have hw2 := objIx w hH
    obtain ⟨tr, r1, r2, r3, -⟩ := h7.pos (by omega)
    rw [r1] at oo3
    have hrg : (Go.Cs.ints (M.obj y).data)[x.i.toNat]? = some (.i ((M.obj y).data.getD x.i.toNat 0)) := by rw [ints_get, getD_of 0 (by omega)]; rfl
    generalize (M.obj y).data.getD x.i.toNat 0 = z at *
    have gN : Gr HX (HX ++ [⟨[.i z], .rw, 1⟩]) := .app _ _
    obtain ⟨m9, f9⟩ := fin ⟨[.slice HX.length 0 1 1 1 false, .i 0, .i 0, .i 0, .i 0, .i 0, .i 0], .rw, 0⟩ ⟨[.slice HX.length 0 1 1 1 false, .i 0, .i 0, .i 0, .i 0, .i 0, .i 0], .rw, 0⟩ (mX.gr gN) (gN.frm mX.dom)
    refine ⟨_, o, L, .slice HX.length 0 1 1 1 false, ?_, m9, f9, toldAt (c := HX.length) (by omega) (by rw [List.getElem?_set_ne (by omega), List.getElem?_set_ne (by omega)]; exact look_last rfl) rfl⟩
    unfold actCells effOf at *
    rw [run_lv c55]
    simp (disch := first | omega | rfl | assumption | (simp only [csN, Nat.reduceAdd, Nat.reduceMul, Nat.reduceLeDiff, Nat.reduceEqDiff] <;> omega) | (simp only [csF]; done) | (simp only [csF] <;> assumption) | fail) only [Nat.reduceEqDiff, Nat.reduceAdd, Nat.reduceMul, Nat.reduceSub, Nat.reduceLeDiff, Int.reduceAdd, Int.reduceSub, Int.reduceMul, Int.reduceLT, Int.reduceLE, Int.reduceGT, Int.reduceGE, Int.reduceEq, Int.reduceBEq, Int.reduceBNe, Int.reduceNeg, Int.reduceToNat, csAll, ↓reduceIte, C55, entry_3, hA, h54, ba1, br1, d76, ba2, cE', pE3, vv, hX, ba3, br3, be, q3, il, sga, cX, hw1, oo2, drop_get, oo3, r3, hrg]
  · -- Copy
    have cbb := cb (by rw [hk]; rfl)
    have he : M.eff mu.toNat s x = (M.setSlot mu.toNat s x.a (s.getD x.b.toNat 0), ⟨[], 0, 0, 0, 0, 0, s.getD x.b.toNat 0⟩) := by simp only [Mdl.eff, hk, Int.reduceEq, ↓reduceIte]
    rw [he]
    have sgb := slotGet h16 cbb
    obtain ⟨mm, ff⟩ := slotA (s.getD x.b.toNat 0)
    generalize s.getD x.b.toNat 0 = z at *
    obtain ⟨m9, f9⟩ := fin ⟨[.nilSlice, .i 0, .i 0, .i 0, .i 0, .i 0, .i z], .rw, 0⟩ ⟨[.nilSlice, .i 0, .i 0, .i 0, .i 0, .i 0, .i z], .rw, 0⟩ mm ff
    have sg := setget z
    refine ⟨_, o, L, .nilSlice, ?_, m9, f9, .inl ⟨rfl, rfl, .inl rfl⟩⟩
    rw [setints]
    unfold actCells effOf at *
    rw [run_lv c55]
    simp (disch := first | omega | rfl | assumption | (simp only [csN, Nat.reduceAdd, Nat.reduceMul, Nat.reduceLeDiff, Nat.reduceEqDiff] <;> omega) | (simp only [csF]; done) | (simp only [csF] <;> assumption) | fail) only [Nat.reduceEqDiff, Nat.reduceAdd, Nat.reduceMul, Nat.reduceSub, Nat.reduceLeDiff, Int.reduceAdd, Int.reduceSub, Int.reduceMul, Int.reduceLT, Int.reduceLE, Int.reduceGT, Int.reduceGE, Int.reduceEq, Int.reduceBEq, Int.reduceBNe, Int.reduceNeg, Int.reduceToNat, csAll, ↓reduceIte, C55, entry_3, hA, h54, ba1, br1, d76, ba2, cE', pE3, vv, hX, ba3, br3, be, q3, il, sga, sgb, sg]
  · -- Drop
    have he : M.eff mu.toNat s x = (M.setSlot mu.toNat s x.a 0, e0) := by simp only [Mdl.eff, hk, Int.reduceEq, ↓reduceIte]
    rw [he]
    obtain ⟨mm, ff⟩ := slotA 0
    obtain ⟨m9, f9⟩ := fin1 ⟨zF, .rw, 0⟩ mm ff
    refine ⟨_, o, L, .nilSlice, ?_, m9, f9, .inl ⟨rfl, rfl, .inl rfl⟩⟩
    rw [setints]
    unfold actCells effOf e0 at *
    rw [run_lv c55]
    simp (disch := first | omega | rfl | assumption | (simp only [csN, Nat.reduceAdd, Nat.reduceMul, Nat.reduceLeDiff, Nat.reduceEqDiff] <;> omega) | (simp only [csF]; done) | (simp only [csF] <;> assumption) | fail) only [Nat.reduceEqDiff, Nat.reduceAdd, Nat.reduceMul, Nat.reduceSub, Nat.reduceLeDiff, Int.reduceAdd, Int.reduceSub, Int.reduceMul, Int.reduceLT, Int.reduceLE, Int.reduceGT, Int.reduceGE, Int.reduceEq, Int.reduceBEq, Int.reduceBNe, Int.reduceNeg, Int.reduceToNat, csAll, ↓reduceIte, C55, entry_3, hA, h54, ba1, br1, d76, ba2, cE', pE3, vv, hX, ba3, br3, be, q3, il, sga]
  · -- Same
    have cbb := cb (by rw [hk]; rfl)
    have he : M.eff mu.toNat s x = (M, ⟨[if s.getD x.a.toNat 0 = s.getD x.b.toNat 0 then 1 else 0], 0, 0, 0, 0, 0, 0⟩) := by simp only [Mdl.eff, hk, Int.reduceEq, ↓reduceIte]
    rw [he]
    have sgb := slotGet h16 cbb
    generalize s.getD x.a.toNat 0 = za at *
    generalize s.getD x.b.toNat 0 = zb at *
    by_cases e : za = zb
    · rw [if_pos e]
      have gN : Gr HX (HX ++ [⟨[.i 0], .rw, 1⟩] ++ [⟨[.i 1], .rw, 1⟩]) := (Gr.app _ _).app' _
      obtain ⟨m9, f9⟩ := fin ⟨[.slice (HX.length + 1) 0 1 1 1 false, .i 0, .i 0, .i 0, .i 0, .i 0, .i 0], .rw, 0⟩ ⟨[.slice (HX.length + 1) 0 1 1 1 false, .i 0, .i 0, .i 0, .i 0, .i 0, .i 0], .rw, 0⟩ (mX.gr gN) (gN.frm mX.dom)
      refine ⟨_, o, L, .slice (HX.length + 1) 0 1 1 1 false, ?_, m9, f9, toldAt (c := HX.length + 1) (by omega) (by rw [List.getElem?_set_ne (by omega), List.getElem?_set_ne (by omega)]; exact look_last (by simp)) rfl⟩
      unfold actCells effOf at *
      rw [run_lv c55]
      simp (disch := first | omega | rfl | assumption | (simp only [csN, Nat.reduceAdd, Nat.reduceMul, Nat.reduceLeDiff, Nat.reduceEqDiff] <;> omega) | (simp only [csF]; done) | (simp only [csF] <;> assumption) | fail) only [Nat.reduceEqDiff, Nat.reduceAdd, Nat.reduceMul, Nat.reduceSub, Nat.reduceLeDiff, Int.reduceAdd, Int.reduceSub, Int.reduceMul, Int.reduceLT, Int.reduceLE, Int.reduceGT, Int.reduceGE, Int.reduceEq, Int.reduceBEq, Int.reduceBNe, Int.reduceNeg, Int.reduceToNat, csAll, ↓reduceIte, C55, entry_3, hA, h54, ba1, br1, d76, ba2, cE', pE3, vv, hX, ba3, br3, be, q3, il, sga, sgb, List.set_set]
    · rw [if_neg e]
      have gN : Gr HX (HX ++ [⟨[.i 0], .rw, 1⟩]) := .app _ _
      obtain ⟨m9, f9⟩ := fin ⟨[.slice HX.length 0 1 1 1 false, .i 0, .i 0, .i 0, .i 0, .i 0, .i 0], .rw, 0⟩ ⟨[.slice HX.length 0 1 1 1 false, .i 0, .i 0, .i 0, .i 0, .i 0, .i 0], .rw, 0⟩ (mX.gr gN) (gN.frm mX.dom)
      refine ⟨_, o, L, .slice HX.length 0 1 1 1 false, ?_, m9, f9, toldAt (c := HX.length) (by omega) (by rw [List.getElem?_set_ne (by omega), List.getElem?_set_ne (by omega)]; exact look_last rfl) rfl⟩
      unfold actCells effOf at *
      rw [run_lv c55]
      simp (disch := first | omega | rfl | assumption | (simp only [csN, Nat.reduceAdd, Nat.reduceMul, Nat.reduceLeDiff, Nat.reduceEqDiff] <;> omega) | (simp only [csF]; done) | (simp only [csF] <;> assumption) | fail) only [Nat.reduceEqDiff, Nat.reduceAdd, Nat.reduceMul, Nat.reduceSub, Nat.reduceLeDiff, Int.reduceAdd, Int.reduceSub, Int.reduceMul, Int.reduceLT, Int.reduceLE, Int.reduceGT, Int.reduceGE, Int.reduceEq, Int.reduceBEq, Int.reduceBNe, Int.reduceNeg, Int.reduceToNat, csAll, ↓reduceIte, C55, entry_3, hA, h54, ba1, br1, d76, ba2, cE', pE3, vv, hX, ba3, br3, be, q3, il, sga, sgb]
  · -- Ident
    have he : M.eff mu.toNat s x = (M, ⟨[s.getD x.a.toNat 0], 0, 0, 0, 0, 0, 0⟩) := by simp only [Mdl.eff, hk, Int.reduceEq, ↓reduceIte]
    rw [he]
    generalize s.getD x.a.toNat 0 = z at *
    have gN : Gr HX (HX ++ [⟨[.i z], .rw, 1⟩]) := .app _ _
    obtain ⟨m9, f9⟩ := fin ⟨[.slice HX.length 0 1 1 1 false, .i 0, .i 0, .i 0, .i 0, .i 0, .i 0], .rw, 0⟩ ⟨[.slice HX.length 0 1 1 1 false, .i 0, .i 0, .i 0, .i 0, .i 0, .i 0], .rw, 0⟩ (mX.gr gN) (gN.frm mX.dom)
    refine ⟨_, o, L, .slice HX.length 0 1 1 1 false, ?_, m9, f9, toldAt (c := HX.length) (by omega) (by rw [List.getElem?_set_ne (by omega), List.getElem?_set_ne (by omega)]; exact look_last rfl) rfl⟩
    unfold actCells effOf at *
    rw [run_lv c55]
    simp (disch := first | omega | rfl | assumption | (simp only [csN, Nat.reduceAdd, Nat.reduceMul, Nat.reduceLeDiff, Nat.reduceEqDiff] <;> omega) | (simp only [csF]; done) | (simp only [csF] <;> assumption) | fail) only [Nat.reduceEqDiff, Nat.reduceAdd, Nat.reduceMul, Nat.reduceSub, Nat.reduceLeDiff, Int.reduceAdd, Int.reduceSub, Int.reduceMul, Int.reduceLT, Int.reduceLE, Int.reduceGT, Int.reduceGE, Int.reduceEq, Int.reduceBEq, Int.reduceBNe, Int.reduceNeg, Int.reduceToNat, csAll, ↓reduceIte, C55, entry_3, hA, h54, ba1, br1, d76, ba2, cE', pE3, vv, hX, ba3, br3, be, q3, il, sga]
  · -- Export
    have hbd : M.bound s x = 16 := by unfold Mdl.bound; rw [if_neg (by omega), if_neg (by omega), if_neg (by omega), if_pos (by omega)]
    have hix := hi (by rw [hbd]; omega)
    rw [hbd] at hix
    have he : M.eff mu.toNat s x = ({ M with globals := M.globals.set x.i.toNat (s.getD x.a.toNat 0) }, e0) := by simp only [Mdl.eff, hk, Int.reduceEq, ↓reduceIte]
    rw [he]
    generalize s.getD x.a.toNat 0 = z at *
    obtain ⟨mm, ff⟩ := mX.putGlobal (l' := M.globals.set x.i.toNat z) (by rw [List.length_set]; exact w.g16.1)
    obtain ⟨tg, r1, r2, r3, -⟩ := mX.globals.pos (by omega)
    have hgl : blkOf L.gl < H.length := m.dom _ _ r2
    have hil : (Go.Cs.ints M.globals).length = 16 := by rw [ints_len]; exact w.g16.1
    obtain ⟨m9, f9⟩ := fin1 ⟨zF, .rw, 0⟩ mm ff
    refine ⟨_, o, L, .nilSlice, ?_, m9, f9, .inl ⟨rfl, rfl, .inl rfl⟩⟩
    rw [ints_set]
    rw [r1] at cX
    unfold actCells effOf e0 at *
    rw [run_lv c55]
    simp (disch := first | omega | rfl | assumption | (simp only [csN, Nat.reduceAdd, Nat.reduceMul, Nat.reduceLeDiff, Nat.reduceEqDiff] <;> omega) | (simp only [csF]; done) | (simp only [csF] <;> assumption) | fail) only [Nat.reduceEqDiff, Nat.reduceAdd, Nat.reduceMul, Nat.reduceSub, Nat.reduceLeDiff, Int.reduceAdd, Int.reduceSub, Int.reduceMul, Int.reduceLT, Int.reduceLE, Int.reduceGT, Int.reduceGE, Int.reduceEq, Int.reduceBEq, Int.reduceBNe, Int.reduceNeg, Int.reduceToNat, csAll, ↓reduceIte, C55, entry_3, hA, h54, ba1, br1, d76, ba2, cE', pE3, vv, hX, ba3, br3, be, q3, il, sga, cX, r3]
  · -- Import
    have hbd : M.bound s x = 16 := by unfold Mdl.bound; rw [if_neg (by omega), if_neg (by omega), if_neg (by omega), if_pos (by omega)]
    have hix := hi (by rw [hbd]; omega)
    rw [hbd] at hix
    have he : M.eff mu.toNat s x = (M.setSlot mu.toNat s x.a (M.globals.getD x.i.toNat 0), ⟨[], 0, 0, 0, 0, 0, M.globals.getD x.i.toNat 0⟩) := by simp only [Mdl.eff, hk, Int.reduceEq, ↓reduceIte]
    rw [he]
    obtain ⟨tg, r1, r2, r3, -⟩ := mX.globals.pos (by omega)
    have hrg : (Go.Cs.ints M.globals)[x.i.toNat]? = some (.i (M.globals.getD x.i.toNat 0)) := by rw [ints_get, getD_of 0 (by have := w.g16.1; omega)]; rfl
    generalize M.globals.getD x.i.toNat 0 = z at *
    obtain ⟨mm, ff⟩ := slotA z
    obtain ⟨m9, f9⟩ := fin ⟨[.nilSlice, .i 0, .i 0, .i 0, .i 0, .i 0, .i z], .rw, 0⟩ ⟨[.nilSlice, .i 0, .i 0, .i 0, .i 0, .i 0, .i z], .rw, 0⟩ mm ff
    have sg := setget z
    refine ⟨_, o, L, .nilSlice, ?_, m9, f9, .inl ⟨rfl, rfl, .inl rfl⟩⟩
    rw [setints]
    rw [r1] at cX
    unfold actCells effOf at *
    rw [run_lv c55]
    simp (disch := first | omega | rfl | assumption | (simp only [csN, Nat.reduceAdd, Nat.reduceMul, Nat.reduceLeDiff, Nat.reduceEqDiff] <;> omega) | (simp only [csF]; done) | (simp only [csF] <;> assumption) | fail) only [Nat.reduceEqDiff, Nat.reduceAdd, Nat.reduceMul, Nat.reduceSub, Nat.reduceLeDiff, Int.reduceAdd, Int.reduceSub, Int.reduceMul, Int.reduceLT, Int.reduceLE, Int.reduceGT, Int.reduceGE, Int.reduceEq, Int.reduceBEq, Int.reduceBNe, Int.reduceNeg, Int.reduceToNat, csAll, ↓reduceIte, C55, entry_3, hA, h54, ba1, br1, d76, ba2, cE', pE3, vv, hX, ba3, br3, be, q3, il, sga, sg, cX, r3, hrg]
  · -- Shape
    have hne := hnb x.a (by unfold wNeed; rw [if_neg (by omega), if_pos (by omega)]) ca.1 ca.2
    have he : M.eff mu.toNat s x = (M, ⟨[(M.obj (s.getD x.a.toNat 0)).nr, (M.obj (s.getD x.a.toNat 0)).nd, (M.obj (s.getD x.a.toNat 0)).kd], 0, 0, 0, 0, 0, 0⟩) := by simp only [Mdl.eff, hk, Int.reduceEq, ↓reduceIte]
    rw [he]
    have hH := slotHas w hs ca hne
    generalize s.getD x.a.toNat 0 = y at *
    obtain ⟨hh, rest, oo1, oo2, oo3, oo4, oo5, h6, h7⟩ := mX.objAt _ hH
    obtain ⟨tlo, po, -, -, -⟩ := mX.objs.pos (by have := hH.2; have := hH.1; omega)
    rw [po] at cX
    have hw1 := (objIx w hH).1
    have hw2 := objIx w hH
    generalize M.obj y = oy at *
    have gN : Gr HX (HX ++ [⟨[.i oy.nr, .i oy.nd, .i oy.kd], .rw, 0⟩] ++ [⟨[.i oy.nr, .i oy.nd, .i oy.kd], .rw, 1⟩]) := (Gr.app _ _).app' _
    obtain ⟨m9, f9⟩ := fin ⟨[.slice (HX.length + 1) 0 3 3 1 false, .i 0, .i 0, .i 0, .i 0, .i 0, .i 0], .rw, 0⟩ ⟨[.slice (HX.length + 1) 0 3 3 1 false, .i 0, .i 0, .i 0, .i 0, .i 0, .i 0], .rw, 0⟩ (mX.gr gN) (gN.frm mX.dom)
    refine ⟨_, o, L, .slice (HX.length + 1) 0 3 3 1 false, ?_, m9, f9, toldAt (c := HX.length + 1) (by omega) (by rw [List.getElem?_set_ne (by omega), List.getElem?_set_ne (by omega)]; exact look_last (by simp)) rfl⟩
    unfold actCells effOf at *
    rw [run_lv c55]
    simp (disch := first | omega | rfl | assumption | (simp only [csN, Nat.reduceAdd, Nat.reduceMul, Nat.reduceLeDiff, Nat.reduceEqDiff] <;> omega) | (simp only [csF]; done) | (simp only [csF] <;> assumption) | fail) only [Nat.reduceEqDiff, Nat.reduceAdd, Nat.reduceMul, Nat.reduceSub, Nat.reduceLeDiff, Int.reduceAdd, Int.reduceSub, Int.reduceMul, Int.reduceLT, Int.reduceLE, Int.reduceGT, Int.reduceGE, Int.reduceEq, Int.reduceBEq, Int.reduceBNe, Int.reduceNeg, Int.reduceToNat, csAll, ↓reduceIte, C55, entry_3, hA, h54, ba1, br1, d76, ba2, cE', pE3, vv, hX, ba3, br3, be, q3, il, sga, cX, hw1, oo2, drop_get, oo3]
end
end Go.Cs.Try

/- The reference's kept, Kept, Collect. -/
namespace Go.Cs
open Go
theorem keptL_of {M : Mdl} {cn : List Bool} (hl : cn.length = M.objs.length + 1) (h : ∀ u : Int, 0 ≤ u → u ≤ (M.objs.length : Int) → (on cn u = true ↔ Kp M u)) : cn = M.keptL := by
  refine List.ext_getElem? fun i => ?_
  by_cases hi : i < M.objs.length + 1
  · have h1 := h (i : Int) (by omega) (by omega)
    have h2 := on_keptL (M := M) (v := (i : Int)) (by omega) (by omega)
    unfold on at h1 h2
    rw [Int.toNat_natCast] at h1 h2
    have e1 := getD_of (l := cn) (i := i) false (by omega)
    have e2 := getD_of (l := M.keptL) (i := i) false (by rw [keptL_len]; omega)
    rw [e1, e2]
    congr 1
    rw [Bool.eq_iff_iff]
    exact h1.trans h2.symm
  · rw [List.getElem?_eq_none (by omega), List.getElem?_eq_none (by rw [keptL_len]; omega)]
/-- All that a kept object keeps is kept. -/
def ClO (M : Mdl) (cn : List Bool) (v : Int) (j : Nat) : Prop := ∀ k, k < j → (M.obj v).refs.getD k 0 ≠ 0 → (soft (M.obj v).kd ≤ k ∨ ((M.obj v).kd = 2 ∧ k = 1 ∧ on cn ((M.obj v).refs.getD 0 0) = true)) → on cn ((M.obj v).refs.getD k 0) = true
theorem Kp.closedO {M : Mdl} (w : M.Ok) {cn : List Bool} (h0 : ∀ v ∈ M.places, v ≠ 0 → on cn v = true) (hc : ∀ v, M.has v → on cn v = true → ClO M cn v (M.obj v).refs.length) {v : Int} (h : Kp M v) : on cn v = true := by
  induction h with
  | root h hz => exact h0 _ h hz
  | @strong k u h hu hz ih =>
    have hk := Kp.has w h
    obtain ⟨i, hi, e⟩ := List.mem_iff_getElem.1 hu
    rw [List.length_drop] at hi
    rw [List.getElem_drop] at e
    have e' : (M.obj k).refs.getD (soft (M.obj k).kd + i) 0 = u := by rw [List.getD_eq_getElem?_getD, List.getElem?_eq_getElem (by omega), Option.getD_some, e]
    have := hc k hk ih (soft (M.obj k).kd + i) (by omega) (by rw [e']; exact hz) (.inl (by omega))
    rw [e'] at this; exact this
  | @eph k h hkd h0' hz ih ih0 =>
    have hk := Kp.has w h
    have hob := w.obj hk
    have h2 := hob.kd.2.2.2 hkd
    have h3 := hob.nr
    exact hc k hk ih 1 (by omega) hz (.inr ⟨hkd, rfl, ih0⟩)
/-- Only kept ones are counted. -/
def Snd (M : Mdl) (cn : List Bool) : Prop := ∀ u : Int, 0 ≤ u → u ≤ (M.objs.length : Int) → on cn u = true → Kp M u
end Go.Cs
namespace Go.Cs.Try
open Go Go.Cs
set_option maxRecDepth 100000
set_option maxHeartbeats 8000000
section
variable {o : Tags} {g : Nat} {b : Nat} {M : Mdl} {L : Lay} {H : CHeap}

theorem l77_6 (m : MRep o g H b M L) (w : M.Ok) {ob N : Nat} (hob : o ob = none) (hobl : ob < H.length) (hN : N = M.objs.length + 1) {i : Nat} {s : List Int} (hs : M.slots[i]? = some s) {pre : List Int}
    {E0 : Env} (h0 : E0 0 = .ptr b 0) (h3 : E0 3 = .slice ob 0 N N 1 false) (h4 : E0 4 = .i i) (h5 : E0 5 = .i 0)
    {r : Option (CX × Env × CHeap)} (hr : den P (.loop C77_6) E0 (H.set ob ⟨bools (marks M.objs.length pre), .rw, 1⟩) = r) :
    ∃ E', r = some (.exit 2, E', H.set ob ⟨bools (marks M.objs.length (pre ++ s)), .rw, 1⟩) ∧ ∀ t, t ∉ wr C77_6 → E' t = E0 t := by
  have h16 := (w.s16 _ (List.mem_of_getElem? hs)).1
  have hsr := (w.s16 _ (List.mem_of_getElem? hs)).2
  have hc := m.cells
  obtain ⟨tl, p1, p2, p3, -⟩ := m.slots.pos (by have := lt_of_get hs; omega)
  obtain ⟨v, hv, ha⟩ := m.slot _ _ hs
  obtain ⟨tv, q1, q2, q3, -⟩ := ha.pos (by omega)
  rw [p1] at hc
  rw [q1] at hv
  have n1 : ob ≠ b := by rintro rfl; rw [m.top] at hob; cases hob
  have n2 : ob ≠ blkOf L.sl := by rintro h; rw [h, p2] at hob; cases hob
  have n3 : ob ≠ blkOf v := by rintro h; rw [h, q2] at hob; cases hob
  have hil := lt_of_get hs
  obtain ⟨x', E', H', e, -, ⟨rfl, rfl⟩, fr⟩ := loop_at (p := P) (c := C77_6) (E0 := E0) (H0 := H.set ob ⟨bools (marks M.objs.length pre), .rw, 1⟩) (fun k E H' => ∃ j : Nat, E 5 = .i j ∧ j ≤ 16 ∧ k = 16 - j ∧ H' = H.set ob ⟨bools (marks M.objs.length (pre ++ s.take j)), .rw, 1⟩)
    (fun x' E' H' => x' = .exit 2 ∧ H' = H.set ob ⟨bools (marks M.objs.length (pre ++ s)), .rw, 1⟩) (by
      rintro k E H' hE ⟨j, e5, hj, rfl, rfl⟩
      have e0 := (hE 0 (by decide +kernel)).trans h0
      have e3 := (hE 3 (by decide +kernel)).trans h3
      have e4 := (hE 4 (by decide +kernel)).trans h4
      by_cases c : j < 16
      · have hgj := getD_of (l := s) (i := j) 0 (by omega)
        have hur := hsr _ (List.mem_of_getElem? hgj)
        generalize s.getD j 0 = u at *
        have hgi : (Go.Cs.ints s)[j]? = some (.i u) := by rw [ints_get, hgj]; rfl
        have hw := wrapS j (by omega)
        have hbl : (bools (marks M.objs.length (pre ++ s.take j))).length = M.objs.length + 1 := by rw [bools_len, marks_len]
        apply step_go (k' := 16 - (j + 1))
        · simp (disch := first | omega | rfl | assumption | (simp only [csN, Nat.reduceAdd, Nat.reduceMul, Nat.reduceLeDiff, Nat.reduceEqDiff] <;> omega) | (simp only [csF]; done) | (simp only [csF] <;> assumption) | fail) only [Nat.reduceEqDiff, Nat.reduceAdd, Nat.reduceMul, Nat.reduceSub, Nat.reduceLeDiff, Int.reduceAdd, Int.reduceSub, Int.reduceMul, Int.reduceLT, Int.reduceLE, Int.reduceGT, Int.reduceGE, Int.reduceEq, Int.reduceBEq, Int.reduceBNe, Int.reduceNeg, Int.reduceToNat, csAll, ↓reduceIte, C77_6, e0, e3, e4, e5, hc, p3, hv, q3, hgi, hw, List.set_set]
          rfl
        · omega
        · refine ⟨j + 1, by simp [upd_apply], by omega, rfl, ?_⟩
          rw [take_snoc hgj, ← List.append_assoc, marks_snoc, bools_set]
      · apply step_out (x := .exit 2)
        · simp (disch := first | omega | rfl | assumption | (simp only [csN, Nat.reduceAdd, Nat.reduceMul, Nat.reduceLeDiff, Nat.reduceEqDiff] <;> omega) | (simp only [csF]; done) | (simp only [csF] <;> assumption) | fail) only [Nat.reduceEqDiff, Nat.reduceAdd, Nat.reduceMul, Nat.reduceSub, Nat.reduceLeDiff, Int.reduceAdd, Int.reduceSub, Int.reduceMul, Int.reduceLT, Int.reduceLE, Int.reduceGT, Int.reduceGE, Int.reduceEq, Int.reduceBEq, Int.reduceBNe, Int.reduceNeg, Int.reduceToNat, csAll, ↓reduceIte, C77_6, e0, e4, e5, hc, p3, hv]
          rfl
        · simp
        · rw [take_all (by omega)]
          exact ⟨rfl, rfl⟩) 16 ⟨0, h5, by omega, rfl, by simp⟩
  exact ⟨E', hr.symm.trans e, fr⟩

theorem l77_7 (m : MRep o g H b M L) (w : M.Ok) {ob N : Nat} (hob : o ob = none) (hobl : ob < H.length) (hN : N = M.objs.length + 1)
    {E0 : Env} (h0 : E0 0 = .ptr b 0) (h3 : E0 3 = .slice ob 0 N N 1 false) (h4 : E0 4 = .i 0)
    {r : Option (CX × Env × CHeap)} (hr : den P (.loop C77_7) E0 (H.set ob ⟨bools (marks M.objs.length []), .rw, 1⟩) = r) :
    ∃ E', r = some (.exit 0, E', H.set ob ⟨bools (marks M.objs.length M.slots.flatten), .rw, 1⟩) ∧ ∀ t, t ∉ wr C77_7 → E' t = E0 t := by
  have hc := m.cells
  have hns := w.ns
  have hsl := m.slots.len
  have n1 : ob ≠ b := by rintro rfl; rw [m.top] at hob; cases hob
  obtain ⟨x', E', H', e, -, ⟨rfl, rfl⟩, fr⟩ := loop_at (p := P) (c := C77_7) (E0 := E0) (H0 := H.set ob ⟨bools (marks M.objs.length []), .rw, 1⟩) (fun k E H' => ∃ j : Nat, E 4 = .i j ∧ j ≤ M.slots.length ∧ k = M.slots.length - j ∧ H' = H.set ob ⟨bools (marks M.objs.length (M.slots.take j).flatten), .rw, 1⟩)
    (fun x' E' H' => x' = .exit 0 ∧ H' = H.set ob ⟨bools (marks M.objs.length M.slots.flatten), .rw, 1⟩) (by
      rintro k E H' hE ⟨j, e4, hj, rfl, rfl⟩
      have e0 := (hE 0 (by decide +kernel)).trans h0
      have e3 := (hE 3 (by decide +kernel)).trans h3
      by_cases c : j < M.slots.length
      · have hgj := getD_of (l := M.slots) (i := j) [] c
        have hw := wrapS j (by omega)
        have key : ∃ E', den P C77_7 E (H.set ob ⟨bools (marks M.objs.length (M.slots.take j).flatten), .rw, 1⟩) = some (.normal, E', H.set ob ⟨bools (marks M.objs.length (M.slots.take (j + 1)).flatten), .rw, 1⟩) ∧ E' 4 = .i ((j + 1 : Nat) : Int) := by
          simp (disch := first | omega | rfl | assumption | (simp only [csN, Nat.reduceAdd, Nat.reduceMul, Nat.reduceLeDiff, Nat.reduceEqDiff] <;> omega) | (simp only [csF]; done) | (simp only [csF] <;> assumption) | fail) only [Nat.reduceEqDiff, Nat.reduceAdd, Nat.reduceMul, Nat.reduceSub, Nat.reduceLeDiff, Int.reduceAdd, Int.reduceSub, Int.reduceMul, Int.reduceLT, Int.reduceLE, Int.reduceGT, Int.reduceGE, Int.reduceEq, Int.reduceBEq, Int.reduceBNe, Int.reduceNeg, Int.reduceToNat, csAll, ↓reduceIte, C77_7, e0, e4, hc, hsl]
          generalize hr : den P (.loop C77_6) _ _ = r
          obtain ⟨E2, rfl, f2⟩ := l77_6 m w hob hobl hN hgj (by simp only [upd_apply, Nat.reduceEqDiff, ↓reduceIte, e0]) (by simp only [upd_apply, Nat.reduceEqDiff, ↓reduceIte, e3]) (by simp only [upd_apply, Nat.reduceEqDiff, ↓reduceIte, e4]) (by simp only [upd_apply, Nat.reduceEqDiff, ↓reduceIte]) hr
          have k4 := f2 4 (by decide +kernel)
          simp only [upd_apply, Nat.reduceEqDiff, ↓reduceIte, e4] at k4
          simp (disch := first | omega | rfl | assumption | (simp only [csN, Nat.reduceAdd, Nat.reduceMul, Nat.reduceLeDiff, Nat.reduceEqDiff] <;> omega) | (simp only [csF]; done) | (simp only [csF] <;> assumption) | fail) only [Nat.reduceEqDiff, Nat.reduceAdd, Nat.reduceMul, Nat.reduceSub, Nat.reduceLeDiff, Int.reduceAdd, Int.reduceSub, Int.reduceMul, Int.reduceLT, Int.reduceLE, Int.reduceGT, Int.reduceGE, Int.reduceEq, Int.reduceBEq, Int.reduceBNe, Int.reduceNeg, Int.reduceToNat, csAll, ↓reduceIte, k4, hw]
          rw [take_snoc hgj, List.flatten_append, List.flatten_singleton]
          exact ⟨_, rfl, by simp [upd_apply]⟩
        obtain ⟨E', k1, k2⟩ := key
        exact step_go (k' := M.slots.length - (j + 1)) k1 (by omega) ⟨j + 1, k2, by omega, rfl, rfl⟩
      · apply step_out (x := .exit 0)
        · simp (disch := first | omega | rfl | assumption | (simp only [csN, Nat.reduceAdd, Nat.reduceMul, Nat.reduceLeDiff, Nat.reduceEqDiff] <;> omega) | (simp only [csF]; done) | (simp only [csF] <;> assumption) | fail) only [Nat.reduceEqDiff, Nat.reduceAdd, Nat.reduceMul, Nat.reduceSub, Nat.reduceLeDiff, Int.reduceAdd, Int.reduceSub, Int.reduceMul, Int.reduceLT, Int.reduceLE, Int.reduceGT, Int.reduceGE, Int.reduceEq, Int.reduceBEq, Int.reduceBNe, Int.reduceNeg, Int.reduceToNat, csAll, ↓reduceIte, C77_7, e0, e4, hc, hsl]
          rfl
        · simp
        · rw [take_all (by omega)]
          exact ⟨rfl, rfl⟩) M.slots.length ⟨0, h4, by omega, rfl, by simp⟩
  exact ⟨E', hr.symm.trans e, fr⟩

theorem l77_5 (m : MRep o g H b M L) (w : M.Ok) {ob N : Nat} (hob : o ob = none) (hobl : ob < H.length) (hN : N = M.objs.length + 1) {pre : List Int}
    {E0 : Env} (h0 : E0 0 = .ptr b 0) (h3 : E0 3 = .slice ob 0 N N 1 false) (h6 : E0 6 = .i 0)
    {r : Option (CX × Env × CHeap)} (hr : den P (.loop C77_5) E0 (H.set ob ⟨bools (marks M.objs.length pre), .rw, 1⟩) = r) :
    ∃ E', r = some (.exit 4, E', H.set ob ⟨bools (marks M.objs.length (pre ++ M.globals)), .rw, 1⟩) ∧ ∀ t, t ∉ wr C77_5 → E' t = E0 t := by
  have h16 := w.g16.1
  have hc := m.cells
  obtain ⟨tl, p1, p2, p3, -⟩ := m.globals.pos (by omega)
  rw [p1] at hc
  have n1 : ob ≠ b := by rintro rfl; rw [m.top] at hob; cases hob
  have n2 : ob ≠ blkOf L.gl := by rintro h; rw [h, p2] at hob; cases hob
  obtain ⟨x', E', H', e, -, ⟨rfl, rfl⟩, fr⟩ := loop_at (p := P) (c := C77_5) (E0 := E0) (H0 := H.set ob ⟨bools (marks M.objs.length pre), .rw, 1⟩) (fun k E H' => ∃ j : Nat, E 6 = .i j ∧ j ≤ 16 ∧ k = 16 - j ∧ H' = H.set ob ⟨bools (marks M.objs.length (pre ++ M.globals.take j)), .rw, 1⟩)
    (fun x' E' H' => x' = .exit 4 ∧ H' = H.set ob ⟨bools (marks M.objs.length (pre ++ M.globals)), .rw, 1⟩) (by
      rintro k E H' hE ⟨j, e6, hj, rfl, rfl⟩
      have e0 := (hE 0 (by decide +kernel)).trans h0
      have e3 := (hE 3 (by decide +kernel)).trans h3
      by_cases c : j < 16
      · have hgj := getD_of (l := M.globals) (i := j) 0 (by omega)
        have hur := w.g16.2 _ (List.mem_of_getElem? hgj)
        generalize M.globals.getD j 0 = u at *
        have hgi : (Go.Cs.ints M.globals)[j]? = some (.i u) := by rw [ints_get, hgj]; rfl
        have hw := wrapS j (by omega)
        have hbl : (bools (marks M.objs.length (pre ++ M.globals.take j))).length = M.objs.length + 1 := by rw [bools_len, marks_len]
        apply step_go (k' := 16 - (j + 1))
        · simp (disch := first | omega | rfl | assumption | (simp only [csN, Nat.reduceAdd, Nat.reduceMul, Nat.reduceLeDiff, Nat.reduceEqDiff] <;> omega) | (simp only [csF]; done) | (simp only [csF] <;> assumption) | fail) only [Nat.reduceEqDiff, Nat.reduceAdd, Nat.reduceMul, Nat.reduceSub, Nat.reduceLeDiff, Int.reduceAdd, Int.reduceSub, Int.reduceMul, Int.reduceLT, Int.reduceLE, Int.reduceGT, Int.reduceGE, Int.reduceEq, Int.reduceBEq, Int.reduceBNe, Int.reduceNeg, Int.reduceToNat, csAll, ↓reduceIte, C77_5, e0, e3, e6, hc, p3, hgi, hw, List.set_set]
          rfl
        · omega
        · refine ⟨j + 1, by simp [upd_apply], by omega, rfl, ?_⟩
          rw [take_snoc hgj, ← List.append_assoc, marks_snoc, bools_set]
      · apply step_out (x := .exit 4)
        · simp (disch := first | omega | rfl | assumption | (simp only [csN, Nat.reduceAdd, Nat.reduceMul, Nat.reduceLeDiff, Nat.reduceEqDiff] <;> omega) | (simp only [csF]; done) | (simp only [csF] <;> assumption) | fail) only [Nat.reduceEqDiff, Nat.reduceAdd, Nat.reduceMul, Nat.reduceSub, Nat.reduceLeDiff, Int.reduceAdd, Int.reduceSub, Int.reduceMul, Int.reduceLT, Int.reduceLE, Int.reduceGT, Int.reduceGE, Int.reduceEq, Int.reduceBEq, Int.reduceBNe, Int.reduceNeg, Int.reduceToNat, csAll, ↓reduceIte, C77_5, e0, e6, hc]
          rfl
        · simp
        · rw [take_all (by omega)]
          exact ⟨rfl, rfl⟩) 16 ⟨0, h6, by omega, rfl, by simp⟩
  exact ⟨E', hr.symm.trans e, fr⟩

theorem l77_4 (m : MRep o g H b M L) (w : M.Ok) {ob N : Nat} (hob : o ob = none) (hobl : ob < H.length) (hN : N = M.objs.length + 1) {pre : List Int}
    {E0 : Env} (h0 : E0 0 = .ptr b 0) (h3 : E0 3 = .slice ob 0 N N 1 false) (h7 : E0 7 = .i 0)
    {r : Option (CX × Env × CHeap)} (hr : den P (.loop C77_4) E0 (H.set ob ⟨bools (marks M.objs.length pre), .rw, 1⟩) = r) :
    ∃ E', r = some (.exit 6, E', H.set ob ⟨bools (marks M.objs.length (pre ++ M.queue)), .rw, 1⟩) ∧ ∀ t, t ∉ wr C77_4 → E' t = E0 t := by
  have h64 := w.q64.1
  have hc := m.cells
  have hql := m.queue.len
  have n1 : ob ≠ b := by rintro rfl; rw [m.top] at hob; cases hob
  obtain ⟨x', E', H', e, -, ⟨rfl, rfl⟩, fr⟩ := loop_at (p := P) (c := C77_4) (E0 := E0) (H0 := H.set ob ⟨bools (marks M.objs.length pre), .rw, 1⟩) (fun k E H' => ∃ j : Nat, E 7 = .i j ∧ j ≤ M.queue.length ∧ k = M.queue.length - j ∧ H' = H.set ob ⟨bools (marks M.objs.length (pre ++ M.queue.take j)), .rw, 1⟩)
    (fun x' E' H' => x' = .exit 6 ∧ H' = H.set ob ⟨bools (marks M.objs.length (pre ++ M.queue)), .rw, 1⟩) (by
      rintro k E H' hE ⟨j, e7, hj, rfl, rfl⟩
      have e0 := (hE 0 (by decide +kernel)).trans h0
      have e3 := (hE 3 (by decide +kernel)).trans h3
      by_cases c : j < M.queue.length
      · have hgj := getD_of (l := M.queue) (i := j) 0 (by omega)
        have hur := w.q64.2 _ (List.mem_of_getElem? hgj)
        obtain ⟨tl, p1, p2, p3, -⟩ := m.queue.pos (by omega)
        have n2 : ob ≠ blkOf L.qv := by rintro h; rw [h, p2] at hob; cases hob
        rw [p1] at hc hql
        generalize M.queue.getD j 0 = u at *
        have hgi : (Go.Cs.ints M.queue)[j]? = some (.i u) := by rw [ints_get, hgj]; rfl
        have hw := wrapS j (by omega)
        have hbl : (bools (marks M.objs.length (pre ++ M.queue.take j))).length = M.objs.length + 1 := by rw [bools_len, marks_len]
        apply step_go (k' := M.queue.length - (j + 1))
        · simp (disch := first | omega | rfl | assumption | (simp only [csN, Nat.reduceAdd, Nat.reduceMul, Nat.reduceLeDiff, Nat.reduceEqDiff] <;> omega) | (simp only [csF]; done) | (simp only [csF] <;> assumption) | fail) only [Nat.reduceEqDiff, Nat.reduceAdd, Nat.reduceMul, Nat.reduceSub, Nat.reduceLeDiff, Int.reduceAdd, Int.reduceSub, Int.reduceMul, Int.reduceLT, Int.reduceLE, Int.reduceGT, Int.reduceGE, Int.reduceEq, Int.reduceBEq, Int.reduceBNe, Int.reduceNeg, Int.reduceToNat, csAll, ↓reduceIte, C77_4, e0, e3, e7, hc, hql, p3, hgi, hw, List.set_set]
          rfl
        · omega
        · refine ⟨j + 1, by simp [upd_apply], by omega, rfl, ?_⟩
          rw [take_snoc hgj, ← List.append_assoc, marks_snoc, bools_set]
      · apply step_out (x := .exit 6)
        · simp (disch := first | omega | rfl | assumption | (simp only [csN, Nat.reduceAdd, Nat.reduceMul, Nat.reduceLeDiff, Nat.reduceEqDiff] <;> omega) | (simp only [csF]; done) | (simp only [csF] <;> assumption) | fail) only [Nat.reduceEqDiff, Nat.reduceAdd, Nat.reduceMul, Nat.reduceSub, Nat.reduceLeDiff, Int.reduceAdd, Int.reduceSub, Int.reduceMul, Int.reduceLT, Int.reduceLE, Int.reduceGT, Int.reduceGE, Int.reduceEq, Int.reduceBEq, Int.reduceBNe, Int.reduceNeg, Int.reduceToNat, csAll, ↓reduceIte, C77_4, e0, e7, hc, hql]
          rfl
        · simp
        · rw [take_all (by omega)]
          exact ⟨rfl, rfl⟩) M.queue.length ⟨0, h7, by omega, rfl, by simp⟩
  exact ⟨E', hr.symm.trans e, fr⟩

/-- The references of a kept object. -/
theorem l77_1 (m : MRep o g H b M L) (w : M.Ok) {ob N : Nat} (hob : o ob = none) (hobl : ob < H.length) (hN : N = M.objs.length + 1) {v : Int} (hh : M.has v) {H1 : CHeap} {xb : Nat} (gx1 : GrX H ob H1) (hxb : H.length ≤ xb) {h : CV × CV} (h6 : At o (g, 6, (v - 1).toNat) H h.1 1 (M.obj v).refs.length (Go.Cs.ints (M.obj v).refs))
    (kx : H1[xb]? = some ⟨[.i (M.obj v).nr, .i (M.obj v).nd, .i (M.obj v).kd, h.1, h.2], .rw, 0⟩)
    {c0 c1 : List Bool} {f1 : Bool} (hc1 : H1[ob]? = some ⟨bools c1, .rw, 1⟩) (hl1 : c1.length = M.objs.length + 1) (hp1 : PassSt c0 f1 c1) (hm1 : Mono c0 c1) (hs1 : Snd M c1) (hv1 : on c1 v = true)
    {E0 : Env} (h3 : E0 3 = .slice ob 0 N N 1 false) (h8 : E0 8 = .bool f1) (h10 : E0 10 = .ptr xb 0) (h11 : E0 11 = .i 0)
    {r : Option (CX × Env × CHeap)} (hr : den P (.loop C77_1) E0 H1 = r) :
    ∃ E' H' f cn, r = some (.exit 12, E', H') ∧ GrX H ob H' ∧ H'[ob]? = some ⟨bools cn, .rw, 1⟩ ∧ cn.length = M.objs.length + 1 ∧ PassSt c0 f cn ∧ Mono c1 cn ∧ Snd M cn ∧ E' 8 = .bool f ∧ (f = false → f1 = false ∧ ClO M c0 v (M.obj v).refs.length) ∧ ∀ t, t ∉ wr C77_1 → E' t = E0 t := by
  have hobj := w.obj hh
  have hnr := hobj.nr
  have hkd := hobj.kd
  obtain ⟨x', E', H', e, -, ⟨rfl, g1, -, f, cn, g2, g3, g4, g5, g6, g7, g8⟩, fr⟩ := loop_at (p := P) (c := C77_1) (E0 := E0) (H0 := H1) (fun k E H' => ∃ j : Nat, E 11 = .i j ∧ j ≤ (M.obj v).refs.length ∧ k = (M.obj v).refs.length - j ∧ GrX H ob H' ∧ H'[xb]? = some ⟨[.i (M.obj v).nr, .i (M.obj v).nd, .i (M.obj v).kd, h.1, h.2], .rw, 0⟩ ∧
      ∃ f cn, H'[ob]? = some ⟨bools cn, .rw, 1⟩ ∧ cn.length = M.objs.length + 1 ∧ PassSt c0 f cn ∧ Mono c1 cn ∧ Snd M cn ∧ E 8 = .bool f ∧ (f = false → f1 = false ∧ ClO M c0 v j))
    (fun x' E' H' => x' = .exit 12 ∧ GrX H ob H' ∧ H'[xb]? = some ⟨[.i (M.obj v).nr, .i (M.obj v).nd, .i (M.obj v).kd, h.1, h.2], .rw, 0⟩ ∧ ∃ f cn, H'[ob]? = some ⟨bools cn, .rw, 1⟩ ∧ cn.length = M.objs.length + 1 ∧ PassSt c0 f cn ∧ Mono c1 cn ∧ Snd M cn ∧ E' 8 = .bool f ∧ (f = false → f1 = false ∧ ClO M c0 v (M.obj v).refs.length)) (by
      rintro k E H' hE ⟨j, e11, hj, rfl, gx, kx, f, cn, hcn, hcl, hps, hmo, hsn, e8, hcf⟩
      have e3 := (hE 3 (by decide +kernel)).trans h3
      have e10 := (hE 10 (by decide +kernel)).trans h10
      have hl6 := h6.len
      by_cases c : j < (M.obj v).refs.length
      · obtain ⟨tr, r1, r2, r3, -⟩ := h6.pos (by omega)
        have hrb : blkOf h.1 ≠ ob := by rintro h'; rw [h', hob] at r2; cases r2
        have r3' := gx.get r3 hrb
        have hrlt := lt_of_get r3'
        have hxlt := lt_of_get kx
        have holt := lt_of_get hcn
        have kx' := kx
        rw [r1] at kx' hl6
        have hgj : (Go.Cs.ints (M.obj v).refs)[j]? = some (.i ((M.obj v).refs.getD j 0)) := by rw [ints_get, getD_of 0 c]; rfl
        have hrj := ref_rng w hh j
        have hr0 := ref_rng w hh 0
        have hg0 : (Go.Cs.ints (M.obj v).refs)[0]? = some (.i ((M.obj v).refs.getD 0 0)) := by rw [ints_get, getD_of 0 (by omega)]; rfl
        have hw := wrapS j (by omega)
        have hmj := on_get (ks := cn) (v := (M.obj v).refs.getD j 0) (by omega)
        have hm0 := on_get (ks := cn) (v := (M.obj v).refs.getD 0 0) (by omega)
        have hbl : (bools cn).length = M.objs.length + 1 := by rw [bools_len]; exact hcl
        have d49 := f49 (H := H') (nr := (M.obj v).nr) (nd := (M.obj v).nd) (kd := (M.obj v).kd) ⟨hkd.1, hkd.2.1⟩ (i := j)
        have kv : Kp M v := hsn v (by have := hh.1; omega) hh.2 (hmo v (by have := hh.1; omega) hv1)
        generalize hto : (M.obj v).refs.getD j 0 = to at *
        generalize hkey : (M.obj v).refs.getD 0 0 = key at *
        have clo : ∀ {cn' : List Bool}, (f = false → ClO M c0 v j) → (to ≠ 0 → (soft (M.obj v).kd ≤ j ∨ ((M.obj v).kd = 2 ∧ j = 1 ∧ on c0 key = true)) → on c0 to = true) → f = false → ClO M c0 v (j + 1) := by
          intro cn' h1 h2 hf k hk
          by_cases e : k = j
          · subst e; rw [hto, hkey]; exact h2
          · exact h1 hf k (by omega)
        by_cases hz : to = 0
        · apply step_go (k' := (M.obj v).refs.length - (j + 1))
          · simp (disch := first | omega | rfl | assumption | (simp only [csN, Nat.reduceAdd, Nat.reduceMul, Nat.reduceLeDiff, Nat.reduceEqDiff] <;> omega) | (simp only [csF]; done) | (simp only [csF] <;> assumption) | fail) only [Nat.reduceEqDiff, Nat.reduceAdd, Nat.reduceMul, Nat.reduceSub, Nat.reduceLeDiff, Int.reduceAdd, Int.reduceSub, Int.reduceMul, Int.reduceLT, Int.reduceLE, Int.reduceGT, Int.reduceGE, Int.reduceEq, Int.reduceBEq, Int.reduceBNe, Int.reduceNeg, Int.reduceToNat, csAll, ↓reduceIte, C77_1, e3, e10, e11, kx', hl6, r3', hgj, hw]
            rfl
          · omega
          · exact ⟨j + 1, by simp [upd_apply], by omega, rfl, gx, kx, f, cn, hcn, hcl, hps, hmo, hsn, by simp [upd_apply, e8], fun hf => ⟨(hcf hf).1, clo (cn' := cn) (fun hf => (hcf hf).2) (fun h => absurd hz h) hf⟩⟩
        cases hon : on cn to with
        | true =>
          rw [hon] at hmj
          apply step_go (k' := (M.obj v).refs.length - (j + 1))
          · simp (disch := first | omega | rfl | assumption | (simp only [csN, Nat.reduceAdd, Nat.reduceMul, Nat.reduceLeDiff, Nat.reduceEqDiff] <;> omega) | (simp only [csF]; done) | (simp only [csF] <;> assumption) | fail) only [Nat.reduceEqDiff, Nat.reduceAdd, Nat.reduceMul, Nat.reduceSub, Nat.reduceLeDiff, Int.reduceAdd, Int.reduceSub, Int.reduceMul, Int.reduceLT, Int.reduceLE, Int.reduceGT, Int.reduceGE, Int.reduceEq, Int.reduceBEq, Int.reduceBNe, Int.reduceNeg, Int.reduceToNat, csAll, ↓reduceIte, C77_1, e3, e10, e11, kx', hl6, r3', hgj, hcn, hmj, hw]
            rfl
          · omega
          · exact ⟨j + 1, by simp [upd_apply], by omega, rfl, gx, kx, f, cn, hcn, hcl, hps, hmo, hsn, by simp [upd_apply, e8], fun hf => ⟨(hcf hf).1, clo (cn' := cn) (fun hf => (hcf hf).2) (fun _ _ => by rw [← hps.same hf]; exact hon) hf⟩⟩
        | false =>
          rw [hon] at hmj
          have gN : Gr H' (H' ++ [(⟨[.i (M.obj v).nr, .i (M.obj v).nd, .i (M.obj v).kd], .rw, 0⟩ : Blk)]) := .app _ _
          have hcn2 := gN.get hcn
          have kx2 := gN.get kx
          have kx2' := gN.get kx'
          have r32 := gN.get r3'
          have gx2 := gx.gr gN
          generalize hN : H' ++ [(⟨[.i (M.obj v).nr, .i (M.obj v).nd, .i (M.obj v).kd], .rw, 0⟩ : Blk)] = HN at *
          have hset : ∀ (hk : Kp M to), ∃ f' cn', (HN.set ob ⟨(bools cn).set to.toNat (.bool true), .rw, 1⟩)[ob]? = some ⟨bools cn', .rw, 1⟩ ∧ cn'.length = M.objs.length + 1 ∧ PassSt c0 f' cn' ∧ Mono c1 cn' ∧ Snd M cn' ∧ f' = true := fun hk => by
            refine ⟨true, cn.set to.toNat true, by rw [List.getElem?_set_self (lt_of_get hcn2), bools_set], by simpa using hcl, hps.count (by omega) hon, hmo.set ⟨by omega, by omega⟩, fun u h0 h1 h2 => ?_, rfl⟩
            rw [on_set ⟨by omega, by omega⟩ h0] at h2
            by_cases e : u = to
            · rw [e]; exact hk
            · exact hsn u h0 h1 (by simpa [e] using h2)
          have hno : f = false → ¬ (soft (M.obj v).kd ≤ j ∨ ((M.obj v).kd = 2 ∧ j = 1 ∧ on cn key = true)) → ClO M c0 v (j + 1) := fun hf hn =>
            clo (cn' := cn) (fun hf => (hcf hf).2) (fun _ h => absurd (by rw [hps.same hf]; exact h) hn) hf
          have kx3 : (HN.set ob ⟨(bools cn).set to.toNat (.bool true), .rw, 1⟩)[xb]? = some ⟨[.i (M.obj v).nr, .i (M.obj v).nd, .i (M.obj v).kd, h.1, h.2], .rw, 0⟩ := by rw [List.getElem?_set_ne (by omega)]; exact kx2
          by_cases hst : soft (M.obj v).kd ≤ j
          · rw [decide_eq_true hst] at d49
            have hkp : Kp M to := by
              refine .strong kv ?_ hz
              refine List.mem_iff_getElem.2 ⟨j - soft (M.obj v).kd, by rw [List.length_drop]; omega, ?_⟩
              rw [List.getElem_drop]
              rw [List.getD_eq_getElem?_getD, List.getElem?_eq_getElem c, Option.getD_some] at hto
              rw [← hto]
              congr 1; omega
            obtain ⟨f', cn', s1, s2, s3, s4, s5, rfl⟩ := hset hkp
            apply step_go (k' := (M.obj v).refs.length - (j + 1))
            · simp (disch := first | omega | rfl | assumption | (simp only [csN, Nat.reduceAdd, Nat.reduceMul, Nat.reduceLeDiff, Nat.reduceEqDiff] <;> omega) | (simp only [csF]; done) | (simp only [csF] <;> assumption) | fail) only [Nat.reduceEqDiff, Nat.reduceAdd, Nat.reduceMul, Nat.reduceSub, Nat.reduceLeDiff, Int.reduceAdd, Int.reduceSub, Int.reduceMul, Int.reduceLT, Int.reduceLE, Int.reduceGT, Int.reduceGE, Int.reduceEq, Int.reduceBEq, Int.reduceBNe, Int.reduceNeg, Int.reduceToNat, csAll, ↓reduceIte, C77_1, e3, e10, e11, kx', hl6, r3', hgj, hcn, hmj, d49, hN, hcn2, hw]
              rfl
            · omega
            · exact ⟨j + 1, by simp [upd_apply], by omega, rfl, gx2.set _, kx3, true, cn', s1, s2, s3, s4, s5, by simp [upd_apply], fun hf => by cases hf⟩
          · rw [decide_eq_false hst] at d49
            by_cases hk2 : (M.obj v).kd = 2
            · by_cases hj1 : j = 1
              · subst hj1
                cases hok : on cn key with
                | true =>
                  rw [hok] at hm0
                  have hkp : Kp M to := by
                    have hkk := hsn key hr0.1 hr0.2 hok
                    have := Kp.eph kv hk2 (by rw [hkey]; exact hkk) (by rw [hto]; exact hz)
                    rw [hto] at this; exact this
                  obtain ⟨f', cn', s1, s2, s3, s4, s5, rfl⟩ := hset hkp
                  apply step_go (k' := (M.obj v).refs.length - (1 + 1))
                  · simp (disch := first | omega | rfl | assumption | (simp only [csN, Nat.reduceAdd, Nat.reduceMul, Nat.reduceLeDiff, Nat.reduceEqDiff] <;> omega) | (simp only [csF]; done) | (simp only [csF] <;> assumption) | fail) only [Nat.reduceEqDiff, Nat.reduceAdd, Nat.reduceMul, Nat.reduceSub, Nat.reduceLeDiff, Int.reduceAdd, Int.reduceSub, Int.reduceMul, Int.reduceLT, Int.reduceLE, Int.reduceGT, Int.reduceGE, Int.reduceEq, Int.reduceBEq, Int.reduceBNe, Int.reduceNeg, Int.reduceToNat, csAll, ↓reduceIte, C77_1, e3, e10, e11, kx', hl6, r3', hgj, hcn, hmj, d49, hN, hcn2, kx2', r32, hg0, hm0, hw]
                    rfl
                  · omega
                  · exact ⟨1 + 1, by simp [upd_apply], by omega, rfl, gx2.set _, kx3, true, cn', s1, s2, s3, s4, s5, by simp [upd_apply], fun hf => by cases hf⟩
                | false =>
                  rw [hok] at hm0
                  apply step_go (k' := (M.obj v).refs.length - (1 + 1))
                  · simp (disch := first | omega | rfl | assumption | (simp only [csN, Nat.reduceAdd, Nat.reduceMul, Nat.reduceLeDiff, Nat.reduceEqDiff] <;> omega) | (simp only [csF]; done) | (simp only [csF] <;> assumption) | fail) only [Nat.reduceEqDiff, Nat.reduceAdd, Nat.reduceMul, Nat.reduceSub, Nat.reduceLeDiff, Int.reduceAdd, Int.reduceSub, Int.reduceMul, Int.reduceLT, Int.reduceLE, Int.reduceGT, Int.reduceGE, Int.reduceEq, Int.reduceBEq, Int.reduceBNe, Int.reduceNeg, Int.reduceToNat, csAll, ↓reduceIte, C77_1, e3, e10, e11, kx', hl6, r3', hgj, hcn, hmj, d49, hN, hcn2, kx2', r32, hg0, hm0, hw]
                    rfl
                  · omega
                  · exact ⟨1 + 1, by simp [upd_apply], by omega, rfl, gx2, kx2, f, cn, hcn2, hcl, hps, hmo, hsn, by simp [upd_apply, e8], fun hf => ⟨(hcf hf).1, hno hf (fun h => by rcases h with h | ⟨-, -, h⟩; exact hst h; rw [hok] at h; cases h)⟩⟩
              · apply step_go (k' := (M.obj v).refs.length - (j + 1))
                · simp (disch := first | omega | rfl | assumption | (simp only [csN, Nat.reduceAdd, Nat.reduceMul, Nat.reduceLeDiff, Nat.reduceEqDiff] <;> omega) | (simp only [csF]; done) | (simp only [csF] <;> assumption) | fail) only [Nat.reduceEqDiff, Nat.reduceAdd, Nat.reduceMul, Nat.reduceSub, Nat.reduceLeDiff, Int.reduceAdd, Int.reduceSub, Int.reduceMul, Int.reduceLT, Int.reduceLE, Int.reduceGT, Int.reduceGE, Int.reduceEq, Int.reduceBEq, Int.reduceBNe, Int.reduceNeg, Int.reduceToNat, csAll, ↓reduceIte, C77_1, e3, e10, e11, kx', hl6, r3', hgj, hcn, hmj, d49, hN, hcn2, kx2', hw]
                  rfl
                · omega
                · exact ⟨j + 1, by simp [upd_apply], by omega, rfl, gx2, kx2, f, cn, hcn2, hcl, hps, hmo, hsn, by simp [upd_apply, e8], fun hf => ⟨(hcf hf).1, hno hf (fun h => by rcases h with h | ⟨-, h, -⟩; exact hst h; exact hj1 h)⟩⟩
            · apply step_go (k' := (M.obj v).refs.length - (j + 1))
              · simp (disch := first | omega | rfl | assumption | (simp only [csN, Nat.reduceAdd, Nat.reduceMul, Nat.reduceLeDiff, Nat.reduceEqDiff] <;> omega) | (simp only [csF]; done) | (simp only [csF] <;> assumption) | fail) only [Nat.reduceEqDiff, Nat.reduceAdd, Nat.reduceMul, Nat.reduceSub, Nat.reduceLeDiff, Int.reduceAdd, Int.reduceSub, Int.reduceMul, Int.reduceLT, Int.reduceLE, Int.reduceGT, Int.reduceGE, Int.reduceEq, Int.reduceBEq, Int.reduceBNe, Int.reduceNeg, Int.reduceToNat, csAll, ↓reduceIte, C77_1, e3, e10, e11, kx', hl6, r3', hgj, hcn, hmj, d49, hN, hcn2, kx2', hw]
                rfl
              · omega
              · exact ⟨j + 1, by simp [upd_apply], by omega, rfl, gx2, kx2, f, cn, hcn2, hcl, hps, hmo, hsn, by simp [upd_apply, e8], fun hf => ⟨(hcf hf).1, hno hf (fun h => by rcases h with h | ⟨h, -, -⟩; exact hst h; exact hk2 h)⟩⟩
      · apply step_out (x := .exit 12)
        · simp (disch := first | omega | rfl | assumption | (simp only [csN, Nat.reduceAdd, Nat.reduceMul, Nat.reduceLeDiff, Nat.reduceEqDiff] <;> omega) | (simp only [csF]; done) | (simp only [csF] <;> assumption) | fail) only [Nat.reduceEqDiff, Nat.reduceAdd, Nat.reduceMul, Nat.reduceSub, Nat.reduceLeDiff, Int.reduceAdd, Int.reduceSub, Int.reduceMul, Int.reduceLT, Int.reduceLE, Int.reduceGT, Int.reduceGE, Int.reduceEq, Int.reduceBEq, Int.reduceBNe, Int.reduceNeg, Int.reduceToNat, csAll, ↓reduceIte, C77_1, e10, e11, kx, hl6]
          rfl
        · simp
        · refine ⟨rfl, gx, kx, f, cn, hcn, hcl, hps, hmo, hsn, by simp [upd_apply, e8], fun hf => ⟨(hcf hf).1, fun k hk => (hcf hf).2 k (by omega)⟩⟩) _ ⟨0, h11, by omega, rfl, gx1, kx, f1, c1, hc1, hl1, hp1, fun _ _ h => h, hs1, h8, fun hf => ⟨hf, fun k hk => by omega⟩⟩
  exact ⟨E', H', f, cn, hr.symm.trans e, g1, g2, g3, g4, g5, g6, g7, g8, fr⟩
end
end Go.Cs.Try

/- The reference's kept, Kept, Collect, continued. -/
namespace Go.Cs.Try
open Go Go.Cs
set_option maxRecDepth 100000
set_option maxHeartbeats 8000000
section
variable {o : Tags} {g : Nat} {b : Nat} {M : Mdl} {L : Lay} {H : CHeap}

theorem l77_2 (m : MRep o g H b M L) (w : M.Ok) {ob N : Nat} (hob : o ob = none) (hobl : ob < H.length) (hN : N = M.objs.length + 1) {H1 : CHeap} (gx1 : GrX H ob H1)
    {c0 : List Bool} (hc1 : H1[ob]? = some ⟨bools c0, .rw, 1⟩) (hl1 : c0.length = M.objs.length + 1) (hs1 : Snd M c0)
    {E0 : Env} (h0 : E0 0 = .ptr b 0) (h3 : E0 3 = .slice ob 0 N N 1 false) (h8 : E0 8 = .bool false) (h9 : E0 9 = .i 1)
    {r : Option (CX × Env × CHeap)} (hr : den P (.loop C77_2) E0 H1 = r) :
    ∃ E' H' f cn, r = some (.exit 10, E', H') ∧ GrX H ob H' ∧ H'[ob]? = some ⟨bools cn, .rw, 1⟩ ∧ cn.length = M.objs.length + 1 ∧ PassSt c0 f cn ∧ Mono c0 cn ∧ Snd M cn ∧ E' 8 = .bool f ∧ (f = false → ∀ v, M.has v → on c0 v = true → ClO M c0 v (M.obj v).refs.length) ∧ ∀ t, t ∉ wr C77_2 → E' t = E0 t := by
  have hfew := w.few
  obtain ⟨x', E', H', e, -, ⟨rfl, g1, f, cn, g2, g3, g4, g5, g6, g7, g8⟩, fr⟩ := loop_at (p := P) (c := C77_2) (E0 := E0) (H0 := H1) (fun k E H' => ∃ j : Nat, E 9 = .i ((j + 1 : Nat) : Int) ∧ j ≤ M.objs.length ∧ k = M.objs.length - j ∧ GrX H ob H' ∧
      ∃ f cn, H'[ob]? = some ⟨bools cn, .rw, 1⟩ ∧ cn.length = M.objs.length + 1 ∧ PassSt c0 f cn ∧ Mono c0 cn ∧ Snd M cn ∧ E 8 = .bool f ∧ (f = false → ∀ v : Int, 1 ≤ v → v ≤ (j : Int) → on c0 v = true → ClO M c0 v (M.obj v).refs.length))
    (fun x' E' H' => x' = .exit 10 ∧ GrX H ob H' ∧ ∃ f cn, H'[ob]? = some ⟨bools cn, .rw, 1⟩ ∧ cn.length = M.objs.length + 1 ∧ PassSt c0 f cn ∧ Mono c0 cn ∧ Snd M cn ∧ E' 8 = .bool f ∧ (f = false → ∀ v, M.has v → on c0 v = true → ClO M c0 v (M.obj v).refs.length)) (by
      rintro k E H' hE ⟨j, e9, hj, rfl, gx, f, cn, hcn, hcl, hps, hmo, hsn, e8, hcf⟩
      have e0 := (hE 0 (by decide +kernel)).trans h0
      have e3 := (hE 3 (by decide +kernel)).trans h3
      by_cases c : j < M.objs.length
      · have hh : M.has ((j + 1 : Nat) : Int) := by unfold Mdl.has; omega
        have hw := wrapS (j + 1) (by omega)
        have hmj := on_get (ks := cn) (v := ((j + 1 : Nat) : Int)) (by omega)
        rw [Int.toNat_natCast] at hmj
        cases hon : on cn ((j + 1 : Nat) : Int) with
        | false =>
          rw [hon] at hmj
          apply step_go (k' := M.objs.length - (j + 1))
          · simp (disch := first | omega | rfl | assumption | (simp only [csN, Nat.reduceAdd, Nat.reduceMul, Nat.reduceLeDiff, Nat.reduceEqDiff] <;> omega) | (simp only [csF]; done) | (simp only [csF] <;> assumption) | fail) only [Nat.reduceEqDiff, Nat.reduceAdd, Nat.reduceMul, Nat.reduceSub, Nat.reduceLeDiff, Int.reduceAdd, Int.reduceSub, Int.reduceMul, Int.reduceLT, Int.reduceLE, Int.reduceGT, Int.reduceGE, Int.reduceEq, Int.reduceBEq, Int.reduceBNe, Int.reduceNeg, Int.reduceToNat, csAll, ↓reduceIte, C77_2, e3, e9, hcn, hmj, hw]
            rfl
          · omega
          · refine ⟨j + 1, by simp [upd_apply], by omega, rfl, gx, f, cn, hcn, hcl, hps, hmo, hsn, by simp [upd_apply, e8], fun hf v h1 h2 h3 => ?_⟩
            by_cases ev : v = ((j + 1 : Nat) : Int)
            · subst ev
              rw [← hps.same hf, hon] at h3; cases h3
            · exact hcf hf v h1 (by omega) h3
        | true =>
          rw [hon] at hmj
          have mm := m.grx gx hob
          obtain ⟨h, rest, o1, o2, o3, o4, o5, h6, h7⟩ := mm.objAt _ hh
          obtain ⟨tlo, po, -, -, -⟩ := mm.objs.pos (by omega)
          have cX := mm.cells
          rw [po] at cX
          have ej : (((j + 1 : Nat) : Int) - 1).toNat = j := by omega
          have hj1 : IntKind.i64.wrap (((j + 1 : Nat) : Int) - 1) = (j : Int) := by rw [wrap_id (by omega)]; omega
          obtain ⟨h', -, oH1, -, -, -, -, h6H, -⟩ := m.objAt _ hh
          have hheq : h' = h := by rw [oH1] at o1; exact (by simpa using o1 : h' = h)
          subst hheq
          rw [ej] at o3 o4
          have lf1 := h6.leaf
          have lf2 := h7.leaf
          have hall : ([.i (M.obj ((j + 1 : Nat) : Int)).nr, .i (M.obj ((j + 1 : Nat) : Int)).nd, .i (M.obj ((j + 1 : Nat) : Int)).kd, h'.1, h'.2] : List CV).all leaf = true := by simp only [List.all_cons, List.all_nil, lf1, lf2, leaf_int, Bool.and_true]
          have gN : Gr H' (H' ++ [(⟨[.i (M.obj ((j + 1 : Nat) : Int)).nr, .i (M.obj ((j + 1 : Nat) : Int)).nd, .i (M.obj ((j + 1 : Nat) : Int)).kd, h'.1, h'.2], .rw, 0⟩ : Blk)]) := .app _ _
          have key : ∃ E2 H2 f2 cn2, den P C77_2 E H' = some (.normal, E2, H2) ∧ E2 9 = .i ((j + 1 + 1 : Nat) : Int) ∧ GrX H ob H2 ∧ H2[ob]? = some ⟨bools cn2, .rw, 1⟩ ∧ cn2.length = M.objs.length + 1 ∧ PassSt c0 f2 cn2 ∧ Mono cn cn2 ∧ Snd M cn2 ∧ E2 8 = .bool f2 ∧ (f2 = false → f = false ∧ ClO M c0 ((j + 1 : Nat) : Int) (M.obj ((j + 1 : Nat) : Int)).refs.length) := by
            simp (disch := first | omega | rfl | assumption | (simp only [csN, Nat.reduceAdd, Nat.reduceMul, Nat.reduceLeDiff, Nat.reduceEqDiff] <;> omega) | (simp only [csF]; done) | (simp only [csF] <;> assumption) | fail) only [Nat.reduceEqDiff, Nat.reduceAdd, Nat.reduceMul, Nat.reduceSub, Nat.reduceLeDiff, Int.reduceAdd, Int.reduceSub, Int.reduceMul, Int.reduceLT, Int.reduceLE, Int.reduceGT, Int.reduceGE, Int.reduceEq, Int.reduceBEq, Int.reduceBNe, Int.reduceNeg, Int.reduceToNat, csAll, ↓reduceIte, C77_2, e0, e3, e9, hcn, hmj, cX, hj1, o2, o3]
            generalize hr : den P (.loop C77_1) _ _ = r
            obtain ⟨E4, H4, f', cn', rfl, q1, q2, q3, q4, q5, q6, q7, q8, q9⟩ := l77_1 m w hob hobl hN hh (gx.gr gN) gx.len h6H (look_last rfl) (gN.get hcn) hcl hps hmo hsn hon (by simp only [upd_apply, Nat.reduceEqDiff, ↓reduceIte, e3]) (by simp only [upd_apply, Nat.reduceEqDiff, ↓reduceIte, e8]) (by simp only [upd_apply, Nat.reduceEqDiff, ↓reduceIte]) (by simp only [upd_apply, Nat.reduceEqDiff, ↓reduceIte]) hr
            have k9 := q9 9 (by decide +kernel)
            simp only [upd_apply, Nat.reduceEqDiff, ↓reduceIte, e9] at k9
            simp (disch := first | omega | rfl | assumption | (simp only [csN, Nat.reduceAdd, Nat.reduceMul, Nat.reduceLeDiff, Nat.reduceEqDiff] <;> omega) | (simp only [csF]; done) | (simp only [csF] <;> assumption) | fail) only [Nat.reduceEqDiff, Nat.reduceAdd, Nat.reduceMul, Nat.reduceSub, Nat.reduceLeDiff, Int.reduceAdd, Int.reduceSub, Int.reduceMul, Int.reduceLT, Int.reduceLE, Int.reduceGT, Int.reduceGE, Int.reduceEq, Int.reduceBEq, Int.reduceBNe, Int.reduceNeg, Int.reduceToNat, csAll, ↓reduceIte, k9, hw]
            exact ⟨_, _, f', cn', rfl, by simp [upd_apply], q1, q2, q3, q4, q5, q6, by simp [upd_apply, q7], q8⟩
          obtain ⟨E2, H2, f2, cn2, k1, k2, k3, k4, k5, k6, k7, k8, k9, k10⟩ := key
          refine step_go (k' := M.objs.length - (j + 1)) k1 (by omega) ⟨j + 1, k2, by omega, rfl, k3, f2, cn2, k4, k5, k6, fun u h0 h1 => k7 u h0 (hmo u h0 h1), k8, k9, fun hf v h1 h2 h3 => ?_⟩
          obtain ⟨z1, z2⟩ := k10 hf
          by_cases ev : v = ((j + 1 : Nat) : Int)
          · subst ev; exact z2
          · exact hcf z1 v h1 (by omega) h3
      · apply step_out (x := .exit 10)
        · simp (disch := first | omega | rfl | assumption | (simp only [csN, Nat.reduceAdd, Nat.reduceMul, Nat.reduceLeDiff, Nat.reduceEqDiff] <;> omega) | (simp only [csF]; done) | (simp only [csF] <;> assumption) | fail) only [Nat.reduceEqDiff, Nat.reduceAdd, Nat.reduceMul, Nat.reduceSub, Nat.reduceLeDiff, Int.reduceAdd, Int.reduceSub, Int.reduceMul, Int.reduceLT, Int.reduceLE, Int.reduceGT, Int.reduceGE, Int.reduceEq, Int.reduceBEq, Int.reduceBNe, Int.reduceNeg, Int.reduceToNat, csAll, ↓reduceIte, C77_2, e3, e9]
          rfl
        · simp
        · exact ⟨rfl, gx, f, cn, hcn, hcl, hps, hmo, hsn, by simp [upd_apply, e8], fun hf v hv h3 => hcf hf v hv.1 (by have := hv.2; omega) h3⟩) M.objs.length ⟨0, h9, by omega, rfl, gx1, false, c0, hc1, hl1, .inr ⟨rfl, rfl⟩, fun _ _ h => h, hs1, h8, fun _ v h1 h2 => by omega⟩
  exact ⟨E', H', f, cn, hr.symm.trans e, g1, g2, g3, g4, g5, g6, g7, g8, fr⟩

theorem l77_3 (m : MRep o g H b M L) (w : M.Ok) {ob N : Nat} (hob : o ob = none) (hobl : ob < H.length) (hN : N = M.objs.length + 1) {H1 : CHeap} (gx1 : GrX H ob H1)
    {c0 : List Bool} (hc1 : H1[ob]? = some ⟨bools c0, .rw, 1⟩) (hl1 : c0.length = M.objs.length + 1) (hs1 : Snd M c0) (hp1 : ∀ v ∈ M.places, v ≠ 0 → on c0 v = true)
    {E0 : Env} (h0 : E0 0 = .ptr b 0) (h3 : E0 3 = .slice ob 0 N N 1 false) (h8 : E0 8 = .bool true)
    {r : Option (CX × Env × CHeap)} (hr : den P (.loop C77_3) E0 H1 = r) :
    ∃ E' H', r = some (.exit 8, E', H') ∧ GrX H ob H' ∧ H'[ob]? = some ⟨bools M.keptL, .rw, 1⟩ ∧ ∀ t, t ∉ wr C77_3 → E' t = E0 t := by
  obtain ⟨x', E', H', e, -, ⟨rfl, g1, g2⟩, fr⟩ := loop_at (p := P) (c := C77_3) (E0 := E0) (H0 := H1) (fun k E H' => GrX H ob H' ∧ ∃ f cn, H'[ob]? = some ⟨bools cn, .rw, 1⟩ ∧ cn.length = M.objs.length + 1 ∧ Snd M cn ∧ (∀ v ∈ M.places, v ≠ 0 → on cn v = true) ∧ E 8 = .bool f ∧ k = 2 * falses cn + (if f = true then 1 else 0) ∧ (f = false → ∀ v, M.has v → on cn v = true → ClO M cn v (M.obj v).refs.length))
    (fun x' E' H' => x' = .exit 8 ∧ GrX H ob H' ∧ H'[ob]? = some ⟨bools M.keptL, .rw, 1⟩) (by
      rintro k E H' hE ⟨gx, f, cn, hcn, hcl, hsn, hpl, e8, rfl, hcf⟩
      have e0 := (hE 0 (by decide +kernel)).trans h0
      have e3 := (hE 3 (by decide +kernel)).trans h3
      cases f with
      | true =>
        have key : ∃ E2 H2 f2 cn2, den P C77_3 E H' = some (.normal, E2, H2) ∧ GrX H ob H2 ∧ H2[ob]? = some ⟨bools cn2, .rw, 1⟩ ∧ cn2.length = M.objs.length + 1 ∧ PassSt cn f2 cn2 ∧ Mono cn cn2 ∧ Snd M cn2 ∧ E2 8 = .bool f2 ∧ (f2 = false → ∀ v, M.has v → on cn v = true → ClO M cn v (M.obj v).refs.length) := by
          simp (disch := first | omega | rfl | assumption | (simp only [csN, Nat.reduceAdd, Nat.reduceMul, Nat.reduceLeDiff, Nat.reduceEqDiff] <;> omega) | (simp only [csF]; done) | (simp only [csF] <;> assumption) | fail) only [Nat.reduceEqDiff, Nat.reduceAdd, Nat.reduceMul, Nat.reduceSub, Nat.reduceLeDiff, Int.reduceAdd, Int.reduceSub, Int.reduceMul, Int.reduceLT, Int.reduceLE, Int.reduceGT, Int.reduceGE, Int.reduceEq, Int.reduceBEq, Int.reduceBNe, Int.reduceNeg, Int.reduceToNat, csAll, ↓reduceIte, C77_3, e8]
          generalize hr : den P (.loop C77_2) _ _ = r
          obtain ⟨E4, H4, f', cn', rfl, q1, q2, q3, q4, q5, q6, q7, q8, q9⟩ := l77_2 m w hob hobl hN gx hcn hcl hsn (by simp only [upd_apply, Nat.reduceEqDiff, ↓reduceIte, e0]) (by simp only [upd_apply, Nat.reduceEqDiff, ↓reduceIte, e3]) (by simp only [upd_apply, Nat.reduceEqDiff, ↓reduceIte]) (by simp only [upd_apply, Nat.reduceEqDiff, ↓reduceIte]) hr
          simp (disch := first | omega | rfl | assumption | (simp only [csN, Nat.reduceAdd, Nat.reduceMul, Nat.reduceLeDiff, Nat.reduceEqDiff] <;> omega) | (simp only [csF]; done) | (simp only [csF] <;> assumption) | fail) only [Nat.reduceEqDiff, Nat.reduceAdd, Nat.reduceMul, Nat.reduceSub, Nat.reduceLeDiff, Int.reduceAdd, Int.reduceSub, Int.reduceMul, Int.reduceLT, Int.reduceLE, Int.reduceGT, Int.reduceGE, Int.reduceEq, Int.reduceBEq, Int.reduceBNe, Int.reduceNeg, Int.reduceToNat, csAll, ↓reduceIte]
          exact ⟨_, _, f', cn', rfl, q1, q2, q3, q4, q5, q6, q7, q8⟩
        obtain ⟨E2, H2, f2, cn2, k1, k3, k4, k5, k6, k7, k8, k9, k10⟩ := key
        refine step_go (k' := 2 * falses cn2 + (if f2 = true then 1 else 0)) k1 ?_ ⟨k3, f2, cn2, k4, k5, k8, fun v hv hz => k7 v (w.place hv).1 (hpl v hv hz), k9, rfl, fun hf => ?_⟩
        · rcases k6 with ⟨rfl, h⟩ | ⟨rfl, rfl⟩
          · simp only [↓reduceIte]; omega
          · simp only [↓reduceIte, Bool.false_eq_true]; omega
        · rw [k6.same hf]; exact k10 hf
      | false =>
        have hk : cn = M.keptL := keptL_of hcl fun u h0 h1 => ⟨fun h => hsn u h0 h1 h, fun h => Kp.closedO w hpl (fun v hv ho => hcf rfl v hv ho) h⟩
        apply step_out (x := .exit 8)
        · simp (disch := first | omega | rfl | assumption | (simp only [csN, Nat.reduceAdd, Nat.reduceMul, Nat.reduceLeDiff, Nat.reduceEqDiff] <;> omega) | (simp only [csF]; done) | (simp only [csF] <;> assumption) | fail) only [Nat.reduceEqDiff, Nat.reduceAdd, Nat.reduceMul, Nat.reduceSub, Nat.reduceLeDiff, Int.reduceAdd, Int.reduceSub, Int.reduceMul, Int.reduceLT, Int.reduceLE, Int.reduceGT, Int.reduceGE, Int.reduceEq, Int.reduceBEq, Int.reduceBNe, Int.reduceNeg, Int.reduceToNat, csAll, ↓reduceIte, C77_3, e8]
          rfl
        · simp
        · exact ⟨rfl, gx, by rw [← hk]; exact hcn⟩) _ ⟨gx1, true, c0, hc1, hl1, hs1, hp1, h8, rfl, fun h => by cases h⟩
  exact ⟨E', H', hr.symm.trans e, g1, g2, fr⟩

/-- kept. -/
theorem f77 (m : MRep o g H b M L) (w : M.Ok) : ∃ ob H', run P 77 [.ptr b 0] H = some (.slice ob 0 (M.objs.length + 1) (M.objs.length + 1) 1 false, H') ∧ Gr H H' ∧ H.length ≤ ob ∧ H'[ob]? = some ⟨bools M.keptL, .rw, 1⟩ := by
  have hc := m.cells
  have hol := m.objs.len
  have hfew := w.few
  have hw := wrapS M.objs.length (by omega)
  have hz : (List.replicate (M.objs.length + 1) [CV.bool false]).flatten = bools (marks M.objs.length []) := by rw [← bools_rep]; rfl
  have gN : Gr H (H ++ [(⟨bools (marks M.objs.length []), .rw, 1⟩ : Blk)]) := .app _ _
  have mN := m.gr gN
  have hob : o H.length = none := tag_none m.dom
  have hset : ∀ l, (H ++ [(⟨bools (marks M.objs.length []), .rw, 1⟩ : Blk)]).set H.length ⟨bools (marks M.objs.length l), .rw, 1⟩ = H ++ [⟨bools (marks M.objs.length l), .rw, 1⟩] := fun l => set_last rfl
  have hobl : H.length < (H ++ [(⟨bools (marks M.objs.length []), .rw, 1⟩ : Blk)]).length := by simp
  have ml : ∀ l, (bools (marks M.objs.length l)).length = M.objs.length + 1 := fun l => by rw [bools_len, marks_len]
  have key : ∃ H', run P 77 [.ptr b 0] H = some (.slice H.length 0 (M.objs.length + 1) (M.objs.length + 1) 1 false, H') ∧ GrX (H ++ [(⟨bools (marks M.objs.length []), .rw, 1⟩ : Blk)]) H.length H' ∧ H'[H.length]? = some ⟨bools M.keptL, .rw, 1⟩ := by
    rw [run_lv c77]
    simp (disch := first | omega | rfl | assumption | (simp only [csN, Nat.reduceAdd, Nat.reduceMul, Nat.reduceLeDiff, Nat.reduceEqDiff] <;> omega) | (simp only [csF]; done) | (simp only [csF] <;> assumption) | fail) only [Nat.reduceEqDiff, Nat.reduceAdd, Nat.reduceMul, Nat.reduceSub, Nat.reduceLeDiff, Int.reduceAdd, Int.reduceSub, Int.reduceMul, Int.reduceLT, Int.reduceLE, Int.reduceGT, Int.reduceGE, Int.reduceEq, Int.reduceBEq, Int.reduceBNe, Int.reduceNeg, Int.reduceToNat, csAll, ↓reduceIte, C77, entry_1, hc, hol, hw, hz]
    generalize hr : den P (.loop C77_7) _ _ = r
    rw [← hset []] at hr
    obtain ⟨E1, rfl, k1⟩ := l77_7 mN w (N := M.objs.length + 1) hob hobl rfl (by simp only [upd_apply, Nat.reduceEqDiff, ↓reduceIte]) (by simp only [upd_apply, Nat.reduceEqDiff, ↓reduceIte]) (by simp only [upd_apply, Nat.reduceEqDiff, ↓reduceIte]) hr
    have a0 := k1 0 (by decide +kernel)
    have a3 := k1 3 (by decide +kernel)
    simp only [upd_apply, Nat.reduceEqDiff, ↓reduceIte] at a0 a3
    simp (disch := first | omega | rfl | assumption | (simp only [csN, Nat.reduceAdd, Nat.reduceMul, Nat.reduceLeDiff, Nat.reduceEqDiff] <;> omega) | (simp only [csF]; done) | (simp only [csF] <;> assumption) | fail) only [Nat.reduceEqDiff, Nat.reduceAdd, Nat.reduceMul, Nat.reduceSub, Nat.reduceLeDiff, Int.reduceAdd, Int.reduceSub, Int.reduceMul, Int.reduceLT, Int.reduceLE, Int.reduceGT, Int.reduceGE, Int.reduceEq, Int.reduceBEq, Int.reduceBNe, Int.reduceNeg, Int.reduceToNat, csAll, ↓reduceIte]
    generalize hr2 : den P (.loop C77_5) _ _ = r2
    rw [← hset] at hr2
    obtain ⟨E2, rfl, k2⟩ := l77_5 mN w (N := M.objs.length + 1) hob hobl rfl (by simp only [upd_apply, Nat.reduceEqDiff, ↓reduceIte, a0]) (by simp only [upd_apply, Nat.reduceEqDiff, ↓reduceIte, a3]) (by simp only [upd_apply, Nat.reduceEqDiff, ↓reduceIte]) hr2
    have b0 := k2 0 (by decide +kernel)
    have b3 := k2 3 (by decide +kernel)
    simp only [upd_apply, Nat.reduceEqDiff, ↓reduceIte, a0, a3] at b0 b3
    simp (disch := first | omega | rfl | assumption | (simp only [csN, Nat.reduceAdd, Nat.reduceMul, Nat.reduceLeDiff, Nat.reduceEqDiff] <;> omega) | (simp only [csF]; done) | (simp only [csF] <;> assumption) | fail) only [Nat.reduceEqDiff, Nat.reduceAdd, Nat.reduceMul, Nat.reduceSub, Nat.reduceLeDiff, Int.reduceAdd, Int.reduceSub, Int.reduceMul, Int.reduceLT, Int.reduceLE, Int.reduceGT, Int.reduceGE, Int.reduceEq, Int.reduceBEq, Int.reduceBNe, Int.reduceNeg, Int.reduceToNat, csAll, ↓reduceIte]
    generalize hr3 : den P (.loop C77_4) _ _ = r3
    rw [← hset] at hr3
    obtain ⟨E3, rfl, k3⟩ := l77_4 mN w (N := M.objs.length + 1) hob hobl rfl (by simp only [upd_apply, Nat.reduceEqDiff, ↓reduceIte, b0]) (by simp only [upd_apply, Nat.reduceEqDiff, ↓reduceIte, b3]) (by simp only [upd_apply, Nat.reduceEqDiff, ↓reduceIte]) hr3
    have d0 := k3 0 (by decide +kernel)
    have d3 := k3 3 (by decide +kernel)
    simp only [upd_apply, Nat.reduceEqDiff, ↓reduceIte, b0, b3] at d0 d3
    have hml := ml (M.slots.flatten ++ M.globals ++ M.queue)
    simp (disch := first | omega | rfl | assumption | (simp only [csN, Nat.reduceAdd, Nat.reduceMul, Nat.reduceLeDiff, Nat.reduceEqDiff] <;> omega) | (simp only [csF]; done) | (simp only [csF] <;> assumption) | fail) only [Nat.reduceEqDiff, Nat.reduceAdd, Nat.reduceMul, Nat.reduceSub, Nat.reduceLeDiff, Int.reduceAdd, Int.reduceSub, Int.reduceMul, Int.reduceLT, Int.reduceLE, Int.reduceGT, Int.reduceGE, Int.reduceEq, Int.reduceBEq, Int.reduceBNe, Int.reduceNeg, Int.reduceToNat, csAll, ↓reduceIte, d3]
    generalize hr4 : den P (.loop C77_3) _ _ = r4
    have hb0 : (bools (marks M.objs.length (M.slots.flatten ++ M.globals ++ M.queue))).set 0 (.bool false) = bools ((marks M.objs.length M.places).set 0 false) := (bools_set _ _ _).symm
    rw [hb0] at hr4
    have hpr : ∀ v ∈ M.places, 0 ≤ v ∧ v ≤ (M.objs.length : Int) := fun v hv => w.place hv
    have hsn : Snd M ((marks M.objs.length M.places).set 0 false) := fun u h0 h1 h2 => by
      by_cases hu : u = 0
      · subst hu
        unfold on at h2
        rw [Int.toNat_zero, List.getD_eq_getElem?_getD, List.getElem?_set_self (by rw [marks_len]; omega)] at h2
        simp at h2
      · unfold on at h2
        rw [List.getD_eq_getElem?_getD, List.getElem?_set_ne (by omega), ← List.getD_eq_getElem?_getD] at h2
        exact .root ((marks_on hpr h0).1 h2) hu
    have hpl : ∀ v ∈ M.places, v ≠ 0 → on ((marks M.objs.length M.places).set 0 false) v = true := fun v hv hz => by
      have h0 := (hpr v hv).1
      unfold on
      rw [List.getD_eq_getElem?_getD, List.getElem?_set_ne (by omega), ← List.getD_eq_getElem?_getD]
      exact (marks_on hpr h0).2 hv
    have gx4 : GrX (H ++ [(⟨bools (marks M.objs.length []), .rw, 1⟩ : Blk)]) H.length (H ++ [(⟨bools ((marks M.objs.length M.places).set 0 false), .rw, 1⟩ : Blk)]) := ⟨by simp, fun c hc hne => by
      simp only [List.length_append, List.length_cons, List.length_nil] at hc
      rw [List.getElem?_append_left (by omega), List.getElem?_append_left (by omega)]⟩
    obtain ⟨E4, H4, rfl, q1, q2, q3⟩ := l77_3 mN w (N := M.objs.length + 1) hob hobl rfl gx4 (look_last rfl) (by rw [List.length_set, marks_len]) hsn hpl (by simp only [upd_apply, Nat.reduceEqDiff, ↓reduceIte, d0]) (by simp only [upd_apply, Nat.reduceEqDiff, ↓reduceIte, d3]) (by simp only [upd_apply, Nat.reduceEqDiff, ↓reduceIte]) hr4
    have z3' := q3 3 (by decide +kernel)
    simp only [upd_apply, Nat.reduceEqDiff, ↓reduceIte, d3] at z3'
    simp (disch := first | omega | rfl | assumption | (simp only [csN, Nat.reduceAdd, Nat.reduceMul, Nat.reduceLeDiff, Nat.reduceEqDiff] <;> omega) | (simp only [csF]; done) | (simp only [csF] <;> assumption) | fail) only [Nat.reduceEqDiff, Nat.reduceAdd, Nat.reduceMul, Nat.reduceSub, Nat.reduceLeDiff, Int.reduceAdd, Int.reduceSub, Int.reduceMul, Int.reduceLT, Int.reduceLE, Int.reduceGT, Int.reduceGE, Int.reduceEq, Int.reduceBEq, Int.reduceBNe, Int.reduceNeg, Int.reduceToNat, csAll, ↓reduceIte, z3']
    exact ⟨H4, rfl, q1, q2⟩
  obtain ⟨H', k1, k2, k3⟩ := key
  exact ⟨H.length, H', k1, ⟨by have := k2.len; simp at this; omega, fun c hc => by rw [k2.low c (by simp; omega) (by omega), List.getElem?_append_left hc]⟩, Nat.le_refl _, k3⟩
end
end Go.Cs.Try

/- The reference's Kept and Collect. -/
namespace Go.Cs
open Go
section
variable {o : Tags} {g : Nat} {H : CHeap} {b : Nat} {M : Mdl} {L : Lay}
/-- All references are other ones. -/
theorem MRep.putRefs (m : MRep o g H b M L) {n : Int} (c : M.has n) {h : CV × CV} (h0 : L.hv[(n - 1).toNat]? = some h) (h6 : At o (g, 6, (n - 1).toNat) H h.1 1 (M.obj n).refs.length (ints (M.obj n).refs)) (h7 : At o (g, 7, (n - 1).toNat) H h.2 1 (M.obj n).data.length (ints (M.obj n).data))
    {l' : List Int} (hl : l'.length = (M.obj n).refs.length) (hp : 0 < (M.obj n).refs.length) :
    MRep o g (H.set (blkOf h.1) ⟨ints l', .rw, 1⟩) b (M.setObj n { M.obj n with refs := l' }) L ∧ Frm g o H o (H.set (blkOf h.1) ⟨ints l', .rw, 1⟩) := by
  obtain ⟨tl, d1, d2, d3, d4⟩ := h6.pos hp
  have d5 := lt_of_get d3
  refine ⟨m.setObj (Mdl.obj_get c) ⟨rfl, rfl, rfl, hl, rfl⟩ (by simp) ?_ ?_, by simp, fun _ _ => rfl, fun c t h hc => by have := m.dom c t h; omega, fun c' hc' hk => ?_⟩
  · intro c' k hk h6' _
    rw [List.getElem?_set_ne]
    rintro rfl
    rw [d2] at hk
    simp only [Option.some.injEq, Prod.mk.injEq, true_and] at hk
    exact h6' (by rw [← hk])
  · intro h' hh
    rw [h0] at hh
    simp only [Option.some.injEq] at hh
    subst hh
    refine ⟨.inr ⟨blkOf h.1, tl, d1, d2, by rw [List.getElem?_set_self d5], by simp [ints_len, hl]⟩, h7.frame (fun _ h => h) (fun c' hc' => ?_)⟩
    rw [List.getElem?_set_ne]
    rintro rfl
    rw [d2] at hc'
    simp at hc'
  · rw [List.getElem?_set_ne]
    rintro rfl
    exact hk _ d2
end
theorem setObj_same {M : Mdl} {n : Int} (c : M.has n) : M.setObj n (M.obj n) = M := by
  unfold Mdl.setObj
  have h := Mdl.obj_get c
  have hl := lt_of_get h
  have : M.objs.set (n - 1).toNat (M.obj n) = M.objs := by
    refine List.ext_getElem? fun i => ?_
    by_cases e : (n - 1).toNat = i
    · subst e; rw [List.getElem?_set_self hl, h]
    · rw [List.getElem?_set_ne e]
  rw [this]
/-- What the reference makes of the references of an object that it clears. -/
def clr (kd : Int) (l : List Int) : List Int := if kd = 2 then (l.set 0 0).set 1 0 else l.set 0 0
theorem cObj_clr {n : Nat} {x : Obj} (h : x.Ok n) {ks : List Bool} {i : Nat} (hk : ks.getD (i + 1) false = true) (hs : x.kd = 1 ∨ x.kd = 2) (ho : on ks (x.refs.getD 0 0) = false) :
    cObj ks i x = (if x.refs.getD 0 0 ≠ 0 ∨ (x.kd = 2 ∧ x.refs.getD 1 0 ≠ 0) then some { x with refs := clr x.kd x.refs } else none) ∧ (¬ (x.refs.getD 0 0 ≠ 0 ∨ (x.kd = 2 ∧ x.refs.getD 1 0 ≠ 0)) → clr x.kd x.refs = x.refs) := by
  have hnr := h.nr
  have hkd := h.kd
  obtain ⟨nr, nd, kd, refs, data⟩ := x
  simp only at *
  rcases hs with rfl | rfl
  · have h1 := hkd.2.2.1 rfl
    match refs, hnr with
    | a :: r, hnr =>
      have ho' : on ks a = false := ho
      unfold cObj clr soft
      simp only [hk, ho', true_and, ↓reduceIte, Int.reduceEq, Nat.zero_lt_one, List.take_succ_cons, List.take_zero, List.any_cons, List.any_nil, Bool.or_false, bne_iff_ne, ne_eq, List.getD_cons_zero, false_and, or_false, List.replicate_one, List.drop_succ_cons, List.drop_zero, List.set_cons_zero, List.cons_append, List.nil_append]
      intro h
      have : a = 0 := Decidable.not_not.1 h
      rw [this]
    | [], hnr => simp at hnr; omega
  · have h1 := hkd.2.2.2 rfl
    match refs, hnr with
    | a :: c :: r, hnr =>
      have ho' : on ks a = false := ho
      unfold cObj clr soft
      have hrep : List.replicate 2 (0 : Int) ++ r = 0 :: 0 :: r := rfl
      simp only [hk, ho', hrep, true_and, ↓reduceIte, Int.reduceEq, Nat.zero_lt_two, List.take_succ_cons, List.take_zero, List.any_cons, List.any_nil, Bool.or_false, bne_iff_ne, ne_eq, List.getD_cons_zero, List.getD_cons_succ, List.drop_succ_cons, List.drop_zero, List.set_cons_zero, List.set_cons_succ, Bool.or_eq_true]
      intro h
      simp only [not_or, Decidable.not_not] at h
      rw [h.1, h.2]
    | [_], hnr => simp at hnr; omega
    | [], hnr => simp at hnr; omega
end Go.Cs
namespace Go.Cs.Try
open Go Go.Cs
set_option maxRecDepth 100000
set_option maxHeartbeats 8000000
section
variable {o : Tags} {g : Nat} {b : Nat} {M : Mdl} {L : Lay} {H : CHeap}

theorem l64_1 {ks : List Bool} {ob N : Nat} (hN : N = ks.length) (hn : ks.length ≤ 1000000) (hk0 : ks.getD 0 false = false) (hkp : 0 < ks.length) (hob : H[ob]? = some ⟨bools ks, .rw, 1⟩)
    {E0 : Env} (h3 : E0 3 = .nilSlice) (h4 : E0 4 = .slice ob 0 N N 1 false) (h5 : E0 5 = .i 1)
    {r : Option (CX × Env × CHeap)} (hr : den P (.loop C64_1) E0 H = r) :
    ∃ E' H', r = some (.exit 0, E', H') ∧ Gr H H' ∧ IL H.length H' (E' 3) (idxs ks ks.length) := by
  obtain ⟨x', E', H', e, -, ⟨rfl, g1, g2⟩, fr⟩ := loop_at (p := P) (c := C64_1) (E0 := E0) (H0 := H) (fun k E H' => ∃ j : Nat, E 5 = .i ((j + 1 : Nat) : Int) ∧ j + 1 ≤ ks.length ∧ k = ks.length - j ∧ Gr H H' ∧ IL H.length H' (E 3) (idxs ks (j + 1)))
    (fun x' E' H' => x' = .exit 0 ∧ Gr H H' ∧ IL H.length H' (E' 3) (idxs ks ks.length)) (by
      rintro k E H' hE ⟨j, e5, hj, rfl, gr, hv⟩
      have e4 := (hE 4 (by decide +kernel)).trans h4
      have hb := gr.get hob
      by_cases c : j + 1 < ks.length
      · have hg : (bools ks)[j + 1]? = some (.bool (ks.getD (j + 1) false)) := by rw [bools_get, getD_of false c]; rfl
        have hw := wrapS (j + 1) (by omega)
        have hil := idxs_len (ks := ks) (i := j + 1)
        cases hk : ks.getD (j + 1) false with
        | false =>
          rw [hk] at hg
          apply step_go (k' := ks.length - (j + 1))
          · simp (disch := first | omega | rfl | assumption | (simp only [csN, Nat.reduceAdd, Nat.reduceMul, Nat.reduceLeDiff, Nat.reduceEqDiff] <;> omega) | (simp only [csF]; done) | (simp only [csF] <;> assumption) | fail) only [Nat.reduceEqDiff, Nat.reduceAdd, Nat.reduceMul, Nat.reduceSub, Nat.reduceLeDiff, Int.reduceAdd, Int.reduceSub, Int.reduceMul, Int.reduceLT, Int.reduceLE, Int.reduceGT, Int.reduceGE, Int.reduceEq, Int.reduceBEq, Int.reduceBNe, Int.reduceNeg, Int.reduceToNat, csAll, ↓reduceIte, C64_1, e4, e5, hb, hg, hw]
            rfl
          · omega
          · refine ⟨j + 1, by simp [upd_apply], by omega, rfl, gr, ?_⟩
            rw [idxs_succ, hk]
            simpa [upd_apply] using hv
        | true =>
          rw [hk] at hg
          obtain ⟨v', H2, a1, a2, a3, a4⟩ := hv.push gr.len (by omega) ((j + 1 : Nat) : Int)
          generalize he3 : E 3 = v3 at *
          apply step_go (k' := ks.length - (j + 1))
          · simp (disch := first | omega | rfl | assumption | (simp only [csN, Nat.reduceAdd, Nat.reduceMul, Nat.reduceLeDiff, Nat.reduceEqDiff] <;> omega) | (simp only [csF]; done) | (simp only [csF] <;> assumption) | fail) only [Nat.reduceEqDiff, Nat.reduceAdd, Nat.reduceMul, Nat.reduceSub, Nat.reduceLeDiff, Int.reduceAdd, Int.reduceSub, Int.reduceMul, Int.reduceLT, Int.reduceLE, Int.reduceGT, Int.reduceGE, Int.reduceEq, Int.reduceBEq, Int.reduceBNe, Int.reduceNeg, Int.reduceToNat, csAll, ↓reduceIte, C64_1, e4, e5, hb, hg, hw, he3, a1]
            rfl
          · omega
          · refine ⟨j + 1, by simp [upd_apply], by omega, rfl, gr.low' a3 a4, ?_⟩
            rw [idxs_succ, hk]
            simpa [upd_apply] using a2
      · apply step_out (x := .exit 0)
        · simp (disch := first | omega | rfl | assumption | (simp only [csN, Nat.reduceAdd, Nat.reduceMul, Nat.reduceLeDiff, Nat.reduceEqDiff] <;> omega) | (simp only [csF]; done) | (simp only [csF] <;> assumption) | fail) only [Nat.reduceEqDiff, Nat.reduceAdd, Nat.reduceMul, Nat.reduceSub, Nat.reduceLeDiff, Int.reduceAdd, Int.reduceSub, Int.reduceMul, Int.reduceLT, Int.reduceLE, Int.reduceGT, Int.reduceGE, Int.reduceEq, Int.reduceBEq, Int.reduceBNe, Int.reduceNeg, Int.reduceToNat, csAll, ↓reduceIte, C64_1, e4, e5]
          rfl
        · simp
        · have : j + 1 = ks.length := by omega
          rw [this] at hv
          exact ⟨rfl, gr, by simpa [upd_apply] using hv⟩) ks.length ⟨0, h5, by omega, rfl, .refl H, by rw [h3, idxs_succ, hk0]; exact IL.nil⟩
  exact ⟨E', H', hr.symm.trans e, g1, g2⟩
/-- Kept. -/
theorem f64 (m : MRep o g H b M L) (w : M.Ok) : ∃ v H', run P 64 [.ptr b 0] H = some (v, H') ∧ Gr H H' ∧ IL H.length H' v M.keptI := by
  have h54 := f54 m w
  obtain ⟨ob, H1, d77, g1, hob, kob⟩ := f77 m w
  have hkl := keptL_len M
  have hfew := w.few
  have hk0 : M.keptL.getD 0 false = false := by
    cases h : M.keptL.getD 0 false with
    | false => rfl
    | true => exact absurd ((on_keptL (M := M) (v := 0) (by omega) (by omega)).1 h) (kept_no0 w)
  rw [run_lv c64]
  simp (disch := first | omega | rfl | assumption | (simp only [csN, Nat.reduceAdd, Nat.reduceMul, Nat.reduceLeDiff, Nat.reduceEqDiff] <;> omega) | (simp only [csF]; done) | (simp only [csF] <;> assumption) | fail) only [Nat.reduceEqDiff, Nat.reduceAdd, Nat.reduceMul, Nat.reduceSub, Nat.reduceLeDiff, Int.reduceAdd, Int.reduceSub, Int.reduceMul, Int.reduceLT, Int.reduceLE, Int.reduceGT, Int.reduceGE, Int.reduceEq, Int.reduceBEq, Int.reduceBNe, Int.reduceNeg, Int.reduceToNat, csAll, ↓reduceIte, C64, entry_1, h54, d77]
  generalize hr : den P (.loop C64_1) _ _ = r
  obtain ⟨E2, H2, rfl, g2, i2⟩ := l64_1 (ks := M.keptL) (N := M.objs.length + 1) (by omega) (by omega) hk0 (by omega) kob (by simp only [upd_apply, Nat.reduceEqDiff, ↓reduceIte]) (by simp only [upd_apply, Nat.reduceEqDiff, ↓reduceIte]) (by simp only [upd_apply, Nat.reduceEqDiff, ↓reduceIte]) hr
  rw [hkl] at i2
  simp (disch := first | omega | rfl | assumption | (simp only [csN, Nat.reduceAdd, Nat.reduceMul, Nat.reduceLeDiff, Nat.reduceEqDiff] <;> omega) | (simp only [csF]; done) | (simp only [csF] <;> assumption) | fail) only [Nat.reduceEqDiff, Nat.reduceAdd, Nat.reduceMul, Nat.reduceSub, Nat.reduceLeDiff, Int.reduceAdd, Int.reduceSub, Int.reduceMul, Int.reduceLT, Int.reduceLE, Int.reduceGT, Int.reduceGE, Int.reduceEq, Int.reduceBEq, Int.reduceBNe, Int.reduceNeg, Int.reduceToNat, csAll, ↓reduceIte]
  exact ⟨_, _, rfl, g1.trans g2, i2.locMono g1.len⟩

theorem l57_1 (w : M.Ok) {ks : List Bool} {ob N : Nat} {H0 : CHeap} (hks : ks.length = M.objs.length + 1) (hN : N = M.objs.length + 1) (fo : o ob = none) (hH : ∀ c t, o c = some t → c < H0.length)
    {E0 : Env} (h0 : E0 0 = .ptr b 0) (h3 : E0 3 = .slice ob 0 N N 1 false) (h4 : E0 4 = .i 0) (h5 : E0 5 = .i 1) (m0 : MRep o g H b M L) (fr0 : Frm g o H0 o H) (k0 : H[ob]? = some ⟨bools ks, .rw, 1⟩)
    {r : Option (CX × Env × CHeap)} (hr : den P (.loop C57_1) E0 H = r) :
    ∃ E' H', r = some (.exit 0, E', H') ∧ E' 4 = .i (M.coll ks M.objs.length).2 ∧ MRep o g H' b (M.coll ks M.objs.length).1 L ∧ Frm g o H0 o H' := by
  have hfew := w.few
  obtain ⟨x', E', H', e, -, ⟨rfl, g1, g2, g3⟩, fr⟩ := loop_at (p := P) (c := C57_1) (E0 := E0) (H0 := H) (fun k E H => ∃ i : Nat, E 5 = .i ((i + 1 : Nat) : Int) ∧ i ≤ M.objs.length ∧ k = M.objs.length - i ∧ E 4 = .i (M.coll ks i).2 ∧ 0 ≤ (M.coll ks i).2 ∧ (M.coll ks i).2 ≤ i ∧ MRep o g H b (M.coll ks i).1 L ∧ Frm g o H0 o H ∧ H[ob]? = some ⟨bools ks, .rw, 1⟩)
    (fun x' E' H' => x' = .exit 0 ∧ E' 4 = .i (M.coll ks M.objs.length).2 ∧ MRep o g H' b (M.coll ks M.objs.length).1 L ∧ Frm g o H0 o H') (by
      rintro k E H hE ⟨i, e5, hi, rfl, e4, hc0, hc1, m, fr, hob⟩
      have e0 := (hE 0 (by decide +kernel)).trans h0
      have e3 := (hE 3 (by decide +kernel)).trans h3
      obtain ⟨wi, hli⟩ := Mdl.coll_ok w (ks := ks) hi
      by_cases c : i < M.objs.length
      · have hhas : (M.coll ks i).1.has ((i + 1 : Nat) : Int) := by unfold Mdl.has; omega
        obtain ⟨hh, rest, o1, o2, o3, o4, o5, o6, o7⟩ := m.objAt _ hhas
        have hio : (((i + 1 : Nat) : Int) - 1).toNat = i := by omega
        have hi1 : IntKind.i64.wrap (((i + 1 : Nat) : Int) - 1) = (i : Int) := by rw [wrap_id (by omega)]; omega
        obtain ⟨tl, p1, -, -, -⟩ := m.objs.pos (by omega)
        have cX := m.cells
        rw [p1, hli] at cX
        have hobj := wi.obj hhas
        have hw := wrapS (i + 1) (by omega)
        have hon : (bools ks)[i + 1]? = some (.bool (ks.getD (i + 1) false)) := by rw [bools_get, getD_of false (by omega)]; rfl
        have hcoll : M.coll ks (i + 1) = match cObj ks i ((M.coll ks i).1.obj ((i + 1 : Nat) : Int)) with
          | some x => ((M.coll ks i).1.setObj (i + 1 : Nat) x, (M.coll ks i).2 + 1)
          | none => M.coll ks i := rfl
        have lf1 := o6.leaf
        have lf2 := o7.leaf
        have hbo := lt_of_get hob
        have rr0 := ref_rng wi hhas 0
        rw [hli] at rr0
        have o1' := o1
        have putR : ∀ l' : List Int, l'.length = ((M.coll ks i).1.obj ((i + 1 : Nat) : Int)).refs.length → 0 < ((M.coll ks i).1.obj ((i + 1 : Nat) : Int)).refs.length → _ := fun l' h1 h2 => (m.app [(⟨[.i ((M.coll ks i).1.obj ((i + 1 : Nat) : Int)).nr, .i ((M.coll ks i).1.obj ((i + 1 : Nat) : Int)).nd, .i ((M.coll ks i).1.obj ((i + 1 : Nat) : Int)).kd, hh.1, hh.2], .rw, 0⟩ : Blk)]).putRefs hhas o1 (o6.gr (.app _ _)) (o7.gr (.app _ _)) (l' := l') h1 h2
        rw [hio] at o3 o4
        generalize hx : (M.coll ks i).1.obj ((i + 1 : Nat) : Int) = xx at *
        have hnr := hobj.nr
        have hkd := hobj.kd
        generalize hcn : (M.coll ks i).2 = cn at *
        have hall : ([.i xx.nr, .i xx.nd, .i xx.kd, hh.1, hh.2] : List CV).all leaf = true := by simp only [List.all_cons, List.all_nil, lf1, lf2, leaf_int, Bool.and_true]
        have gN : Gr H (H ++ [(⟨[.i xx.nr, .i xx.nd, .i xx.kd, hh.1, hh.2], .rw, 0⟩ : Blk)]) := .app _ _
        have kN : (H ++ [(⟨[.i xx.nr, .i xx.nd, .i xx.kd, hh.1, hh.2], .rw, 0⟩ : Blk)])[H.length]? = some ⟨[.i xx.nr, .i xx.nd, .i xx.kd, hh.1, hh.2], .rw, 0⟩ := look_last rfl
        have lN : (H ++ [(⟨[.i xx.nr, .i xx.nd, .i xx.kd, hh.1, hh.2], .rw, 0⟩ : Blk)]).length = H.length + 1 := by simp
        have mN := m.gr gN
        have obN := gN.get hob
        have frN : Frm g o H0 o (H ++ [(⟨[.i xx.nr, .i xx.nd, .i xx.kd, hh.1, hh.2], .rw, 0⟩ : Blk)]) := fr.trans (gN.frm m.dom)
        have r6 : 0 < xx.refs.length → ∃ tr, hh.1 = .slice (blkOf hh.1) 0 xx.refs.length xx.refs.length 1 tr ∧ o (blkOf hh.1) = some (g, 6, i) ∧ H[blkOf hh.1]? = some ⟨Go.Cs.ints xx.refs, .rw, 1⟩ := fun h => by
          obtain ⟨tr, q1, q2, q3, -⟩ := o6.pos h
          exact ⟨tr, q1, by rw [← hio]; exact q2, q3⟩
        generalize hHN : H ++ [(⟨[.i xx.nr, .i xx.nd, .i xx.kd, hh.1, hh.2], .rw, 0⟩ : Blk)] = HN at *
        suffices hst : (∃ E2 H2, den P C57_1 E H = some (.normal, E2, H2) ∧ E2 5 = .i ((i + 1 + 1 : Nat) : Int) ∧ E2 4 = .i (M.coll ks (i + 1)).2 ∧ MRep o g H2 b (M.coll ks (i + 1)).1 L ∧ Frm g o H0 o H2 ∧ H2[ob]? = some ⟨bools ks, .rw, 1⟩) ∧ (0 ≤ (M.coll ks (i + 1)).2 ∧ (M.coll ks (i + 1)).2 ≤ ((i + 1 : Nat) : Int)) by
          obtain ⟨⟨E2, H2, k1, k2, k3, k4, k5, k6⟩, hb⟩ := hst
          apply step_go (k' := M.objs.length - (i + 1)) k1
          · omega
          · exact ⟨i + 1, k2, by omega, rfl, k3, hb.1, hb.2, k4, k5, k6⟩
        have none : cObj ks i xx = none → M.coll ks (i + 1) = ((M.coll ks i).1, cn) := fun h => by rw [hcoll, h, ← hcn]
        have sN : MRep o g HN b (M.coll ks i).1 L := mN
        by_cases hk : ks.getD (i + 1) false = true
        case neg =>
          have hk' : ks.getD (i + 1) false = false := by simpa using hk
          rw [hk'] at hon
          have hno := none (by unfold cObj; rw [if_neg (fun h => hk h.1)])
          refine ⟨?_, by rw [hno]; exact ⟨hc0, by simp; omega⟩⟩
          rw [hno]
          simp (disch := first | omega | rfl | assumption | (simp only [csN, Nat.reduceAdd, Nat.reduceMul, Nat.reduceLeDiff, Nat.reduceEqDiff] <;> omega) | (simp only [csF]; done) | (simp only [csF] <;> assumption) | fail) only [Nat.reduceEqDiff, Nat.reduceAdd, Nat.reduceMul, Nat.reduceSub, Nat.reduceLeDiff, Int.reduceAdd, Int.reduceSub, Int.reduceMul, Int.reduceLT, Int.reduceLE, Int.reduceGT, Int.reduceGE, Int.reduceEq, Int.reduceBEq, Int.reduceBNe, Int.reduceNeg, Int.reduceToNat, csAll, ↓reduceIte, C57_1, e0, e3, e4, e5, cX, hi1, o2, o3, hHN, kN, obN, hon, hw]
          exact ⟨_, _, rfl, by simp [upd_apply], by simp [upd_apply, e4], sN, frN, obN⟩
        rw [hk] at hon
        by_cases hs : xx.kd = 1 ∨ xx.kd = 2
        case neg =>
          have hno := none (by unfold cObj; rw [if_neg (fun h => by have := h.2.1; unfold soft at this; split at this; omega; split at this; omega; omega)])
          refine ⟨?_, by rw [hno]; exact ⟨hc0, by simp; omega⟩⟩
          rw [hno]
          simp (disch := first | omega | rfl | assumption | (simp only [csN, Nat.reduceAdd, Nat.reduceMul, Nat.reduceLeDiff, Nat.reduceEqDiff] <;> omega) | (simp only [csF]; done) | (simp only [csF] <;> assumption) | fail) only [Nat.reduceEqDiff, Nat.reduceAdd, Nat.reduceMul, Nat.reduceSub, Nat.reduceLeDiff, Int.reduceAdd, Int.reduceSub, Int.reduceMul, Int.reduceLT, Int.reduceLE, Int.reduceGT, Int.reduceGE, Int.reduceEq, Int.reduceBEq, Int.reduceBNe, Int.reduceNeg, Int.reduceToNat, csAll, ↓reduceIte, C57_1, e0, e3, e4, e5, cX, hi1, o2, o3, hHN, kN, obN, hon, hw]
          exact ⟨_, _, rfl, by simp [upd_apply], by simp [upd_apply, e4], sN, frN, obN⟩
        have hp : 0 < xx.refs.length := by omega
        obtain ⟨tr, q1, q2, q3⟩ := r6 hp
        have q3N := gN.get q3
        have hrl : blkOf hh.1 < H.length := lt_of_get q3
        have hg0 : (Go.Cs.ints xx.refs)[0]? = some (.i (xx.refs.getD 0 0)) := by rw [ints_get, getD_of 0 hp]; rfl
        have hm0 := on_get (ks := ks) (v := xx.refs.getD 0 0) (by omega)
        rw [q1] at kN
        cases ho : on ks (xx.refs.getD 0 0) with
        | true =>
          rw [ho] at hm0
          have hno := none (by unfold cObj; rw [if_neg (fun h => by have := h.2.2.1; rw [ho] at this; cases this)])
          refine ⟨?_, by rw [hno]; exact ⟨hc0, by simp; omega⟩⟩
          rw [hno]
          rcases hs with hs | hs
          · simp (disch := first | omega | rfl | assumption | (simp only [csN, Nat.reduceAdd, Nat.reduceMul, Nat.reduceLeDiff, Nat.reduceEqDiff] <;> omega) | (simp only [csF]; done) | (simp only [csF] <;> assumption) | fail) only [Nat.reduceEqDiff, Nat.reduceAdd, Nat.reduceMul, Nat.reduceSub, Nat.reduceLeDiff, Int.reduceAdd, Int.reduceSub, Int.reduceMul, Int.reduceLT, Int.reduceLE, Int.reduceGT, Int.reduceGE, Int.reduceEq, Int.reduceBEq, Int.reduceBNe, Int.reduceNeg, Int.reduceToNat, csAll, ↓reduceIte, C57_1, e0, e3, e4, e5, cX, hi1, o2, o3, hHN, kN, obN, hon, q3N, hg0, hm0, hw]
            exact ⟨_, _, rfl, by simp [upd_apply], by simp [upd_apply, e4], sN, frN, obN⟩
          · simp (disch := first | omega | rfl | assumption | (simp only [csN, Nat.reduceAdd, Nat.reduceMul, Nat.reduceLeDiff, Nat.reduceEqDiff] <;> omega) | (simp only [csF]; done) | (simp only [csF] <;> assumption) | fail) only [Nat.reduceEqDiff, Nat.reduceAdd, Nat.reduceMul, Nat.reduceSub, Nat.reduceLeDiff, Int.reduceAdd, Int.reduceSub, Int.reduceMul, Int.reduceLT, Int.reduceLE, Int.reduceGT, Int.reduceGE, Int.reduceEq, Int.reduceBEq, Int.reduceBNe, Int.reduceNeg, Int.reduceToNat, csAll, ↓reduceIte, C57_1, e0, e3, e4, e5, cX, hi1, o2, o3, hHN, kN, obN, hon, q3N, hg0, hm0, hw]
            exact ⟨_, _, rfl, by simp [upd_apply], by simp [upd_apply, e4], sN, frN, obN⟩
        | false =>
          rw [ho] at hm0
          obtain ⟨z1, z2⟩ := cObj_clr hobj hk hs ho
          have hil := ints_len xx.refs
          have hclr : (clr xx.kd xx.refs).length = xx.refs.length := by unfold clr; split <;> simp
          obtain ⟨mm, ff⟩ := putR (clr xx.kd xx.refs) hclr hp
          have obC : (HN.set (blkOf hh.1) ⟨Go.Cs.ints (clr xx.kd xx.refs), .rw, 1⟩)[ob]? = some ⟨bools ks, .rw, 1⟩ := by
            rw [List.getElem?_set_ne (by rintro h; rw [h, fo] at q2; cases q2)]; exact obN
          have hwc : IntKind.i64.wrap (cn + 1) = cn + 1 := wrap_id (by omega)
          have frC := frN.trans ff
          by_cases hch : xx.refs.getD 0 0 ≠ 0 ∨ (xx.kd = 2 ∧ xx.refs.getD 1 0 ≠ 0)
          · rw [if_pos hch] at z1
            have hyes : M.coll ks (i + 1) = ((M.coll ks i).1.setObj ((i + 1 : Nat) : Int) { xx with refs := clr xx.kd xx.refs }, cn + 1) := by rw [hcoll, z1, ← hcn]
            refine ⟨?_, by rw [hyes]; exact ⟨by simp; omega, by simp; omega⟩⟩
            rw [hyes]
            rcases hs with hs | hs
            · have hr0 : xx.refs.getD 0 0 ≠ 0 := hch.resolve_right (fun h => by omega)
              have hcl : Go.Cs.ints (clr xx.kd xx.refs) = (Go.Cs.ints xx.refs).set 0 (.i 0) := by unfold clr; rw [if_neg (by omega), ints_set]
              rw [hcl] at mm frC obC
              simp (disch := first | omega | rfl | assumption | (simp only [csN, Nat.reduceAdd, Nat.reduceMul, Nat.reduceLeDiff, Nat.reduceEqDiff] <;> omega) | (simp only [csF]; done) | (simp only [csF] <;> assumption) | fail) only [Nat.reduceEqDiff, Nat.reduceAdd, Nat.reduceMul, Nat.reduceSub, Nat.reduceLeDiff, Int.reduceAdd, Int.reduceSub, Int.reduceMul, Int.reduceLT, Int.reduceLE, Int.reduceGT, Int.reduceGE, Int.reduceEq, Int.reduceBEq, Int.reduceBNe, Int.reduceNeg, Int.reduceToNat, csAll, ↓reduceIte, C57_1, e0, e3, e4, e5, cX, hi1, o2, o3, hHN, kN, obN, hon, q3N, hg0, hm0, hw, hwc]
              exact ⟨_, _, rfl, by simp [upd_apply], by simp [upd_apply], mm, frC, obC⟩
            · have h2 := hkd.2.2.2 hs
              have hcl : Go.Cs.ints (clr xx.kd xx.refs) = ((Go.Cs.ints xx.refs).set 0 (.i 0)).set 1 (.i 0) := by unfold clr; rw [if_pos hs, ints_set, ints_set]
              rw [hcl] at mm frC obC
              have hg1 : ((Go.Cs.ints xx.refs).set 0 (.i 0))[1]? = some (.i (xx.refs.getD 1 0)) := by rw [List.getElem?_set_ne (by omega), ints_get, getD_of 0 (by omega)]; rfl
              by_cases hr0 : xx.refs.getD 0 0 = 0
              · have hr1 : xx.refs.getD 1 0 ≠ 0 := (hch.resolve_left (fun h => h hr0)).2
                simp (disch := first | omega | rfl | assumption | (simp only [csN, Nat.reduceAdd, Nat.reduceMul, Nat.reduceLeDiff, Nat.reduceEqDiff] <;> omega) | (simp only [csF]; done) | (simp only [csF] <;> assumption) | fail) only [Nat.reduceEqDiff, Nat.reduceAdd, Nat.reduceMul, Nat.reduceSub, Nat.reduceLeDiff, Int.reduceAdd, Int.reduceSub, Int.reduceMul, Int.reduceLT, Int.reduceLE, Int.reduceGT, Int.reduceGE, Int.reduceEq, Int.reduceBEq, Int.reduceBNe, Int.reduceNeg, Int.reduceToNat, csAll, ↓reduceIte, C57_1, e0, e3, e4, e5, cX, hi1, o2, o3, hHN, kN, obN, hon, q3N, hg0, hg1, hm0, hw, hwc, List.set_set]
                exact ⟨_, _, rfl, by simp [upd_apply], by simp [upd_apply], mm, frC, obC⟩
              · simp (disch := first | omega | rfl | assumption | (simp only [csN, Nat.reduceAdd, Nat.reduceMul, Nat.reduceLeDiff, Nat.reduceEqDiff] <;> omega) | (simp only [csF]; done) | (simp only [csF] <;> assumption) | fail) only [Nat.reduceEqDiff, Nat.reduceAdd, Nat.reduceMul, Nat.reduceSub, Nat.reduceLeDiff, Int.reduceAdd, Int.reduceSub, Int.reduceMul, Int.reduceLT, Int.reduceLE, Int.reduceGT, Int.reduceGE, Int.reduceEq, Int.reduceBEq, Int.reduceBNe, Int.reduceNeg, Int.reduceToNat, csAll, ↓reduceIte, C57_1, e0, e3, e4, e5, cX, hi1, o2, o3, hHN, kN, obN, hon, q3N, hg0, hg1, hm0, hw, hwc, List.set_set]
                exact ⟨_, _, rfl, by simp [upd_apply], by simp [upd_apply], mm, frC, obC⟩
          · rw [if_neg hch] at z1
            have hno := none z1
            have hsame := z2 hch
            have hmm : MRep o g (HN.set (blkOf hh.1) ⟨Go.Cs.ints (clr xx.kd xx.refs), .rw, 1⟩) b (M.coll ks i).1 L := by
              have : (M.coll ks i).1.setObj ((i + 1 : Nat) : Int) { xx with refs := clr xx.kd xx.refs } = (M.coll ks i).1 := by
                rw [hsame]
                have := setObj_same hhas
                rw [hx] at this
                exact this
              rw [← this]; exact mm
            refine ⟨?_, by rw [hno]; exact ⟨hc0, by simp; omega⟩⟩
            rw [hno]
            have hr0 : xx.refs.getD 0 0 = 0 := Decidable.not_not.1 (fun h => hch (.inl h))
            rcases hs with hs | hs
            · have hcl : Go.Cs.ints (clr xx.kd xx.refs) = (Go.Cs.ints xx.refs).set 0 (.i 0) := by unfold clr; rw [if_neg (by omega), ints_set]
              rw [hcl] at hmm frC obC
              simp (disch := first | omega | rfl | assumption | (simp only [csN, Nat.reduceAdd, Nat.reduceMul, Nat.reduceLeDiff, Nat.reduceEqDiff] <;> omega) | (simp only [csF]; done) | (simp only [csF] <;> assumption) | fail) only [Nat.reduceEqDiff, Nat.reduceAdd, Nat.reduceMul, Nat.reduceSub, Nat.reduceLeDiff, Int.reduceAdd, Int.reduceSub, Int.reduceMul, Int.reduceLT, Int.reduceLE, Int.reduceGT, Int.reduceGE, Int.reduceEq, Int.reduceBEq, Int.reduceBNe, Int.reduceNeg, Int.reduceToNat, csAll, ↓reduceIte, C57_1, e0, e3, e4, e5, cX, hi1, o2, o3, hHN, kN, obN, hon, q3N, hg0, hm0, hw]
              exact ⟨_, _, rfl, by simp [upd_apply], by simp [upd_apply, e4], hmm, frC, obC⟩
            · have h2 := hkd.2.2.2 hs
              have hr1 : xx.refs.getD 1 0 = 0 := Decidable.not_not.1 (fun h => hch (.inr ⟨hs, h⟩))
              have hcl : Go.Cs.ints (clr xx.kd xx.refs) = ((Go.Cs.ints xx.refs).set 0 (.i 0)).set 1 (.i 0) := by unfold clr; rw [if_pos hs, ints_set, ints_set]
              rw [hcl] at hmm frC obC
              have hg1 : ((Go.Cs.ints xx.refs).set 0 (.i 0))[1]? = some (.i (xx.refs.getD 1 0)) := by rw [List.getElem?_set_ne (by omega), ints_get, getD_of 0 (by omega)]; rfl
              simp (disch := first | omega | rfl | assumption | (simp only [csN, Nat.reduceAdd, Nat.reduceMul, Nat.reduceLeDiff, Nat.reduceEqDiff] <;> omega) | (simp only [csF]; done) | (simp only [csF] <;> assumption) | fail) only [Nat.reduceEqDiff, Nat.reduceAdd, Nat.reduceMul, Nat.reduceSub, Nat.reduceLeDiff, Int.reduceAdd, Int.reduceSub, Int.reduceMul, Int.reduceLT, Int.reduceLE, Int.reduceGT, Int.reduceGE, Int.reduceEq, Int.reduceBEq, Int.reduceBNe, Int.reduceNeg, Int.reduceToNat, csAll, ↓reduceIte, C57_1, e0, e3, e4, e5, cX, hi1, o2, o3, hHN, kN, obN, hon, q3N, hg0, hg1, hm0, hw, List.set_set]
              exact ⟨_, _, rfl, by simp [upd_apply], by simp [upd_apply, e4], hmm, frC, obC⟩
      · apply step_out (x := .exit 0)
        · simp (disch := first | omega | rfl | assumption | (simp only [csN, Nat.reduceAdd, Nat.reduceMul, Nat.reduceLeDiff, Nat.reduceEqDiff] <;> omega) | (simp only [csF]; done) | (simp only [csF] <;> assumption) | fail) only [Nat.reduceEqDiff, Nat.reduceAdd, Nat.reduceMul, Nat.reduceSub, Nat.reduceLeDiff, Int.reduceAdd, Int.reduceSub, Int.reduceMul, Int.reduceLT, Int.reduceLE, Int.reduceGT, Int.reduceGE, Int.reduceEq, Int.reduceBEq, Int.reduceBNe, Int.reduceNeg, Int.reduceToNat, csAll, ↓reduceIte, C57_1, e3, e5]
          rfl
        · simp
        · have : i = M.objs.length := by omega
          subst this
          exact ⟨rfl, by simp [upd_apply, e4], m, fr⟩) M.objs.length ⟨0, h5, by omega, rfl, h4, by simp [Mdl.coll], by simp [Mdl.coll], m0, fr0, k0⟩
  exact ⟨E', H', hr.symm.trans e, g1, g2, g3⟩
/-- Collect. -/
theorem f57 (m : MRep o g H b M L) (w : M.Ok) : Does o g H b M.collect.1 (.i M.collect.2) (run P 57 [.ptr b 0] H) := by
  have h54 := f54 m w
  obtain ⟨ob, H1, d77, g1, hob, kob⟩ := f77 m w
  have m1 := m.gr g1
  have fo : o ob = none := by
    cases h : o ob with
    | none => rfl
    | some t => have := m.dom _ _ h; omega
  have key : ∃ H', run P 57 [.ptr b 0] H = some (.i M.collect.2, H') ∧ MRep o g H' b M.collect.1 L ∧ Frm g o H o H' := by
    rw [run_lv c57]
    simp (disch := first | omega | rfl | assumption | (simp only [csN, Nat.reduceAdd, Nat.reduceMul, Nat.reduceLeDiff, Nat.reduceEqDiff] <;> omega) | (simp only [csF]; done) | (simp only [csF] <;> assumption) | fail) only [Nat.reduceEqDiff, Nat.reduceAdd, Nat.reduceMul, Nat.reduceSub, Nat.reduceLeDiff, Int.reduceAdd, Int.reduceSub, Int.reduceMul, Int.reduceLT, Int.reduceLE, Int.reduceGT, Int.reduceGE, Int.reduceEq, Int.reduceBEq, Int.reduceBNe, Int.reduceNeg, Int.reduceToNat, csAll, ↓reduceIte, C57, entry_1, h54, d77]
    generalize hr : den P (.loop C57_1) _ _ = r
    obtain ⟨E2, H2, rfl, k1, k2, k3⟩ := l57_1 (H0 := H) w (ks := M.keptL) (N := M.objs.length + 1) (keptL_len M) rfl fo m.dom (by simp only [upd_apply, Nat.reduceEqDiff, ↓reduceIte]) (by simp only [upd_apply, Nat.reduceEqDiff, ↓reduceIte]) (by simp only [upd_apply, Nat.reduceEqDiff, ↓reduceIte]) (by simp only [upd_apply, Nat.reduceEqDiff, ↓reduceIte]) m1 (g1.frm m.dom) kob hr
    simp (disch := first | omega | rfl | assumption | (simp only [csN, Nat.reduceAdd, Nat.reduceMul, Nat.reduceLeDiff, Nat.reduceEqDiff] <;> omega) | (simp only [csF]; done) | (simp only [csF] <;> assumption) | fail) only [Nat.reduceEqDiff, Nat.reduceAdd, Nat.reduceMul, Nat.reduceSub, Nat.reduceLeDiff, Int.reduceAdd, Int.reduceSub, Int.reduceMul, Int.reduceLT, Int.reduceLE, Int.reduceGT, Int.reduceGE, Int.reduceEq, Int.reduceBEq, Int.reduceBNe, Int.reduceNeg, Int.reduceToNat, csAll, ↓reduceIte, k1]
    exact ⟨_, rfl, k2, k3⟩
  obtain ⟨H', k1, k2, k3⟩ := key
  exact ⟨H', o, L, k1, k2, k3⟩
end
end Go.Cs.Try

/- The reference's New and Clone. -/
namespace Go.Cs.Try
open Go Go.Cs
set_option maxRecDepth 100000
set_option maxHeartbeats 8000000
section

theorem l32_1 {o0 : Tags} {g : Nat} {H0 : CHeap} {b n : Nat} (hn : n ≤ 4) (hb : H0.length ≤ b) :
    LoopOk P C32_1 (fun k E H => E 4 = .ptr b 0 ∧ E 0 = .i n ∧ ∃ i : Nat, E 5 = .i i ∧ i ≤ n ∧ k = n - i ∧ ∃ o L, MRep o g H b (Mdl.new i) L ∧ Frm g o0 H0 o H)
      (fun x E' H' => x = .exit 0 ∧ E' 4 = .ptr b 0 ∧ ∃ o L, MRep o g H' b (Mdl.new n) L ∧ Frm g o0 H0 o H') := by
  refine loop_ind ?_
  rintro k E H ⟨h4, h0, i, h5, hi, rfl, o, L, m, fr⟩
  by_cases c : i < n
  · have hc := m.cells
    have hl := lt_of_get hc
    have hns : (Mdl.new i).slots.length = i := by simp [Mdl.new]
    have hz : (List.replicate 16 [CV.int .i64 0]).flatten = Go.Cs.ints zeros16 := rfl
    have ms := ((m.app [⟨Go.Cs.ints zeros16, .rw, 1⟩]).app [⟨[.slice H.length 0 16 16 1 false], .rw, 1⟩]).slots
    rw [hns] at ms
    obtain ⟨H', a1, a2, a3, a4⟩ := ms.append (k := 1) (new := [.slice H.length 0 16 16 1 false]) (by omega) (Nat.le_trans (by omega : i + 1 ≤ 5) (by decide)) rfl rfl
    have hlen : (H ++ [⟨Go.Cs.ints zeros16, .rw, 1⟩] ++ [⟨[.slice H.length 0 16 16 1 false], .rw, 1⟩] : CHeap).length = H.length + 2 := by simp
    rw [hlen] at a1 a2 a3 a4
    have hfree : ∀ c, H.length ≤ c → o c ≠ some (g, 1, 0) := fun c hc h => by have := m.dom c _ h; omega
    have k0 : H'[H.length]? = some ⟨Go.Cs.ints zeros16, .rw, 1⟩ := by rw [a4 _ (by omega) (hfree _ (by omega))]; simp (disch := first | omega | rfl | assumption | (simp only [csN, Nat.reduceAdd, Nat.reduceMul, Nat.reduceLeDiff, Nat.reduceEqDiff] <;> omega) | (simp only [csF]; done) | (simp only [csF] <;> assumption) | fail) only [Nat.reduceEqDiff, Nat.reduceAdd, Nat.reduceMul, Nat.reduceSub, Nat.reduceLeDiff, Int.reduceAdd, Int.reduceSub, Int.reduceMul, Int.reduceLT, Int.reduceLE, Int.reduceGT, Int.reduceGE, Int.reduceEq, Int.reduceBEq, Int.reduceBNe, Int.reduceNeg, Int.reduceToNat, csAll, ↓reduceIte]
    have kb : H'[b]? = some ⟨[L.sl, L.gl, L.qv, L.ov], .rw, 0⟩ := by rw [a4 _ (by omega) (by rw [m.top]; simp)]; simp (disch := first | omega | rfl | assumption | (simp only [csN, Nat.reduceAdd, Nat.reduceMul, Nat.reduceLeDiff, Nat.reduceEqDiff] <;> omega) | (simp only [csF]; done) | (simp only [csF] <;> assumption) | fail) only [Nat.reduceEqDiff, Nat.reduceAdd, Nat.reduceMul, Nat.reduceSub, Nat.reduceLeDiff, Int.reduceAdd, Int.reduceSub, Int.reduceMul, Int.reduceLT, Int.reduceLE, Int.reduceGT, Int.reduceGE, Int.reduceEq, Int.reduceBEq, Int.reduceBNe, Int.reduceNeg, Int.reduceToNat, csAll, ↓reduceIte, hc]
    obtain ⟨o', L', m', fr'⟩ := m.newSlot (Hf := H'.set b ⟨[.slice (H.length + 2) 0 (i + 1) (i + 1) 1 true, L.gl, L.qv, L.ov], .rw, 0⟩) (s := zeros16) (u := .slice H.length 0 16 16 1 false) (v := .slice (H.length + 2) 0 (i + 1) (i + 1) 1 true) (ub := H.length) (vb := H.length + 2) (tu := false) (tv := true)
      rfl (by rw [hns]) (by omega) (by omega) (by omega) rfl (by rw [List.getElem?_set_ne (by omega), k0]) (by rw [List.getElem?_set_ne (by omega), a3]) (by rw [List.length_set]; omega) (by rw [List.getElem?_set_self (by omega)])
      (fun d hd h h' => by rw [List.getElem?_set_ne (Ne.symm h'), a4 d (by omega) h]; simp (disch := first | omega | rfl | assumption | (simp only [csN, Nat.reduceAdd, Nat.reduceMul, Nat.reduceLeDiff, Nat.reduceEqDiff] <;> omega) | (simp only [csF]; done) | (simp only [csF] <;> assumption) | fail) only [Nat.reduceEqDiff, Nat.reduceAdd, Nat.reduceMul, Nat.reduceSub, Nat.reduceLeDiff, Int.reduceAdd, Int.reduceSub, Int.reduceMul, Int.reduceLT, Int.reduceLE, Int.reduceGT, Int.reduceGE, Int.reduceEq, Int.reduceBEq, Int.reduceBNe, Int.reduceNeg, Int.reduceToNat, csAll, ↓reduceIte])
    have hnew : ({ Mdl.new i with slots := (Mdl.new i).slots ++ [zeros16] } : Mdl) = Mdl.new (i + 1) := by simp [Mdl.new, List.replicate_succ']
    rw [hnew] at m'
    have hw : IntKind.i64.wrap ((i : Int) + 1) = ((i + 1 : Nat) : Int) := by rw [wrap_id (by omega)]; rfl
    apply step_go (k' := n - (i + 1))
    · simp (disch := first | omega | rfl | assumption | (simp only [csN, Nat.reduceAdd, Nat.reduceMul, Nat.reduceLeDiff, Nat.reduceEqDiff] <;> omega) | (simp only [csF]; done) | (simp only [csF] <;> assumption) | fail) only [Nat.reduceEqDiff, Nat.reduceAdd, Nat.reduceMul, Nat.reduceSub, Nat.reduceLeDiff, Int.reduceAdd, Int.reduceSub, Int.reduceMul, Int.reduceLT, Int.reduceLE, Int.reduceGT, Int.reduceGE, Int.reduceEq, Int.reduceBEq, Int.reduceBNe, Int.reduceNeg, Int.reduceToNat, csAll, ↓reduceIte, C32_1, h4, h0, h5, hc, hz, a1, kb, hw]
      rfl
    · omega
    · exact ⟨by simp [upd_apply, h4], by simp [upd_apply, h0], i + 1, by simp [upd_apply], by omega, rfl, o', L', m', fr.trans fr'⟩
  · apply step_out (x := .exit 0)
    · simp (disch := first | omega | rfl | assumption | (simp only [csN, Nat.reduceAdd, Nat.reduceMul, Nat.reduceLeDiff, Nat.reduceEqDiff] <;> omega) | (simp only [csF]; done) | (simp only [csF] <;> assumption) | fail) only [Nat.reduceEqDiff, Nat.reduceAdd, Nat.reduceMul, Nat.reduceSub, Nat.reduceLeDiff, Int.reduceAdd, Int.reduceSub, Int.reduceMul, Int.reduceLT, Int.reduceLE, Int.reduceGT, Int.reduceGE, Int.reduceEq, Int.reduceBEq, Int.reduceBNe, Int.reduceNeg, Int.reduceToNat, csAll, ↓reduceIte, C32_1, h0, h5]
      rfl
    · simp
    · have : i = n := by omega
      subst this
      exact ⟨rfl, by simp [upd_apply, h4], o, L, m, fr⟩

/-- New. -/
theorem f32 {o : Tags} {g : Nat} {H : CHeap} (hd : ∀ c t, o c = some t → c < H.length) (hg : ∀ c k, o c ≠ some (g, k)) {n : Nat} (hn : 1 ≤ n ∧ n ≤ 4) :
    ∃ b H' o' L, run P 32 [.i n] H = some (.tup [.ptr b 0, .i 0], H') ∧ MRep o' g H' b (Mdl.new n) L ∧ Frm g o H o' H' := by
  have hz : (List.replicate 16 [CV.int .i64 0]).flatten = Go.Cs.ints zeros16 := rfl
  have m0 : MRep ((o.put (H.length + 1) (g, 0, 0)).put H.length (g, 3, 0)) g (H ++ [⟨Go.Cs.ints zeros16, .rw, 1⟩] ++ [⟨[.nilSlice, .slice H.length 0 16 16 1 false, .nilSlice, .nilSlice], .rw, 0⟩]) (H.length + 1) (Mdl.new 0) ⟨.nilSlice, .slice H.length 0 16 16 1 false, .nilSlice, .nilSlice, [], []⟩ :=
    { dom := fun c t h => by
        simp only [List.length_append, List.length_cons, List.length_nil]
        by_cases e : c = H.length
        · omega
        · rw [Tags.put_ne e] at h
          by_cases e' : c = H.length + 1
          · omega
          · rw [Tags.put_ne e'] at h; have := hd c t h; omega
      top := by rw [Tags.put_ne (by omega), Tags.put_eq]
      cells := by simp (disch := first | omega | rfl | assumption | (simp only [csN, Nat.reduceAdd, Nat.reduceMul, Nat.reduceLeDiff, Nat.reduceEqDiff] <;> omega) | (simp only [csF]; done) | (simp only [csF] <;> assumption) | fail) only [Nat.reduceEqDiff, Nat.reduceAdd, Nat.reduceMul, Nat.reduceSub, Nat.reduceLeDiff, Int.reduceAdd, Int.reduceSub, Int.reduceMul, Int.reduceLT, Int.reduceLE, Int.reduceGT, Int.reduceGE, Int.reduceEq, Int.reduceBEq, Int.reduceBNe, Int.reduceNeg, Int.reduceToNat, csAll, ↓reduceIte]
      nsv := rfl
      slots := .inl ⟨rfl, rfl, .inl rfl⟩
      slot := fun i s h => by simp [Mdl.new] at h
      globals := .inr ⟨H.length, false, rfl, Tags.put_eq, by simp (disch := first | omega | rfl | assumption | (simp only [csN, Nat.reduceAdd, Nat.reduceMul, Nat.reduceLeDiff, Nat.reduceEqDiff] <;> omega) | (simp only [csF]; done) | (simp only [csF] <;> assumption) | fail) only [Nat.reduceEqDiff, Nat.reduceAdd, Nat.reduceMul, Nat.reduceSub, Nat.reduceLeDiff, Int.reduceAdd, Int.reduceSub, Int.reduceMul, Int.reduceLT, Int.reduceLE, Int.reduceGT, Int.reduceGE, Int.reduceEq, Int.reduceBEq, Int.reduceBNe, Int.reduceNeg, Int.reduceToNat, csAll, ↓reduceIte, Mdl.new], rfl⟩
      queue := .inl ⟨rfl, rfl, .inl rfl⟩
      nhv := rfl
      objs := .inl ⟨rfl, rfl, .inl rfl⟩
      refs := fun i s h => by simp [Mdl.new] at h }
  have f0 : Frm g o H ((o.put (H.length + 1) (g, 0, 0)).put H.length (g, 3, 0)) (H ++ [⟨Go.Cs.ints zeros16, .rw, 1⟩] ++ [⟨[.nilSlice, .slice H.length 0 16 16 1 false, .nilSlice, .nilSlice], .rw, 0⟩]) := by
    refine ⟨by simp, fun c hc => by rw [Tags.put_ne (by omega), Tags.put_ne (by omega)], fun c t h hc => ?_, fun c hc _ => by simp (disch := first | omega | rfl | assumption | (simp only [csN, Nat.reduceAdd, Nat.reduceMul, Nat.reduceLeDiff, Nat.reduceEqDiff] <;> omega) | (simp only [csF]; done) | (simp only [csF] <;> assumption) | fail) only [Nat.reduceEqDiff, Nat.reduceAdd, Nat.reduceMul, Nat.reduceSub, Nat.reduceLeDiff, Int.reduceAdd, Int.reduceSub, Int.reduceMul, Int.reduceLT, Int.reduceLE, Int.reduceGT, Int.reduceGE, Int.reduceEq, Int.reduceBEq, Int.reduceBNe, Int.reduceNeg, Int.reduceToNat, csAll, ↓reduceIte]⟩
    by_cases e : c = H.length
    · rw [e, Tags.put_eq] at h; simp only [Option.some.injEq] at h; rw [← h]
    · rw [Tags.put_ne e] at h
      by_cases e' : c = H.length + 1
      · rw [e', Tags.put_eq] at h; simp only [Option.some.injEq] at h; rw [← h]
      · rw [Tags.put_ne e'] at h; have := hd c t h; omega
  have key : ∃ H' o' L, run P 32 [.i n] H = some (.tup [.ptr (H.length + 1) 0, .i 0], H') ∧ MRep o' g H' (H.length + 1) (Mdl.new n) L ∧ Frm g o H o' H' := by
    rw [run_lv c32]
    simp (disch := first | omega | rfl | assumption | (simp only [csN, Nat.reduceAdd, Nat.reduceMul, Nat.reduceLeDiff, Nat.reduceEqDiff] <;> omega) | (simp only [csF]; done) | (simp only [csF] <;> assumption) | fail) only [Nat.reduceEqDiff, Nat.reduceAdd, Nat.reduceMul, Nat.reduceSub, Nat.reduceLeDiff, Int.reduceAdd, Int.reduceSub, Int.reduceMul, Int.reduceLT, Int.reduceLE, Int.reduceGT, Int.reduceGE, Int.reduceEq, Int.reduceBEq, Int.reduceBNe, Int.reduceNeg, Int.reduceToNat, csAll, ↓reduceIte, C32, entry_1, hz]
    generalize hr : den P (.loop C32_1) _ _ = r
    obtain ⟨x, E2, H2, rfl, -, rfl, q4, o', L', m', fr⟩ := (l32_1 (o0 := o) (g := g) (H0 := H) (b := H.length + 1) hn.2 (by omega)).at hr _
      ⟨by simp only [upd_apply, Nat.reduceEqDiff, ↓reduceIte], by simp only [upd_apply, Nat.reduceEqDiff, ↓reduceIte], 0, by simp only [upd_apply, Nat.reduceEqDiff, ↓reduceIte]; rfl, by omega, rfl, _, _, m0, f0⟩
    refine ⟨H2, o', L', ?_, m', fr⟩
    simp (disch := first | omega | rfl | assumption | (simp only [csN, Nat.reduceAdd, Nat.reduceMul, Nat.reduceLeDiff, Nat.reduceEqDiff] <;> omega) | (simp only [csF]; done) | (simp only [csF] <;> assumption) | fail) only [Nat.reduceEqDiff, Nat.reduceAdd, Nat.reduceMul, Nat.reduceSub, Nat.reduceLeDiff, Int.reduceAdd, Int.reduceSub, Int.reduceMul, Int.reduceLT, Int.reduceLE, Int.reduceGT, Int.reduceGE, Int.reduceEq, Int.reduceBEq, Int.reduceBNe, Int.reduceNeg, Int.reduceToNat, csAll, ↓reduceIte, q4]
  obtain ⟨H', o', L, k1, k2, k3⟩ := key
  exact ⟨_, H', o', L, k1, k2, k3⟩

theorem f32_no {H : CHeap} {n : Int} (hn : ¬ (1 ≤ n ∧ n ≤ 4)) : run P 32 [.i n] H = some (.tup [.nilPtr, .i 1], H) := by
  rw [run_lv c32]
  by_cases h : 1 ≤ n
  · simp (disch := first | omega | rfl | assumption | (simp only [csN, Nat.reduceAdd, Nat.reduceMul, Nat.reduceLeDiff, Nat.reduceEqDiff] <;> omega) | (simp only [csF]; done) | (simp only [csF] <;> assumption) | fail) only [Nat.reduceEqDiff, Nat.reduceAdd, Nat.reduceMul, Nat.reduceSub, Nat.reduceLeDiff, Int.reduceAdd, Int.reduceSub, Int.reduceMul, Int.reduceLT, Int.reduceLE, Int.reduceGT, Int.reduceGE, Int.reduceEq, Int.reduceBEq, Int.reduceBNe, Int.reduceNeg, Int.reduceToNat, csAll, ↓reduceIte, C32, entry_1]
  · simp (disch := first | omega | rfl | assumption | (simp only [csN, Nat.reduceAdd, Nat.reduceMul, Nat.reduceLeDiff, Nat.reduceEqDiff] <;> omega) | (simp only [csF]; done) | (simp only [csF] <;> assumption) | fail) only [Nat.reduceEqDiff, Nat.reduceAdd, Nat.reduceMul, Nat.reduceSub, Nat.reduceLeDiff, Int.reduceAdd, Int.reduceSub, Int.reduceMul, Int.reduceLT, Int.reduceLE, Int.reduceGT, Int.reduceGE, Int.reduceEq, Int.reduceBEq, Int.reduceBNe, Int.reduceNeg, Int.reduceToNat, csAll, ↓reduceIte, C32, entry_1]

end
section
variable {g g' : Nat} {b : Nat} {M : Mdl} {L : Lay}
theorem Gr.set {H H' : CHeap} (a : Gr H H') {c : Nat} (hc : H.length ≤ c) (k : Blk) : Gr H (H'.set c k) :=
  ⟨by rw [List.length_set]; exact a.len, fun d hd => by rw [List.getElem?_set_ne (by omega), a.low d hd]⟩
/-- append([]int{}, l...) of a list of the model's. -/
theorem app0Of {o : Tags} {H : CHeap} {t : Tag} {v : CV} {l : List Int} (hd : ∀ c t, o c = some t → c < H.length) (h : At o t H v 1 l.length (Go.Cs.ints l)) (hm : l.length ≤ 1000) :
    ∃ v' J, elems (H ++ [⟨[], .rw, 1⟩]) 1 v = some (l.length, Go.Cs.ints l) ∧ appendTo (H ++ [⟨[], .rw, 1⟩]) 1 (.slice H.length 0 0 0 1 false) l.length (Go.Cs.ints l) = some (v', H ++ J) ∧ At (Loc H.length) z3 (H ++ J) v' 1 l.length (Go.Cs.ints l) := by
  have he := h.elems (H' := H ++ [⟨[], .rw, 1⟩]) (fun c hc => List.getElem?_append_left (hd _ _ hc))
  obtain ⟨v, J, e, h, -⟩ := app0 he (ints_len _) (ints_leaf _) (Nat.le_trans hm (by decide))
  exact ⟨v, J, he, e, h⟩

theorem l34_2 {o0 : Tags} {H0 : CHeap} (w : M.Ok) (hgg : g ≠ g') {xb : Nat}
    {E0 : Env} {H : CHeap} (h0 : E0 0 = .ptr b 0) (h3 : E0 3 = .ptr xb 0) (h4 : E0 4 = .i 0)
    {o1 : Tags} {L1 : Lay} (m : MRep o1 g H b M L) (m1 : MRep o1 g' H xb ⟨[], M.globals, M.queue, []⟩ L1) (fr1 : Frm g' o0 H0 o1 H)
    {r : Option (CX × Env × CHeap)} (hr : den P (.loop C34_2) E0 H = r) :
    ∃ E' H' o2 L2, r = some (.exit 0, E', H') ∧ MRep o2 g H' b M L ∧ MRep o2 g' H' xb ⟨M.slots, M.globals, M.queue, []⟩ L2 ∧ Frm g' o0 H0 o2 H' ∧ ∀ t, t ∉ wr C34_2 → E' t = E0 t := by
  have hns := w.ns
  obtain ⟨x', E', H', e, -, ⟨rfl, o2, L2, g1, g2, g3⟩, fr⟩ := loop_at (p := P) (c := C34_2) (E0 := E0) (H0 := H) (fun k E H => ∃ j : Nat, E 4 = .i j ∧ j ≤ M.slots.length ∧ k = M.slots.length - j ∧ ∃ o2 L2, MRep o2 g H b M L ∧ MRep o2 g' H xb ⟨M.slots.take j, M.globals, M.queue, []⟩ L2 ∧ Frm g' o0 H0 o2 H)
    (fun x' E' H' => x' = .exit 0 ∧ ∃ o2 L2, MRep o2 g H' b M L ∧ MRep o2 g' H' xb ⟨M.slots, M.globals, M.queue, []⟩ L2 ∧ Frm g' o0 H0 o2 H') (by
      rintro k E H hE ⟨j, e4, hj, rfl, o2, L2, m, m2, fr⟩
      have e0 := (hE 0 (by decide +kernel)).trans h0
      have e3 := (hE 3 (by decide +kernel)).trans h3
      have hc := m.cells
      have hl1 := lt_of_get hc
      have hsl := m.slots.len
      by_cases c : j < M.slots.length
      · have hs := getD_of (l := M.slots) (i := j) [] c
        generalize hsv : M.slots.getD j [] = s at *
        have h16 := (w.s16 _ (List.mem_of_getElem? hs)).1
        obtain ⟨v, hv, ha⟩ := m.slot _ _ hs
        have ha' : At o2 (g, 2, j) H v 1 s.length (Go.Cs.ints s) := by rw [h16]; exact ha
        obtain ⟨tl, p1, p2, p3, p4⟩ := m.slots.pos (by omega)
        rw [p1] at hc
        obtain ⟨uv, J, hel, dap, hu⟩ := app0Of m.dom ha' (by omega)
        rw [h16] at hu hel dap
        obtain ⟨tu, q1, q2, q3, -⟩ := hu.pos (by omega)
        have qb := (Loc_some.1 q2).1
        have hlu := lt_of_get q3
        have hlf : leaf uv = true := hu.leaf
        have hc2 := m2.cells
        have hl2 := lt_of_get hc2
        have hl3 := lt_of_get p3
        have gE : Gr H (H ++ [(⟨[], .rw, 1⟩ : Blk)]) := .app _ _
        have hcE := gE.get hc
        have hc2E := gE.get hc2
        have p3E := gE.get p3
        have mJ := (m2.app J).app [(⟨[uv], .rw, 1⟩ : Blk)]
        have hnt : (M.slots.take j).length = j := by simp; omega
        have ms := mJ.slots
        rw [hnt] at ms
        obtain ⟨H', a1, a2, a3, a4⟩ := ms.append (k := 1) (new := [uv]) (by omega) (Nat.le_trans (by omega : j + 1 ≤ 5) (by decide)) (by simp [hlf]) rfl
        have hlen : (H ++ J ++ [(⟨[uv], .rw, 1⟩ : Blk)] : CHeap).length = H.length + J.length + 1 := by simp; omega
        have hHJ : (H ++ J).length = H.length + J.length := by simp
        rw [hlen] at a1 a2 a3 a4
        have hfree : ∀ c, H.length ≤ c → o2 c ≠ some (g', 1, 0) := fun c hc h => by have := m2.dom c _ h; omega
        have gJ : Gr H (H ++ J) := .app _ _
        have gJ2 : Gr (H ++ J) (H ++ J ++ [(⟨[uv], .rw, 1⟩ : Blk)]) := .app _ _
        have k0 : H'[blkOf uv]? = some ⟨Go.Cs.ints s, .rw, 1⟩ := by rw [a4 _ (by omega) (hfree _ qb), gJ2.get q3]
        have kb : H'[xb]? = some ⟨[L2.sl, L2.gl, L2.qv, L2.ov], .rw, 0⟩ := by rw [a4 _ (by omega) (by rw [m2.top]; simp), gJ2.get (gJ.get hc2)]
        have hcJ := gJ.get hc2
        have hcJ2 := gJ2.get hcJ
        have hxb' := lt_of_get kb
        obtain ⟨o', L', m', fr'⟩ := m2.newSlot (Hf := H'.set xb ⟨[.slice (H.length + J.length + 1) 0 (j + 1) (j + 1) 1 true, L2.gl, L2.qv, L2.ov], .rw, 0⟩) (s := s) (u := uv) (v := .slice (H.length + J.length + 1) 0 (j + 1) (j + 1) 1 true) (ub := blkOf uv) (vb := H.length + J.length + 1) (tu := tu) (tv := true)
          q1 (by rw [hnt]) (by omega) (by omega) (by omega) h16 (by rw [List.getElem?_set_ne (by omega), k0]) (by rw [List.getElem?_set_ne (by omega), a3]) (by rw [List.length_set]; omega) (by rw [List.getElem?_set_self hxb'])
          (fun d hd h h' => by rw [List.getElem?_set_ne (Ne.symm h'), a4 d (by omega) h, gJ2.low d (by omega), gJ.low d hd])
        have hnew : ({ (⟨M.slots.take j, M.globals, M.queue, []⟩ : Mdl) with slots := M.slots.take j ++ [s] } : Mdl) = ⟨M.slots.take (j + 1), M.globals, M.queue, []⟩ := by rw [take_snoc hs]
        have m'' : MRep o' g' (H'.set xb ⟨[.slice (H.length + J.length + 1) 0 (j + 1) (j + 1) 1 true, L2.gl, L2.qv, L2.ov], .rw, 0⟩) xb ⟨M.slots.take (j + 1), M.globals, M.queue, []⟩ L' := by rw [← hnew]; exact m'
        have mo := m.other fr' hgg m'.dom
        have hw := wrapS j (by omega)
        generalize hHE : H ++ [(⟨[], .rw, 1⟩ : Blk)] = HE at *
        apply step_go (k' := M.slots.length - (j + 1))
        · simp (disch := first | omega | rfl | assumption | (simp only [csN, Nat.reduceAdd, Nat.reduceMul, Nat.reduceLeDiff, Nat.reduceEqDiff] <;> omega) | (simp only [csF]; done) | (simp only [csF] <;> assumption) | fail) only [Nat.reduceEqDiff, Nat.reduceAdd, Nat.reduceMul, Nat.reduceSub, Nat.reduceLeDiff, Int.reduceAdd, Int.reduceSub, Int.reduceMul, Int.reduceLT, Int.reduceLE, Int.reduceGT, Int.reduceGE, Int.reduceEq, Int.reduceBEq, Int.reduceBNe, Int.reduceNeg, Int.reduceToNat, csAll, ↓reduceIte, C34_2, e0, e3, e4, hHE, hc, hcE, hc2E, p3, p3E, hv, hel, dap, hc2, hcJ, hcJ2, a1, kb, hw]
          rfl
        · omega
        · exact ⟨j + 1, by simp [upd_apply], by omega, rfl, o', L', mo, m'', fr.trans fr'⟩
      · apply step_out (x := .exit 0)
        · simp (disch := first | omega | rfl | assumption | (simp only [csN, Nat.reduceAdd, Nat.reduceMul, Nat.reduceLeDiff, Nat.reduceEqDiff] <;> omega) | (simp only [csF]; done) | (simp only [csF] <;> assumption) | fail) only [Nat.reduceEqDiff, Nat.reduceAdd, Nat.reduceMul, Nat.reduceSub, Nat.reduceLeDiff, Int.reduceAdd, Int.reduceSub, Int.reduceMul, Int.reduceLT, Int.reduceLE, Int.reduceGT, Int.reduceGE, Int.reduceEq, Int.reduceBEq, Int.reduceBNe, Int.reduceNeg, Int.reduceToNat, csAll, ↓reduceIte, C34_2, e0, e4, hc, hsl]
          rfl
        · simp
        · rw [take_all (by omega)] at m2
          exact ⟨rfl, o2, L2, m, m2, fr⟩) M.slots.length ⟨0, h4, by omega, rfl, o1, L1, m, by simpa using m1, fr1⟩
  exact ⟨E', H', o2, L2, hr.symm.trans e, g1, g2, g3, fr⟩

theorem l34_1 {o0 : Tags} {H0 : CHeap} (w : M.Ok) (hf : M.objs.length ≤ 1000) (hgg : g ≠ g') {xb : Nat}
    {E0 : Env} {H : CHeap} (h0 : E0 0 = .ptr b 0) (h3 : E0 3 = .ptr xb 0) (h5 : E0 5 = .i 0)
    {o1 : Tags} {L1 : Lay} (m : MRep o1 g H b M L) (m1 : MRep o1 g' H xb ⟨M.slots, M.globals, M.queue, []⟩ L1) (fr1 : Frm g' o0 H0 o1 H)
    {r : Option (CX × Env × CHeap)} (hr : den P (.loop C34_1) E0 H = r) :
    ∃ E' H' o2 L2, r = some (.exit 2, E', H') ∧ MRep o2 g H' b M L ∧ MRep o2 g' H' xb M L2 ∧ Frm g' o0 H0 o2 H' ∧ ∀ t, t ∉ wr C34_1 → E' t = E0 t := by
  obtain ⟨x', E', H', e, -, ⟨rfl, o2, L2, g1, g2, g3⟩, fr⟩ := loop_at (p := P) (c := C34_1) (E0 := E0) (H0 := H) (fun k E H => ∃ j : Nat, E 5 = .i j ∧ j ≤ M.objs.length ∧ k = M.objs.length - j ∧ ∃ o2 L2, MRep o2 g H b M L ∧ MRep o2 g' H xb ⟨M.slots, M.globals, M.queue, M.objs.take j⟩ L2 ∧ Frm g' o0 H0 o2 H)
    (fun x' E' H' => x' = .exit 2 ∧ ∃ o2 L2, MRep o2 g H' b M L ∧ MRep o2 g' H' xb M L2 ∧ Frm g' o0 H0 o2 H') (by
      rintro k E H hE ⟨j, e5, hj, rfl, o2, L2, m, m2, fr⟩
      have e0 := (hE 0 (by decide +kernel)).trans h0
      have e3 := (hE 3 (by decide +kernel)).trans h3
      have hc := m.cells
      have hl1 := lt_of_get hc
      have hol := m.objs.len
      by_cases c : j < M.objs.length
      · have hh : M.has ((j + 1 : Nat) : Int) := by unfold Mdl.has; omega
        obtain ⟨hh2, rest, r0, r1, r2, r3, r4, r5, r6⟩ := m.objAt _ hh
        have ej : (((j + 1 : Nat) : Int) - 1).toNat = j := by omega
        rw [ej] at r0 r2 r3 r5 r6
        have hobj := Mdl.obj_at (M := M) c
        have hob := w.obj hh
        generalize hx : M.obj ((j + 1 : Nat) : Int) = x at *
        obtain ⟨tl, p1, p2, p3, p4⟩ := m.objs.pos (by omega)
        rw [p1] at hc
        have hnr := hob.nr
        have hnd := hob.nd
        have lf1 := r5.leaf
        have lf2 := r6.leaf
        have hall : ([.i x.nr, .i x.nd, .i x.kd, hh2.1, hh2.2] : List CV).all leaf = true := by simp only [List.all_cons, List.all_nil, lf1, lf2, leaf_int, Bool.and_true]
        -- the object's copy
        have g1 : Gr H (H ++ [(⟨[.i x.nr, .i x.nd, .i x.kd, hh2.1, hh2.2], .rw, 0⟩ : Blk)]) := .app _ _
        have bx1 : (H ++ [(⟨[.i x.nr, .i x.nd, .i x.kd, hh2.1, hh2.2], .rw, 0⟩ : Blk)])[H.length]? = some ⟨[.i x.nr, .i x.nd, .i x.kd, hh2.1, hh2.2], .rw, 0⟩ := look_last rfl
        have hAl : (H ++ [(⟨[.i x.nr, .i x.nd, .i x.kd, hh2.1, hh2.2], .rw, 0⟩ : Blk)]).length = H.length + 1 := by simp
        generalize hA : H ++ [(⟨[.i x.nr, .i x.nd, .i x.kd, hh2.1, hh2.2], .rw, 0⟩ : Blk)] = HA at *
        have mA := m.gr g1
        obtain ⟨rv, J1, ha1, hb1, hc1⟩ := app0Of mA.dom (r5.gr g1) (by omega)
        have gA0 : Gr HA (HA ++ [(⟨[], .rw, 1⟩ : Blk)]) := .app _ _
        have bxA := gA0.get bx1
        have gA1 : Gr HA (HA ++ J1) := .app _ _
        have bxA1 := gA1.get bx1
        have lfr := hc1.leaf
        generalize hA0 : HA ++ [(⟨[], .rw, 1⟩ : Blk)] = HA0 at *
        generalize hA1 : HA ++ J1 = HA1 at *
        have gB : Gr H (HA1.set H.length ⟨[.i x.nr, .i x.nd, .i x.kd, rv, hh2.2], .rw, 0⟩) := Gr.set (g1.trans gA1) (Nat.le_refl _) _
        have lB : (HA1.set H.length ⟨[.i x.nr, .i x.nd, .i x.kd, rv, hh2.2], .rw, 0⟩).length = HA1.length := by simp
        have bxB : (HA1.set H.length ⟨[.i x.nr, .i x.nd, .i x.kd, rv, hh2.2], .rw, 0⟩)[H.length]? = some ⟨[.i x.nr, .i x.nd, .i x.kd, rv, hh2.2], .rw, 0⟩ := by rw [List.getElem?_set_self (lt_of_get bxA1)]
        have lowB : ∀ c, c ≠ H.length → (HA1.set H.length ⟨[.i x.nr, .i x.nd, .i x.kd, rv, hh2.2], .rw, 0⟩)[c]? = HA1[c]? := fun c hc => List.getElem?_set_ne (Ne.symm hc)
        generalize hB : HA1.set H.length ⟨[.i x.nr, .i x.nd, .i x.kd, rv, hh2.2], .rw, 0⟩ = HB at *
        have mB := m.gr gB
        obtain ⟨dv, J2, ha2, hb2, hc22⟩ := app0Of mB.dom (r6.gr gB) (by omega)
        have gB0 : Gr HB (HB ++ [(⟨[], .rw, 1⟩ : Blk)]) := .app _ _
        have bxB0 := gB0.get bxB
        have gB1 : Gr HB (HB ++ J2) := .app _ _
        have bxB1 := gB1.get bxB
        have lfd := hc22.leaf
        generalize hB0 : HB ++ [(⟨[], .rw, 1⟩ : Blk)] = HB0 at *
        generalize hB1 : HB ++ J2 = HB1 at *
        have gC : Gr H (HB1.set H.length ⟨[.i x.nr, .i x.nd, .i x.kd, rv, dv], .rw, 0⟩) := Gr.set (gB.trans gB1) (Nat.le_refl _) _
        have lC : (HB1.set H.length ⟨[.i x.nr, .i x.nd, .i x.kd, rv, dv], .rw, 0⟩).length = HB1.length := by simp
        have bxC : (HB1.set H.length ⟨[.i x.nr, .i x.nd, .i x.kd, rv, dv], .rw, 0⟩)[H.length]? = some ⟨[.i x.nr, .i x.nd, .i x.kd, rv, dv], .rw, 0⟩ := by rw [List.getElem?_set_self (lt_of_get bxB1)]
        have lowC : ∀ c, c ≠ H.length → (HB1.set H.length ⟨[.i x.nr, .i x.nd, .i x.kd, rv, dv], .rw, 0⟩)[c]? = HB1[c]? := fun c hc => List.getElem?_set_ne (Ne.symm hc)
        generalize hC : HB1.set H.length ⟨[.i x.nr, .i x.nd, .i x.kd, rv, dv], .rw, 0⟩ = HC at *
        have hc2 := m2.cells
        have hl2 := lt_of_get hc2
        have hcC := gC.get hc2
        have hall2 : ([.i x.nr, .i x.nd, .i x.kd, rv, hh2.2] : List CV).all leaf = true := by simp only [List.all_cons, List.all_nil, lfr, lf2, leaf_int, Bool.and_true]
        have hall3 : ([.i x.nr, .i x.nd, .i x.kd, rv, dv] : List CV).all leaf = true := by simp only [List.all_cons, List.all_nil, lfr, lfd, leaf_int, Bool.and_true]
        have g4 : Gr HC (HC ++ [(⟨[.i x.nr, .i x.nd, .i x.kd, rv, dv], .rw, 5⟩ : Blk)]) := .app _ _
        have hcC4 := g4.get hcC
        have hm2 := (m2.gr gC).gr g4
        have hnt : (M.objs.take j).length = j := by simp; omega
        have ms := hm2.objs
        rw [show (⟨M.slots, M.globals, M.queue, M.objs.take j⟩ : Mdl).objs.length = j from hnt] at ms
        obtain ⟨H', b1, b2, b3, b4⟩ := ms.append (k := 1) (new := [.i x.nr, .i x.nd, .i x.kd, rv, dv]) (by omega) (Nat.le_trans (by omega : j + 1 ≤ 2000) (by decide)) hall3 rfl
        have hlen : (HC ++ [(⟨[.i x.nr, .i x.nd, .i x.kd, rv, dv], .rw, 5⟩ : Blk)]).length = HC.length + 1 := by simp
        rw [hlen] at b1 b2 b3 b4
        have l1 := gA1.len
        have l2 := gB1.len
        have l3 := gC.len
        have kb : H'[xb]? = some ⟨[L2.sl, L2.gl, L2.qv, L2.ov], .rw, 0⟩ := by rw [b4 _ (by omega) (by rw [m2.top]; simp), hcC4]
        have hxb' := lt_of_get kb
        have hfree : ∀ c, H.length ≤ c → o2 c ≠ some (g', 5, 0) := fun c hc h => by have := m2.dom c _ h; omega
        have low : ∀ c, H.length ≤ c → c < HC.length → (H'.set xb ⟨[L2.sl, L2.gl, L2.qv, .slice (HC.length + 1) 0 (j + 1) (j + 1) 5 true], .rw, 0⟩)[c]? = HC[c]? := fun c hc hc2 => by
          rw [List.getElem?_set_ne (by omega), b4 c (by omega) (hfree c hc), g4.low c hc2]
        obtain ⟨o', L', m', fr'⟩ := m2.newObj (Hm1 := HA1) (Hm2 := HB1) (Hf := H'.set xb ⟨[L2.sl, L2.gl, L2.qv, .slice (HC.length + 1) 0 (j + 1) (j + 1) 5 true], .rw, 0⟩) (x := x) (rv := rv) (dv := dv) (v := .slice (HC.length + 1) 0 (j + 1) (j + 1) 5 true) (k1 := HA.length) (k2 := HB.length) (k3 := HC.length) (vb := HC.length + 1) (tv := true)
          (by rw [show (⟨M.slots, M.globals, M.queue, M.objs.take j⟩ : Mdl).objs.length = j from hnt]) hc1 hc22 (by omega) (by omega) (by omega) (by omega) (by omega)
          (fun c q1 q2 => by rw [low c (by omega) (by omega), lowC c (by omega), gB1.low c (by omega), lowB c (by omega)]) (fun c q1 q2 => by rw [low c (by omega) (by omega), lowC c (by omega)]) (by omega)
          (by rw [List.getElem?_set_ne (by omega), b3]) (by rw [List.getElem?_set_self hxb'])
          (fun d hd h h' => by rw [List.getElem?_set_ne (Ne.symm h'), b4 d (by omega) h, g4.low d (by omega), gC.low d hd])
        have m'' : MRep o' g' (H'.set xb ⟨[L2.sl, L2.gl, L2.qv, .slice (HC.length + 1) 0 (j + 1) (j + 1) 5 true], .rw, 0⟩) xb ⟨M.slots, M.globals, M.queue, M.objs.take (j + 1)⟩ L' := by rw [take_snoc hobj]; exact m'
        have mo := m.other fr' hgg m'.dom
        have hw := wrapS j (by omega)
        apply step_go (k' := M.objs.length - (j + 1))
        · simp (disch := first | omega | rfl | assumption | (simp only [csN, Nat.reduceAdd, Nat.reduceMul, Nat.reduceLeDiff, Nat.reduceEqDiff] <;> omega) | (simp only [csF]; done) | (simp only [csF] <;> assumption) | fail) only [Nat.reduceEqDiff, Nat.reduceAdd, Nat.reduceMul, Nat.reduceSub, Nat.reduceLeDiff, Int.reduceAdd, Int.reduceSub, Int.reduceMul, Int.reduceLT, Int.reduceLE, Int.reduceGT, Int.reduceGE, Int.reduceEq, Int.reduceBEq, Int.reduceBNe, Int.reduceNeg, Int.reduceToNat, csAll, ↓reduceIte, C34_1, e0, e3, e5, hc, hol, r1, r2, r3, hA, hA0, hA1, hB, hB0, hB1, hC, bx1, bxA, bxA1, bxB, bxB0, bxB1, bxC, ha1, hb1, ha2, hb2, hcC, hcC4, b1, kb, hw]
          rfl
        · omega
        · exact ⟨j + 1, by simp [upd_apply], by omega, rfl, o', L', mo, m'', fr.trans fr'⟩
      · apply step_out (x := .exit 2)
        · simp (disch := first | omega | rfl | assumption | (simp only [csN, Nat.reduceAdd, Nat.reduceMul, Nat.reduceLeDiff, Nat.reduceEqDiff] <;> omega) | (simp only [csF]; done) | (simp only [csF] <;> assumption) | fail) only [Nat.reduceEqDiff, Nat.reduceAdd, Nat.reduceMul, Nat.reduceSub, Nat.reduceLeDiff, Int.reduceAdd, Int.reduceSub, Int.reduceMul, Int.reduceLT, Int.reduceLE, Int.reduceGT, Int.reduceGE, Int.reduceEq, Int.reduceBEq, Int.reduceBNe, Int.reduceNeg, Int.reduceToNat, csAll, ↓reduceIte, C34_1, e0, e5, hc, hol]
          rfl
        · simp
        · rw [take_all (by omega)] at m2
          exact ⟨rfl, o2, L2, m, m2, fr⟩) M.objs.length ⟨0, h5, by omega, rfl, o1, L1, m, by simpa using m1, fr1⟩
  exact ⟨E', H', o2, L2, hr.symm.trans e, g1, g2, g3, fr⟩

/-- Clone. -/
theorem f34 {o : Tags} {H : CHeap} (m : MRep o g H b M L) (w : M.Ok) (hf : M.objs.length ≤ 1000) (hgg : g ≠ g') (hg : ∀ c k, o c ≠ some (g', k)) :
    ∃ xb H' o' L', run P 34 [.ptr b 0] H = some (.ptr xb 0, H') ∧ MRep o' g H' b M L ∧ MRep o' g' H' xb M L' ∧ Frm g' o H o' H' := by
  have h54 := f54 m w
  have hc := m.cells
  have hgl := w.g16.1
  have mg : At o (g, 3, 0) H L.gl 1 M.globals.length (Go.Cs.ints M.globals) := by rw [hgl]; exact m.globals
  obtain ⟨gv, J1, u1, d1, a1⟩ := app0Of m.dom mg (by omega)
  have g0 : Gr H (H ++ [(⟨[], .rw, 1⟩ : Blk)]) := .app _ _
  have hc0 := g0.get hc
  have g1 : Gr H (H ++ J1) := .app _ _
  have m1 := m.gr g1
  obtain ⟨qv, J2, u2, d2, a2⟩ := app0Of m1.dom m1.queue (by have := w.q64.1; omega)
  have g10 : Gr (H ++ J1) (H ++ J1 ++ [(⟨[], .rw, 1⟩ : Blk)]) := .app _ _
  have g2 : Gr (H ++ J1) (H ++ J1 ++ J2) := .app _ _
  have lf1 := a1.leaf
  have lf2 := a2.leaf
  obtain ⟨o2, L2, m2, fr2⟩ := MRep.fresh (g := g') (H := H) (k1 := H.length) m.dom hg hgl a1 a2 (Nat.le_refl _) g1.len g2.len (Nat.le_refl _) rfl g1 g2
  have mo := m.other fr2 hgg m2.dom
  have hc1 := g1.get hc
  have hc10 := g10.get hc1
  have hcc := mo.cells
  generalize hH0 : H ++ [(⟨[], .rw, 1⟩ : Blk)] = HZ at *
  generalize hA : H ++ J1 = HA at *
  generalize hA0 : HA ++ [(⟨[], .rw, 1⟩ : Blk)] = HA0 at *
  generalize hB : HA ++ J2 = HB at *
  generalize hC : HB ++ [(⟨[.nilSlice, gv, qv, .nilSlice], .rw, 0⟩ : Blk)] = HC at *
  have key : ∃ H' o' L', run P 34 [.ptr b 0] H = some (.ptr HB.length 0, H') ∧ MRep o' g H' b M L ∧ MRep o' g' H' HB.length M L' ∧ Frm g' o H o' H' := by
    rw [run_lv c34]
    simp (disch := first | omega | rfl | assumption | (simp only [csN, Nat.reduceAdd, Nat.reduceMul, Nat.reduceLeDiff, Nat.reduceEqDiff] <;> omega) | (simp only [csF]; done) | (simp only [csF] <;> assumption) | fail) only [Nat.reduceEqDiff, Nat.reduceAdd, Nat.reduceMul, Nat.reduceSub, Nat.reduceLeDiff, Int.reduceAdd, Int.reduceSub, Int.reduceMul, Int.reduceLT, Int.reduceLE, Int.reduceGT, Int.reduceGE, Int.reduceEq, Int.reduceBEq, Int.reduceBNe, Int.reduceNeg, Int.reduceToNat, csAll, ↓reduceIte, C34, entry_1, h54, hc, hc0, hc1, hc10, hH0, u1, d1, hA, hA0, u2, d2, hB, hC, hcc]
    generalize hr : den P (.loop C34_2) _ _ = r
    obtain ⟨E3, H3, o3, L3, rfl, m3, m3', fr3, k3⟩ := l34_2 w hgg (by simp only [upd_apply, Nat.reduceEqDiff, ↓reduceIte]) (by simp only [upd_apply, Nat.reduceEqDiff, ↓reduceIte]) (by simp only [upd_apply, Nat.reduceEqDiff, ↓reduceIte]) mo m2 fr2 hr
    have t0 := k3 0 (by decide +kernel)
    have t3 := k3 3 (by decide +kernel)
    simp only [upd_apply, Nat.reduceEqDiff, ↓reduceIte] at t0 t3
    simp (disch := first | omega | rfl | assumption | (simp only [csN, Nat.reduceAdd, Nat.reduceMul, Nat.reduceLeDiff, Nat.reduceEqDiff] <;> omega) | (simp only [csF]; done) | (simp only [csF] <;> assumption) | fail) only [Nat.reduceEqDiff, Nat.reduceAdd, Nat.reduceMul, Nat.reduceSub, Nat.reduceLeDiff, Int.reduceAdd, Int.reduceSub, Int.reduceMul, Int.reduceLT, Int.reduceLE, Int.reduceGT, Int.reduceGE, Int.reduceEq, Int.reduceBEq, Int.reduceBNe, Int.reduceNeg, Int.reduceToNat, csAll, ↓reduceIte, t0]
    generalize hr2 : den P (.loop C34_1) _ _ = r2
    obtain ⟨E4, H4, o4, L4, rfl, m4, m4', fr4, k4⟩ := l34_1 w hf hgg (by simp only [upd_apply, Nat.reduceEqDiff, ↓reduceIte, t0]) (by simp only [upd_apply, Nat.reduceEqDiff, ↓reduceIte, t3]) (by simp only [upd_apply, Nat.reduceEqDiff, ↓reduceIte]) m3 m3' fr3 hr2
    have u3 := k4 3 (by decide +kernel)
    simp only [upd_apply, Nat.reduceEqDiff, ↓reduceIte, t3] at u3
    simp (disch := first | omega | rfl | assumption | (simp only [csN, Nat.reduceAdd, Nat.reduceMul, Nat.reduceLeDiff, Nat.reduceEqDiff] <;> omega) | (simp only [csF]; done) | (simp only [csF] <;> assumption) | fail) only [Nat.reduceEqDiff, Nat.reduceAdd, Nat.reduceMul, Nat.reduceSub, Nat.reduceLeDiff, Int.reduceAdd, Int.reduceSub, Int.reduceMul, Int.reduceLT, Int.reduceLE, Int.reduceGT, Int.reduceGE, Int.reduceEq, Int.reduceBEq, Int.reduceBNe, Int.reduceNeg, Int.reduceToNat, csAll, ↓reduceIte, u3]
    exact ⟨H4, o4, L4, rfl, m4, m4', fr4⟩
  obtain ⟨H', o', L', q1, q2, q3, q4⟩ := key
  exact ⟨_, H', o', L', q1, q2, q3, q4⟩
end
end Go.Cs.Try
