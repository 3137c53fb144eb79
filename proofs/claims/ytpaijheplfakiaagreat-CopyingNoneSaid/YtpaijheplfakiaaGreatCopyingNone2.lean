/- A part of the proof: CopyingNone returns true for every input: without a heap or roots no object is copied. (ErrArg) Conditions: none. -/
import Derived.Test.YtpaijheplfakiaaGreatCopyingNone1
import Derived.Test.YtpaijheplfakiaaGreatProg
import Derived.KernelRfl
set_option linter.unusedVariables false
set_option linter.unusedSimpArgs false
set_option linter.defProp false
/- The evaluator's answers are the clean machine's: operations, regions, code. -/
noncomputable section
namespace Go.Cs.K
open Go Go.Cs

section
variable {R : Type} {E : Tr CV} {H : KH} {k : CV → KH → Option R} {x : R}

/-- A value, the memory as it is. -/
theorem ok_val {op : COp} {v : CV} (h : k v H = some x) (ho : opv op (envOf E) (abs H) = some (v, abs H)) : ∃ v H', opv op (envOf E) (abs H) = some (v, abs H') ∧ k v H' = some x := ⟨v, H, ho, h⟩

theorem getB_row {b : Nat} {t : Tr CV} {n e : Nat} {m : Mode} (h : getB H b = some (.row t n m e)) : b < H.size ∧ (abs H)[b]? = some ⟨rowL t n, m, e⟩ := abs_get h
theorem getB_obj {b : Nat} {l : List CV} {e : Nat} (h : getB H b = some (.obj l e)) : b < H.size ∧ (abs H)[b]? = some ⟨l, .map, e⟩ := abs_get h

theorem elemsK_spec {esz : Nat} {v : CV} {k : Nat → List CV → Option R} (h : elemsK H esz v k = some x) : ∃ n l, elems (abs H) esz v = some (n, l) ∧ k n l = some x := by
  unfold elemsK at h
  split at h
  · exact ⟨0, [], rfl, h⟩
  · rename_i b o len cap e tl
    rw [cond_beq] at h
    split at h
    · rename_i h0; exact ⟨0, [], by simp [elems, h0], h⟩
    · rename_i h0
      obtain ⟨l, h1, h2⟩ := loadNK_spec h
      refine ⟨len, l, ?_, h2⟩
      simp only [elems, if_neg h0]
      rw [show len * esz = Nat.mul len esz from rfl, h1]; rfl
  · cases h

theorem newSlice_spec {l : List CV} {n esz : Nat} (h : newSlice H l n esz k = some x) : ∃ H', abs H' = abs H ++ [⟨l, .rw, esz⟩] ∧ k (.slice (abs H).length 0 n n esz true) H' = some x := by
  unfold newSlice at h
  obtain ⟨H', h1, h2⟩ := pushRow_spec h
  rw [forceNat_eq] at h2
  exact ⟨H', h1, by rw [abs_len]; exact h2⟩

theorem oldCells_spec {b o len esz : Nat} {k : List CV → Option R} (h : oldCells H b o len esz k = some x) : ∃ l, (if len = 0 then some [] else loadN (abs H) b o (len * esz)) = some l ∧ k l = some x := by
  unfold oldCells at h
  rw [cond_beq] at h
  split at h
  · rename_i h0; exact ⟨[], by rw [if_pos h0], h⟩
  · rename_i h0
    obtain ⟨l, h1, h2⟩ := loadNK_spec h
    exact ⟨l, by rw [if_neg h0]; exact h1, h2⟩

theorem appendK_spec {esz n : Nat} {s : CV} {new : List CV} (h : appendK H esz s n new k = some x) : ∃ v H', appendTo (abs H) esz s n new = some (v, abs H') ∧ k v H' = some x := by
  unfold appendK at h
  rw [cond_beq] at h
  split at h
  · rename_i h0
    split at h
    · exact ⟨_, H, by simp [appendTo, h0], h⟩
    · exact ⟨_, H, by simp [appendTo, h0], h⟩
    · cases h
  · rename_i h0
    split at h
    · rw [cond_ble] at h
      split at h
      · rename_i hm
        obtain ⟨H', h1, h2⟩ := newSlice_spec h
        exact ⟨_, H', by simp only [appendTo]; rw [if_neg h0, if_pos hm, h1], h2⟩
      · cases h
    · rename_i b o len cap e tail
      rw [cond_ble] at h
      have ha : Nat.add len n = len + n := rfl
      have hmu : Nat.mul len esz = len * esz := rfl
      have hmc : Nat.add o (Nat.mul cap esz) = o + cap * esz := rfl
      have hml : Nat.add o (Nat.mul len esz) = o + len * esz := rfl
      split at h
      · rename_i hc
        obtain ⟨K', h1, h2⟩ := storeNK_spec h
        rw [forceNat_eq] at h2
        refine ⟨_, K', ?_, h2⟩
        simp only [appendTo]
        rw [if_neg h0, if_pos (by rw [ha] at hc; exact hc), ← hml, h1]
        rfl
      · rename_i hc
        rw [cond_ble] at h
        split at h
        · rename_i hm
          obtain ⟨old, h1, h2⟩ := oldCells_spec h
          rw [appL_eq] at h2
          simp only [appendTo]
          rw [if_neg h0, if_neg (by rw [ha] at hc; exact hc), if_pos (by rw [ha] at hm; exact hm), h1, Option.bind_some]
          cases tail with
          | true =>
            rw [cond_true] at h2
            split at h2
            · rename_i t m md z hb
              obtain ⟨g1, g2⟩ := getB_row hb
              cases hr : isRw md with
              | false => rw [hr] at h2; cases h2
              | true =>
                rw [hr, cond_true, cond_beq] at h2
                split at h2
                · rename_i he
                  rw [cond_beq] at h2
                  split at h2
                  · rename_i hl
                    cases hlf : new.all leaf with
                    | false => rw [hlf] at h2; cases h2
                    | true =>
                      rw [hlf, cond_true] at h2
                      unfold setB at h2
                      obtain ⟨H', e1, e2⟩ := newSlice_spec h2
                      refine ⟨_, H', ?_, e2⟩
                      rw [g2]
                      dsimp only
                      have hcond : md = Mode.rw ∧ e = esz ∧ o + cap * esz = (rowL t m).length ∧ new.all leaf = true := ⟨isRw_iff.1 hr, he, by rw [rowL_len, ← hmc]; exact hl, hlf⟩
                      rw [hlf] at hcond
                      rw [if_pos rfl, if_pos hcond, e1, abs_set g1]
                      simp [absB, abs_len, ha]
                  · cases h2
                · cases h2
            · cases h2
          | false =>
            rw [cond_false] at h2
            obtain ⟨H', e1, e2⟩ := newSlice_spec h2
            refine ⟨_, H', ?_, e2⟩
            rw [if_neg (by simp), e1]
            rfl
        · cases h
    · cases h

theorem opvK_spec {op : COp} (h : opvK op E H k = some x) : ∃ v H', opv op (envOf E) (abs H) = some (v, abs H') ∧ k v H' = some x := by
  cases op with
  | mov y => simp only [opvK, o_mov, evo_eq] at h; exact ok_val h rfl
  | pick c a b =>
    simp only [opvK, o_pick, evo_eq] at h
    split at h
    · rename_i t ht
      cases t with
      | true => exact ok_val h (by simp [opv, mkOf, ht, made])
      | false => exact ok_val h (by simp [opv, mkOf, ht, made])
    · cases h
  | new cells =>
    simp only [opvK, o_new] at h
    obtain ⟨H', h1, h2⟩ := pushRow_spec h
    exact ⟨_, H', by rw [h1]; simp [opv, mkOf, made, abs_len], h2⟩
  | mapNew =>
    simp only [opvK, o_mapNew] at h
    obtain ⟨H', h1, h2⟩ := pushObj_spec h
    exact ⟨_, H', by rw [h1]; simp [opv, mkOf, made, abs_len], h2⟩
  | box y =>
    simp only [opvK, o_box, evo_eq] at h
    obtain ⟨H', h1, h2⟩ := pushRow_spec h
    exact ⟨_, H', by rw [h1]; simp [opv, mkOf, made, abs_len], h2⟩
  | build z ps =>
    simp only [opvK, o_build, evParts_eq] at h
    obtain ⟨l, h1, h2⟩ := fillK_eq _ _ h
    exact ok_val h2 (by simp [opv, mkOf, made, h1])
  | buildSlice esz z len ps =>
    simp only [opvK, o_buildSlice, evParts_eq] at h
    obtain ⟨l, h1, h2⟩ := fillK_eq _ _ h
    obtain ⟨H', h3, h4⟩ := pushRow_spec h2
    exact ⟨_, H', by rw [h3]; simp [opv, mkOf, made, h1, abs_len], h4⟩
  | load agg n a =>
    simp only [opvK, o_load, evo_eq] at h
    split at h
    · rename_i b o hb
      cases agg with
      | true =>
        obtain ⟨l, h1, h2⟩ := loadNK_spec h
        exact ok_val h2 (by simp [opv, mkOf, hb, h1, made])
      | false =>
        obtain ⟨v, h1, h2⟩ := load1K_spec h
        exact ok_val h2 (by simp [opv, mkOf, hb, h1, made])
    · cases h
  | nilCheck y =>
    simp only [opvK, o_nilCheck, evo_eq] at h
    split at h
    · rename_i b o hb; exact ok_val h (by simp [opv, mkOf, hb, made])
    · rename_i t c hb; exact ok_val h (by simp [opv, mkOf, hb, made])
    · cases h
  | bin op a b =>
    simp only [opvK, o_bin, evo_eq] at h
    split at h
    · rename_i kd p kd' q ha hb
      cases hk : kindEq kd kd' with
      | false => rw [hk] at h; cases h
      | true =>
        rw [hk, cond_true, intOpK_eq, Option.bind_eq_some_iff] at h
        obtain ⟨v, h1, h2⟩ := h
        exact ok_val h2 (by simp only [opv, mkOf, ha, hb]; rw [if_pos (kindEq_iff.1 hk), h1]; rfl)
    · cases h
  | shift op a b =>
    simp only [opvK, o_shift, evo_eq] at h
    split at h
    · rename_i kd p kd' q ha hb
      rw [shiftK_eq, Option.bind_eq_some_iff] at h
      obtain ⟨v, h1, h2⟩ := h
      exact ok_val h2 (by simp [opv, mkOf, ha, hb, h1, made])
    · cases h
  | conv kd a =>
    simp only [opvK, o_conv, evo_eq] at h
    split at h
    · rename_i kd' n ha
      rw [wrapK_eq] at h
      exact ok_val h (by simp [opv, mkOf, ha, made])
    · cases h
  | mm big l =>
    simp only [opvK, o_mm, evos_eq] at h
    split at h
    · cases h
    · rename_i a r hl
      have h1 := mmK_eq big r a _ h
      rw [Option.bind_eq_some_iff] at h1
      obtain ⟨v, h1, h2⟩ := h1
      exact ok_val h2 (by simp only [opv, mkOf, hl, mmOf]; rw [h1]; rfl)
  | indexA n esz a i =>
    simp only [opvK, o_indexA, evo_eq] at h
    split at h
    · rename_i b o kd j ha hi
      rw [cond_ble] at h
      split at h
      · rename_i hj
        rw [forceNat_eq] at h
        refine ok_val h ?_
        simp only [opv, mkOf, ha, hi]
        rw [if_pos ⟨by simp, by simp only [Int.ofNat_eq_natCast]; have : j < n := hj; omega⟩]
        rfl
      · cases h
    · cases h
  | indexS l i =>
    simp only [opvK, o_indexS, evo_eq] at h
    split at h
    · rename_i kd j hi
      split at h
      · rename_i v hv
        refine ok_val h ?_
        simp only [opv, mkOf, hi]
        rw [if_pos (by simp)]
        simp [hv, made]
      · cases h
    · cases h
  | eqv neg ty a b =>
    simp only [opvK, o_eqv, evo_eq, eqValK_eq, forceBool_eq] at h
    split at h
    · rename_i t ht
      cases neg with
      | true => exact ok_val h (by simp [opv, mkOf, ht, made])
      | false => exact ok_val h (by simp [opv, mkOf, ht, made])
    · cases h
  | eqs neg n a b =>
    simp only [opvK, o_eqs, evo_eq] at h
    split at h
    · rename_i xs ys ha hb
      rw [cond_beq, eqCellsK_eq] at h
      split at h
      · rename_i hn
        split at h
        · rename_i t ht
          simp only [forceBool_eq] at h
          cases neg with
          | true => exact ok_val h (by simp [opv, mkOf, ha, hb, hn, ht, made])
          | false => exact ok_val h (by simp [opv, mkOf, ha, hb, hn, ht, made])
        · cases h
      · cases h
    · cases h
  | not a =>
    simp only [opvK, o_not, evo_eq] at h
    split at h
    · rename_i t ht
      rw [forceBool_eq] at h
      exact ok_val h (by simp [opv, mkOf, ht, made])
    · cases h
  | mkfunc f caps =>
    simp only [opvK, o_mkfunc, evos_eq] at h
    exact ok_val h rfl
  | makeSlice esz z l c =>
    simp only [opvK, o_makeSlice, evo_eq] at h
    split at h
    · rename_i p q hl hc
      rw [cond_ble] at h
      split at h
      · rename_i h1
        rw [cond_ble] at h
        split at h
        · rename_i h2
          rw [replL_eq] at h
          obtain ⟨H', h3, h4⟩ := pushRow_spec h
          refine ⟨_, H', ?_, h4⟩
          simp only [opv, mkOf, hl, hc]
          rw [if_pos ⟨by simp, by simpa using h1, by simp only [Int.ofNat_eq_natCast]; have : q ≤ maxEls := h2; exact Int.ofNat_le.2 this⟩, h3]
          simp [made, abs_len]
        · cases h
      · cases h
    · cases h
  | slice esz a lo hi mx =>
    simp only [opvK, o_slice, evo_eq] at h
    split at h
    · rename_i ha
      obtain ⟨l, hh, m, h1, h2⟩ := sliceBK_eq E 0 0 lo hi mx _ h
      exact ok_val h2 (by simp [opv, mkOf, ha, sliceTo, h1, made])
    · rename_i b o len cap e tail ha
      rw [cond_beq] at h
      split at h
      · rename_i he
        rw [cond_ble] at h
        split at h
        · rename_i hl
          obtain ⟨l, hh, m, h1, h2⟩ := sliceBK_eq E len cap lo hi mx _ h
          rw [force3_eq, forceBool_eq] at h2
          refine ok_val h2 ?_
          simp only [opv, mkOf, ha, sliceTo]
          rw [if_pos ⟨he, hl⟩, h1]
          rfl
        · cases h
      · cases h
    · cases h
  | field off a =>
    simp only [opvK, o_field, evo_eq] at h
    split at h
    · rename_i b o ha
      rw [forceNat_eq] at h
      exact ok_val h (by simp [opv, mkOf, ha, made])
    · cases h
  | index esz a i =>
    simp only [opvK, o_index, evo_eq] at h
    split at h
    · rename_i b o len cap e tl kd j ha hi
      rw [cond_ble] at h
      split at h
      · rename_i hj
        rw [forceNat_eq] at h
        refine ok_val h ?_
        simp only [opv, mkOf, ha, hi]
        rw [if_pos ⟨by simp, by simp only [Int.ofNat_eq_natCast]; have : j < len := hj; omega⟩]
        rfl
      · cases h
    · cases h
  | extract a i =>
    simp only [opvK, o_extract, evo_eq] at h
    split at h
    · rename_i vs ha
      split at h
      · rename_i v hv
        exact ok_val h (by simp [opv, mkOf, ha, hv, made])
      · cases h
    · cases h
  | len a =>
    simp only [opvK, o_len, evo_eq] at h
    split at h
    · rename_i b o len cap e tl ha; exact ok_val h (by simp [opv, mkOf, ha, made])
    · rename_i ha; exact ok_val h (by simp [opv, mkOf, ha, made])
    · cases h
  | append esz s a =>
    simp only [opvK, o_append, evo_eq] at h
    obtain ⟨n, l, h1, h2⟩ := elemsK_spec h
    obtain ⟨v, H', h3, h4⟩ := appendK_spec h2
    exact ⟨v, H', by simp only [opv, h1, Option.bind_some]; exact h3, h4⟩
  | mapGet ok kd z m a =>
    simp only [opvK, o_mapGet, evo_eq] at h
    split at h
    · rename_i kd' n ha
      cases hk : kindEq kd kd' with
      | false => rw [hk] at h; cases h
      | true =>
        rw [hk, cond_true] at h
        obtain ⟨es, h1, h2⟩ := entriesK_spec h
        have hkk := kindEq_iff.1 hk
        have key : ∀ r, mfindK kd n es = some r → opv (.mapGet ok kd z m a) (envOf E) (abs H) = some (match r with | some v => if ok then .tup [v, .bool true] else v | none => if ok then .tup [z, .bool false] else z, abs H) := by
          intro r hr
          obtain ⟨q, hq, hqr⟩ := mfindK_eq kd n es 0 hr
          simp only [opv, mkOf, ha, mapGetOf]
          rw [if_pos hkk, h1, Option.bind_some, hq]
          subst hqr
          cases q <;> rfl
        split at h2
        · rename_i v hv
          have := key _ hv
          cases ok with
          | true => exact ok_val h2 this
          | false => exact ok_val h2 this
        · rename_i hv
          have := key _ hv
          cases ok with
          | true => exact ok_val h2 this
          | false => exact ok_val h2 this
        · cases h2
    · cases h
  | mapLen m =>
    simp only [opvK, o_mapLen, evo_eq] at h
    obtain ⟨es, h1, h2⟩ := entriesK_spec h
    rw [forceNat_eq] at h2
    exact ok_val h2 (by simp [opv, mkOf, h1, made])
  | store n a v =>
    simp only [opvK, o_store, evo_eq] at h
    split at h
    · rename_i b o ha
      rw [cond_beq] at h
      split at h
      · rename_i hn
        obtain ⟨H', h1, h2⟩ := storeNK_spec h
        exact ⟨_, H', by simp [opv, ha, hn, h1], h2⟩
      · cases h
    · cases h
  | copy esz d s =>
    simp only [opvK, o_copy, evo_eq] at h
    split at h
    · rename_i b o len cap e tl b' o' len' cap' e' tl' hd hs
      rw [forceNat_eq] at h
      have hmin : (cond (Nat.ble len' len) len' len) = min len' len := by rw [cond_ble]; split <;> omega
      rw [hmin, cond_beq] at h
      split at h
      · rename_i h0
        exact ok_val h (by simp only [opv, hd, hs]; rw [if_pos h0]; rfl)
      · rename_i h0
        obtain ⟨cs, h1, h2⟩ := loadNK_spec h
        obtain ⟨H', h3, h4⟩ := storeNK_spec h2
        refine ⟨_, H', ?_, h4⟩
        simp only [opv, hd, hs]
        rw [if_neg h0, show min len' len * esz = Nat.mul (min len' len) esz from rfl, h1, Option.bind_some, h3]
        rfl
    · rename_i hd hs; exact ok_val h (by simp only [opv, hd, hs]; rfl)
    · rename_i hd hs; exact ok_val h (by simp only [opv, hd, hs]; rfl)
    · rename_i hd hs; exact ok_val h (by simp only [opv, hd, hs]; rfl)
    · cases h
  | clear z s =>
    simp only [opvK, o_clear, evo_eq] at h
    split at h
    · rename_i b o len cap e tl hs
      rw [cond_beq] at h
      split at h
      · rename_i h0
        exact ok_val h (by simp only [opv, hs]; rw [if_pos h0])
      · rename_i h0
        rw [replL_eq] at h
        obtain ⟨H', h1, h2⟩ := storeNK_spec h
        refine ⟨_, H', ?_, h2⟩
        simp only [opv, hs]
        rw [if_neg h0, h1]
        rfl
    · rename_i hs; exact ok_val h (by simp only [opv, hs])
    · cases h
  | mapSet kd m a v =>
    simp only [opvK, o_mapSet, evo_eq] at h
    split at h
    · rename_i b kd' n hm ha
      cases hk : kindEq kd kd' with
      | false => rw [hk] at h; cases h
      | true =>
        rw [hk, cond_true] at h
        cases hl : leaf ((envOf E).ev v) with
        | false => rw [hl] at h; cases h
        | true =>
          rw [hl, cond_true] at h
          obtain ⟨es, h1, h2⟩ := entriesK_spec h
          obtain ⟨q, es', h3, h4, h5⟩ := mputK_eq kd n _ es 0 h2
          obtain ⟨H', h6, h7⟩ := setEK_spec h4
          refine ⟨_, H', ?_, h7⟩
          simp only [opv, hm, ha, mapSetOf]
          rw [if_pos ⟨kindEq_iff.1 hk, hl⟩, h1, Option.bind_some, h3, Option.bind_some]
          cases q with
          | none => simp only at h5 ⊢; rw [← h5, h6]; rfl
          | some p => simp only [Nat.sub_zero] at h5 ⊢; rw [← h5.2, h6]; rfl
    · cases h
  | mapDel kd m a =>
    simp only [opvK, o_mapDel, evo_eq] at h
    split at h
    · rename_i b kd' n hm ha
      cases hk : kindEq kd kd' with
      | false => rw [hk] at h; cases h
      | true =>
        rw [hk, cond_true] at h
        obtain ⟨es, h1, h2⟩ := entriesK_spec h
        obtain ⟨q, es', h3, h4, h5⟩ := mdelK_eq kd n es 0 h2
        obtain ⟨H', h6, h7⟩ := setEK_spec h4
        refine ⟨_, H', ?_, h7⟩
        simp only [opv, hm, ha, mapDelOf]
        rw [if_pos (kindEq_iff.1 hk), h1, Option.bind_some, h3, Option.bind_some]
        cases q with
        | none => simp only at h5 ⊢; rw [← h5, h6]; rfl
        | some p => simp only [Nat.sub_zero] at h5 ⊢; rw [← h5.2, h6]; rfl
    · rename_i kd' n hm ha
      cases hk : kindEq kd kd' with
      | false => rw [hk] at h; cases h
      | true =>
        rw [hk, cond_true] at h
        exact ok_val h (by simp only [opv, hm, ha, mapDelOf]; rw [if_pos (kindEq_iff.1 hk)]; rfl)
    · cases h
  | mapClear m =>
    simp only [opvK, o_mapClear, evo_eq] at h
    split at h
    · rename_i b hm
      obtain ⟨H', h1, h2⟩ := setEK_spec h
      exact ⟨_, H', by simp only [opv, hm]; rw [h1]; rfl, h2⟩
    · rename_i hm; exact ok_val h (by simp only [opv, hm])
    · cases h
  | mkif t a => simp only [opvK, o_mkif, evo_eq] at h; exact ok_val h rfl
  | mkmeth n a => simp only [opvK, o_mkmeth, evo_eq] at h; exact ok_val h rfl
  | call f l => cases h
  | callv g l => cases h
  | callm g l t => cases h
  | invk n y l t => cases h

/-! ### Calls -/

def SimK (F : CallK) (G : CallF) : Prop := ∀ f args H v H', F f args H = some (v, H') → G f args (abs H) = some (v, abs H')

theorem thenK_spec {r : Option (CV × KH)} (h : thenK r k = some x) : ∃ v H', r = some (v, H') ∧ k v H' = some x := by
  unfold thenK at h
  split at h
  · exact ⟨_, _, rfl, h⟩
  · cases h

theorem setAllK_spec : ∀ (ps vs env : List CV) {k : List CV → Option R}, setAllK ps vs env k = some x → k (setAll env ps vs) = some x
  | [], vs, env, k, h => by
    unfold setAllK at h
    cases vs <;> simpa [setAll] using h
  | p :: ps, vs, env, k, h => by
    cases p with
    | int kd n =>
      cases n with
      | ofNat t =>
        cases vs with
        | nil => cases h
        | cons v vs' =>
          have h : spliceK env t [v] (fun env => setAllK ps vs' env k) = some x := h
          obtain ⟨h1, h2⟩ := spliceK_eq _ _ _ h
          have := setAllK_spec _ _ _ h2
          show k (setAll (env.set t v) ps vs') = some x
          have hs : env.set t v = splice env t [v] := by
            refine List.ext_getElem? fun i => ?_
            simp only [List.length_singleton] at h1
            unfold splice
            by_cases hi : i = t
            · subst hi
              rw [List.getElem?_set_self (by omega), List.append_assoc, List.getElem?_append_right (by simp; omega)]
              simp [show min i env.length = i from by omega]
            · rw [List.getElem?_set_ne (Ne.symm hi), List.append_assoc]
              by_cases hlt : i < t
              · rw [List.getElem?_append_left (by simp; omega), List.getElem?_take, if_pos hlt]
              · rw [List.getElem?_append_right (by simp; omega), List.getElem?_append_right (by simp; omega), List.getElem?_drop]
                congr 1
                simp only [List.length_take, List.length_singleton]
                omega
          rw [hs]
          exact this
      | negSucc t => cases vs <;> cases h
    | _ => cases vs <;> cases h

theorem yieldK_spec {F : CallK} {G : CallF} (hF : SimK F G) {b : Nat} {args : List CV} (h : yieldK F b args H k = some x) : ∃ v H', yieldOf G b args (abs H) = some (v, abs H') ∧ k v H' = some x := by
  unfold yieldK at h
  split at h
  case h_2 => cases h
  rename_i ps env z hb
  rw [cond_beq] at h
  split at h
  case isFalse => cases h
  rename_i hl
  have h := setAllK_spec _ _ _ h
  split at h
  case h_2 => cases h
  rename_i env1 H1 hf
  split at h
  case h_2 => cases h
  rename_i ps1 e1 z1 hb1
  rw [cond_beq] at h
  split at h
  case isFalse => cases h
  rename_i hz
  subst hz
  unfold setB at h
  dsimp only at h
  split at h
  case h_2 => cases h
  rename_i j H3 hf2
  split at h
  case h_2 => cases h
  rename_i s3 ps3 e3 z3 hb3
  have g0 := (getB_obj hb).2
  have g1 := getB_obj hb1
  have g3 := getB_obj hb3
  have f1 := hF _ _ _ _ _ hf
  have f2 := hF _ _ _ _ _ hf2
  rw [abs_set g1.1] at f2
  have key : ∀ (s' : Int) (tv : Bool), s' = (if (j : Int) = 0 then 0 else (j : Int) + 1) → tv = ((j : Int) == 0) → yieldOf G b args (abs H) = some (.bool tv, (abs H3).set b (loopBlk s' ps3 e3 z3)) := by
    intro s' tv h1 h2
    unfold yieldOf
    rw [g0]
    simp only [Nat.succ_eq_add_one]
    rw [if_pos (by simp [hl]), show RB + z1 = Nat.add RB z1 from rfl, f1, Option.bind_some]
    unfold yieldBody
    simp only [g1.2]
    rw [if_pos (by simp), show RB + z1 + 1 = Nat.succ (Nat.add RB z1) from rfl]
    have f2' : G (Nat.succ (Nat.add RB z1)) env1 ((abs H1).set b (loopBlk 1 ps1 e1 z1)) = some (.int .i64 (.ofNat j), abs H3) := f2
    rw [f2', Option.bind_some]
    simp only [g3.2]
    rw [h1, h2]
    rfl
  rw [cond_beq] at h
  split at h
  · rename_i hj
    subst hj
    refine ⟨_, _, ?_, h⟩
    rw [key 0 true (by simp) (by simp), abs_set g3.1]
    rfl
  · rename_i hj
    rw [forceNat_eq] at h
    refine ⟨_, _, ?_, h⟩
    rw [key (j + 1) false (by rw [if_neg (by omega)]) (by simp; omega), abs_set g3.1]
    simp only [absB, loopBlk, CV.i]
    rfl

theorem opcK_spec {F : CallK} {G : CallF} (hF : SimK F G) {op : COp} (h : opcK F op E H k = some x) : ∃ v H', opc G op (envOf E) (abs H) = some (v, abs H') ∧ k v H' = some x := by
  unfold opcK at h
  cases op with
  | call f l =>
    simp only [callOp, cond_true, callK, c_call, evos_eq] at h
    obtain ⟨v, H', h1, h2⟩ := thenK_spec h
    exact ⟨v, H', hF _ _ _ _ _ h1, h2⟩
  | callv g l =>
    simp only [callOp, cond_true, callK, c_callv, evos_eq, evo_eq] at h
    split at h
    · rename_i f caps hg
      rw [cond_ble] at h
      split at h
      · rename_i hf
        rw [appL_eq] at h
        obtain ⟨v, H', h1, h2⟩ := thenK_spec h
        refine ⟨v, H', ?_, h2⟩
        simp only [opc, hg]
        rw [if_pos (show f < RB from hf)]
        exact hF _ _ _ _ _ h1
      · cases h
    · rename_i b hg
      obtain ⟨v, H', h1, h2⟩ := yieldK_spec hF h
      exact ⟨v, H', by simp only [opc, hg]; exact h1, h2⟩
    · cases h
  | callm g l tbl =>
    simp only [callOp, cond_true, callK, c_callm, evos_eq, evo_eq] at h
    split at h
    · rename_i f caps hg
      rw [cond_ble] at h
      split at h
      · rename_i hf
        rw [appL_eq] at h
        obtain ⟨v, H', h1, h2⟩ := thenK_spec h
        refine ⟨v, H', ?_, h2⟩
        simp only [opc, hg]
        rw [if_pos (show f < RB from hf)]
        exact hF _ _ _ _ _ h1
      · cases h
    · rename_i name t y hg
      split at h
      · rename_i f hf
        obtain ⟨v, H', h1, h2⟩ := thenK_spec h
        refine ⟨v, H', ?_, h2⟩
        simp only [opc, hg]
        rw [hf]
        exact hF _ _ _ _ _ h1
      · cases h
    · rename_i b hg
      obtain ⟨v, H', h1, h2⟩ := yieldK_spec hF h
      exact ⟨v, H', by simp only [opc, hg]; exact h1, h2⟩
    · cases h
  | invk name y l tbl =>
    simp only [callOp, cond_true, callK, c_invk, evos_eq, evo_eq] at h
    split at h
    · rename_i t y' hg
      split at h
      · rename_i f hf
        obtain ⟨v, H', h1, h2⟩ := thenK_spec h
        refine ⟨v, H', ?_, h2⟩
        simp only [opc, hg]
        rw [hf]
        exact hF _ _ _ _ _ h1
      · cases h
    · cases h
  | _ =>
    rw [show callOp _ = false from rfl, cond_false] at h
    exact opvK_spec h

/-! ### Regions -/

theorem envOf_set (E : Tr CV) (d : Nat) (v : CV) : envOf (E.set d v) = (envOf E).upd d v := by
  funext t
  simp only [envOf, get_set, Env.upd]
  split <;> rfl

theorem putK_eq (E : Tr CV) (d : Option Nat) (v : CV) (k : Tr CV → Option R) : ∃ E', putK E d v k = k E' ∧ envOf E' = (envOf E).put d v := by
  cases d with
  | none => exact ⟨E, rfl, rfl⟩
  | some d => exact ⟨E.set d v, rfl, envOf_set E d v⟩

theorem wantedK_eq (g : Option (Nat × Bool)) (E : Tr CV) (k : Bool → Option R) : wantedK g E k = k (wanted g (envOf E)) := by
  cases g with
  | none => rfl
  | some q =>
    obtain ⟨t, want⟩ := q
    simp only [wantedK, wanted, envOf]
    cases hx : E.get t with
    | none => rfl
    | some v =>
      cases v <;> first | rfl | skip
      rename_i b
      simp only [forceBool_eq, Option.getD_some]
      congr 1
      cases b <;> cases want <;> rfl

theorem evOpsK_spec {F : CallK} {G : CallF} (hF : SimK F G) : ∀ {l : List CStmt} {E : Tr CV} {H : KH} {k : Tr CV → KH → Option R}, evOpsK F l E H k = some x → ∃ E' H', evOps G l (envOf E) (abs H) = some (envOf E', abs H') ∧ k E' H' = some x
  | [], E, H, k, h => ⟨E, H, rfl, h⟩
  | ⟨d, g, op⟩ :: r, E, H, k, h => by
    unfold evOpsK at h
    rw [wantedK_eq] at h
    unfold evOps evStmt
    simp only
    cases hw : wanted g (envOf E) with
    | true =>
      rw [hw, cond_true] at h
      obtain ⟨v, H', h1, h2⟩ := opcK_spec hF h
      obtain ⟨E1, e1, e2⟩ := putK_eq E d v fun E' => evOpsK F r E' H' k
      rw [e1] at h2
      obtain ⟨E2, H2, h3, h4⟩ := evOpsK_spec hF h2
      refine ⟨E2, H2, ?_, h4⟩
      simp only [if_true, h1, Option.map_some, Option.bind_some, ← e2]
      exact h3
    | false =>
      rw [hw, cond_false] at h
      obtain ⟨E1, e1, e2⟩ := putK_eq E d .undef fun E' => evOpsK F r E' H k
      rw [e1] at h
      obtain ⟨E2, H2, h3, h4⟩ := evOpsK_spec hF h
      refine ⟨E2, H2, ?_, h4⟩
      simp only [Bool.false_eq_true, if_false, Option.bind_some, ← e2]
      exact h3

theorem cvEq_sound {v u : CV} (h : cvEq v u = true) : v = u := by
  unfold cvEq at h
  split at h
  · simp only [Bool.and_eq_true, kindEq_iff, eqK_eq, beq_iff_eq] at h; rw [h.1, h.2]
  · rfl
  · rfl
  · simp only [Bool.and_eq_true, nbeq, decide_eq_true_eq] at h; rw [h.1, h.2]
  · rfl
  · rename_i b o l c e t b' o' l' c' e' t'
    simp only [Bool.and_eq_true, nbeq, decide_eq_true_eq] at h
    obtain ⟨rfl, rfl, rfl, rfl, rfl, h⟩ := h
    cases t <;> cases t' <;> simp_all
  · rfl
  · rfl
  · simp only [nbeq, decide_eq_true_eq] at h; rw [h]
  · rfl
  · simp only [nbeq, decide_eq_true_eq] at h; rw [h]
  · cases h

theorem cvEqL_sound : ∀ {l r : List CV}, cvEqL l r = true → l = r
  | [], [], _ => rfl
  | [], _ :: _, h => by cases h
  | _ :: _, [], h => by cases h
  | v :: l, u :: r, h => by
    simp only [cvEqL, Bool.and_eq_true] at h
    rw [cvEq_sound h.1, cvEqL_sound h.2]

theorem cvEq'_sound {v u : CV} (h : cvEq' v u = true) : v = u := by
  unfold cvEq' at h
  split at h
  · rw [cvEqL_sound h]
  · rw [cvEqL_sound h]
  · exact cvEq_sound h

/-- An operation that reads memory makes nothing. -/
theorem readOp_mk {op : COp} (hr : readOp op = true) {E : Env} {H : CHeap} {v : CV} {H' : CHeap} (h : opv op E H = some (v, H')) : mkOf op E H = some (none, fun _ => v) ∧ H' = H := by
  have key : ∀ {o : Option CV}, mkOf op E H = o.map (fun v => (none, fun _ => v)) → opv op E H = (mkOf op E H).map (made H) → mkOf op E H = some (none, fun _ => v) ∧ H' = H := by
    intro o h1 h2
    rw [h2, h1] at h
    cases o with
    | none => cases h
    | some u =>
      simp only [Option.map_some, made, Option.some.injEq, Prod.mk.injEq] at h
      obtain ⟨rfl, rfl⟩ := h
      exact ⟨h1, rfl⟩
  cases op with
  | load agg n a =>
    refine key (o := match E.ev a with | .ptr b o => if agg then (loadN H b o n).map .agg else load1 H b o | _ => none) ?_ rfl
    cases hx : E.ev a with
    | ptr b o => cases agg <;> simp only [mkOf, hx, Bool.false_eq_true, if_false, if_true, Option.map_map] <;> rfl
    | _ => simp only [mkOf, hx] <;> rfl
  | mapGet ok kd z m a => exact key (o := mapGetOf H ok kd z (E.ev m) (E.ev a)) rfl rfl
  | mapLen m => exact key (o := (entriesOf H (E.ev m)).map fun es => .i es.length) (by simp only [mkOf, Option.map_map]; rfl) rfl
  | _ => cases hr

theorem readsK_spec {op : COp} (hr : readOp op = true) {E : Tr CV} {v : CV} : ∀ {hs : List KH}, readsK op E v hs = true → ∀ H' ∈ hs.map abs, mkOf op (envOf E) H' = some (none, fun _ => v)
  | [], _, H', hm => by cases hm
  | K :: hs, h, H', hm => by
    unfold readsK at h
    split at h
    · rename_i ho
      obtain ⟨u, K', h1, h2⟩ := opvK_spec (R := Bool) ho
      simp only [Option.some.injEq] at h2
      have := cvEq'_sound h2
      subst this
      rcases List.mem_cons.1 hm with rfl | hm
      · exact (readOp_mk hr h1).1
      · exact readsK_spec hr h H' hm
    · cases h

theorem dropK_eq : ∀ (n : Nat) (l : List KH), dropK l n = l.take (l.length - n)
  | 0, l => by cases l <;> simp [dropK]
  | n + 1, [] => by simp [dropK]
  | n + 1, K :: l => by
    simp only [dropK]
    rw [dropK_eq n (K :: l), List.dropLast_eq_take, List.take_take]
    congr 1
    simp only [List.length_take, List.length_cons]
    omega

theorem steadyK_spec {op : COp} (h : steadyK op E H k = some x) : ∃ m H', mkOf op (envOf E) (abs H) = some m ∧ (made (abs H) m).2 = abs H' ∧ k (made (abs H) m).1 H' = some x := by
  unfold steadyK at h
  cases hp : isApp op with
  | true =>
    rw [hp, cond_true] at h
    cases op with
    | append esz s a =>
      simp only [appOp, s_append, evo_eq] at h
      obtain ⟨n, l, h1, h2⟩ := elemsK_spec h
      have fin : ∀ {m : Option Blk × (Nat → CV)}, appendK H esz ((envOf E).ev s) n l k = some x → appendMk (abs H) esz ((envOf E).ev s) n l = some m → appendTo (abs H) esz ((envOf E).ev s) n l = some (made (abs H) m) →
          ∃ m H', mkOf (.append esz s a) (envOf E) (abs H) = some m ∧ (made (abs H) m).2 = abs H' ∧ k (made (abs H) m).1 H' = some x := by
        intro m g1 g2 g3
        obtain ⟨v, H', h3, h4⟩ := appendK_spec g1
        rw [g3, Option.some.injEq] at h3
        refine ⟨m, H', by simp only [mkOf, h1, Option.bind_some]; exact g2, by rw [h3], by rw [h3]; exact h4⟩
      split at h2
      · rename_i hs
        rw [hs] at fin h2
        by_cases h0 : n = 0
        · exact fin h2 (m := (none, fun _ => .nilSlice)) (by simp [appendMk, h0]) (by simp [appendTo, h0, made])
        · by_cases hm : n ≤ maxEls
          · exact fin h2 (m := (some ⟨l, .rw, esz⟩, fun k => .slice k 0 n n esz true)) (by simp only [appendMk, if_neg h0, if_pos hm]) (by simp only [appendTo, if_neg h0, if_pos hm, made])
          · obtain ⟨v, H', h3, _⟩ := appendK_spec h2
            simp only [appendTo, if_neg h0, if_neg hm] at h3
            cases h3
      · rename_i b o len cap e tail hs
        rw [hs] at fin h2
        rw [cond_beq] at h2
        split at h2
        · rename_i h0
          exact fin h2 (m := (none, fun _ => .slice b o len cap e tail)) (by simp [appendMk, h0]) (by simp [appendTo, h0, made])
        · rename_i h0
          cases tail with
          | true => rw [cond_true] at h2; cases h2
          | false =>
            rw [cond_false, cond_ble] at h2
            split at h2
            · cases h2
            · rename_i hc
              have hc' : ¬ len + n ≤ cap := hc
              obtain ⟨v, H', h3, _⟩ := appendK_spec h2
              simp only [appendTo, if_neg h0, if_neg hc'] at h3
              by_cases hm : len + n ≤ maxEls
              · rw [if_pos hm, Option.bind_eq_some_iff] at h3
                obtain ⟨old, ho, h3⟩ := h3
                refine fin h2 (m := (some ⟨old ++ l, .rw, esz⟩, fun k => .slice k 0 (len + n) (len + n) esz true)) ?_ ?_
                · simp only [appendMk, if_neg h0]
                  rw [if_pos ⟨trivial, by omega, hm⟩, ho]
                  rfl
                · simp only [appendTo, if_neg h0, if_neg hc', if_pos hm, ho, Option.bind_some, Bool.false_eq_true, if_false, made]
              · rw [if_neg hm] at h3; cases h3
      · cases h2
    | _ => cases hp
  | false =>
    rw [hp, cond_false] at h
    cases hc : changeOp op with
    | true => rw [hc, cond_true] at h; cases h
    | false =>
      rw [hc, cond_false] at h
      obtain ⟨v, H', h1, h2⟩ := opvK_spec h
      have he : opv op (envOf E) (abs H) = (mkOf op (envOf E) (abs H)).map (made (abs H)) := by
        cases op with
        | append _ _ _ => cases (show true = false from hp)
        | _ => first | rfl | cases hc
      rw [he, Option.map_eq_some_iff] at h1
      obtain ⟨m, hm, hq⟩ := h1
      exact ⟨m, H', hm, by rw [hq], by rw [hq]; exact h2⟩

open Classical in
theorem evDK_spec {F : CallK} {G : CallF} (hF : SimK F G) : ∀ {l : List DStmt} {E : Tr CV} {H : KH} {hs : List KH} {k : Tr CV → KH → Option R}, evDK F l E H hs k = some x → ∃ E' H', evD G l (envOf E) (abs H) (hs.map abs) = some (envOf E', abs H') ∧ k E' H' = some x
  | [], E, H, hs, k, h => ⟨E, H, rfl, h⟩
  | ⟨⟨d, g, op⟩, no, kind, low⟩ :: r, E, H, hs, k, h => by
    unfold evDK at h
    rw [wantedK_eq] at h
    unfold evD
    simp only
    cases hw : wanted g (envOf E) with
    | true =>
      rw [hw, cond_true, cond_beq] at h
      rw [if_neg (by simp)]
      split at h
      · rename_i h3
        rw [if_pos h3]
        obtain ⟨v, H', h1, h2⟩ := opcK_spec hF h
        obtain ⟨E1, e1, e2⟩ := putK_eq E d v fun E' => evDK F r E' H' (H :: hs) k
        rw [e1] at h2
        obtain ⟨E2, H2, h4, h5⟩ := evDK_spec hF h2
        exact ⟨E2, H2, by rw [h1, Option.bind_some, ← e2]; exact h4, h5⟩
      · rename_i h3
        rw [if_neg h3]
        obtain ⟨m, H', h1, h2, h4⟩ := steadyK_spec h
        have go : (kind = 1 → ∀ H' ∈ (hs.map abs).take ((hs.map abs).length - low), mkOf op (envOf E) H' = some m) → putK E d (made (abs H) m).1 (fun E' => evDK F r E' H' hs k) = some x →
            ∃ E' H', ((mkOf op (envOf E) (abs H)).bind fun m => if kind = 1 → ∀ H' ∈ (hs.map abs).take ((hs.map abs).length - low), mkOf op (envOf E) H' = some m then evD G r ((envOf E).put d (made (abs H) m).1) (made (abs H) m).2 (hs.map abs) else none) = some (envOf E', abs H') ∧ k E' H' = some x := by
          intro g1 g2
          obtain ⟨E1, e1, e2⟩ := putK_eq E d (made (abs H) m).1 fun E' => evDK F r E' H' hs k
          rw [e1] at g2
          obtain ⟨E2, H2, h5, h6⟩ := evDK_spec hF g2
          refine ⟨E2, H2, ?_, h6⟩
          rw [h1, Option.bind_some, if_pos g1, ← e2, h2]
          exact h5
        rw [cond_beq] at h4
        split at h4
        · rename_i hk
          split at h4
          · rename_i hd
            refine go (fun _ H' hm => ?_) h4
            rw [dropK_eq] at hd
            rw [← List.map_take, List.length_map, hd] at hm
            cases hm
          · rename_i l' hd
            cases hro : readOp op with
            | false => rw [hro] at h4; cases h4
            | true =>
              rw [hro, cond_true] at h4
              cases hrs : readsK op E (made (abs H) m).1 (dropK hs low) with
              | false => rw [hrs] at h4; cases h4
              | true =>
                rw [hrs, cond_true] at h4
                have hmk : m = (none, fun _ => (made (abs H) m).1) := by
                  have he : opv op (envOf E) (abs H) = (mkOf op (envOf E) (abs H)).map (made (abs H)) := by cases op <;> first | rfl | cases hro
                  have := (readOp_mk hro (v := (made (abs H) m).1) (H' := (made (abs H) m).2) (by rw [he, h1]; rfl)).1
                  rw [h1, Option.some.injEq] at this
                  exact this
                refine go (fun _ H' hm => ?_) h4
                rw [← List.map_take, List.length_map, ← dropK_eq] at hm
                rw [readsK_spec hro hrs H' hm, ← hmk]
        · rename_i hk
          exact go (fun e => absurd e hk) h4
    | false =>
      rw [hw, cond_false] at h
      rw [if_pos rfl]
      obtain ⟨E1, e1, e2⟩ := putK_eq E d .undef fun E' => evDK F r E' H (cond (Nat.beq kind 3) (H :: hs) hs) k
      rw [e1] at h
      obtain ⟨E2, H2, h3, h4⟩ := evDK_spec hF h
      refine ⟨E2, H2, ?_, h4⟩
      rw [← e2, ← h3]
      congr 1
      rw [cond_beq]
      split <;> rfl

/-! ### Code -/

theorem envOf_entry (args : List CV) : envOf (putAll .nil 0 args) = entry args := by
  funext t
  simp only [envOf, entry, putAll_get]
  by_cases h : t < args.length
  · rw [if_pos (by omega), Nat.sub_zero, List.getD_eq_getElem?_getD]
  · rw [if_neg (by omega), List.getD_eq_getElem?_getD, List.getElem?_eq_none (by omega)]
    rw [get_nil]

theorem resK_spec {r : CRes} {k : CV → Option R} (h : resK E H r k = some x) : ∃ v, resOf (envOf E) (abs H) r = some v ∧ k v = some x := by
  cases r with
  | tmp t =>
    refine ⟨_, rfl, ?_⟩
    simp only [resK] at h
    simp only [envOf]
    cases hx : E.get t with
    | none => rw [hx] at h; exact h
    | some v => rw [hx] at h; exact h
  | cell t agg n =>
    simp only [resK] at h
    split at h
    · rename_i b o hb
      have he : envOf E t = .ptr b o := by simp [envOf, hb]
      cases agg with
      | true =>
        obtain ⟨l, h1, h2⟩ := loadNK_spec h
        exact ⟨_, by simp only [resOf, he, if_true, h1, Option.map_some], h2⟩
      | false =>
        obtain ⟨v, h1, h2⟩ := load1K_spec h
        exact ⟨_, by simp only [resOf, he, Bool.false_eq_true, if_false, h1], h2⟩
    · cases h

theorem resAllK_spec : ∀ {l : List CRes} {k : List CV → Option R}, resAllK E H l k = some x → ∃ vs, resAll (envOf E) (abs H) l = some vs ∧ k vs = some x
  | [], k, h => ⟨[], rfl, h⟩
  | r :: l, k, h => by
    simp only [resAllK] at h
    obtain ⟨v, h1, h2⟩ := resK_spec h
    obtain ⟨vs, h3, h4⟩ := resAllK_spec h2
    exact ⟨v :: vs, by simp only [resAll, h1, h3, Option.bind_some, Option.map_some], h4⟩

theorem rangeList_eq (E : Tr CV) : ∀ (n : Nat) (acc : List CV) (k : List CV → Option R), rangeList E n acc k = k ((List.range n).map (envOf E) ++ acc)
  | 0, acc, k => rfl
  | n + 1, acc, k => by
    unfold rangeList
    have : ∀ v, envOf E n = v → k ((List.range n).map (envOf E) ++ (v :: acc)) = k ((List.range (n + 1)).map (envOf E) ++ acc) := by
      intro v hv
      rw [List.range_succ, List.map_append, List.map_singleton, hv, List.append_assoc, List.singleton_append]
    split
    · rename_i v hv
      rw [rangeList_eq E n, this v (by simp [envOf, hv])]
    · rename_i hv
      rw [rangeList_eq E n, this .undef (by simp [envOf, hv])]

theorem leaveK_spec {cf : CFunc} {cx : CX} {v : CV} {H' : KH} (h : leaveK cf cx E H = some (v, H')) : leave cf (cx, envOf E, abs H) = some (v, abs H') := by
  obtain ⟨n, rd, body, res⟩ := cf
  unfold leaveK at h
  unfold leave
  split at h
  · rename_i heq
    simp only [CFunc.mk.injEq] at heq
    obtain ⟨rfl, rfl, rfl, rfl⟩ := heq
    rw [if_neg (by simp), if_neg (by simp)]
    split at h
    · cases h
    · rename_i hx
      obtain ⟨vs, h1, h2⟩ := resAllK_spec h
      have hr : (results ⟨n, 0, body, res⟩ (envOf E) (abs H)).map (fun v => (v, abs H)) = some (v, abs H') := by
        simp only [results, h1, Option.map_some]
        split at h2
        · rename_i u
          simp only [Option.some.injEq, Prod.mk.injEq] at h2
          obtain ⟨rfl, rfl⟩ := h2
          rfl
        · rename_i hne
          simp only [Option.some.injEq, Prod.mk.injEq] at h2
          obtain ⟨rfl, rfl⟩ := h2
          split
          · rename_i u; exact absurd rfl (hne u)
          · rfl
      cases cx with
      | normal => exact hr
      | ret => exact hr
      | exit id => exact absurd rfl (hx id)
  · rename_i heq
    simp only [CFunc.mk.injEq] at heq
    obtain ⟨rfl, rfl, rfl, rfl⟩ := heq
    rw [if_neg (by simp), if_pos rfl]
    split at h
    · rw [rangeList_eq, Option.some.injEq, Prod.mk.injEq] at h
      obtain ⟨rfl, rfl⟩ := h
      simp
    · cases h
  · rename_i heq
    simp only [CFunc.mk.injEq] at heq
    obtain ⟨rfl, rfl, rfl, rfl⟩ := heq
    rw [if_pos rfl]
    cases cx with
    | normal => simp only [Option.some.injEq, Prod.mk.injEq] at h; obtain ⟨rfl, rfl⟩ := h; rfl
    | ret => simp only [Option.some.injEq, Prod.mk.injEq] at h; obtain ⟨rfl, rfl⟩ := h; rfl
    | exit id =>
      simp only [forceNat_eq, Option.some.injEq, Prod.mk.injEq] at h
      obtain ⟨rfl, rfl⟩ := h
      rfl
  · cases h

/-- What a table holds is so. -/
structure TabOk (T : Tab) (p : CProg) : Prop where
  code : ∀ f cf, T f = some (.code cf) → p f = some cf
  known : ∀ f g, T f = some (.known g) → ∀ args H v H', g args H = some (v, H') → run p f args (abs H) = some (v, abs H')

def SimC (ih : CodeK) (p : CProg) : Prop := ∀ c E H cx E' H', ih c E H = some (cx, E', H') → den p c (envOf E) (abs H) = some (cx, envOf E', abs H')

theorem funK_spec {T : Tab} {p : CProg} (hT : TabOk T p) {ih : CodeK} (hi : SimC ih p) : SimK (funK T ih) (run p) := by
  intro f args H v H' h
  unfold funK at h
  split at h
  · rename_i cf hf
    unfold bodyK entryK at h
    rw [cond_ble] at h
    split at h
    · rename_i hl
      dsimp only at h
      split at h
      · rename_i cx E1 H1 hx
        have h1 := hi _ _ _ _ _ _ hx
        rw [envOf_entry] at h1
        rw [run_eq (hT.code f cf hf) args hl, h1, Option.bind_some]
        exact leaveK_spec h
      · cases h
    · cases h
  · rename_i g hg
    exact hT.known f g hg args H v H' h
  · cases h

theorem e_skip_some {E : Tr CV} {H : KH} {cx : CX} {E' : Tr CV} {H' : KH} (h : e_skip E H = some (cx, E', H')) : cx = .normal ∧ E = E' ∧ H = H' := by
  simp only [e_skip, Option.some.injEq, Prod.mk.injEq] at h
  exact ⟨h.1.symm, h.2.1, h.2.2⟩

theorem evK_spec {T : Tab} {p : CProg} (hT : TabOk T p) : ∀ n, SimC (evK T n) p
  | 0 => fun _ _ _ _ _ _ h => by cases h
  | n + 1 => by
    have ih := evK_spec hT n
    have hF := funK_spec hT ih
    intro c E H cx E' H' h
    unfold evK at h
    rw [den_eq]
    have two : ∀ a b, e_seq (evK T n) a b E H = some (cx, E', H') → ((den p a (envOf E) (abs H)).bind fun r => match r.1 with | .normal => den p b r.2.1 r.2.2 | _ => some r) = some (cx, envOf E', abs H') := by
      intro a b h
      unfold e_seq e_then at h
      split at h
      · rename_i E1 H1 h1
        rw [ih _ _ _ _ _ _ h1, Option.bind_some]
        exact ih _ _ _ _ _ _ h
      · rename_i hne
        rw [ih _ _ _ _ _ _ h, Option.bind_some]
        cases cx with
        | normal => exact absurd h (hne _ _)
        | exit id => rfl
        | ret => rfl
    cases c with
    | skip => obtain ⟨rfl, rfl, rfl⟩ := e_skip_some h; rfl
    | region ops =>
      simp only [codeK, e_region] at h
      obtain ⟨E1, H1, h1, h2⟩ := evOpsK_spec hF h
      obtain ⟨rfl, rfl, rfl⟩ := e_skip_some h2
      simp only [h1, Option.map_some]
    | dregion ops =>
      simp only [codeK, e_dregion] at h
      obtain ⟨E1, H1, h1, h2⟩ := evDK_spec hF h
      obtain ⟨rfl, rfl, rfl⟩ := e_skip_some h2
      simp only [List.map_nil] at h1
      simp only [h1, Option.map_some]
    | seq a b => exact two a b h
    | cond c a b =>
      simp only [codeK, e_cond, evo_eq] at h
      split at h
      · rename_i hc; simp only [hc]; exact ih _ _ _ _ _ _ h
      · rename_i hc; simp only [hc]; exact ih _ _ _ _ _ _ h
      · cases h
    | block id c =>
      simp only [codeK, e_block] at h
      split at h
      · rename_i id' E1 H1 h1
        dsimp only
        rw [ih _ _ _ _ _ _ h1, Option.map_some]
        rw [cond_beq] at h
        split at h
        · rename_i he
          simp only [Option.some.injEq, Prod.mk.injEq] at h
          obtain ⟨rfl, rfl, rfl⟩ := h
          simp [CX.inBlock, he]
        · rename_i he
          simp only [Option.some.injEq, Prod.mk.injEq] at h
          obtain ⟨rfl, rfl, rfl⟩ := h
          simp [CX.inBlock, he]
      · rename_i hne
        dsimp only
        rw [ih _ _ _ _ _ _ h, Option.map_some]
        cases cx with
        | exit id' => exact absurd h (hne _ _ _)
        | normal => rfl
        | ret => rfl
    | loop c => exact two c (.loop c) h
    | rangeF g ps m z =>
      simp only [codeK, e_range, evo_eq] at h
      split at h
      · rename_i f caps hg
        rw [cond_ble] at h
        split at h
        · rename_i hf
          rw [rangeList_eq, List.append_nil] at h
          obtain ⟨H0, h1, h2⟩ := pushObj_spec h
          split at h2
          · rename_i v H1 hf1
            have f1 := hF _ _ _ _ _ hf1
            rw [h1] at f1
            split at h2
            · rename_i s ps' env' z' hb
              have g1 := getB_obj hb
              unfold setB at h2
              have hin : rangeIn (run p) ((envOf E).ev g) ps m z (envOf E) (abs H) = some (v, abs H1) := by
                unfold rangeIn
                rw [hg]
                dsimp only
                rw [if_pos (show f < RB from hf), abs_len]
                exact f1
              dsimp only
              rw [hin, Option.bind_some]
              unfold rangeOut
              rw [abs_len]
              simp only [g1.2]
              have hd : abs ⟨H1.tr.set H.size (.row .nil 0 .dead 0), H1.size⟩ = (abs H1).set H.size ⟨[], .dead, 0⟩ := by rw [abs_set g1.1]; rfl
              split at h2
              · simp only [Option.some.injEq, Prod.mk.injEq] at h2
                obtain ⟨rfl, rfl, rfl⟩ := h2
                rw [if_pos (by decide), hd]
              · simp only [Option.some.injEq, Prod.mk.injEq] at h2
                obtain ⟨rfl, rfl, rfl⟩ := h2
                rw [if_neg (by decide), if_pos (by decide), hd]
              · rename_i id
                simp only [Option.some.injEq, Prod.mk.injEq] at h2
                obtain ⟨rfl, rfl, rfl⟩ := h2
                rw [if_neg (by simp; omega), if_neg (by simp; omega), if_pos (by simp; omega), hd]
                simp
                omega
              · cases h2
            · cases h2
          · cases h2
        · cases h
      · cases h
    | exit id =>
      simp only [codeK, e_exit, Option.some.injEq, Prod.mk.injEq] at h
      obtain ⟨rfl, rfl, rfl⟩ := h
      rfl
    | ret =>
      simp only [codeK, e_ret, Option.some.injEq, Prod.mk.injEq] at h
      obtain ⟨rfl, rfl, rfl⟩ := h
      rfl

end
end Go.Cs.K
namespace Go.Cs.K
/-- All entries of a trie are good. -/
def AllTr {α : Type} (Q : Pth → α → Prop) : Tr α → Prop
  | .nil => True
  | .node v l r => (match v with | some x => Q .e x | none => True) ∧ AllTr (fun p => Q (.l p)) l ∧ AllTr (fun p => Q (.r p)) r

theorem AllTr.getP {α : Type} : ∀ {p : Pth} {t : Tr α} {Q : Pth → α → Prop}, AllTr Q t → ∀ {x : α}, K.getP p t = some x → Q p x
  | .e, .nil, _, _, x, h => by cases h
  | .l p, .nil, _, _, x, h => by cases h
  | .r p, .nil, _, _, x, h => by cases h
  | .e, .node v l r, Q, hg, x, h => by
    have h : v = some x := h
    subst h
    exact hg.1
  | .l p, .node v l r, Q, hg, x, h => AllTr.getP (p := p) hg.2.1 h
  | .r p, .node v l r, Q, hg, x, h => AllTr.getP (p := p) hg.2.2 h

theorem AllTr.get {α : Type} {t : Tr α} {Q : Nat → α → Prop} (h : AllTr (fun p => Q (dec p)) t) {i : Nat} {x : α} (e : t.get i = some x) : Q i x := by
  have := AllTr.getP h e
  simp only [dec_pth] at this
  exact this
end Go.Cs.K

/- What the evaluator knows of side tables: Next and Last. -/
noncomputable section
namespace Go.Cs.Tryz
open Go Go.Cs Go.Cs.K
set_option maxRecDepth 100000

theorem bitV_eq {W i : Nat} : bitV W i = ((W / 2 ^ (i % 64) % 2 : Nat) : Int) := by
  have h1 : ((i : Int).tmod 64).toNat = i % 64 := by
    rw [Int.tmod_eq_emod_of_nonneg (by omega)]; omega
  have h2 : min (i % 64) 64 = i % 64 := by omega
  have h3 : (W : Int).fdiv (2 ^ (i % 64)) = ((W / 2 ^ (i % 64) : Nat) : Int) := by
    have : ((2 : Int) ^ (i % 64)) = ((2 ^ (i % 64) : Nat) : Int) := by simp
    rw [this, Int.ofNat_fdiv]
  unfold bitV
  rw [h1, h2, h3]
  generalize W / 2 ^ (i % 64) = x
  have h4 : BitVec.ofInt 64 (IntKind.i64.wrap (x : Int)) = BitVec.ofNat 64 x := by
    apply BitVec.eq_of_toNat_eq
    rw [BitVec.toNat_ofInt, BitVec.toNat_ofNat]
    have e : ((2 : Int) ^ (64 : Nat)) = 18446744073709551616 := by decide
    have e2 : ((2 : Int) ^ (63 : Nat)) = 9223372036854775808 := by decide
    simp only [IntKind.wrap, IntKind.bits, IntKind.signed, e, Nat.reduceSub, e2, Bool.true_and, ge_iff_le, decide_eq_true_eq]
    split <;> omega
  rw [h4]
  have h5 : (BitVec.ofNat 64 x &&& BitVec.ofInt 64 1).toNat = x % 2 := by
    rw [BitVec.toNat_and, BitVec.toNat_ofNat]
    have : (BitVec.ofInt 64 1).toNat = 1 := by decide
    rw [this, Nat.and_one_is_mod]
    omega
  rw [h5]
  exact wrap_id (by omega)

section
variable {R : Type}

/-- Numbers without a sign. -/
def natsK : List CV → (List Nat → Option R) → Option R
  | [], k => k []
  | .int .u64 (.ofNat m) :: l, k => natsK l fun r => k (m :: r)
  | _ :: _, _ => none

theorem natsK_spec {x : R} : ∀ (l : List CV) {k : List Nat → Option R}, natsK l k = some x → ∃ r, l = r.map (fun (m : Nat) => CV.int .u64 m) ∧ k r = some x
  | [], k, h => ⟨[], rfl, h⟩
  | c :: l, k, h => by
    unfold natsK at h
    split at h
    · cases ‹c :: l = []›
    · rename_i m l' heq
      simp only [List.cons.injEq] at heq
      obtain ⟨rfl, rfl⟩ := heq
      obtain ⟨r, h1, h2⟩ := natsK_spec _ h
      exact ⟨m :: r, by rw [h1]; rfl, h2⟩
    · cases h

/-- A side table of one bit per entry: how many entries it has, and its words. -/
def sideK (H : KH) (b o : Nat) (k : Nat → List Nat → Option R) : Option R :=
  load1K H b o fun e => match e with
    | .int .i64 (.ofNat n) => load1K H b (Nat.succ o) fun w => match w with
      | .int .i64 (.ofNat 1) => load1K H b (Nat.succ (Nat.succ o)) fun s => match s with
        | .slice wb wo wl _ 1 _ => cond (Nat.ble n (Nat.mul 64 wl)) (cond (Nat.ble wl 1000000) (cond (Nat.ble 1 n) (loadNK H wb wo wl fun l => natsK l fun ws => k n ws) none) none) none
        | _ => none
      | _ => none
    | _ => none

theorem sideK_spec {H : KH} {b o : Nat} {k : Nat → List Nat → Option R} {x : R} (h : sideK H b o k = some x) : ∃ (n : Nat) (ws : List Nat) (wl : Nat), 0 < n ∧ Side (abs H) b o n wl (fun i => ((ws.getD i 0 : Nat) : Int)) ∧ k n ws = some x := by
  unfold sideK at h
  obtain ⟨e, h1, h⟩ := load1K_spec h
  split at h
  case h_2 => cases h
  rename_i n
  obtain ⟨w, h2, h⟩ := load1K_spec h
  split at h
  case h_2 => cases h
  obtain ⟨s, h3, h⟩ := load1K_spec h
  split at h
  case h_2 => cases h
  rename_i wb wo wl cap tl
  rw [cond_ble] at h
  split at h
  case isFalse => cases h
  rename_i c1
  rw [cond_ble] at h
  split at h
  case isFalse => cases h
  rename_i c2
  rw [cond_ble] at h
  split at h
  case isFalse => cases h
  rename_i c3
  obtain ⟨l, h4, h⟩ := loadNK_spec h
  obtain ⟨ws, h5, h⟩ := natsK_spec _ h
  refine ⟨n, ws, wl, c3, ⟨⟨wb, wo, cap, tl, by rw [← load1_ld]; exact h1, by rw [← load1_ld]; exact h2, by rw [← load1_ld]; exact h3, fun i hi => ?_⟩, ?_, c2⟩, h⟩
  · unfold loadN at h4
    unfold ld
    split at h4
    · rename_i blk hb
      split at h4
      · cases h4
      · rename_i hd
        split at h4
        · rename_i hle
          simp only [Option.some.injEq] at h4
          rw [hb]
          dsimp only
          rw [if_neg hd]
          have : ((blk.cells.drop wo).take wl)[i]? = (ws.map (fun (m : Nat) => CV.int .u64 m))[i]? := by rw [h4, h5]
          rw [List.getElem?_take, if_pos hi, List.getElem?_drop, List.getElem?_map] at this
          rw [this]
          have hl : ws.length = wl := by
            have := congrArg List.length h4
            rw [h5] at this
            simp at this
            omega
          rw [List.getElem?_eq_getElem (by omega), List.getD_eq_getElem?_getD, List.getElem?_eq_getElem (by omega)]
          rfl
        · cases h4
    · cases h4
  · have : n ≤ 64 * wl := c1
    omega

/-- An entry. -/
def bitK (ws : List Nat) (i : Nat) : Nat := Nat.mod (Nat.div (ws.getD (Nat.div i 64) 0) (Nat.pow 2 (Nat.mod i 64))) 2

theorem bitK_eq (ws : List Nat) (i : Nat) : getV (fun i => ((ws.getD i 0 : Nat) : Int)) i = bitK ws i := by
  unfold getV
  have : ((i : Int).tdiv 64).toNat = i / 64 := by rw [Int.tdiv_eq_ediv_of_nonneg (by omega)]; omega
  rw [this, bitV_eq]
  rfl

def upK (ws : List Nat) (v : Nat) : Nat → Nat → (CV → Option R) → Option R
  | 0, _, k => k (.tup [.int .i64 (.ofNat 0), .int .i64 (.ofNat 4)])
  | n + 1, j, k => cond (Nat.beq (bitK ws j) v) (k (.tup [.int .i64 (.ofNat j), .int .i64 (.ofNat 0)])) (forceNat (Nat.succ j) fun j => upK ws v n j k)

theorem upK_eq (ws : List Nat) (v : Nat) : ∀ (n j : Nat) (k : CV → Option R), upK ws v n j k = k (found (findUp (getV (fun i => ((ws.getD i 0 : Nat) : Int))) v n j))
  | 0, j, k => rfl
  | n + 1, j, k => by
    unfold upK findUp
    rw [cond_beq, forceNat_eq, bitK_eq, upK_eq ws v n (Nat.succ j)]
    by_cases h : bitK ws j = v
    · rw [if_pos h, if_pos (by omega)]; rfl
    · rw [if_neg h, if_neg (by omega)]
      simp

def downK (ws : List Nat) (v : Nat) : Nat → (CV → Option R) → Option R
  | 0, k => k (.tup [.int .i64 (.ofNat 0), .int .i64 (.ofNat 4)])
  | n + 1, k => cond (Nat.beq (bitK ws n) v) (k (.tup [.int .i64 (.ofNat n), .int .i64 (.ofNat 0)])) (downK ws v n k)

theorem downK_eq (ws : List Nat) (v : Nat) : ∀ (n : Nat) (k : CV → Option R), downK ws v n k = k (found (findDown (getV (fun i => ((ws.getD i 0 : Nat) : Int))) v n ((n : Int) - 1)))
  | 0, k => rfl
  | n + 1, k => by
    unfold downK findDown
    rw [cond_beq, downK_eq ws v n, show ((n + 1 : Nat) : Int) - 1 = n from by omega, bitK_eq]
    by_cases h : bitK ws n = v
    · rw [if_pos h, if_pos (by omega)]; rfl
    · rw [if_neg h, if_neg (by omega)]

def nextG (args : List CV) (H : KH) : Option (CV × KH) :=
  match args with
  | [.ptr b o, .int .i64 (.ofNat f), .int .i64 (.ofNat v)] => sideK H b o fun n ws => upK ws v (Nat.sub n f) f fun r => some (r, H)
  | _ => none

def lastG (args : List CV) (H : KH) : Option (CV × KH) :=
  match args with
  | [.ptr b o, .int .i64 (.ofNat f), .int .i64 (.ofNat v)] => sideK H b o fun n ws => downK ws v (cond (Nat.ble f n) f n) fun r => some (r, H)
  | _ => none

theorem nextG_ok {args : List CV} {H : KH} {v : CV} {H' : KH} (h : nextG args H = some (v, H')) : run P 157 args (abs H) = some (v, abs H') := by
  unfold nextG at h
  split at h
  · rename_i b o f u
    obtain ⟨n, ws, wl, hn, hs, h⟩ := sideK_spec h
    rw [upK_eq, Option.some.injEq, Prod.mk.injEq] at h
    obtain ⟨rfl, rfl⟩ := h
    have := g157 hs (f := f) (v := u) (by omega)
    rw [show (if 0 > (f : Int) then 0 else (f : Int)) = f from if_neg (by omega), show ((n : Int) - (f : Int)).toNat = n - f from by omega] at this
    exact this
  · cases h

theorem lastG_ok {args : List CV} {H : KH} {v : CV} {H' : KH} (h : lastG args H = some (v, H')) : run P 189 args (abs H) = some (v, abs H') := by
  unfold lastG at h
  split at h
  · rename_i b o f u
    obtain ⟨n, ws, wl, hn, hs, h⟩ := sideK_spec h
    rw [downK_eq, Option.some.injEq, Prod.mk.injEq] at h
    obtain ⟨rfl, rfl⟩ := h
    have hc : (cond (Nat.ble f n) f n) = min f n := by rw [cond_ble]; split <;> omega
    rw [hc]
    have := g189 hs (f := f) (v := u) (by omega) ((min f n : Nat) : Int) (by rw [show (if 0 > (f : Int) then 0 else (f : Int)) = f from if_neg (by omega)]; split <;> omega)
    rw [Int.toNat_natCast] at this
    exact this
  · cases h
end
end Go.Cs.Tryz

/- The evaluator on code whose operations are turned into functions beforehand: what the kernel has to unfold at each step is small. -/
noncomputable section
namespace Go.Cs.K
open Go Go.Cs

abbrev R0 := CX × Tr CV × KH

inductive SOps where
  | nil
  | vd (d : Nat) (op : OpK R0) (r : SOps)
  | vg (d t : Nat) (w : Bool) (op : OpK R0) (r : SOps)
  | v (d : Option Nat) (g : Option (Nat × Bool)) (op : OpK R0) (r : SOps)
  | cd (d : Nat) (op : CallK → OpK R0) (r : SOps)
  | c (d : Option Nat) (g : Option (Nat × Bool)) (op : CallK → OpK R0) (r : SOps)

inductive SCode where
  | skip
  | ops (l : SOps)
  | dregion (ops : List DStmt)
  | seq (a b : SCode)
  | cond (c : Opd) (a b : SCode)
  | block (id : Nat) (c : SCode)
  | loop (c : SCode)
  | rangeF (g : Opd) (ps : List Nat) (n z : Nat)
  | exit (id : Nat)
  | ret

def sStmt : CStmt → SOps → SOps
  | ⟨some d, none, op⟩, r => cond (callOp op) (.cd d (callK op) r) (.vd d (opvK op) r)
  | ⟨some d, some (t, w), op⟩, r => cond (callOp op) (.c (some d) (some (t, w)) (callK op) r) (.vg d t w (opvK op) r)
  | ⟨none, g, op⟩, r => cond (callOp op) (.c none g (callK op) r) (.v none g (opvK op) r)

def sOps : List CStmt → SOps
  | [] => .nil
  | s :: l => sStmt s (sOps l)

def toS : CCode → SCode
  | .skip => .skip
  | .region l => .ops (sOps l)
  | .dregion l => .dregion l
  | .seq a b => .seq (toS a) (toS b)
  | .cond c a b => .cond c (toS a) (toS b)
  | .block id c => .block id (toS c)
  | .loop c => .loop (toS c)
  | .rangeF g ps n z => .rangeF g ps n z
  | .exit id => .exit id
  | .ret => .ret

/-- A function turned: what leaves it (its body does not count there), its body. -/
inductive FnS where
  | code (cf : CFunc) (b : SCode)
  | known (g : List CV → KH → Option (CV × KH))

abbrev TabS := Nat → Option FnS

/-! ### The evaluator -/

def x_vd (d : Nat) (op : OpK R0) (ih : OneK) : OneK := fun E H => op E H fun v H' => ih (E.set d v) H'
def x_vg (d t : Nat) (w : Bool) (op : OpK R0) (ih : OneK) : OneK := fun E H => wantedK (some (t, w)) E fun b => cond b (op E H fun v H' => ih (E.set d v) H') (ih (E.set d .undef) H)
def x_v (d : Option Nat) (g : Option (Nat × Bool)) (op : OpK R0) (ih : OneK) : OneK := fun E H => wantedK g E fun b => cond b (op E H fun v H' => putK E d v fun E' => ih E' H') (putK E d .undef fun E' => ih E' H)
def x_cd (F : CallK) (d : Nat) (op : CallK → OpK R0) (ih : OneK) : OneK := fun E H => op F E H fun v H' => ih (E.set d v) H'
def x_c (F : CallK) (d : Option Nat) (g : Option (Nat × Bool)) (op : CallK → OpK R0) (ih : OneK) : OneK := fun E H => wantedK g E fun b => cond b (op F E H fun v H' => putK E d v fun E' => ih E' H') (putK E d .undef fun E' => ih E' H)

def evSO (F : CallK) (l : SOps) : OneK :=
  SOps.rec (motive := fun _ => OneK) e_skip (fun d op _ ih => x_vd d op ih) (fun d t w op _ ih => x_vg d t w op ih) (fun d g op _ ih => x_v d g op ih) (fun d op _ ih => x_cd F d op ih) (fun d g op _ ih => x_c F d g op ih) l

abbrev SK := SCode → OneK

def s_then (b : OneK) (r : Option R0) : Option R0 :=
  match r with
  | some (.normal, E', H') => b E' H'
  | r => r
def s_seq (a b : OneK) : OneK := fun E H => s_then b (a E H)
def s_cond (c : Opd) (a b : OneK) : OneK := fun E H => evo E c fun c => match c with
  | .bool true => a E H
  | .bool false => b E H
  | _ => none
def s_block (id : Nat) (c : OneK) : OneK := fun E H => match c E H with
  | some (.exit id', E', H') => cond (Nat.beq id' id) (some (.normal, E', H')) (some (.exit id', E', H'))
  | r => r

def s_leave (cf : CFunc) (r : Option R0) : Option (CV × KH) :=
  match r with
  | some (x, E', H') => leaveK cf x E' H'
  | none => none
def bodyS (ih : SK) (cf : CFunc) (b : SCode) (args : List CV) (H : KH) : Option (CV × KH) :=
  cond (Nat.ble args.length cf.n) (s_leave cf (ih b (putAll .nil 0 args) H)) none

def funS (T : TabS) (ih : SK) : CallK := fun f args H => match T f with
  | some (.code cf b) => bodyS ih cf b args H
  | some (.known g) => g args H
  | none => none

def codeS (T : TabS) (ih : SK) (c : SCode) : OneK :=
  SCode.rec (motive := fun _ => OneK) e_skip (fun l => evSO (funS T ih) l) (fun l => e_dregion (funS T ih) l) (fun a b _ _ => s_seq (ih a) (ih b)) (fun c a b _ _ => s_cond c (ih a) (ih b))
    (fun id c _ => s_block id (ih c)) (fun c _ => s_seq (ih c) (ih (.loop c))) (fun g ps n z => e_range (funS T ih) g ps n z) (fun id => e_exit id) e_ret c

def evS (T : TabS) (fuel : Nat) : SK := Nat.rec (motive := fun _ => SK) (fun _ _ _ => none) (fun _ ih c => codeS T ih c) fuel

/-! ### It is the same -/

theorem evSO_eq (F : CallK) : ∀ (l : List CStmt) (E : Tr CV) (H : KH), evSO F (sOps l) E H = evOpsK F l E H e_skip
  | [], E, H => rfl
  | ⟨d, g, op⟩ :: l, E, H => by
    have ih : ∀ E H, evSO F (sOps l) E H = evOpsK F l E H e_skip := evSO_eq F l
    have ih' : evSO F (sOps l) = fun E H => evOpsK F l E H e_skip := by funext E H; exact ih E H
    rw [evOpsK]
    unfold opcK sOps
    cases d with
    | none =>
      simp only [sStmt]
      cases callOp op with
      | true => show x_c F none g (callK op) (evSO F (sOps l)) E H = _; rw [ih']; rfl
      | false => show x_v none g (opvK op) (evSO F (sOps l)) E H = _; rw [ih']; rfl
    | some d =>
      cases g with
      | none =>
        simp only [sStmt]
        cases callOp op with
        | true => show x_cd F d (callK op) (evSO F (sOps l)) E H = _; rw [ih']; rfl
        | false => show x_vd d (opvK op) (evSO F (sOps l)) E H = _; rw [ih']; rfl
      | some g =>
        obtain ⟨t, w⟩ := g
        simp only [sStmt]
        cases callOp op with
        | true => show x_c F (some d) (some (t, w)) (callK op) (evSO F (sOps l)) E H = _; rw [ih']; rfl
        | false => show x_vg d t w (opvK op) (evSO F (sOps l)) E H = _; rw [ih']; rfl

/-- A turned function is a compiled one. -/
def okS (cf' : CFunc) (b : SCode) (cf : CFunc) : Prop := cf'.n = cf.n ∧ cf'.round = cf.round ∧ cf'.res = cf.res ∧ b = toS cf.body

structure TabSOk (T : TabS) (p : CProg) : Prop where
  code : ∀ f cf' b, T f = some (.code cf' b) → ∃ cf, p f = some cf ∧ okS cf' b cf
  known : ∀ f g, T f = some (.known g) → ∀ args H v H', g args H = some (v, H') → run p f args (abs H) = some (v, abs H')

def backT (T : TabS) (p : CProg) : Tab := fun f => match T f with
  | some (.code _ _) => (match p f with | some cf => some (.code cf) | none => none)
  | some (.known g) => some (.known g)
  | none => none

theorem backT_ok {T : TabS} {p : CProg} (h : TabSOk T p) : TabOk (backT T p) p where
  code f cf e := by
    unfold backT at e
    split at e
    · split at e
      · rename_i cf0 h0
        simp only [Option.some.injEq, Fn1.code.injEq] at e
        rw [h0, e]
      · cases e
    · simp at e
    · cases e
  known f g e := by
    unfold backT at e
    split at e
    · split at e <;> simp at e
    · rename_i g0 h0
      simp only [Option.some.injEq, Fn1.known.injEq] at e
      subst e
      exact h.known f _ h0
    · cases e

theorem leaveK_body {cf cf' : CFunc} (h1 : cf'.n = cf.n) (h2 : cf'.round = cf.round) (h3 : cf'.res = cf.res) (x : CX) (E : Tr CV) (H : KH) : leaveK cf' x E H = leaveK cf x E H := by
  obtain ⟨n, r, b, s⟩ := cf
  obtain ⟨n', r', b', s'⟩ := cf'
  dsimp only at h1 h2 h3
  subst h1 h2 h3
  match r' with
  | 0 => rfl
  | 1 => rfl
  | 2 => rfl
  | r + 3 => rfl

theorem funS_eq {T : TabS} {p : CProg} (h : TabSOk T p) {i : SK} {j : CodeK} (hij : ∀ c, i (toS c) = j c) : funS T i = funK (backT T p) j := by
  funext f args H
  unfold funS funK backT
  cases hf : T f with
  | none => rfl
  | some s =>
    cases s with
    | known g => rfl
    | code cf' b =>
      obtain ⟨cf, hp, h1, h2, h3, h4⟩ := h.code f cf' b hf
      simp only [hp]
      unfold bodyS bodyK entryK s_leave
      rw [h1, h4, hij]
      congr 1
      dsimp only
      cases j cf.body (putAll .nil 0 args) H with
      | none => rfl
      | some r => exact leaveK_body h1 h2 h3 _ _ _

theorem evS_eq {T : TabS} {p : CProg} (h : TabSOk T p) : ∀ (n : Nat) (c : CCode), evS T n (toS c) = evK (backT T p) n c
  | 0, c => rfl
  | n + 1, c => by
    have ih := evS_eq h n
    have hF := funS_eq h ih
    show codeS T (evS T n) (toS c) = codeK c (backT T p) (evK (backT T p) n)
    cases c with
    | skip => rfl
    | region l =>
      funext E H
      show evSO (funS T (evS T n)) (sOps l) E H = _
      rw [evSO_eq, hF]; rfl
    | dregion l =>
      show e_dregion (funS T (evS T n)) l = _
      rw [hF]; rfl
    | seq a b =>
      show s_seq (evS T n (toS a)) (evS T n (toS b)) = _
      rw [ih a, ih b]; rfl
    | cond c a b =>
      show s_cond c (evS T n (toS a)) (evS T n (toS b)) = _
      rw [ih a, ih b]; rfl
    | block id c =>
      show s_block id (evS T n (toS c)) = _
      rw [ih c]; rfl
    | loop c =>
      show s_seq (evS T n (toS c)) (evS T n (toS (.loop c))) = _
      rw [ih c, ih (.loop c)]; rfl
    | rangeF g ps m z =>
      show e_range (funS T (evS T n)) g ps m z = _
      rw [hF]; rfl
    | exit id => rfl
    | ret => rfl

theorem evS_spec {T : TabS} {p : CProg} (hT : TabSOk T p) (n : Nat) {c : CCode} {E : Tr CV} {H : KH} {cx : CX} {E' : Tr CV} {H' : KH} (h : evS T n (toS c) E H = some (cx, E', H')) : den p c (envOf E) (abs H) = some (cx, envOf E', abs H') := by
  rw [evS_eq hT n] at h
  exact evK_spec (backT_ok hT) n _ _ _ _ _ _ h
end Go.Cs.K

namespace Go.Cs.K
open Go Go.Cs
def okX (P : Program) (f : Nat) : FnS → Prop
  | .code cf' b => ∃ cf, cprog P f = some cf ∧ okS cf' b cf
  | .known _ => False
theorem okX_of {P : Program} {f n r : Nat} {res : List CRes} {b : SCode} (h : (cprog P f).map (fun cf => (cf.n, cf.round, cf.res, toS cf.body)) = some (n, r, res, b)) : okX P f (.code ⟨n, r, .skip, res⟩ b) := by
  obtain ⟨cf, h1, h2⟩ := Option.map_eq_some_iff.1 h
  cases h2
  exact ⟨cf, h1, rfl, rfl, rfl, rfl⟩
end Go.Cs.K

/- The turned functions, part 0. -/
noncomputable section
namespace Go.Cs.Tryz
open Go Go.Cs Go.Cs.K
set_option maxRecDepth 100000
def S4_1 : SCode := .seq (.seq (.ops (.vd 33 (o_mov (.tmp 13)) (.vd 34 (o_bin .lss (.tmp 33) (.const (.int .i64 4))) .nil)))
    (.cond (.tmp 34)
     .skip
     (.exit 0)))
    (.seq (.block 1 (.seq (.dregion [⟨⟨some 38, none, .mov (.tmp 11)⟩, 0, 0, 0⟩, ⟨⟨some 39, none, .mov (.tmp 13)⟩, 1, 0, 0⟩, ⟨⟨some 40, none, .index 1 (.tmp 38) (.tmp 39)⟩, 2, 0, 0⟩, ⟨⟨some 41, none, .load false 1 (.tmp 40)⟩, 3, 1, 0⟩, ⟨⟨some 42, none, .mov (.tmp 12)⟩, 4, 0, 0⟩, ⟨⟨some 43, none, .mov (.tmp 13)⟩, 5, 0, 0⟩, ⟨⟨some 44, none, .index 1 (.tmp 42) (.tmp 43)⟩, 6, 0, 0⟩, ⟨⟨some 45, none, .load false 1 (.tmp 44)⟩, 7, 1, 0⟩, ⟨⟨some 46, none, .mov (.tmp 0)⟩, 8, 0, 0⟩, ⟨⟨some 47, none, .mov (.tmp 1)⟩, 9, 0, 0⟩, ⟨⟨some 48, none, .call 15 [(.tmp 41), (.tmp 45), (.tmp 46), (.tmp 47)]⟩, 10, 3, 0⟩, ⟨⟨some 37, none, .mov (.tmp 48)⟩, 11, 0, 1⟩, ⟨⟨some 49, none, .extract (.tmp 37) 0⟩, 12, 0, 1⟩, ⟨⟨some 14, none, .new [.int .i64 0, .int .i64 0, .int .i64 0, .int .i64 0, .int .i64 0, .int .i64 0, .int .i64 0, .int .i64 0]⟩, 15, 0, 0⟩, ⟨⟨none, none, .store 8 (.tmp 14) (.tmp 49)⟩, 16, 3, 1⟩, ⟨⟨some 50, none, .extract (.tmp 37) 1⟩, 13, 0, 1⟩, ⟨⟨some 51, none, .extract (.tmp 37) 2⟩, 14, 0, 1⟩, ⟨⟨some 15, none, .mov (.tmp 50)⟩, 17, 0, 2⟩, ⟨⟨some 16, none, .mov (.tmp 51)⟩, 18, 0, 2⟩])
     (.seq (.dregion [⟨⟨some 53, none, .mov (.tmp 11)⟩, 0, 0, 0⟩, ⟨⟨some 54, none, .mov (.tmp 13)⟩, 1, 0, 0⟩, ⟨⟨some 55, none, .index 1 (.tmp 53) (.tmp 54)⟩, 2, 0, 0⟩, ⟨⟨some 56, none, .load false 1 (.tmp 55)⟩, 3, 1, 0⟩, ⟨⟨some 57, none, .mov (.tmp 12)⟩, 4, 0, 0⟩, ⟨⟨some 58, none, .mov (.tmp 13)⟩, 5, 0, 0⟩, ⟨⟨some 59, none, .index 1 (.tmp 57) (.tmp 58)⟩, 6, 0, 0⟩, ⟨⟨some 60, none, .load false 1 (.tmp 59)⟩, 7, 1, 0⟩, ⟨⟨some 61, none, .mov (.tmp 1)⟩, 8, 0, 0⟩, ⟨⟨some 62, none, .call 16 [(.tmp 56), (.tmp 60), (.tmp 61)]⟩, 9, 3, 0⟩, ⟨⟨some 52, none, .mov (.tmp 62)⟩, 10, 0, 1⟩, ⟨⟨some 63, none, .extract (.tmp 52) 0⟩, 11, 0, 1⟩, ⟨⟨some 64, none, .extract (.tmp 52) 1⟩, 12, 0, 1⟩, ⟨⟨some 17, none, .mov (.tmp 63)⟩, 13, 0, 1⟩, ⟨⟨some 18, none, .mov (.tmp 64)⟩, 14, 0, 1⟩])
     (.seq (.ops (.vd 65 (o_load true 8 (.tmp 14)) (.vd 66 (o_build [.int .i64 0, .int .i64 0, .int .i64 0, .int .i64 0, .int .i64 0, .int .i64 0, .int .i64 0, .int .i64 0] []) (.vd 67 (o_eqs true 8 (.tmp 65) (.tmp 66)) (.vd 68 (o_mov (.tmp 67)) (.vg 69 68 false (o_mov (.tmp 15)) (.vg 70 68 false (o_len (.tmp 69)) (.vg 71 68 false (o_bin .neq (.tmp 70) (.const (.int .i64 0))) (.vd 72 (o_pick (.tmp 68) (.const (.bool true)) (.tmp 71)) (.vd 73 (o_mov (.tmp 72)) (.vg 74 73 false (o_mov (.tmp 16)) (.vg 75 73 false (o_bin .neq (.tmp 74) (.const (.int .i64 1))) (.vd 76 (o_pick (.tmp 73) (.const (.bool true)) (.tmp 75)) (.vd 77 (o_mov (.tmp 76)) (.vg 78 77 false (o_mov (.tmp 17)) (.vg 79 77 false (o_bin .neq (.tmp 78) (.const (.int .i64 0))) (.vd 80 (o_pick (.tmp 77) (.const (.bool true)) (.tmp 79)) (.vd 81 (o_mov (.tmp 80)) (.vg 82 81 false (o_mov (.tmp 18)) (.vg 83 81 false (o_bin .neq (.tmp 82) (.const (.int .i64 1))) (.vd 84 (o_pick (.tmp 81) (.const (.bool true)) (.tmp 83)) .nil)))))))))))))))))))))
     (.cond (.tmp 84)
      (.seq (.ops (.vd 4 (o_mov (.const (.bool false))) .nil))
      .ret)
      .skip)))))
    (.ops (.vd 35 (o_mov (.tmp 13)) (.vd 36 (o_bin .add (.tmp 35) (.const (.int .i64 1))) (.vd 13 (o_mov (.tmp 36)) .nil)))))
def S4 : SCode := (.seq (.ops (.vd 4 (o_mov (.const (.bool false))) .nil))
  (.seq (.ops (.vd 5 (o_new [.nilSlice, .nilSlice, .nilPtr, .nilPtr, .nilMap, .nilMap, .int .i64 0]) .nil))
  (.seq (.ops (.vd 6 (o_new [.int .i64 0, .nilSlice, .nilSlice, .nilSlice]) .nil))
  (.seq (.ops (.cd 20 (fun F => c_call F 7 [(.const (.int .i64 2))]) (.vd 19 (o_mov (.tmp 20)) (.vd 21 (o_extract (.tmp 19) 0) (.vd 22 (o_extract (.tmp 19) 1) (.vd 7 (o_mov (.tmp 21)) (.vd 8 (o_mov (.tmp 22)) .nil)))))))
  (.seq (.ops (.cd 24 (fun F => c_call F 8 [(.const (.int .i64 1))]) (.vd 23 (o_mov (.tmp 24)) (.vd 25 (o_extract (.tmp 23) 0) (.vd 26 (o_extract (.tmp 23) 1) (.vd 9 (o_mov (.tmp 25)) (.vd 10 (o_mov (.tmp 26)) .nil)))))))
  (.seq (.ops (.vd 27 (o_mov (.tmp 7)) (.vd 28 (o_mov (.tmp 7)) (.vd 29 (o_buildSlice 1 [.nilPtr, .nilPtr, .nilPtr, .nilPtr] 4 [(0, 1, (.const (.nilPtr))), (1, 1, (.tmp 5)), (2, 1, (.tmp 27)), (3, 1, (.tmp 28))]) (.vd 11 (o_mov (.tmp 29)) .nil)))))
  (.seq (.ops (.vd 30 (o_mov (.tmp 9)) (.vd 31 (o_mov (.tmp 9)) (.vd 32 (o_buildSlice 1 [.nilPtr, .nilPtr, .nilPtr, .nilPtr] 4 [(0, 1, (.tmp 30)), (1, 1, (.tmp 31)), (2, 1, (.const (.nilPtr))), (3, 1, (.tmp 6))]) (.vd 12 (o_mov (.tmp 32)) .nil)))))
  (.seq (.seq (.ops (.vd 13 (o_mov (.const (.int .i64 0))) .nil))
  (.block 0 (.loop S4_1)))
  (.seq (.ops (.cd 85 (fun F => c_call F 17 []) (.vd 4 (o_mov (.tmp 85)) .nil)))
  .ret)))))))))
def X4 : FnS := .code ⟨86, 0, .skip, [.tmp 4]⟩ S4
theorem x4 : okX Go.Proofs.Tryz.prog 4 X4 := okX_of (by kernel_rfl)
def S7 : SCode := (.seq (.ops (.vd 2 (o_mov (.const (.nilPtr))) (.vd 3 (o_mov (.const (.int .i64 0))) .nil)))
  (.seq (.seq (.ops (.vd 5 (o_mov (.tmp 0)) (.vd 6 (o_bin .lss (.tmp 5) (.const (.int .i64 2))) (.vd 7 (o_mov (.tmp 6)) (.vg 8 7 false (o_mov (.tmp 0)) (.vg 9 7 false (o_bin .gtr (.tmp 8) (.const (.int .i64 64))) (.vd 10 (o_pick (.tmp 7) (.const (.bool true)) (.tmp 9)) .nil)))))))
  (.cond (.tmp 10)
   (.seq (.ops (.vd 2 (o_mov (.const (.nilPtr))) (.vd 3 (o_mov (.const (.int .i64 1))) .nil)))
   .ret)
   .skip))
  (.seq (.dregion [⟨⟨some 11, none, .mov (.tmp 0)⟩, 0, 0, 0⟩, ⟨⟨some 12, none, .makeSlice 2 [.int .i64 0, .int .i64 0] (.tmp 11) (.tmp 11)⟩, 1, 0, 0⟩, ⟨⟨some 13, none, .mov (.tmp 0)⟩, 2, 0, 0⟩, ⟨⟨some 14, none, .bin .mul (.tmp 13) (.const (.int .i64 64))⟩, 3, 0, 0⟩, ⟨⟨some 15, none, .makeSlice 1 [.int .i64 0] (.tmp 14) (.tmp 14)⟩, 4, 0, 0⟩, ⟨⟨some 16, none, .mapNew⟩, 5, 0, 0⟩, ⟨⟨some 17, none, .mapNew⟩, 6, 0, 0⟩, ⟨⟨some 18, none, .build [.nilSlice, .nilSlice, .nilPtr, .nilPtr, .nilMap, .nilMap, .int .i64 0] [(0, 1, (.tmp 12)), (1, 1, (.tmp 15)), (4, 1, (.tmp 16)), (5, 1, (.tmp 17))]⟩, 7, 0, 0⟩, ⟨⟨some 19, none, .box (.tmp 18)⟩, 8, 0, 0⟩, ⟨⟨some 4, none, .mov (.tmp 19)⟩, 9, 0, 0⟩])
  (.seq (.ops (.vd 21 (o_mov (.tmp 4)) (.vd 22 (o_mov (.tmp 4)) (.vd 23 (o_nilCheck (.tmp 22)) (.vd 24 (o_field 1 (.tmp 23)) (.vd 25 (o_load false 1 (.tmp 24)) (.vd 26 (o_len (.tmp 25)) (.vd 27 (o_bin .quo (.tmp 26) (.const (.int .i64 2))) (.cd 28 (fun F => c_call F 9 [(.tmp 27), (.const (.int .i64 1))]) (.vd 20 (o_mov (.tmp 28)) (.vd 29 (o_extract (.tmp 20) 0) (.vd 30 (o_extract (.tmp 20) 1) (.vd 31 (o_nilCheck (.tmp 21)) (.vd 32 (o_field 2 (.tmp 31)) (.v none none (o_store 1 (.tmp 32) (.tmp 29)) .nil)))))))))))))))
  (.seq (.ops (.vd 34 (o_mov (.tmp 4)) (.vd 35 (o_mov (.tmp 4)) (.vd 36 (o_nilCheck (.tmp 35)) (.vd 37 (o_field 1 (.tmp 36)) (.vd 38 (o_load false 1 (.tmp 37)) (.vd 39 (o_len (.tmp 38)) (.vd 40 (o_bin .quo (.tmp 39) (.const (.int .i64 2))) (.cd 41 (fun F => c_call F 9 [(.tmp 40), (.const (.int .i64 1))]) (.vd 33 (o_mov (.tmp 41)) (.vd 42 (o_extract (.tmp 33) 0) (.vd 43 (o_extract (.tmp 33) 1) (.vd 44 (o_nilCheck (.tmp 34)) (.vd 45 (o_field 3 (.tmp 44)) (.v none none (o_store 1 (.tmp 45) (.tmp 42)) .nil)))))))))))))))
  (.seq (.ops (.vd 46 (o_mov (.tmp 4)) (.vd 2 (o_mov (.tmp 46)) (.vd 3 (o_mov (.const (.int .i64 0))) .nil))))
  .ret))))))
def X7 : FnS := .code ⟨47, 0, .skip, [.tmp 2, .tmp 3]⟩ S7
theorem x7 : okX Go.Proofs.Tryz.prog 7 X7 := okX_of (by kernel_rfl)
def S8 : SCode := (.seq (.ops (.vd 2 (o_mov (.const (.nilPtr))) (.vd 3 (o_mov (.const (.int .i64 0))) .nil)))
  (.seq (.seq (.ops (.vd 4 (o_mov (.tmp 0)) (.vd 5 (o_bin .lss (.tmp 4) (.const (.int .i64 1))) (.vd 6 (o_mov (.tmp 5)) (.vg 7 6 false (o_mov (.tmp 0)) (.vg 8 6 false (o_bin .gtr (.tmp 7) (.const (.int .i64 4))) (.vd 9 (o_pick (.tmp 6) (.const (.bool true)) (.tmp 8)) .nil)))))))
  (.cond (.tmp 9)
   (.seq (.ops (.vd 2 (o_mov (.const (.nilPtr))) (.vd 3 (o_mov (.const (.int .i64 1))) .nil)))
   .ret)
   .skip))
  (.seq (.dregion [⟨⟨some 10, none, .mov (.tmp 0)⟩, 0, 0, 0⟩, ⟨⟨some 11, none, .mov (.tmp 0)⟩, 1, 0, 0⟩, ⟨⟨some 12, none, .bin .mul (.tmp 11) (.const (.int .i64 16))⟩, 2, 0, 0⟩, ⟨⟨some 13, none, .makeSlice 1 [.int .i64 0] (.tmp 12) (.tmp 12)⟩, 3, 0, 0⟩, ⟨⟨some 14, none, .makeSlice 1 [.int .i64 0] (.const (.int .i64 16)) (.const (.int .i64 16))⟩, 4, 0, 0⟩, ⟨⟨some 15, none, .build [.int .i64 0, .nilSlice, .nilSlice, .nilSlice] [(0, 1, (.tmp 10)), (1, 1, (.tmp 13)), (2, 1, (.tmp 14)), (3, 1, (.const (.nilSlice)))]⟩, 5, 0, 0⟩, ⟨⟨some 16, none, .box (.tmp 15)⟩, 6, 0, 0⟩, ⟨⟨some 2, none, .mov (.tmp 16)⟩, 7, 0, 0⟩, ⟨⟨some 3, none, .mov (.const (.int .i64 0))⟩, 8, 0, 0⟩])
  .ret)))
def X8 : FnS := .code ⟨17, 0, .skip, [.tmp 2, .tmp 3]⟩ S8
theorem x8 : okX Go.Proofs.Tryz.prog 8 X8 := okX_of (by kernel_rfl)
def S9 : SCode := (.seq (.ops (.vd 4 (o_mov (.const (.nilPtr))) (.vd 5 (o_mov (.const (.int .i64 0))) .nil)))
  (.seq (.seq (.ops (.vd 6 (o_mov (.tmp 0)) (.vd 7 (o_bin .lss (.tmp 6) (.const (.int .i64 1))) (.vd 8 (o_mov (.tmp 7)) (.vg 9 8 false (o_mov (.tmp 0)) (.vg 10 8 false (o_bin .gtr (.tmp 9) (.const (.int .i64 4096))) (.vd 11 (o_pick (.tmp 8) (.const (.bool true)) (.tmp 10)) (.vd 12 (o_mov (.tmp 11)) (.vg 13 12 false (o_buildSlice 1 [.int .i64 0, .int .i64 0, .int .i64 0, .int .i64 0] 4 [(0, 1, (.const (.int .i64 1))), (1, 1, (.const (.int .i64 2))), (2, 1, (.const (.int .i64 4))), (3, 1, (.const (.int .i64 8)))]) (.vg 14 12 false (o_mov (.tmp 1)) (.c (some 15) (some (12, false)) (fun F => c_call F 28 [(.tmp 13), (.tmp 14)]) (.vg 16 12 false (o_not (.tmp 15)) (.vd 17 (o_pick (.tmp 12) (.const (.bool true)) (.tmp 16)) .nil)))))))))))))
  (.cond (.tmp 17)
   (.seq (.ops (.vd 4 (o_mov (.const (.nilPtr))) (.vd 5 (o_mov (.const (.int .i64 1))) .nil)))
   .ret)
   .skip))
  (.seq (.ops (.vd 18 (o_mov (.tmp 0)) (.vd 19 (o_mov (.tmp 1)) (.vd 20 (o_mov (.tmp 0)) (.vd 21 (o_mov (.tmp 1)) (.vd 22 (o_bin .mul (.tmp 20) (.tmp 21)) (.vd 23 (o_bin .add (.tmp 22) (.const (.int .i64 64))) (.vd 24 (o_bin .sub (.tmp 23) (.const (.int .i64 1))) (.vd 25 (o_bin .quo (.tmp 24) (.const (.int .i64 64))) (.vd 26 (o_makeSlice 1 [.int .u64 0] (.tmp 25) (.tmp 25)) (.vd 27 (o_build [.int .i64 0, .int .i64 0, .nilSlice] [(0, 1, (.tmp 18)), (1, 1, (.tmp 19)), (2, 1, (.tmp 26))]) (.vd 28 (o_box (.tmp 27)) (.vd 4 (o_mov (.tmp 28)) (.vd 5 (o_mov (.const (.int .i64 0))) .nil))))))))))))))
  .ret)))
def X9 : FnS := .code ⟨29, 0, .skip, [.tmp 4, .tmp 5]⟩ S9
theorem x9 : okX Go.Proofs.Tryz.prog 9 X9 := okX_of (by kernel_rfl)
def S15 : SCode := (.seq (.ops (.vd 8 (o_new [.int .i64 0, .int .i64 0, .int .i64 0, .int .i64 0, .int .i64 0, .int .i64 0, .int .i64 0, .int .i64 0]) (.vd 9 (o_mov (.const (.nilSlice))) (.vd 10 (o_mov (.const (.int .i64 0))) .nil))))
  (.seq (.seq (.ops (.vd 15 (o_mov (.tmp 2)) (.vd 16 (o_bin .lss (.tmp 15) (.const (.int .i64 0))) (.vd 17 (o_mov (.tmp 16)) (.vg 18 17 false (o_mov (.tmp 2)) (.vg 19 17 false (o_bin .geq (.tmp 18) (.const (.int .i64 8))) (.vd 20 (o_pick (.tmp 17) (.const (.bool true)) (.tmp 19)) .nil)))))))
  (.cond (.tmp 20)
   (.seq (.ops (.vd 21 (o_build [.int .i64 0, .int .i64 0, .int .i64 0, .int .i64 0, .int .i64 0, .int .i64 0, .int .i64 0, .int .i64 0] []) (.v none none (o_store 8 (.tmp 8) (.tmp 21)) (.vd 9 (o_mov (.const (.nilSlice))) (.vd 10 (o_mov (.const (.int .i64 1))) .nil)))))
   .ret)
   .skip))
  (.seq (.seq (.ops (.vd 22 (o_mov (.tmp 0)) (.vd 23 (o_mov (.tmp 1)) (.vd 24 (o_mov (.tmp 3)) (.cd 25 (fun F => c_call F 45 [(.tmp 22), (.tmp 23), (.tmp 24)]) (.vd 11 (o_mov (.tmp 25)) .nil))))))
  (.seq (.ops (.vd 26 (o_mov (.tmp 11)) (.vd 27 (o_bin .neq (.tmp 26) (.const (.int .i64 0))) .nil)))
  (.cond (.tmp 27)
   (.seq (.ops (.vd 28 (o_build [.int .i64 0, .int .i64 0, .int .i64 0, .int .i64 0, .int .i64 0, .int .i64 0, .int .i64 0, .int .i64 0] []) (.vd 29 (o_mov (.tmp 11)) (.v none none (o_store 8 (.tmp 8) (.tmp 28)) (.vd 9 (o_mov (.const (.nilSlice))) (.vd 10 (o_mov (.tmp 29)) .nil))))))
   .ret)
   .skip)))
  (.seq (.ops (.vd 30 (o_mov (.tmp 0)) (.vd 31 (o_mov (.tmp 1)) (.vd 32 (o_mov (.tmp 3)) (.cd 33 (fun F => c_call F 46 [(.tmp 30), (.tmp 31), (.tmp 32)]) (.vd 12 (o_new [.nilPtr]) (.v none none (o_store 1 (.tmp 12) (.tmp 33)) .nil)))))))
  (.seq (.seq (.ops (.vd 34 (o_load false 1 (.tmp 12)) (.cd 35 (fun F => c_call F 47 [(.tmp 34)]) (.vd 36 (o_mov (.tmp 0)) (.cd 37 (fun F => c_call F 48 [(.tmp 36)]) (.vd 38 (o_bin .gtr (.tmp 35) (.tmp 37)) .nil))))))
  (.cond (.tmp 38)
   (.seq (.ops (.vd 39 (o_build [.int .i64 0, .int .i64 0, .int .i64 0, .int .i64 0, .int .i64 0, .int .i64 0, .int .i64 0, .int .i64 0] []) (.v none none (o_store 8 (.tmp 8) (.tmp 39)) (.vd 9 (o_mov (.const (.nilSlice))) (.vd 10 (o_mov (.const (.int .i64 6))) .nil)))))
   .ret)
   .skip))
  (.seq (.dregion [⟨⟨some 44, none, .load false 1 (.tmp 12)⟩, 4, 1, 0⟩, ⟨⟨some 45, none, .call 49 [(.tmp 44)]⟩, 5, 3, 0⟩, ⟨⟨some 40, none, .load false 1 (.tmp 12)⟩, 0, 1, 0⟩, ⟨⟨some 41, none, .nilCheck (.tmp 40)⟩, 1, 0, 0⟩, ⟨⟨some 42, none, .field 5 (.tmp 41)⟩, 2, 0, 0⟩, ⟨⟨some 43, none, .load false 1 (.tmp 42)⟩, 3, 1, 0⟩, ⟨⟨some 46, none, .build [.int .i64 0, .int .i64 0, .int .i64 0, .int .i64 0, .int .i64 0, .int .i64 0, .int .i64 0, .int .i64 0] [(6, 1, (.tmp 43)), (7, 1, (.tmp 45))]⟩, 6, 0, 1⟩, ⟨⟨some 13, none, .new [.int .i64 0, .int .i64 0, .int .i64 0, .int .i64 0, .int .i64 0, .int .i64 0, .int .i64 0, .int .i64 0]⟩, 7, 0, 0⟩, ⟨⟨none, none, .store 8 (.tmp 13) (.tmp 46)⟩, 8, 3, 1⟩])
  (.seq (.ops (.vd 47 (o_mov (.tmp 0)) (.vd 48 (o_mkfunc 51 [(.tmp 12)]) (.cd 49 (fun F => c_call F 50 [(.tmp 47), (.tmp 48), (.tmp 13)]) .nil))))
  (.seq (.ops (.vd 50 (o_load false 1 (.tmp 12)) (.vd 51 (o_mov (.tmp 2)) (.cd 52 (fun F => c_call F 52 [(.tmp 50), (.tmp 51)]) (.vd 14 (o_mov (.tmp 52)) .nil)))))
  (.seq (.ops (.vd 53 (o_mov (.tmp 0)) (.vd 54 (o_mov (.tmp 1)) (.vd 55 (o_mov (.tmp 14)) (.cd 56 (fun F => c_call F 53 [(.tmp 53), (.tmp 54), (.tmp 55)]) .nil)))))
  (.seq (.ops (.vd 57 (o_mov (.tmp 0)) (.cd 58 (fun F => c_call F 54 [(.tmp 57)]) .nil)))
  (.seq (.ops (.vd 59 (o_mov (.tmp 0)) (.vd 60 (o_mov (.tmp 14)) (.cd 61 (fun F => c_call F 55 [(.tmp 59), (.tmp 60), (.tmp 13)]) .nil))))
  (.seq (.ops (.vd 62 (o_load true 8 (.tmp 13)) (.vd 63 (o_mov (.tmp 14)) (.v none none (o_store 8 (.tmp 8) (.tmp 62)) (.vd 9 (o_mov (.tmp 63)) (.vd 10 (o_mov (.const (.int .i64 0))) .nil))))))
  .ret))))))))))))
def X15 : FnS := .code ⟨64, 0, .skip, [.cell 8 true 8, .tmp 9, .tmp 10]⟩ S15
theorem x15 : okX Go.Proofs.Tryz.prog 15 X15 := okX_of (by kernel_rfl)
def S16 : SCode := (.seq (.ops (.vd 6 (o_mov (.const (.int .i64 0))) (.vd 7 (o_mov (.const (.int .i64 0))) .nil)))
  (.seq (.seq (.ops (.vd 9 (o_mov (.tmp 0)) (.vd 10 (o_mov (.tmp 1)) (.vd 11 (o_mov (.tmp 2)) (.cd 12 (fun F => c_call F 45 [(.tmp 9), (.tmp 10), (.tmp 11)]) (.vd 8 (o_mov (.tmp 12)) .nil))))))
  (.seq (.ops (.vd 13 (o_mov (.tmp 8)) (.vd 14 (o_bin .neq (.tmp 13) (.const (.int .i64 0))) .nil)))
  (.cond (.tmp 14)
   (.seq (.ops (.vd 15 (o_mov (.tmp 8)) (.vd 6 (o_mov (.const (.int .i64 0))) (.vd 7 (o_mov (.tmp 15)) .nil))))
   .ret)
   .skip)))
  (.seq (.ops (.vd 16 (o_mov (.tmp 0)) (.vd 17 (o_mov (.tmp 1)) (.vd 18 (o_mov (.tmp 2)) (.cd 19 (fun F => c_call F 46 [(.tmp 16), (.tmp 17), (.tmp 18)]) (.cd 20 (fun F => c_call F 47 [(.tmp 19)]) (.vd 6 (o_mov (.tmp 20)) (.vd 7 (o_mov (.const (.int .i64 0))) .nil))))))))
  .ret)))
def X16 : FnS := .code ⟨21, 0, .skip, [.tmp 6, .tmp 7]⟩ S16
theorem x16 : okX Go.Proofs.Tryz.prog 16 X16 := okX_of (by kernel_rfl)
def S17 : SCode := (.seq (.ops (.vd 0 (o_mov (.const (.bool false))) .nil))
  (.seq (.ops (.cd 14 (fun F => c_call F 56 []) (.cd 15 (fun F => c_call F 56 []) (.vd 1 (o_new [.nilPtr, .nilPtr, .nilPtr, .nilPtr, .nilPtr]) (.vd 2 (o_new [.nilPtr, .nilPtr, .nilPtr, .nilPtr, .nilPtr]) (.v none none (o_store 5 (.tmp 1) (.tmp 14)) (.v none none (o_store 5 (.tmp 2) (.tmp 15)) .nil)))))))
  (.seq (.ops (.vd 17 (o_field 0 (.tmp 1)) (.vd 18 (o_load false 1 (.tmp 17)) (.vd 19 (o_field 1 (.tmp 1)) (.vd 20 (o_load false 1 (.tmp 19)) (.cd 21 (fun F => c_call F 15 [(.tmp 18), (.tmp 20), (.const (.int .i64 1)), (.const (.int .i64 0))]) (.vd 16 (o_mov (.tmp 21)) (.vd 22 (o_extract (.tmp 16) 0) (.vd 23 (o_extract (.tmp 16) 1) (.vd 24 (o_extract (.tmp 16) 2) (.vd 3 (o_new [.int .i64 0, .int .i64 0, .int .i64 0, .int .i64 0, .int .i64 0, .int .i64 0, .int .i64 0, .int .i64 0]) (.v none none (o_store 8 (.tmp 3) (.tmp 22)) (.vd 4 (o_mov (.tmp 23)) (.vd 5 (o_mov (.tmp 24)) .nil))))))))))))))
  (.seq (.ops (.vd 26 (o_field 0 (.tmp 2)) (.vd 27 (o_load false 1 (.tmp 26)) (.vd 28 (o_field 1 (.tmp 2)) (.vd 29 (o_load false 1 (.tmp 28)) (.cd 30 (fun F => c_call F 15 [(.tmp 27), (.tmp 29), (.const (.int .i64 1)), (.const (.int .i64 1))]) (.vd 25 (o_mov (.tmp 30)) (.vd 31 (o_extract (.tmp 25) 0) (.vd 32 (o_extract (.tmp 25) 1) (.vd 33 (o_extract (.tmp 25) 2) (.vd 6 (o_new [.int .i64 0, .int .i64 0, .int .i64 0, .int .i64 0, .int .i64 0, .int .i64 0, .int .i64 0, .int .i64 0]) (.v none none (o_store 8 (.tmp 6) (.tmp 31)) (.vd 7 (o_mov (.tmp 32)) (.vd 8 (o_mov (.tmp 33)) .nil))))))))))))))
  (.seq (.ops (.vd 34 (o_build [.int .i64 0, .int .i64 0] [(0, 1, (.const (.int .i64 64))), (1, 1, (.const (.int .i64 128)))]) (.vd 35 (o_build [.int .i64 0, .int .i64 0] [(0, 1, (.const (.int .i64 68))), (1, 1, (.const (.int .i64 132)))]) (.vd 36 (o_build [.int .i64 0, .int .i64 0] [(0, 1, (.const (.int .i64 72))), (1, 1, (.const (.int .i64 136)))]) (.vd 37 (o_build [.int .i64 0, .int .i64 0] [(0, 1, (.const (.int .i64 76))), (1, 1, (.const (.int .i64 140)))]) (.vd 38 (o_buildSlice 2 [.int .i64 0, .int .i64 0, .int .i64 0, .int .i64 0, .int .i64 0, .int .i64 0, .int .i64 0, .int .i64 0] 4 [(0, 2, (.tmp 34)), (2, 2, (.tmp 35)), (4, 2, (.tmp 36)), (6, 2, (.tmp 37))]) (.vd 9 (o_mov (.tmp 38)) .nil)))))))
  (.seq (.ops (.cd 39 (fun F => c_call F 56 []) (.vd 10 (o_new [.nilPtr, .nilPtr, .nilPtr, .nilPtr, .nilPtr]) (.v none none (o_store 5 (.tmp 10) (.tmp 39)) .nil))))
  (.seq (.ops (.vd 40 (o_field 0 (.tmp 10)) (.vd 41 (o_load false 1 (.tmp 40)) (.cd 42 (fun F => c_call F 40 [(.tmp 41), (.const (.int .i64 64))]) .nil))))
  (.seq (.ops (.vd 44 (o_field 0 (.tmp 10)) (.vd 45 (o_load false 1 (.tmp 44)) (.vd 46 (o_field 1 (.tmp 10)) (.vd 47 (o_load false 1 (.tmp 46)) (.cd 48 (fun F => c_call F 15 [(.tmp 45), (.tmp 47), (.const (.int .i64 1)), (.const (.int .i64 0))]) (.vd 43 (o_mov (.tmp 48)) (.vd 49 (o_extract (.tmp 43) 0) (.vd 50 (o_extract (.tmp 43) 1) (.vd 51 (o_extract (.tmp 43) 2) (.vd 11 (o_new [.int .i64 0, .int .i64 0, .int .i64 0, .int .i64 0, .int .i64 0, .int .i64 0, .int .i64 0, .int .i64 0]) (.v none none (o_store 8 (.tmp 11) (.tmp 49)) (.vd 12 (o_mov (.tmp 50)) (.vd 13 (o_mov (.tmp 51)) .nil))))))))))))))
  (.seq (.ops (.vd 52 (o_mov (.tmp 5)) (.vd 53 (o_bin .eql (.tmp 52) (.const (.int .i64 0))) (.vd 54 (o_mov (.tmp 53)) (.vg 55 54 true (o_mov (.tmp 4)) (.vg 56 54 true (o_mov (.tmp 9)) (.c (some 57) (some (54, true)) (fun F => c_call F 57 [(.tmp 55), (.tmp 56)]) (.vd 58 (o_pick (.tmp 54) (.tmp 57) (.const (.bool false))) (.vd 59 (o_mov (.tmp 58)) (.vg 60 59 true (o_mov (.tmp 8)) (.vg 61 59 true (o_bin .eql (.tmp 60) (.const (.int .i64 0))) (.vd 62 (o_pick (.tmp 59) (.tmp 61) (.const (.bool false))) (.vd 63 (o_mov (.tmp 62)) (.vg 64 63 true (o_mov (.tmp 7)) (.vg 65 63 true (o_mov (.tmp 9)) (.c (some 66) (some (63, true)) (fun F => c_call F 57 [(.tmp 64), (.tmp 65)]) (.vd 67 (o_pick (.tmp 63) (.tmp 66) (.const (.bool false))) (.vd 68 (o_mov (.tmp 67)) (.vg 69 68 true (o_mov (.tmp 13)) (.vg 70 68 true (o_bin .eql (.tmp 69) (.const (.int .i64 0))) (.vd 71 (o_pick (.tmp 68) (.tmp 70) (.const (.bool false))) (.vd 72 (o_mov (.tmp 71)) (.vg 73 72 true (o_field 0 (.tmp 10)) (.vg 74 72 true (o_load false 1 (.tmp 73)) (.c (some 75) (some (72, true)) (fun F => c_call F 44 [(.tmp 74), (.const (.int .i64 64))]) (.vd 76 (o_pick (.tmp 72) (.tmp 75) (.const (.bool false))) (.vd 77 (o_mov (.tmp 76)) (.vg 78 77 true (o_field 0 (.tmp 10)) (.vg 79 77 true (o_load false 1 (.tmp 78)) (.c (some 80) (some (77, true)) (fun F => c_call F 58 [(.tmp 79), (.const (.int .i64 1))]) (.vg 81 77 true (o_bin .eql (.tmp 80) (.const (.int .i64 1))) (.vd 82 (o_pick (.tmp 77) (.tmp 81) (.const (.bool false))) (.vd 0 (o_mov (.tmp 82)) .nil)))))))))))))))))))))))))))))))))
  .ret)))))))))
def X17 : FnS := .code ⟨83, 0, .skip, [.tmp 0]⟩ S17
theorem x17 : okX Go.Proofs.Tryz.prog 17 X17 := okX_of (by kernel_rfl)
def S28 : SCode := (.seq (.ops (.vd 4 (o_mov (.const (.bool false))) .nil))
  (.seq (.ops (.vd 5 (o_mov (.tmp 0)) (.vd 6 (o_mov (.tmp 1)) (.cd 7 (fun F => c_call F 80 [(.tmp 5), (.tmp 6)]) (.vd 8 (o_bin .geq (.tmp 7) (.const (.int .i64 0))) (.vd 4 (o_mov (.tmp 8)) .nil))))))
  .ret))
def X28 : FnS := .code ⟨9, 0, .skip, [.tmp 4]⟩ S28
theorem x28 : okX Go.Proofs.Tryz.prog 28 X28 := okX_of (by kernel_rfl)
def S30 : SCode := (.seq (.ops (.vd 2 (o_mov (.const (.int .i64 0))) .nil))
  (.seq (.seq (.ops (.vd 3 (o_mov (.tmp 0)) (.cd 4 (fun F => c_call F 83 [(.tmp 3)]) (.vd 5 (o_not (.tmp 4)) .nil))))
  (.cond (.tmp 5)
   (.seq (.ops (.vd 2 (o_mov (.const (.int .i64 0))) .nil))
   .ret)
   .skip))
  (.seq (.ops (.vd 6 (o_mov (.tmp 0)) (.vd 7 (o_nilCheck (.tmp 6)) (.vd 8 (o_field 0 (.tmp 7)) (.vd 9 (o_load false 1 (.tmp 8)) (.vd 10 (o_len (.tmp 9)) (.vd 2 (o_mov (.tmp 10)) .nil)))))))
  .ret)))
def X30 : FnS := .code ⟨11, 0, .skip, [.tmp 2]⟩ S30
theorem x30 : okX Go.Proofs.Tryz.prog 30 X30 := okX_of (by kernel_rfl)
def S35 : SCode := (.seq (.ops (.vd 4 (o_mov (.const (.nilSlice))) .nil))
  (.seq (.seq (.ops (.vd 5 (o_mov (.tmp 0)) (.cd 6 (fun F => c_call F 83 [(.tmp 5)]) (.vd 7 (o_not (.tmp 6)) (.vd 8 (o_mov (.tmp 7)) (.vg 9 8 false (o_mov (.tmp 1)) (.vg 10 8 false (o_bin .lss (.tmp 9) (.const (.int .i64 0))) (.vd 11 (o_pick (.tmp 8) (.const (.bool true)) (.tmp 10)) (.vd 12 (o_mov (.tmp 11)) (.vg 13 12 false (o_mov (.tmp 1)) (.vg 14 12 false (o_mov (.tmp 0)) (.vg 15 12 false (o_nilCheck (.tmp 14)) (.vg 16 12 false (o_field 0 (.tmp 15)) (.vg 17 12 false (o_load false 1 (.tmp 16)) (.vg 18 12 false (o_len (.tmp 17)) (.vg 19 12 false (o_bin .geq (.tmp 13) (.tmp 18)) (.vd 20 (o_pick (.tmp 12) (.const (.bool true)) (.tmp 19)) .nil)))))))))))))))))
  (.cond (.tmp 20)
   (.seq (.ops (.vd 4 (o_mov (.const (.nilSlice))) .nil))
   .ret)
   .skip))
  (.seq (.ops (.vd 21 (o_mov (.tmp 0)) (.vd 22 (o_mov (.tmp 1)) (.vd 23 (o_bin .mul (.tmp 22) (.const (.int .i64 64))) (.vd 24 (o_mov (.tmp 1)) (.vd 25 (o_bin .add (.tmp 24) (.const (.int .i64 1))) (.vd 26 (o_bin .mul (.tmp 25) (.const (.int .i64 64))) (.cd 27 (fun F => c_call F 87 [(.tmp 21), (.tmp 23), (.tmp 26)]) (.vd 4 (o_mov (.tmp 27)) .nil)))))))))
  .ret)))
def X35 : FnS := .code ⟨28, 0, .skip, [.tmp 4]⟩ S35
theorem x35 : okX Go.Proofs.Tryz.prog 35 X35 := okX_of (by kernel_rfl)
def S37_1 : SCode := .seq (.ops (.vd 22 (o_bin .lss (.tmp 21) (.tmp 20)) .nil))
    (.seq (.cond (.tmp 22)
     .skip
     (.exit 0))
    (.seq (.block 1 (.seq (.ops (.vd 23 (o_index 1 (.tmp 19) (.tmp 21)) (.vd 24 (o_load false 1 (.tmp 23)) (.vd 9 (o_mov (.tmp 24)) .nil))))
     (.seq (.ops (.vd 25 (o_mov (.tmp 7)) (.vd 26 (o_mov (.tmp 9)) (.cd 27 (fun F => c_callm F (.tmp 25) [(.tmp 26)] [(267, "dustcart/alloc.place", 272), (268, "dustcart/alloc.place", 277), (269, "dustcart/alloc.place", 285), (270, "dustcart/alloc.place", 286), (271, "dustcart/alloc.place", 290)]) .nil))))
     (.ops (.vd 28 (o_mov (.tmp 9)) (.vd 29 (o_mov (.tmp 0)) (.vd 30 (o_mov (.tmp 9)) (.cd 31 (fun F => c_call F 90 [(.tmp 29), (.tmp 30)]) (.vd 32 (o_bin .add (.tmp 28) (.tmp 31)) (.v none none (o_store 1 (.tmp 6) (.tmp 32)) .nil))))))))))
    (.ops (.vd 33 (o_bin .add (.tmp 21) (.const (.int .i64 1))) (.vd 21 (o_mov (.tmp 33)) .nil)))))
def S37 : SCode := (.seq (.ops (.vd 4 (o_mov (.const (.nilSlice))) .nil))
  (.seq (.seq (.ops (.vd 10 (o_mov (.tmp 0)) (.vd 11 (o_mov (.tmp 1)) (.cd 12 (fun F => c_call F 88 [(.tmp 10), (.tmp 11)]) (.vd 13 (o_not (.tmp 12)) .nil)))))
  (.cond (.tmp 13)
   (.seq (.ops (.vd 4 (o_mov (.const (.nilSlice))) .nil))
   .ret)
   .skip))
  (.seq (.ops (.vd 5 (o_new [.nilSlice]) .nil))
  (.seq (.ops (.vd 14 (o_mov (.tmp 1)) (.vd 15 (o_bin .mul (.tmp 14) (.const (.int .i64 64))) (.vd 6 (o_new [.int .i64 0]) (.v none none (o_store 1 (.tmp 6) (.tmp 15)) .nil)))))
  (.seq (.ops (.vd 16 (o_mkfunc 89 [(.tmp 6), (.tmp 5)]) (.vd 7 (o_mov (.tmp 16)) .nil)))
  (.seq (.seq (.ops (.vd 17 (o_mov (.tmp 0)) (.vd 18 (o_mov (.tmp 1)) (.cd 19 (fun F => c_call F 35 [(.tmp 17), (.tmp 18)]) (.vd 20 (o_len (.tmp 19)) (.vd 21 (o_mov (.const (.int .i64 0))) .nil))))))
  (.block 0 (.loop S37_1)))
  (.seq (.ops (.vd 34 (o_mov (.tmp 7)) (.vd 35 (o_mov (.tmp 1)) (.vd 36 (o_bin .add (.tmp 35) (.const (.int .i64 1))) (.vd 37 (o_bin .mul (.tmp 36) (.const (.int .i64 64))) (.cd 38 (fun F => c_callm F (.tmp 34) [(.tmp 37)] [(267, "dustcart/alloc.place", 272), (268, "dustcart/alloc.place", 277), (269, "dustcart/alloc.place", 285), (270, "dustcart/alloc.place", 286), (271, "dustcart/alloc.place", 290)]) .nil))))))
  (.seq (.ops (.vd 39 (o_load false 1 (.tmp 5)) (.vd 4 (o_mov (.tmp 39)) .nil)))
  .ret))))))))
def X37 : FnS := .code ⟨40, 0, .skip, [.tmp 4]⟩ S37
theorem x37 : okX Go.Proofs.Tryz.prog 37 X37 := okX_of (by kernel_rfl)
def S38 : SCode := (.seq (.ops (.vd 6 (o_mov (.const (.int .i64 0))) .nil))
  (.seq (.ops (.vd 7 (o_mov (.tmp 0)) (.vd 8 (o_mov (.tmp 1)) (.vd 9 (o_mov (.tmp 2)) (.vd 10 (o_build [.int .i64 0, .int .i64 0] [(0, 1, (.const (.int .i64 1))), (1, 1, (.tmp 9))]) (.vd 11 (o_build [.int .i64 0, .int .i64 0] []) (.cd 12 (fun F => c_call F 91 [(.tmp 7), (.tmp 8), (.const (.int .i64 1)), (.tmp 10), (.tmp 11)]) (.vd 6 (o_mov (.tmp 12)) .nil))))))))
  .ret))
def X38 : FnS := .code ⟨13, 0, .skip, [.tmp 6]⟩ S38
theorem x38 : okX Go.Proofs.Tryz.prog 38 X38 := okX_of (by kernel_rfl)
def S39 : SCode := (.seq (.ops (.vd 5 (o_box (.tmp 2)) (.vd 6 (o_mov (.const (.int .i64 0))) (.vd 7 (o_mov (.const (.int .i64 0))) .nil))))
  (.seq (.block 0 (.seq (.ops (.vd 10 (o_mov (.tmp 0)) (.cd 11 (fun F => c_call F 83 [(.tmp 10)]) (.vd 12 (o_not (.tmp 11)) (.vd 9 (o_mov (.tmp 12)) .nil)))))
   (.cond (.tmp 9)
    (.seq (.ops (.vd 6 (o_mov (.const (.int .i64 0))) (.vd 7 (o_mov (.const (.int .i64 5))) .nil)))
    .ret)
    (.seq (.ops (.vd 14 (o_load true 3 (.tmp 5)) (.cd 15 (fun F => c_call F 92 [(.tmp 14)]) (.vd 16 (o_not (.tmp 15)) (.vd 13 (o_mov (.tmp 16)) .nil)))))
    (.cond (.tmp 13)
     (.seq (.ops (.vd 6 (o_mov (.const (.int .i64 0))) (.vd 7 (o_mov (.const (.int .i64 2))) .nil)))
     .ret)
     .skip)))))
  (.seq (.seq (.ops (.vd 17 (o_mov (.tmp 0)) (.vd 18 (o_mov (.tmp 1)) (.vd 19 (o_load true 3 (.tmp 5)) (.cd 20 (fun F => c_call F 94 [(.tmp 19)]) (.cd 21 (fun F => c_call F 93 [(.tmp 17), (.tmp 18), (.tmp 20), (.const (.int .i64 (-1)))]) (.vd 8 (o_mov (.tmp 21)) .nil)))))))
  (.seq (.ops (.vd 22 (o_mov (.tmp 8)) (.vd 23 (o_bin .neq (.tmp 22) (.const (.int .i64 0))) .nil)))
  (.cond (.tmp 23)
   (.seq (.ops (.vd 24 (o_mov (.tmp 8)) (.vd 6 (o_mov (.const (.int .i64 0))) (.vd 7 (o_mov (.tmp 24)) .nil))))
   .ret)
   .skip)))
  (.seq (.ops (.vd 25 (o_mov (.tmp 0)) (.vd 26 (o_nilCheck (.tmp 25)) (.vd 27 (o_field 6 (.tmp 26)) (.vd 28 (o_load false 1 (.tmp 27)) (.vd 29 (o_bin .add (.tmp 28) (.const (.int .i64 1))) (.vd 30 (o_nilCheck (.tmp 25)) (.vd 31 (o_field 6 (.tmp 30)) (.v none none (o_store 1 (.tmp 31) (.tmp 29)) .nil)))))))))
  (.seq (.dregion [⟨⟨some 47, none, .load true 3 (.tmp 5)⟩, 15, 1, 0⟩, ⟨⟨some 48, none, .call 95 [(.tmp 47)]⟩, 16, 3, 0⟩, ⟨⟨some 32, none, .mov (.tmp 0)⟩, 0, 0, 0⟩, ⟨⟨some 33, none, .nilCheck (.tmp 32)⟩, 1, 0, 0⟩, ⟨⟨some 34, none, .field 1 (.tmp 33)⟩, 2, 0, 0⟩, ⟨⟨some 35, none, .load false 1 (.tmp 34)⟩, 3, 1, 0⟩, ⟨⟨some 36, none, .mov (.tmp 1)⟩, 4, 0, 0⟩, ⟨⟨some 37, none, .mov (.tmp 0)⟩, 5, 0, 0⟩, ⟨⟨some 38, none, .nilCheck (.tmp 37)⟩, 6, 0, 0⟩, ⟨⟨some 39, none, .field 1 (.tmp 38)⟩, 7, 0, 0⟩, ⟨⟨some 40, none, .load false 1 (.tmp 39)⟩, 8, 1, 0⟩, ⟨⟨some 43, none, .mov (.tmp 0)⟩, 11, 0, 0⟩, ⟨⟨some 44, none, .nilCheck (.tmp 43)⟩, 12, 0, 0⟩, ⟨⟨some 45, none, .field 6 (.tmp 44)⟩, 13, 0, 0⟩, ⟨⟨some 46, none, .load false 1 (.tmp 45)⟩, 14, 1, 0⟩, ⟨⟨some 49, none, .index 1 (.tmp 35) (.tmp 36)⟩, 17, 0, 1⟩, ⟨⟨none, none, .store 1 (.tmp 49) (.tmp 46)⟩, 18, 3, 1⟩, ⟨⟨some 41, none, .mov (.tmp 1)⟩, 9, 0, 0⟩, ⟨⟨some 42, none, .bin .add (.tmp 41) (.const (.int .i64 1))⟩, 10, 0, 0⟩, ⟨⟨some 50, none, .index 1 (.tmp 40) (.tmp 42)⟩, 19, 0, 2⟩, ⟨⟨none, none, .store 1 (.tmp 50) (.tmp 48)⟩, 20, 3, 2⟩])
  (.seq (.ops (.vd 51 (o_mov (.tmp 0)) (.vd 52 (o_nilCheck (.tmp 51)) (.vd 53 (o_field 2 (.tmp 52)) (.vd 54 (o_load false 1 (.tmp 53)) (.vd 55 (o_mov (.tmp 1)) (.vd 56 (o_bin .quo (.tmp 55) (.const (.int .i64 2))) (.cd 57 (fun F => c_call F 96 [(.tmp 54), (.tmp 56), (.const (.int .i64 1))]) .nil))))))))
  (.seq (.dregion [⟨⟨some 58, none, .mov (.tmp 0)⟩, 0, 0, 0⟩, ⟨⟨some 59, none, .nilCheck (.tmp 58)⟩, 1, 0, 0⟩, ⟨⟨some 60, none, .field 4 (.tmp 59)⟩, 2, 0, 0⟩, ⟨⟨some 61, none, .load false 1 (.tmp 60)⟩, 3, 1, 0⟩, ⟨⟨some 62, none, .mov (.tmp 0)⟩, 4, 0, 0⟩, ⟨⟨some 63, none, .nilCheck (.tmp 62)⟩, 5, 0, 0⟩, ⟨⟨some 64, none, .field 6 (.tmp 63)⟩, 6, 0, 0⟩, ⟨⟨some 65, none, .load false 1 (.tmp 64)⟩, 7, 1, 0⟩, ⟨⟨some 66, none, .mov (.tmp 1)⟩, 8, 0, 0⟩, ⟨⟨none, none, .mapSet .i64 (.tmp 61) (.tmp 65) (.tmp 66)⟩, 9, 3, 0⟩])
  (.seq (.ops (.vd 67 (o_mov (.tmp 0)) (.vd 68 (o_nilCheck (.tmp 67)) (.vd 69 (o_field 6 (.tmp 68)) (.vd 70 (o_load false 1 (.tmp 69)) (.vd 6 (o_mov (.tmp 70)) (.vd 7 (o_mov (.const (.int .i64 0))) .nil)))))))
  .ret))))))))
def X39 : FnS := .code ⟨71, 0, .skip, [.tmp 6, .tmp 7]⟩ S39
theorem x39 : okX Go.Proofs.Tryz.prog 39 X39 := okX_of (by kernel_rfl)
def S40 : SCode := (.seq (.ops (.vd 4 (o_mov (.const (.int .i64 0))) .nil))
  (.seq (.ops (.vd 5 (o_mov (.tmp 0)) (.vd 6 (o_mov (.tmp 1)) (.cd 7 (fun F => c_call F 97 [(.tmp 5), (.tmp 6), (.const (.int .i64 1))]) (.vd 4 (o_mov (.tmp 7)) .nil)))))
  .ret))
def X40 : FnS := .code ⟨8, 0, .skip, [.tmp 4]⟩ S40
theorem x40 : okX Go.Proofs.Tryz.prog 40 X40 := okX_of (by kernel_rfl)
def S41 : SCode := (.seq (.ops (.vd 4 (o_box (.tmp 1)) (.vd 6 (o_mov (.const (.int .i64 0))) .nil)))
  (.seq (.ops (.vd 10 (o_mov (.tmp 0)) (.vd 11 (o_load true 3 (.tmp 4)) (.cd 12 (fun F => c_call F 98 [(.tmp 10), (.tmp 11)]) (.vd 9 (o_mov (.tmp 12)) (.vd 13 (o_extract (.tmp 9) 0) (.vd 14 (o_extract (.tmp 9) 1) (.vd 7 (o_mov (.tmp 13)) (.vd 8 (o_mov (.tmp 14)) .nil)))))))))
  (.seq (.seq (.ops (.vd 15 (o_mov (.tmp 8)) (.vd 16 (o_bin .neq (.tmp 15) (.const (.int .i64 0))) .nil)))
  (.cond (.tmp 16)
   (.seq (.ops (.vd 17 (o_mov (.tmp 8)) (.vd 6 (o_mov (.tmp 17)) .nil)))
   .ret)
   .skip))
  (.seq (.seq (.ops (.vd 18 (o_mov (.tmp 2)) (.vd 19 (o_bin .lss (.tmp 18) (.const (.int .i64 0))) (.vd 20 (o_mov (.tmp 19)) (.vg 21 20 false (o_mov (.tmp 2)) (.vg 22 20 false (o_bin .eql (.tmp 21) (.const (.int .i64 0))) (.vg 23 20 false (o_mov (.tmp 22)) (.vg 24 23 true (o_field 0 (.tmp 4)) (.vg 25 23 true (o_load false 1 (.tmp 24)) (.vg 26 23 true (o_bin .eql (.tmp 25) (.const (.int .i64 2))) (.vg 27 20 false (o_pick (.tmp 23) (.tmp 26) (.const (.bool false))) (.vd 28 (o_pick (.tmp 20) (.const (.bool true)) (.tmp 27)) .nil))))))))))))
  (.cond (.tmp 28)
   (.seq (.ops (.vd 6 (o_mov (.const (.int .i64 1))) .nil))
   .ret)
   .skip))
  (.seq (.ops (.vd 29 (o_mov (.tmp 7)) (.vd 30 (o_mov (.tmp 2)) (.vd 31 (o_nilCheck (.tmp 29)) (.v none none (o_store 1 (.tmp 31) (.tmp 30)) .nil)))))
  (.seq (.ops (.vd 6 (o_mov (.const (.int .i64 0))) .nil))
  .ret))))))
def X41 : FnS := .code ⟨32, 0, .skip, [.tmp 6]⟩ S41
theorem x41 : okX Go.Proofs.Tryz.prog 41 X41 := okX_of (by kernel_rfl)
def S42 : SCode := (.seq (.ops (.vd 3 (o_box (.tmp 1)) (.vd 4 (o_mov (.const (.int .i64 0))) (.vd 5 (o_mov (.const (.int .i64 0))) .nil))))
  (.seq (.ops (.vd 9 (o_mov (.tmp 0)) (.vd 10 (o_load true 3 (.tmp 3)) (.cd 11 (fun F => c_call F 98 [(.tmp 9), (.tmp 10)]) (.vd 8 (o_mov (.tmp 11)) (.vd 12 (o_extract (.tmp 8) 0) (.vd 13 (o_extract (.tmp 8) 1) (.vd 6 (o_mov (.tmp 12)) (.vd 7 (o_mov (.tmp 13)) .nil)))))))))
  (.seq (.seq (.ops (.vd 14 (o_mov (.tmp 7)) (.vd 15 (o_bin .neq (.tmp 14) (.const (.int .i64 0))) .nil)))
  (.cond (.tmp 15)
   (.seq (.ops (.vd 16 (o_mov (.tmp 7)) (.vd 4 (o_mov (.const (.int .i64 0))) (.vd 5 (o_mov (.tmp 16)) .nil))))
   .ret)
   .skip))
  (.seq (.ops (.vd 17 (o_mov (.tmp 6)) (.vd 18 (o_nilCheck (.tmp 17)) (.vd 19 (o_load false 1 (.tmp 18)) (.vd 4 (o_mov (.tmp 19)) (.vd 5 (o_mov (.const (.int .i64 0))) .nil))))))
  .ret))))
def X42 : FnS := .code ⟨20, 0, .skip, [.tmp 4, .tmp 5]⟩ S42
theorem x42 : okX Go.Proofs.Tryz.prog 42 X42 := okX_of (by kernel_rfl)
def S44 : SCode := (.seq (.ops (.vd 4 (o_mov (.const (.bool false))) .nil))
  (.seq (.ops (.vd 5 (o_mov (.tmp 0)) (.cd 6 (fun F => c_call F 83 [(.tmp 5)]) (.vd 7 (o_mov (.tmp 6)) (.vg 8 7 true (o_mov (.tmp 1)) (.vg 9 7 true (o_bin .geq (.tmp 8) (.const (.int .i64 0))) (.vd 10 (o_pick (.tmp 7) (.tmp 9) (.const (.bool false))) (.vd 11 (o_mov (.tmp 10)) (.vg 12 11 true (o_mov (.tmp 1)) (.vg 13 11 true (o_bin .rem (.tmp 12) (.const (.int .i64 2))) (.vg 14 11 true (o_bin .eql (.tmp 13) (.const (.int .i64 0))) (.vd 15 (o_pick (.tmp 11) (.tmp 14) (.const (.bool false))) (.vd 16 (o_mov (.tmp 15)) (.vg 17 16 true (o_mov (.tmp 0)) (.vg 18 16 true (o_nilCheck (.tmp 17)) (.vg 19 16 true (o_field 2 (.tmp 18)) (.vg 20 16 true (o_load false 1 (.tmp 19)) (.vg 21 16 true (o_mov (.tmp 1)) (.vg 22 16 true (o_bin .quo (.tmp 21) (.const (.int .i64 2))) (.c (some 23) (some (16, true)) (fun F => c_call F 99 [(.tmp 20), (.tmp 22)]) (.vg 24 16 true (o_bin .eql (.tmp 23) (.const (.int .i64 1))) (.vd 25 (o_pick (.tmp 16) (.tmp 24) (.const (.bool false))) (.vd 4 (o_mov (.tmp 25)) .nil)))))))))))))))))))))))
  .ret))
def X44 : FnS := .code ⟨26, 0, .skip, [.tmp 4]⟩ S44
theorem x44 : okX Go.Proofs.Tryz.prog 44 X44 := okX_of (by kernel_rfl)
def S45 : SCode := (.seq (.ops (.vd 6 (o_mov (.const (.int .i64 0))) .nil))
  (.seq (.block 0 (.seq (.ops (.vd 8 (o_mov (.tmp 0)) (.cd 9 (fun F => c_call F 30 [(.tmp 8)]) (.vd 10 (o_bin .eql (.tmp 9) (.const (.int .i64 0))) (.vd 11 (o_mov (.tmp 10)) (.vg 12 11 false (o_mov (.tmp 1)) (.c (some 13) (some (11, false)) (fun F => c_call F 100 [(.tmp 12)]) (.vg 14 11 false (o_bin .eql (.tmp 13) (.const (.int .i64 0))) (.vd 15 (o_pick (.tmp 11) (.const (.bool true)) (.tmp 14)) (.vd 16 (o_mov (.tmp 15)) (.vg 17 16 false (o_mov (.tmp 2)) (.vg 18 16 false (o_bin .lss (.tmp 17) (.const (.int .i64 0))) (.vd 19 (o_pick (.tmp 16) (.const (.bool true)) (.tmp 18)) (.vd 20 (o_mov (.tmp 19)) (.vg 21 20 false (o_mov (.tmp 2)) (.vg 22 20 false (o_bin .gtr (.tmp 21) (.const (.int .i64 1))) (.vd 23 (o_pick (.tmp 20) (.const (.bool true)) (.tmp 22)) (.vd 7 (o_mov (.tmp 23)) .nil))))))))))))))))))
   (.cond (.tmp 7)
    (.seq (.ops (.vd 6 (o_mov (.const (.int .i64 1))) .nil))
    .ret)
    (.seq (.ops (.vd 25 (o_mov (.tmp 0)) (.vd 26 (o_mov (.tmp 1)) (.cd 27 (fun F => c_call F 69 [(.tmp 25), (.tmp 26)]) (.vd 28 (o_not (.tmp 27)) (.vd 24 (o_mov (.tmp 28)) .nil))))))
    (.cond (.tmp 24)
     (.seq (.ops (.vd 6 (o_mov (.const (.int .i64 5))) .nil))
     .ret)
     .skip)))))
  (.seq (.ops (.vd 6 (o_mov (.const (.int .i64 0))) .nil))
  .ret)))
def X45 : FnS := .code ⟨29, 0, .skip, [.tmp 6]⟩ S45
theorem x45 : okX Go.Proofs.Tryz.prog 45 X45 := okX_of (by kernel_rfl)
def S46_1 : SCode := .seq (.seq (.ops (.vd 36 (o_mov (.tmp 7)) (.cd 37 (fun F => c_call F 104 [(.tmp 36)]) .nil)))
    (.cond (.tmp 37)
     .skip
     (.exit 2)))
    (.block 3 (.ops (.vd 38 (o_mov (.tmp 7)) (.cd 39 (fun F => c_call F 103 [(.tmp 38)]) .nil))))
def S46_2 : SCode := .seq (.ops (.vd 21 (o_bin .lss (.tmp 20) (.tmp 19)) .nil))
    (.seq (.cond (.tmp 21)
     .skip
     (.exit 0))
    (.seq (.block 1 (.seq (.ops (.vd 22 (o_index 3 (.tmp 18) (.tmp 20)) (.vd 23 (o_load true 3 (.tmp 22)) (.vd 9 (o_new [.int .i64 0, .int .i64 0, .int .i64 0]) (.v none none (o_store 3 (.tmp 9) (.tmp 23)) .nil)))))
     (.seq (.ops (.vd 25 (o_mov (.tmp 1)) (.vd 26 (o_load true 3 (.tmp 9)) (.cd 27 (fun F => c_call F 42 [(.tmp 25), (.tmp 26)]) (.vd 24 (o_mov (.tmp 27)) (.vd 28 (o_extract (.tmp 24) 0) (.vd 29 (o_extract (.tmp 24) 1) (.vd 10 (o_mov (.tmp 28)) (.vd 11 (o_mov (.tmp 29)) .nil)))))))))
     (.ops (.vd 30 (o_mov (.tmp 7)) (.vd 31 (o_mov (.tmp 10)) (.cd 32 (fun F => c_call F 102 [(.tmp 30), (.tmp 31)]) .nil)))))))
    (.ops (.vd 33 (o_bin .add (.tmp 20) (.const (.int .i64 1))) (.vd 20 (o_mov (.tmp 33)) .nil)))))
def S46 : SCode := (.seq (.ops (.vd 6 (o_mov (.const (.nilPtr))) .nil))
  (.seq (.ops (.vd 12 (o_mov (.tmp 0)) (.vd 13 (o_mov (.tmp 2)) (.vd 14 (o_mapNew) (.vd 15 (o_build [.nilPtr, .int .i64 0, .nilMap, .nilSlice, .nilSlice, .int .i64 0] [(0, 1, (.tmp 12)), (1, 1, (.tmp 13)), (2, 1, (.tmp 14))]) (.vd 16 (o_box (.tmp 15)) (.vd 7 (o_mov (.tmp 16)) .nil)))))))
  (.seq (.seq (.ops (.vd 17 (o_mov (.tmp 1)) (.cd 18 (fun F => c_call F 101 [(.tmp 17)]) (.vd 19 (o_len (.tmp 18)) (.vd 20 (o_mov (.const (.int .i64 0))) .nil)))))
  (.block 0 (.loop S46_2)))
  (.seq (.ops (.vd 34 (o_mov (.tmp 7)) (.cd 35 (fun F => c_call F 103 [(.tmp 34)]) .nil)))
  (.seq (.block 2 (.loop S46_1))
  (.seq (.ops (.vd 40 (o_mov (.tmp 7)) (.vd 6 (o_mov (.tmp 40)) .nil)))
  .ret))))))
def X46 : FnS := .code ⟨41, 0, .skip, [.tmp 6]⟩ S46
theorem x46 : okX Go.Proofs.Tryz.prog 46 X46 := okX_of (by kernel_rfl)
def S47_1 : SCode := .seq (.ops (.vd 12 (o_bin .lss (.tmp 11) (.tmp 10)) .nil))
    (.seq (.cond (.tmp 12)
     .skip
     (.exit 0))
    (.seq (.block 1 (.seq (.ops (.vd 13 (o_index 1 (.tmp 9) (.tmp 11)) (.vd 14 (o_load false 1 (.tmp 13)) (.vd 5 (o_mov (.tmp 14)) .nil))))
     (.seq (.ops (.vd 15 (o_mov (.tmp 0)) (.vd 16 (o_nilCheck (.tmp 15)) (.vd 17 (o_field 0 (.tmp 16)) (.vd 18 (o_load false 1 (.tmp 17)) (.vd 19 (o_mov (.tmp 5)) (.cd 20 (fun F => c_call F 105 [(.tmp 18), (.tmp 19)]) (.vd 21 (o_not (.tmp 20)) .nil))))))))
     (.cond (.tmp 21)
      (.ops (.vd 22 (o_mov (.tmp 0)) (.vd 23 (o_nilCheck (.tmp 22)) (.vd 24 (o_field 0 (.tmp 23)) (.vd 25 (o_load false 1 (.tmp 24)) (.vd 26 (o_mov (.tmp 5)) (.cd 27 (fun F => c_call F 107 [(.tmp 25), (.tmp 26)]) (.cd 28 (fun F => c_call F 106 [(.tmp 3), (.tmp 27), (.const (.func 108 []))]) .nil))))))))
      .skip))))
    (.ops (.vd 29 (o_bin .add (.tmp 11) (.const (.int .i64 1))) (.vd 11 (o_mov (.tmp 29)) .nil)))))
def S47 : SCode := (.seq (.ops (.vd 2 (o_mov (.const (.int .i64 0))) .nil))
  (.seq (.ops (.vd 3 (o_new [.int .i64 0, .int .i64 0, .int .i64 0]) .nil))
  (.seq (.seq (.ops (.vd 6 (o_mov (.tmp 0)) (.vd 7 (o_nilCheck (.tmp 6)) (.vd 8 (o_field 3 (.tmp 7)) (.vd 9 (o_load false 1 (.tmp 8)) (.vd 10 (o_len (.tmp 9)) (.vd 11 (o_mov (.const (.int .i64 0))) .nil)))))))
  (.block 0 (.loop S47_1)))
  (.seq (.ops (.vd 30 (o_field 2 (.tmp 3)) (.vd 31 (o_load false 1 (.tmp 30)) (.vd 2 (o_mov (.tmp 31)) .nil))))
  .ret))))
def X47 : FnS := .code ⟨32, 0, .skip, [.tmp 2]⟩ S47
theorem x47 : okX Go.Proofs.Tryz.prog 47 X47 := okX_of (by kernel_rfl)
def S48_1 : SCode := .seq (.seq (.ops (.vd 5 (o_mov (.tmp 4)) (.vd 6 (o_mov (.tmp 0)) (.cd 7 (fun F => c_call F 30 [(.tmp 6)]) (.vd 8 (o_bin .lss (.tmp 5) (.tmp 7)) .nil)))))
    (.cond (.tmp 8)
     .skip
     (.exit 0)))
    (.seq (.block 1 (.seq (.ops (.vd 11 (o_mov (.tmp 0)) (.vd 12 (o_mov (.tmp 4)) (.cd 13 (fun F => c_call F 58 [(.tmp 11), (.tmp 12)]) (.vd 14 (o_bin .eql (.tmp 13) (.const (.int .i64 0))) .nil)))))
     (.cond (.tmp 14)
      (.ops (.vd 15 (o_mov (.tmp 3)) (.vd 16 (o_bin .add (.tmp 15) (.const (.int .i64 1))) (.vd 3 (o_mov (.tmp 16)) .nil))))
      .skip)))
    (.ops (.vd 9 (o_mov (.tmp 4)) (.vd 10 (o_bin .add (.tmp 9) (.const (.int .i64 1))) (.vd 4 (o_mov (.tmp 10)) .nil)))))
def S48 : SCode := (.seq (.ops (.vd 2 (o_mov (.const (.int .i64 0))) .nil))
  (.seq (.ops (.vd 3 (o_mov (.const (.int .i64 0))) .nil))
  (.seq (.seq (.ops (.vd 4 (o_mov (.const (.int .i64 1))) .nil))
  (.block 0 (.loop S48_1)))
  (.seq (.ops (.vd 17 (o_mov (.tmp 3)) (.vd 2 (o_mov (.tmp 17)) .nil)))
  .ret))))
def X48 : FnS := .code ⟨18, 0, .skip, [.tmp 2]⟩ S48
theorem x48 : okX Go.Proofs.Tryz.prog 48 X48 := okX_of (by kernel_rfl)
def S49_1 : SCode := .seq (.ops (.vd 56 (o_bin .lss (.tmp 55) (.tmp 54)) .nil))
       (.seq (.cond (.tmp 56)
        .skip
        (.exit 2))
       (.seq (.block 3 (.seq (.ops (.vd 57 (o_mov (.tmp 55)) (.vd 12 (o_mov (.tmp 57)) .nil)))
        (.seq (.ops (.vd 59 (o_mov (.tmp 0)) (.vd 60 (o_nilCheck (.tmp 59)) (.vd 61 (o_field 0 (.tmp 60)) (.vd 62 (o_load false 1 (.tmp 61)) (.vd 63 (o_mov (.tmp 5)) (.vd 64 (o_mov (.tmp 12)) (.cd 65 (fun F => c_call F 111 [(.tmp 62), (.tmp 63), (.tmp 64)]) (.vd 58 (o_mov (.tmp 65)) (.vd 66 (o_extract (.tmp 58) 0) (.vd 67 (o_extract (.tmp 58) 1) (.vd 13 (o_mov (.tmp 66)) (.vd 14 (o_mov (.tmp 67)) .nil)))))))))))))
        (.seq (.ops (.vd 68 (o_mov (.tmp 11)) (.vd 69 (o_mov (.tmp 68)) (.vg 70 69 false (o_mov (.tmp 13)) (.vg 71 69 false (o_bin .neq (.tmp 70) (.const (.int .i64 0))) (.vd 72 (o_pick (.tmp 69) (.const (.bool true)) (.tmp 71)) (.vd 11 (o_mov (.tmp 72)) .nil)))))))
        (.ops (.vd 73 (o_mov (.tmp 0)) (.vd 74 (o_nilCheck (.tmp 73)) (.vd 75 (o_field 0 (.tmp 74)) (.vd 76 (o_load false 1 (.tmp 75)) (.vd 77 (o_mov (.tmp 5)) (.vd 78 (o_mov (.tmp 12)) (.cd 79 (fun F => c_call F 112 [(.tmp 76), (.tmp 77), (.tmp 78), (.const (.int .i64 0))]) .nil))))))))))))
       (.ops (.vd 80 (o_bin .add (.tmp 55) (.const (.int .i64 1))) (.vd 55 (o_mov (.tmp 80)) .nil)))))
def S49_2 : SCode := .seq (.ops (.vd 21 (o_bin .lss (.tmp 20) (.tmp 19)) .nil))
    (.seq (.cond (.tmp 21)
     .skip
     (.exit 0))
    (.seq (.block 1 (.seq (.ops (.vd 22 (o_index 1 (.tmp 18) (.tmp 20)) (.vd 23 (o_load false 1 (.tmp 22)) (.vd 5 (o_mov (.tmp 23)) .nil))))
     (.seq (.ops (.vd 25 (o_mov (.tmp 0)) (.vd 26 (o_nilCheck (.tmp 25)) (.vd 27 (o_field 0 (.tmp 26)) (.vd 28 (o_load false 1 (.tmp 27)) (.vd 29 (o_mov (.tmp 5)) (.cd 30 (fun F => c_call F 109 [(.tmp 28), (.tmp 29)]) (.vd 24 (o_mov (.tmp 30)) (.vd 31 (o_extract (.tmp 24) 0) (.vd 32 (o_extract (.tmp 24) 1) (.vd 6 (o_new [.int .i64 0, .int .i64 0, .int .i64 0]) (.v none none (o_store 3 (.tmp 6) (.tmp 31)) (.vd 7 (o_mov (.tmp 32)) .nil)))))))))))))
     (.seq (.ops (.vd 33 (o_load true 3 (.tmp 6)) (.cd 34 (fun F => c_call F 110 [(.tmp 33)]) (.vd 8 (o_mov (.tmp 34)) .nil))))
     (.seq (.seq (.ops (.vd 36 (o_mov (.tmp 0)) (.vd 37 (o_nilCheck (.tmp 36)) (.vd 38 (o_field 0 (.tmp 37)) (.vd 39 (o_load false 1 (.tmp 38)) (.vd 40 (o_mov (.tmp 5)) (.cd 41 (fun F => c_call F 111 [(.tmp 39), (.tmp 40), (.const (.int .i64 0))]) (.vd 35 (o_mov (.tmp 41)) (.vd 42 (o_extract (.tmp 35) 0) (.vd 43 (o_extract (.tmp 35) 1) (.vd 9 (o_mov (.tmp 42)) (.vd 10 (o_mov (.tmp 43)) .nil))))))))))))
     (.seq (.ops (.vd 44 (o_mov (.tmp 8)) (.vd 45 (o_bin .eql (.tmp 44) (.const (.int .i64 0))) (.vd 46 (o_mov (.tmp 45)) (.vg 47 46 false (o_mov (.tmp 0)) (.vg 48 46 false (o_nilCheck (.tmp 47)) (.vg 49 46 false (o_field 2 (.tmp 48)) (.vg 50 46 false (o_load false 1 (.tmp 49)) (.vg 51 46 false (o_mov (.tmp 9)) (.vg 52 46 false (o_mapGet false .i64 (.bool false) (.tmp 50) (.tmp 51)) (.vd 53 (o_pick (.tmp 46) (.const (.bool true)) (.tmp 52)) .nil)))))))))))
     (.cond (.tmp 53)
      (.exit 1)
      .skip)))
     (.seq (.ops (.vd 11 (o_mov (.const (.bool false))) .nil))
     (.seq (.seq (.ops (.vd 54 (o_mov (.tmp 8)) (.vd 55 (o_mov (.const (.int .i64 0))) .nil)))
     (.block 2 (.loop S49_1)))
     (.seq (.ops (.vd 81 (o_mov (.tmp 11)) .nil))
     (.cond (.tmp 81)
      (.ops (.vd 82 (o_mov (.tmp 3)) (.vd 83 (o_bin .add (.tmp 82) (.const (.int .i64 1))) (.vd 3 (o_mov (.tmp 83)) .nil))))
      .skip)))))))))
    (.ops (.vd 84 (o_bin .add (.tmp 20) (.const (.int .i64 1))) (.vd 20 (o_mov (.tmp 84)) .nil)))))
def S49 : SCode := (.seq (.ops (.vd 2 (o_mov (.const (.int .i64 0))) .nil))
  (.seq (.ops (.vd 3 (o_mov (.const (.int .i64 0))) .nil))
  (.seq (.seq (.ops (.vd 15 (o_mov (.tmp 0)) (.vd 16 (o_nilCheck (.tmp 15)) (.vd 17 (o_field 3 (.tmp 16)) (.vd 18 (o_load false 1 (.tmp 17)) (.vd 19 (o_len (.tmp 18)) (.vd 20 (o_mov (.const (.int .i64 0))) .nil)))))))
  (.block 0 (.loop S49_2)))
  (.seq (.ops (.vd 85 (o_mov (.tmp 3)) (.vd 2 (o_mov (.tmp 85)) .nil)))
  .ret))))
def X49 : FnS := .code ⟨86, 0, .skip, [.tmp 2]⟩ S49
theorem x49 : okX Go.Proofs.Tryz.prog 49 X49 := okX_of (by kernel_rfl)
def S50_1 : SCode := .seq (.ops (.vd 12 (o_bin .lss (.tmp 11) (.tmp 10)) .nil))
    (.seq (.cond (.tmp 12)
     .skip
     (.exit 0))
    (.seq (.block 1 (.seq (.ops (.vd 13 (o_index 1 (.tmp 9) (.tmp 11)) (.vd 14 (o_load false 1 (.tmp 13)) (.vd 7 (o_mov (.tmp 14)) .nil))))
     (.seq (.ops (.vd 15 (o_mov (.tmp 1)) (.vd 16 (o_mov (.tmp 7)) (.cd 17 (fun F => c_callm F (.tmp 15) [(.tmp 16)] [(267, "dustcart/alloc.place", 272), (268, "dustcart/alloc.place", 277), (269, "dustcart/alloc.place", 285), (270, "dustcart/alloc.place", 286), (271, "dustcart/alloc.place", 290)]) (.vd 18 (o_not (.tmp 17)) .nil)))))
     (.cond (.tmp 18)
      (.seq (.ops (.vd 19 (o_mov (.tmp 2)) (.vd 20 (o_nilCheck (.tmp 19)) (.vd 21 (o_field 2 (.tmp 20)) (.vd 22 (o_load false 1 (.tmp 21)) (.vd 23 (o_bin .add (.tmp 22) (.const (.int .i64 1))) (.vd 24 (o_nilCheck (.tmp 19)) (.vd 25 (o_field 2 (.tmp 24)) (.v none none (o_store 1 (.tmp 25) (.tmp 23)) .nil)))))))))
      (.seq (.dregion [⟨⟨some 30, none, .mov (.tmp 0)⟩, 4, 0, 0⟩, ⟨⟨some 31, none, .mov (.tmp 7)⟩, 5, 0, 0⟩, ⟨⟨some 32, none, .call 107 [(.tmp 30), (.tmp 31)]⟩, 6, 3, 0⟩, ⟨⟨some 26, none, .mov (.tmp 2)⟩, 0, 0, 0⟩, ⟨⟨some 27, none, .nilCheck (.tmp 26)⟩, 1, 0, 0⟩, ⟨⟨some 28, none, .field 3 (.tmp 27)⟩, 2, 0, 0⟩, ⟨⟨some 29, none, .load false 1 (.tmp 28)⟩, 3, 1, 0⟩, ⟨⟨some 33, none, .bin .add (.tmp 29) (.tmp 32)⟩, 7, 0, 1⟩, ⟨⟨some 34, none, .nilCheck (.tmp 26)⟩, 8, 0, 1⟩, ⟨⟨some 35, none, .field 3 (.tmp 34)⟩, 9, 0, 1⟩, ⟨⟨none, none, .store 1 (.tmp 35) (.tmp 33)⟩, 10, 3, 1⟩])
      (.ops (.vd 36 (o_mov (.tmp 0)) (.vd 37 (o_mov (.tmp 7)) (.cd 38 (fun F => c_call F 113 [(.tmp 36), (.tmp 37)]) .nil))))))
      .skip))))
    (.ops (.vd 39 (o_bin .add (.tmp 11) (.const (.int .i64 1))) (.vd 11 (o_mov (.tmp 39)) .nil)))))
def S50 : SCode := (.seq (.ops (.vd 8 (o_mov (.tmp 0)) (.cd 9 (fun F => c_call F 64 [(.tmp 8)]) (.vd 10 (o_len (.tmp 9)) (.vd 11 (o_mov (.const (.int .i64 0))) .nil)))))
  (.block 0 (.loop S50_1)))
def X50 : FnS := .code ⟨40, 0, .skip, []⟩ S50
theorem x50 : okX Go.Proofs.Tryz.prog 50 X50 := okX_of (by kernel_rfl)
def S51 : SCode := (.seq (.ops (.vd 3 (o_mov (.const (.bool false))) .nil))
  (.seq (.ops (.vd 4 (o_load false 1 (.tmp 1)) (.vd 5 (o_nilCheck (.tmp 4)) (.vd 6 (o_field 2 (.tmp 5)) (.vd 7 (o_load false 1 (.tmp 6)) (.vd 8 (o_mov (.tmp 0)) (.vd 9 (o_mapGet false .i64 (.bool false) (.tmp 7) (.tmp 8)) (.vd 3 (o_mov (.tmp 9)) .nil))))))))
  .ret))
def X51 : FnS := .code ⟨10, 0, .skip, [.tmp 3]⟩ S51
theorem x51 : okX Go.Proofs.Tryz.prog 51 X51 := okX_of (by kernel_rfl)
def S52_1 : SCode := .seq (.ops (.vd 46 (o_bin .lss (.tmp 45) (.tmp 44)) .nil))
    (.seq (.cond (.tmp 46)
     .skip
     (.exit 2))
    (.seq (.block 3 (.seq (.ops (.vd 47 (o_index 2 (.tmp 43) (.tmp 45)) (.vd 48 (o_load true 2 (.tmp 47)) (.vd 11 (o_new [.int .i64 0, .int .i64 0]) (.v none none (o_store 2 (.tmp 11) (.tmp 48)) .nil)))))
     (.dregion [⟨⟨some 49, none, .load false 1 (.tmp 2)⟩, 0, 1, 0⟩, ⟨⟨some 50, none, .nilCheck (.tmp 49)⟩, 1, 0, 0⟩, ⟨⟨some 51, none, .field 0 (.tmp 50)⟩, 2, 0, 0⟩, ⟨⟨some 52, none, .load false 1 (.tmp 51)⟩, 3, 1, 0⟩, ⟨⟨some 53, none, .field 0 (.tmp 11)⟩, 4, 0, 0⟩, ⟨⟨some 54, none, .load false 1 (.tmp 53)⟩, 5, 1, 0⟩, ⟨⟨some 55, none, .field 1 (.tmp 11)⟩, 6, 0, 0⟩, ⟨⟨some 56, none, .load false 1 (.tmp 55)⟩, 7, 1, 0⟩, ⟨⟨some 57, none, .call 82 [(.tmp 52), (.tmp 54), (.tmp 56)]⟩, 8, 3, 0⟩])))
    (.ops (.vd 58 (o_bin .add (.tmp 45) (.const (.int .i64 1))) (.vd 45 (o_mov (.tmp 58)) .nil)))))
def S52_2 : SCode := .seq (.ops (.vd 19 (o_bin .lss (.tmp 18) (.tmp 17)) .nil))
    (.seq (.cond (.tmp 19)
     .skip
     (.exit 0))
    (.seq (.block 1 (.seq (.ops (.vd 20 (o_index 1 (.tmp 16) (.tmp 18)) (.vd 21 (o_load false 1 (.tmp 20)) (.vd 9 (o_mov (.tmp 21)) .nil))))
     (.seq (.ops (.vd 22 (o_load false 1 (.tmp 2)) (.vd 23 (o_nilCheck (.tmp 22)) (.vd 24 (o_field 0 (.tmp 23)) (.vd 25 (o_load false 1 (.tmp 24)) (.vd 26 (o_mov (.tmp 9)) (.cd 27 (fun F => c_call F 105 [(.tmp 25), (.tmp 26)]) (.vd 28 (o_not (.tmp 27)) .nil))))))))
     (.cond (.tmp 28)
      (.ops (.vd 29 (o_mov (.tmp 5)) (.vd 30 (o_mov (.tmp 9)) (.vd 31 (o_load false 1 (.tmp 2)) (.vd 32 (o_nilCheck (.tmp 31)) (.vd 33 (o_field 0 (.tmp 32)) (.vd 34 (o_load false 1 (.tmp 33)) (.vd 35 (o_mov (.tmp 9)) (.cd 36 (fun F => c_call F 107 [(.tmp 34), (.tmp 35)]) (.vd 37 (o_mov (.tmp 7)) (.cd 38 (fun F => c_call F 106 [(.tmp 6), (.tmp 36), (.tmp 37)]) (.vd 39 (o_build [.int .i64 0, .int .i64 0] [(0, 1, (.tmp 30)), (1, 1, (.tmp 38))]) (.vd 40 (o_buildSlice 2 [.int .i64 0, .int .i64 0] 1 [(0, 2, (.tmp 39))]) (.vd 41 (o_append 2 (.tmp 29) (.tmp 40)) (.vd 5 (o_mov (.tmp 41)) .nil)))))))))))))))
      .skip))))
    (.ops (.vd 42 (o_bin .add (.tmp 18) (.const (.int .i64 1))) (.vd 18 (o_mov (.tmp 42)) .nil)))))
def S52 : SCode := (.seq (.ops (.vd 2 (o_box (.tmp 0)) (.vd 3 (o_box (.tmp 1)) (.vd 4 (o_mov (.const (.nilSlice))) .nil))))
  (.seq (.ops (.vd 5 (o_mov (.const (.nilSlice))) .nil))
  (.seq (.ops (.vd 6 (o_new [.int .i64 0, .int .i64 0, .int .i64 0]) .nil))
  (.seq (.ops (.vd 12 (o_mkfunc 114 [(.tmp 2), (.tmp 3)]) (.vd 7 (o_mov (.tmp 12)) .nil)))
  (.seq (.seq (.ops (.vd 13 (o_load false 1 (.tmp 2)) (.vd 14 (o_nilCheck (.tmp 13)) (.vd 15 (o_field 3 (.tmp 14)) (.vd 16 (o_load false 1 (.tmp 15)) (.vd 17 (o_len (.tmp 16)) (.vd 18 (o_mov (.const (.int .i64 0))) .nil)))))))
  (.block 0 (.loop S52_2)))
  (.seq (.seq (.ops (.vd 43 (o_mov (.tmp 5)) (.vd 44 (o_len (.tmp 43)) (.vd 45 (o_mov (.const (.int .i64 0))) .nil))))
  (.block 2 (.loop S52_1)))
  (.seq (.ops (.vd 59 (o_mov (.tmp 5)) (.vd 4 (o_mov (.tmp 59)) .nil)))
  .ret)))))))
def X52 : FnS := .code ⟨60, 0, .skip, [.tmp 4]⟩ S52
theorem x52 : okX Go.Proofs.Tryz.prog 52 X52 := okX_of (by kernel_rfl)
def S53_1 : SCode := .seq (.ops (.vd 68 (o_bin .lss (.tmp 67) (.tmp 66)) .nil))
       (.seq (.cond (.tmp 68)
        .skip
        (.exit 4))
       (.seq (.block 5 (.seq (.ops (.vd 69 (o_mov (.tmp 67)) (.vd 16 (o_mov (.tmp 69)) .nil)))
        (.seq (.ops (.vd 71 (o_mov (.tmp 0)) (.vd 72 (o_mov (.tmp 13)) (.vd 73 (o_mov (.tmp 16)) (.cd 74 (fun F => c_call F 111 [(.tmp 71), (.tmp 72), (.tmp 73)]) (.vd 70 (o_mov (.tmp 74)) (.vd 75 (o_extract (.tmp 70) 0) (.vd 76 (o_extract (.tmp 70) 1) (.vd 17 (o_mov (.tmp 75)) (.vd 18 (o_mov (.tmp 76)) .nil))))))))))
        (.seq (.ops (.vd 78 (o_mov (.tmp 9)) (.vd 79 (o_mov (.tmp 17)) (.vd 80 (o_mapGet true .i64 (.int .i64 0) (.tmp 78) (.tmp 79)) (.vd 77 (o_mov (.tmp 80)) (.vd 81 (o_extract (.tmp 77) 0) (.vd 82 (o_extract (.tmp 77) 1) (.vd 19 (o_mov (.tmp 81)) (.vd 20 (o_mov (.tmp 82)) .nil)))))))))
        (.seq (.ops (.vd 83 (o_mov (.tmp 20)) .nil))
        (.cond (.tmp 83)
         (.ops (.vd 84 (o_mov (.tmp 0)) (.vd 85 (o_mov (.tmp 13)) (.vd 86 (o_mov (.tmp 16)) (.vd 87 (o_mov (.tmp 19)) (.cd 88 (fun F => c_call F 112 [(.tmp 84), (.tmp 85), (.tmp 86), (.tmp 87)]) .nil))))))
         .skip))))))
       (.ops (.vd 89 (o_bin .add (.tmp 67) (.const (.int .i64 1))) (.vd 67 (o_mov (.tmp 89)) .nil)))))
def S53_2 : SCode := .seq (.ops (.vd 56 (o_bin .lss (.tmp 55) (.tmp 54)) .nil))
    (.seq (.cond (.tmp 56)
     .skip
     (.exit 2))
    (.seq (.block 3 (.seq (.ops (.vd 57 (o_index 1 (.tmp 53) (.tmp 55)) (.vd 58 (o_load false 1 (.tmp 57)) (.vd 13 (o_mov (.tmp 58)) .nil))))
     (.seq (.ops (.vd 60 (o_mov (.tmp 0)) (.vd 61 (o_mov (.tmp 13)) (.cd 62 (fun F => c_call F 109 [(.tmp 60), (.tmp 61)]) (.vd 59 (o_mov (.tmp 62)) (.vd 63 (o_extract (.tmp 59) 0) (.vd 64 (o_extract (.tmp 59) 1) (.vd 14 (o_new [.int .i64 0, .int .i64 0, .int .i64 0]) (.v none none (o_store 3 (.tmp 14) (.tmp 63)) (.vd 15 (o_mov (.tmp 64)) .nil))))))))))
     (.seq (.ops (.vd 65 (o_field 0 (.tmp 14)) (.vd 66 (o_load false 1 (.tmp 65)) (.vd 67 (o_mov (.const (.int .i64 0))) .nil))))
     (.block 4 (.loop S53_1))))))
    (.ops (.vd 90 (o_bin .add (.tmp 55) (.const (.int .i64 1))) (.vd 55 (o_mov (.tmp 90)) .nil)))))
def S53_3 : SCode := .seq (.ops (.vd 29 (o_bin .lss (.tmp 28) (.tmp 27)) .nil))
    (.seq (.cond (.tmp 29)
     .skip
     (.exit 0))
    (.seq (.block 1 (.seq (.ops (.vd 30 (o_index 2 (.tmp 26) (.tmp 28)) (.vd 31 (o_load true 2 (.tmp 30)) (.vd 11 (o_new [.int .i64 0, .int .i64 0]) (.v none none (o_store 2 (.tmp 11) (.tmp 31)) .nil)))))
     (.seq (.dregion [⟨⟨some 32, none, .mov (.tmp 7)⟩, 0, 0, 0⟩, ⟨⟨some 33, none, .field 0 (.tmp 11)⟩, 1, 0, 0⟩, ⟨⟨some 34, none, .load false 1 (.tmp 33)⟩, 2, 1, 0⟩, ⟨⟨some 35, none, .buildSlice 1 [.int .i64 0] 1 [(0, 1, (.tmp 34))]⟩, 3, 0, 0⟩, ⟨⟨some 36, none, .append 1 (.tmp 32) (.tmp 35)⟩, 4, 3, 0⟩, ⟨⟨some 37, none, .mov (.tmp 8)⟩, 5, 0, 0⟩, ⟨⟨some 38, none, .field 1 (.tmp 11)⟩, 6, 0, 0⟩, ⟨⟨some 39, none, .load false 1 (.tmp 38)⟩, 7, 1, 0⟩, ⟨⟨some 40, none, .buildSlice 1 [.int .i64 0] 1 [(0, 1, (.tmp 39))]⟩, 8, 0, 0⟩, ⟨⟨some 41, none, .append 1 (.tmp 37) (.tmp 40)⟩, 9, 3, 1⟩, ⟨⟨some 7, none, .mov (.tmp 36)⟩, 10, 0, 2⟩, ⟨⟨some 8, none, .mov (.tmp 41)⟩, 11, 0, 2⟩])
     (.ops (.vd 42 (o_mov (.tmp 9)) (.vd 43 (o_field 0 (.tmp 11)) (.vd 44 (o_load false 1 (.tmp 43)) (.vd 45 (o_field 1 (.tmp 11)) (.vd 46 (o_load false 1 (.tmp 45)) (.v none none (o_mapSet .i64 (.tmp 42) (.tmp 44) (.tmp 46)) .nil))))))))))
    (.ops (.vd 47 (o_bin .add (.tmp 28) (.const (.int .i64 1))) (.vd 28 (o_mov (.tmp 47)) .nil)))))
def S53 : SCode := (.seq (.ops (.vd 21 (o_mov (.tmp 2)) (.cd 22 (fun F => c_call F 115 [(.tmp 21)]) (.vd 6 (o_mov (.tmp 22)) .nil))))
  (.seq (.ops (.vd 23 (o_mov (.tmp 6)) (.cd 24 (fun F => c_call F 116 [(.tmp 23), (.const (.func 117 []))]) .nil)))
  (.seq (.ops (.vd 7 (o_mov (.const (.nilSlice))) (.vd 8 (o_mov (.const (.nilSlice))) .nil)))
  (.seq (.ops (.vd 25 (o_mapNew) (.vd 9 (o_mov (.tmp 25)) .nil)))
  (.seq (.seq (.ops (.vd 26 (o_mov (.tmp 6)) (.vd 27 (o_len (.tmp 26)) (.vd 28 (o_mov (.const (.int .i64 0))) .nil))))
  (.block 0 (.loop S53_3)))
  (.seq (.ops (.vd 48 (o_mov (.tmp 1)) (.vd 49 (o_mov (.tmp 7)) (.vd 50 (o_mov (.tmp 8)) (.cd 51 (fun F => c_call F 118 [(.tmp 48), (.tmp 49), (.tmp 50)]) .nil)))))
  (.seq (.ops (.vd 52 (o_mov (.tmp 0)) (.cd 53 (fun F => c_call F 64 [(.tmp 52)]) (.vd 54 (o_len (.tmp 53)) (.vd 55 (o_mov (.const (.int .i64 0))) .nil)))))
  (.block 2 (.loop S53_2)))))))))
def X53 : FnS := .code ⟨91, 0, .skip, []⟩ S53
theorem x53 : okX Go.Proofs.Tryz.prog 53 X53 := okX_of (by kernel_rfl)
def S54_1 : SCode := .seq (.ops (.vd 6 (o_bin .lss (.tmp 5) (.tmp 4)) .nil))
    (.seq (.cond (.tmp 6)
     .skip
     (.exit 0))
    (.seq (.block 1 (.seq (.ops (.vd 7 (o_mov (.tmp 5)) (.vd 2 (o_mov (.tmp 7)) .nil)))
     (.ops (.vd 8 (o_mov (.tmp 0)) (.vd 9 (o_mov (.tmp 2)) (.cd 10 (fun F => c_call F 119 [(.tmp 8), (.tmp 9)]) .nil))))))
    (.ops (.vd 11 (o_bin .add (.tmp 5) (.const (.int .i64 1))) (.vd 5 (o_mov (.tmp 11)) .nil)))))
def S54 : SCode := (.seq (.ops (.vd 3 (o_mov (.tmp 0)) (.cd 4 (fun F => c_call F 30 [(.tmp 3)]) (.vd 5 (o_mov (.const (.int .i64 0))) .nil))))
  (.block 0 (.loop S54_1)))
def X54 : FnS := .code ⟨12, 0, .skip, []⟩ S54
theorem x54 : okX Go.Proofs.Tryz.prog 54 X54 := okX_of (by kernel_rfl)
def S55_1 : SCode := .seq (.ops (.vd 27 (o_bin .lss (.tmp 26) (.tmp 25)) .nil))
    (.seq (.cond (.tmp 27)
     .skip
     (.exit 0))
    (.seq (.block 1 (.seq (.ops (.vd 28 (o_index 2 (.tmp 24) (.tmp 26)) (.vd 29 (o_load true 2 (.tmp 28)) (.vd 7 (o_new [.int .i64 0, .int .i64 0]) (.v none none (o_store 2 (.tmp 7) (.tmp 29)) .nil)))))
     (.dregion [⟨⟨some 34, none, .mov (.tmp 0)⟩, 4, 0, 0⟩, ⟨⟨some 35, none, .field 1 (.tmp 7)⟩, 5, 0, 0⟩, ⟨⟨some 36, none, .load false 1 (.tmp 35)⟩, 6, 1, 0⟩, ⟨⟨some 37, none, .call 107 [(.tmp 34), (.tmp 36)]⟩, 7, 3, 0⟩, ⟨⟨some 30, none, .mov (.tmp 2)⟩, 0, 0, 0⟩, ⟨⟨some 31, none, .nilCheck (.tmp 30)⟩, 1, 0, 0⟩, ⟨⟨some 32, none, .field 5 (.tmp 31)⟩, 2, 0, 0⟩, ⟨⟨some 33, none, .load false 1 (.tmp 32)⟩, 3, 1, 0⟩, ⟨⟨some 38, none, .bin .add (.tmp 33) (.tmp 37)⟩, 8, 0, 1⟩, ⟨⟨some 39, none, .nilCheck (.tmp 30)⟩, 9, 0, 1⟩, ⟨⟨some 40, none, .field 5 (.tmp 39)⟩, 10, 0, 1⟩, ⟨⟨none, none, .store 1 (.tmp 40) (.tmp 38)⟩, 11, 3, 1⟩])))
    (.ops (.vd 41 (o_bin .add (.tmp 26) (.const (.int .i64 1))) (.vd 26 (o_mov (.tmp 41)) .nil)))))
def S55 : SCode := (.seq (.ops (.vd 8 (o_mov (.tmp 2)) (.vd 9 (o_mov (.tmp 2)) (.vd 10 (o_mov (.tmp 0)) (.cd 11 (fun F => c_call F 64 [(.tmp 10)]) (.vd 12 (o_len (.tmp 11)) (.vd 13 (o_mov (.tmp 0)) (.cd 14 (fun F => c_call F 120 [(.tmp 13)]) (.vd 15 (o_nilCheck (.tmp 8)) (.vd 16 (o_field 0 (.tmp 15)) (.v none none (o_store 1 (.tmp 16) (.tmp 12)) (.vd 17 (o_nilCheck (.tmp 9)) (.vd 18 (o_field 1 (.tmp 17)) (.v none none (o_store 1 (.tmp 18) (.tmp 14)) .nil))))))))))))))
  (.seq (.ops (.vd 19 (o_mov (.tmp 2)) (.vd 20 (o_mov (.tmp 1)) (.vd 21 (o_len (.tmp 20)) (.vd 22 (o_nilCheck (.tmp 19)) (.vd 23 (o_field 4 (.tmp 22)) (.v none none (o_store 1 (.tmp 23) (.tmp 21)) .nil)))))))
  (.seq (.ops (.vd 24 (o_mov (.tmp 1)) (.vd 25 (o_len (.tmp 24)) (.vd 26 (o_mov (.const (.int .i64 0))) .nil))))
  (.block 0 (.loop S55_1)))))
def X55 : FnS := .code ⟨42, 0, .skip, []⟩ S55
theorem x55 : okX Go.Proofs.Tryz.prog 55 X55 := okX_of (by kernel_rfl)
end Go.Cs.Tryz

/- The turned functions, part 1. -/
noncomputable section
namespace Go.Cs.Tryz
open Go Go.Cs Go.Cs.K
set_option maxRecDepth 100000
def S56_1 : SCode := .seq (.seq (.ops (.vd 8 (o_mov (.tmp 3)) (.vd 9 (o_bin .lss (.tmp 8) (.const (.int .i64 4))) .nil)))
    (.cond (.tmp 9)
     .skip
     (.exit 0)))
    (.seq (.block 1 (.seq (.ops (.vd 13 (o_field 2 (.tmp 1)) (.vd 14 (o_indexA 2 1 (.tmp 13) (.const (.int .i64 0))) (.vd 15 (o_load false 1 (.tmp 14)) (.vd 16 (o_build [.int .i64 0, .int .i64 0, .int .i64 0] [(0, 1, (.const (.int .i64 2)))]) (.cd 17 (fun F => c_call F 122 [(.tmp 15), (.tmp 16)]) (.vd 12 (o_mov (.tmp 17)) (.vd 18 (o_extract (.tmp 12) 0) (.vd 19 (o_extract (.tmp 12) 1) (.vd 4 (o_mov (.tmp 18)) (.vd 5 (o_mov (.tmp 19)) .nil)))))))))))
     (.ops (.vd 20 (o_mov (.tmp 2)) (.vd 21 (o_mov (.tmp 4)) (.vd 22 (o_buildSlice 1 [.int .i64 0] 1 [(0, 1, (.tmp 21))]) (.vd 23 (o_append 1 (.tmp 20) (.tmp 22)) (.vd 2 (o_mov (.tmp 23)) .nil))))))))
    (.ops (.vd 10 (o_mov (.tmp 3)) (.vd 11 (o_bin .add (.tmp 10) (.const (.int .i64 1))) (.vd 3 (o_mov (.tmp 11)) .nil)))))
def S56 : SCode := (.seq (.ops (.vd 0 (o_new [.nilPtr, .nilPtr, .nilPtr, .nilPtr, .nilPtr]) .nil))
  (.seq (.ops (.vd 6 (o_build [.int .u8 0, .int .u8 0, .int .u8 0, .nilSlice] [(0, 1, (.const (.int .u8 2)))]) (.cd 7 (fun F => c_call F 121 [(.tmp 6)]) (.vd 1 (o_new [.nilPtr, .nilPtr, .nilPtr, .nilPtr, .nilPtr]) (.v none none (o_store 5 (.tmp 1) (.tmp 7)) .nil)))))
  (.seq (.ops (.vd 2 (o_mov (.const (.nilSlice))) .nil))
  (.seq (.seq (.ops (.vd 3 (o_mov (.const (.int .i64 0))) .nil))
  (.block 0 (.loop S56_1)))
  (.seq (.dregion [⟨⟨some 24, none, .field 1 (.tmp 1)⟩, 0, 0, 0⟩, ⟨⟨some 25, none, .load false 1 (.tmp 24)⟩, 1, 1, 0⟩, ⟨⟨some 26, none, .build [.int .i64 0, .int .i64 0, .int .i64 0] []⟩, 2, 0, 0⟩, ⟨⟨some 27, none, .mov (.tmp 2)⟩, 3, 0, 0⟩, ⟨⟨some 28, none, .index 1 (.tmp 27) (.const (.int .i64 0))⟩, 4, 0, 0⟩, ⟨⟨some 29, none, .load false 1 (.tmp 28)⟩, 5, 1, 0⟩, ⟨⟨some 30, none, .call 41 [(.tmp 25), (.tmp 26), (.tmp 29)]⟩, 6, 3, 0⟩])
  (.seq (.dregion [⟨⟨some 31, none, .field 0 (.tmp 1)⟩, 0, 0, 0⟩, ⟨⟨some 32, none, .load false 1 (.tmp 31)⟩, 1, 1, 0⟩, ⟨⟨some 33, none, .mov (.tmp 2)⟩, 2, 0, 0⟩, ⟨⟨some 34, none, .index 1 (.tmp 33) (.const (.int .i64 0))⟩, 3, 0, 0⟩, ⟨⟨some 35, none, .load false 1 (.tmp 34)⟩, 4, 1, 0⟩, ⟨⟨some 36, none, .mov (.tmp 2)⟩, 5, 0, 0⟩, ⟨⟨some 37, none, .index 1 (.tmp 36) (.const (.int .i64 1))⟩, 6, 0, 0⟩, ⟨⟨some 38, none, .load false 1 (.tmp 37)⟩, 7, 1, 0⟩, ⟨⟨some 39, none, .call 112 [(.tmp 32), (.tmp 35), (.const (.int .i64 0)), (.tmp 38)]⟩, 8, 3, 0⟩])
  (.seq (.dregion [⟨⟨some 40, none, .field 0 (.tmp 1)⟩, 0, 0, 0⟩, ⟨⟨some 41, none, .load false 1 (.tmp 40)⟩, 1, 1, 0⟩, ⟨⟨some 42, none, .mov (.tmp 2)⟩, 2, 0, 0⟩, ⟨⟨some 43, none, .index 1 (.tmp 42) (.const (.int .i64 0))⟩, 3, 0, 0⟩, ⟨⟨some 44, none, .load false 1 (.tmp 43)⟩, 4, 1, 0⟩, ⟨⟨some 45, none, .mov (.tmp 2)⟩, 5, 0, 0⟩, ⟨⟨some 46, none, .index 1 (.tmp 45) (.const (.int .i64 2))⟩, 6, 0, 0⟩, ⟨⟨some 47, none, .load false 1 (.tmp 46)⟩, 7, 1, 0⟩, ⟨⟨some 48, none, .call 112 [(.tmp 41), (.tmp 44), (.const (.int .i64 1)), (.tmp 47)]⟩, 8, 3, 0⟩])
  (.seq (.dregion [⟨⟨some 49, none, .field 0 (.tmp 1)⟩, 0, 0, 0⟩, ⟨⟨some 50, none, .load false 1 (.tmp 49)⟩, 1, 1, 0⟩, ⟨⟨some 51, none, .mov (.tmp 2)⟩, 2, 0, 0⟩, ⟨⟨some 52, none, .index 1 (.tmp 51) (.const (.int .i64 1))⟩, 3, 0, 0⟩, ⟨⟨some 53, none, .load false 1 (.tmp 52)⟩, 4, 1, 0⟩, ⟨⟨some 54, none, .mov (.tmp 2)⟩, 5, 0, 0⟩, ⟨⟨some 55, none, .index 1 (.tmp 54) (.const (.int .i64 3))⟩, 6, 0, 0⟩, ⟨⟨some 56, none, .load false 1 (.tmp 55)⟩, 7, 1, 0⟩, ⟨⟨some 57, none, .call 112 [(.tmp 50), (.tmp 53), (.const (.int .i64 0)), (.tmp 56)]⟩, 8, 3, 0⟩])
  (.seq (.ops (.vd 58 (o_load true 5 (.tmp 1)) (.v none none (o_store 5 (.tmp 0) (.tmp 58)) .nil)))
  .ret)))))))))
def X56 : FnS := .code ⟨59, 0, .skip, [.cell 0 true 5]⟩ S56
theorem x56 : okX Go.Proofs.Tryz.prog 56 X56 := okX_of (by kernel_rfl)
def S57_1 : SCode := .seq (.seq (.ops (.vd 11 (o_mov (.tmp 5)) (.vd 12 (o_mov (.tmp 0)) (.vd 13 (o_len (.tmp 12)) (.vd 14 (o_bin .lss (.tmp 11) (.tmp 13)) .nil)))))
    (.cond (.tmp 14)
     .skip
     (.exit 0)))
    (.seq (.block 1 (.seq (.dregion [⟨⟨some 17, none, .mov (.tmp 0)⟩, 0, 0, 0⟩, ⟨⟨some 18, none, .mov (.tmp 5)⟩, 1, 0, 0⟩, ⟨⟨some 19, none, .index 2 (.tmp 17) (.tmp 18)⟩, 2, 0, 0⟩, ⟨⟨some 20, none, .load true 2 (.tmp 19)⟩, 3, 1, 0⟩, ⟨⟨some 21, none, .mov (.tmp 1)⟩, 4, 0, 0⟩, ⟨⟨some 22, none, .mov (.tmp 5)⟩, 5, 0, 0⟩, ⟨⟨some 23, none, .index 2 (.tmp 21) (.tmp 22)⟩, 6, 0, 0⟩, ⟨⟨some 24, none, .load true 2 (.tmp 23)⟩, 7, 1, 0⟩, ⟨⟨some 25, none, .eqs true 2 (.tmp 20) (.tmp 24)⟩, 8, 0, 0⟩])
     (.cond (.tmp 25)
      (.seq (.ops (.vd 4 (o_mov (.const (.bool false))) .nil))
      .ret)
      .skip)))
    (.ops (.vd 15 (o_mov (.tmp 5)) (.vd 16 (o_bin .add (.tmp 15) (.const (.int .i64 1))) (.vd 5 (o_mov (.tmp 16)) .nil)))))
def S57 : SCode := (.seq (.ops (.vd 4 (o_mov (.const (.bool false))) .nil))
  (.seq (.seq (.ops (.vd 6 (o_mov (.tmp 0)) (.vd 7 (o_len (.tmp 6)) (.vd 8 (o_mov (.tmp 1)) (.vd 9 (o_len (.tmp 8)) (.vd 10 (o_bin .neq (.tmp 7) (.tmp 9)) .nil))))))
  (.cond (.tmp 10)
   (.seq (.ops (.vd 4 (o_mov (.const (.bool false))) .nil))
   .ret)
   .skip))
  (.seq (.seq (.ops (.vd 5 (o_mov (.const (.int .i64 0))) .nil))
  (.block 0 (.loop S57_1)))
  (.seq (.ops (.vd 4 (o_mov (.const (.bool true))) .nil))
  .ret))))
def X57 : FnS := .code ⟨26, 0, .skip, [.tmp 4]⟩ S57
theorem x57 : okX Go.Proofs.Tryz.prog 57 X57 := okX_of (by kernel_rfl)
def S58 : SCode := (.seq (.ops (.vd 4 (o_mov (.const (.int .i64 0))) .nil))
  (.seq (.seq (.ops (.vd 5 (o_mov (.tmp 1)) (.vd 6 (o_bin .lss (.tmp 5) (.const (.int .i64 0))) (.vd 7 (o_mov (.tmp 6)) (.vg 8 7 false (o_mov (.tmp 1)) (.vg 9 7 false (o_mov (.tmp 0)) (.c (some 10) (some (7, false)) (fun F => c_call F 30 [(.tmp 9)]) (.vg 11 7 false (o_bin .geq (.tmp 8) (.tmp 10)) (.vd 12 (o_pick (.tmp 7) (.const (.bool true)) (.tmp 11)) .nil)))))))))
  (.cond (.tmp 12)
   (.seq (.ops (.vd 4 (o_mov (.const (.int .i64 (-1)))) .nil))
   .ret)
   .skip))
  (.seq (.ops (.vd 13 (o_mov (.tmp 0)) (.vd 14 (o_nilCheck (.tmp 13)) (.vd 15 (o_field 0 (.tmp 14)) (.vd 16 (o_load false 1 (.tmp 15)) (.vd 17 (o_mov (.tmp 1)) (.vd 18 (o_index 2 (.tmp 16) (.tmp 17)) (.vd 19 (o_field 0 (.tmp 18)) (.vd 20 (o_load false 1 (.tmp 19)) (.vd 4 (o_mov (.tmp 20)) .nil))))))))))
  .ret)))
def X58 : FnS := .code ⟨21, 0, .skip, [.tmp 4]⟩ S58
theorem x58 : okX Go.Proofs.Tryz.prog 58 X58 := okX_of (by kernel_rfl)
def S64 : SCode := (.seq (.ops (.vd 2 (o_mov (.const (.nilSlice))) .nil))
  (.seq (.seq (.ops (.vd 3 (o_mov (.tmp 0)) (.cd 4 (fun F => c_call F 83 [(.tmp 3)]) (.vd 5 (o_not (.tmp 4)) .nil))))
  (.cond (.tmp 5)
   (.seq (.ops (.vd 2 (o_mov (.const (.nilSlice))) .nil))
   .ret)
   .skip))
  (.seq (.ops (.vd 6 (o_mov (.tmp 0)) (.vd 7 (o_mov (.tmp 0)) (.vd 8 (o_nilCheck (.tmp 7)) (.vd 9 (o_field 1 (.tmp 8)) (.vd 10 (o_load false 1 (.tmp 9)) (.vd 11 (o_len (.tmp 10)) (.cd 12 (fun F => c_call F 87 [(.tmp 6), (.const (.int .i64 0)), (.tmp 11)]) (.vd 2 (o_mov (.tmp 12)) .nil)))))))))
  .ret)))
def X64 : FnS := .code ⟨13, 0, .skip, [.tmp 2]⟩ S64
theorem x64 : okX Go.Proofs.Tryz.prog 64 X64 := okX_of (by kernel_rfl)
def S66 : SCode := (.seq (.ops (.vd 4 (o_mov (.const (.bool false))) .nil))
  (.seq (.ops (.vd 5 (o_mov (.tmp 0)) (.vd 6 (o_mov (.tmp 1)) (.cd 7 (fun F => c_call F 44 [(.tmp 5), (.tmp 6)]) (.vd 8 (o_mov (.tmp 7)) (.vg 9 8 true (o_mov (.tmp 0)) (.vg 10 8 true (o_nilCheck (.tmp 9)) (.vg 11 8 true (o_field 3 (.tmp 10)) (.vg 12 8 true (o_load false 1 (.tmp 11)) (.vg 13 8 true (o_mov (.tmp 1)) (.vg 14 8 true (o_bin .quo (.tmp 13) (.const (.int .i64 2))) (.c (some 15) (some (8, true)) (fun F => c_call F 99 [(.tmp 12), (.tmp 14)]) (.vg 16 8 true (o_bin .eql (.tmp 15) (.const (.int .i64 1))) (.vd 17 (o_pick (.tmp 8) (.tmp 16) (.const (.bool false))) (.vd 4 (o_mov (.tmp 17)) .nil)))))))))))))))
  .ret))
def X66 : FnS := .code ⟨18, 0, .skip, [.tmp 4]⟩ S66
theorem x66 : okX Go.Proofs.Tryz.prog 66 X66 := okX_of (by kernel_rfl)
def S69_1 : SCode := .seq (.ops (.vd 34 (o_bin .lss (.tmp 33) (.tmp 32)) .nil))
       (.seq (.cond (.tmp 34)
        .skip
        (.exit 2))
       (.seq (.block 3 (.seq (.ops (.vd 35 (o_mov (.tmp 33)) (.vd 10 (o_mov (.tmp 35)) .nil)))
        (.seq (.ops (.vd 37 (o_load false 1 (.tmp 2)) (.vd 38 (o_mov (.tmp 7)) (.vd 39 (o_mov (.tmp 10)) (.cd 40 (fun F => c_call F 111 [(.tmp 37), (.tmp 38), (.tmp 39)]) (.vd 36 (o_mov (.tmp 40)) (.vd 41 (o_extract (.tmp 36) 0) (.vd 42 (o_extract (.tmp 36) 1) (.vd 11 (o_mov (.tmp 41)) (.vd 12 (o_mov (.tmp 42)) .nil))))))))))
        (.seq (.ops (.vd 43 (o_mov (.tmp 5)) (.vd 44 (o_mov (.tmp 11)) (.cd 45 (fun F => c_callm F (.tmp 43) [(.tmp 44)] [(267, "dustcart/alloc.place", 272), (268, "dustcart/alloc.place", 277), (269, "dustcart/alloc.place", 285), (270, "dustcart/alloc.place", 286), (271, "dustcart/alloc.place", 290)]) .nil))))
        (.cond (.tmp 45)
         (.seq (.ops (.vd 4 (o_mov (.const (.bool false))) .nil))
         .ret)
         .skip)))))
       (.ops (.vd 46 (o_bin .add (.tmp 33) (.const (.int .i64 1))) (.vd 33 (o_mov (.tmp 46)) .nil)))))
def S69_2 : SCode := .seq (.ops (.vd 22 (o_bin .lss (.tmp 21) (.tmp 20)) .nil))
    (.seq (.cond (.tmp 22)
     .skip
     (.exit 0))
    (.seq (.block 1 (.seq (.ops (.vd 23 (o_index 1 (.tmp 19) (.tmp 21)) (.vd 24 (o_load false 1 (.tmp 23)) (.vd 7 (o_mov (.tmp 24)) .nil))))
     (.seq (.ops (.vd 26 (o_load false 1 (.tmp 2)) (.vd 27 (o_mov (.tmp 7)) (.cd 28 (fun F => c_call F 109 [(.tmp 26), (.tmp 27)]) (.vd 25 (o_mov (.tmp 28)) (.vd 29 (o_extract (.tmp 25) 0) (.vd 30 (o_extract (.tmp 25) 1) (.vd 8 (o_new [.int .i64 0, .int .i64 0, .int .i64 0]) (.v none none (o_store 3 (.tmp 8) (.tmp 29)) (.vd 9 (o_mov (.tmp 30)) .nil))))))))))
     (.seq (.ops (.vd 31 (o_field 0 (.tmp 8)) (.vd 32 (o_load false 1 (.tmp 31)) (.vd 33 (o_mov (.const (.int .i64 0))) .nil))))
     (.block 2 (.loop S69_1))))))
    (.ops (.vd 47 (o_bin .add (.tmp 21) (.const (.int .i64 1))) (.vd 21 (o_mov (.tmp 47)) .nil)))))
def S69 : SCode := (.seq (.ops (.vd 2 (o_box (.tmp 0)) (.vd 4 (o_mov (.const (.bool false))) .nil)))
  (.seq (.ops (.vd 13 (o_mkfunc 139 [(.tmp 2)]) (.vd 5 (o_mov (.tmp 13)) .nil)))
  (.seq (.seq (.ops (.vd 14 (o_mov (.tmp 1)) (.cd 15 (fun F => c_call F 141 [(.tmp 14)]) (.vd 16 (o_mov (.tmp 5)) (.cd 17 (fun F => c_call F 140 [(.tmp 15), (.tmp 16)]) .nil)))))
  (.cond (.tmp 17)
   (.seq (.ops (.vd 4 (o_mov (.const (.bool false))) .nil))
   .ret)
   .skip))
  (.seq (.seq (.ops (.vd 18 (o_load false 1 (.tmp 2)) (.cd 19 (fun F => c_call F 64 [(.tmp 18)]) (.vd 20 (o_len (.tmp 19)) (.vd 21 (o_mov (.const (.int .i64 0))) .nil)))))
  (.block 0 (.loop S69_2)))
  (.seq (.ops (.vd 4 (o_mov (.const (.bool true))) .nil))
  .ret)))))
def X69 : FnS := .code ⟨48, 0, .skip, [.tmp 4]⟩ S69
theorem x69 : okX Go.Proofs.Tryz.prog 69 X69 := okX_of (by kernel_rfl)
def S80_1 : SCode := .seq (.ops (.vd 9 (o_bin .lss (.tmp 8) (.tmp 7)) .nil))
    (.seq (.cond (.tmp 9)
     .skip
     (.exit 0))
    (.seq (.block 1 (.seq (.ops (.vd 10 (o_mov (.tmp 8)) (.vd 5 (o_mov (.tmp 10)) .nil)))
     (.seq (.ops (.vd 11 (o_mov (.tmp 1)) (.vd 12 (o_mov (.tmp 0)) (.vd 13 (o_mov (.tmp 5)) (.vd 14 (o_index 1 (.tmp 12) (.tmp 13)) (.vd 15 (o_load false 1 (.tmp 14)) (.vd 16 (o_bin .eql (.tmp 11) (.tmp 15)) .nil)))))))
     (.cond (.tmp 16)
      (.seq (.ops (.vd 17 (o_mov (.tmp 5)) (.vd 4 (o_mov (.tmp 17)) .nil)))
      .ret)
      .skip))))
    (.ops (.vd 18 (o_bin .add (.tmp 8) (.const (.int .i64 1))) (.vd 8 (o_mov (.tmp 18)) .nil)))))
def S80 : SCode := (.seq (.ops (.vd 4 (o_mov (.const (.int .i64 0))) .nil))
  (.seq (.seq (.ops (.vd 6 (o_mov (.tmp 0)) (.vd 7 (o_len (.tmp 6)) (.vd 8 (o_mov (.const (.int .i64 0))) .nil))))
  (.block 0 (.loop S80_1)))
  (.seq (.ops (.vd 4 (o_mov (.const (.int .i64 (-1)))) .nil))
  .ret)))
def X80 : FnS := .code ⟨19, 0, .skip, [.tmp 4]⟩ S80
theorem x80 : okX Go.Proofs.Tryz.prog 80 X80 := okX_of (by kernel_rfl)
def S82 : SCode := (.seq (.ops (.vd 6 (o_mov (.const (.int .i64 0))) .nil))
  (.seq (.seq (.ops (.vd 12 (o_mov (.tmp 0)) (.vd 13 (o_mov (.tmp 1)) (.cd 14 (fun F => c_call F 153 [(.tmp 12), (.tmp 13)]) (.vd 7 (o_mov (.tmp 14)) .nil)))))
  (.seq (.ops (.vd 15 (o_mov (.tmp 7)) (.vd 16 (o_bin .neq (.tmp 15) (.const (.int .i64 0))) .nil)))
  (.cond (.tmp 16)
   (.seq (.ops (.vd 17 (o_mov (.tmp 7)) (.vd 6 (o_mov (.tmp 17)) .nil)))
   .ret)
   .skip)))
  (.seq (.ops (.vd 18 (o_mov (.tmp 0)) (.vd 19 (o_mov (.tmp 1)) (.cd 20 (fun F => c_call F 90 [(.tmp 18), (.tmp 19)]) (.vd 8 (o_mov (.tmp 20)) .nil)))))
  (.seq (.seq (.ops (.vd 21 (o_mov (.tmp 0)) (.vd 22 (o_mov (.tmp 2)) (.vd 23 (o_mov (.tmp 8)) (.vd 24 (o_mov (.tmp 1)) (.cd 25 (fun F => c_call F 93 [(.tmp 21), (.tmp 22), (.tmp 23), (.tmp 24)]) (.vd 9 (o_mov (.tmp 25)) .nil)))))))
  (.seq (.ops (.vd 26 (o_mov (.tmp 9)) (.vd 27 (o_bin .neq (.tmp 26) (.const (.int .i64 0))) .nil)))
  (.cond (.tmp 27)
   (.seq (.ops (.vd 28 (o_mov (.tmp 9)) (.vd 6 (o_mov (.tmp 28)) .nil)))
   .ret)
   .skip)))
  (.seq (.ops (.vd 29 (o_mov (.tmp 0)) (.vd 30 (o_nilCheck (.tmp 29)) (.vd 31 (o_field 3 (.tmp 30)) (.vd 32 (o_load false 1 (.tmp 31)) (.vd 33 (o_mov (.tmp 1)) (.vd 34 (o_bin .quo (.tmp 33) (.const (.int .i64 2))) (.cd 35 (fun F => c_call F 99 [(.tmp 32), (.tmp 34)]) (.vd 10 (o_mov (.tmp 35)) .nil)))))))))
  (.seq (.ops (.vd 36 (o_mov (.tmp 8)) (.vd 37 (o_makeSlice 1 [.int .i64 0] (.tmp 36) (.tmp 36)) (.vd 11 (o_mov (.tmp 37)) .nil))))
  (.seq (.ops (.vd 38 (o_mov (.tmp 11)) (.vd 39 (o_mov (.tmp 0)) (.vd 40 (o_nilCheck (.tmp 39)) (.vd 41 (o_field 1 (.tmp 40)) (.vd 42 (o_load false 1 (.tmp 41)) (.vd 43 (o_mov (.tmp 1)) (.vd 44 (o_mov (.tmp 1)) (.vd 45 (o_mov (.tmp 8)) (.vd 46 (o_bin .add (.tmp 44) (.tmp 45)) (.vd 47 (o_slice 1 (.tmp 42) (some (.tmp 43)) (some (.tmp 46)) none) (.vd 48 (o_copy 1 (.tmp 38) (.tmp 47)) .nil))))))))))))
  (.seq (.ops (.vd 49 (o_mov (.tmp 0)) (.vd 50 (o_nilCheck (.tmp 49)) (.vd 51 (o_field 2 (.tmp 50)) (.vd 52 (o_load false 1 (.tmp 51)) (.vd 53 (o_mov (.tmp 1)) (.vd 54 (o_bin .quo (.tmp 53) (.const (.int .i64 2))) (.cd 55 (fun F => c_call F 96 [(.tmp 52), (.tmp 54), (.const (.int .i64 0))]) .nil))))))))
  (.seq (.ops (.vd 56 (o_mov (.tmp 0)) (.vd 57 (o_nilCheck (.tmp 56)) (.vd 58 (o_field 3 (.tmp 57)) (.vd 59 (o_load false 1 (.tmp 58)) (.vd 60 (o_mov (.tmp 1)) (.vd 61 (o_bin .quo (.tmp 60) (.const (.int .i64 2))) (.cd 62 (fun F => c_call F 96 [(.tmp 59), (.tmp 61), (.const (.int .i64 0))]) .nil))))))))
  (.seq (.ops (.vd 63 (o_mov (.tmp 0)) (.vd 64 (o_mov (.tmp 1)) (.vd 65 (o_mov (.tmp 8)) (.cd 66 (fun F => c_call F 154 [(.tmp 63), (.tmp 64), (.tmp 65)]) .nil)))))
  (.seq (.ops (.vd 67 (o_mov (.tmp 0)) (.vd 68 (o_nilCheck (.tmp 67)) (.vd 69 (o_field 1 (.tmp 68)) (.vd 70 (o_load false 1 (.tmp 69)) (.vd 71 (o_mov (.tmp 2)) (.vd 72 (o_slice 1 (.tmp 70) (some (.tmp 71)) none none) (.vd 73 (o_mov (.tmp 11)) (.vd 74 (o_copy 1 (.tmp 72) (.tmp 73)) .nil)))))))))
  (.seq (.ops (.vd 75 (o_mov (.tmp 0)) (.vd 76 (o_nilCheck (.tmp 75)) (.vd 77 (o_field 2 (.tmp 76)) (.vd 78 (o_load false 1 (.tmp 77)) (.vd 79 (o_mov (.tmp 2)) (.vd 80 (o_bin .quo (.tmp 79) (.const (.int .i64 2))) (.cd 81 (fun F => c_call F 96 [(.tmp 78), (.tmp 80), (.const (.int .i64 1))]) .nil))))))))
  (.seq (.ops (.vd 82 (o_mov (.tmp 0)) (.vd 83 (o_nilCheck (.tmp 82)) (.vd 84 (o_field 3 (.tmp 83)) (.vd 85 (o_load false 1 (.tmp 84)) (.vd 86 (o_mov (.tmp 2)) (.vd 87 (o_bin .quo (.tmp 86) (.const (.int .i64 2))) (.vd 88 (o_mov (.tmp 10)) (.cd 89 (fun F => c_call F 96 [(.tmp 85), (.tmp 87), (.tmp 88)]) .nil)))))))))
  (.seq (.dregion [⟨⟨some 90, none, .mov (.tmp 0)⟩, 0, 0, 0⟩, ⟨⟨some 91, none, .nilCheck (.tmp 90)⟩, 1, 0, 0⟩, ⟨⟨some 92, none, .field 4 (.tmp 91)⟩, 2, 0, 0⟩, ⟨⟨some 93, none, .load false 1 (.tmp 92)⟩, 3, 1, 0⟩, ⟨⟨some 94, none, .mov (.tmp 11)⟩, 4, 0, 0⟩, ⟨⟨some 95, none, .index 1 (.tmp 94) (.const (.int .i64 0))⟩, 5, 0, 0⟩, ⟨⟨some 96, none, .load false 1 (.tmp 95)⟩, 6, 1, 0⟩, ⟨⟨some 97, none, .mov (.tmp 2)⟩, 7, 0, 0⟩, ⟨⟨none, none, .mapSet .i64 (.tmp 93) (.tmp 96) (.tmp 97)⟩, 8, 3, 0⟩])
  (.seq (.ops (.vd 98 (o_mov (.tmp 0)) (.vd 99 (o_nilCheck (.tmp 98)) (.vd 100 (o_field 5 (.tmp 99)) (.vd 101 (o_load false 1 (.tmp 100)) (.vd 102 (o_mov (.tmp 1)) (.vd 103 (o_mov (.tmp 2)) (.v none none (o_mapSet .i64 (.tmp 101) (.tmp 102) (.tmp 103)) .nil))))))))
  (.seq (.ops (.vd 6 (o_mov (.const (.int .i64 0))) .nil))
  .ret))))))))))))))))
def X82 : FnS := .code ⟨104, 0, .skip, [.tmp 6]⟩ S82
theorem x82 : okX Go.Proofs.Tryz.prog 82 X82 := okX_of (by kernel_rfl)
def S83 : SCode := (.seq (.ops (.vd 2 (o_mov (.const (.bool false))) .nil))
  (.seq (.ops (.vd 3 (o_mov (.tmp 0)) (.vd 4 (o_eqv true 1 (.tmp 3) (.const (.nilPtr))) (.vd 5 (o_mov (.tmp 4)) (.vg 6 5 true (o_mov (.tmp 0)) (.vg 7 5 true (o_nilCheck (.tmp 6)) (.vg 8 5 true (o_field 0 (.tmp 7)) (.vg 9 5 true (o_load false 1 (.tmp 8)) (.vg 10 5 true (o_len (.tmp 9)) (.vg 11 5 true (o_bin .gtr (.tmp 10) (.const (.int .i64 0))) (.vd 12 (o_pick (.tmp 5) (.tmp 11) (.const (.bool false))) (.vd 2 (o_mov (.tmp 12)) .nil))))))))))))
  .ret))
def X83 : FnS := .code ⟨13, 0, .skip, [.tmp 2]⟩ S83
theorem x83 : okX Go.Proofs.Tryz.prog 83 X83 := okX_of (by kernel_rfl)
def S84 : SCode := (.seq (.ops (.vd 2 (o_mov (.const (.bool false))) .nil))
  (.seq (.ops (.vd 3 (o_mov (.tmp 0)) (.vd 4 (o_eqv true 1 (.tmp 3) (.const (.nilPtr))) (.vd 5 (o_mov (.tmp 4)) (.vg 6 5 true (o_mov (.tmp 0)) (.vg 7 5 true (o_nilCheck (.tmp 6)) (.vg 8 5 true (o_field 0 (.tmp 7)) (.vg 9 5 true (o_load false 1 (.tmp 8)) (.vg 10 5 true (o_bin .gtr (.tmp 9) (.const (.int .i64 0))) (.vd 11 (o_pick (.tmp 5) (.tmp 10) (.const (.bool false))) (.vd 2 (o_mov (.tmp 11)) .nil)))))))))))
  .ret))
def X84 : FnS := .code ⟨12, 0, .skip, [.tmp 2]⟩ S84
theorem x84 : okX Go.Proofs.Tryz.prog 84 X84 := okX_of (by kernel_rfl)
def S86 : SCode := (.seq (.ops (.vd 4 (o_mov (.const (.int .i64 0))) .nil))
  (.seq (.seq (.ops (.vd 5 (o_mov (.tmp 1)) (.vd 6 (o_bin .lss (.tmp 5) (.const (.int .i64 0))) (.vd 7 (o_mov (.tmp 6)) (.vg 8 7 false (o_mov (.tmp 1)) (.vg 9 7 false (o_mov (.tmp 0)) (.c (some 10) (some (7, false)) (fun F => c_call F 30 [(.tmp 9)]) (.vg 11 7 false (o_bin .geq (.tmp 8) (.tmp 10)) (.vd 12 (o_pick (.tmp 7) (.const (.bool true)) (.tmp 11)) .nil)))))))))
  (.cond (.tmp 12)
   (.seq (.ops (.vd 4 (o_mov (.const (.int .i64 (-1)))) .nil))
   .ret)
   .skip))
  (.seq (.ops (.vd 13 (o_mov (.tmp 0)) (.vd 14 (o_nilCheck (.tmp 13)) (.vd 15 (o_field 0 (.tmp 14)) (.vd 16 (o_load false 1 (.tmp 15)) (.vd 17 (o_mov (.tmp 1)) (.vd 18 (o_index 2 (.tmp 16) (.tmp 17)) (.vd 19 (o_field 1 (.tmp 18)) (.vd 20 (o_load false 1 (.tmp 19)) (.vd 4 (o_mov (.tmp 20)) .nil))))))))))
  .ret)))
def X86 : FnS := .code ⟨21, 0, .skip, [.tmp 4]⟩ S86
theorem x86 : okX Go.Proofs.Tryz.prog 86 X86 := okX_of (by kernel_rfl)
def S87_1 : SCode := .seq (.seq (.ops (.vd 20 (o_mov (.tmp 9)) (.vd 21 (o_bin .eql (.tmp 20) (.const (.int .i64 0))) (.vd 22 (o_mov (.tmp 21)) (.vg 23 22 true (o_mov (.tmp 8)) (.vg 24 22 true (o_bin .mul (.const (.int .i64 2)) (.tmp 23)) (.vg 25 22 true (o_mov (.tmp 2)) (.vg 26 22 true (o_bin .lss (.tmp 24) (.tmp 25)) (.vd 27 (o_pick (.tmp 22) (.tmp 26) (.const (.bool false))) .nil)))))))))
    (.cond (.tmp 27)
     .skip
     (.exit 0)))
    (.seq (.block 1 (.ops (.vd 38 (o_mov (.tmp 7)) (.vd 39 (o_mov (.tmp 8)) (.vd 40 (o_bin .mul (.const (.int .i64 2)) (.tmp 39)) (.vd 41 (o_buildSlice 1 [.int .i64 0] 1 [(0, 1, (.tmp 40))]) (.vd 42 (o_append 1 (.tmp 38) (.tmp 41)) (.vd 7 (o_mov (.tmp 42)) .nil))))))))
    (.ops (.vd 29 (o_mov (.tmp 0)) (.vd 30 (o_nilCheck (.tmp 29)) (.vd 31 (o_field 2 (.tmp 30)) (.vd 32 (o_load false 1 (.tmp 31)) (.vd 33 (o_mov (.tmp 8)) (.vd 34 (o_bin .add (.tmp 33) (.const (.int .i64 1))) (.cd 35 (fun F => c_call F 157 [(.tmp 32), (.tmp 34), (.const (.int .i64 1))]) (.vd 28 (o_mov (.tmp 35)) (.vd 36 (o_extract (.tmp 28) 0) (.vd 37 (o_extract (.tmp 28) 1) (.vd 8 (o_mov (.tmp 36)) (.vd 9 (o_mov (.tmp 37)) .nil))))))))))))))
def S87 : SCode := (.seq (.ops (.vd 6 (o_mov (.const (.nilSlice))) .nil))
  (.seq (.ops (.vd 7 (o_mov (.const (.nilSlice))) .nil))
  (.seq (.seq (.ops (.vd 11 (o_mov (.tmp 0)) (.vd 12 (o_nilCheck (.tmp 11)) (.vd 13 (o_field 2 (.tmp 12)) (.vd 14 (o_load false 1 (.tmp 13)) (.vd 15 (o_mov (.tmp 1)) (.vd 16 (o_bin .quo (.tmp 15) (.const (.int .i64 2))) (.cd 17 (fun F => c_call F 157 [(.tmp 14), (.tmp 16), (.const (.int .i64 1))]) (.vd 10 (o_mov (.tmp 17)) (.vd 18 (o_extract (.tmp 10) 0) (.vd 19 (o_extract (.tmp 10) 1) (.vd 8 (o_mov (.tmp 18)) (.vd 9 (o_mov (.tmp 19)) .nil)))))))))))))
  (.block 0 (.loop S87_1)))
  (.seq (.ops (.vd 43 (o_mov (.tmp 7)) (.vd 6 (o_mov (.tmp 43)) .nil)))
  .ret))))
def X87 : FnS := .code ⟨44, 0, .skip, [.tmp 6]⟩ S87
theorem x87 : okX Go.Proofs.Tryz.prog 87 X87 := okX_of (by kernel_rfl)
def S88 : SCode := (.seq (.ops (.vd 4 (o_mov (.const (.bool false))) .nil))
  (.seq (.ops (.vd 5 (o_mov (.tmp 0)) (.vd 6 (o_mov (.tmp 1)) (.cd 7 (fun F => c_call F 158 [(.tmp 5), (.tmp 6)]) (.vd 8 (o_mov (.tmp 7)) (.vg 9 8 true (o_mov (.tmp 0)) (.vg 10 8 true (o_nilCheck (.tmp 9)) (.vg 11 8 true (o_field 0 (.tmp 10)) (.vg 12 8 true (o_load false 1 (.tmp 11)) (.vg 13 8 true (o_mov (.tmp 1)) (.vg 14 8 true (o_index 2 (.tmp 12) (.tmp 13)) (.vg 15 8 true (o_field 0 (.tmp 14)) (.vg 16 8 true (o_load false 1 (.tmp 15)) (.vg 17 8 true (o_bin .eql (.tmp 16) (.const (.int .i64 1))) (.vd 18 (o_pick (.tmp 8) (.tmp 17) (.const (.bool false))) (.vd 4 (o_mov (.tmp 18)) .nil))))))))))))))))
  .ret))
def X88 : FnS := .code ⟨19, 0, .skip, [.tmp 4]⟩ S88
theorem x88 : okX Go.Proofs.Tryz.prog 88 X88 := okX_of (by kernel_rfl)
def S89 : SCode := (.seq (.ops (.vd 4 (o_mov (.tmp 0)) (.vd 5 (o_load false 1 (.tmp 1)) (.vd 6 (o_bin .gtr (.tmp 4) (.tmp 5)) .nil))))
  (.cond (.tmp 6)
   (.ops (.vd 7 (o_load false 1 (.tmp 2)) (.vd 8 (o_load false 1 (.tmp 1)) (.vd 9 (o_mov (.tmp 0)) (.vd 10 (o_load false 1 (.tmp 1)) (.vd 11 (o_bin .sub (.tmp 9) (.tmp 10)) (.vd 12 (o_build [.int .i64 0, .int .i64 0] [(0, 1, (.tmp 8)), (1, 1, (.tmp 11))]) (.vd 13 (o_buildSlice 2 [.int .i64 0, .int .i64 0] 1 [(0, 2, (.tmp 12))]) (.vd 14 (o_append 2 (.tmp 7) (.tmp 13)) (.v none none (o_store 1 (.tmp 2) (.tmp 14)) .nil))))))))))
   .skip))
def X89 : FnS := .code ⟨15, 0, .skip, []⟩ S89
theorem x89 : okX Go.Proofs.Tryz.prog 89 X89 := okX_of (by kernel_rfl)
def S90 : SCode := (.seq (.ops (.vd 4 (o_mov (.const (.int .i64 0))) .nil))
  (.seq (.ops (.vd 5 (o_mov (.tmp 0)) (.vd 6 (o_nilCheck (.tmp 5)) (.vd 7 (o_field 1 (.tmp 6)) (.vd 8 (o_load false 1 (.tmp 7)) (.vd 9 (o_mov (.tmp 1)) (.vd 10 (o_bin .add (.tmp 9) (.const (.int .i64 1))) (.vd 11 (o_index 1 (.tmp 8) (.tmp 10)) (.vd 12 (o_load false 1 (.tmp 11)) (.cd 13 (fun F => c_call F 159 [(.tmp 12)]) (.cd 14 (fun F => c_call F 94 [(.tmp 13)]) (.vd 4 (o_mov (.tmp 14)) .nil))))))))))))
  .ret))
def X90 : FnS := .code ⟨15, 0, .skip, [.tmp 4]⟩ S90
theorem x90 : okX Go.Proofs.Tryz.prog 90 X90 := okX_of (by kernel_rfl)
def S91_1 : SCode := .seq (.ops (.vd 55 (o_bin .lss (.tmp 54) (.tmp 53)) .nil))
    (.seq (.cond (.tmp 55)
     .skip
     (.exit 1))
    (.seq (.block 2 (.seq (.ops (.vd 56 (o_mov (.tmp 54)) (.vd 11 (o_mov (.tmp 56)) .nil)))
     (.dregion [⟨⟨some 57, none, .mov (.tmp 0)⟩, 0, 0, 0⟩, ⟨⟨some 58, none, .nilCheck (.tmp 57)⟩, 1, 0, 0⟩, ⟨⟨some 59, none, .field 0 (.tmp 58)⟩, 2, 0, 0⟩, ⟨⟨some 60, none, .load false 1 (.tmp 59)⟩, 3, 1, 0⟩, ⟨⟨some 61, none, .mov (.tmp 1)⟩, 4, 0, 0⟩, ⟨⟨some 62, none, .mov (.tmp 11)⟩, 5, 0, 0⟩, ⟨⟨some 63, none, .bin .add (.tmp 61) (.tmp 62)⟩, 6, 0, 0⟩, ⟨⟨some 64, none, .load true 2 (.tmp 9)⟩, 7, 1, 0⟩, ⟨⟨some 65, none, .index 2 (.tmp 60) (.tmp 63)⟩, 8, 0, 0⟩, ⟨⟨none, none, .store 2 (.tmp 65) (.tmp 64)⟩, 9, 3, 0⟩])))
    (.ops (.vd 66 (o_bin .add (.tmp 54) (.const (.int .i64 1))) (.vd 54 (o_mov (.tmp 66)) .nil)))))
def S91 : SCode := (.seq (.ops (.vd 8 (o_box (.tmp 3)) (.vd 9 (o_box (.tmp 4)) (.vd 10 (o_mov (.const (.int .i64 0))) .nil))))
  (.seq (.block 0 (.seq (.ops (.vd 13 (o_mov (.tmp 0)) (.cd 14 (fun F => c_call F 83 [(.tmp 13)]) (.vd 15 (o_not (.tmp 14)) (.vd 12 (o_mov (.tmp 15)) .nil)))))
   (.cond (.tmp 12)
    (.seq (.ops (.vd 10 (o_mov (.const (.int .i64 5))) .nil))
    .ret)
    (.seq (.ops (.vd 17 (o_mov (.tmp 0)) (.vd 18 (o_mov (.tmp 1)) (.cd 19 (fun F => c_call F 158 [(.tmp 17), (.tmp 18)]) (.vd 20 (o_not (.tmp 19)) (.vd 21 (o_mov (.tmp 20)) (.vg 22 21 false (o_mov (.tmp 2)) (.vg 23 21 false (o_bin .lss (.tmp 22) (.const (.int .i64 1))) (.vd 24 (o_pick (.tmp 21) (.const (.bool true)) (.tmp 23)) (.vd 25 (o_mov (.tmp 24)) (.vg 26 25 false (o_mov (.tmp 2)) (.vg 27 25 false (o_mov (.tmp 0)) (.vg 28 25 false (o_nilCheck (.tmp 27)) (.vg 29 25 false (o_field 0 (.tmp 28)) (.vg 30 25 false (o_load false 1 (.tmp 29)) (.vg 31 25 false (o_len (.tmp 30)) (.vg 32 25 false (o_mov (.tmp 1)) (.vg 33 25 false (o_bin .sub (.tmp 31) (.tmp 32)) (.vg 34 25 false (o_bin .gtr (.tmp 26) (.tmp 33)) (.vd 35 (o_pick (.tmp 25) (.const (.bool true)) (.tmp 34)) (.vd 36 (o_mov (.tmp 35)) (.vg 37 36 false (o_field 1 (.tmp 8)) (.vg 38 36 false (o_load false 1 (.tmp 37)) (.c (some 39) (some (36, false)) (fun F => c_call F 160 [(.tmp 38)]) (.vg 40 36 false (o_not (.tmp 39)) (.vd 41 (o_pick (.tmp 36) (.const (.bool true)) (.tmp 40)) (.vd 16 (o_mov (.tmp 41)) .nil)))))))))))))))))))))))))))
    (.cond (.tmp 16)
     (.seq (.ops (.vd 10 (o_mov (.const (.int .i64 1))) .nil))
     .ret)
     (.seq (.ops (.vd 43 (o_mov (.tmp 0)) (.vd 44 (o_nilCheck (.tmp 43)) (.vd 45 (o_field 0 (.tmp 44)) (.vd 46 (o_load false 1 (.tmp 45)) (.vd 47 (o_mov (.tmp 1)) (.vd 48 (o_mov (.tmp 1)) (.vd 49 (o_mov (.tmp 2)) (.vd 50 (o_bin .add (.tmp 48) (.tmp 49)) (.vd 51 (o_slice 2 (.tmp 46) (some (.tmp 47)) (some (.tmp 50)) none) (.cd 52 (fun F => c_call F 161 [(.tmp 51), (.const (.func 162 []))]) (.vd 42 (o_mov (.tmp 52)) .nil))))))))))))
     (.cond (.tmp 42)
      (.seq (.ops (.vd 10 (o_mov (.const (.int .i64 8))) .nil))
      .ret)
      .skip)))))))
  (.seq (.seq (.ops (.vd 53 (o_mov (.tmp 2)) (.vd 54 (o_mov (.const (.int .i64 0))) .nil)))
  (.block 1 (.loop S91_1)))
  (.seq (.dregion [⟨⟨some 67, none, .mov (.tmp 0)⟩, 0, 0, 0⟩, ⟨⟨some 68, none, .nilCheck (.tmp 67)⟩, 1, 0, 0⟩, ⟨⟨some 69, none, .field 0 (.tmp 68)⟩, 2, 0, 0⟩, ⟨⟨some 70, none, .load false 1 (.tmp 69)⟩, 3, 1, 0⟩, ⟨⟨some 71, none, .mov (.tmp 1)⟩, 4, 0, 0⟩, ⟨⟨some 72, none, .load true 2 (.tmp 8)⟩, 5, 1, 0⟩, ⟨⟨some 73, none, .index 2 (.tmp 70) (.tmp 71)⟩, 6, 0, 0⟩, ⟨⟨none, none, .store 2 (.tmp 73) (.tmp 72)⟩, 7, 3, 0⟩])
  (.seq (.ops (.vd 10 (o_mov (.const (.int .i64 0))) .nil))
  .ret)))))
def X91 : FnS := .code ⟨74, 0, .skip, [.tmp 10]⟩ S91
theorem x91 : okX Go.Proofs.Tryz.prog 91 X91 := okX_of (by kernel_rfl)
def S92 : SCode := (.seq (.ops (.vd 1 (o_box (.tmp 0)) (.vd 2 (o_mov (.const (.bool false))) .nil)))
  (.seq (.ops (.vd 3 (o_field 0 (.tmp 1)) (.vd 4 (o_load false 1 (.tmp 3)) (.vd 5 (o_bin .geq (.tmp 4) (.const (.int .i64 0))) (.vd 6 (o_mov (.tmp 5)) (.vg 7 6 true (o_field 0 (.tmp 1)) (.vg 8 6 true (o_load false 1 (.tmp 7)) (.vg 9 6 true (o_bin .leq (.tmp 8) (.const (.int .i64 15))) (.vd 10 (o_pick (.tmp 6) (.tmp 9) (.const (.bool false))) (.vd 11 (o_mov (.tmp 10)) (.vg 12 11 true (o_field 1 (.tmp 1)) (.vg 13 11 true (o_load false 1 (.tmp 12)) (.vg 14 11 true (o_bin .geq (.tmp 13) (.const (.int .i64 0))) (.vd 15 (o_pick (.tmp 11) (.tmp 14) (.const (.bool false))) (.vd 16 (o_mov (.tmp 15)) (.vg 17 16 true (o_field 1 (.tmp 1)) (.vg 18 16 true (o_load false 1 (.tmp 17)) (.vg 19 16 true (o_bin .leq (.tmp 18) (.const (.int .i64 200))) (.vd 20 (o_pick (.tmp 16) (.tmp 19) (.const (.bool false))) (.vd 21 (o_mov (.tmp 20)) (.vg 22 21 true (o_field 2 (.tmp 1)) (.vg 23 21 true (o_load false 1 (.tmp 22)) (.vg 24 21 true (o_bin .geq (.tmp 23) (.const (.int .i64 0))) (.vd 25 (o_pick (.tmp 21) (.tmp 24) (.const (.bool false))) (.vd 26 (o_mov (.tmp 25)) (.vg 27 26 true (o_field 2 (.tmp 1)) (.vg 28 26 true (o_load false 1 (.tmp 27)) (.vg 29 26 true (o_bin .leq (.tmp 28) (.const (.int .i64 3))) (.vd 30 (o_pick (.tmp 26) (.tmp 29) (.const (.bool false))) (.vd 31 (o_mov (.tmp 30)) (.vg 32 31 true (o_field 2 (.tmp 1)) (.vg 33 31 true (o_load false 1 (.tmp 32)) (.vg 34 31 true (o_bin .neq (.tmp 33) (.const (.int .i64 1))) (.vg 35 31 true (o_mov (.tmp 34)) (.vg 36 35 false (o_field 0 (.tmp 1)) (.vg 37 35 false (o_load false 1 (.tmp 36)) (.vg 38 35 false (o_bin .geq (.tmp 37) (.const (.int .i64 1))) (.vg 39 31 true (o_pick (.tmp 35) (.const (.bool true)) (.tmp 38)) (.vd 40 (o_pick (.tmp 31) (.tmp 39) (.const (.bool false))) (.vd 41 (o_mov (.tmp 40)) (.vg 42 41 true (o_field 2 (.tmp 1)) (.vg 43 41 true (o_load false 1 (.tmp 42)) (.vg 44 41 true (o_bin .neq (.tmp 43) (.const (.int .i64 2))) (.vg 45 41 true (o_mov (.tmp 44)) (.vg 46 45 false (o_field 0 (.tmp 1)) (.vg 47 45 false (o_load false 1 (.tmp 46)) (.vg 48 45 false (o_bin .geq (.tmp 47) (.const (.int .i64 2))) (.vg 49 41 true (o_pick (.tmp 45) (.const (.bool true)) (.tmp 48)) (.vd 50 (o_pick (.tmp 41) (.tmp 49) (.const (.bool false))) (.vd 2 (o_mov (.tmp 50)) .nil))))))))))))))))))))))))))))))))))))))))))))))))))
  .ret))
def X92 : FnS := .code ⟨51, 0, .skip, [.tmp 2]⟩ S92
theorem x92 : okX Go.Proofs.Tryz.prog 92 X92 := okX_of (by kernel_rfl)
def S93_1 : SCode := .seq (.seq (.ops (.vd 76 (o_mov (.tmp 10)) (.vd 77 (o_mov (.tmp 1)) (.vd 78 (o_mov (.tmp 2)) (.vd 79 (o_bin .add (.tmp 77) (.tmp 78)) (.vd 80 (o_bin .lss (.tmp 76) (.tmp 79)) .nil))))))
    (.cond (.tmp 80)
     .skip
     (.exit 0)))
    (.seq (.block 1 (.seq (.ops (.vd 84 (o_mov (.tmp 0)) (.vd 85 (o_mov (.tmp 10)) (.cd 86 (fun F => c_call F 131 [(.tmp 84), (.tmp 85)]) (.vd 83 (o_mov (.tmp 86)) (.vd 87 (o_extract (.tmp 83) 0) (.vd 88 (o_extract (.tmp 83) 1) (.vd 11 (o_mov (.tmp 87)) (.vd 12 (o_mov (.tmp 88)) .nil)))))))))
     (.seq (.ops (.vd 89 (o_mov (.tmp 12)) (.vd 90 (o_bin .eql (.tmp 89) (.const (.int .i64 0))) (.vd 91 (o_mov (.tmp 90)) (.vg 92 91 true (o_mov (.tmp 11)) (.vg 93 91 true (o_mov (.tmp 3)) (.vg 94 91 true (o_bin .neq (.tmp 92) (.tmp 93)) (.vd 95 (o_pick (.tmp 91) (.tmp 94) (.const (.bool false))) .nil))))))))
     (.cond (.tmp 95)
      (.seq (.ops (.vd 8 (o_mov (.const (.int .i64 8))) .nil))
      .ret)
      .skip))))
    (.ops (.vd 81 (o_mov (.tmp 10)) (.vd 82 (o_bin .add (.tmp 81) (.const (.int .i64 2))) (.vd 10 (o_mov (.tmp 82)) .nil)))))
def S93 : SCode := (.seq (.ops (.vd 8 (o_mov (.const (.int .i64 0))) .nil))
  (.seq (.seq (.ops (.vd 13 (o_mov (.tmp 1)) (.vd 14 (o_bin .lss (.tmp 13) (.const (.int .i64 0))) (.vd 15 (o_mov (.tmp 14)) (.vg 16 15 false (o_mov (.tmp 1)) (.vg 17 15 false (o_mov (.tmp 0)) (.vg 18 15 false (o_nilCheck (.tmp 17)) (.vg 19 15 false (o_field 1 (.tmp 18)) (.vg 20 15 false (o_load false 1 (.tmp 19)) (.vg 21 15 false (o_len (.tmp 20)) (.vg 22 15 false (o_bin .geq (.tmp 16) (.tmp 21)) (.vd 23 (o_pick (.tmp 15) (.const (.bool true)) (.tmp 22)) (.vd 24 (o_mov (.tmp 23)) (.vg 25 24 false (o_mov (.tmp 1)) (.vg 26 24 false (o_bin .rem (.tmp 25) (.const (.int .i64 2))) (.vg 27 24 false (o_bin .neq (.tmp 26) (.const (.int .i64 0))) (.vd 28 (o_pick (.tmp 24) (.const (.bool true)) (.tmp 27)) .nil)))))))))))))))))
  (.cond (.tmp 28)
   (.seq (.ops (.vd 8 (o_mov (.const (.int .i64 1))) .nil))
   .ret)
   .skip))
  (.seq (.ops (.vd 29 (o_mov (.tmp 1)) (.vd 30 (o_bin .quo (.tmp 29) (.const (.int .i64 64))) (.vd 9 (o_mov (.tmp 30)) .nil))))
  (.seq (.seq (.ops (.vd 31 (o_mov (.tmp 2)) (.vd 32 (o_bin .leq (.tmp 31) (.const (.int .i64 32))) .nil)))
  (.cond (.tmp 32)
   (.seq (.ops (.vd 33 (o_mov (.tmp 0)) (.vd 34 (o_nilCheck (.tmp 33)) (.vd 35 (o_field 0 (.tmp 34)) (.vd 36 (o_load false 1 (.tmp 35)) (.vd 37 (o_mov (.tmp 9)) (.vd 38 (o_index 2 (.tmp 36) (.tmp 37)) (.vd 39 (o_field 0 (.tmp 38)) (.vd 40 (o_load false 1 (.tmp 39)) (.vd 41 (o_bin .neq (.tmp 40) (.const (.int .i64 1))) (.vd 42 (o_mov (.tmp 41)) (.vg 43 42 false (o_mov (.tmp 1)) (.vg 44 42 false (o_mov (.tmp 2)) (.vg 45 42 false (o_bin .add (.tmp 43) (.tmp 44)) (.vg 46 42 false (o_bin .sub (.tmp 45) (.const (.int .i64 1))) (.vg 47 42 false (o_bin .quo (.tmp 46) (.const (.int .i64 64))) (.vg 48 42 false (o_mov (.tmp 9)) (.vg 49 42 false (o_bin .neq (.tmp 47) (.tmp 48)) (.vd 50 (o_pick (.tmp 42) (.const (.bool true)) (.tmp 49)) .nil)))))))))))))))))))
   (.cond (.tmp 50)
    (.seq (.ops (.vd 8 (o_mov (.const (.int .i64 5))) .nil))
    .ret)
    .skip))
   (.seq (.ops (.vd 51 (o_mov (.tmp 0)) (.vd 52 (o_nilCheck (.tmp 51)) (.vd 53 (o_field 0 (.tmp 52)) (.vd 54 (o_load false 1 (.tmp 53)) (.vd 55 (o_mov (.tmp 9)) (.vd 56 (o_index 2 (.tmp 54) (.tmp 55)) (.vd 57 (o_field 0 (.tmp 56)) (.vd 58 (o_load false 1 (.tmp 57)) (.vd 59 (o_bin .neq (.tmp 58) (.const (.int .i64 2))) (.vd 60 (o_mov (.tmp 59)) (.vg 61 60 false (o_mov (.tmp 1)) (.vg 62 60 false (o_bin .rem (.tmp 61) (.const (.int .i64 64))) (.vg 63 60 false (o_bin .neq (.tmp 62) (.const (.int .i64 0))) (.vd 64 (o_pick (.tmp 60) (.const (.bool true)) (.tmp 63)) (.vd 65 (o_mov (.tmp 64)) (.vg 66 65 false (o_mov (.tmp 0)) (.vg 67 65 false (o_mov (.tmp 9)) (.c (some 68) (some (65, false)) (fun F => c_call F 163 [(.tmp 66), (.tmp 67)]) (.vg 69 65 false (o_mov (.tmp 2)) (.vg 70 65 false (o_bin .add (.tmp 69) (.const (.int .i64 64))) (.vg 71 65 false (o_bin .sub (.tmp 70) (.const (.int .i64 1))) (.vg 72 65 false (o_bin .quo (.tmp 71) (.const (.int .i64 64))) (.vg 73 65 false (o_bin .neq (.tmp 68) (.tmp 72)) (.vd 74 (o_pick (.tmp 65) (.const (.bool true)) (.tmp 73)) .nil)))))))))))))))))))))))))
   (.cond (.tmp 74)
    (.seq (.ops (.vd 8 (o_mov (.const (.int .i64 5))) .nil))
    .ret)
    .skip))))
  (.seq (.seq (.ops (.vd 75 (o_mov (.tmp 1)) (.vd 10 (o_mov (.tmp 75)) .nil)))
  (.block 0 (.loop S93_1)))
  (.seq (.ops (.vd 8 (o_mov (.const (.int .i64 0))) .nil))
  .ret))))))
def X93 : FnS := .code ⟨96, 0, .skip, [.tmp 8]⟩ S93
theorem x93 : okX Go.Proofs.Tryz.prog 93 X93 := okX_of (by kernel_rfl)
def S94 : SCode := (.seq (.ops (.vd 1 (o_box (.tmp 0)) (.vd 2 (o_mov (.const (.int .i64 0))) .nil)))
  (.seq (.seq (.ops (.vd 3 (o_load true 3 (.tmp 1)) (.cd 4 (fun F => c_call F 92 [(.tmp 3)]) (.vd 5 (o_not (.tmp 4)) .nil))))
  (.cond (.tmp 5)
   (.seq (.ops (.vd 2 (o_mov (.const (.int .i64 0))) .nil))
   .ret)
   .skip))
  (.seq (.ops (.vd 6 (o_field 0 (.tmp 1)) (.vd 7 (o_load false 1 (.tmp 6)) (.vd 8 (o_bin .add (.const (.int .i64 2)) (.tmp 7)) (.vd 9 (o_field 1 (.tmp 1)) (.vd 10 (o_load false 1 (.tmp 9)) (.vd 11 (o_bin .add (.tmp 8) (.tmp 10)) (.vd 12 (o_bin .add (.tmp 11) (.const (.int .i64 1))) (.vd 13 (o_bin .quo (.tmp 12) (.const (.int .i64 2))) (.vd 14 (o_bin .mul (.tmp 13) (.const (.int .i64 2))) (.vd 2 (o_mov (.tmp 14)) .nil)))))))))))
  .ret)))
def X94 : FnS := .code ⟨15, 0, .skip, [.tmp 2]⟩ S94
theorem x94 : okX Go.Proofs.Tryz.prog 94 X94 := okX_of (by kernel_rfl)
def S95 : SCode := (.seq (.ops (.vd 1 (o_box (.tmp 0)) (.vd 2 (o_mov (.const (.int .i64 0))) .nil)))
  (.seq (.ops (.vd 3 (o_field 0 (.tmp 1)) (.vd 4 (o_load false 1 (.tmp 3)) (.vd 5 (o_field 1 (.tmp 1)) (.vd 6 (o_load false 1 (.tmp 5)) (.vd 7 (o_bin .mul (.const (.int .i64 16)) (.tmp 6)) (.vd 8 (o_bin .add (.tmp 4) (.tmp 7)) (.vd 9 (o_field 2 (.tmp 1)) (.vd 10 (o_load false 1 (.tmp 9)) (.vd 11 (o_bin .mul (.const (.int .i64 4096)) (.tmp 10)) (.vd 12 (o_bin .add (.tmp 8) (.tmp 11)) (.vd 2 (o_mov (.tmp 12)) .nil))))))))))))
  .ret))
def X95 : FnS := .code ⟨13, 0, .skip, [.tmp 2]⟩ S95
theorem x95 : okX Go.Proofs.Tryz.prog 95 X95 := okX_of (by kernel_rfl)
def S96 : SCode := (.seq (.ops (.vd 6 (o_mov (.const (.int .i64 0))) .nil))
  (.seq (.seq (.ops (.vd 8 (o_mov (.tmp 0)) (.vd 9 (o_mov (.tmp 1)) (.vd 10 (o_mov (.tmp 2)) (.vd 11 (o_buildSlice 1 [.int .i64 0] 1 [(0, 1, (.tmp 10))]) (.cd 12 (fun F => c_call F 164 [(.tmp 8), (.tmp 9), (.tmp 11)]) (.vd 7 (o_mov (.tmp 12)) .nil)))))))
  (.seq (.ops (.vd 13 (o_mov (.tmp 7)) (.vd 14 (o_bin .neq (.tmp 13) (.const (.int .i64 0))) .nil)))
  (.cond (.tmp 14)
   (.seq (.ops (.vd 15 (o_mov (.tmp 7)) (.vd 6 (o_mov (.tmp 15)) .nil)))
   .ret)
   .skip)))
  (.seq (.ops (.vd 16 (o_mov (.tmp 0)) (.vd 17 (o_mov (.tmp 1)) (.vd 18 (o_mov (.tmp 2)) (.cd 19 (fun F => c_call F 165 [(.tmp 16), (.tmp 17), (.tmp 18)]) .nil)))))
  (.seq (.ops (.vd 6 (o_mov (.const (.int .i64 0))) .nil))
  .ret))))
def X96 : FnS := .code ⟨20, 0, .skip, [.tmp 6]⟩ S96
theorem x96 : okX Go.Proofs.Tryz.prog 96 X96 := okX_of (by kernel_rfl)
def S97 : SCode := (.seq (.ops (.vd 6 (o_mov (.const (.int .i64 0))) .nil))
  (.seq (.seq (.ops (.vd 8 (o_mov (.tmp 0)) (.vd 9 (o_mov (.tmp 1)) (.cd 10 (fun F => c_call F 153 [(.tmp 8), (.tmp 9)]) (.vd 7 (o_mov (.tmp 10)) .nil)))))
  (.seq (.ops (.vd 11 (o_mov (.tmp 7)) (.vd 12 (o_bin .neq (.tmp 11) (.const (.int .i64 0))) .nil)))
  (.cond (.tmp 12)
   (.seq (.ops (.vd 13 (o_mov (.tmp 7)) (.vd 6 (o_mov (.tmp 13)) .nil)))
   .ret)
   .skip)))
  (.seq (.ops (.vd 14 (o_mov (.tmp 0)) (.vd 15 (o_nilCheck (.tmp 14)) (.vd 16 (o_field 3 (.tmp 15)) (.vd 17 (o_load false 1 (.tmp 16)) (.vd 18 (o_mov (.tmp 1)) (.vd 19 (o_bin .quo (.tmp 18) (.const (.int .i64 2))) (.vd 20 (o_mov (.tmp 2)) (.cd 21 (fun F => c_call F 96 [(.tmp 17), (.tmp 19), (.tmp 20)]) .nil)))))))))
  (.seq (.ops (.vd 6 (o_mov (.const (.int .i64 0))) .nil))
  .ret))))
def X97 : FnS := .code ⟨22, 0, .skip, [.tmp 6]⟩ S97
theorem x97 : okX Go.Proofs.Tryz.prog 97 X97 := okX_of (by kernel_rfl)
def S98 : SCode := (.seq (.ops (.vd 3 (o_box (.tmp 1)) (.vd 4 (o_mov (.const (.nilPtr))) (.vd 5 (o_mov (.const (.int .i64 0))) .nil))))
  (.seq (.seq (.ops (.vd 7 (o_mov (.tmp 0)) (.cd 8 (fun F => c_call F 166 [(.tmp 7)]) (.vd 9 (o_not (.tmp 8)) .nil))))
  (.cond (.tmp 9)
   (.seq (.ops (.vd 4 (o_mov (.const (.nilPtr))) (.vd 5 (o_mov (.const (.int .i64 5))) .nil)))
   .ret)
   .skip))
  (.seq (.ops (.vd 10 (o_mov (.tmp 0)) (.vd 11 (o_load true 3 (.tmp 3)) (.cd 12 (fun F => c_call F 167 [(.tmp 10), (.tmp 11)]) (.vd 6 (o_mov (.tmp 12)) .nil)))))
  (.seq (.seq (.ops (.vd 13 (o_mov (.tmp 6)) (.vd 14 (o_eqv false 1 (.tmp 13) (.const (.nilPtr))) .nil)))
  (.cond (.tmp 14)
   (.seq (.ops (.vd 4 (o_mov (.const (.nilPtr))) (.vd 5 (o_mov (.const (.int .i64 1))) .nil)))
   .ret)
   .skip))
  (.seq (.ops (.vd 15 (o_mov (.tmp 6)) (.vd 4 (o_mov (.tmp 15)) (.vd 5 (o_mov (.const (.int .i64 0))) .nil))))
  .ret)))))
def X98 : FnS := .code ⟨16, 0, .skip, [.tmp 4, .tmp 5]⟩ S98
theorem x98 : okX Go.Proofs.Tryz.prog 98 X98 := okX_of (by kernel_rfl)
def S99 : SCode := (.seq (.ops (.vd 4 (o_mov (.const (.int .i64 0))) .nil))
  (.seq (.seq (.ops (.vd 5 (o_mov (.tmp 0)) (.vd 6 (o_mov (.tmp 1)) (.cd 7 (fun F => c_call F 168 [(.tmp 5), (.tmp 6)]) (.vd 8 (o_not (.tmp 7)) .nil)))))
  (.cond (.tmp 8)
   (.seq (.ops (.vd 4 (o_mov (.const (.int .i64 (-1)))) .nil))
   .ret)
   .skip))
  (.seq (.ops (.vd 9 (o_mov (.tmp 0)) (.vd 10 (o_mov (.tmp 1)) (.cd 11 (fun F => c_call F 169 [(.tmp 9), (.tmp 10)]) (.vd 4 (o_mov (.tmp 11)) .nil)))))
  .ret)))
def X99 : FnS := .code ⟨12, 0, .skip, [.tmp 4]⟩ S99
theorem x99 : okX Go.Proofs.Tryz.prog 99 X99 := okX_of (by kernel_rfl)
def S100 : SCode := (.seq (.ops (.vd 2 (o_mov (.const (.int .i64 0))) .nil))
  (.seq (.seq (.ops (.vd 3 (o_mov (.tmp 0)) (.cd 4 (fun F => c_call F 166 [(.tmp 3)]) (.vd 5 (o_not (.tmp 4)) .nil))))
  (.cond (.tmp 5)
   (.seq (.ops (.vd 2 (o_mov (.const (.int .i64 0))) .nil))
   .ret)
   .skip))
  (.seq (.ops (.vd 6 (o_mov (.tmp 0)) (.vd 7 (o_nilCheck (.tmp 6)) (.vd 8 (o_field 0 (.tmp 7)) (.vd 9 (o_load false 1 (.tmp 8)) (.vd 2 (o_mov (.tmp 9)) .nil))))))
  .ret)))
def X100 : FnS := .code ⟨10, 0, .skip, [.tmp 2]⟩ S100
theorem x100 : okX Go.Proofs.Tryz.prog 100 X100 := okX_of (by kernel_rfl)
def S101 : SCode := (.seq (.ops (.vd 2 (o_mov (.const (.nilSlice))) .nil))
  (.seq (.seq (.ops (.vd 5 (o_mov (.tmp 0)) (.cd 6 (fun F => c_call F 166 [(.tmp 5)]) (.vd 7 (o_not (.tmp 6)) .nil))))
  (.cond (.tmp 7)
   (.seq (.ops (.vd 2 (o_mov (.const (.nilSlice))) .nil))
   .ret)
   .skip))
  (.seq (.ops (.vd 3 (o_new [.nilSlice]) .nil))
  (.seq (.seq (.ops (.vd 8 (o_mov (.tmp 0)) (.cd 9 (fun F => c_call F 170 [(.tmp 8)]) .nil)))
  (.block 0 (.rangeF (.tmp 9) [10, 11] 17 3232)))
  (.seq (.ops (.vd 16 (o_load false 1 (.tmp 3)) (.vd 2 (o_mov (.tmp 16)) .nil)))
  .ret)))))
def X101 : FnS := .code ⟨17, 0, .skip, [.tmp 2]⟩ S101
theorem x101 : okX Go.Proofs.Tryz.prog 101 X101 := okX_of (by kernel_rfl)
def S1003232 : SCode := (.ops (.vd 4 (o_new [.int .i64 0, .int .i64 0, .int .i64 0]) (.v none none (o_store 3 (.tmp 4) (.tmp 10)) .nil)))
def X1003232 : FnS := .code ⟨17, 1, .skip, []⟩ S1003232
theorem x1003232 : okX Go.Proofs.Tryz.prog 1003232 X1003232 := okX_of (by kernel_rfl)
def S1003233 : SCode := (.block 1 (.ops (.vd 12 (o_load false 1 (.tmp 3)) (.vd 13 (o_load true 3 (.tmp 4)) (.vd 14 (o_buildSlice 3 [.int .i64 0, .int .i64 0, .int .i64 0] 1 [(0, 3, (.tmp 13))]) (.vd 15 (o_append 3 (.tmp 12) (.tmp 14)) (.v none none (o_store 1 (.tmp 3) (.tmp 15)) .nil)))))))
def X1003233 : FnS := .code ⟨17, 2, .skip, []⟩ S1003233
theorem x1003233 : okX Go.Proofs.Tryz.prog 1003233 X1003233 := okX_of (by kernel_rfl)
def S102 : SCode := (.seq (.ops (.vd 4 (o_mov (.const (.bool false))) .nil))
  (.seq (.seq (.ops (.vd 5 (o_mov (.tmp 0)) (.vd 6 (o_nilCheck (.tmp 5)) (.vd 7 (o_field 0 (.tmp 6)) (.vd 8 (o_load false 1 (.tmp 7)) (.vd 9 (o_mov (.tmp 1)) (.cd 10 (fun F => c_call F 44 [(.tmp 8), (.tmp 9)]) (.vd 11 (o_not (.tmp 10)) (.vd 12 (o_mov (.tmp 11)) (.vg 13 12 false (o_mov (.tmp 0)) (.vg 14 12 false (o_nilCheck (.tmp 13)) (.vg 15 12 false (o_field 2 (.tmp 14)) (.vg 16 12 false (o_load false 1 (.tmp 15)) (.vg 17 12 false (o_mov (.tmp 1)) (.vg 18 12 false (o_mapGet false .i64 (.bool false) (.tmp 16) (.tmp 17)) (.vd 19 (o_pick (.tmp 12) (.const (.bool true)) (.tmp 18)) .nil))))))))))))))))
  (.cond (.tmp 19)
   (.seq (.ops (.vd 4 (o_mov (.const (.bool false))) .nil))
   .ret)
   .skip))
  (.seq (.ops (.vd 20 (o_mov (.tmp 0)) (.vd 21 (o_nilCheck (.tmp 20)) (.vd 22 (o_field 2 (.tmp 21)) (.vd 23 (o_load false 1 (.tmp 22)) (.vd 24 (o_mov (.tmp 1)) (.v none none (o_mapSet .i64 (.tmp 23) (.tmp 24) (.const (.bool true))) .nil)))))))
  (.seq (.dregion [⟨⟨some 27, none, .mov (.tmp 0)⟩, 2, 0, 0⟩, ⟨⟨some 28, none, .nilCheck (.tmp 27)⟩, 3, 0, 0⟩, ⟨⟨some 29, none, .field 3 (.tmp 28)⟩, 4, 0, 0⟩, ⟨⟨some 30, none, .load false 1 (.tmp 29)⟩, 5, 1, 0⟩, ⟨⟨some 31, none, .mov (.tmp 1)⟩, 6, 0, 0⟩, ⟨⟨some 32, none, .buildSlice 1 [.int .i64 0] 1 [(0, 1, (.tmp 31))]⟩, 7, 0, 0⟩, ⟨⟨some 33, none, .append 1 (.tmp 30) (.tmp 32)⟩, 8, 3, 0⟩, ⟨⟨some 34, none, .mov (.tmp 0)⟩, 9, 0, 0⟩, ⟨⟨some 35, none, .nilCheck (.tmp 34)⟩, 10, 0, 0⟩, ⟨⟨some 36, none, .field 4 (.tmp 35)⟩, 11, 0, 0⟩, ⟨⟨some 37, none, .load false 1 (.tmp 36)⟩, 12, 1, 0⟩, ⟨⟨some 38, none, .mov (.tmp 1)⟩, 13, 0, 0⟩, ⟨⟨some 39, none, .buildSlice 1 [.int .i64 0] 1 [(0, 1, (.tmp 38))]⟩, 14, 0, 0⟩, ⟨⟨some 40, none, .append 1 (.tmp 37) (.tmp 39)⟩, 15, 3, 1⟩, ⟨⟨some 25, none, .mov (.tmp 0)⟩, 0, 0, 0⟩, ⟨⟨some 41, none, .nilCheck (.tmp 25)⟩, 16, 0, 2⟩, ⟨⟨some 42, none, .field 3 (.tmp 41)⟩, 17, 0, 2⟩, ⟨⟨none, none, .store 1 (.tmp 42) (.tmp 33)⟩, 18, 3, 2⟩, ⟨⟨some 26, none, .mov (.tmp 0)⟩, 1, 0, 0⟩, ⟨⟨some 43, none, .nilCheck (.tmp 26)⟩, 19, 0, 3⟩, ⟨⟨some 44, none, .field 4 (.tmp 43)⟩, 20, 0, 3⟩, ⟨⟨none, none, .store 1 (.tmp 44) (.tmp 40)⟩, 21, 3, 3⟩])
  (.seq (.ops (.vd 4 (o_mov (.const (.bool true))) .nil))
  .ret)))))
def X102 : FnS := .code ⟨45, 0, .skip, [.tmp 4]⟩ S102
theorem x102 : okX Go.Proofs.Tryz.prog 102 X102 := okX_of (by kernel_rfl)
def S103_1 : SCode := .seq (.seq (.ops (.vd 34 (o_mov (.tmp 5)) (.vd 35 (o_field 0 (.tmp 3)) (.vd 36 (o_load false 1 (.tmp 35)) (.vd 37 (o_bin .lss (.tmp 34) (.tmp 36)) .nil)))))
       (.cond (.tmp 37)
        .skip
        (.exit 2)))
       (.seq (.block 3 (.seq (.ops (.vd 41 (o_mov (.tmp 0)) (.vd 42 (o_nilCheck (.tmp 41)) (.vd 43 (o_field 0 (.tmp 42)) (.vd 44 (o_load false 1 (.tmp 43)) (.vd 45 (o_mov (.tmp 2)) (.vd 46 (o_mov (.tmp 5)) (.cd 47 (fun F => c_call F 111 [(.tmp 44), (.tmp 45), (.tmp 46)]) (.vd 40 (o_mov (.tmp 47)) (.vd 48 (o_extract (.tmp 40) 0) (.vd 49 (o_extract (.tmp 40) 1) (.vd 6 (o_mov (.tmp 48)) (.vd 7 (o_mov (.tmp 49)) .nil)))))))))))))
        (.ops (.vd 50 (o_mov (.tmp 0)) (.vd 51 (o_mov (.tmp 6)) (.cd 52 (fun F => c_call F 102 [(.tmp 50), (.tmp 51)]) .nil))))))
       (.ops (.vd 38 (o_mov (.tmp 5)) (.vd 39 (o_bin .add (.tmp 38) (.const (.int .i64 1))) (.vd 5 (o_mov (.tmp 39)) .nil)))))
def S103_2 : SCode := .seq (.seq (.ops (.vd 8 (o_mov (.tmp 0)) (.vd 9 (o_nilCheck (.tmp 8)) (.vd 10 (o_field 4 (.tmp 9)) (.vd 11 (o_load false 1 (.tmp 10)) (.vd 12 (o_len (.tmp 11)) (.vd 13 (o_bin .gtr (.tmp 12) (.const (.int .i64 0))) .nil)))))))
    (.cond (.tmp 13)
     .skip
     (.exit 0)))
    (.block 1 (.seq (.ops (.vd 14 (o_mov (.tmp 0)) (.cd 15 (fun F => c_call F 171 [(.tmp 14)]) (.vd 2 (o_mov (.tmp 15)) .nil))))
     (.seq (.ops (.vd 16 (o_mov (.tmp 0)) (.vd 17 (o_nilCheck (.tmp 16)) (.vd 18 (o_field 5 (.tmp 17)) (.vd 19 (o_load false 1 (.tmp 18)) (.vd 20 (o_bin .add (.tmp 19) (.const (.int .i64 1))) (.vd 21 (o_nilCheck (.tmp 16)) (.vd 22 (o_field 5 (.tmp 21)) (.v none none (o_store 1 (.tmp 22) (.tmp 20)) .nil)))))))))
     (.seq (.ops (.vd 24 (o_mov (.tmp 0)) (.vd 25 (o_nilCheck (.tmp 24)) (.vd 26 (o_field 0 (.tmp 25)) (.vd 27 (o_load false 1 (.tmp 26)) (.vd 28 (o_mov (.tmp 2)) (.cd 29 (fun F => c_call F 109 [(.tmp 27), (.tmp 28)]) (.vd 23 (o_mov (.tmp 29)) (.vd 30 (o_extract (.tmp 23) 0) (.vd 31 (o_extract (.tmp 23) 1) (.vd 3 (o_new [.int .i64 0, .int .i64 0, .int .i64 0]) (.v none none (o_store 3 (.tmp 3) (.tmp 30)) (.vd 4 (o_mov (.tmp 31)) .nil)))))))))))))
     (.seq (.ops (.vd 32 (o_load true 3 (.tmp 3)) (.cd 33 (fun F => c_call F 110 [(.tmp 32)]) (.vd 5 (o_mov (.tmp 33)) .nil))))
     (.block 2 (.loop S103_1)))))))
def S103 : SCode := (.block 0 (.loop S103_2))
def X103 : FnS := .code ⟨53, 0, .skip, []⟩ S103
theorem x103 : okX Go.Proofs.Tryz.prog 103 X103 := okX_of (by kernel_rfl)
def S104_1 : SCode := .seq (.ops (.vd 70 (o_bin .lss (.tmp 69) (.tmp 68)) .nil))
    (.seq (.cond (.tmp 70)
     .skip
     (.exit 2))
    (.seq (.block 3 (.seq (.ops (.vd 71 (o_index 1 (.tmp 67) (.tmp 69)) (.vd 72 (o_load false 1 (.tmp 71)) (.vd 14 (o_mov (.tmp 72)) .nil))))
     (.ops (.vd 73 (o_mov (.tmp 0)) (.vd 74 (o_mov (.tmp 14)) (.cd 75 (fun F => c_call F 102 [(.tmp 73), (.tmp 74)]) (.vd 76 (o_mov (.tmp 75)) (.vg 77 76 false (o_mov (.tmp 3)) (.vd 78 (o_pick (.tmp 76) (.const (.bool true)) (.tmp 77)) (.vd 3 (o_mov (.tmp 78)) .nil))))))))))
    (.ops (.vd 79 (o_bin .add (.tmp 69) (.const (.int .i64 1))) (.vd 69 (o_mov (.tmp 79)) .nil)))))
def S104_2 : SCode := .seq (.ops (.vd 21 (o_bin .lss (.tmp 20) (.tmp 19)) .nil))
    (.seq (.cond (.tmp 21)
     .skip
     (.exit 0))
    (.seq (.block 1 (.seq (.ops (.vd 22 (o_index 1 (.tmp 18) (.tmp 20)) (.vd 23 (o_load false 1 (.tmp 22)) (.vd 6 (o_mov (.tmp 23)) .nil))))
     (.seq (.ops (.vd 25 (o_mov (.tmp 0)) (.vd 26 (o_nilCheck (.tmp 25)) (.vd 27 (o_field 0 (.tmp 26)) (.vd 28 (o_load false 1 (.tmp 27)) (.vd 29 (o_mov (.tmp 6)) (.cd 30 (fun F => c_call F 109 [(.tmp 28), (.tmp 29)]) (.vd 24 (o_mov (.tmp 30)) (.vd 31 (o_extract (.tmp 24) 0) (.vd 32 (o_extract (.tmp 24) 1) (.vd 7 (o_new [.int .i64 0, .int .i64 0, .int .i64 0]) (.v none none (o_store 3 (.tmp 7) (.tmp 31)) (.vd 8 (o_mov (.tmp 32)) .nil)))))))))))))
     (.seq (.ops (.vd 34 (o_mov (.tmp 0)) (.vd 35 (o_nilCheck (.tmp 34)) (.vd 36 (o_field 0 (.tmp 35)) (.vd 37 (o_load false 1 (.tmp 36)) (.vd 38 (o_mov (.tmp 6)) (.cd 39 (fun F => c_call F 111 [(.tmp 37), (.tmp 38), (.const (.int .i64 0))]) (.vd 33 (o_mov (.tmp 39)) (.vd 40 (o_extract (.tmp 33) 0) (.vd 41 (o_extract (.tmp 33) 1) (.vd 9 (o_mov (.tmp 40)) (.vd 10 (o_mov (.tmp 41)) .nil))))))))))))
     (.seq (.ops (.vd 42 (o_field 2 (.tmp 7)) (.vd 43 (o_load false 1 (.tmp 42)) (.vd 44 (o_bin .eql (.tmp 43) (.const (.int .i64 2))) (.vd 45 (o_mov (.tmp 44)) (.vg 46 45 true (o_mov (.tmp 0)) (.vg 47 45 true (o_nilCheck (.tmp 46)) (.vg 48 45 true (o_field 2 (.tmp 47)) (.vg 49 45 true (o_load false 1 (.tmp 48)) (.vg 50 45 true (o_mov (.tmp 9)) (.vg 51 45 true (o_mapGet false .i64 (.bool false) (.tmp 49) (.tmp 50)) (.vd 52 (o_pick (.tmp 45) (.tmp 51) (.const (.bool false))) .nil))))))))))))
     (.cond (.tmp 52)
      (.seq (.ops (.vd 54 (o_mov (.tmp 0)) (.vd 55 (o_nilCheck (.tmp 54)) (.vd 56 (o_field 0 (.tmp 55)) (.vd 57 (o_load false 1 (.tmp 56)) (.vd 58 (o_mov (.tmp 6)) (.cd 59 (fun F => c_call F 111 [(.tmp 57), (.tmp 58), (.const (.int .i64 1))]) (.vd 53 (o_mov (.tmp 59)) (.vd 60 (o_extract (.tmp 53) 0) (.vd 61 (o_extract (.tmp 53) 1) (.vd 11 (o_mov (.tmp 60)) (.vd 12 (o_mov (.tmp 61)) .nil))))))))))))
      (.ops (.vd 62 (o_mov (.tmp 4)) (.vd 63 (o_mov (.tmp 11)) (.vd 64 (o_buildSlice 1 [.int .i64 0] 1 [(0, 1, (.tmp 63))]) (.vd 65 (o_append 1 (.tmp 62) (.tmp 64)) (.vd 4 (o_mov (.tmp 65)) .nil)))))))
      .skip))))))
    (.ops (.vd 66 (o_bin .add (.tmp 20) (.const (.int .i64 1))) (.vd 20 (o_mov (.tmp 66)) .nil)))))
def S104 : SCode := (.seq (.ops (.vd 2 (o_mov (.const (.bool false))) .nil))
  (.seq (.ops (.vd 3 (o_mov (.const (.bool false))) .nil))
  (.seq (.ops (.vd 4 (o_mov (.const (.nilSlice))) .nil))
  (.seq (.seq (.ops (.vd 15 (o_mov (.tmp 0)) (.vd 16 (o_nilCheck (.tmp 15)) (.vd 17 (o_field 3 (.tmp 16)) (.vd 18 (o_load false 1 (.tmp 17)) (.vd 19 (o_len (.tmp 18)) (.vd 20 (o_mov (.const (.int .i64 0))) .nil)))))))
  (.block 0 (.loop S104_2)))
  (.seq (.seq (.ops (.vd 67 (o_mov (.tmp 4)) (.vd 68 (o_len (.tmp 67)) (.vd 69 (o_mov (.const (.int .i64 0))) .nil))))
  (.block 2 (.loop S104_1)))
  (.seq (.ops (.vd 80 (o_mov (.tmp 3)) (.vd 2 (o_mov (.tmp 80)) .nil)))
  .ret))))))
def X104 : FnS := .code ⟨81, 0, .skip, [.tmp 2]⟩ S104
theorem x104 : okX Go.Proofs.Tryz.prog 104 X104 := okX_of (by kernel_rfl)
def S105 : SCode := (.seq (.ops (.vd 4 (o_mov (.const (.bool false))) .nil))
  (.seq (.ops (.vd 5 (o_mov (.tmp 0)) (.vd 6 (o_mov (.tmp 1)) (.cd 7 (fun F => c_call F 66 [(.tmp 5), (.tmp 6)]) (.vd 8 (o_mov (.tmp 7)) (.vg 9 8 false (o_mov (.tmp 0)) (.vg 10 8 false (o_mov (.tmp 1)) (.c (some 11) (some (8, false)) (fun F => c_call F 107 [(.tmp 9), (.tmp 10)]) (.vg 12 8 false (o_bin .gtr (.tmp 11) (.const (.int .i64 32))) (.vd 13 (o_pick (.tmp 8) (.const (.bool true)) (.tmp 12)) (.vd 4 (o_mov (.tmp 13)) .nil)))))))))))
  .ret))
def X105 : FnS := .code ⟨14, 0, .skip, [.tmp 4]⟩ S105
theorem x105 : okX Go.Proofs.Tryz.prog 105 X105 := okX_of (by kernel_rfl)
def S106 : SCode := (.seq (.ops (.vd 6 (o_mov (.const (.int .i64 0))) .nil))
  (.seq (.seq (.ops (.vd 8 (o_mov (.tmp 0)) (.vd 9 (o_nilCheck (.tmp 8)) (.vd 10 (o_field 0 (.tmp 9)) (.vd 11 (o_field 1 (.tmp 10)) (.vd 12 (o_load false 1 (.tmp 11)) (.vd 13 (o_mov (.tmp 1)) (.vd 14 (o_bin .lss (.tmp 12) (.tmp 13)) .nil))))))))
  (.cond (.tmp 14)
   (.seq (.ops (.vd 15 (o_mov (.tmp 0)) (.vd 16 (o_mov (.tmp 2)) (.cd 17 (fun F => c_callm F (.tmp 16) [] [(267, "dustcart/alloc.place", 272), (268, "dustcart/alloc.place", 277), (269, "dustcart/alloc.place", 285), (270, "dustcart/alloc.place", 286), (271, "dustcart/alloc.place", 290)]) (.vd 18 (o_bin .mul (.tmp 17) (.const (.int .i64 64))) (.vd 19 (o_build [.int .i64 0, .int .i64 0] [(0, 1, (.tmp 18)), (1, 1, (.const (.int .i64 64)))]) (.vd 20 (o_nilCheck (.tmp 15)) (.vd 21 (o_field 0 (.tmp 20)) (.v none none (o_store 2 (.tmp 21) (.tmp 19)) .nil)))))))))
   (.ops (.vd 22 (o_mov (.tmp 0)) (.vd 23 (o_nilCheck (.tmp 22)) (.vd 24 (o_field 2 (.tmp 23)) (.vd 25 (o_load false 1 (.tmp 24)) (.vd 26 (o_bin .add (.tmp 25) (.const (.int .i64 1))) (.vd 27 (o_nilCheck (.tmp 22)) (.vd 28 (o_field 2 (.tmp 27)) (.v none none (o_store 1 (.tmp 28) (.tmp 26)) .nil))))))))))
   .skip))
  (.seq (.ops (.vd 29 (o_mov (.tmp 0)) (.vd 30 (o_nilCheck (.tmp 29)) (.vd 31 (o_field 0 (.tmp 30)) (.vd 32 (o_field 0 (.tmp 31)) (.vd 33 (o_load false 1 (.tmp 32)) (.vd 7 (o_mov (.tmp 33)) .nil)))))))
  (.seq (.dregion [⟨⟨some 34, none, .mov (.tmp 0)⟩, 0, 0, 0⟩, ⟨⟨some 36, none, .mov (.tmp 0)⟩, 2, 0, 0⟩, ⟨⟨some 37, none, .nilCheck (.tmp 36)⟩, 3, 0, 0⟩, ⟨⟨some 38, none, .field 0 (.tmp 37)⟩, 4, 0, 0⟩, ⟨⟨some 39, none, .field 0 (.tmp 38)⟩, 5, 0, 0⟩, ⟨⟨some 40, none, .load false 1 (.tmp 39)⟩, 6, 1, 0⟩, ⟨⟨some 41, none, .mov (.tmp 1)⟩, 7, 0, 0⟩, ⟨⟨some 42, none, .bin .add (.tmp 40) (.tmp 41)⟩, 8, 0, 0⟩, ⟨⟨some 43, none, .mov (.tmp 0)⟩, 9, 0, 0⟩, ⟨⟨some 44, none, .nilCheck (.tmp 43)⟩, 10, 0, 0⟩, ⟨⟨some 45, none, .field 0 (.tmp 44)⟩, 11, 0, 0⟩, ⟨⟨some 46, none, .field 1 (.tmp 45)⟩, 12, 0, 0⟩, ⟨⟨some 47, none, .load false 1 (.tmp 46)⟩, 13, 1, 0⟩, ⟨⟨some 50, none, .nilCheck (.tmp 34)⟩, 16, 0, 0⟩, ⟨⟨some 51, none, .field 0 (.tmp 50)⟩, 17, 0, 0⟩, ⟨⟨some 52, none, .field 0 (.tmp 51)⟩, 18, 0, 0⟩, ⟨⟨none, none, .store 1 (.tmp 52) (.tmp 42)⟩, 19, 3, 0⟩, ⟨⟨some 35, none, .mov (.tmp 0)⟩, 1, 0, 0⟩, ⟨⟨some 48, none, .mov (.tmp 1)⟩, 14, 0, 0⟩, ⟨⟨some 49, none, .bin .sub (.tmp 47) (.tmp 48)⟩, 15, 0, 0⟩, ⟨⟨some 53, none, .nilCheck (.tmp 35)⟩, 20, 0, 1⟩, ⟨⟨some 54, none, .field 0 (.tmp 53)⟩, 21, 0, 1⟩, ⟨⟨some 55, none, .field 1 (.tmp 54)⟩, 22, 0, 1⟩, ⟨⟨none, none, .store 1 (.tmp 55) (.tmp 49)⟩, 23, 3, 1⟩])
  (.seq (.ops (.vd 56 (o_mov (.tmp 7)) (.vd 6 (o_mov (.tmp 56)) .nil)))
  .ret)))))
def X106 : FnS := .code ⟨57, 0, .skip, [.tmp 6]⟩ S106
theorem x106 : okX Go.Proofs.Tryz.prog 106 X106 := okX_of (by kernel_rfl)
def S107 : SCode := (.seq (.ops (.vd 4 (o_mov (.const (.int .i64 0))) .nil))
  (.seq (.ops (.vd 8 (o_mov (.tmp 0)) (.vd 9 (o_mov (.tmp 1)) (.cd 10 (fun F => c_call F 109 [(.tmp 8), (.tmp 9)]) (.vd 7 (o_mov (.tmp 10)) (.vd 11 (o_extract (.tmp 7) 0) (.vd 12 (o_extract (.tmp 7) 1) (.vd 5 (o_new [.int .i64 0, .int .i64 0, .int .i64 0]) (.v none none (o_store 3 (.tmp 5) (.tmp 11)) (.vd 6 (o_mov (.tmp 12)) .nil))))))))))
  (.seq (.ops (.vd 13 (o_load true 3 (.tmp 5)) (.cd 14 (fun F => c_call F 94 [(.tmp 13)]) (.vd 4 (o_mov (.tmp 14)) .nil))))
  .ret)))
def X107 : FnS := .code ⟨15, 0, .skip, [.tmp 4]⟩ S107
theorem x107 : okX Go.Proofs.Tryz.prog 107 X107 := okX_of (by kernel_rfl)
def S108 : SCode := (.seq (.ops (.vd 0 (o_mov (.const (.int .i64 0))) .nil))
  (.seq (.ops (.vd 0 (o_mov (.const (.int .i64 0))) .nil))
  .ret))
def X108 : FnS := .code ⟨1, 0, .skip, [.tmp 0]⟩ S108
theorem x108 : okX Go.Proofs.Tryz.prog 108 X108 := okX_of (by kernel_rfl)
def S109 : SCode := (.seq (.ops (.vd 4 (o_new [.int .i64 0, .int .i64 0, .int .i64 0]) (.vd 5 (o_mov (.const (.int .i64 0))) .nil)))
  (.seq (.seq (.ops (.vd 7 (o_mov (.tmp 0)) (.vd 8 (o_mov (.tmp 1)) (.cd 9 (fun F => c_call F 153 [(.tmp 7), (.tmp 8)]) (.vd 6 (o_mov (.tmp 9)) .nil)))))
  (.seq (.ops (.vd 10 (o_mov (.tmp 6)) (.vd 11 (o_bin .neq (.tmp 10) (.const (.int .i64 0))) .nil)))
  (.cond (.tmp 11)
   (.seq (.ops (.vd 12 (o_build [.int .i64 0, .int .i64 0, .int .i64 0] []) (.vd 13 (o_mov (.tmp 6)) (.v none none (o_store 3 (.tmp 4) (.tmp 12)) (.vd 5 (o_mov (.tmp 13)) .nil)))))
   .ret)
   .skip)))
  (.seq (.ops (.vd 14 (o_mov (.tmp 0)) (.vd 15 (o_nilCheck (.tmp 14)) (.vd 16 (o_field 1 (.tmp 15)) (.vd 17 (o_load false 1 (.tmp 16)) (.vd 18 (o_mov (.tmp 1)) (.vd 19 (o_bin .add (.tmp 18) (.const (.int .i64 1))) (.vd 20 (o_index 1 (.tmp 17) (.tmp 19)) (.vd 21 (o_load false 1 (.tmp 20)) (.cd 22 (fun F => c_call F 159 [(.tmp 21)]) (.v none none (o_store 3 (.tmp 4) (.tmp 22)) (.vd 5 (o_mov (.const (.int .i64 0))) .nil))))))))))))
  .ret)))
def X109 : FnS := .code ⟨23, 0, .skip, [.cell 4 true 3, .tmp 5]⟩ S109
theorem x109 : okX Go.Proofs.Tryz.prog 109 X109 := okX_of (by kernel_rfl)
def S110 : SCode := (.seq (.ops (.vd 1 (o_box (.tmp 0)) (.vd 2 (o_mov (.const (.int .i64 0))) .nil)))
  (.seq (.ops (.vd 3 (o_buildSlice 1 [.int .i64 0, .int .i64 0, .int .i64 0, .int .i64 0] 4 [(0, 1, (.const (.int .i64 0))), (1, 1, (.const (.int .i64 1))), (2, 1, (.const (.int .i64 2))), (3, 1, (.const (.int .i64 0)))]) (.vd 4 (o_field 2 (.tmp 1)) (.vd 5 (o_load false 1 (.tmp 4)) (.vd 6 (o_index 1 (.tmp 3) (.tmp 5)) (.vd 7 (o_load false 1 (.tmp 6)) (.vd 2 (o_mov (.tmp 7)) .nil)))))))
  .ret))
def X110 : FnS := .code ⟨8, 0, .skip, [.tmp 2]⟩ S110
theorem x110 : okX Go.Proofs.Tryz.prog 110 X110 := okX_of (by kernel_rfl)
def S111 : SCode := (.seq (.ops (.vd 6 (o_mov (.const (.int .i64 0))) (.vd 7 (o_mov (.const (.int .i64 0))) .nil)))
  (.seq (.ops (.vd 11 (o_mov (.tmp 0)) (.vd 12 (o_mov (.tmp 1)) (.vd 13 (o_mov (.tmp 2)) (.cd 14 (fun F => c_call F 172 [(.tmp 11), (.tmp 12), (.tmp 13), (.const (.bool false))]) (.vd 10 (o_mov (.tmp 14)) (.vd 15 (o_extract (.tmp 10) 0) (.vd 16 (o_extract (.tmp 10) 1) (.vd 8 (o_mov (.tmp 15)) (.vd 9 (o_mov (.tmp 16)) .nil))))))))))
  (.seq (.seq (.ops (.vd 17 (o_mov (.tmp 9)) (.vd 18 (o_bin .neq (.tmp 17) (.const (.int .i64 0))) .nil)))
  (.cond (.tmp 18)
   (.seq (.ops (.vd 19 (o_mov (.tmp 9)) (.vd 6 (o_mov (.const (.int .i64 0))) (.vd 7 (o_mov (.tmp 19)) .nil))))
   .ret)
   .skip))
  (.seq (.ops (.vd 20 (o_mov (.tmp 0)) (.vd 21 (o_nilCheck (.tmp 20)) (.vd 22 (o_field 1 (.tmp 21)) (.vd 23 (o_load false 1 (.tmp 22)) (.vd 24 (o_mov (.tmp 8)) (.vd 25 (o_index 1 (.tmp 23) (.tmp 24)) (.vd 26 (o_load false 1 (.tmp 25)) (.vd 6 (o_mov (.tmp 26)) (.vd 7 (o_mov (.const (.int .i64 0))) .nil))))))))))
  .ret))))
def X111 : FnS := .code ⟨27, 0, .skip, [.tmp 6, .tmp 7]⟩ S111
theorem x111 : okX Go.Proofs.Tryz.prog 111 X111 := okX_of (by kernel_rfl)
def S112 : SCode := (.seq (.ops (.vd 8 (o_mov (.const (.int .i64 0))) .nil))
  (.seq (.ops (.vd 12 (o_mov (.tmp 0)) (.vd 13 (o_mov (.tmp 1)) (.vd 14 (o_mov (.tmp 2)) (.cd 15 (fun F => c_call F 172 [(.tmp 12), (.tmp 13), (.tmp 14), (.const (.bool false))]) (.vd 11 (o_mov (.tmp 15)) (.vd 16 (o_extract (.tmp 11) 0) (.vd 17 (o_extract (.tmp 11) 1) (.vd 9 (o_mov (.tmp 16)) (.vd 10 (o_mov (.tmp 17)) .nil))))))))))
  (.seq (.seq (.ops (.vd 18 (o_mov (.tmp 10)) (.vd 19 (o_bin .neq (.tmp 18) (.const (.int .i64 0))) .nil)))
  (.cond (.tmp 19)
   (.seq (.ops (.vd 20 (o_mov (.tmp 10)) (.vd 8 (o_mov (.tmp 20)) .nil)))
   .ret)
   .skip))
  (.seq (.seq (.ops (.vd 21 (o_mov (.tmp 3)) (.vd 22 (o_bin .neq (.tmp 21) (.const (.int .i64 0))) (.vd 23 (o_mov (.tmp 22)) (.vg 24 23 true (o_mov (.tmp 0)) (.vg 25 23 true (o_mov (.tmp 3)) (.c (some 26) (some (23, true)) (fun F => c_call F 44 [(.tmp 24), (.tmp 25)]) (.vg 27 23 true (o_not (.tmp 26)) (.vd 28 (o_pick (.tmp 23) (.tmp 27) (.const (.bool false))) .nil)))))))))
  (.cond (.tmp 28)
   (.seq (.ops (.vd 8 (o_mov (.const (.int .i64 1))) .nil))
   .ret)
   .skip))
  (.seq (.ops (.vd 29 (o_mov (.tmp 0)) (.vd 30 (o_nilCheck (.tmp 29)) (.vd 31 (o_field 1 (.tmp 30)) (.vd 32 (o_load false 1 (.tmp 31)) (.vd 33 (o_mov (.tmp 9)) (.vd 34 (o_mov (.tmp 3)) (.vd 35 (o_index 1 (.tmp 32) (.tmp 33)) (.v none none (o_store 1 (.tmp 35) (.tmp 34)) .nil)))))))))
  (.seq (.ops (.vd 8 (o_mov (.const (.int .i64 0))) .nil))
  .ret))))))
def X112 : FnS := .code ⟨36, 0, .skip, [.tmp 8]⟩ S112
theorem x112 : okX Go.Proofs.Tryz.prog 112 X112 := okX_of (by kernel_rfl)
def S114_1 : SCode := .seq (.block 1 (.seq (.dregion [⟨⟨some 6, none, .load false 1 (.tmp 0)⟩, 0, 1, 0⟩, ⟨⟨some 7, none, .nilCheck (.tmp 6)⟩, 1, 0, 0⟩, ⟨⟨some 8, none, .field 0 (.tmp 7)⟩, 2, 0, 0⟩, ⟨⟨some 9, none, .load false 1 (.tmp 8)⟩, 3, 1, 0⟩, ⟨⟨some 10, none, .mov (.tmp 3)⟩, 4, 0, 0⟩, ⟨⟨some 11, none, .load false 1 (.tmp 1)⟩, 5, 1, 0⟩, ⟨⟨some 12, none, .call 38 [(.tmp 9), (.tmp 10), (.tmp 11)]⟩, 6, 3, 0⟩, ⟨⟨some 13, none, .bin .eql (.tmp 12) (.const (.int .i64 0))⟩, 7, 0, 1⟩])
     (.cond (.tmp 13)
      (.seq (.ops (.vd 14 (o_mov (.tmp 3)) (.vd 2 (o_mov (.tmp 14)) .nil)))
      .ret)
      .skip)))
    (.ops (.vd 4 (o_mov (.tmp 3)) (.vd 5 (o_bin .add (.tmp 4) (.const (.int .i64 1))) (.vd 3 (o_mov (.tmp 5)) .nil))))
def S114 : SCode := (.seq (.ops (.vd 2 (o_mov (.const (.int .i64 0))) .nil))
  (.seq (.ops (.vd 3 (o_mov (.const (.int .i64 1))) .nil))
  (.block 0 (.loop S114_1))))
def X114 : FnS := .code ⟨15, 0, .skip, [.tmp 2]⟩ S114
theorem x114 : okX Go.Proofs.Tryz.prog 114 X114 := okX_of (by kernel_rfl)
def S115 : SCode := (.seq (.ops (.vd 2 (o_mov (.const (.nilSlice))) .nil))
  (.seq (.seq (.ops (.vd 3 (o_mov (.tmp 0)) (.vd 4 (o_eqv false 2 (.tmp 3) (.const (.nilSlice))) .nil)))
  (.cond (.tmp 4)
   (.seq (.ops (.vd 2 (o_mov (.const (.nilSlice))) .nil))
   .ret)
   .skip))
  (.seq (.ops (.vd 5 (o_buildSlice 2 [] 0 []) (.vd 6 (o_mov (.tmp 0)) (.vd 7 (o_append 2 (.tmp 5) (.tmp 6)) (.vd 2 (o_mov (.tmp 7)) .nil)))))
  .ret)))
def X115 : FnS := .code ⟨8, 0, .skip, [.tmp 2]⟩ S115
theorem x115 : okX Go.Proofs.Tryz.prog 115 X115 := okX_of (by kernel_rfl)
end Go.Cs.Tryz

/- The turned functions, part 2. -/
noncomputable section
namespace Go.Cs.Tryz
open Go Go.Cs Go.Cs.K
set_option maxRecDepth 100000
def S116 : SCode := (.seq (.ops (.vd 5 (o_mov (.tmp 0)) (.vd 6 (o_len (.tmp 5)) (.vd 4 (o_mov (.tmp 6)) .nil))))
  (.ops (.vd 7 (o_mov (.tmp 0)) (.vd 8 (o_mov (.tmp 4)) (.vd 9 (o_mov (.tmp 4)) (.vd 10 (o_conv .u64 (.tmp 9)) (.cd 11 (fun F => c_call F 150 [(.tmp 10)]) (.vd 12 (o_mov (.tmp 1)) (.cd 13 (fun F => c_call F 173 [(.tmp 7), (.const (.int .i64 0)), (.tmp 8), (.tmp 11), (.tmp 12)]) .nil)))))))))
def X116 : FnS := .code ⟨14, 0, .skip, []⟩ S116
theorem x116 : okX Go.Proofs.Tryz.prog 116 X116 := okX_of (by kernel_rfl)
def S117 : SCode := (.seq (.ops (.vd 2 (o_box (.tmp 0)) (.vd 3 (o_box (.tmp 1)) (.vd 4 (o_mov (.const (.int .i64 0))) .nil))))
  (.seq (.ops (.vd 5 (o_field 0 (.tmp 2)) (.vd 6 (o_load false 1 (.tmp 5)) (.vd 7 (o_field 0 (.tmp 3)) (.vd 8 (o_load false 1 (.tmp 7)) (.vd 9 (o_bin .sub (.tmp 6) (.tmp 8)) (.vd 4 (o_mov (.tmp 9)) .nil)))))))
  .ret))
def X117 : FnS := .code ⟨10, 0, .skip, [.tmp 4]⟩ S117
theorem x117 : okX Go.Proofs.Tryz.prog 117 X117 := okX_of (by kernel_rfl)
def S118_1 : SCode := .seq (.ops (.vd 25 (o_bin .lss (.tmp 24) (.tmp 23)) .nil))
    (.seq (.cond (.tmp 25)
     .skip
     (.exit 0))
    (.seq (.block 1 (.seq (.ops (.vd 26 (o_mov (.tmp 24)) (.vd 8 (o_mov (.tmp 26)) .nil)))
     (.seq (.dregion [⟨⟨some 27, none, .load false 1 (.tmp 4)⟩, 0, 1, 0⟩, ⟨⟨some 28, none, .mov (.tmp 8)⟩, 1, 0, 0⟩, ⟨⟨some 29, none, .index 1 (.tmp 27) (.tmp 28)⟩, 2, 0, 0⟩, ⟨⟨some 30, none, .load false 1 (.tmp 29)⟩, 3, 1, 0⟩, ⟨⟨some 31, none, .bin .leq (.tmp 30) (.const (.int .i64 0))⟩, 4, 0, 0⟩, ⟨⟨some 32, none, .mov (.tmp 31)⟩, 5, 0, 0⟩, ⟨⟨some 33, some (32, false), .load false 1 (.tmp 5)⟩, 6, 1, 0⟩, ⟨⟨some 34, some (32, false), .mov (.tmp 8)⟩, 7, 0, 0⟩, ⟨⟨some 35, some (32, false), .index 1 (.tmp 33) (.tmp 34)⟩, 8, 0, 0⟩, ⟨⟨some 36, some (32, false), .load false 1 (.tmp 35)⟩, 9, 1, 0⟩, ⟨⟨some 37, some (32, false), .bin .leq (.tmp 36) (.const (.int .i64 0))⟩, 10, 0, 0⟩, ⟨⟨some 38, none, .pick (.tmp 32) (.const (.bool true)) (.tmp 37)⟩, 11, 0, 0⟩, ⟨⟨some 39, none, .mov (.tmp 38)⟩, 12, 0, 0⟩, ⟨⟨some 40, some (39, false), .mov (.tmp 8)⟩, 13, 0, 0⟩, ⟨⟨some 41, some (39, false), .bin .gtr (.tmp 40) (.const (.int .i64 0))⟩, 14, 0, 0⟩, ⟨⟨some 42, some (39, false), .mov (.tmp 41)⟩, 15, 0, 0⟩, ⟨⟨some 43, some (42, true), .load false 1 (.tmp 4)⟩, 16, 1, 0⟩, ⟨⟨some 44, some (42, true), .mov (.tmp 8)⟩, 17, 0, 0⟩, ⟨⟨some 45, some (42, true), .index 1 (.tmp 43) (.tmp 44)⟩, 18, 0, 0⟩, ⟨⟨some 46, some (42, true), .load false 1 (.tmp 45)⟩, 19, 1, 0⟩, ⟨⟨some 47, some (42, true), .load false 1 (.tmp 4)⟩, 20, 1, 0⟩, ⟨⟨some 48, some (42, true), .mov (.tmp 8)⟩, 21, 0, 0⟩, ⟨⟨some 49, some (42, true), .bin .sub (.tmp 48) (.const (.int .i64 1))⟩, 22, 0, 0⟩, ⟨⟨some 50, some (42, true), .index 1 (.tmp 47) (.tmp 49)⟩, 23, 0, 0⟩, ⟨⟨some 51, some (42, true), .load false 1 (.tmp 50)⟩, 24, 1, 0⟩, ⟨⟨some 52, some (42, true), .bin .leq (.tmp 46) (.tmp 51)⟩, 25, 0, 0⟩, ⟨⟨some 53, some (39, false), .pick (.tmp 42) (.tmp 52) (.const (.bool false))⟩, 26, 0, 0⟩, ⟨⟨some 54, none, .pick (.tmp 39) (.const (.bool true)) (.tmp 53)⟩, 27, 0, 0⟩])
     (.cond (.tmp 54)
      (.seq (.ops (.vd 6 (o_mov (.const (.int .i64 0))) (.vd 7 (o_mov (.const (.int .i64 1))) .nil)))
      .ret)
      .skip))))
    (.ops (.vd 55 (o_bin .add (.tmp 24) (.const (.int .i64 1))) (.vd 24 (o_mov (.tmp 55)) .nil)))))
def S118 : SCode := (.seq (.ops (.vd 4 (o_box (.tmp 1)) (.vd 5 (o_box (.tmp 2)) (.vd 6 (o_mov (.const (.int .i64 0))) (.vd 7 (o_mov (.const (.int .i64 0))) .nil)))))
  (.seq (.seq (.ops (.vd 14 (o_mov (.tmp 0)) (.cd 15 (fun F => c_call F 166 [(.tmp 14)]) (.vd 16 (o_not (.tmp 15)) .nil))))
  (.cond (.tmp 16)
   (.seq (.ops (.vd 6 (o_mov (.const (.int .i64 0))) (.vd 7 (o_mov (.const (.int .i64 5))) .nil)))
   .ret)
   .skip))
  (.seq (.seq (.ops (.vd 17 (o_load false 1 (.tmp 4)) (.vd 18 (o_len (.tmp 17)) (.vd 19 (o_load false 1 (.tmp 5)) (.vd 20 (o_len (.tmp 19)) (.vd 21 (o_bin .neq (.tmp 18) (.tmp 20)) .nil))))))
  (.cond (.tmp 21)
   (.seq (.ops (.vd 6 (o_mov (.const (.int .i64 0))) (.vd 7 (o_mov (.const (.int .i64 1))) .nil)))
   .ret)
   .skip))
  (.seq (.seq (.ops (.vd 22 (o_load false 1 (.tmp 4)) (.vd 23 (o_len (.tmp 22)) (.vd 24 (o_mov (.const (.int .i64 0))) .nil))))
  (.block 0 (.loop S118_1)))
  (.seq (.ops (.vd 9 (o_new [.int .i64 0]) (.v none none (o_store 1 (.tmp 9) (.const (.int .i64 0))) .nil)))
  (.seq (.seq (.ops (.vd 56 (o_mov (.tmp 0)) (.cd 57 (fun F => c_call F 170 [(.tmp 56)]) .nil)))
  (.block 2 (.rangeF (.tmp 57) [58, 59] 78 3776)))
  (.seq (.ops (.vd 77 (o_load false 1 (.tmp 9)) (.vd 6 (o_mov (.tmp 77)) (.vd 7 (o_mov (.const (.int .i64 0))) .nil))))
  .ret)))))))
def X118 : FnS := .code ⟨78, 0, .skip, [.tmp 6, .tmp 7]⟩ S118
theorem x118 : okX Go.Proofs.Tryz.prog 118 X118 := okX_of (by kernel_rfl)
def S1003776 : SCode := (.ops (.vd 11 (o_mov (.tmp 59)) .nil))
def X1003776 : FnS := .code ⟨78, 1, .skip, []⟩ S1003776
theorem x1003776 : okX Go.Proofs.Tryz.prog 1003776 X1003776 := okX_of (by kernel_rfl)
def S1003777 : SCode := (.block 3 (.seq (.dregion [⟨⟨some 61, none, .load false 1 (.tmp 4)⟩, 0, 1, 0⟩, ⟨⟨some 62, none, .mov (.tmp 11)⟩, 1, 0, 0⟩, ⟨⟨some 63, none, .nilCheck (.tmp 62)⟩, 2, 0, 0⟩, ⟨⟨some 64, none, .load false 1 (.tmp 63)⟩, 3, 1, 0⟩, ⟨⟨some 65, none, .call 174 [(.tmp 61), (.tmp 64)]⟩, 4, 3, 0⟩, ⟨⟨some 60, none, .mov (.tmp 65)⟩, 5, 0, 1⟩, ⟨⟨some 66, none, .extract (.tmp 60) 0⟩, 6, 0, 1⟩, ⟨⟨some 67, none, .extract (.tmp 60) 1⟩, 7, 0, 1⟩, ⟨⟨some 12, none, .mov (.tmp 66)⟩, 8, 0, 1⟩, ⟨⟨some 13, none, .mov (.tmp 67)⟩, 9, 0, 1⟩])
   (.seq (.ops (.vd 68 (o_mov (.tmp 13)) .nil))
   (.cond (.tmp 68)
    (.seq (.ops (.vd 69 (o_mov (.tmp 11)) (.vd 70 (o_load false 1 (.tmp 5)) (.vd 71 (o_mov (.tmp 12)) (.vd 72 (o_index 1 (.tmp 70) (.tmp 71)) (.vd 73 (o_load false 1 (.tmp 72)) (.vd 74 (o_nilCheck (.tmp 69)) (.v none none (o_store 1 (.tmp 74) (.tmp 73)) .nil))))))))
    (.ops (.vd 75 (o_load false 1 (.tmp 9)) (.vd 76 (o_bin .add (.tmp 75) (.const (.int .i64 1))) (.v none none (o_store 1 (.tmp 9) (.tmp 76)) .nil)))))
    .skip))))
def X1003777 : FnS := .code ⟨78, 2, .skip, []⟩ S1003777
theorem x1003777 : okX Go.Proofs.Tryz.prog 1003777 X1003777 := okX_of (by kernel_rfl)
def S119_1 : SCode := .seq (.seq (.ops (.vd 21 (o_mov (.tmp 6)) (.vd 22 (o_bin .gtr (.tmp 21) (.const (.int .i64 0))) .nil)))
    (.cond (.tmp 22)
     .skip
     (.exit 0)))
    (.seq (.block 1 (.ops (.vd 25 (o_mov (.tmp 0)) (.vd 26 (o_nilCheck (.tmp 25)) (.vd 27 (o_field 0 (.tmp 26)) (.vd 28 (o_load false 1 (.tmp 27)) (.vd 29 (o_mov (.tmp 1)) (.vd 30 (o_mov (.tmp 6)) (.vd 31 (o_bin .add (.tmp 29) (.tmp 30)) (.vd 32 (o_bin .sub (.tmp 31) (.const (.int .i64 1))) (.vd 33 (o_build [.int .i64 0, .int .i64 0] []) (.vd 34 (o_index 2 (.tmp 28) (.tmp 32)) (.v none none (o_store 2 (.tmp 34) (.tmp 33)) .nil)))))))))))))
    (.ops (.vd 23 (o_mov (.tmp 6)) (.vd 24 (o_bin .sub (.tmp 23) (.const (.int .i64 1))) (.vd 6 (o_mov (.tmp 24)) .nil)))))
def S119 : SCode := (.seq (.ops (.vd 4 (o_mov (.const (.int .i64 0))) .nil))
  (.seq (.seq (.ops (.vd 7 (o_mov (.tmp 0)) (.vd 8 (o_mov (.tmp 1)) (.cd 9 (fun F => c_call F 175 [(.tmp 7), (.tmp 8), (.const (.bool true))]) (.vd 5 (o_mov (.tmp 9)) .nil)))))
  (.seq (.ops (.vd 10 (o_mov (.tmp 5)) (.vd 11 (o_bin .neq (.tmp 10) (.const (.int .i64 0))) .nil)))
  (.cond (.tmp 11)
   (.seq (.ops (.vd 12 (o_mov (.tmp 5)) (.vd 4 (o_mov (.tmp 12)) .nil)))
   .ret)
   .skip)))
  (.seq (.seq (.ops (.vd 13 (o_mov (.tmp 0)) (.vd 14 (o_mov (.tmp 1)) (.cd 15 (fun F => c_call F 35 [(.tmp 13), (.tmp 14)]) (.vd 16 (o_len (.tmp 15)) (.vd 17 (o_bin .gtr (.tmp 16) (.const (.int .i64 0))) .nil))))))
  (.cond (.tmp 17)
   (.seq (.ops (.vd 4 (o_mov (.const (.int .i64 8))) .nil))
   .ret)
   .skip))
  (.seq (.seq (.ops (.vd 18 (o_mov (.tmp 0)) (.vd 19 (o_mov (.tmp 1)) (.cd 20 (fun F => c_call F 163 [(.tmp 18), (.tmp 19)]) (.vd 6 (o_mov (.tmp 20)) .nil)))))
  (.block 0 (.loop S119_1)))
  (.seq (.ops (.vd 4 (o_mov (.const (.int .i64 0))) .nil))
  .ret)))))
def X119 : FnS := .code ⟨35, 0, .skip, [.tmp 4]⟩ S119
theorem x119 : okX Go.Proofs.Tryz.prog 119 X119 := okX_of (by kernel_rfl)
def S120_1 : SCode := .seq (.ops (.vd 10 (o_bin .lss (.tmp 9) (.tmp 8)) .nil))
    (.seq (.cond (.tmp 10)
     .skip
     (.exit 0))
    (.seq (.block 1 (.seq (.ops (.vd 11 (o_index 1 (.tmp 7) (.tmp 9)) (.vd 12 (o_load false 1 (.tmp 11)) (.vd 5 (o_mov (.tmp 12)) .nil))))
     (.ops (.vd 13 (o_mov (.tmp 3)) (.vd 14 (o_mov (.tmp 0)) (.vd 15 (o_mov (.tmp 5)) (.cd 16 (fun F => c_call F 90 [(.tmp 14), (.tmp 15)]) (.vd 17 (o_bin .add (.tmp 13) (.tmp 16)) (.vd 3 (o_mov (.tmp 17)) .nil)))))))))
    (.ops (.vd 18 (o_bin .add (.tmp 9) (.const (.int .i64 1))) (.vd 9 (o_mov (.tmp 18)) .nil)))))
def S120 : SCode := (.seq (.ops (.vd 2 (o_mov (.const (.int .i64 0))) .nil))
  (.seq (.ops (.vd 3 (o_mov (.const (.int .i64 0))) .nil))
  (.seq (.seq (.ops (.vd 6 (o_mov (.tmp 0)) (.cd 7 (fun F => c_call F 64 [(.tmp 6)]) (.vd 8 (o_len (.tmp 7)) (.vd 9 (o_mov (.const (.int .i64 0))) .nil)))))
  (.block 0 (.loop S120_1)))
  (.seq (.ops (.vd 19 (o_mov (.tmp 3)) (.vd 2 (o_mov (.tmp 19)) .nil)))
  .ret))))
def X120 : FnS := .code ⟨20, 0, .skip, [.tmp 2]⟩ S120
theorem x120 : okX Go.Proofs.Tryz.prog 120 X120 := okX_of (by kernel_rfl)
def S121_1 : SCode := .seq (.seq (.ops (.vd 26 (o_mov (.tmp 4)) (.vd 27 (o_bin .lss (.tmp 26) (.const (.int .i64 2))) .nil)))
    (.cond (.tmp 27)
     .skip
     (.exit 0)))
    (.seq (.block 1 (.ops (.vd 31 (o_mov (.tmp 4)) (.vd 32 (o_field 0 (.tmp 3)) (.vd 33 (o_load false 1 (.tmp 32)) (.vd 34 (o_mov (.tmp 4)) (.vd 35 (o_field 2 (.tmp 1)) (.vd 36 (o_load false 1 (.tmp 35)) (.vd 37 (o_conv .i64 (.tmp 36)) (.vd 38 (o_bin .rem (.tmp 37) (.const (.int .i64 5))) (.cd 39 (fun F => c_call F 179 [(.tmp 33), (.tmp 34), (.tmp 38)]) (.vd 30 (o_mov (.tmp 39)) (.vd 40 (o_extract (.tmp 30) 0) (.vd 41 (o_extract (.tmp 30) 1) (.vd 42 (o_field 2 (.tmp 3)) (.vd 43 (o_indexA 2 1 (.tmp 42) (.tmp 31)) (.v none none (o_store 1 (.tmp 43) (.tmp 40)) .nil)))))))))))))))))
    (.ops (.vd 28 (o_mov (.tmp 4)) (.vd 29 (o_bin .add (.tmp 28) (.const (.int .i64 1))) (.vd 4 (o_mov (.tmp 29)) .nil)))))
def S121 : SCode := (.seq (.ops (.vd 1 (o_box (.tmp 0)) (.vd 2 (o_new [.nilPtr, .nilPtr, .nilPtr, .nilPtr, .nilPtr]) .nil)))
  (.seq (.ops (.vd 3 (o_new [.nilPtr, .nilPtr, .nilPtr, .nilPtr, .nilPtr]) .nil))
  (.seq (.ops (.vd 6 (o_load true 4 (.tmp 1)) (.cd 7 (fun F => c_call F 176 [(.tmp 6)]) (.cd 8 (fun F => c_call F 7 [(.tmp 7)]) (.vd 5 (o_mov (.tmp 8)) (.vd 9 (o_extract (.tmp 5) 0) (.vd 10 (o_extract (.tmp 5) 1) (.vd 11 (o_field 0 (.tmp 3)) (.v none none (o_store 1 (.tmp 11) (.tmp 9)) .nil)))))))))
  (.seq (.ops (.vd 13 (o_load true 4 (.tmp 1)) (.cd 14 (fun F => c_call F 177 [(.tmp 13)]) (.cd 15 (fun F => c_call F 8 [(.tmp 14)]) (.vd 12 (o_mov (.tmp 15)) (.vd 16 (o_extract (.tmp 12) 0) (.vd 17 (o_extract (.tmp 12) 1) (.vd 18 (o_field 1 (.tmp 3)) (.v none none (o_store 1 (.tmp 18) (.tmp 16)) .nil)))))))))
  (.seq (.ops (.vd 20 (o_load true 4 (.tmp 1)) (.cd 21 (fun F => c_call F 177 [(.tmp 20)]) (.cd 22 (fun F => c_call F 178 [(.tmp 21)]) (.vd 19 (o_mov (.tmp 22)) (.vd 23 (o_extract (.tmp 19) 0) (.vd 24 (o_extract (.tmp 19) 1) (.vd 25 (o_field 4 (.tmp 3)) (.v none none (o_store 1 (.tmp 25) (.tmp 23)) .nil)))))))))
  (.seq (.seq (.ops (.vd 4 (o_mov (.const (.int .i64 0))) .nil))
  (.block 0 (.loop S121_1)))
  (.seq (.ops (.vd 44 (o_load true 5 (.tmp 3)) (.v none none (o_store 5 (.tmp 2) (.tmp 44)) .nil)))
  .ret)))))))
def X121 : FnS := .code ⟨45, 0, .skip, [.cell 2 true 5]⟩ S121
theorem x121 : okX Go.Proofs.Tryz.prog 121 X121 := okX_of (by kernel_rfl)
def S122 : SCode := (.seq (.ops (.vd 3 (o_box (.tmp 1)) (.vd 4 (o_mov (.const (.int .i64 0))) (.vd 5 (o_mov (.const (.int .i64 0))) .nil))))
  (.seq (.block 0 (.seq (.ops (.vd 13 (o_mov (.tmp 0)) (.cd 14 (fun F => c_call F 180 [(.tmp 13)]) (.vd 15 (o_not (.tmp 14)) (.vd 12 (o_mov (.tmp 15)) .nil)))))
   (.cond (.tmp 12)
    (.seq (.ops (.vd 4 (o_mov (.const (.int .i64 0))) (.vd 5 (o_mov (.const (.int .i64 5))) .nil)))
    .ret)
    (.seq (.ops (.vd 17 (o_load true 3 (.tmp 3)) (.cd 18 (fun F => c_call F 92 [(.tmp 17)]) (.vd 19 (o_not (.tmp 18)) (.vd 16 (o_mov (.tmp 19)) .nil)))))
    (.cond (.tmp 16)
     (.seq (.ops (.vd 4 (o_mov (.const (.int .i64 0))) (.vd 5 (o_mov (.const (.int .i64 2))) .nil)))
     .ret)
     .skip)))))
  (.seq (.ops (.vd 20 (o_load true 3 (.tmp 3)) (.cd 21 (fun F => c_call F 94 [(.tmp 20)]) (.vd 6 (o_mov (.tmp 21)) .nil))))
  (.seq (.dregion [⟨⟨some 22, none, .call 181 []⟩, 0, 3, 0⟩, ⟨⟨some 23, none, .mov (.tmp 0)⟩, 1, 0, 0⟩, ⟨⟨some 24, none, .nilCheck (.tmp 23)⟩, 2, 0, 0⟩, ⟨⟨some 25, none, .field 2 (.tmp 24)⟩, 3, 0, 0⟩, ⟨⟨some 26, none, .load false 1 (.tmp 25)⟩, 4, 1, 0⟩, ⟨⟨some 27, none, .index 1 (.tmp 22) (.tmp 26)⟩, 5, 0, 1⟩, ⟨⟨some 28, none, .load false 1 (.tmp 27)⟩, 6, 1, 1⟩, ⟨⟨some 29, none, .nilCheck (.tmp 28)⟩, 7, 0, 1⟩, ⟨⟨some 30, none, .mkmeth "dustcart/alloc.place" (.tmp 29)⟩, 8, 0, 1⟩, ⟨⟨some 7, none, .mov (.tmp 30)⟩, 9, 0, 1⟩])
  (.seq (.seq (.ops (.vd 31 (o_mov (.tmp 6)) (.vd 32 (o_bin .gtr (.tmp 31) (.const (.int .i64 32))) .nil)))
  (.cond (.tmp 32)
   (.ops (.vd 7 (o_mov (.const (.func 182 []))) .nil))
   .skip))
  (.seq (.ops (.vd 33 (o_mov (.tmp 0)) (.vd 34 (o_nilCheck (.tmp 33)) (.vd 35 (o_load true 7 (.tmp 34)) (.vd 8 (o_new [.nilPtr, .int .i64 0, .int .i64 0, .int .i64 0, .int .i64 0, .int .i64 0, .int .i64 0]) (.v none none (o_store 7 (.tmp 8) (.tmp 35)) .nil))))))
  (.seq (.ops (.vd 37 (o_mov (.tmp 7)) (.vd 38 (o_mov (.tmp 0)) (.vd 39 (o_mov (.tmp 6)) (.cd 40 (fun F => c_callm F (.tmp 37) [(.tmp 38), (.tmp 39)] [(267, "dustcart/alloc.place", 272), (268, "dustcart/alloc.place", 277), (269, "dustcart/alloc.place", 285), (270, "dustcart/alloc.place", 286), (271, "dustcart/alloc.place", 290)]) (.vd 36 (o_mov (.tmp 40)) (.vd 41 (o_extract (.tmp 36) 0) (.vd 42 (o_extract (.tmp 36) 1) (.vd 9 (o_mov (.tmp 41)) (.vd 10 (o_mov (.tmp 42)) .nil))))))))))
  (.seq (.seq (.ops (.vd 43 (o_mov (.tmp 10)) (.vd 44 (o_not (.tmp 43)) .nil)))
  (.cond (.tmp 44)
   (.seq (.ops (.vd 4 (o_mov (.const (.int .i64 0))) (.vd 5 (o_mov (.const (.int .i64 6))) .nil)))
   .ret)
   .skip))
  (.seq (.ops (.vd 11 (o_mov (.const (.int .i64 5))) .nil))
  (.seq (.seq (.dregion [⟨⟨some 45, none, .mov (.tmp 0)⟩, 0, 0, 0⟩, ⟨⟨some 46, none, .nilCheck (.tmp 45)⟩, 1, 0, 0⟩, ⟨⟨some 47, none, .field 0 (.tmp 46)⟩, 2, 0, 0⟩, ⟨⟨some 48, none, .load false 1 (.tmp 47)⟩, 3, 1, 0⟩, ⟨⟨some 49, none, .mov (.tmp 9)⟩, 4, 0, 0⟩, ⟨⟨some 50, none, .bin .quo (.tmp 49) (.const (.int .i64 64))⟩, 5, 0, 0⟩, ⟨⟨some 51, none, .call 86 [(.tmp 48), (.tmp 50)]⟩, 6, 3, 0⟩, ⟨⟨some 52, none, .mov (.tmp 0)⟩, 7, 0, 0⟩, ⟨⟨some 53, none, .nilCheck (.tmp 52)⟩, 8, 0, 0⟩, ⟨⟨some 54, none, .field 1 (.tmp 53)⟩, 9, 0, 0⟩, ⟨⟨some 55, none, .load false 1 (.tmp 54)⟩, 10, 1, 0⟩, ⟨⟨some 56, none, .bin .eql (.tmp 51) (.tmp 55)⟩, 11, 0, 1⟩])
  (.cond (.tmp 56)
   (.dregion [⟨⟨some 58, none, .mov (.tmp 0)⟩, 0, 0, 0⟩, ⟨⟨some 59, none, .nilCheck (.tmp 58)⟩, 1, 0, 0⟩, ⟨⟨some 60, none, .field 0 (.tmp 59)⟩, 2, 0, 0⟩, ⟨⟨some 61, none, .load false 1 (.tmp 60)⟩, 3, 1, 0⟩, ⟨⟨some 62, none, .mov (.tmp 9)⟩, 4, 0, 0⟩, ⟨⟨some 63, none, .load true 3 (.tmp 3)⟩, 5, 1, 0⟩, ⟨⟨some 64, none, .call 39 [(.tmp 61), (.tmp 62), (.tmp 63)]⟩, 6, 3, 0⟩, ⟨⟨some 57, none, .mov (.tmp 64)⟩, 7, 0, 1⟩, ⟨⟨some 65, none, .extract (.tmp 57) 0⟩, 8, 0, 1⟩, ⟨⟨some 66, none, .extract (.tmp 57) 1⟩, 9, 0, 1⟩, ⟨⟨some 11, none, .mov (.tmp 66)⟩, 10, 0, 1⟩])
   .skip))
  (.seq (.seq (.ops (.vd 67 (o_mov (.tmp 11)) (.vd 68 (o_bin .neq (.tmp 67) (.const (.int .i64 0))) .nil)))
  (.cond (.tmp 68)
   (.seq (.ops (.vd 69 (o_mov (.tmp 0)) (.vd 70 (o_load true 7 (.tmp 8)) (.vd 71 (o_nilCheck (.tmp 69)) (.v none none (o_store 7 (.tmp 71) (.tmp 70)) .nil)))))
   (.seq (.ops (.vd 4 (o_mov (.const (.int .i64 0))) (.vd 5 (o_mov (.const (.int .i64 6))) .nil)))
   .ret))
   .skip))
  (.seq (.ops (.vd 72 (o_mov (.tmp 9)) (.vd 4 (o_mov (.tmp 72)) (.vd 5 (o_mov (.const (.int .i64 0))) .nil))))
  .ret))))))))))))
def X122 : FnS := .code ⟨73, 0, .skip, [.tmp 4, .tmp 5]⟩ S122
theorem x122 : okX Go.Proofs.Tryz.prog 122 X122 := okX_of (by kernel_rfl)
def S131 : SCode := (.seq (.ops (.vd 4 (o_mov (.const (.int .i64 0))) (.vd 5 (o_mov (.const (.int .i64 0))) .nil)))
  (.seq (.seq (.ops (.vd 8 (o_mov (.tmp 0)) (.cd 9 (fun F => c_call F 83 [(.tmp 8)]) (.vd 10 (o_not (.tmp 9)) .nil))))
  (.cond (.tmp 10)
   (.seq (.ops (.vd 4 (o_mov (.const (.int .i64 0))) (.vd 5 (o_mov (.const (.int .i64 5))) .nil)))
   .ret)
   .skip))
  (.seq (.seq (.ops (.vd 11 (o_mov (.tmp 1)) (.vd 12 (o_bin .lss (.tmp 11) (.const (.int .i64 0))) (.vd 13 (o_mov (.tmp 12)) (.vg 14 13 false (o_mov (.tmp 1)) (.vg 15 13 false (o_mov (.tmp 0)) (.vg 16 13 false (o_nilCheck (.tmp 15)) (.vg 17 13 false (o_field 1 (.tmp 16)) (.vg 18 13 false (o_load false 1 (.tmp 17)) (.vg 19 13 false (o_len (.tmp 18)) (.vg 20 13 false (o_bin .geq (.tmp 14) (.tmp 19)) (.vd 21 (o_pick (.tmp 13) (.const (.bool true)) (.tmp 20)) .nil))))))))))))
  (.cond (.tmp 21)
   (.seq (.ops (.vd 4 (o_mov (.const (.int .i64 0))) (.vd 5 (o_mov (.const (.int .i64 4))) .nil)))
   .ret)
   .skip))
  (.seq (.ops (.vd 23 (o_mov (.tmp 0)) (.vd 24 (o_nilCheck (.tmp 23)) (.vd 25 (o_field 2 (.tmp 24)) (.vd 26 (o_load false 1 (.tmp 25)) (.vd 27 (o_mov (.tmp 1)) (.vd 28 (o_bin .quo (.tmp 27) (.const (.int .i64 2))) (.vd 29 (o_bin .add (.tmp 28) (.const (.int .i64 1))) (.cd 30 (fun F => c_call F 189 [(.tmp 26), (.tmp 29), (.const (.int .i64 1))]) (.vd 22 (o_mov (.tmp 30)) (.vd 31 (o_extract (.tmp 22) 0) (.vd 32 (o_extract (.tmp 22) 1) (.vd 6 (o_mov (.tmp 31)) (.vd 7 (o_mov (.tmp 32)) .nil))))))))))))))
  (.seq (.seq (.ops (.vd 33 (o_mov (.tmp 7)) (.vd 34 (o_bin .neq (.tmp 33) (.const (.int .i64 0))) (.vd 35 (o_mov (.tmp 34)) (.vg 36 35 false (o_mov (.tmp 1)) (.vg 37 35 false (o_mov (.tmp 6)) (.vg 38 35 false (o_bin .mul (.const (.int .i64 2)) (.tmp 37)) (.vg 39 35 false (o_mov (.tmp 0)) (.vg 40 35 false (o_mov (.tmp 6)) (.vg 41 35 false (o_bin .mul (.const (.int .i64 2)) (.tmp 40)) (.c (some 42) (some (35, false)) (fun F => c_call F 90 [(.tmp 39), (.tmp 41)]) (.vg 43 35 false (o_bin .add (.tmp 38) (.tmp 42)) (.vg 44 35 false (o_bin .geq (.tmp 36) (.tmp 43)) (.vd 45 (o_pick (.tmp 35) (.const (.bool true)) (.tmp 44)) .nil))))))))))))))
  (.cond (.tmp 45)
   (.seq (.ops (.vd 4 (o_mov (.const (.int .i64 0))) (.vd 5 (o_mov (.const (.int .i64 4))) .nil)))
   .ret)
   .skip))
  (.seq (.ops (.vd 46 (o_mov (.tmp 6)) (.vd 47 (o_bin .mul (.const (.int .i64 2)) (.tmp 46)) (.vd 4 (o_mov (.tmp 47)) (.vd 5 (o_mov (.const (.int .i64 0))) .nil)))))
  .ret))))))
def X131 : FnS := .code ⟨48, 0, .skip, [.tmp 4, .tmp 5]⟩ S131
theorem x131 : okX Go.Proofs.Tryz.prog 131 X131 := okX_of (by kernel_rfl)
def S133_1 : SCode := .seq (.ops (.vd 9 (o_bin .lss (.tmp 8) (.tmp 7)) .nil))
    (.seq (.cond (.tmp 9)
     .skip
     (.exit 0))
    (.seq (.block 1 (.seq (.ops (.vd 10 (o_mov (.tmp 8)) (.vd 5 (o_mov (.tmp 10)) .nil)))
     (.seq (.ops (.vd 11 (o_mov (.tmp 1)) (.vd 12 (o_mov (.tmp 0)) (.vd 13 (o_mov (.tmp 5)) (.vd 14 (o_index 1 (.tmp 12) (.tmp 13)) (.vd 15 (o_load false 1 (.tmp 14)) (.cd 16 (fun F => c_callm F (.tmp 11) [(.tmp 15)] [(267, "dustcart/alloc.place", 272), (268, "dustcart/alloc.place", 277), (269, "dustcart/alloc.place", 285), (270, "dustcart/alloc.place", 286), (271, "dustcart/alloc.place", 290)]) .nil)))))))
     (.cond (.tmp 16)
      (.seq (.ops (.vd 17 (o_mov (.tmp 5)) (.vd 4 (o_mov (.tmp 17)) .nil)))
      .ret)
      .skip))))
    (.ops (.vd 18 (o_bin .add (.tmp 8) (.const (.int .i64 1))) (.vd 8 (o_mov (.tmp 18)) .nil)))))
def S133 : SCode := (.seq (.ops (.vd 4 (o_mov (.const (.int .i64 0))) .nil))
  (.seq (.seq (.ops (.vd 6 (o_mov (.tmp 0)) (.vd 7 (o_len (.tmp 6)) (.vd 8 (o_mov (.const (.int .i64 0))) .nil))))
  (.block 0 (.loop S133_1)))
  (.seq (.ops (.vd 4 (o_mov (.const (.int .i64 (-1)))) .nil))
  .ret)))
def X133 : FnS := .code ⟨19, 0, .skip, [.tmp 4]⟩ S133
theorem x133 : okX Go.Proofs.Tryz.prog 133 X133 := okX_of (by kernel_rfl)
def S139 : SCode := (.seq (.ops (.vd 3 (o_mov (.const (.bool false))) .nil))
  (.seq (.ops (.vd 4 (o_mov (.tmp 0)) (.vd 5 (o_bin .neq (.tmp 4) (.const (.int .i64 0))) (.vd 6 (o_mov (.tmp 5)) (.vg 7 6 true (o_load false 1 (.tmp 1)) (.vg 8 6 true (o_mov (.tmp 0)) (.c (some 9) (some (6, true)) (fun F => c_call F 44 [(.tmp 7), (.tmp 8)]) (.vg 10 6 true (o_not (.tmp 9)) (.vd 11 (o_pick (.tmp 6) (.tmp 10) (.const (.bool false))) (.vd 3 (o_mov (.tmp 11)) .nil))))))))))
  .ret))
def X139 : FnS := .code ⟨12, 0, .skip, [.tmp 3]⟩ S139
theorem x139 : okX Go.Proofs.Tryz.prog 139 X139 := okX_of (by kernel_rfl)
def S140 : SCode := (.seq (.ops (.vd 4 (o_mov (.const (.bool false))) .nil))
  (.seq (.ops (.vd 5 (o_mov (.tmp 0)) (.vd 6 (o_mov (.tmp 1)) (.cd 7 (fun F => c_call F 133 [(.tmp 5), (.tmp 6)]) (.vd 8 (o_bin .geq (.tmp 7) (.const (.int .i64 0))) (.vd 4 (o_mov (.tmp 8)) .nil))))))
  .ret))
def X140 : FnS := .code ⟨9, 0, .skip, [.tmp 4]⟩ S140
theorem x140 : okX Go.Proofs.Tryz.prog 140 X140 := okX_of (by kernel_rfl)
def S141 : SCode := (.seq (.ops (.vd 2 (o_mov (.const (.nilSlice))) .nil))
  (.seq (.seq (.ops (.vd 6 (o_mov (.tmp 0)) (.cd 7 (fun F => c_call F 166 [(.tmp 6)]) (.vd 8 (o_not (.tmp 7)) .nil))))
  (.cond (.tmp 8)
   (.seq (.ops (.vd 2 (o_mov (.const (.nilSlice))) .nil))
   .ret)
   .skip))
  (.seq (.ops (.vd 3 (o_new [.nilSlice]) .nil))
  (.seq (.seq (.ops (.vd 9 (o_mov (.tmp 0)) (.cd 10 (fun F => c_call F 170 [(.tmp 9)]) .nil)))
  (.block 0 (.rangeF (.tmp 10) [11, 12] 26 4512)))
  (.seq (.ops (.vd 25 (o_load false 1 (.tmp 3)) (.vd 2 (o_mov (.tmp 25)) .nil)))
  .ret)))))
def X141 : FnS := .code ⟨26, 0, .skip, [.tmp 2]⟩ S141
theorem x141 : okX Go.Proofs.Tryz.prog 141 X141 := okX_of (by kernel_rfl)
def S1004512 : SCode := (.ops (.vd 5 (o_mov (.tmp 12)) .nil))
def X1004512 : FnS := .code ⟨26, 1, .skip, []⟩ S1004512
theorem x1004512 : okX Go.Proofs.Tryz.prog 1004512 X1004512 := okX_of (by kernel_rfl)
def S1004513 : SCode := (.block 1 (.seq (.dregion [⟨⟨some 13, none, .load false 1 (.tmp 3)⟩, 0, 1, 0⟩, ⟨⟨some 14, none, .mov (.tmp 5)⟩, 1, 0, 0⟩, ⟨⟨some 15, none, .nilCheck (.tmp 14)⟩, 2, 0, 0⟩, ⟨⟨some 16, none, .load false 1 (.tmp 15)⟩, 3, 1, 0⟩, ⟨⟨some 17, none, .call 28 [(.tmp 13), (.tmp 16)]⟩, 4, 3, 0⟩, ⟨⟨some 18, none, .not (.tmp 17)⟩, 5, 0, 1⟩])
   (.cond (.tmp 18)
    (.dregion [⟨⟨some 19, none, .load false 1 (.tmp 3)⟩, 0, 1, 0⟩, ⟨⟨some 20, none, .mov (.tmp 5)⟩, 1, 0, 0⟩, ⟨⟨some 21, none, .nilCheck (.tmp 20)⟩, 2, 0, 0⟩, ⟨⟨some 22, none, .load false 1 (.tmp 21)⟩, 3, 1, 0⟩, ⟨⟨some 23, none, .buildSlice 1 [.int .i64 0] 1 [(0, 1, (.tmp 22))]⟩, 4, 0, 0⟩, ⟨⟨some 24, none, .append 1 (.tmp 19) (.tmp 23)⟩, 5, 3, 0⟩, ⟨⟨none, none, .store 1 (.tmp 3) (.tmp 24)⟩, 6, 3, 1⟩])
    .skip)))
def X1004513 : FnS := .code ⟨26, 2, .skip, []⟩ S1004513
theorem x1004513 : okX Go.Proofs.Tryz.prog 1004513 X1004513 := okX_of (by kernel_rfl)
def S150 : SCode := (.seq (.ops (.vd 2 (o_mov (.const (.int .i64 0))) .nil))
  (.seq (.cond (.const (.bool false))
   (.seq (.ops (.vd 3 (o_mov (.tmp 0)) (.vd 4 (o_conv .u32 (.tmp 3)) (.cd 5 (fun F => c_call F 206 [(.tmp 4)]) (.vd 2 (o_mov (.tmp 5)) .nil)))))
   .ret)
   .skip)
  (.seq (.ops (.vd 6 (o_mov (.tmp 0)) (.cd 7 (fun F => c_call F 207 [(.tmp 6)]) (.vd 2 (o_mov (.tmp 7)) .nil))))
  .ret)))
def X150 : FnS := .code ⟨8, 0, .skip, [.tmp 2]⟩ S150
theorem x150 : okX Go.Proofs.Tryz.prog 150 X150 := okX_of (by kernel_rfl)
def S153 : SCode := (.seq (.ops (.vd 4 (o_mov (.const (.int .i64 0))) .nil))
  (.seq (.block 0 (.seq (.ops (.vd 6 (o_mov (.tmp 0)) (.cd 7 (fun F => c_call F 83 [(.tmp 6)]) (.vd 8 (o_not (.tmp 7)) (.vd 5 (o_mov (.tmp 8)) .nil)))))
   (.cond (.tmp 5)
    (.seq (.ops (.vd 4 (o_mov (.const (.int .i64 5))) .nil))
    .ret)
    (.seq (.ops (.vd 10 (o_mov (.tmp 0)) (.vd 11 (o_mov (.tmp 1)) (.cd 12 (fun F => c_call F 44 [(.tmp 10), (.tmp 11)]) (.vd 13 (o_not (.tmp 12)) (.vd 9 (o_mov (.tmp 13)) .nil))))))
    (.cond (.tmp 9)
     (.seq (.ops (.vd 4 (o_mov (.const (.int .i64 4))) .nil))
     .ret)
     .skip)))))
  (.seq (.ops (.vd 4 (o_mov (.const (.int .i64 0))) .nil))
  .ret)))
def X153 : FnS := .code ⟨14, 0, .skip, [.tmp 4]⟩ S153
theorem x153 : okX Go.Proofs.Tryz.prog 153 X153 := okX_of (by kernel_rfl)
def S154 : SCode := (.ops (.vd 6 (o_mov (.tmp 0)) (.vd 7 (o_nilCheck (.tmp 6)) (.vd 8 (o_field 1 (.tmp 7)) (.vd 9 (o_load false 1 (.tmp 8)) (.vd 10 (o_mov (.tmp 1)) (.vd 11 (o_mov (.tmp 1)) (.vd 12 (o_mov (.tmp 2)) (.vd 13 (o_bin .add (.tmp 11) (.tmp 12)) (.vd 14 (o_slice 1 (.tmp 9) (some (.tmp 10)) (some (.tmp 13)) none) (.v none none (o_clear [.int .i64 0] (.tmp 14)) .nil)))))))))))
def X154 : FnS := .code ⟨15, 0, .skip, []⟩ S154
theorem x154 : okX Go.Proofs.Tryz.prog 154 X154 := okX_of (by kernel_rfl)
def S158 : SCode := (.seq (.ops (.vd 4 (o_mov (.const (.bool false))) .nil))
  (.seq (.ops (.vd 5 (o_mov (.tmp 0)) (.cd 6 (fun F => c_call F 83 [(.tmp 5)]) (.vd 7 (o_mov (.tmp 6)) (.vg 8 7 true (o_mov (.tmp 1)) (.vg 9 7 true (o_bin .geq (.tmp 8) (.const (.int .i64 1))) (.vd 10 (o_pick (.tmp 7) (.tmp 9) (.const (.bool false))) (.vd 11 (o_mov (.tmp 10)) (.vg 12 11 true (o_mov (.tmp 1)) (.vg 13 11 true (o_mov (.tmp 0)) (.vg 14 11 true (o_nilCheck (.tmp 13)) (.vg 15 11 true (o_field 0 (.tmp 14)) (.vg 16 11 true (o_load false 1 (.tmp 15)) (.vg 17 11 true (o_len (.tmp 16)) (.vg 18 11 true (o_bin .lss (.tmp 12) (.tmp 17)) (.vd 19 (o_pick (.tmp 11) (.tmp 18) (.const (.bool false))) (.vd 4 (o_mov (.tmp 19)) .nil)))))))))))))))))
  .ret))
def X158 : FnS := .code ⟨20, 0, .skip, [.tmp 4]⟩ S158
theorem x158 : okX Go.Proofs.Tryz.prog 158 X158 := okX_of (by kernel_rfl)
def S159 : SCode := (.seq (.ops (.vd 2 (o_new [.int .i64 0, .int .i64 0, .int .i64 0]) .nil))
  (.seq (.ops (.vd 3 (o_mov (.tmp 0)) (.vd 4 (o_bin .rem (.tmp 3) (.const (.int .i64 16))) (.vd 5 (o_mov (.tmp 0)) (.vd 6 (o_bin .rem (.tmp 5) (.const (.int .i64 4096))) (.vd 7 (o_bin .quo (.tmp 6) (.const (.int .i64 16))) (.vd 8 (o_mov (.tmp 0)) (.vd 9 (o_bin .quo (.tmp 8) (.const (.int .i64 4096))) (.vd 10 (o_build [.int .i64 0, .int .i64 0, .int .i64 0] [(0, 1, (.tmp 4)), (1, 1, (.tmp 7)), (2, 1, (.tmp 9))]) (.v none none (o_store 3 (.tmp 2) (.tmp 10)) .nil))))))))))
  .ret))
def X159 : FnS := .code ⟨11, 0, .skip, [.cell 2 true 3]⟩ S159
theorem x159 : okX Go.Proofs.Tryz.prog 159 X159 := okX_of (by kernel_rfl)
def S160 : SCode := (.seq (.ops (.vd 2 (o_mov (.const (.bool false))) .nil))
  (.seq (.ops (.vd 3 (o_mov (.tmp 0)) (.vd 4 (o_bin .geq (.tmp 3) (.const (.int .i64 0))) (.vd 5 (o_mov (.tmp 4)) (.vg 6 5 true (o_mov (.tmp 0)) (.vg 7 5 true (o_bin .lss (.tmp 6) (.const (.int .i64 8))) (.vd 8 (o_pick (.tmp 5) (.tmp 7) (.const (.bool false))) (.vd 2 (o_mov (.tmp 8)) .nil))))))))
  .ret))
def X160 : FnS := .code ⟨9, 0, .skip, [.tmp 2]⟩ S160
theorem x160 : okX Go.Proofs.Tryz.prog 160 X160 := okX_of (by kernel_rfl)
def S161 : SCode := (.seq (.ops (.vd 4 (o_mov (.const (.bool false))) .nil))
  (.seq (.ops (.vd 5 (o_mov (.tmp 0)) (.vd 6 (o_mov (.tmp 1)) (.cd 7 (fun F => c_call F 210 [(.tmp 5), (.tmp 6)]) (.vd 8 (o_bin .geq (.tmp 7) (.const (.int .i64 0))) (.vd 4 (o_mov (.tmp 8)) .nil))))))
  .ret))
def X161 : FnS := .code ⟨9, 0, .skip, [.tmp 4]⟩ S161
theorem x161 : okX Go.Proofs.Tryz.prog 161 X161 := okX_of (by kernel_rfl)
def S162 : SCode := (.seq (.ops (.vd 1 (o_box (.tmp 0)) (.vd 2 (o_mov (.const (.bool false))) .nil)))
  (.seq (.ops (.vd 3 (o_load true 2 (.tmp 1)) (.vd 4 (o_build [.int .i64 0, .int .i64 0] []) (.vd 5 (o_eqs true 2 (.tmp 3) (.tmp 4)) (.vd 2 (o_mov (.tmp 5)) .nil)))))
  .ret))
def X162 : FnS := .code ⟨6, 0, .skip, [.tmp 2]⟩ S162
theorem x162 : okX Go.Proofs.Tryz.prog 162 X162 := okX_of (by kernel_rfl)
def S163_1 : SCode := .seq (.seq (.ops (.vd 6 (o_mov (.tmp 0)) (.vd 7 (o_nilCheck (.tmp 6)) (.vd 8 (o_field 0 (.tmp 7)) (.vd 9 (o_load false 1 (.tmp 8)) (.vd 10 (o_mov (.tmp 1)) (.vd 11 (o_index 2 (.tmp 9) (.tmp 10)) (.vd 12 (o_field 0 (.tmp 11)) (.vd 13 (o_load false 1 (.tmp 12)) (.vd 14 (o_bin .eql (.tmp 13) (.const (.int .i64 2))) (.vd 15 (o_mov (.tmp 14)) (.vg 16 15 true (o_mov (.tmp 1)) (.vg 17 15 true (o_mov (.tmp 5)) (.vg 18 15 true (o_bin .add (.tmp 16) (.tmp 17)) (.vg 19 15 true (o_mov (.tmp 0)) (.vg 20 15 true (o_nilCheck (.tmp 19)) (.vg 21 15 true (o_field 0 (.tmp 20)) (.vg 22 15 true (o_load false 1 (.tmp 21)) (.vg 23 15 true (o_len (.tmp 22)) (.vg 24 15 true (o_bin .lss (.tmp 18) (.tmp 23)) (.vd 25 (o_pick (.tmp 15) (.tmp 24) (.const (.bool false))) (.vd 26 (o_mov (.tmp 25)) (.vg 27 26 true (o_mov (.tmp 0)) (.vg 28 26 true (o_nilCheck (.tmp 27)) (.vg 29 26 true (o_field 0 (.tmp 28)) (.vg 30 26 true (o_load false 1 (.tmp 29)) (.vg 31 26 true (o_mov (.tmp 1)) (.vg 32 26 true (o_mov (.tmp 5)) (.vg 33 26 true (o_bin .add (.tmp 31) (.tmp 32)) (.vg 34 26 true (o_index 2 (.tmp 30) (.tmp 33)) (.vg 35 26 true (o_field 0 (.tmp 34)) (.vg 36 26 true (o_load false 1 (.tmp 35)) (.vg 37 26 true (o_bin .eql (.tmp 36) (.const (.int .i64 3))) (.vd 38 (o_pick (.tmp 26) (.tmp 37) (.const (.bool false))) .nil))))))))))))))))))))))))))))))))))
    (.cond (.tmp 38)
     .skip
     (.exit 0)))
    (.block 1 (.ops (.vd 39 (o_mov (.tmp 5)) (.vd 40 (o_bin .add (.tmp 39) (.const (.int .i64 1))) (.vd 5 (o_mov (.tmp 40)) .nil)))))
def S163 : SCode := (.seq (.ops (.vd 4 (o_mov (.const (.int .i64 0))) .nil))
  (.seq (.ops (.vd 5 (o_mov (.const (.int .i64 1))) .nil))
  (.seq (.block 0 (.loop S163_1))
  (.seq (.ops (.vd 41 (o_mov (.tmp 5)) (.vd 4 (o_mov (.tmp 41)) .nil)))
  .ret))))
def X163 : FnS := .code ⟨42, 0, .skip, [.tmp 4]⟩ S163
theorem x163 : okX Go.Proofs.Tryz.prog 163 X163 := okX_of (by kernel_rfl)
def S164 : SCode := (.seq (.ops (.vd 3 (o_box (.tmp 0)) (.vd 6 (o_mov (.const (.int .i64 0))) .nil)))
  (.seq (.block 0 (.seq (.ops (.vd 8 (o_load false 1 (.tmp 3)) (.cd 9 (fun F => c_call F 84 [(.tmp 8)]) (.vd 10 (o_not (.tmp 9)) (.vd 7 (o_mov (.tmp 10)) .nil)))))
   (.cond (.tmp 7)
    (.seq (.ops (.vd 6 (o_mov (.const (.int .i64 5))) .nil))
    .ret)
    (.seq (.ops (.vd 12 (o_load false 1 (.tmp 3)) (.vd 13 (o_mov (.tmp 1)) (.cd 14 (fun F => c_call F 168 [(.tmp 12), (.tmp 13)]) (.vd 15 (o_not (.tmp 14)) (.vd 16 (o_mov (.tmp 15)) (.vg 17 16 false (o_mov (.tmp 2)) (.vg 18 16 false (o_mkfunc 211 [(.tmp 3)]) (.c (some 19) (some (16, false)) (fun F => c_call F 140 [(.tmp 17), (.tmp 18)]) (.vd 20 (o_pick (.tmp 16) (.const (.bool true)) (.tmp 19)) (.vd 11 (o_mov (.tmp 20)) .nil)))))))))))
    (.cond (.tmp 11)
     (.seq (.ops (.vd 6 (o_mov (.const (.int .i64 1))) .nil))
     .ret)
     .skip)))))
  (.seq (.ops (.vd 6 (o_mov (.const (.int .i64 0))) .nil))
  .ret)))
def X164 : FnS := .code ⟨21, 0, .skip, [.tmp 6]⟩ S164
theorem x164 : okX Go.Proofs.Tryz.prog 164 X164 := okX_of (by kernel_rfl)
def S165 : SCode := (.seq (.ops (.vd 8 (o_mov (.tmp 1)) (.vd 9 (o_mov (.tmp 0)) (.vd 10 (o_nilCheck (.tmp 9)) (.vd 11 (o_field 1 (.tmp 10)) (.vd 12 (o_load false 1 (.tmp 11)) (.vd 13 (o_bin .mul (.tmp 8) (.tmp 12)) (.vd 6 (o_mov (.tmp 13)) .nil))))))))
  (.seq (.ops (.vd 14 (o_mov (.tmp 0)) (.vd 15 (o_nilCheck (.tmp 14)) (.vd 16 (o_field 2 (.tmp 15)) (.vd 17 (o_load false 1 (.tmp 16)) (.vd 18 (o_mov (.tmp 6)) (.vd 19 (o_bin .quo (.tmp 18) (.const (.int .i64 64))) (.vd 20 (o_index 1 (.tmp 17) (.tmp 19)) (.vd 7 (o_mov (.tmp 20)) .nil)))))))))
  (.dregion [⟨⟨some 25, none, .mov (.tmp 0)⟩, 4, 0, 0⟩, ⟨⟨some 26, none, .call 213 [(.tmp 25)]⟩, 5, 3, 0⟩, ⟨⟨some 21, none, .mov (.tmp 7)⟩, 0, 0, 0⟩, ⟨⟨some 22, none, .mov (.tmp 7)⟩, 1, 0, 0⟩, ⟨⟨some 23, none, .nilCheck (.tmp 22)⟩, 2, 0, 0⟩, ⟨⟨some 24, none, .load false 1 (.tmp 23)⟩, 3, 1, 0⟩, ⟨⟨some 27, none, .conv .u64 (.tmp 26)⟩, 6, 0, 1⟩, ⟨⟨some 28, none, .mov (.tmp 6)⟩, 7, 0, 0⟩, ⟨⟨some 29, none, .bin .rem (.tmp 28) (.const (.int .i64 64))⟩, 8, 0, 0⟩, ⟨⟨some 30, none, .shift .shl (.tmp 27) (.tmp 29)⟩, 9, 0, 1⟩, ⟨⟨some 31, none, .bin .andNot (.tmp 24) (.tmp 30)⟩, 10, 0, 1⟩, ⟨⟨some 32, none, .mov (.tmp 2)⟩, 11, 0, 0⟩, ⟨⟨some 33, none, .conv .u64 (.tmp 32)⟩, 12, 0, 0⟩, ⟨⟨some 34, none, .mov (.tmp 6)⟩, 13, 0, 0⟩, ⟨⟨some 35, none, .bin .rem (.tmp 34) (.const (.int .i64 64))⟩, 14, 0, 0⟩, ⟨⟨some 36, none, .shift .shl (.tmp 33) (.tmp 35)⟩, 15, 0, 0⟩, ⟨⟨some 37, none, .bin .or (.tmp 31) (.tmp 36)⟩, 16, 0, 1⟩, ⟨⟨some 38, none, .nilCheck (.tmp 21)⟩, 17, 0, 1⟩, ⟨⟨none, none, .store 1 (.tmp 38) (.tmp 37)⟩, 18, 3, 1⟩])))
def X165 : FnS := .code ⟨39, 0, .skip, []⟩ S165
theorem x165 : okX Go.Proofs.Tryz.prog 165 X165 := okX_of (by kernel_rfl)
def S166 : SCode := (.seq (.ops (.vd 2 (o_mov (.const (.bool false))) .nil))
  (.seq (.ops (.vd 3 (o_mov (.tmp 0)) (.vd 4 (o_eqv true 1 (.tmp 3) (.const (.nilPtr))) (.vd 5 (o_mov (.tmp 4)) (.vg 6 5 true (o_mov (.tmp 0)) (.vg 7 5 true (o_nilCheck (.tmp 6)) (.vg 8 5 true (o_field 0 (.tmp 7)) (.vg 9 5 true (o_load false 1 (.tmp 8)) (.vg 10 5 true (o_bin .gtr (.tmp 9) (.const (.int .i64 0))) (.vd 11 (o_pick (.tmp 5) (.tmp 10) (.const (.bool false))) (.vd 2 (o_mov (.tmp 11)) .nil)))))))))))
  .ret))
def X166 : FnS := .code ⟨12, 0, .skip, [.tmp 2]⟩ S166
theorem x166 : okX Go.Proofs.Tryz.prog 166 X166 := okX_of (by kernel_rfl)
def S167 : SCode := (.seq (.ops (.vd 3 (o_box (.tmp 1)) (.vd 4 (o_mov (.const (.nilPtr))) .nil)))
  (.seq (.ops (.vd 6 (o_mkfunc 214 [(.tmp 3)]) (.vd 5 (o_mov (.tmp 6)) .nil)))
  (.seq (.block 0 (.seq (.dregion [⟨⟨some 8, none, .field 0 (.tmp 3)⟩, 0, 0, 0⟩, ⟨⟨some 9, none, .load false 1 (.tmp 8)⟩, 1, 1, 0⟩, ⟨⟨some 10, none, .bin .eql (.tmp 9) (.const (.int .i64 0))⟩, 2, 0, 0⟩, ⟨⟨some 11, none, .mov (.tmp 10)⟩, 3, 0, 0⟩, ⟨⟨some 12, some (11, true), .field 1 (.tmp 3)⟩, 4, 0, 0⟩, ⟨⟨some 13, some (11, true), .load false 1 (.tmp 12)⟩, 5, 1, 0⟩, ⟨⟨some 14, some (11, true), .bin .geq (.tmp 13) (.const (.int .i64 0))⟩, 6, 0, 0⟩, ⟨⟨some 15, none, .pick (.tmp 11) (.tmp 14) (.const (.bool false))⟩, 7, 0, 0⟩, ⟨⟨some 16, none, .mov (.tmp 15)⟩, 8, 0, 0⟩, ⟨⟨some 17, some (16, true), .field 1 (.tmp 3)⟩, 9, 0, 0⟩, ⟨⟨some 18, some (16, true), .load false 1 (.tmp 17)⟩, 10, 1, 0⟩, ⟨⟨some 19, some (16, true), .mov (.tmp 0)⟩, 11, 0, 0⟩, ⟨⟨some 20, some (16, true), .nilCheck (.tmp 19)⟩, 12, 0, 0⟩, ⟨⟨some 21, some (16, true), .field 0 (.tmp 20)⟩, 13, 0, 0⟩, ⟨⟨some 22, some (16, true), .load false 1 (.tmp 21)⟩, 14, 1, 0⟩, ⟨⟨some 23, some (16, true), .bin .lss (.tmp 18) (.tmp 22)⟩, 15, 0, 0⟩, ⟨⟨some 24, none, .pick (.tmp 16) (.tmp 23) (.const (.bool false))⟩, 16, 0, 0⟩, ⟨⟨some 7, none, .mov (.tmp 24)⟩, 17, 0, 0⟩])
   (.cond (.tmp 7)
    (.seq (.dregion [⟨⟨some 25, none, .mov (.tmp 5)⟩, 0, 0, 0⟩, ⟨⟨some 26, none, .mov (.tmp 0)⟩, 1, 0, 0⟩, ⟨⟨some 27, none, .nilCheck (.tmp 26)⟩, 2, 0, 0⟩, ⟨⟨some 28, none, .field 1 (.tmp 27)⟩, 3, 0, 0⟩, ⟨⟨some 29, none, .load false 1 (.tmp 28)⟩, 4, 1, 0⟩, ⟨⟨some 30, none, .field 1 (.tmp 3)⟩, 5, 0, 0⟩, ⟨⟨some 31, none, .load false 1 (.tmp 30)⟩, 6, 1, 0⟩, ⟨⟨some 32, none, .bin .mul (.tmp 31) (.const (.int .i64 16))⟩, 7, 0, 0⟩, ⟨⟨some 33, none, .field 1 (.tmp 3)⟩, 8, 0, 0⟩, ⟨⟨some 34, none, .load false 1 (.tmp 33)⟩, 9, 1, 0⟩, ⟨⟨some 35, none, .bin .add (.tmp 34) (.const (.int .i64 1))⟩, 10, 0, 0⟩, ⟨⟨some 36, none, .bin .mul (.tmp 35) (.const (.int .i64 16))⟩, 11, 0, 0⟩, ⟨⟨some 37, none, .slice 1 (.tmp 29) (some (.tmp 32)) (some (.tmp 36)) none⟩, 12, 0, 0⟩, ⟨⟨some 38, none, .callm (.tmp 25) [(.tmp 37)] [(267, "dustcart/alloc.place", 272), (268, "dustcart/alloc.place", 277), (269, "dustcart/alloc.place", 285), (270, "dustcart/alloc.place", 286), (271, "dustcart/alloc.place", 290)]⟩, 13, 3, 0⟩, ⟨⟨some 4, none, .mov (.tmp 38)⟩, 14, 0, 1⟩])
    .ret)
    (.seq (.ops (.vd 40 (o_field 0 (.tmp 3)) (.vd 41 (o_load false 1 (.tmp 40)) (.vd 42 (o_bin .eql (.tmp 41) (.const (.int .i64 1))) (.vd 43 (o_mov (.tmp 42)) (.vg 44 43 true (o_field 1 (.tmp 3)) (.vg 45 43 true (o_load false 1 (.tmp 44)) (.vg 46 43 true (o_bin .eql (.tmp 45) (.const (.int .i64 0))) (.vd 47 (o_pick (.tmp 43) (.tmp 46) (.const (.bool false))) (.vd 39 (o_mov (.tmp 47)) .nil))))))))))
    (.cond (.tmp 39)
     (.seq (.ops (.vd 48 (o_mov (.tmp 5)) (.vd 49 (o_mov (.tmp 0)) (.vd 50 (o_nilCheck (.tmp 49)) (.vd 51 (o_field 2 (.tmp 50)) (.vd 52 (o_load false 1 (.tmp 51)) (.cd 53 (fun F => c_callm F (.tmp 48) [(.tmp 52)] [(267, "dustcart/alloc.place", 272), (268, "dustcart/alloc.place", 277), (269, "dustcart/alloc.place", 285), (270, "dustcart/alloc.place", 286), (271, "dustcart/alloc.place", 290)]) (.vd 4 (o_mov (.tmp 53)) .nil))))))))
     .ret)
     (.seq (.ops (.vd 55 (o_field 0 (.tmp 3)) (.vd 56 (o_load false 1 (.tmp 55)) (.vd 57 (o_bin .eql (.tmp 56) (.const (.int .i64 2))) (.vd 58 (o_mov (.tmp 57)) (.vg 59 58 true (o_field 1 (.tmp 3)) (.vg 60 58 true (o_load false 1 (.tmp 59)) (.vg 61 58 true (o_bin .eql (.tmp 60) (.const (.int .i64 0))) (.vd 62 (o_pick (.tmp 58) (.tmp 61) (.const (.bool false))) (.vd 54 (o_mov (.tmp 62)) .nil))))))))))
     (.cond (.tmp 54)
      (.seq (.ops (.vd 63 (o_mov (.tmp 5)) (.vd 64 (o_mov (.tmp 0)) (.vd 65 (o_nilCheck (.tmp 64)) (.vd 66 (o_field 3 (.tmp 65)) (.vd 67 (o_load false 1 (.tmp 66)) (.cd 68 (fun F => c_callm F (.tmp 63) [(.tmp 67)] [(267, "dustcart/alloc.place", 272), (268, "dustcart/alloc.place", 277), (269, "dustcart/alloc.place", 285), (270, "dustcart/alloc.place", 286), (271, "dustcart/alloc.place", 290)]) (.vd 4 (o_mov (.tmp 68)) .nil))))))))
      .ret)
      .skip)))))))
  (.seq (.ops (.vd 4 (o_mov (.const (.nilPtr))) .nil))
  .ret))))
def X167 : FnS := .code ⟨69, 0, .skip, [.tmp 4]⟩ S167
theorem x167 : okX Go.Proofs.Tryz.prog 167 X167 := okX_of (by kernel_rfl)
def S168 : SCode := (.seq (.ops (.vd 4 (o_mov (.const (.bool false))) .nil))
  (.seq (.ops (.vd 5 (o_mov (.tmp 0)) (.cd 6 (fun F => c_call F 84 [(.tmp 5)]) (.vd 7 (o_mov (.tmp 6)) (.vg 8 7 true (o_mov (.tmp 1)) (.vg 9 7 true (o_bin .geq (.tmp 8) (.const (.int .i64 0))) (.vd 10 (o_pick (.tmp 7) (.tmp 9) (.const (.bool false))) (.vd 11 (o_mov (.tmp 10)) (.vg 12 11 true (o_mov (.tmp 1)) (.vg 13 11 true (o_mov (.tmp 0)) (.vg 14 11 true (o_nilCheck (.tmp 13)) (.vg 15 11 true (o_field 0 (.tmp 14)) (.vg 16 11 true (o_load false 1 (.tmp 15)) (.vg 17 11 true (o_bin .lss (.tmp 12) (.tmp 16)) (.vd 18 (o_pick (.tmp 11) (.tmp 17) (.const (.bool false))) (.vd 4 (o_mov (.tmp 18)) .nil))))))))))))))))
  .ret))
def X168 : FnS := .code ⟨19, 0, .skip, [.tmp 4]⟩ S168
theorem x168 : okX Go.Proofs.Tryz.prog 168 X168 := okX_of (by kernel_rfl)
def S169 : SCode := (.seq (.ops (.vd 4 (o_mov (.const (.int .i64 0))) .nil))
  (.seq (.ops (.vd 6 (o_mov (.tmp 1)) (.vd 7 (o_mov (.tmp 0)) (.vd 8 (o_nilCheck (.tmp 7)) (.vd 9 (o_field 1 (.tmp 8)) (.vd 10 (o_load false 1 (.tmp 9)) (.vd 11 (o_bin .mul (.tmp 6) (.tmp 10)) (.vd 5 (o_mov (.tmp 11)) .nil))))))))
  (.seq (.dregion [⟨⟨some 24, none, .mov (.tmp 0)⟩, 12, 0, 0⟩, ⟨⟨some 25, none, .call 213 [(.tmp 24)]⟩, 13, 3, 0⟩, ⟨⟨some 12, none, .mov (.tmp 0)⟩, 0, 0, 0⟩, ⟨⟨some 13, none, .nilCheck (.tmp 12)⟩, 1, 0, 0⟩, ⟨⟨some 14, none, .field 2 (.tmp 13)⟩, 2, 0, 0⟩, ⟨⟨some 15, none, .load false 1 (.tmp 14)⟩, 3, 1, 0⟩, ⟨⟨some 16, none, .mov (.tmp 5)⟩, 4, 0, 0⟩, ⟨⟨some 17, none, .bin .quo (.tmp 16) (.const (.int .i64 64))⟩, 5, 0, 0⟩, ⟨⟨some 18, none, .index 1 (.tmp 15) (.tmp 17)⟩, 6, 0, 0⟩, ⟨⟨some 19, none, .load false 1 (.tmp 18)⟩, 7, 1, 0⟩, ⟨⟨some 20, none, .mov (.tmp 5)⟩, 8, 0, 0⟩, ⟨⟨some 21, none, .bin .rem (.tmp 20) (.const (.int .i64 64))⟩, 9, 0, 0⟩, ⟨⟨some 22, none, .shift .shr (.tmp 19) (.tmp 21)⟩, 10, 0, 0⟩, ⟨⟨some 23, none, .conv .i64 (.tmp 22)⟩, 11, 0, 0⟩, ⟨⟨some 26, none, .bin .and (.tmp 23) (.tmp 25)⟩, 14, 0, 1⟩, ⟨⟨some 4, none, .mov (.tmp 26)⟩, 15, 0, 1⟩])
  .ret)))
def X169 : FnS := .code ⟨27, 0, .skip, [.tmp 4]⟩ S169
theorem x169 : okX Go.Proofs.Tryz.prog 169 X169 := okX_of (by kernel_rfl)
def S170 : SCode := (.seq (.ops (.vd 1 (o_box (.tmp 0)) (.vd 2 (o_mov (.const (.nilFunc))) .nil)))
  (.seq (.ops (.vd 3 (o_mkfunc 215 [(.tmp 1)]) (.vd 2 (o_mov (.tmp 3)) .nil)))
  .ret))
def X170 : FnS := .code ⟨4, 0, .skip, [.tmp 2]⟩ S170
theorem x170 : okX Go.Proofs.Tryz.prog 170 X170 := okX_of (by kernel_rfl)
def S171 : SCode := (.seq (.ops (.vd 2 (o_mov (.const (.int .i64 0))) .nil))
  (.seq (.ops (.vd 3 (o_mov (.const (.int .i64 0))) .nil))
  (.seq (.seq (.ops (.vd 5 (o_mov (.tmp 0)) (.vd 6 (o_nilCheck (.tmp 5)) (.vd 7 (o_field 1 (.tmp 6)) (.vd 8 (o_load false 1 (.tmp 7)) (.vd 9 (o_bin .eql (.tmp 8) (.const (.int .i64 1))) .nil))))))
  (.cond (.tmp 9)
   (.ops (.vd 10 (o_mov (.tmp 0)) (.vd 11 (o_nilCheck (.tmp 10)) (.vd 12 (o_field 4 (.tmp 11)) (.vd 13 (o_load false 1 (.tmp 12)) (.vd 14 (o_len (.tmp 13)) (.vd 15 (o_bin .sub (.tmp 14) (.const (.int .i64 1))) (.vd 3 (o_mov (.tmp 15)) .nil))))))))
   .skip))
  (.seq (.ops (.vd 16 (o_mov (.tmp 0)) (.vd 17 (o_nilCheck (.tmp 16)) (.vd 18 (o_field 4 (.tmp 17)) (.vd 19 (o_load false 1 (.tmp 18)) (.vd 20 (o_mov (.tmp 3)) (.vd 21 (o_index 1 (.tmp 19) (.tmp 20)) (.vd 22 (o_load false 1 (.tmp 21)) (.vd 4 (o_mov (.tmp 22)) .nil)))))))))
  (.seq (.dregion [⟨⟨some 24, none, .mov (.tmp 0)⟩, 1, 0, 0⟩, ⟨⟨some 25, none, .nilCheck (.tmp 24)⟩, 2, 0, 0⟩, ⟨⟨some 26, none, .field 4 (.tmp 25)⟩, 3, 0, 0⟩, ⟨⟨some 27, none, .load false 1 (.tmp 26)⟩, 4, 1, 0⟩, ⟨⟨some 28, none, .mov (.tmp 3)⟩, 5, 0, 0⟩, ⟨⟨some 29, none, .mov (.tmp 3)⟩, 6, 0, 0⟩, ⟨⟨some 30, none, .slice 1 (.tmp 27) none (some (.tmp 28)) (some (.tmp 29))⟩, 7, 0, 0⟩, ⟨⟨some 31, none, .mov (.tmp 0)⟩, 8, 0, 0⟩, ⟨⟨some 32, none, .nilCheck (.tmp 31)⟩, 9, 0, 0⟩, ⟨⟨some 33, none, .field 4 (.tmp 32)⟩, 10, 0, 0⟩, ⟨⟨some 34, none, .load false 1 (.tmp 33)⟩, 11, 1, 0⟩, ⟨⟨some 35, none, .mov (.tmp 3)⟩, 12, 0, 0⟩, ⟨⟨some 36, none, .bin .add (.tmp 35) (.const (.int .i64 1))⟩, 13, 0, 0⟩, ⟨⟨some 37, none, .slice 1 (.tmp 34) (some (.tmp 36)) none none⟩, 14, 0, 0⟩, ⟨⟨some 38, none, .append 1 (.tmp 30) (.tmp 37)⟩, 15, 3, 0⟩, ⟨⟨some 23, none, .mov (.tmp 0)⟩, 0, 0, 0⟩, ⟨⟨some 39, none, .nilCheck (.tmp 23)⟩, 16, 0, 1⟩, ⟨⟨some 40, none, .field 4 (.tmp 39)⟩, 17, 0, 1⟩, ⟨⟨none, none, .store 1 (.tmp 40) (.tmp 38)⟩, 18, 3, 1⟩])
  (.seq (.ops (.vd 41 (o_mov (.tmp 4)) (.vd 2 (o_mov (.tmp 41)) .nil)))
  .ret))))))
def X171 : FnS := .code ⟨42, 0, .skip, [.tmp 2]⟩ S171
theorem x171 : okX Go.Proofs.Tryz.prog 171 X171 := okX_of (by kernel_rfl)
def S172 : SCode := (.seq (.ops (.vd 8 (o_mov (.const (.int .i64 0))) (.vd 9 (o_mov (.const (.int .i64 0))) .nil)))
  (.seq (.seq (.ops (.vd 14 (o_mov (.tmp 0)) (.vd 15 (o_mov (.tmp 1)) (.cd 16 (fun F => c_call F 153 [(.tmp 14), (.tmp 15)]) (.vd 10 (o_mov (.tmp 16)) .nil)))))
  (.seq (.ops (.vd 17 (o_mov (.tmp 10)) (.vd 18 (o_bin .neq (.tmp 17) (.const (.int .i64 0))) .nil)))
  (.cond (.tmp 18)
   (.seq (.ops (.vd 19 (o_mov (.tmp 10)) (.vd 8 (o_mov (.const (.int .i64 0))) (.vd 9 (o_mov (.tmp 19)) .nil))))
   .ret)
   .skip)))
  (.seq (.ops (.vd 20 (o_mov (.tmp 0)) (.vd 21 (o_nilCheck (.tmp 20)) (.vd 22 (o_field 1 (.tmp 21)) (.vd 23 (o_load false 1 (.tmp 22)) (.vd 24 (o_mov (.tmp 1)) (.vd 25 (o_bin .add (.tmp 24) (.const (.int .i64 1))) (.vd 26 (o_index 1 (.tmp 23) (.tmp 25)) (.vd 27 (o_load false 1 (.tmp 26)) (.cd 28 (fun F => c_call F 159 [(.tmp 27)]) (.vd 11 (o_new [.int .i64 0, .int .i64 0, .int .i64 0]) (.v none none (o_store 3 (.tmp 11) (.tmp 28)) .nil))))))))))))
  (.seq (.dregion [⟨⟨some 29, none, .mov (.tmp 1)⟩, 0, 0, 0⟩, ⟨⟨some 30, none, .bin .add (.tmp 29) (.const (.int .i64 2))⟩, 1, 0, 0⟩, ⟨⟨some 31, none, .field 0 (.tmp 11)⟩, 2, 0, 0⟩, ⟨⟨some 32, none, .load false 1 (.tmp 31)⟩, 3, 1, 0⟩, ⟨⟨some 12, none, .mov (.tmp 30)⟩, 4, 0, 0⟩, ⟨⟨some 13, none, .mov (.tmp 32)⟩, 5, 0, 0⟩])
  (.seq (.seq (.ops (.vd 33 (o_mov (.tmp 3)) .nil))
  (.cond (.tmp 33)
   (.dregion [⟨⟨some 34, none, .mov (.tmp 12)⟩, 0, 0, 0⟩, ⟨⟨some 35, none, .field 0 (.tmp 11)⟩, 1, 0, 0⟩, ⟨⟨some 36, none, .load false 1 (.tmp 35)⟩, 2, 1, 0⟩, ⟨⟨some 37, none, .bin .add (.tmp 34) (.tmp 36)⟩, 3, 0, 0⟩, ⟨⟨some 38, none, .field 1 (.tmp 11)⟩, 4, 0, 0⟩, ⟨⟨some 39, none, .load false 1 (.tmp 38)⟩, 5, 1, 0⟩, ⟨⟨some 12, none, .mov (.tmp 37)⟩, 6, 0, 0⟩, ⟨⟨some 13, none, .mov (.tmp 39)⟩, 7, 0, 0⟩])
   .skip))
  (.seq (.seq (.ops (.vd 40 (o_mov (.tmp 2)) (.vd 41 (o_bin .lss (.tmp 40) (.const (.int .i64 0))) (.vd 42 (o_mov (.tmp 41)) (.vg 43 42 false (o_mov (.tmp 2)) (.vg 44 42 false (o_mov (.tmp 13)) (.vg 45 42 false (o_bin .geq (.tmp 43) (.tmp 44)) (.vd 46 (o_pick (.tmp 42) (.const (.bool true)) (.tmp 45)) .nil))))))))
  (.cond (.tmp 46)
   (.seq (.ops (.vd 8 (o_mov (.const (.int .i64 0))) (.vd 9 (o_mov (.const (.int .i64 1))) .nil)))
   .ret)
   .skip))
  (.seq (.ops (.vd 47 (o_mov (.tmp 12)) (.vd 48 (o_mov (.tmp 2)) (.vd 49 (o_bin .add (.tmp 47) (.tmp 48)) (.vd 8 (o_mov (.tmp 49)) (.vd 9 (o_mov (.const (.int .i64 0))) .nil))))))
  .ret)))))))
def X172 : FnS := .code ⟨50, 0, .skip, [.tmp 8, .tmp 9]⟩ S172
theorem x172 : okX Go.Proofs.Tryz.prog 172 X172 := okX_of (by kernel_rfl)
def S173_1 : SCode := .block 1 (.seq (.ops (.vd 21 (o_mov (.tmp 2)) (.vd 22 (o_mov (.tmp 1)) (.vd 23 (o_bin .sub (.tmp 21) (.tmp 22)) (.vd 12 (o_mov (.tmp 23)) .nil)))))
     (.seq (.seq (.ops (.vd 24 (o_mov (.tmp 12)) (.vd 25 (o_bin .leq (.tmp 24) (.const (.int .i64 12))) .nil)))
     (.cond (.tmp 25)
      (.seq (.ops (.vd 26 (o_mov (.tmp 0)) (.vd 27 (o_mov (.tmp 1)) (.vd 28 (o_mov (.tmp 2)) (.vd 29 (o_mov (.tmp 4)) (.cd 30 (fun F => c_call F 216 [(.tmp 26), (.tmp 27), (.tmp 28), (.tmp 29)]) .nil))))))
      .ret)
      .skip))
     (.seq (.seq (.ops (.vd 31 (o_mov (.tmp 3)) (.vd 32 (o_bin .eql (.tmp 31) (.const (.int .i64 0))) .nil)))
     (.cond (.tmp 32)
      (.seq (.ops (.vd 33 (o_mov (.tmp 0)) (.vd 34 (o_mov (.tmp 1)) (.vd 35 (o_mov (.tmp 2)) (.vd 36 (o_mov (.tmp 4)) (.cd 37 (fun F => c_call F 217 [(.tmp 33), (.tmp 34), (.tmp 35), (.tmp 36)]) .nil))))))
      .ret)
      .skip))
     (.seq (.seq (.ops (.vd 38 (o_mov (.tmp 10)) (.vd 39 (o_not (.tmp 38)) .nil)))
     (.cond (.tmp 39)
      (.seq (.ops (.vd 40 (o_mov (.tmp 0)) (.vd 41 (o_mov (.tmp 1)) (.vd 42 (o_mov (.tmp 2)) (.vd 43 (o_mov (.tmp 4)) (.cd 44 (fun F => c_call F 218 [(.tmp 40), (.tmp 41), (.tmp 42), (.tmp 43)]) .nil))))))
      (.ops (.vd 45 (o_mov (.tmp 3)) (.vd 46 (o_bin .sub (.tmp 45) (.const (.int .i64 1))) (.vd 3 (o_mov (.tmp 46)) .nil)))))
      .skip))
     (.seq (.ops (.vd 48 (o_mov (.tmp 0)) (.vd 49 (o_mov (.tmp 1)) (.vd 50 (o_mov (.tmp 2)) (.vd 51 (o_mov (.tmp 4)) (.cd 52 (fun F => c_call F 219 [(.tmp 48), (.tmp 49), (.tmp 50), (.tmp 51)]) (.vd 47 (o_mov (.tmp 52)) (.vd 53 (o_extract (.tmp 47) 0) (.vd 54 (o_extract (.tmp 47) 1) (.vd 13 (o_mov (.tmp 53)) (.vd 14 (o_mov (.tmp 54)) .nil)))))))))))
     (.seq (.seq (.ops (.vd 55 (o_mov (.tmp 14)) (.vd 56 (o_bin .eql (.tmp 55) (.const (.int .i64 2))) .nil)))
     (.cond (.tmp 56)
      (.seq (.ops (.vd 57 (o_mov (.tmp 0)) (.vd 58 (o_mov (.tmp 1)) (.vd 59 (o_mov (.tmp 2)) (.vd 60 (o_mov (.tmp 4)) (.cd 61 (fun F => c_call F 220 [(.tmp 57), (.tmp 58), (.tmp 59), (.tmp 60)]) .nil))))))
      (.seq (.ops (.vd 62 (o_mov (.tmp 2)) (.vd 63 (o_bin .sub (.tmp 62) (.const (.int .i64 1))) (.vd 64 (o_mov (.tmp 13)) (.vd 65 (o_mov (.tmp 1)) (.vd 66 (o_bin .sub (.tmp 64) (.tmp 65)) (.vd 67 (o_bin .sub (.tmp 63) (.tmp 66)) (.vd 13 (o_mov (.tmp 67)) .nil))))))))
      (.ops (.vd 14 (o_mov (.const (.int .i64 1))) .nil))))
      .skip))
     (.seq (.seq (.ops (.vd 68 (o_mov (.tmp 10)) (.vd 69 (o_mov (.tmp 68)) (.vg 70 69 true (o_mov (.tmp 11)) (.vd 71 (o_pick (.tmp 69) (.tmp 70) (.const (.bool false))) (.vd 72 (o_mov (.tmp 71)) (.vg 73 72 true (o_mov (.tmp 14)) (.vg 74 72 true (o_bin .eql (.tmp 73) (.const (.int .i64 1))) (.vd 75 (o_pick (.tmp 72) (.tmp 74) (.const (.bool false))) .nil)))))))))
     (.cond (.tmp 75)
      (.seq (.ops (.vd 76 (o_mov (.tmp 0)) (.vd 77 (o_mov (.tmp 1)) (.vd 78 (o_mov (.tmp 2)) (.vd 79 (o_mov (.tmp 4)) (.cd 80 (fun F => c_call F 221 [(.tmp 76), (.tmp 77), (.tmp 78), (.tmp 79)]) .nil))))))
      (.cond (.tmp 80)
       .ret
       .skip))
      .skip))
     (.seq (.seq (.dregion [⟨⟨some 81, none, .mov (.tmp 1)⟩, 0, 0, 0⟩, ⟨⟨some 82, none, .bin .gtr (.tmp 81) (.const (.int .i64 0))⟩, 1, 0, 0⟩, ⟨⟨some 83, none, .mov (.tmp 82)⟩, 2, 0, 0⟩, ⟨⟨some 84, some (83, true), .mov (.tmp 4)⟩, 3, 0, 0⟩, ⟨⟨some 85, some (83, true), .mov (.tmp 0)⟩, 4, 0, 0⟩, ⟨⟨some 86, some (83, true), .mov (.tmp 1)⟩, 5, 0, 0⟩, ⟨⟨some 87, some (83, true), .bin .sub (.tmp 86) (.const (.int .i64 1))⟩, 6, 0, 0⟩, ⟨⟨some 88, some (83, true), .index 2 (.tmp 85) (.tmp 87)⟩, 7, 0, 0⟩, ⟨⟨some 89, some (83, true), .load true 2 (.tmp 88)⟩, 8, 1, 0⟩, ⟨⟨some 90, some (83, true), .mov (.tmp 0)⟩, 9, 0, 0⟩, ⟨⟨some 91, some (83, true), .mov (.tmp 13)⟩, 10, 0, 0⟩, ⟨⟨some 92, some (83, true), .index 2 (.tmp 90) (.tmp 91)⟩, 11, 0, 0⟩, ⟨⟨some 93, some (83, true), .load true 2 (.tmp 92)⟩, 12, 1, 0⟩, ⟨⟨some 94, some (83, true), .callm (.tmp 84) [(.tmp 89), (.tmp 93)] [(267, "dustcart/alloc.place", 272), (268, "dustcart/alloc.place", 277), (269, "dustcart/alloc.place", 285), (270, "dustcart/alloc.place", 286), (271, "dustcart/alloc.place", 290)]⟩, 13, 3, 0⟩, ⟨⟨some 95, some (83, true), .bin .lss (.tmp 94) (.const (.int .i64 0))⟩, 14, 0, 1⟩, ⟨⟨some 96, some (83, true), .not (.tmp 95)⟩, 15, 0, 1⟩, ⟨⟨some 97, none, .pick (.tmp 83) (.tmp 96) (.const (.bool false))⟩, 16, 0, 1⟩])
     (.cond (.tmp 97)
      (.seq (.ops (.vd 98 (o_mov (.tmp 0)) (.vd 99 (o_mov (.tmp 1)) (.vd 100 (o_mov (.tmp 2)) (.vd 101 (o_mov (.tmp 13)) (.vd 102 (o_mov (.tmp 4)) (.cd 103 (fun F => c_call F 222 [(.tmp 98), (.tmp 99), (.tmp 100), (.tmp 101), (.tmp 102)]) (.vd 15 (o_mov (.tmp 103)) .nil))))))))
      (.seq (.ops (.vd 104 (o_mov (.tmp 15)) (.vd 1 (o_mov (.tmp 104)) .nil)))
      (.exit 1)))
      .skip))
     (.seq (.ops (.vd 106 (o_mov (.tmp 0)) (.vd 107 (o_mov (.tmp 1)) (.vd 108 (o_mov (.tmp 2)) (.vd 109 (o_mov (.tmp 13)) (.vd 110 (o_mov (.tmp 4)) (.cd 111 (fun F => c_call F 223 [(.tmp 106), (.tmp 107), (.tmp 108), (.tmp 109), (.tmp 110)]) (.vd 105 (o_mov (.tmp 111)) (.vd 112 (o_extract (.tmp 105) 0) (.vd 113 (o_extract (.tmp 105) 1) (.vd 16 (o_mov (.tmp 112)) (.vd 17 (o_mov (.tmp 113)) .nil))))))))))))
     (.seq (.ops (.vd 114 (o_mov (.tmp 17)) (.vd 11 (o_mov (.tmp 114)) .nil)))
     (.seq (.ops (.vd 115 (o_mov (.tmp 16)) (.vd 116 (o_mov (.tmp 1)) (.vd 117 (o_bin .sub (.tmp 115) (.tmp 116)) (.vd 118 (o_mov (.tmp 2)) (.vd 119 (o_mov (.tmp 16)) (.vd 120 (o_bin .sub (.tmp 118) (.tmp 119)) (.vd 18 (o_mov (.tmp 117)) (.vd 19 (o_mov (.tmp 120)) .nil)))))))))
     (.seq (.ops (.vd 121 (o_mov (.tmp 12)) (.vd 122 (o_bin .quo (.tmp 121) (.const (.int .i64 8))) (.vd 20 (o_mov (.tmp 122)) .nil))))
     (.seq (.ops (.vd 123 (o_mov (.tmp 18)) (.vd 124 (o_mov (.tmp 19)) (.vd 125 (o_bin .lss (.tmp 123) (.tmp 124)) .nil))))
     (.cond (.tmp 125)
      (.seq (.ops (.vd 126 (o_mov (.tmp 18)) (.vd 127 (o_mov (.tmp 20)) (.vd 128 (o_bin .geq (.tmp 126) (.tmp 127)) (.vd 10 (o_mov (.tmp 128)) .nil)))))
      (.seq (.ops (.vd 129 (o_mov (.tmp 0)) (.vd 130 (o_mov (.tmp 1)) (.vd 131 (o_mov (.tmp 16)) (.vd 132 (o_mov (.tmp 3)) (.vd 133 (o_mov (.tmp 4)) (.cd 134 (fun F => c_call F 173 [(.tmp 129), (.tmp 130), (.tmp 131), (.tmp 132), (.tmp 133)]) .nil)))))))
      (.ops (.vd 135 (o_mov (.tmp 16)) (.vd 136 (o_bin .add (.tmp 135) (.const (.int .i64 1))) (.vd 1 (o_mov (.tmp 136)) .nil))))))
      (.seq (.ops (.vd 137 (o_mov (.tmp 19)) (.vd 138 (o_mov (.tmp 20)) (.vd 139 (o_bin .geq (.tmp 137) (.tmp 138)) (.vd 10 (o_mov (.tmp 139)) .nil)))))
      (.seq (.ops (.vd 140 (o_mov (.tmp 0)) (.vd 141 (o_mov (.tmp 16)) (.vd 142 (o_bin .add (.tmp 141) (.const (.int .i64 1))) (.vd 143 (o_mov (.tmp 2)) (.vd 144 (o_mov (.tmp 3)) (.vd 145 (o_mov (.tmp 4)) (.cd 146 (fun F => c_call F 173 [(.tmp 140), (.tmp 142), (.tmp 143), (.tmp 144), (.tmp 145)]) .nil))))))))
      (.ops (.vd 147 (o_mov (.tmp 16)) (.vd 2 (o_mov (.tmp 147)) .nil)))))))))))))))))))
def S173 : SCode := (.seq (.ops (.vd 10 (o_mov (.const (.bool true))) .nil))
  (.seq (.ops (.vd 11 (o_mov (.const (.bool true))) .nil))
  (.block 0 (.loop S173_1))))
def X173 : FnS := .code ⟨148, 0, .skip, []⟩ S173
theorem x173 : okX Go.Proofs.Tryz.prog 173 X173 := okX_of (by kernel_rfl)
def S174_1 : SCode := .seq (.seq (.ops (.vd 13 (o_mov (.tmp 7)) (.vd 14 (o_mov (.tmp 8)) (.vd 15 (o_bin .lss (.tmp 13) (.tmp 14)) .nil))))
    (.cond (.tmp 15)
     .skip
     (.exit 0)))
    (.block 1 (.seq (.ops (.vd 16 (o_mov (.tmp 7)) (.vd 17 (o_mov (.tmp 8)) (.vd 18 (o_bin .add (.tmp 16) (.tmp 17)) (.vd 19 (o_conv .u64 (.tmp 18)) (.vd 20 (o_shift .shr (.tmp 19) (.const (.int .u64 1))) (.vd 21 (o_conv .i64 (.tmp 20)) (.vd 9 (o_mov (.tmp 21)) .nil))))))))
     (.seq (.ops (.vd 22 (o_mov (.tmp 0)) (.vd 23 (o_mov (.tmp 9)) (.vd 24 (o_index 1 (.tmp 22) (.tmp 23)) (.vd 25 (o_load false 1 (.tmp 24)) (.vd 26 (o_mov (.tmp 1)) (.cd 27 (fun F => c_call F 203 [(.tmp 25), (.tmp 26)]) .nil)))))))
     (.cond (.tmp 27)
      (.ops (.vd 28 (o_mov (.tmp 9)) (.vd 29 (o_bin .add (.tmp 28) (.const (.int .i64 1))) (.vd 7 (o_mov (.tmp 29)) .nil))))
      (.ops (.vd 30 (o_mov (.tmp 9)) (.vd 8 (o_mov (.tmp 30)) .nil)))))))
def S174 : SCode := (.seq (.ops (.vd 4 (o_mov (.const (.int .i64 0))) (.vd 5 (o_mov (.const (.bool false))) .nil)))
  (.seq (.ops (.vd 10 (o_mov (.tmp 0)) (.vd 11 (o_len (.tmp 10)) (.vd 6 (o_mov (.tmp 11)) .nil))))
  (.seq (.ops (.vd 12 (o_mov (.tmp 6)) (.vd 7 (o_mov (.const (.int .i64 0))) (.vd 8 (o_mov (.tmp 12)) .nil))))
  (.seq (.block 0 (.loop S174_1))
  (.seq (.ops (.vd 31 (o_mov (.tmp 7)) (.vd 32 (o_mov (.tmp 7)) (.vd 33 (o_mov (.tmp 6)) (.vd 34 (o_bin .lss (.tmp 32) (.tmp 33)) (.vd 35 (o_mov (.tmp 34)) (.vg 36 35 true (o_mov (.tmp 0)) (.vg 37 35 true (o_mov (.tmp 7)) (.vg 38 35 true (o_index 1 (.tmp 36) (.tmp 37)) (.vg 39 35 true (o_load false 1 (.tmp 38)) (.vg 40 35 true (o_mov (.tmp 1)) (.vg 41 35 true (o_bin .eql (.tmp 39) (.tmp 40)) (.vg 42 35 true (o_mov (.tmp 41)) (.vg 43 42 false (o_mov (.tmp 0)) (.vg 44 42 false (o_mov (.tmp 7)) (.vg 45 42 false (o_index 1 (.tmp 43) (.tmp 44)) (.vg 46 42 false (o_load false 1 (.tmp 45)) (.c (some 47) (some (42, false)) (fun F => c_call F 224 [(.tmp 46)]) (.vg 48 42 false (o_mov (.tmp 47)) (.vg 49 48 true (o_mov (.tmp 1)) (.c (some 50) (some (48, true)) (fun F => c_call F 224 [(.tmp 49)]) (.vg 51 42 false (o_pick (.tmp 48) (.tmp 50) (.const (.bool false))) (.vg 52 35 true (o_pick (.tmp 42) (.const (.bool true)) (.tmp 51)) (.vd 53 (o_pick (.tmp 35) (.tmp 52) (.const (.bool false))) (.vd 4 (o_mov (.tmp 31)) (.vd 5 (o_mov (.tmp 53)) .nil))))))))))))))))))))))))))
  .ret)))))
def X174 : FnS := .code ⟨54, 0, .skip, [.tmp 4, .tmp 5]⟩ S174
theorem x174 : okX Go.Proofs.Tryz.prog 174 X174 := okX_of (by kernel_rfl)
def S175 : SCode := (.seq (.ops (.vd 6 (o_mov (.const (.int .i64 0))) .nil))
  (.seq (.block 0 (.seq (.ops (.vd 8 (o_mov (.tmp 0)) (.cd 9 (fun F => c_call F 83 [(.tmp 8)]) (.vd 10 (o_not (.tmp 9)) (.vd 7 (o_mov (.tmp 10)) .nil)))))
   (.cond (.tmp 7)
    (.seq (.ops (.vd 6 (o_mov (.const (.int .i64 5))) .nil))
    .ret)
    (.seq (.ops (.vd 12 (o_mov (.tmp 0)) (.vd 13 (o_mov (.tmp 1)) (.cd 14 (fun F => c_call F 158 [(.tmp 12), (.tmp 13)]) (.vd 15 (o_not (.tmp 14)) (.vd 16 (o_mov (.tmp 15)) (.vg 17 16 false (o_mov (.tmp 2)) (.vg 18 16 false (o_not (.tmp 17)) (.vd 19 (o_pick (.tmp 16) (.const (.bool true)) (.tmp 18)) (.vd 11 (o_mov (.tmp 19)) .nil))))))))))
    (.cond (.tmp 11)
     (.seq (.ops (.vd 6 (o_mov (.const (.int .i64 1))) .nil))
     .ret)
     (.seq (.ops (.vd 21 (o_mov (.tmp 0)) (.vd 22 (o_nilCheck (.tmp 21)) (.vd 23 (o_field 0 (.tmp 22)) (.vd 24 (o_load false 1 (.tmp 23)) (.vd 25 (o_mov (.tmp 1)) (.vd 26 (o_index 2 (.tmp 24) (.tmp 25)) (.vd 27 (o_field 0 (.tmp 26)) (.vd 28 (o_load false 1 (.tmp 27)) (.vd 29 (o_bin .neq (.tmp 28) (.const (.int .i64 1))) (.vd 30 (o_mov (.tmp 29)) (.vg 31 30 true (o_mov (.tmp 0)) (.vg 32 30 true (o_nilCheck (.tmp 31)) (.vg 33 30 true (o_field 0 (.tmp 32)) (.vg 34 30 true (o_load false 1 (.tmp 33)) (.vg 35 30 true (o_mov (.tmp 1)) (.vg 36 30 true (o_index 2 (.tmp 34) (.tmp 35)) (.vg 37 30 true (o_field 0 (.tmp 36)) (.vg 38 30 true (o_load false 1 (.tmp 37)) (.vg 39 30 true (o_bin .neq (.tmp 38) (.const (.int .i64 2))) (.vd 40 (o_pick (.tmp 30) (.tmp 39) (.const (.bool false))) (.vd 20 (o_mov (.tmp 40)) .nil))))))))))))))))))))))
     (.cond (.tmp 20)
      (.seq (.ops (.vd 6 (o_mov (.const (.int .i64 5))) .nil))
      .ret)
      .skip)))))))
  (.seq (.ops (.vd 6 (o_mov (.const (.int .i64 0))) .nil))
  .ret)))
def X175 : FnS := .code ⟨41, 0, .skip, [.tmp 6]⟩ S175
theorem x175 : okX Go.Proofs.Tryz.prog 175 X175 := okX_of (by kernel_rfl)
def S176 : SCode := (.seq (.ops (.vd 1 (o_box (.tmp 0)) (.vd 2 (o_mov (.const (.int .i64 0))) .nil)))
  (.seq (.ops (.vd 3 (o_field 0 (.tmp 1)) (.vd 4 (o_load false 1 (.tmp 3)) (.vd 5 (o_conv .i64 (.tmp 4)) (.vd 6 (o_bin .rem (.tmp 5) (.const (.int .i64 12))) (.vd 7 (o_bin .add (.const (.int .i64 2)) (.tmp 6)) (.vd 2 (o_mov (.tmp 7)) .nil)))))))
  .ret))
def X176 : FnS := .code ⟨8, 0, .skip, [.tmp 2]⟩ S176
theorem x176 : okX Go.Proofs.Tryz.prog 176 X176 := okX_of (by kernel_rfl)
def S177 : SCode := (.seq (.ops (.vd 1 (o_box (.tmp 0)) (.vd 2 (o_mov (.const (.int .i64 0))) .nil)))
  (.seq (.ops (.vd 3 (o_field 1 (.tmp 1)) (.vd 4 (o_load false 1 (.tmp 3)) (.vd 5 (o_conv .i64 (.tmp 4)) (.vd 6 (o_bin .rem (.tmp 5) (.const (.int .i64 3))) (.vd 7 (o_bin .add (.const (.int .i64 1)) (.tmp 6)) (.vd 2 (o_mov (.tmp 7)) .nil)))))))
  .ret))
def X177 : FnS := .code ⟨8, 0, .skip, [.tmp 2]⟩ S177
theorem x177 : okX Go.Proofs.Tryz.prog 177 X177 := okX_of (by kernel_rfl)
def S178_1 : SCode := .seq (.ops (.vd 16 (o_bin .lss (.tmp 15) (.tmp 14)) .nil))
    (.seq (.cond (.tmp 16)
     .skip
     (.exit 0))
    (.seq (.block 1 (.dregion [⟨⟨some 18, none, .mov (.tmp 4)⟩, 1, 0, 0⟩, ⟨⟨some 19, none, .nilCheck (.tmp 18)⟩, 2, 0, 0⟩, ⟨⟨some 20, none, .field 0 (.tmp 19)⟩, 3, 0, 0⟩, ⟨⟨some 21, none, .load false 1 (.tmp 20)⟩, 4, 1, 0⟩, ⟨⟨some 22, none, .makeSlice 1 [.int .i64 0] (.const (.int .i64 16)) (.const (.int .i64 16))⟩, 5, 0, 0⟩, ⟨⟨some 23, none, .buildSlice 1 [.nilSlice] 1 [(0, 1, (.tmp 22))]⟩, 6, 0, 0⟩, ⟨⟨some 24, none, .append 1 (.tmp 21) (.tmp 23)⟩, 7, 3, 0⟩, ⟨⟨some 17, none, .mov (.tmp 4)⟩, 0, 0, 0⟩, ⟨⟨some 25, none, .nilCheck (.tmp 17)⟩, 8, 0, 1⟩, ⟨⟨some 26, none, .field 0 (.tmp 25)⟩, 9, 0, 1⟩, ⟨⟨none, none, .store 1 (.tmp 26) (.tmp 24)⟩, 10, 3, 1⟩]))
    (.ops (.vd 27 (o_bin .add (.tmp 15) (.const (.int .i64 1))) (.vd 15 (o_mov (.tmp 27)) .nil)))))
def S178 : SCode := (.seq (.ops (.vd 2 (o_mov (.const (.nilPtr))) (.vd 3 (o_mov (.const (.int .i64 0))) .nil)))
  (.seq (.seq (.ops (.vd 5 (o_mov (.tmp 0)) (.vd 6 (o_bin .lss (.tmp 5) (.const (.int .i64 1))) (.vd 7 (o_mov (.tmp 6)) (.vg 8 7 false (o_mov (.tmp 0)) (.vg 9 7 false (o_bin .gtr (.tmp 8) (.const (.int .i64 4))) (.vd 10 (o_pick (.tmp 7) (.const (.bool true)) (.tmp 9)) .nil)))))))
  (.cond (.tmp 10)
   (.seq (.ops (.vd 2 (o_mov (.const (.nilPtr))) (.vd 3 (o_mov (.const (.int .i64 1))) .nil)))
   .ret)
   .skip))
  (.seq (.ops (.vd 11 (o_makeSlice 1 [.int .i64 0] (.const (.int .i64 16)) (.const (.int .i64 16))) (.vd 12 (o_build [.nilSlice, .nilSlice, .nilSlice, .nilSlice] [(1, 1, (.tmp 11))]) (.vd 13 (o_box (.tmp 12)) (.vd 4 (o_mov (.tmp 13)) .nil)))))
  (.seq (.seq (.ops (.vd 14 (o_mov (.tmp 0)) (.vd 15 (o_mov (.const (.int .i64 0))) .nil)))
  (.block 0 (.loop S178_1)))
  (.seq (.ops (.vd 28 (o_mov (.tmp 4)) (.vd 2 (o_mov (.tmp 28)) (.vd 3 (o_mov (.const (.int .i64 0))) .nil))))
  .ret)))))
def X178 : FnS := .code ⟨29, 0, .skip, [.tmp 2, .tmp 3]⟩ S178
theorem x178 : okX Go.Proofs.Tryz.prog 178 X178 := okX_of (by kernel_rfl)
end Go.Cs.Tryz
