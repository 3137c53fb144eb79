/- A part of the proof: ModelPlays returns true for every input: whatever is called, a model returns what the chapter says, and is in the state that it says. (Functions; at most 120 calls) Conditions: none. -/
import Derived.Test.YtnhblkjfpbhnnaaPlays0
import Derived.Carry
import Derived.Deep.Slices
import Derived.Test.YtnhblkjfpbhnnaaProg
import Derived.KernelRfl
set_option linter.unusedVariables false
set_option linter.unusedSimpArgs false
set_option linter.defProp false
/- Reasoning about the clean machine: its denotation as equations that a simplifier can walk. -/
namespace Go.Cs
open Go

section
variable {α : Type} {p : CProg} {F : CallF} {E : Env} {H : CHeap}

/-! ### Sequencing -/

/-- What stands behind such a word a simplifier leaves alone: later arguments hang on it. -/
structure Keep {β : Type} (b : β) : Type where

def sq (o : Option (CX × Env × CHeap)) (k : Env → CHeap → Option (CX × Env × CHeap)) (_ : Keep k) : Option (CX × Env × CHeap) :=
  o.bind fun r => match r.1 with | .normal => k r.2.1 r.2.2 | _ => some r

def opk (o : Option (CV × CHeap)) (k : CV → CHeap → Option α) (_ : Keep k) : Option α := o.bind fun q => k q.1 q.2

/-- Whether a guarded operation is carried out. -/
def gk (v : CV) (b : Bool) (x y : α) (_ : Keep (x, y)) : α := match v with | .bool c => if c = b then x else y | _ => y

/-- A test. -/
def ck (v : CV) (x y : Option α) (_ : Keep (x, y)) : Option α := match v with | .bool t => if t then x else y | _ => none

def seqOps (F : CallF) (l : List CStmt) (E : Env) (H : CHeap) (k : Env → CHeap → Option α) (_ : Keep (l, k)) : Option α := (evOps F l E H).bind fun q => k q.1 q.2

theorem seqOps_nil {k : Env → CHeap → Option α} {h : Keep (([] : List CStmt), k)} : seqOps F [] E H k h = k E H := rfl

theorem seqOps_cons {d : Option Nat} {op : COp} {r : List CStmt} {k : Env → CHeap → Option α} {h : Keep ((⟨d, none, op⟩ :: r : List CStmt), k)} : seqOps F (⟨d, none, op⟩ :: r) E H k h = opk (opc F op E H) (fun v H' => seqOps F r (E.put d v) H' k ⟨⟩) ⟨⟩ := by
  show (evOps F (⟨d, none, op⟩ :: r) E H).bind _ = _
  unfold evOps evStmt wanted opk
  simp only [if_true]
  cases opc F op E H <;> rfl

theorem seqOps_guard {d : Option Nat} {op : COp} {t : Nat} {b : Bool} {r : List CStmt} {k : Env → CHeap → Option α} {h : Keep ((⟨d, some (t, b), op⟩ :: r : List CStmt), k)} :
    seqOps F (⟨d, some (t, b), op⟩ :: r) E H k h = gk (E t) b (opk (opc F op E H) (fun v H' => seqOps F r (E.put d v) H' k ⟨⟩) ⟨⟩) (seqOps F r (E.put d .undef) H k ⟨⟩) ⟨⟩ := by
  show (evOps F (⟨d, some (t, b), op⟩ :: r) E H).bind _ = _
  unfold evOps evStmt wanted gk opk
  cases hE : E t <;> simp only [hE, Bool.false_eq_true, if_false, Option.bind_some] <;> try rfl
  rename_i c
  by_cases hc : c = b
  · simp only [hc, beq_self_eq_true, if_true]
    cases opc F op E H <;> rfl
  · have : (c == b) = false := by simpa using hc
    simp only [this, Bool.false_eq_true, if_false, hc, Option.bind_some]
    rfl

/-- Regions that draw their order. -/
noncomputable def seqD (F : CallF) (l : List DStmt) (E : Env) (H : CHeap) (hs : List CHeap) (k : Env → CHeap → Option α) (_ : Keep (l, k)) : Option α := (evD F l E H hs).bind fun q => k q.1 q.2

theorem evD_cons {d : DStmt} {r : List DStmt} {hs : List CHeap} : evD F (d :: r) E H hs = (open Classical in
    if wanted d.s.guard E = false then evD F r (E.put d.s.dst .undef) H (if d.kind = 3 then H :: hs else hs)
    else if d.kind = 3 then (opc F d.s.op E H).bind fun p => evD F r (E.put d.s.dst p.1) p.2 (H :: hs)
    else (mkOf d.s.op E H).bind fun m =>
      if d.kind = 1 → ∀ H' ∈ hs.take (hs.length - d.low), mkOf d.s.op E H' = some m then
        evD F r (E.put d.s.dst (made H m).1) (made H m).2 hs else none) := by rw [evD]

theorem seqD_nil {hs : List CHeap} {k : Env → CHeap → Option α} {h : Keep (([] : List DStmt), k)} : seqD F [] E H hs k h = k E H := rfl

/-- A condition that is to be shown. -/
noncomputable def must (c : Prop) (x : Option α) (_ : Keep x) : Option α := open Classical in if c then x else none

theorem must_true {x : Option α} {h : Keep x} : must True x h = x := by unfold must; exact if_pos trivial
theorem must_of {c : Prop} {x : Option α} {k : Keep x} (h : c) : must c x k = x := by unfold must; exact if_pos h

/-- The steady operations of such a region. -/
def mk1 (o : Option (Option Blk × (Nat → CV))) (k : (Option Blk × (Nat → CV)) → Option α) (_ : Keep k) : Option α := o.bind k
theorem mk1_some {m : Option Blk × (Nat → CV)} {k : (Option Blk × (Nat → CV)) → Option α} {h : Keep k} : mk1 (some m) k h = k m := rfl

theorem seqD_0 {d : Option Nat} {op : COp} {no low : Nat} {r : List DStmt} {hs : List CHeap} {k : Env → CHeap → Option α} {h : Keep ((⟨⟨d, none, op⟩, no, 0, low⟩ :: r : List DStmt), k)} :
    seqD F (⟨⟨d, none, op⟩, no, 0, low⟩ :: r) E H hs k h = mk1 (mkOf op E H) (fun m => seqD F r (E.put d (made H m).1) (made H m).2 hs k ⟨⟩) ⟨⟩ := by
  unfold seqD mk1
  rw [evD_cons]
  unfold wanted
  dsimp only
  rw [if_neg (by simp), if_neg (by simp)]
  cases mkOf op E H with
  | none => rfl
  | some m => simp only [Option.bind_some]; rw [if_pos (by intro h; simp at h)]

theorem seqD_1 {d : Option Nat} {op : COp} {no low : Nat} {r : List DStmt} {hs : List CHeap} {k : Env → CHeap → Option α} {h : Keep ((⟨⟨d, none, op⟩, no, 1, low⟩ :: r : List DStmt), k)} :
    seqD F (⟨⟨d, none, op⟩, no, 1, low⟩ :: r) E H hs k h = mk1 (mkOf op E H) (fun m => must (∀ H' ∈ hs.take (hs.length - low), mkOf op E H' = some m) (seqD F r (E.put d (made H m).1) (made H m).2 hs k ⟨⟩) ⟨⟩) ⟨⟩ := by
  unfold seqD mk1 must
  rw [evD_cons]
  unfold wanted
  dsimp only
  rw [if_neg (by simp), if_neg (by simp)]
  cases mkOf op E H with
  | none => rfl
  | some m =>
    simp only [Option.bind_some]
    by_cases hc : ∀ H' ∈ hs.take (hs.length - low), mkOf op E H' = some m
    · rw [if_pos (fun _ => hc), if_pos hc]
    · rw [if_neg (fun h => hc (h rfl)), if_neg hc]; rfl

theorem seqD_3 {d : Option Nat} {op : COp} {no low : Nat} {r : List DStmt} {hs : List CHeap} {k : Env → CHeap → Option α} {h : Keep ((⟨⟨d, none, op⟩, no, 3, low⟩ :: r : List DStmt), k)} :
    seqD F (⟨⟨d, none, op⟩, no, 3, low⟩ :: r) E H hs k h = opk (opc F op E H) (fun v H' => seqD F r (E.put d v) H' (H :: hs) k ⟨⟩) ⟨⟩ := by
  unfold seqD opk
  rw [evD_cons]
  unfold wanted
  dsimp only
  rw [if_neg (by simp), if_pos rfl]
  cases opc F op E H <;> rfl

theorem seqD_g {d : Option Nat} {op : COp} {no kind low t : Nat} {b : Bool} {r : List DStmt} {hs : List CHeap} {k : Env → CHeap → Option α} {h : Keep ((⟨⟨d, some (t, b), op⟩, no, kind, low⟩ :: r : List DStmt), k)} :
    seqD F (⟨⟨d, some (t, b), op⟩, no, kind, low⟩ :: r) E H hs k h = gk (E t) b (seqD F (⟨⟨d, none, op⟩, no, kind, low⟩ :: r) E H hs k ⟨⟩) (seqD F r (E.put d .undef) H (if kind = 3 then H :: hs else hs) k ⟨⟩) ⟨⟩ := by
  unfold seqD gk
  cases hE : E t <;> (rw [evD_cons]; simp only [wanted, hE, if_true])
  rename_i c
  by_cases hc : c = b
  · simp only [hc, beq_self_eq_true, if_true, Bool.true_eq_false, if_false]
    rw [evD_cons]
    simp only [wanted, Bool.true_eq_false, if_false]
  · have : (c == b) = false := by simpa using hc
    simp only [this, if_true, hc, if_false]

theorem den_skip : den p .skip E H = some (.normal, E, H) := by rw [den_eq]
theorem den_ret : den p .ret E H = some (.ret, E, H) := by rw [den_eq]
theorem den_exit {id : Nat} : den p (.exit id) E H = some (.exit id, E, H) := by rw [den_eq]
theorem den_region {ops : List CStmt} : den p (.region ops) E H = seqOps (run p) ops E H (fun E H => some (.normal, E, H)) ⟨⟩ := by
  rw [den_eq]
  unfold seqOps
  dsimp only
  cases evOps (run p) ops E H <;> rfl
theorem den_dregion {ops : List DStmt} : den p (.dregion ops) E H = seqD (run p) ops E H [] (fun E H => some (.normal, E, H)) ⟨⟩ := by
  rw [den_eq]
  unfold seqD
  dsimp only
  cases evD (run p) ops E H [] <;> rfl
theorem den_seq {a b : CCode} : den p (.seq a b) E H = sq (den p a E H) (fun E H => den p b E H) ⟨⟩ := by rw [den_eq]; rfl
theorem den_cond {c : Opd} {a b : CCode} : den p (.cond c a b) E H = ck (E.ev c) (den p a E H) (den p b E H) ⟨⟩ := by
  rw [den_eq]
  unfold ck
  dsimp only
  cases E.ev c <;> first | rfl | (rename_i t; cases t <;> rfl)
def blk (id : Nat) (o : Option (CX × Env × CHeap)) : Option (CX × Env × CHeap) := o.map fun r => (r.1.inBlock id, r.2)
theorem den_block {id : Nat} {c : CCode} : den p (.block id c) E H = blk id (den p c E H) := by rw [den_eq]; rfl
theorem den_loop {c : CCode} : den p (.loop c) E H = sq (den p c E H) (fun E H => den p (.loop c) E H) ⟨⟩ := by
  conv => lhs; rw [den_eq]
  rfl

theorem blk_normal {id : Nat} : blk id (some (.normal, E, H)) = some (.normal, E, H) := rfl
theorem blk_ret {id : Nat} : blk id (some (.ret, E, H)) = some (.ret, E, H) := rfl
theorem blk_exit {id i : Nat} : blk id (some (.exit i, E, H)) = some (if i = id then .normal else .exit i, E, H) := rfl
section
variable {k : Env → CHeap → Option (CX × Env × CHeap)} {h : Keep k}
theorem sq_normal : sq (some (.normal, E, H)) k h = k E H := rfl
theorem sq_ret : sq (some (.ret, E, H)) k h = some (.ret, E, H) := rfl
theorem sq_exit {i : Nat} : sq (some (.exit i, E, H)) k h = some (.exit i, E, H) := rfl
end
theorem opk_some {v : CV} {k : CV → CHeap → Option α} {h : Keep k} : opk (some (v, H)) k h = k v H := rfl
section
variable {x y : α} {h : Keep (x, y)}
theorem gk_tt : gk (.bool true) true x y h = x := rfl
theorem gk_tf : gk (.bool true) false x y h = y := rfl
theorem gk_ft : gk (.bool false) true x y h = y := rfl
theorem gk_ff : gk (.bool false) false x y h = x := rfl
theorem gk_tup {l : List CV} {b : Bool} : gk (.tup l) b x y h = y := rfl
end
section
variable {x y : Option α} {h : Keep (x, y)}
theorem ck_t : ck (.bool true) x y h = x := rfl
theorem ck_f : ck (.bool false) x y h = y := rfl
end

/-! ### Leaving a function -/

def lv (rs : List CRes) (o : Option (CX × Env × CHeap)) : Option (CV × CHeap) := o.bind fun r => leave ⟨.skip, rs⟩ r
theorem run_lv {f : Nat} {cf : CFunc} (hf : p f = some cf) (a : List CV) (H : CHeap) : run p f a H = lv cf.res (den p cf.body (entry a) H) := run_eq hf a H

def fin (rs : List CRes) (E : Env) (H : CHeap) : Option (CV × CHeap) := (resAll E H rs).map fun vs => ((match vs with | [v] => v | vs => .tup vs), H)
theorem lv_ret {rs : List CRes} : lv rs (some (.ret, E, H)) = fin rs E H := by
  unfold lv leave results fin
  simp only [Option.bind_some]
  cases resAll E H rs <;> rfl
theorem lv_normal {rs : List CRes} : lv rs (some (.normal, E, H)) = fin rs E H := by
  unfold lv leave results fin
  simp only [Option.bind_some]
  cases resAll E H rs <;> rfl
theorem fin_0 : fin [] E H = some (.tup [], H) := rfl
theorem fin_1 {t : Nat} : fin [.tmp t] E H = some (E t, H) := rfl
theorem fin_2 {t u : Nat} : fin [.tmp t, .tmp u] E H = some (.tup [E t, E u], H) := rfl
def rc (H : CHeap) (agg : Bool) (n : Nat) : CV → Option CV
  | .ptr b o => if agg then (loadN H b o n).map .agg else load1 H b o
  | _ => none
theorem fin_c {t n : Nat} {g : Bool} : fin [.cell t g n] E H = (rc H g n (E t)).map fun v => (v, H) := by
  unfold fin
  simp only [resAll, resOf, rc]
  cases E t <;> simp only [Option.bind_none, Option.map_none]
  split <;> first | (cases load1 _ _ _ <;> rfl) | (cases loadN _ _ _ _ <;> rfl)
theorem fin_ct {t n u : Nat} {g : Bool} : fin [.cell t g n, .tmp u] E H = (rc H g n (E t)).map fun v => (.tup [v, E u], H) := by
  unfold fin
  simp only [resAll, resOf, rc]
  cases E t <;> simp only [Option.bind_none, Option.map_none]
  split <;> first | (cases load1 _ _ _ <;> rfl) | (cases loadN _ _ _ _ <;> rfl)

/-! ### The temporaries -/

theorem put_some {d : Nat} {v : CV} : E.put (some d) v = E.upd d v := rfl
theorem put_none {v : CV} : E.put none v = E := rfl
theorem ev_tmp {t : Nat} : E.ev (.tmp t) = E t := rfl
theorem ev_const {v : CV} : E.ev (.const v) = v := rfl
theorem upd_apply {d t : Nat} {v : CV} : (E.upd d v) t = if t = d then v else E t := rfl
def base : Env := fun _ => .undef
theorem entry_0 : entry [] = base := rfl
theorem entry_1 {a : CV} : entry [a] = base.upd 0 a := by
  funext t; unfold entry Env.upd base
  match t with | 0 => rfl | t + 1 => simp [List.getD_eq_getElem?_getD]
theorem entry_2 {a b : CV} : entry [a, b] = (base.upd 0 a).upd 1 b := by
  funext t; unfold entry Env.upd base
  match t with | 0 => rfl | 1 => rfl | t + 2 => simp [List.getD_eq_getElem?_getD]
theorem entry_3 {a b c : CV} : entry [a, b, c] = ((base.upd 0 a).upd 1 b).upd 2 c := by
  funext t; unfold entry Env.upd base
  match t with | 0 => rfl | 1 => rfl | 2 => rfl | t + 3 => simp [List.getD_eq_getElem?_getD]
theorem entry_4 {a b c d : CV} : entry [a, b, c, d] = (((base.upd 0 a).upd 1 b).upd 2 c).upd 3 d := by
  funext t; unfold entry Env.upd base
  match t with | 0 => rfl | 1 => rfl | 2 => rfl | 3 => rfl | t + 4 => simp [List.getD_eq_getElem?_getD]
/-! ### Operations over values -/

def vPick (c a b : CV) (H : CHeap) : Option (CV × CHeap) := match c with | .bool t => some (if t then a else b, H) | _ => none
def vLoad (g : Bool) (n : Nat) (H : CHeap) : CV → Option (CV × CHeap)
  | .ptr b o => if g then (loadN H b o n).map fun cs => (.agg cs, H) else (load1 H b o).map fun v => (v, H)
  | _ => none
def vStore (n : Nat) (H : CHeap) (a v : CV) : Option (CV × CHeap) := match a with
  | .ptr b o => if (cellsOf v).length = n then (storeN H b o (cellsOf v)).map fun H' => (.undef, H') else none
  | _ => none
def vNil (H : CHeap) : CV → Option (CV × CHeap)
  | .ptr b o => some (.ptr b o, H)
  | _ => none
def vBin (op : BinOp) (x y : CV) (H : CHeap) : Option (CV × CHeap) := match x, y with
  | .int k a, .int k' b => if k = k' then (intOp op k a b).map fun v => (v, H) else none
  | _, _ => none
def vEqv (g : Bool) (ty : Nat) (x y : CV) (H : CHeap) : Option (CV × CHeap) := (eqVal ty x y).map fun t => (.bool (if g then !t else t), H)
def vEqs (g : Bool) (n : Nat) (x y : CV) (H : CHeap) : Option (CV × CHeap) := match x, y with
  | .agg xs, .agg ys => if xs.length = n then (eqCells xs ys).map fun t => (.bool (if g then !t else t), H) else none
  | _, _ => none
def vNot (x : CV) (H : CHeap) : Option (CV × CHeap) := match x with | .bool t => some (.bool !t, H) | _ => none
def vMake (esz : Nat) (z : List CV) (l c : CV) (H : CHeap) : Option (CV × CHeap) := match l, c with
  | .int .i64 l, .int .i64 c => if 0 ≤ l ∧ l ≤ c ∧ c ≤ (maxEls : Int) then some (.slice H.length 0 l.toNat c.toNat esz false, H ++ [⟨(List.replicate c.toNat z).flatten, .rw, esz⟩]) else none
  | _, _ => none
def vField (off : Nat) (H : CHeap) : CV → Option (CV × CHeap)
  | .ptr b o => some (.ptr b (o + off), H)
  | _ => none
def vIndex (esz : Nat) (x i : CV) (H : CHeap) : Option (CV × CHeap) := match x, i with
  | .slice b o len _ _ _, .int _ i => if 0 ≤ i ∧ i < (len : Int) then some (.ptr b (o + i.toNat * esz), H) else none
  | _, _ => none
def vExtract (x : CV) (i : Nat) (H : CHeap) : Option (CV × CHeap) := match x with | .tup vs => vs[i]?.map fun v => (v, H) | _ => none
def vLen (x : CV) (H : CHeap) : Option (CV × CHeap) := match x with
  | .slice _ _ len _ _ _ => some (.i len, H)
  | .nilSlice => some (.i 0, H)
  | _ => none
def vCallv (F : CallF) (g : CV) (args : List CV) (H : CHeap) : Option (CV × CHeap) := match g with
  | .func f caps => F f (args ++ caps) H
  | _ => none
def vBuild (o : Option (List CV)) (H : CHeap) : Option (CV × CHeap) := o.map fun cs => (.agg cs, H)
def vBuildS (o : Option (List CV)) (esz len : Nat) (H : CHeap) : Option (CV × CHeap) := o.map fun cs => (.slice H.length 0 len len esz false, H ++ [⟨cs, .rw, esz⟩])
def vSlice (o : Option CV) (H : CHeap) : Option (CV × CHeap) := o.map fun v => (v, H)
def vAppend (esz : Nat) (s : CV) (o : Option (Nat × List CV)) (H : CHeap) : Option (CV × CHeap) := o.bind fun q => appendTo H esz s q.1 q.2

theorem opc_mov {x : Opd} : opc F (.mov x) E H = some (E.ev x, H) := rfl
theorem opc_pick {c a b : Opd} : opc F (.pick c a b) E H = vPick (E.ev c) (E.ev a) (E.ev b) H := by
  simp only [opc, opv, mkOf, vPick] <;> cases E.ev c <;> rfl
theorem opc_new {cs : List CV} : opc F (.new cs) E H = some (.ptr H.length 0, H ++ [⟨cs, .rw, 0⟩]) := rfl
theorem opc_box {x : Opd} : opc F (.box x) E H = some (.ptr H.length 0, H ++ [⟨cellsOf (E.ev x), .rw, 0⟩]) := rfl
theorem opc_build {z : List CV} {ps : List (Nat × Nat × Opd)} : opc F (.build z ps) E H = vBuild (fill z (evParts E ps)) H := by
  simp only [opc, opv, mkOf, vBuild] <;> cases fill z (evParts E ps) <;> rfl
theorem opc_buildSlice {esz len : Nat} {z : List CV} {ps : List (Nat × Nat × Opd)} : opc F (.buildSlice esz z len ps) E H = vBuildS (fill z (evParts E ps)) esz len H := by
  simp only [opc, opv, mkOf, vBuildS] <;> cases fill z (evParts E ps) <;> rfl
theorem opc_load {g : Bool} {n : Nat} {a : Opd} : opc F (.load g n a) E H = vLoad g n H (E.ev a) := by
  simp only [opc, opv, mkOf, vLoad]
  cases E.ev a <;> first | rfl | skip
  rename_i b o
  cases g
  · simp only [Bool.false_eq_true, if_false]; cases load1 H b o <;> rfl
  · simp only [if_true]; cases loadN H b o n <;> rfl
theorem opc_store {n : Nat} {a v : Opd} : opc F (.store n a v) E H = vStore n H (E.ev a) (E.ev v) := rfl
theorem opc_nilCheck {x : Opd} : opc F (.nilCheck x) E H = vNil H (E.ev x) := by
  simp only [opc, opv, mkOf, vNil] <;> cases E.ev x <;> rfl
theorem opc_bin {op : BinOp} {x y : Opd} : opc F (.bin op x y) E H = vBin op (E.ev x) (E.ev y) H := by
  simp only [opc, opv, mkOf, vBin]
  cases E.ev x <;> cases E.ev y <;> first | rfl | skip
  rename_i k a k' b
  by_cases h : k = k'
  · simp only [h, if_true]; cases intOp op k' a b <;> rfl
  · simp only [h, if_false]; rfl
theorem opc_eqv {g : Bool} {ty : Nat} {x y : Opd} : opc F (.eqv g ty x y) E H = vEqv g ty (E.ev x) (E.ev y) H := by
  simp only [opc, opv, mkOf, vEqv] <;> cases eqVal ty (E.ev x) (E.ev y) <;> rfl
theorem opc_eqs {g : Bool} {n : Nat} {x y : Opd} : opc F (.eqs g n x y) E H = vEqs g n (E.ev x) (E.ev y) H := by
  simp only [opc, opv, mkOf, vEqs]
  cases E.ev x <;> cases E.ev y <;> first | rfl | skip
  rename_i xs ys
  dsimp only
  by_cases h : xs.length = n
  · rw [if_pos h, if_pos h]; cases eqCells xs ys <;> rfl
  · rw [if_neg h, if_neg h]; rfl
theorem opc_not {x : Opd} : opc F (.not x) E H = vNot (E.ev x) H := by
  simp only [opc, opv, mkOf, vNot] <;> cases E.ev x <;> rfl
theorem opc_mkfunc {f : Nat} {cs : List Opd} : opc F (.mkfunc f cs) E H = some (.func f (cs.map E.ev), H) := rfl
theorem opc_makeSlice {esz : Nat} {z : List CV} {l c : Opd} : opc F (.makeSlice esz z l c) E H = vMake esz z (E.ev l) (E.ev c) H := by
  show (mkOf (.makeSlice esz z l c) E H).map (made H) = _
  unfold mkOf vMake
  dsimp only
  generalize E.ev l = a
  generalize E.ev c = b
  cases a <;> try rfl
  rename_i k n
  cases k <;> try rfl
  cases b <;> try rfl
  rename_i k' n'
  cases k' <;> try rfl
  dsimp only
  by_cases h : 0 ≤ n ∧ n ≤ n' ∧ n' ≤ (maxEls : Int)
  · simp only [if_pos h]; rfl
  · simp only [if_neg h]; rfl
theorem opc_slice {esz : Nat} {x : Opd} {lo hi mx : Option Opd} : opc F (.slice esz x lo hi mx) E H = vSlice (sliceTo E esz (E.ev x) lo hi mx) H := by
  simp only [opc, opv, mkOf, vSlice] <;> cases sliceTo E esz (E.ev x) lo hi mx <;> rfl
theorem opc_field {off : Nat} {x : Opd} : opc F (.field off x) E H = vField off H (E.ev x) := by
  simp only [opc, opv, mkOf, vField] <;> cases E.ev x <;> rfl
theorem opc_index {esz : Nat} {x i : Opd} : opc F (.index esz x i) E H = vIndex esz (E.ev x) (E.ev i) H := by
  simp only [opc, opv, mkOf, vIndex]
  cases E.ev x <;> cases E.ev i <;> first | rfl | skip
  rename_i b o len cap ez tl k i
  dsimp only
  by_cases h : 0 ≤ i ∧ i < (len : Int)
  · rw [if_pos h, if_pos h]; rfl
  · rw [if_neg h, if_neg h]; rfl
theorem opc_extract {x : Opd} {i : Nat} : opc F (.extract x i) E H = vExtract (E.ev x) i H := by
  simp only [opc, opv, mkOf, vExtract]
  cases E.ev x <;> first | rfl | skip
  rename_i vs
  dsimp only
  cases vs[i]? <;> rfl
theorem opc_length {x : Opd} : opc F (.len x) E H = vLen (E.ev x) H := by
  simp only [opc, opv, mkOf, vLen] <;> cases E.ev x <;> rfl
theorem opc_append {esz : Nat} {s x : Opd} : opc F (.append esz s x) E H = vAppend esz (E.ev s) (elems H esz (E.ev x)) H := rfl
theorem opc_call {f : Nat} {l : List Opd} : opc F (.call f l) E H = F f (l.map E.ev) H := rfl
theorem opc_callv {g : Opd} {l : List Opd} : opc F (.callv g l) E H = vCallv F (E.ev g) (l.map E.ev) H := by
  simp only [opc, vCallv] <;> cases E.ev g <;> rfl

end
end Go.Cs

/- The heap, and the rules of a walk in one bundle. -/
namespace Go.Cs
open Go

section
variable {α : Type} {p : CProg} {F : CallF} {E : Env} {H : CHeap}

def ld (x : Option Blk) (o : Nat) : Option CV := match x with
  | some k => if k.mode = .dead then none else k.cells[o]?
  | none => none
def ldN (x : Option Blk) (o n : Nat) : Option (List CV) := match x with
  | some k => if k.mode = .dead then none else if o + n ≤ k.cells.length then some ((k.cells.drop o).take n) else none
  | none => none
def stN (H : CHeap) (b : Nat) (x : Option Blk) (o : Nat) (vs : List CV) : Option CHeap := match x with
  | some k => if k.mode = .rw ∧ o + vs.length ≤ k.cells.length ∧ vs.all leaf = true then some (H.set b { k with cells := splice k.cells o vs }) else none
  | none => none

theorem load1_ld {b o : Nat} : load1 H b o = ld H[b]? o := rfl
theorem loadN_ldN {b o n : Nat} : loadN H b o n = ldN H[b]? o n := rfl
theorem storeN_stN {b o : Nat} {vs : List CV} : storeN H b o vs = stN H b H[b]? o vs := rfl
theorem ld_rw {cs : List CV} {e o : Nat} : ld (some ⟨cs, .rw, e⟩) o = cs[o]? := rfl
theorem ld_ro {cs : List CV} {e o : Nat} : ld (some ⟨cs, .ro, e⟩) o = cs[o]? := rfl
theorem ldN_rw {cs : List CV} {e o n : Nat} : ldN (some ⟨cs, .rw, e⟩) o n = if o + n ≤ cs.length then some ((cs.drop o).take n) else none := rfl
theorem ldN_ro {cs : List CV} {e o n : Nat} : ldN (some ⟨cs, .ro, e⟩) o n = if o + n ≤ cs.length then some ((cs.drop o).take n) else none := rfl
theorem stN_1 {cs : List CV} {b e o : Nat} {v : CV} (hv : leaf v = true) (h : o < cs.length) : stN H b (some ⟨cs, .rw, e⟩) o [v] = some (H.set b ⟨cs.set o v, .rw, e⟩) := by
  unfold stN
  have hs : splice cs o [v] = cs.set o v := by
    unfold splice
    rw [List.set_eq_take_append_cons_drop]
    simp [h]
  simp only [List.length_singleton, List.all_cons, List.all_nil, hv, Bool.and_true, true_and, and_true, hs]
  rw [if_pos (by omega)]

/-! ### What a value is worth in an operation -/

theorem vPick_b {t : Bool} {a b : CV} : vPick (.bool t) a b H = some (if t then a else b, H) := rfl
theorem vLoad_1 {n b o : Nat} : vLoad false n H (.ptr b o) = (load1 H b o).map fun v => (v, H) := rfl
theorem vLoad_n {n b o : Nat} : vLoad true n H (.ptr b o) = (loadN H b o n).map fun cs => (.agg cs, H) := rfl
theorem vStore_p {n b o : Nat} {v : CV} : vStore n H (.ptr b o) v = if (cellsOf v).length = n then (storeN H b o (cellsOf v)).map fun H' => (.undef, H') else none := rfl
theorem vNil_p {b o : Nat} : vNil H (.ptr b o) = some (.ptr b o, H) := rfl
theorem vBin_add {k : IntKind} {a b : Int} : vBin .add (.int k a) (.int k b) H = some (.int k (k.wrap (a + b)), H) := by simp [vBin, intOp]
theorem vBin_sub {k : IntKind} {a b : Int} : vBin .sub (.int k a) (.int k b) H = some (.int k (k.wrap (a - b)), H) := by simp [vBin, intOp]
theorem vBin_mul {k : IntKind} {a b : Int} : vBin .mul (.int k a) (.int k b) H = some (.int k (k.wrap (a * b)), H) := by simp [vBin, intOp]
theorem vBin_eql {k : IntKind} {a b : Int} : vBin .eql (.int k a) (.int k b) H = some (.bool (a == b), H) := by simp [vBin, intOp]
theorem vBin_neq {k : IntKind} {a b : Int} : vBin .neq (.int k a) (.int k b) H = some (.bool (a != b), H) := by simp [vBin, intOp]
theorem vBin_lss {k : IntKind} {a b : Int} : vBin .lss (.int k a) (.int k b) H = some (.bool (decide (a < b)), H) := by simp [vBin, intOp]
theorem vBin_leq {k : IntKind} {a b : Int} : vBin .leq (.int k a) (.int k b) H = some (.bool (decide (a ≤ b)), H) := by simp [vBin, intOp]
theorem vBin_gtr {k : IntKind} {a b : Int} : vBin .gtr (.int k a) (.int k b) H = some (.bool (decide (b < a)), H) := by simp [vBin, intOp]
theorem vBin_geq {k : IntKind} {a b : Int} : vBin .geq (.int k a) (.int k b) H = some (.bool (decide (b ≤ a)), H) := by simp [vBin, intOp]
theorem vEqv_bb {g a b : Bool} : vEqv g 0 (.bool a) (.bool b) H = some (.bool (if g then !(a == b) else a == b), H) := rfl
theorem vEqv_nn {g : Bool} : vEqv g 1 .nilPtr .nilPtr H = some (.bool (if g then false else true), H) := by cases g <;> rfl
theorem vEqv_np {g : Bool} {b o : Nat} : vEqv g 1 .nilPtr (.ptr b o) H = some (.bool (if g then true else false), H) := by cases g <;> rfl
theorem vEqv_pn {g : Bool} {b o : Nat} : vEqv g 1 (.ptr b o) .nilPtr H = some (.bool (if g then true else false), H) := by cases g <;> rfl
theorem vNot_b {t : Bool} : vNot (.bool t) H = some (.bool !t, H) := rfl
theorem vField_p {off b o : Nat} : vField off H (.ptr b o) = some (.ptr b (o + off), H) := rfl
theorem vIndex_s {e b o len cap z : Nat} {t : Bool} {k : IntKind} {i : Int} : vIndex e (.slice b o len cap z t) (.int k i) H = if 0 ≤ i ∧ i < (len : Int) then some (.ptr b (o + i.toNat * e), H) else none := rfl
theorem vExtract_t {vs : List CV} {i : Nat} : vExtract (.tup vs) i H = vs[i]?.map fun v => (v, H) := rfl
theorem vLen_s {b o len cap z : Nat} {t : Bool} : vLen (.slice b o len cap z t) H = some (.i len, H) := rfl
theorem vLen_n : vLen .nilSlice H = some (.i 0, H) := rfl
theorem vCallv_f {f : Nat} {caps args : List CV} : vCallv F (.func f caps) args H = F f (args ++ caps) H := rfl
theorem vBuild_s {cs : List CV} : vBuild (some cs) H = some (.agg cs, H) := rfl
theorem vBuildS_s {cs : List CV} {e len : Nat} : vBuildS (some cs) e len H = some (.slice H.length 0 len len e false, H ++ [⟨cs, .rw, e⟩]) := rfl
theorem vSlice_s {v : CV} : vSlice (some v) H = some (v, H) := rfl
theorem vAppend_s {e n : Nat} {s : CV} {new : List CV} : vAppend e s (some (n, new)) H = appendTo H e s n new := rfl
theorem rc_1 {n b o : Nat} : rc H false n (.ptr b o) = load1 H b o := rfl
theorem rc_n {n b o : Nat} : rc H true n (.ptr b o) = (loadN H b o n).map .agg := rfl
theorem wrap_id {n : Int} (h : -9223372036854775808 ≤ n ∧ n ≤ 9223372036854775807) : IntKind.i64.wrap n = n := by
  by_cases h0 : 0 ≤ n
  · have e : n % (2 ^ 64 : Int) = n := by omega
    simp only [IntKind.wrap, IntKind.bits, IntKind.signed, e]
    split
    · rename_i hc; simp only [Bool.and_eq_true, decide_eq_true_eq, true_and] at hc; omega
    · rfl
  · have e : n % (2 ^ 64 : Int) = n + 18446744073709551616 := by omega
    simp only [IntKind.wrap, IntKind.bits, IntKind.signed, e]
    split
    · omega
    · rename_i hc; simp only [Bool.and_eq_true, decide_eq_true_eq, true_and] at hc; omega

end

/-! The rules of a walk, in bundles. -/
def csA := And.intro @den_skip <| And.intro @den_ret <| And.intro @den_exit <| And.intro @den_region <| And.intro @den_dregion <| And.intro @den_seq <| And.intro @den_cond <| And.intro @den_block <| And.intro @blk_normal <| And.intro @blk_ret <| And.intro @blk_exit <| And.intro @sq_normal <| And.intro @sq_ret <| And.intro @sq_exit <| And.intro @opk_some <| And.intro @gk_tt <| And.intro @gk_tf <| And.intro @gk_ft <| And.intro @gk_ff <| And.intro @gk_tup <| And.intro @ck_t <| And.intro @ck_f <| And.intro @lv_ret <| And.intro @lv_normal <| And.intro @fin_0 <| And.intro @fin_1 <| And.intro @fin_2 <| And.intro @fin_c <| And.intro @fin_ct <| And.intro @put_some <| And.intro @put_none <| And.intro @ev_tmp <| And.intro @ev_const @upd_apply
def csB := And.intro @seqOps_nil <| And.intro @seqOps_cons <| And.intro @seqOps_guard <| And.intro @opc_mov <| And.intro @opc_pick <| And.intro @opc_new <| And.intro @opc_box <| And.intro @opc_build <| And.intro @opc_buildSlice <| And.intro @opc_load <| And.intro @opc_store <| And.intro @opc_nilCheck <| And.intro @opc_bin <| And.intro @opc_eqv <| And.intro @opc_eqs <| And.intro @opc_not <| And.intro @opc_mkfunc <| And.intro @opc_makeSlice <| And.intro @opc_slice <| And.intro @opc_field <| And.intro @opc_index <| And.intro @opc_extract <| And.intro @opc_length <| And.intro @opc_append <| And.intro @opc_call @opc_callv
def csV := And.intro @vPick_b <| And.intro @vLoad_1 <| And.intro @vLoad_n <| And.intro @vNil_p <| And.intro @vBin_add <| And.intro @vBin_sub <| And.intro @vBin_mul <| And.intro @vBin_eql <| And.intro @vBin_neq <| And.intro @vBin_lss <| And.intro @vBin_leq <| And.intro @vBin_gtr <| And.intro @vBin_geq <| And.intro @vEqv_bb <| And.intro @vEqv_nn <| And.intro @vEqv_np <| And.intro @vEqv_pn <| And.intro @vNot_b <| And.intro @vField_p <| And.intro @vExtract_t <| And.intro @vLen_s <| And.intro @vLen_n <| And.intro @vCallv_f <| And.intro @vBuild_s <| And.intro @vBuildS_s <| And.intro @vSlice_s <| And.intro @vAppend_s <| And.intro @rc_1 <| And.intro @rc_n <| And.intro @load1_ld <| And.intro @loadN_ldN <| And.intro @storeN_stN <| And.intro @ld_rw @ld_ro
end Go.Cs

/- Conditional rules of a walk: comparisons, indices, lookups in heaps that grew. -/
namespace Go.Cs
open Go

theorem lt_of_get {α : Type} {l : List α} {i : Nat} {k : α} (h : l[i]? = some k) : i < l.length := by
  obtain ⟨h, _⟩ := List.getElem?_eq_some_iff.1 h; exact h

section
variable {F : CallF} {H : CHeap}
theorem dlt_t {a b : Int} (h : a < b) : decide (a < b) = true := decide_eq_true h
theorem dlt_f {a b : Int} (h : b ≤ a) : decide (a < b) = false := decide_eq_false (by omega)
theorem dle_t {a b : Int} (h : a ≤ b) : decide (a ≤ b) = true := decide_eq_true h
theorem dle_f {a b : Int} (h : b < a) : decide (a ≤ b) = false := decide_eq_false (by omega)
theorem beq_t {a b : Int} (h : a = b) : (a == b) = true := by simp [h]
theorem beq_f {a b : Int} (h : a ≠ b) : (a == b) = false := by simp [h]
theorem bne_t {a b : Int} (h : a ≠ b) : (a != b) = true := by simp [h]
theorem bne_f {a b : Int} (h : a = b) : (a != b) = false := by simp [h]
theorem vIndex_ok {e b o len cap z : Nat} {t : Bool} {k : IntKind} {i : Int} (h : 0 ≤ i ∧ i < (len : Int)) : vIndex e (.slice b o len cap z t) (.int k i) H = some (.ptr b (o + i.toNat * e), H) := by
  rw [vIndex_s, if_pos h]
theorem vMake_ok {esz : Nat} {z : List CV} {l c : Int} (h : 0 ≤ l ∧ l ≤ c ∧ c ≤ 16777216) : vMake esz z (.i l) (.i c) H = some (.slice H.length 0 l.toNat c.toNat esz false, H ++ [⟨(List.replicate c.toNat z).flatten, .rw, esz⟩]) := by
  show (if 0 ≤ l ∧ l ≤ c ∧ c ≤ 16777216 then _ else _) = _; rw [if_pos h]
theorem look_last {l : CHeap} {a : Blk} {i : Nat} (h : i = l.length) : (l ++ [a])[i]? = some a := by subst h; simp
theorem look_lt {l : CHeap} {a : Blk} {i : Nat} (h : i < l.length) : (l ++ [a])[i]? = l[i]? := by rw [List.getElem?_append_left h]
theorem look_set_ne {l : CHeap} {x : Blk} {c i : Nat} (h : c ≠ i) : (l.set c x)[i]? = l[i]? := by rw [List.getElem?_set_ne h]
theorem look_set_eq {l : CHeap} {x : Blk} {c i : Nat} (h : c = i ∧ c < l.length) : (l.set c x)[i]? = some x := by
  obtain ⟨rfl, h⟩ := h; rw [List.getElem?_set_self h]
theorem set_last {l : CHeap} {a x : Blk} {i : Nat} (h : i = l.length) : (l ++ [a]).set i x = l ++ [x] := by
  subst h; rw [List.set_append_right _ _ (Nat.le_refl _)]; simp
theorem set_lt {l : CHeap} {a x : Blk} {i : Nat} (h : i < l.length) : (l ++ [a]).set i x = l.set i x ++ [a] := by rw [List.set_append_left _ _ h]
theorem stN_rw {cs vs : List CV} {b e o : Nat} (h : o + vs.length ≤ cs.length) (hl : vs.all leaf = true) : stN H b (some ⟨cs, .rw, e⟩) o vs = some (H.set b ⟨splice cs o vs, .rw, e⟩) := by
  unfold stN
  simp only [h, hl, and_self, if_true]
theorem ldN_ok {cs : List CV} {e o n : Nat} (h : o + n ≤ cs.length) : ldN (some ⟨cs, .rw, e⟩) o n = some ((cs.drop o).take n) := by rw [ldN_rw, if_pos h]
theorem ldN_ok' {cs : List CV} {e o n : Nat} (h : o + n ≤ cs.length) : ldN (some ⟨cs, .ro, e⟩) o n = some ((cs.drop o).take n) := by rw [ldN_ro, if_pos h]
theorem cellsOf_agg {cs : List CV} : cellsOf (.agg cs) = cs := rfl
theorem cellsOf_int {k : IntKind} {n : Int} : cellsOf (.int k n) = [.int k n] := rfl
theorem cellsOf_bool {b : Bool} : cellsOf (.bool b) = [.bool b] := rfl
theorem cellsOf_ptr {b o : Nat} : cellsOf (.ptr b o) = [.ptr b o] := rfl
theorem cellsOf_np : cellsOf .nilPtr = [.nilPtr] := rfl
theorem cellsOf_slice {b o len cap e : Nat} {t : Bool} : cellsOf (.slice b o len cap e t) = [.slice b o len cap e t] := rfl
theorem cellsOf_ns : cellsOf .nilSlice = [.nilSlice] := rfl
theorem cellsOf_func {f : Nat} {cs : List CV} : cellsOf (.func f cs) = [.func f cs] := rfl
theorem cellsOf_leaf {v : CV} (h : leaf v = true) : cellsOf v = [v] := by cases v <;> first | rfl | cases h
theorem leaf_int {k : IntKind} {n : Int} : leaf (.int k n) = true := rfl
theorem leaf_bool {b : Bool} : leaf (.bool b) = true := rfl
theorem leaf_ptr {b o : Nat} : leaf (.ptr b o) = true := rfl
theorem leaf_np : leaf .nilPtr = true := rfl
theorem leaf_slice {b o len cap e : Nat} {t : Bool} : leaf (.slice b o len cap e t) = true := rfl
theorem leaf_ns : leaf .nilSlice = true := rfl
theorem leaf_func {f : Nat} {cs : List CV} : leaf (.func f cs) = true := rfl
theorem leaf_nf : leaf .nilFunc = true := rfl
theorem fill_nil {cs : List CV} : fill cs [] = some cs := rfl
theorem fill_cons {cs : List CV} {off size : Nat} {v : CV} {r : List (Nat × Nat × CV)} (h : (cellsOf v).length = size ∧ off + size ≤ cs.length) : fill cs ((off, size, v) :: r) = fill (splice cs off (cellsOf v)) r := by
  conv => lhs; unfold fill
  rw [if_pos h]
theorem fill_leaf {cs : List CV} {off : Nat} {v : CV} {r : List (Nat × Nat × CV)} (hv : leaf v = true) (h : off + 1 ≤ cs.length) : fill cs ((off, 1, v) :: r) = fill (splice cs off [v]) r := by
  rw [fill_cons ⟨by rw [cellsOf_leaf hv]; rfl, h⟩, cellsOf_leaf hv]
theorem evParts_nil {E : Env} : evParts E [] = [] := rfl
theorem evParts_cons {E : Env} {a b : Nat} {v : Opd} {r : List (Nat × Nat × Opd)} : evParts E ((a, b, v) :: r) = (a, b, E.ev v) :: evParts E r := rfl
theorem vStore_ok {n b o : Nat} {v : CV} (h : (cellsOf v).length = n) : vStore n H (.ptr b o) v = (stN H b H[b]? o (cellsOf v)).map fun H' => (.undef, H') := by rw [vStore_p, if_pos h]; rfl
theorem vStore_1 {b o : Nat} {v : CV} (h : leaf v = true) : vStore 1 H (.ptr b o) v = (stN H b H[b]? o [v]).map fun H' => (.undef, H') := by
  rw [vStore_p, cellsOf_leaf h, if_pos (show [v].length = 1 from rfl)]; rfl
theorem elems_n {e : Nat} : elems H e .nilSlice = some (0, []) := rfl
theorem elems_0 {b o c e z : Nat} {t : Bool} : elems H e (.slice b o 0 c z t) = some (0, []) := rfl
theorem elems_s {b o n c e z : Nat} {t : Bool} (h : 0 < n) : elems H e (.slice b o n c z t) = (ldN H[b]? o (n * e)).map fun cs => (n, cs) := by
  unfold elems; dsimp only; rw [if_neg (by omega)]; rfl
theorem splice_1 {cs : List CV} {o : Nat} {v : CV} (h : o < cs.length) : splice cs o [v] = cs.set o v := by
  unfold splice
  rw [List.set_eq_take_append_cons_drop]
  simp [h]
theorem splice_all {cs vs : List CV} (h : vs.length = cs.length) : splice cs 0 vs = vs := by
  unfold splice; simp [h]
theorem splice_nil {cs : List CV} {o : Nat} : splice cs o [] = cs := by unfold splice; simp
theorem splice_0 {cs vs : List CV} {a v : CV} : splice (a :: cs) 0 (v :: vs) = v :: splice cs 0 vs := by unfold splice; simp
theorem splice_s {cs vs : List CV} {a : CV} {o : Nat} : splice (a :: cs) (o + 1) vs = a :: splice cs o vs := by
  unfold splice
  have : o + 1 + vs.length = (o + vs.length) + 1 := by omega
  rw [this]; simp
def boundV (x : CV) (m : Nat) : Option Nat := match x with
  | .int _ i => if 0 ≤ i ∧ i ≤ (m : Int) then some i.toNat else none
  | _ => none
def boundOV (x : Option CV) (m d : Nat) : Option Nat := match x with
  | some v => boundV v m
  | none => some d
def sliceBndsV (len cap : Nat) (lo hi mx : Option CV) : Option (Nat × Nat × Nat) :=
  if mx.isSome = true ∧ hi.isNone = true then none else
  (boundOV mx cap cap).bind fun m => (boundOV hi m len).bind fun h => (boundOV lo h 0).bind fun l => some (l, h, m)
/-- A slice expression, by the values of its bounds. -/
def sliceV (esz : Nat) (x : CV) (lo hi mx : Option CV) : Option CV := match x with
  | .nilSlice => (sliceBndsV 0 0 lo hi mx).map fun _ => .nilSlice
  | .slice b o len cap e tail => if e = esz ∧ len ≤ cap then (sliceBndsV len cap lo hi mx).map fun r => .slice b (o + r.1 * esz) (r.2.1 - r.1) (r.2.2 - r.1) e (tail && mx.isNone) else none
  | _ => none
theorem sliceTo_v {E : Env} {esz : Nat} {x : CV} {lo hi mx : Option Opd} : sliceTo E esz x lo hi mx = sliceV esz x (lo.map E.ev) (hi.map E.ev) (mx.map E.ev) := by
  cases lo <;> cases hi <;> cases mx <;> cases x <;> rfl
def vClear (zero : List CV) (s : CV) (H : CHeap) : Option (CV × CHeap) := match s with
  | .slice b o len _ _ _ => if len = 0 then some (.tup [], H) else (storeN H b o (List.replicate len zero).flatten).map fun H' => (.tup [], H')
  | .nilSlice => some (.tup [], H)
  | _ => none
theorem opc_clear {E : Env} {zero : List CV} {s : Opd} : opc F (.clear zero s) E H = vClear zero (E.ev s) H := rfl
theorem vClear_s {zero : List CV} {b o len c e : Nat} {t : Bool} (h : 0 < len) : vClear zero (.slice b o len c e t) H = (stN H b H[b]? o (List.replicate len zero).flatten).map fun H' => (.tup [], H') := by
  unfold vClear; dsimp only; rw [if_neg (by omega)]; rfl
end

def csW1 := And.intro @dlt_t <| And.intro @dlt_f <| And.intro @dle_t <| And.intro @dle_f <| And.intro @beq_t <| And.intro @beq_f <| And.intro @bne_t <| And.intro @bne_f <| And.intro @vIndex_ok <| And.intro @vMake_ok <| And.intro @look_last <| And.intro @look_lt <| And.intro @look_set_ne <| And.intro @look_set_eq <| And.intro @set_last <| And.intro @set_lt <| And.intro @stN_rw <| And.intro @ldN_ok <| And.intro @ldN_ok' <| And.intro @wrap_id <| And.intro @sliceTo_v <| And.intro @vStore_1 <| And.intro @opc_clear <| And.intro @vClear_s @vStore_ok
def csW2 := And.intro @cellsOf_agg <| And.intro @cellsOf_int <| And.intro @cellsOf_bool <| And.intro @cellsOf_ptr <| And.intro @cellsOf_np <| And.intro @cellsOf_slice <| And.intro @cellsOf_ns <| And.intro @cellsOf_func <| And.intro @leaf_int <| And.intro @leaf_bool <| And.intro @leaf_ptr <| And.intro @leaf_np <| And.intro @leaf_slice <| And.intro @leaf_ns <| And.intro @leaf_func <| And.intro @leaf_nf <| And.intro @fill_nil <| And.intro @fill_leaf <| And.intro @fill_cons <| And.intro @splice_nil <| And.intro @splice_0 <| And.intro @splice_s <| And.intro @splice_1 <| And.intro @splice_all <| And.intro @evParts_nil <| And.intro @evParts_cons <| And.intro @elems_n <| And.intro @elems_0 @elems_s
end Go.Cs

/- Rules of a walk through regions that draw their order. -/
namespace Go.Cs
open Go
section
variable {α : Type} {F : CallF} {E : Env} {H : CHeap}

noncomputable def musts (op : COp) (E : Env) (m : Option Blk × (Nat → CV)) (x : Option α) : List CHeap → Keep x → Option α
  | [], _ => x
  | a :: l, _ => must (mkOf op E a = some m) (musts op E m x l ⟨⟩) ⟨⟩
theorem musts_nil {op : COp} {m : Option Blk × (Nat → CV)} {x : Option α} {h : Keep x} : musts op E m x [] h = x := rfl
theorem musts_cons {op : COp} {m : Option Blk × (Nat → CV)} {x : Option α} {a : CHeap} {l : List CHeap} {h : Keep x} : musts op E m x (a :: l) h = must (mkOf op E a = some m) (musts op E m x l ⟨⟩) ⟨⟩ := rfl
theorem musts_eq {op : COp} {m : Option Blk × (Nat → CV)} {x : Option α} : ∀ {l : List CHeap}, must (∀ H' ∈ l, mkOf op E H' = some m) x ⟨⟩ = musts op E m x l ⟨⟩
  | [] => by rw [must_of (by simp)]; rfl
  | a :: l => by
    rw [musts_cons, ← musts_eq (l := l)]
    unfold must
    by_cases h : mkOf op E a = some m
    · rw [if_pos h]
      by_cases h' : ∀ H' ∈ l, mkOf op E H' = some m
      · rw [if_pos h', if_pos (by simpa [h] using h')]
      · rw [if_neg h', if_neg (by simpa [h] using h')]
    · rw [if_neg h, if_neg (by simp [h])]

theorem seqD_1' {d : Option Nat} {op : COp} {no low : Nat} {r : List DStmt} {hs : List CHeap} {k : Env → CHeap → Option α} {h : Keep ((⟨⟨d, none, op⟩, no, 1, low⟩ :: r : List DStmt), k)} :
    seqD F (⟨⟨d, none, op⟩, no, 1, low⟩ :: r) E H hs k h = mk1 (mkOf op E H) (fun m => musts op E m (seqD F r (E.put d (made H m).1) (made H m).2 hs k ⟨⟩) (hs.take (hs.length - low)) ⟨⟩) ⟨⟩ := by
  rw [seqD_1]
  unfold mk1
  congr 1
  funext m
  exact musts_eq

abbrev MkV := Option Blk × (Nat → CV)
def okV (v : CV) : Option MkV := some (none, fun _ => v)
theorem mk1_ok {v : CV} {k : MkV → Option α} {h : Keep k} : mk1 (okV v) k h = k (none, fun _ => v) := rfl
theorem made_ok {v : CV} : made H (none, fun _ => v) = (v, H) := rfl
theorem made_ptr {b : Blk} {o : Nat} : made H (some b, fun k => .ptr k o) = (.ptr H.length o, H ++ [b]) := rfl
theorem made_slice {b : Blk} {o n c e : Nat} {t : Bool} : made H (some b, fun k => .slice k o n c e t) = (.slice H.length o n c e t, H ++ [b]) := rfl

theorem must_ok {v : CV} {x : Option α} {h : Keep x} : must (okV v = some (none, fun _ => v)) x h = x := must_of rfl
def mLoad (g : Bool) (n : Nat) (H : CHeap) : CV → Option MkV
  | .ptr b o => if g then (ldN H[b]? o n).bind fun cs => okV (.agg cs) else (ld H[b]? o).bind okV
  | _ => none
def mNil : CV → Option MkV
  | .ptr b o => okV (.ptr b o)
  | _ => none
def mField (off : Nat) : CV → Option MkV
  | .ptr b o => okV (.ptr b (o + off))
  | _ => none
def mIndex (esz : Nat) (x i : CV) : Option MkV := match x, i with
  | .slice b o len _ _ _, .int _ i => if 0 ≤ i ∧ i < (len : Int) then okV (.ptr b (o + i.toNat * esz)) else none
  | _, _ => none
def mLen : CV → Option MkV
  | .slice _ _ len _ _ _ => okV (.i len)
  | .nilSlice => okV (.i 0)
  | _ => none
def mExtract (x : CV) (i : Nat) : Option MkV := match x with | .tup vs => vs[i]?.bind okV | _ => none
def mBin (op : BinOp) (x y : CV) : Option MkV := match x, y with
  | .int k a, .int k' b => if k = k' then (intOp op k a b).bind okV else none
  | _, _ => none
def mNot : CV → Option MkV
  | .bool t => okV (.bool !t)
  | _ => none
def mPick (c a b : CV) : Option MkV := match c with | .bool t => okV (if t then a else b) | _ => none
def mEqv (g : Bool) (ty : Nat) (x y : CV) : Option MkV := (eqVal ty x y).bind fun t => okV (.bool (if g then !t else t))
def mMake (esz : Nat) (z : List CV) (l c : CV) : Option MkV := match l, c with
  | .int .i64 l, .int .i64 c => if 0 ≤ l ∧ l ≤ c ∧ c ≤ (maxEls : Int) then some (some ⟨(List.replicate c.toNat z).flatten, .rw, esz⟩, fun k => .slice k 0 l.toNat c.toNat esz false) else none
  | _, _ => none
def mBuild (o : Option (List CV)) : Option MkV := o.bind fun cs => okV (.agg cs)
def mBuildS (o : Option (List CV)) (esz len : Nat) : Option MkV := o.bind fun cs => some (some ⟨cs, .rw, esz⟩, fun k => .slice k 0 len len esz false)
def mSlice (o : Option CV) : Option MkV := o.bind okV

theorem mk_mov {x : Opd} : mkOf (.mov x) E H = okV (E.ev x) := rfl
theorem mk_new {cs : List CV} : mkOf (.new cs) E H = some (some ⟨cs, .rw, 0⟩, fun k => .ptr k 0) := rfl
theorem mk_box {x : Opd} : mkOf (.box x) E H = some (some ⟨cellsOf (E.ev x), .rw, 0⟩, fun k => .ptr k 0) := rfl
theorem mk_mkfunc {f : Nat} {cs : List Opd} : mkOf (.mkfunc f cs) E H = okV (.func f (cs.map E.ev)) := rfl
theorem mk_pick {c a b : Opd} : mkOf (.pick c a b) E H = mPick (E.ev c) (E.ev a) (E.ev b) := by simp only [mkOf, mPick]; cases E.ev c <;> rfl
theorem mk_load {g : Bool} {n : Nat} {a : Opd} : mkOf (.load g n a) E H = mLoad g n H (E.ev a) := by
  simp only [mkOf, mLoad]
  cases E.ev a <;> first | rfl | skip
  rename_i b o
  cases g
  · simp only [Bool.false_eq_true, if_false, load1_ld]; cases ld H[b]? o <;> rfl
  · simp only [if_true, loadN_ldN]; cases ldN H[b]? o n <;> rfl
theorem mk_nilCheck {x : Opd} : mkOf (.nilCheck x) E H = mNil (E.ev x) := by simp only [mkOf, mNil]; cases E.ev x <;> rfl
theorem mk_field {off : Nat} {x : Opd} : mkOf (.field off x) E H = mField off (E.ev x) := by simp only [mkOf, mField]; cases E.ev x <;> rfl
theorem mk_len {x : Opd} : mkOf (.len x) E H = mLen (E.ev x) := by simp only [mkOf, mLen]; cases E.ev x <;> rfl
theorem mk_not {x : Opd} : mkOf (.not x) E H = mNot (E.ev x) := by simp only [mkOf, mNot]; cases E.ev x <;> rfl
theorem mk_index {esz : Nat} {x i : Opd} : mkOf (.index esz x i) E H = mIndex esz (E.ev x) (E.ev i) := by
  simp only [mkOf, mIndex]
  cases E.ev x <;> cases E.ev i <;> rfl
theorem mk_extract {x : Opd} {i : Nat} : mkOf (.extract x i) E H = mExtract (E.ev x) i := by
  simp only [mkOf, mExtract]
  cases E.ev x <;> first | rfl | skip
  rename_i vs
  dsimp only
  cases vs[i]? <;> rfl
theorem mk_bin {op : BinOp} {x y : Opd} : mkOf (.bin op x y) E H = mBin op (E.ev x) (E.ev y) := by
  simp only [mkOf, mBin]
  cases E.ev x <;> cases E.ev y <;> first | rfl | skip
  rename_i k a k' b
  dsimp only
  cases intOp op k a b <;> rfl
theorem mk_eqv {g : Bool} {ty : Nat} {x y : Opd} : mkOf (.eqv g ty x y) E H = mEqv g ty (E.ev x) (E.ev y) := by
  simp only [mkOf, mEqv] <;> cases eqVal ty (E.ev x) (E.ev y) <;> rfl
theorem mk_makeSlice {esz : Nat} {z : List CV} {l c : Opd} : mkOf (.makeSlice esz z l c) E H = mMake esz z (E.ev l) (E.ev c) := rfl
theorem mk_build {z : List CV} {ps : List (Nat × Nat × Opd)} : mkOf (.build z ps) E H = mBuild (fill z (evParts E ps)) := by
  simp only [mkOf, mBuild] <;> cases fill z (evParts E ps) <;> rfl
theorem mk_buildSlice {esz len : Nat} {z : List CV} {ps : List (Nat × Nat × Opd)} : mkOf (.buildSlice esz z len ps) E H = mBuildS (fill z (evParts E ps)) esz len := by
  simp only [mkOf, mBuildS] <;> cases fill z (evParts E ps) <;> rfl
theorem mk_slice {esz : Nat} {x : Opd} {lo hi mx : Option Opd} : mkOf (.slice esz x lo hi mx) E H = mSlice (sliceTo E esz (E.ev x) lo hi mx) := by
  simp only [mkOf, mSlice] <;> cases sliceTo E esz (E.ev x) lo hi mx <;> rfl

theorem mLoad_1 {n b o : Nat} : mLoad false n H (.ptr b o) = (ld H[b]? o).bind okV := rfl
theorem mLoad_n {n b o : Nat} : mLoad true n H (.ptr b o) = (ldN H[b]? o n).bind fun cs => okV (.agg cs) := rfl
theorem mNil_p {b o : Nat} : mNil (.ptr b o) = okV (.ptr b o) := rfl
theorem mField_p {off b o : Nat} : mField off (.ptr b o) = okV (.ptr b (o + off)) := rfl
theorem mIndex_ok {e b o len cap z : Nat} {t : Bool} {k : IntKind} {i : Int} (h : 0 ≤ i ∧ i < (len : Int)) : mIndex e (.slice b o len cap z t) (.int k i) = okV (.ptr b (o + i.toNat * e)) := by
  show (if _ then _ else _) = _; rw [if_pos h]
theorem mLen_s {b o len cap z : Nat} {t : Bool} : mLen (.slice b o len cap z t) = okV (.i len) := rfl
theorem mLen_n : mLen .nilSlice = okV (.i 0) := rfl
theorem mLen_of {v : CV} {n : Int} (h : ∀ H, vLen v H = some (.i n, H)) : mLen v = okV (.i n) := by
  have := h []
  cases v <;> simp [vLen] at this <;> (rw [← this]; rfl)
theorem mExtract_t {vs : List CV} {i : Nat} : mExtract (.tup vs) i = vs[i]?.bind okV := rfl
theorem mNot_b {t : Bool} : mNot (.bool t) = okV (.bool !t) := rfl
theorem mPick_b {t : Bool} {a b : CV} : mPick (.bool t) a b = okV (if t then a else b) := rfl
theorem mBin_add {k : IntKind} {a b : Int} : mBin .add (.int k a) (.int k b) = okV (.int k (k.wrap (a + b))) := by simp [mBin, intOp]
theorem mBin_sub {k : IntKind} {a b : Int} : mBin .sub (.int k a) (.int k b) = okV (.int k (k.wrap (a - b))) := by simp [mBin, intOp]
theorem mBin_eql {k : IntKind} {a b : Int} : mBin .eql (.int k a) (.int k b) = okV (.bool (a == b)) := by simp [mBin, intOp]
theorem mBin_neq {k : IntKind} {a b : Int} : mBin .neq (.int k a) (.int k b) = okV (.bool (a != b)) := by simp [mBin, intOp]
theorem mBin_lss {k : IntKind} {a b : Int} : mBin .lss (.int k a) (.int k b) = okV (.bool (decide (a < b))) := by simp [mBin, intOp]
theorem mBin_leq {k : IntKind} {a b : Int} : mBin .leq (.int k a) (.int k b) = okV (.bool (decide (a ≤ b))) := by simp [mBin, intOp]
theorem mBin_gtr {k : IntKind} {a b : Int} : mBin .gtr (.int k a) (.int k b) = okV (.bool (decide (b < a))) := by simp [mBin, intOp]
theorem mBin_geq {k : IntKind} {a b : Int} : mBin .geq (.int k a) (.int k b) = okV (.bool (decide (b ≤ a))) := by simp [mBin, intOp]
theorem mMake_ok {esz : Nat} {z : List CV} {l c : Int} (h : 0 ≤ l ∧ l ≤ c ∧ c ≤ 16777216) : mMake esz z (.i l) (.i c) = some (some ⟨(List.replicate c.toNat z).flatten, .rw, esz⟩, fun k => .slice k 0 l.toNat c.toNat esz false) := by
  show (if 0 ≤ l ∧ l ≤ c ∧ c ≤ 16777216 then _ else _) = _; rw [if_pos h]
theorem mBuild_s {cs : List CV} : mBuild (some cs) = okV (.agg cs) := rfl
theorem mBuildS_s {cs : List CV} {e len : Nat} : mBuildS (some cs) e len = some (some ⟨cs, .rw, e⟩, fun k => .slice k 0 len len e false) := rfl
theorem mSlice_s {v : CV} : mSlice (some v) = okV v := rfl
end

def csD1 := And.intro @seqD_nil <| And.intro @seqD_0 <| And.intro @seqD_1' <| And.intro @seqD_3 <| And.intro @seqD_g <| And.intro @musts_nil <| And.intro @musts_cons <| And.intro @must_true <| And.intro @must_ok <| And.intro @mk1_some <| And.intro @mk1_ok <| And.intro @made_ok <| And.intro @made_ptr <| And.intro @made_slice <| And.intro @mk_mov <| And.intro @mk_new <| And.intro @mk_box <| And.intro @mk_mkfunc <| And.intro @mk_pick <| And.intro @mk_load <| And.intro @mk_nilCheck <| And.intro @mk_field <| And.intro @mk_len <| And.intro @mk_not <| And.intro @mk_index <| And.intro @mk_extract @mk_bin
def csD2 := And.intro @mk_eqv <| And.intro @mk_makeSlice <| And.intro @mk_build <| And.intro @mk_buildSlice <| And.intro @mk_slice <| And.intro @mLoad_1 <| And.intro @mLoad_n <| And.intro @mNil_p <| And.intro @mField_p <| And.intro @mIndex_ok <| And.intro @mLen_s <| And.intro @mLen_n <| And.intro @mExtract_t <| And.intro @mNot_b <| And.intro @mPick_b <| And.intro @mBin_add <| And.intro @mBin_sub <| And.intro @mBin_eql <| And.intro @mBin_neq <| And.intro @mBin_lss <| And.intro @mBin_leq <| And.intro @mBin_gtr <| And.intro @mBin_geq <| And.intro @mMake_ok <| And.intro @mBuild_s <| And.intro @mBuildS_s @mSlice_s
end Go.Cs

/- From a row's data to the clean machine: arguments that are integers, bools, and slices of flat structs. -/
namespace Go.Cs
open Go Go.RowKit Go.ChangeShapes Go.WideShapes

inductive FK where
  | int (k : IntKind)
  | bool
  deriving DecidableEq, Inhabited

def FK.fits : FK → CV → Prop
  | .int k, c => ∃ n, c = .int k n ∧ k.min ≤ n ∧ n ≤ k.max
  | .bool, c => ∃ b, c = .bool b

def fldK (P : Program) (F : TypeId → Option (List FK)) : Nat → List Field → Option (List FK)
  | _, [] => some []
  | o, f :: r => if f.offset = o then (F f.type).bind fun a => if P.cellsOf f.type = a.length then (fldK P F (o + a.length) r).map (a ++ ·) else none else none

/-- The cells of a type that is flat: integers and bools, and structs of such. -/
def flatK (P : Program) : Nat → TypeId → Option (List FK)
  | 0, _ => none
  | n + 1, t => match P.underlying t with
    | some (.int k) => some [.int k]
    | some .bool => some [.bool]
    | some (.struct fs) => fldK P (flatK P n) 0 fs.toList
    | _ => none

/-- Cells of the model and what they are here. -/
def Flat (ks : List FK) (cs : List Value) : Prop := cs.length = ks.length ∧ ∀ (i : Nat) (k : FK), ks[i]? = some k → ∃ (v : Value) (c : CV), cs[i]? = some v ∧ k.fits c ∧ cvLeaf v = some c ∧ ∀ μ, V μ c v

theorem Flat.app {ks ks' : List FK} {cs cs' : List Value} (h : Flat ks cs) (h' : Flat ks' cs') : Flat (ks ++ ks') (cs ++ cs') := by
  refine ⟨by simp [h.1, h'.1], fun i k hi => ?_⟩
  rw [List.getElem?_append] at hi ⊢
  rw [h.1]
  split at hi
  · rename_i hl; rw [if_pos hl]; exact h.2 i k hi
  · rename_i hl; rw [if_neg hl]; exact h'.2 _ k hi

section
variable {H : Type} {enc : TypeId × Value → H} {P : Program} {w : World} {base : Nat} {spare : Nat → Bool} {held : Bool}

theorem fld_flat {n fuel : Nat} (ih : ∀ t ks cs x, flatK P n t = some ks → DataW.trod enc P w base spare held fuel t cs = some x → P.cellsOf t = ks.length → cs.length = ks.length → Flat ks cs) :
    ∀ (fs : List Field) (o : Nat) (ks : List FK) (cs : List Value), fldK P (flatK P n) o fs = some ks → cs.length = o + ks.length →
      (∀ f ∈ fs, ∃ x, DataW.trod enc P w base spare held fuel f.type ((cs.drop f.offset).take (P.cellsOf f.type)) = some x) → Flat ks (cs.drop o)
  | [], o, ks, cs, h, hl, _ => by
    simp only [fldK, Option.some.injEq] at h
    subst h
    exact ⟨by simp [hl], fun i k hi => by simp at hi⟩
  | f :: r, o, ks, cs, h, hl, hf => by
    unfold fldK at h
    split at h
    · rename_i ho
      rw [Option.bind_eq_some_iff] at h
      obtain ⟨a, ha, h⟩ := h
      split at h
      · rename_i hc
        rw [Option.map_eq_some_iff] at h
        obtain ⟨ks', hk, rfl⟩ := h
        obtain ⟨x, hx⟩ := hf f List.mem_cons_self
        rw [List.length_append] at hl
        have h1 := ih f.type a _ x ha hx hc (by rw [List.length_take, List.length_drop, hc, ho]; omega)
        have h2 := fld_flat ih r (o + a.length) ks' cs hk (by omega) (fun g hg => hf g (List.mem_cons_of_mem _ hg))
        have := h1.app h2
        rw [ho, hc, ← List.drop_drop, List.take_append_drop] at this
        exact this
      · cases h
    · cases h

theorem trod_flat : ∀ (n fuel : Nat) (t : TypeId) (ks : List FK) (cs : List Value) (x : DataW H × List MemPlace), flatK P n t = some ks → DataW.trod enc P w base spare held fuel t cs = some x → P.cellsOf t = ks.length → Flat ks cs
  | 0, _, _, _, _, _, h, _, _ => by cases h
  | n + 1, fuel, t, ks, cs, x, h, hx, hc => by
    unfold flatK at h
    split at h
    · rename_i k ht
      simp only [Option.some.injEq] at h
      subst h
      obtain ⟨m, rfl, -, hw⟩ := DataW.trod_int ht hx
      simp only [Lit.wf, Bool.and_eq_true, decide_eq_true_eq] at hw
      refine ⟨rfl, fun i k' hi => ?_⟩
      cases i with
      | zero =>
        simp only [List.getElem?_cons_zero, Option.some.injEq] at hi
        subst hi
        exact ⟨_, .int k m, rfl, ⟨m, rfl, hw⟩, rfl, fun μ => by simp [V]⟩
      | succ i => simp at hi
    · rename_i ht
      simp only [Option.some.injEq] at h
      subst h
      obtain ⟨b, rfl, -⟩ := DataW.trod_bool ht hx
      refine ⟨rfl, fun i k' hi => ?_⟩
      cases i with
      | zero =>
        simp only [List.getElem?_cons_zero, Option.some.injEq] at hi
        subst hi
        exact ⟨_, .bool b, rfl, ⟨b, rfl⟩, rfl, fun μ => by simp [V]⟩
      | succ i => simp at hi
    · rename_i fs ht
      obtain ⟨xs, m, rfl, -, hl, hxl, hf⟩ := DataW.trod_struct ht hx
      have := fld_flat (n := n) (fuel := m) (fun t ks cs x h1 h2 h3 _ => trod_flat n m t ks cs x h1 h2 h3) fs.toList 0 ks cs h (by omega) (fun f hfm => by
        obtain ⟨i, hi, e⟩ := List.mem_iff_getElem.1 hfm
        have e' : fs[i]? = some f := by
          simp only [Array.getElem_toList] at e
          rw [← e]; exact Array.getElem?_eq_getElem (by simpa using hi)
        refine ⟨_, (hf i f e').trans (List.getElem?_eq_getElem (by simp at hi; omega))⟩)
      simpa using this
    · cases h
end

/-- What is asked of a block that an argument leads to. -/
def BlkOk (W : World) (blk : Blk) (tg : Option Tgt) : Prop :=
  blk.mode ≠ .dead → ∀ m, tg = some m → blk.mode = .ro ∧ m.c < W.heap.size ∧ ∃ arr T fz, W.heap[m.c]? = some (.cells arr T fz) ∧ ∀ (i : Nat) (c : CV), blk.cells[i]? = some c → ∃ v, arr[m.s + i]? = some v ∧ ∀ μ, V μ c v

/-- A slice whose elements are so many cells, each of them of the right kinds. -/
def SlOf (cv : Nat → CV) (blk : Blk) (ks : List FK) (l : List (List CV)) : Prop :=
  (∀ j H', vLen (cv j) H' = some (.i l.length, H')) ∧ (l ≠ [] → (∃ cap, l.length ≤ cap ∧ ∀ j, cv j = .slice j 0 l.length cap ks.length false) ∧ blk.mode = .ro ∧ blk.esz = ks.length ∧ ∀ (i : Nat) (x : List CV), l[i]? = some x → i * ks.length + ks.length ≤ blk.cells.length ∧ (blk.cells.drop (i * ks.length)).take ks.length = x) ∧
    ∀ x ∈ l, x.length = ks.length ∧ ∀ (i : Nat) (k : FK), ks[i]? = some k → ∃ c, x[i]? = some c ∧ k.fits c

theorem exists_fun {α : Type} {n : Nat} {p : Nat → α → Prop} (h : ∀ i, i < n → ∃ a, p i a) : ∃ l : List α, l.length = n ∧ ∀ i a, l[i]? = some a → p i a := by
  induction n with
  | zero => exact ⟨[], rfl, fun i a h => by simp at h⟩
  | succ n ih =>
    obtain ⟨l, hl, hp⟩ := ih fun i hi => h i (by omega)
    obtain ⟨a, ha⟩ := h n (by omega)
    refine ⟨l ++ [a], by simp [hl], fun i b hb => ?_⟩
    rw [List.getElem?_append] at hb
    split at hb
    · exact hp i b hb
    · have hi := lt_of_get hb
      simp only [List.length_singleton] at hi
      have : i = n := by omega
      subst this
      simp [hl] at hb
      subst hb; exact ha

theorem open_flat {H : Type} {enc : TypeId × Value → H} {P : Program} {W : World} {base : Nat} {r : Reach} {b0 : Nat} {held : Bool} {t e : TypeId} {v : Value} {d : DataW H} {ps : List MemPlace} {n : Nat} {ks : List FK}
    (ht : P.underlying t = some (.slice e)) (he : flatK P n e = some ks) (hc : P.cellsOf e = ks.length) (hk : 0 < ks.length)
    (hval : Value.okWide P W r b0 t v) (hd : DataW.Trod enc P W base (fun _ => true) held t v d ps) :
    ∃ (cv : Nat → CV) (blk : Blk) (tg : Option Tgt) (l : List (List CV)), (∀ j μ, μ j = tg → V μ (cv j) v) ∧ BlkOk W blk tg ∧ SlOf cv blk ks l := by
  obtain ⟨a, len, cap, rfl⟩ := okWide_slice ht hval
  obtain ⟨fuel, hf⟩ := hd
  rcases Go.Deep.open_slice ht hf with ⟨h0, -⟩ | ⟨a', len', cap', m, k, D, Pl, h0, hb, hl, hm, hmm, -, hx⟩
  · simp [Value.cells] at h0
    obtain ⟨rfl, rfl, rfl⟩ := h0
    refine ⟨fun _ => .nilSlice, ⟨[], .dead, ks.length⟩, none, [], fun j μ _ => by simp [V], fun h => absurd rfl h, fun _ _ => rfl, fun h => absurd rfl h, fun x hx => by cases hx⟩
  · simp [Value.cells] at h0
    obtain ⟨rfl, rfl, rfl⟩ := h0
    simp only [if_true] at hmm
    subst hmm
    have hspot : a'.spot = none := by
      simp only [Value.okWide, ht, Cell.okWide, Cell.ok, World.has] at hval
      exact hval.2.2.2.1
    obtain ⟨ab, ao, asp⟩ := a'
    simp only at hspot
    subst hspot
    have cell : ∀ q, q < m * ks.length → ∃ (arr : Array Value) (T : TypeId) (fz : _) (u : Value) (c : CV), W.heap[ab]? = some (.cells arr T fz) ∧ arr[ao + q]? = some u ∧ cvLeaf u = some c ∧ (∀ kk, ks[q % ks.length]? = some kk → kk.fits c) ∧ ∀ μ, V μ c u := by
      intro q hq
      have hi : q / ks.length < m := Nat.div_lt_of_lt_mul (by rw [Nat.mul_comm]; exact hq)
      obtain ⟨cs', h1, h2⟩ := hx _ hi
      have hfl := trod_flat n k e ks cs' _ he h2 hc
      obtain ⟨-, hlen, hcell⟩ := World.cells?_some h1
      have hj : q % ks.length < ks.length := Nat.mod_lt _ hk
      have h3 := hcell (q % ks.length) (by rw [hc]; exact hj)
      rw [Go.Deep.add_add, hc, Nat.div_add_mod'] at h3
      obtain ⟨u, c, e1, e2, e3, e4⟩ := hfl.2 _ _ (List.getElem?_eq_getElem hj)
      rw [e1] at h3
      unfold World.cell? at h3
      have hab : ((⟨ab, ao, none⟩ : Addr).add q).block = ab := by unfold Addr.add; split <;> rfl
      have hao : ((⟨ab, ao, none⟩ : Addr).add q).off = ao + q := by unfold Addr.add; split <;> simp_all
      rw [hab, hao] at h3
      split at h3
      · rename_i arr T fz harr
        split at h3
        · cases h3
        · exact ⟨arr, T, fz, u, c, harr, h3, e3, fun kk hkk => by rw [List.getElem?_eq_getElem hj] at hkk; simp only [Option.some.injEq] at hkk; rw [← hkk]; exact e2, e4⟩
      · cases h3
    obtain ⟨cells, hcl, hcs⟩ := exists_fun (n := m * ks.length) (p := fun q c => ∃ (arr : Array Value) (T : TypeId) (fz : _) (u : Value), W.heap[ab]? = some (.cells arr T fz) ∧ arr[ao + q]? = some u ∧ cvLeaf u = some c ∧ (∀ kk, ks[q % ks.length]? = some kk → kk.fits c) ∧ ∀ μ, V μ c u)
      fun q hq => by obtain ⟨arr, T, fz, u, c, h⟩ := cell q hq; exact ⟨c, arr, T, fz, u, h⟩
    have hlm : len * ks.length ≤ m * ks.length := Nat.mul_le_mul_right _ hl
    refine ⟨fun j => .slice j 0 len m ks.length false, ⟨cells, if m = 0 then .dead else .ro, ks.length⟩, some ⟨ab, ao, ks.length, ao + m * ks.length⟩, (List.range len).map fun i => (cells.drop (i * ks.length)).take ks.length, ?_, ?_, ?_, ?_, ?_⟩
    · intro j μ hj
      simp only [V]
      exact ⟨_, m, ao, hj, rfl, rfl, hl, by simp, .inr rfl, Nat.le_refl _⟩
    · intro hdead tm htm
      simp only [Option.some.injEq] at htm
      subst htm
      have hm0 : m ≠ 0 := by rintro rfl; simp at hdead
      obtain ⟨arr, T, fz, u, c, harr, -⟩ := cell 0 (Nat.mul_pos (by omega) hk)
      refine ⟨by simp [hm0], (Array.getElem?_eq_some_iff.1 harr).1, arr, T, fz, harr, fun i c hi => ?_⟩
      obtain ⟨arr', T', fz', u', e1, e2, -, -, e5⟩ := hcs i c hi
      rw [harr] at e1
      simp only [Option.some.injEq, Obj.cells.injEq] at e1
      obtain ⟨rfl, -, -⟩ := e1
      exact ⟨u', e2, e5⟩
    · intro j H'
      simp only [List.length_map, List.length_range]; rfl
    · intro hne
      have hlen0 : 0 < len := by
        rcases Nat.eq_zero_or_pos len with rfl | h
        · simp at hne
        · exact h
      have hm0 : m ≠ 0 := by omega
      refine ⟨⟨m, by simpa using hl, fun j => by simp⟩, by simp [hm0], rfl, fun i x hi => ?_⟩
      rw [List.getElem?_map, Option.map_eq_some_iff] at hi
      obtain ⟨i', hi', rfl⟩ := hi
      have hil := lt_of_get hi'
      rw [List.getElem?_range (by simpa using hil)] at hi'
      simp only [Option.some.injEq] at hi'
      subst hi'
      refine ⟨?_, rfl⟩
      simp only [List.length_range] at hil
      have : (i + 1) * ks.length ≤ len * ks.length := Nat.mul_le_mul_right _ hil
      rw [Nat.add_mul, Nat.one_mul] at this
      simp only [hcl]; omega
    · intro x hx'
      rw [List.mem_map] at hx'
      obtain ⟨i, hi, rfl⟩ := hx'
      have hil : i < len := by simpa using hi
      have : (i + 1) * ks.length ≤ len * ks.length := Nat.mul_le_mul_right _ hil
      rw [Nat.add_mul, Nat.one_mul] at this
      refine ⟨by simp [hcl]; omega, fun j kk hj => ?_⟩
      have hjl := lt_of_get hj
      have hlt : i * ks.length + j < cells.length := by omega
      obtain ⟨arr', T', fz', u', e1, e2, -, e4, -⟩ := hcs (i * ks.length + j) _ (List.getElem?_eq_getElem hlt)
      refine ⟨cells[i * ks.length + j], by rw [List.getElem?_take, if_pos hjl, List.getElem?_drop, List.getElem?_eq_getElem hlt], e4 kk ?_⟩
      rw [Nat.mul_comm, Nat.mul_add_mod, Nat.mod_eq_of_lt hjl]; exact hj

/-- A run of the clean machine, and the call in the model. -/
theorem run_calls {P : Program} (hm : P.follows .mixedOrders = true) {f : Nat} {args : List CV} {args' : Array Value} {W : World} {H0 H1 : CHeap} {tgs : List (Option Tgt)} {v : CV}
    (hlen : tgs.length = H0.length) (hb : ∀ b blk, H0[b]? = some blk → BlkOk W blk (tgs.getD b none)) (hrun : run (cprog P) f args H0 = some (v, H1)) (hv : VL (fun b => tgs.getD b none) args args'.toList) :
    Calls P f args' W fun e w' => (∃ ν v', e = .returned v' ∧ V ν v v') ∧ Below W.heap.size W w' :=
  bridge hm (μ := fun b => tgs.getD b none) (fun b blk m h1 h2 h3 => by
      obtain ⟨q1, q2, arr, T, fz, q3, q4⟩ := hb b blk h1 h2 m h3
      exact ⟨q1, q2, arr, T, fz, q3, fun i c hi => by obtain ⟨v, e1, e2⟩ := q4 i c hi; exact ⟨v, e1, e2 _⟩⟩)
    (fun b h => by rw [List.getD_eq_getElem?_getD, List.getElem?_eq_none (by omega)]; rfl) hrun hv
end Go.Cs
namespace Go.Cs
open Go Go.RowKit Go.ChangeShapes Go.WideShapes
theorem fits_i64 {x : List CV} {n : Nat} (hx : x.length = n) (h : ∀ (i : Nat) (k : FK), (List.replicate n (FK.int .i64))[i]? = some k → ∃ c, x[i]? = some c ∧ k.fits c) : ∃ zs : List Int, zs.length = n ∧ x = zs.map CV.i := by
  obtain ⟨zs, hl, hp⟩ := exists_fun (n := n) (p := fun i z => x[i]? = some (.i z)) fun i hi => by
    obtain ⟨c, e1, z, e2, -⟩ := h i (.int .i64) (by rw [List.getElem?_replicate, if_pos hi])
    exact ⟨z, by rw [e1, e2]⟩
  refine ⟨zs, hl, List.ext_getElem? fun i => ?_⟩
  by_cases hi : i < n
  · rw [List.getElem?_map, hp i _ (List.getElem?_eq_getElem (by omega)), List.getElem?_eq_getElem (l := zs) (by omega)]; rfl
  · rw [List.getElem?_eq_none (by omega), List.getElem?_eq_none (by simp; omega)]
end Go.Cs

/- All rules of a walk in few bundles. -/
namespace Go.Cs
def csL := And.intro @Nat.zero_add <| And.intro @Nat.add_zero <| And.intro @Nat.mul_one <| And.intro @Option.map_some.{0,0} <| And.intro @Option.bind_some.{0,0} <| And.intro @Option.map_none.{0,0} <| And.intro @Option.bind_none.{0,0} <| And.intro @List.map_cons.{0,0} <| And.intro @List.map_nil.{0,0} <| And.intro @List.getElem?_cons_zero.{0} <| And.intro @List.getElem?_cons_succ.{0} <| And.intro @List.cons_append.{0} <| And.intro @List.nil_append.{0} <| And.intro @List.append_nil.{0} <| And.intro @Bool.not_true <| And.intro @Bool.not_false <| And.intro @Bool.false_eq_true <| And.intro @decide_true <| And.intro @decide_false <| And.intro @List.length_append.{0} <| And.intro @List.length_cons.{0} <| And.intro @List.length_nil.{0} <| And.intro @List.length_set.{0} <| And.intro @List.drop_zero.{0} <| And.intro @List.drop_succ_cons.{0} <| And.intro @List.take_succ_cons.{0} <| And.intro @List.take_zero.{0} <| And.intro @Int.toNat_natCast <| And.intro @List.set_cons_zero.{0} <| And.intro @List.set_cons_succ.{0} <| And.intro @List.drop_nil.{0} @List.take_nil.{0}
def csAll := And.intro csA <| And.intro csB <| And.intro csV <| And.intro csD1 <| And.intro csD2 <| And.intro csW1 <| And.intro csW2 csL
def csN := And.intro @eq_self.{1} <| And.intro @true_and <| And.intro @and_true <| And.intro @and_self <| And.intro @Nat.le_refl <| And.intro @List.length_append.{0} <| And.intro @List.length_cons.{0} <| And.intro @List.length_nil.{0} <| And.intro @List.length_set.{0} <| And.intro @List.length_map.{0,0} <| And.intro @List.length_replicate.{0} <| And.intro @Nat.zero_add <| And.intro @Nat.add_zero <| And.intro @Nat.mul_one <| And.intro @cellsOf_agg <| And.intro @cellsOf_int <| And.intro @cellsOf_bool <| And.intro @cellsOf_ptr <| And.intro @cellsOf_slice <| And.intro @cellsOf_ns <| And.intro @List.length_take.{0} @List.length_drop.{0}
def csF := And.intro @leaf_int <| And.intro @leaf_slice <| And.intro @leaf_bool <| And.intro @leaf_ptr <| And.intro @leaf_ns <| And.intro @leaf_np <| And.intro @leaf_func <| And.intro @leaf_nf <| And.intro @Bool.and_true <| And.intro @Bool.true_and <| And.intro @List.all_cons.{0} <| And.intro @List.all_nil.{0} @List.all_append.{0}
end Go.Cs

/- The contents of a model, and how they lie in the clean heap. -/
namespace Go.Cs
open Go

structure Obj where
  nr : Int
  nd : Int
  kd : Int
  refs : List Int
  data : List Int

structure Mdl where
  slots : List (List Int)
  globals : List Int
  queue : List Int
  objs : List Obj

abbrev Tag := Nat × Nat × Nat
abbrev Tags := Nat → Option Tag

def ints (l : List Int) : List CV := l.map CV.i
theorem ints_len (l : List Int) : (ints l).length = l.length := by simp [ints]
theorem ints_get (l : List Int) (i : Nat) : (ints l)[i]? = l[i]?.map CV.i := by simp [ints]
theorem ints_app (l k : List Int) : ints (l ++ k) = ints l ++ ints k := by simp [ints]
theorem ints_set (l : List Int) (i : Nat) (v : Int) : ints (l.set i v) = (ints l).set i (.i v) := by simp [ints, List.map_set]
theorem ints_leaf (l : List Int) : (ints l).all leaf = true := by simp [ints, leaf]
theorem ints_nil : ints [] = [] := rfl
theorem ints_cons (a : Int) (l : List Int) : ints (a :: l) = .i a :: ints l := rfl

def blkOf : CV → Nat
  | .slice b .. => b
  | _ => 0

/-- A slice that owns the block of a tag, and is all of it. -/
def At (o : Tags) (t : Tag) (H : CHeap) (v : CV) (e n : Nat) (cs : List CV) : Prop :=
  (n = 0 ∧ cs = [] ∧ (v = .nilSlice ∨ ∃ b f, v = .slice b f 0 0 e false)) ∨
    ∃ b tl, v = .slice b 0 n n e tl ∧ o b = some t ∧ H[b]? = some ⟨cs, .rw, e⟩ ∧ cs.length = n * e

theorem At.pos {o : Tags} {t : Tag} {H : CHeap} {v : CV} {e n : Nat} {cs : List CV} (h : At o t H v e n cs) (hn : 0 < n) :
    ∃ tl, v = .slice (blkOf v) 0 n n e tl ∧ o (blkOf v) = some t ∧ H[blkOf v]? = some ⟨cs, .rw, e⟩ ∧ cs.length = n * e := by
  rcases h with ⟨h, _⟩ | ⟨b, tl, rfl, h1, h2, h3⟩
  · omega
  · exact ⟨tl, rfl, h1, h2, h3⟩

theorem At.len {o : Tags} {t : Tag} {H : CHeap} {v : CV} {e n : Nat} {cs : List CV} (h : At o t H v e n cs) (H' : CHeap) : vLen v H' = some (.i n, H') := by
  rcases h with ⟨rfl, rfl, rfl | ⟨b, f, rfl⟩⟩ | ⟨b, tl, rfl, h1, h2, h3⟩ <;> rfl

theorem At.leaf {o : Tags} {t : Tag} {H : CHeap} {v : CV} {e n : Nat} {cs : List CV} (h : At o t H v e n cs) : leaf v = true := by
  rcases h with ⟨rfl, rfl, rfl | ⟨b, f, rfl⟩⟩ | ⟨b, tl, rfl, h1, h2, h3⟩ <;> rfl

theorem At.elems {o : Tags} {t : Tag} {H H' : CHeap} {v : CV} {e n : Nat} {cs : List CV} (h : At o t H v e n cs) (hf : ∀ c, o c = some t → H'[c]? = H[c]?) : elems H' e v = some (n, cs) := by
  rcases h with ⟨rfl, rfl, rfl | ⟨b, f, rfl⟩⟩ | ⟨b, tl, rfl, h1, h2, h3⟩
  · rfl
  · rfl
  · by_cases hn : n = 0
    · subst hn
      have : cs = [] := List.eq_nil_of_length_eq_zero (by omega)
      subst this; rfl
    · rw [elems_s (by omega), hf b h1, h2, ldN_rw, Nat.zero_add, if_pos (by omega)]
      simp [← h3]

theorem At.frame {o o' : Tags} {t : Tag} {H H' : CHeap} {v : CV} {e n : Nat} {cs : List CV} (h : At o t H v e n cs) (ho : ∀ c, o c = some t → o' c = some t) (hf : ∀ c, o c = some t → H'[c]? = H[c]?) : At o' t H' v e n cs := by
  rcases h with h | ⟨b, tl, rfl, h1, h2, h3⟩
  · exact .inl h
  · exact .inr ⟨b, tl, rfl, ho b h1, by rw [hf b h1, h2], h3⟩

/-- Appending to such a slice. -/
theorem At.append {o : Tags} {t : Tag} {H : CHeap} {v : CV} {e n k : Nat} {cs new : List CV} (h : At o t H v e n cs) (hk : 0 < k) (hm : n + k ≤ maxEls) (hl : new.all Go.Cs.leaf = true) (hnew : new.length = k * e) :
    ∃ H', appendTo H e v k new = some (.slice H.length 0 (n + k) (n + k) e true, H') ∧ H'.length = H.length + 1 ∧ H'[H.length]? = some ⟨cs ++ new, .rw, e⟩ ∧ ∀ c, c < H.length → o c ≠ some t → H'[c]? = H[c]? := by
  rcases h with ⟨rfl, rfl, rfl | ⟨b, f, rfl⟩⟩ | ⟨b, tl, rfl, h1, h2, h3⟩
  · refine ⟨H ++ [⟨new, .rw, e⟩], ?_, by simp, by simp, fun c hc _ => by rw [List.getElem?_append_left hc]⟩
    unfold appendTo
    dsimp only
    rw [if_neg (by omega), if_pos (by omega), Nat.zero_add]
  · refine ⟨H ++ [⟨new, .rw, e⟩], ?_, by simp, by simp, fun c hc _ => by rw [List.getElem?_append_left hc]⟩
    unfold appendTo
    dsimp only
    rw [if_neg (by omega), if_neg (by omega), if_pos (by omega)]
    simp
  · have hb := lt_of_get h2
    have hold : (if n = 0 then some [] else loadN H b 0 (n * e)) = some cs := by
      by_cases hn : n = 0
      · subst hn
        rw [if_pos rfl]
        congr 1
        exact (List.eq_nil_of_length_eq_zero (by omega)).symm
      · rw [if_neg hn]
        unfold loadN
        rw [h2]
        simp [← h3]
    cases tl with
    | false =>
      refine ⟨H ++ [⟨cs ++ new, .rw, e⟩], ?_, by simp, by simp, fun c hc _ => by rw [List.getElem?_append_left hc]⟩
      unfold appendTo
      dsimp only
      rw [if_neg (by omega), if_neg (by omega), if_pos (by omega), hold, Option.bind_some, if_neg (by simp)]
    | true =>
      refine ⟨H.set b ⟨cs, .dead, e⟩ ++ [⟨cs ++ new, .rw, e⟩], ?_, by simp, by simp, fun c hc hc' => ?_⟩
      · unfold appendTo
        dsimp only
        rw [if_neg (by omega), if_neg (by omega), if_pos (by omega), hold, Option.bind_some, if_pos rfl, h2]
        dsimp only
        rw [if_pos ⟨rfl, rfl, by omega, hl⟩]
      · rw [List.getElem?_append_left (by simpa using hc), List.getElem?_set_ne]
        rintro rfl
        exact hc' h1

/-! ### A model -/

structure Lay where
  sl : CV
  gl : CV
  qv : CV
  ov : CV
  sv : List CV
  hv : List (CV × CV)

def objCells : List Obj → List (CV × CV) → List CV
  | x :: xs, h :: hs => .i x.nr :: .i x.nd :: .i x.kd :: h.1 :: h.2 :: objCells xs hs
  | _, _ => []

theorem objCells_len : ∀ (xs : List Obj) (hs : List (CV × CV)), hs.length = xs.length → (objCells xs hs).length = xs.length * 5
  | [], [], _ => rfl
  | x :: xs, h :: hs, e => by
    simp only [objCells, List.length_cons] at e ⊢
    have := objCells_len xs hs (by omega)
    omega

theorem objCells_at : ∀ (xs : List Obj) (hs : List (CV × CV)) (j : Nat) (x : Obj) (h : CV × CV), xs[j]? = some x → hs[j]? = some h →
    (objCells xs hs).drop (j * 5) = .i x.nr :: .i x.nd :: .i x.kd :: h.1 :: h.2 :: (objCells xs hs).drop ((j + 1) * 5)
  | x :: xs, h :: hs, 0, x', h', e, e' => by
    simp only [List.getElem?_cons_zero, Option.some.injEq] at e e'
    subst e; subst e'; rfl
  | x :: xs, h :: hs, j + 1, x', h', e, e' => by
    simp only [List.getElem?_cons_succ] at e e'
    have := objCells_at xs hs j x' h' e e'
    have e1 : (j + 1) * 5 = j * 5 + 5 := by omega
    have e2 : (j + 1 + 1) * 5 = (j + 1) * 5 + 5 := by omega
    rw [e2, e1]
    simp only [objCells, List.drop_succ_cons]
    rw [this, e1]
  | [], _, j, _, _, e, _ => by simp at e
  | _ :: _, [], j, _, _, _, e => by simp at e

theorem objCells_app : ∀ (xs : List Obj) (hs : List (CV × CV)) (x : Obj) (h : CV × CV), hs.length = xs.length → objCells (xs ++ [x]) (hs ++ [h]) = objCells xs hs ++ [.i x.nr, .i x.nd, .i x.kd, h.1, h.2]
  | [], [], _, _, _ => rfl
  | x :: xs, h :: hs, x', h', e => by
    simp only [List.cons_append, objCells]
    rw [objCells_app xs hs x' h' (by simpa using e)]

structure MRep (o : Tags) (g : Nat) (H : CHeap) (b : Nat) (M : Mdl) (L : Lay) : Prop where
  dom : ∀ c t, o c = some t → c < H.length
  top : o b = some (g, 0, 0)
  cells : H[b]? = some ⟨[L.sl, L.gl, L.qv, L.ov], .rw, 0⟩
  nsv : L.sv.length = M.slots.length
  slots : At o (g, 1, 0) H L.sl 1 M.slots.length L.sv
  slot : ∀ i s, M.slots[i]? = some s → ∃ v, L.sv[i]? = some v ∧ At o (g, 2, i) H v 1 16 (ints s)
  globals : At o (g, 3, 0) H L.gl 1 16 (ints M.globals)
  queue : At o (g, 4, 0) H L.qv 1 M.queue.length (ints M.queue)
  nhv : L.hv.length = M.objs.length
  objs : At o (g, 5, 0) H L.ov 5 M.objs.length (objCells M.objs L.hv)
  refs : ∀ j x, M.objs[j]? = some x → ∃ h, L.hv[j]? = some h ∧ At o (g, 6, j) H h.1 1 x.refs.length (ints x.refs) ∧ At o (g, 7, j) H h.2 1 x.data.length (ints x.data)

theorem MRep.frame {o o' : Tags} {g : Nat} {H H' : CHeap} {b : Nat} {M : Mdl} {L : Lay} (m : MRep o g H b M L) (hd : ∀ c t, o' c = some t → c < H'.length) (ho : ∀ c k, o c = some (g, k) → o' c = some (g, k)) (hf : ∀ c k, o c = some (g, k) → H'[c]? = H[c]?) : MRep o' g H' b M L where
  dom := hd
  top := ho _ _ m.top
  cells := by rw [hf _ _ m.top, m.cells]
  nsv := m.nsv
  slots := m.slots.frame (fun c => ho c _) (fun c => hf c _)
  slot := fun i s h => by
    obtain ⟨v, h1, h2⟩ := m.slot i s h
    exact ⟨v, h1, h2.frame (fun c => ho c _) (fun c => hf c _)⟩
  globals := m.globals.frame (fun c => ho c _) (fun c => hf c _)
  queue := m.queue.frame (fun c => ho c _) (fun c => hf c _)
  nhv := m.nhv
  objs := m.objs.frame (fun c => ho c _) (fun c => hf c _)
  refs := fun j x h => by
    obtain ⟨v, h1, h2, h3⟩ := m.refs j x h
    exact ⟨v, h1, h2.frame (fun c => ho c _) (fun c => hf c _), h3.frame (fun c => ho c _) (fun c => hf c _)⟩

theorem MRep.app {o : Tags} {g : Nat} {H : CHeap} {b : Nat} {M : Mdl} {L : Lay} (m : MRep o g H b M L) (J : CHeap) : MRep o g (H ++ J) b M L :=
  m.frame (fun c t h => by have := m.dom c t h; simp; omega) (fun _ _ h => h) (fun c k h => List.getElem?_append_left (m.dom c _ h))

structure Obj.Ok (n : Nat) (x : Obj) : Prop where
  nr : 0 ≤ x.nr ∧ x.nr ≤ 15 ∧ x.refs.length = x.nr.toNat
  nd : 0 ≤ x.nd ∧ x.nd ≤ 200 ∧ x.data.length = x.nd.toNat
  kd : 0 ≤ x.kd ∧ x.kd ≤ 3 ∧ (x.kd = 1 → 1 ≤ x.nr) ∧ (x.kd = 2 → 2 ≤ x.nr)
  ids : ∀ v ∈ x.refs, 0 ≤ v ∧ v ≤ (n : Int)

structure Mdl.Ok (M : Mdl) : Prop where
  ns : 1 ≤ M.slots.length ∧ M.slots.length ≤ 4
  s16 : ∀ s ∈ M.slots, s.length = 16 ∧ ∀ v ∈ s, 0 ≤ v ∧ v ≤ (M.objs.length : Int)
  g16 : M.globals.length = 16 ∧ ∀ v ∈ M.globals, 0 ≤ v ∧ v ≤ (M.objs.length : Int)
  q64 : M.queue.length ≤ 64 ∧ ∀ v ∈ M.queue, 1 ≤ v ∧ v ≤ (M.objs.length : Int)
  objs : ∀ x ∈ M.objs, x.Ok M.objs.length
  few : M.objs.length ≤ 100000

/-! ### What can be asked -/

def Mdl.slotAt (M : Mdl) (mu i : Int) : Int × Int :=
  if 0 ≤ mu ∧ mu < M.slots.length ∧ 0 ≤ i ∧ i < 16 then (((M.slots.getD mu.toNat []).getD i.toNat 0), 0) else (0, 1)
def Mdl.globalAt (M : Mdl) (i : Int) : Int × Int := if 0 ≤ i ∧ i < 16 then (M.globals.getD i.toNat 0, 0) else (0, 1)
def Mdl.has (M : Mdl) (n : Int) : Prop := 1 ≤ n ∧ n ≤ (M.objs.length : Int)
instance (M : Mdl) (n : Int) : Decidable (M.has n) := by unfold Mdl.has; exact inferInstance
def Mdl.obj (M : Mdl) (n : Int) : Obj := M.objs.getD (n - 1).toNat ⟨0, 0, 0, [], []⟩
def elAt (l : List Int) (i : Int) : Int × Int := if 0 ≤ i ∧ i < (l.length : Int) then (l.getD i.toNat 0, 0) else (0, 1)
def Mdl.refAt (M : Mdl) (n i : Int) : Int × Int := if M.has n then elAt (M.obj n).refs i else (0, 4)
def Mdl.dataAt (M : Mdl) (n i : Int) : Int × Int := if M.has n then elAt (M.obj n).data i else (0, 4)
def Mdl.shapeAt (M : Mdl) (n : Int) : (Int × Int × Int) × Int := if M.has n then (((M.obj n).nr, (M.obj n).nd, (M.obj n).kd), 0) else ((0, 0, 0), 4)
def pair2 (p : Int × Int) : CV := .tup [.i p.1, .i p.2]

theorem getD_of {α : Type} {l : List α} {i : Nat} (d : α) (h : i < l.length) : l[i]? = some (l.getD i d) := by
  simp [List.getD_eq_getElem?_getD, h]

theorem Mdl.obj_get {M : Mdl} {n : Int} (h : M.has n) : M.objs[(n - 1).toNat]? = some (M.obj n) := getD_of _ (by unfold Mdl.has at h; omega)

theorem drop0 {α : Type} {l : List α} {k : Nat} {x : α} {r : List α} (h : l.drop k = x :: r) : l[k]? = some x := by
  have : (l.drop k)[0]? = some x := by rw [h]; rfl
  simpa using this

/-- Where an object lies. -/
theorem MRep.objAt {o : Tags} {g : Nat} {H : CHeap} {b : Nat} {M : Mdl} {L : Lay} (m : MRep o g H b M L) (n : Int) (c : M.has n) :
    ∃ h rest, L.hv[(n - 1).toNat]? = some h ∧ H[blkOf L.ov]? = some ⟨objCells M.objs L.hv, .rw, 5⟩ ∧ (objCells M.objs L.hv).drop ((n - 1).toNat * 5) = .i (M.obj n).nr :: .i (M.obj n).nd :: .i (M.obj n).kd :: h.1 :: h.2 :: rest ∧
    (n - 1).toNat * 5 + 5 ≤ (objCells M.objs L.hv).length ∧ o (blkOf L.ov) = some (g, 5, 0) ∧
    At o (g, 6, (n - 1).toNat) H h.1 1 (M.obj n).refs.length (ints (M.obj n).refs) ∧ At o (g, 7, (n - 1).toNat) H h.2 1 (M.obj n).data.length (ints (M.obj n).data) := by
  obtain ⟨h, h1, h2, h3⟩ := m.refs _ _ (Mdl.obj_get c)
  have c' := c
  unfold Mdl.has at c'
  obtain ⟨tl, e1, e2, e3, e4⟩ := m.objs.pos (by omega)
  exact ⟨h, _, h1, e3, objCells_at _ _ _ _ _ (Mdl.obj_get c) h1, by omega, e2, h2, h3⟩

end Go.Cs

/- The compiled functions of the seat, part 0. -/
namespace Go.Cs.Try
open Go Go.Cs
set_option maxRecDepth 100000
-- gosem.cut.init
def C9_1 : CCode := .seq (.seq (.region [⟨some 33, none, .mov (.tmp 9)⟩, ⟨some 34, none, .mov (.tmp 1)⟩, ⟨some 35, none, .len (.tmp 34)⟩, ⟨some 36, none, .bin .lss (.tmp 33) (.tmp 35)⟩, ⟨some 37, none, .mov (.tmp 36)⟩, ⟨some 38, some (37, true), .mov (.tmp 7)⟩, ⟨some 39, some (37, true), .eqv true 1 (.tmp 38) (.const (.nilPtr))⟩, ⟨some 40, none, .pick (.tmp 37) (.tmp 39) (.const (.bool false))⟩])
    (.cond (.tmp 40)
     .skip
     (.exit 0)))
    (.seq (.block 1 (.seq (.seq (.region [⟨some 43, none, .mov (.tmp 1)⟩, ⟨some 44, none, .mov (.tmp 9)⟩, ⟨some 45, none, .index 13 (.tmp 43) (.tmp 44)⟩, ⟨some 46, none, .field 0 (.tmp 45)⟩, ⟨some 47, none, .load false 1 (.tmp 46)⟩, ⟨some 48, none, .bin .eql (.tmp 47) (.const (.int .i64 5))⟩])
     (.cond (.tmp 48)
      (.region [⟨some 49, none, .mov (.tmp 5)⟩, ⟨some 50, none, .call 33 [(.tmp 49)]⟩, ⟨some 51, none, .mov (.tmp 7)⟩, ⟨some 52, none, .call 34 [(.tmp 51)]⟩, ⟨some 5, none, .mov (.tmp 50)⟩, ⟨some 7, none, .mov (.tmp 52)⟩])
      .skip))
     (.seq (.region [⟨some 53, none, .mov (.tmp 5)⟩, ⟨some 54, none, .mov (.tmp 7)⟩, ⟨some 55, none, .mov (.tmp 1)⟩, ⟨some 56, none, .mov (.tmp 9)⟩, ⟨some 57, none, .index 13 (.tmp 55) (.tmp 56)⟩, ⟨some 58, none, .load true 13 (.tmp 57)⟩, ⟨some 59, none, .call 35 [(.tmp 53), (.tmp 54), (.tmp 58)]⟩, ⟨some 60, none, .not (.tmp 59)⟩])
     (.cond (.tmp 60)
      (.seq (.region [⟨some 4, none, .mov (.const (.bool false))⟩])
      .ret)
      .skip))))
    (.region [⟨some 41, none, .mov (.tmp 9)⟩, ⟨some 42, none, .bin .add (.tmp 41) (.const (.int .i64 1))⟩, ⟨some 9, none, .mov (.tmp 42)⟩]))
def C9 : CFunc := ⟨(.seq (.region [⟨some 4, none, .mov (.const (.bool false))⟩])
  (.seq (.seq (.region [⟨some 10, none, .mov (.tmp 1)⟩, ⟨some 11, none, .call 30 [(.tmp 10)]⟩])
  (.cond (.tmp 11)
   (.seq (.region [⟨some 12, none, .call 13 []⟩, ⟨some 4, none, .mov (.tmp 12)⟩])
   .ret)
   .skip))
  (.seq (.region [⟨some 14, none, .mov (.tmp 0)⟩, ⟨some 15, none, .call 31 [(.tmp 14)]⟩, ⟨some 13, none, .mov (.tmp 15)⟩, ⟨some 16, none, .extract (.tmp 13) 0⟩, ⟨some 17, none, .extract (.tmp 13) 1⟩, ⟨some 5, none, .mov (.tmp 16)⟩, ⟨some 6, none, .mov (.tmp 17)⟩])
  (.seq (.region [⟨some 19, none, .mov (.tmp 0)⟩, ⟨some 20, none, .call 32 [(.tmp 19)]⟩, ⟨some 18, none, .mov (.tmp 20)⟩, ⟨some 21, none, .extract (.tmp 18) 0⟩, ⟨some 22, none, .extract (.tmp 18) 1⟩, ⟨some 7, none, .mov (.tmp 21)⟩, ⟨some 8, none, .mov (.tmp 22)⟩])
  (.seq (.seq (.region [⟨some 23, none, .mov (.tmp 6)⟩, ⟨some 24, none, .mov (.tmp 8)⟩, ⟨some 25, none, .bin .neq (.tmp 23) (.tmp 24)⟩, ⟨some 26, none, .mov (.tmp 25)⟩, ⟨some 27, some (26, false), .mov (.tmp 5)⟩, ⟨some 28, some (26, false), .eqv true 1 (.tmp 27) (.const (.nilPtr))⟩, ⟨some 29, some (26, false), .mov (.tmp 7)⟩, ⟨some 30, some (26, false), .eqv true 1 (.tmp 29) (.const (.nilPtr))⟩, ⟨some 31, some (26, false), .eqv true 0 (.tmp 28) (.tmp 30)⟩, ⟨some 32, none, .pick (.tmp 26) (.const (.bool true)) (.tmp 31)⟩])
  (.cond (.tmp 32)
   (.seq (.region [⟨some 4, none, .mov (.const (.bool false))⟩])
   .ret)
   .skip))
  (.seq (.seq (.region [⟨some 9, none, .mov (.const (.int .i64 0))⟩])
  (.block 0 (.loop C9_1)))
  (.seq (.region [⟨some 61, none, .mov (.tmp 5)⟩, ⟨some 62, none, .mov (.tmp 7)⟩, ⟨some 63, none, .call 36 [(.tmp 61), (.tmp 62)]⟩, ⟨some 64, none, .mov (.tmp 63)⟩, ⟨some 65, some (64, true), .call 13 []⟩, ⟨some 66, none, .pick (.tmp 64) (.tmp 65) (.const (.bool false))⟩, ⟨some 4, none, .mov (.tmp 66)⟩])
  .ret))))))),
  [.tmp 4]⟩
theorem c9 : cprog Go.Proofs.Try.prog 9 = some C9 := by kernel_rfl
-- dustcart/dustcartlaw04.ModelNone
def C13 : CFunc := ⟨(.seq (.region [⟨some 0, none, .mov (.const (.bool false))⟩])
  (.seq (.region [⟨some 12, none, .call 31 [(.const (.int .i64 1))]⟩, ⟨some 11, none, .mov (.tmp 12)⟩, ⟨some 13, none, .extract (.tmp 11) 0⟩, ⟨some 14, none, .extract (.tmp 11) 1⟩, ⟨some 1, none, .mov (.tmp 13)⟩, ⟨some 2, none, .mov (.tmp 14)⟩])
  (.seq (.seq (.region [⟨some 15, none, .mov (.tmp 1)⟩, ⟨some 16, none, .eqv false 1 (.tmp 15) (.const (.nilPtr))⟩, ⟨some 17, none, .mov (.tmp 16)⟩, ⟨some 18, some (17, false), .mov (.tmp 2)⟩, ⟨some 19, some (17, false), .bin .neq (.tmp 18) (.const (.int .i64 0))⟩, ⟨some 20, none, .pick (.tmp 17) (.const (.bool true)) (.tmp 19)⟩])
  (.cond (.tmp 20)
   (.seq (.region [⟨some 0, none, .mov (.const (.bool false))⟩])
   .ret)
   .skip))
  (.seq (.region [⟨some 21, none, .mov (.tmp 1)⟩, ⟨some 22, none, .build [.int .i64 0, .int .i64 0, .int .i64 0] [(0, 1, (.const (.int .i64 1))), (1, 1, (.const (.int .i64 1)))]⟩, ⟨some 23, none, .build [.int .i64 0, .int .i64 0, .int .i64 0, .int .i64 0, .int .i64 0, .int .i64 0, .int .i64 0, .int .i64 0] [(0, 1, (.const (.int .i64 0))), (5, 3, (.tmp 22))]⟩, ⟨some 24, none, .call 40 [(.tmp 21), (.const (.int .i64 0)), (.tmp 23)]⟩])
  (.seq (.region [⟨some 25, none, .mov (.tmp 1)⟩, ⟨some 26, none, .build [.int .i64 0, .int .i64 0, .int .i64 0] [(1, 1, (.const (.int .i64 2)))]⟩, ⟨some 27, none, .build [.int .i64 0, .int .i64 0, .int .i64 0, .int .i64 0, .int .i64 0, .int .i64 0, .int .i64 0, .int .i64 0] [(0, 1, (.const (.int .i64 0))), (1, 1, (.const (.int .i64 1))), (5, 3, (.tmp 26))]⟩, ⟨some 28, none, .call 40 [(.tmp 25), (.const (.int .i64 0)), (.tmp 27)]⟩])
  (.seq (.region [⟨some 30, none, .mov (.tmp 1)⟩, ⟨some 31, none, .build [.int .i64 0, .int .i64 0, .int .i64 0, .int .i64 0, .int .i64 0, .int .i64 0, .int .i64 0, .int .i64 0] [(0, 1, (.const (.int .i64 2))), (2, 1, (.const (.int .i64 1)))]⟩, ⟨some 32, none, .call 40 [(.tmp 30), (.const (.int .i64 0)), (.tmp 31)]⟩, ⟨some 29, none, .mov (.tmp 32)⟩, ⟨some 33, none, .extract (.tmp 29) 0⟩, ⟨some 34, none, .extract (.tmp 29) 1⟩, ⟨some 3, none, .new [.nilSlice, .int .i64 0, .int .i64 0, .int .i64 0, .int .i64 0, .int .i64 0, .int .i64 0]⟩, ⟨none, none, .store 7 (.tmp 3) (.tmp 33)⟩, ⟨some 4, none, .mov (.tmp 34)⟩])
  (.seq (.region [⟨some 35, none, .mov (.tmp 1)⟩, ⟨some 36, none, .build [.int .i64 0, .int .i64 0, .int .i64 0, .int .i64 0, .int .i64 0, .int .i64 0, .int .i64 0, .int .i64 0] [(0, 1, (.const (.int .i64 6))), (1, 1, (.const (.int .i64 1)))]⟩, ⟨some 37, none, .call 40 [(.tmp 35), (.const (.int .i64 0)), (.tmp 36)]⟩])
  (.seq (.region [⟨some 38, none, .mov (.tmp 1)⟩, ⟨some 39, none, .call 14 [(.tmp 38)]⟩, ⟨some 5, none, .mov (.tmp 39)⟩])
  (.seq (.region [⟨some 40, none, .mov (.tmp 1)⟩, ⟨some 41, none, .build [.int .i64 0, .int .i64 0, .int .i64 0, .int .i64 0, .int .i64 0, .int .i64 0, .int .i64 0, .int .i64 0] [(0, 1, (.const (.int .i64 6)))]⟩, ⟨some 42, none, .call 40 [(.tmp 40), (.const (.int .i64 0)), (.tmp 41)]⟩])
  (.seq (.region [⟨some 43, none, .mov (.tmp 1)⟩, ⟨some 44, none, .call 14 [(.tmp 43)]⟩, ⟨some 6, none, .mov (.tmp 44)⟩])
  (.seq (.region [⟨some 45, none, .mov (.tmp 1)⟩, ⟨some 46, none, .build [.int .i64 0, .int .i64 0, .int .i64 0] [(0, 1, (.const (.int .i64 1))), (2, 1, (.const (.int .i64 1)))]⟩, ⟨some 47, none, .build [.int .i64 0, .int .i64 0, .int .i64 0, .int .i64 0, .int .i64 0, .int .i64 0, .int .i64 0, .int .i64 0] [(0, 1, (.const (.int .i64 0))), (5, 3, (.tmp 46))]⟩, ⟨some 48, none, .call 40 [(.tmp 45), (.const (.int .i64 0)), (.tmp 47)]⟩])
  (.seq (.region [⟨some 49, none, .mov (.tmp 1)⟩, ⟨some 50, none, .build [.int .i64 0, .int .i64 0, .int .i64 0] []⟩, ⟨some 51, none, .build [.int .i64 0, .int .i64 0, .int .i64 0, .int .i64 0, .int .i64 0, .int .i64 0, .int .i64 0, .int .i64 0] [(0, 1, (.const (.int .i64 0))), (1, 1, (.const (.int .i64 1))), (5, 3, (.tmp 50))]⟩, ⟨some 52, none, .call 40 [(.tmp 49), (.const (.int .i64 0)), (.tmp 51)]⟩])
  (.seq (.region [⟨some 53, none, .mov (.tmp 1)⟩, ⟨some 54, none, .build [.int .i64 0, .int .i64 0, .int .i64 0, .int .i64 0, .int .i64 0, .int .i64 0, .int .i64 0, .int .i64 0] [(0, 1, (.const (.int .i64 2))), (2, 1, (.const (.int .i64 1)))]⟩, ⟨some 55, none, .call 40 [(.tmp 53), (.const (.int .i64 0)), (.tmp 54)]⟩])
  (.seq (.region [⟨some 56, none, .mov (.tmp 1)⟩, ⟨some 57, none, .build [.int .i64 0, .int .i64 0, .int .i64 0, .int .i64 0, .int .i64 0, .int .i64 0, .int .i64 0, .int .i64 0] [(0, 1, (.const (.int .i64 6))), (1, 1, (.const (.int .i64 1)))]⟩, ⟨some 58, none, .call 40 [(.tmp 56), (.const (.int .i64 0)), (.tmp 57)]⟩])
  (.seq (.region [⟨some 59, none, .mov (.tmp 1)⟩, ⟨some 60, none, .call 14 [(.tmp 59)]⟩, ⟨some 61, none, .mov (.tmp 1)⟩, ⟨some 62, none, .call 29 [(.tmp 61)]⟩, ⟨some 7, none, .mov (.tmp 60)⟩, ⟨some 8, none, .mov (.tmp 62)⟩])
  (.seq (.region [⟨some 64, none, .mov (.tmp 1)⟩, ⟨some 65, none, .build [.int .i64 0, .int .i64 0, .int .i64 0, .int .i64 0, .int .i64 0, .int .i64 0, .int .i64 0, .int .i64 0] [(0, 1, (.const (.int .i64 1))), (1, 1, (.const (.int .i64 2)))]⟩, ⟨some 66, none, .call 40 [(.tmp 64), (.const (.int .i64 0)), (.tmp 65)]⟩, ⟨some 63, none, .mov (.tmp 66)⟩, ⟨some 67, none, .extract (.tmp 63) 0⟩, ⟨some 68, none, .extract (.tmp 63) 1⟩, ⟨some 9, none, .new [.nilSlice, .int .i64 0, .int .i64 0, .int .i64 0, .int .i64 0, .int .i64 0, .int .i64 0]⟩, ⟨none, none, .store 7 (.tmp 9) (.tmp 67)⟩, ⟨some 10, none, .mov (.tmp 68)⟩])
  (.seq (.region [⟨some 69, none, .mov (.tmp 4)⟩, ⟨some 70, none, .bin .eql (.tmp 69) (.const (.int .i64 0))⟩, ⟨some 71, none, .mov (.tmp 70)⟩, ⟨some 72, some (71, true), .field 1 (.tmp 3)⟩, ⟨some 73, some (71, true), .load false 1 (.tmp 72)⟩, ⟨some 74, some (71, true), .bin .eql (.tmp 73) (.const (.int .i64 1))⟩, ⟨some 75, none, .pick (.tmp 71) (.tmp 74) (.const (.bool false))⟩, ⟨some 76, none, .mov (.tmp 75)⟩, ⟨some 77, some (76, true), .field 4 (.tmp 3)⟩, ⟨some 78, some (76, true), .load false 1 (.tmp 77)⟩, ⟨some 79, some (76, true), .bin .eql (.tmp 78) (.const (.int .i64 2))⟩, ⟨some 80, none, .pick (.tmp 76) (.tmp 79) (.const (.bool false))⟩, ⟨some 81, none, .mov (.tmp 80)⟩, ⟨some 82, some (81, true), .mov (.tmp 5)⟩, ⟨some 83, some (81, true), .buildSlice 1 [.int .i64 0, .int .i64 0] 2 [(0, 1, (.const (.int .i64 1))), (1, 1, (.const (.int .i64 2)))]⟩, ⟨some 84, some (81, true), .call 26 [(.tmp 82), (.tmp 83)]⟩, ⟨some 85, none, .pick (.tmp 81) (.tmp 84) (.const (.bool false))⟩, ⟨some 86, none, .mov (.tmp 85)⟩, ⟨some 87, some (86, true), .mov (.tmp 6)⟩, ⟨some 88, some (86, true), .len (.tmp 87)⟩, ⟨some 89, some (86, true), .bin .eql (.tmp 88) (.const (.int .i64 0))⟩, ⟨some 90, none, .pick (.tmp 86) (.tmp 89) (.const (.bool false))⟩, ⟨some 91, none, .mov (.tmp 90)⟩, ⟨some 92, some (91, true), .mov (.tmp 7)⟩, ⟨some 93, some (91, true), .buildSlice 1 [.int .i64 0] 1 [(0, 1, (.const (.int .i64 3)))]⟩, ⟨some 94, some (91, true), .call 26 [(.tmp 92), (.tmp 93)]⟩, ⟨some 95, none, .pick (.tmp 91) (.tmp 94) (.const (.bool false))⟩, ⟨some 96, none, .mov (.tmp 95)⟩, ⟨some 97, some (96, true), .mov (.tmp 8)⟩, ⟨some 98, some (96, true), .bin .eql (.tmp 97) (.const (.int .i64 1))⟩, ⟨some 99, none, .pick (.tmp 96) (.tmp 98) (.const (.bool false))⟩, ⟨some 100, none, .mov (.tmp 99)⟩, ⟨some 101, some (100, true), .field 6 (.tmp 9)⟩, ⟨some 102, some (100, true), .load false 1 (.tmp 101)⟩, ⟨some 103, some (100, true), .bin .eql (.tmp 102) (.const (.int .i64 0))⟩, ⟨some 104, none, .pick (.tmp 100) (.tmp 103) (.const (.bool false))⟩, ⟨some 105, none, .mov (.tmp 104)⟩, ⟨some 106, some (105, true), .mov (.tmp 10)⟩, ⟨some 107, some (105, true), .bin .eql (.tmp 106) (.const (.int .i64 0))⟩, ⟨some 108, none, .pick (.tmp 105) (.tmp 107) (.const (.bool false))⟩, ⟨some 0, none, .mov (.tmp 108)⟩])
  .ret))))))))))))))))),
  [.tmp 0]⟩
theorem c13 : cprog Go.Proofs.Try.prog 13 = some C13 := by kernel_rfl
-- (*dustcart/model.Model).Kept
def C14_1 : CCode := .seq (.region [⟨some 13, none, .bin .lss (.tmp 12) (.tmp 11)⟩])
    (.seq (.cond (.tmp 13)
     .skip
     (.exit 0))
    (.seq (.block 1 (.seq (.region [⟨some 14, none, .mov (.tmp 12)⟩, ⟨some 15, none, .index 1 (.tmp 10) (.tmp 12)⟩, ⟨some 16, none, .load false 1 (.tmp 15)⟩, ⟨some 4, none, .mov (.tmp 14)⟩, ⟨some 5, none, .mov (.tmp 16)⟩])
     (.seq (.region [⟨some 17, none, .mov (.tmp 5)⟩])
     (.cond (.tmp 17)
      (.region [⟨some 18, none, .mov (.tmp 3)⟩, ⟨some 19, none, .mov (.tmp 4)⟩, ⟨some 20, none, .buildSlice 1 [.int .i64 0] 1 [(0, 1, (.tmp 19))]⟩, ⟨some 21, none, .append 1 (.tmp 18) (.tmp 20)⟩, ⟨some 3, none, .mov (.tmp 21)⟩])
      .skip))))
    (.region [⟨some 22, none, .bin .add (.tmp 12) (.const (.int .i64 1))⟩, ⟨some 12, none, .mov (.tmp 22)⟩])))
def C14 : CFunc := ⟨(.seq (.region [⟨some 2, none, .mov (.const (.nilSlice))⟩])
  (.seq (.seq (.region [⟨some 6, none, .mov (.tmp 0)⟩, ⟨some 7, none, .call 41 [(.tmp 6)]⟩, ⟨some 8, none, .not (.tmp 7)⟩])
  (.cond (.tmp 8)
   (.seq (.region [⟨some 2, none, .mov (.const (.nilSlice))⟩])
   .ret)
   .skip))
  (.seq (.region [⟨some 3, none, .mov (.const (.nilSlice))⟩])
  (.seq (.seq (.region [⟨some 9, none, .mov (.tmp 0)⟩, ⟨some 10, none, .call 42 [(.tmp 9)]⟩, ⟨some 11, none, .len (.tmp 10)⟩, ⟨some 12, none, .mov (.const (.int .i64 0))⟩])
  (.block 0 (.loop C14_1)))
  (.seq (.region [⟨some 23, none, .mov (.tmp 3)⟩, ⟨some 2, none, .mov (.tmp 23)⟩])
  .ret))))),
  [.tmp 2]⟩
theorem c14 : cprog Go.Proofs.Try.prog 14 = some C14 := by kernel_rfl
-- (*dustcart/model.Model).Shape
def C15 : CFunc := ⟨(.seq (.region [⟨some 4, none, .new [.int .i64 0, .int .i64 0, .int .i64 0]⟩, ⟨some 5, none, .mov (.const (.int .i64 0))⟩])
  (.seq (.region [⟨some 9, none, .mov (.tmp 0)⟩, ⟨some 10, none, .mov (.tmp 1)⟩, ⟨some 11, none, .call 43 [(.tmp 9), (.tmp 10)]⟩, ⟨some 8, none, .mov (.tmp 11)⟩, ⟨some 12, none, .extract (.tmp 8) 0⟩, ⟨some 13, none, .extract (.tmp 8) 1⟩, ⟨some 6, none, .mov (.tmp 12)⟩, ⟨some 7, none, .mov (.tmp 13)⟩])
  (.seq (.seq (.region [⟨some 14, none, .mov (.tmp 7)⟩, ⟨some 15, none, .bin .neq (.tmp 14) (.const (.int .i64 0))⟩])
  (.cond (.tmp 15)
   (.seq (.region [⟨some 16, none, .build [.int .i64 0, .int .i64 0, .int .i64 0] []⟩, ⟨some 17, none, .mov (.tmp 7)⟩, ⟨none, none, .store 3 (.tmp 4) (.tmp 16)⟩, ⟨some 5, none, .mov (.tmp 17)⟩])
   .ret)
   .skip))
  (.seq (.region [⟨some 18, none, .mov (.tmp 6)⟩, ⟨some 19, none, .nilCheck (.tmp 18)⟩, ⟨some 20, none, .field 0 (.tmp 19)⟩, ⟨some 21, none, .load true 3 (.tmp 20)⟩, ⟨none, none, .store 3 (.tmp 4) (.tmp 21)⟩, ⟨some 5, none, .mov (.const (.int .i64 0))⟩])
  .ret)))),
  [.cell 4 true 3, .tmp 5]⟩
theorem c15 : cprog Go.Proofs.Try.prog 15 = some C15 := by kernel_rfl
-- (*dustcart/model.Model).Ref
def C16 : CFunc := ⟨(.seq (.region [⟨some 6, none, .mov (.const (.int .i64 0))⟩, ⟨some 7, none, .mov (.const (.int .i64 0))⟩])
  (.seq (.region [⟨some 11, none, .mov (.tmp 0)⟩, ⟨some 12, none, .mov (.tmp 1)⟩, ⟨some 13, none, .call 43 [(.tmp 11), (.tmp 12)]⟩, ⟨some 10, none, .mov (.tmp 13)⟩, ⟨some 14, none, .extract (.tmp 10) 0⟩, ⟨some 15, none, .extract (.tmp 10) 1⟩, ⟨some 8, none, .mov (.tmp 14)⟩, ⟨some 9, none, .mov (.tmp 15)⟩])
  (.seq (.seq (.region [⟨some 16, none, .mov (.tmp 9)⟩, ⟨some 17, none, .bin .neq (.tmp 16) (.const (.int .i64 0))⟩])
  (.cond (.tmp 17)
   (.seq (.region [⟨some 18, none, .mov (.tmp 9)⟩, ⟨some 6, none, .mov (.const (.int .i64 0))⟩, ⟨some 7, none, .mov (.tmp 18)⟩])
   .ret)
   .skip))
  (.seq (.region [⟨some 19, none, .mov (.tmp 8)⟩, ⟨some 20, none, .nilCheck (.tmp 19)⟩, ⟨some 21, none, .field 3 (.tmp 20)⟩, ⟨some 22, none, .load false 1 (.tmp 21)⟩, ⟨some 23, none, .mov (.tmp 2)⟩, ⟨some 24, none, .call 44 [(.tmp 22), (.tmp 23)]⟩, ⟨some 25, none, .extract (.tmp 24) 0⟩, ⟨some 26, none, .extract (.tmp 24) 1⟩, ⟨some 6, none, .mov (.tmp 25)⟩, ⟨some 7, none, .mov (.tmp 26)⟩])
  .ret)))),
  [.tmp 6, .tmp 7]⟩
theorem c16 : cprog Go.Proofs.Try.prog 16 = some C16 := by kernel_rfl
end Go.Cs.Try

/- The compiled functions of the seat, part 1. -/
namespace Go.Cs.Try
open Go Go.Cs
set_option maxRecDepth 100000
-- (*dustcart/model.Model).SetRef
def C17 : CFunc := ⟨(.seq (.region [⟨some 8, none, .mov (.const (.int .i64 0))⟩])
  (.seq (.region [⟨some 14, none, .mov (.tmp 0)⟩, ⟨some 15, none, .mov (.tmp 1)⟩, ⟨some 16, none, .call 43 [(.tmp 14), (.tmp 15)]⟩, ⟨some 13, none, .mov (.tmp 16)⟩, ⟨some 17, none, .extract (.tmp 13) 0⟩, ⟨some 18, none, .extract (.tmp 13) 1⟩, ⟨some 9, none, .mov (.tmp 17)⟩, ⟨some 10, none, .mov (.tmp 18)⟩])
  (.seq (.seq (.region [⟨some 19, none, .mov (.tmp 10)⟩, ⟨some 20, none, .bin .neq (.tmp 19) (.const (.int .i64 0))⟩])
  (.cond (.tmp 20)
   (.seq (.region [⟨some 21, none, .mov (.tmp 10)⟩, ⟨some 8, none, .mov (.tmp 21)⟩])
   .ret)
   .skip))
  (.seq (.seq (.region [⟨some 23, none, .mov (.tmp 9)⟩, ⟨some 24, none, .nilCheck (.tmp 23)⟩, ⟨some 25, none, .field 3 (.tmp 24)⟩, ⟨some 26, none, .load false 1 (.tmp 25)⟩, ⟨some 27, none, .mov (.tmp 2)⟩, ⟨some 28, none, .call 44 [(.tmp 26), (.tmp 27)]⟩, ⟨some 22, none, .mov (.tmp 28)⟩, ⟨some 29, none, .extract (.tmp 22) 0⟩, ⟨some 30, none, .extract (.tmp 22) 1⟩, ⟨some 11, none, .mov (.tmp 29)⟩, ⟨some 12, none, .mov (.tmp 30)⟩])
  (.seq (.region [⟨some 31, none, .mov (.tmp 12)⟩, ⟨some 32, none, .bin .neq (.tmp 31) (.const (.int .i64 0))⟩, ⟨some 33, none, .mov (.tmp 32)⟩, ⟨some 34, some (33, false), .mov (.tmp 3)⟩, ⟨some 35, some (33, false), .bin .neq (.tmp 34) (.const (.int .i64 0))⟩, ⟨some 36, some (33, false), .mov (.tmp 35)⟩, ⟨some 37, some (36, true), .mov (.tmp 0)⟩, ⟨some 38, some (36, true), .mov (.tmp 3)⟩, ⟨some 39, some (36, true), .call 45 [(.tmp 37), (.tmp 38)]⟩, ⟨some 40, some (36, true), .not (.tmp 39)⟩, ⟨some 41, some (33, false), .pick (.tmp 36) (.tmp 40) (.const (.bool false))⟩, ⟨some 42, none, .pick (.tmp 33) (.const (.bool true)) (.tmp 41)⟩])
  (.cond (.tmp 42)
   (.seq (.region [⟨some 8, none, .mov (.const (.int .i64 1))⟩])
   .ret)
   .skip)))
  (.seq (.region [⟨some 43, none, .mov (.tmp 9)⟩, ⟨some 44, none, .nilCheck (.tmp 43)⟩, ⟨some 45, none, .field 3 (.tmp 44)⟩, ⟨some 46, none, .load false 1 (.tmp 45)⟩, ⟨some 47, none, .mov (.tmp 2)⟩, ⟨some 48, none, .mov (.tmp 3)⟩, ⟨some 49, none, .index 1 (.tmp 46) (.tmp 47)⟩, ⟨none, none, .store 1 (.tmp 49) (.tmp 48)⟩])
  (.seq (.region [⟨some 8, none, .mov (.const (.int .i64 0))⟩])
  .ret)))))),
  [.tmp 8]⟩
theorem c17 : cprog Go.Proofs.Try.prog 17 = some C17 := by kernel_rfl
-- (*dustcart/model.Model).Push
def C18 : CFunc := ⟨(.seq (.region [⟨some 4, none, .mov (.const (.int .i64 0))⟩])
  (.seq (.block 0 (.seq (.region [⟨some 6, none, .mov (.tmp 0)⟩, ⟨some 7, none, .call 41 [(.tmp 6)]⟩, ⟨some 8, none, .not (.tmp 7)⟩, ⟨some 5, none, .mov (.tmp 8)⟩])
   (.cond (.tmp 5)
    (.seq (.region [⟨some 4, none, .mov (.const (.int .i64 5))⟩])
    .ret)
    (.seq (.region [⟨some 10, none, .mov (.tmp 0)⟩, ⟨some 11, none, .mov (.tmp 1)⟩, ⟨some 12, none, .call 45 [(.tmp 10), (.tmp 11)]⟩, ⟨some 13, none, .not (.tmp 12)⟩, ⟨some 9, none, .mov (.tmp 13)⟩])
    (.cond (.tmp 9)
     (.seq (.region [⟨some 4, none, .mov (.const (.int .i64 4))⟩])
     .ret)
     (.seq (.region [⟨some 15, none, .mov (.tmp 0)⟩, ⟨some 16, none, .nilCheck (.tmp 15)⟩, ⟨some 17, none, .field 2 (.tmp 16)⟩, ⟨some 18, none, .load false 1 (.tmp 17)⟩, ⟨some 19, none, .len (.tmp 18)⟩, ⟨some 20, none, .bin .eql (.tmp 19) (.const (.int .i64 64))⟩, ⟨some 14, none, .mov (.tmp 20)⟩])
     (.cond (.tmp 14)
      (.seq (.region [⟨some 4, none, .mov (.const (.int .i64 6))⟩])
      .ret)
      .skip)))))))
  (.seq (.region [⟨some 21, none, .mov (.tmp 0)⟩, ⟨some 22, none, .mov (.tmp 0)⟩, ⟨some 23, none, .nilCheck (.tmp 22)⟩, ⟨some 24, none, .field 2 (.tmp 23)⟩, ⟨some 25, none, .load false 1 (.tmp 24)⟩, ⟨some 26, none, .mov (.tmp 1)⟩, ⟨some 27, none, .buildSlice 1 [.int .i64 0] 1 [(0, 1, (.tmp 26))]⟩, ⟨some 28, none, .append 1 (.tmp 25) (.tmp 27)⟩, ⟨some 29, none, .nilCheck (.tmp 21)⟩, ⟨some 30, none, .field 2 (.tmp 29)⟩, ⟨none, none, .store 1 (.tmp 30) (.tmp 28)⟩])
  (.seq (.region [⟨some 4, none, .mov (.const (.int .i64 0))⟩])
  .ret)))),
  [.tmp 4]⟩
theorem c18 : cprog Go.Proofs.Try.prog 18 = some C18 := by kernel_rfl
-- dustcart/dustcartlaw04.kept
def C22 : CFunc := ⟨(.seq (.region [⟨some 2, none, .mov (.const (.int .i64 0))⟩])
  (.seq (.seq (.region [⟨some 3, none, .mov (.tmp 0)⟩, ⟨some 4, none, .call 41 [(.tmp 3)]⟩, ⟨some 5, none, .not (.tmp 4)⟩])
  (.cond (.tmp 5)
   (.seq (.region [⟨some 2, none, .mov (.const (.int .i64 0))⟩])
   .ret)
   .skip))
  (.seq (.region [⟨some 6, none, .mov (.tmp 0)⟩, ⟨some 7, none, .nilCheck (.tmp 6)⟩, ⟨some 8, none, .field 0 (.tmp 7)⟩, ⟨some 9, none, .load false 1 (.tmp 8)⟩, ⟨some 10, none, .len (.tmp 9)⟩, ⟨some 2, none, .mov (.tmp 10)⟩])
  .ret))),
  [.tmp 2]⟩
theorem c22 : cprog Go.Proofs.Try.prog 22 = some C22 := by kernel_rfl
-- (*dustcart/model.Model).Births
def C23 : CFunc := ⟨(.seq (.region [⟨some 2, none, .mov (.const (.int .i64 0))⟩])
  (.seq (.seq (.region [⟨some 3, none, .mov (.tmp 0)⟩, ⟨some 4, none, .call 41 [(.tmp 3)]⟩, ⟨some 5, none, .not (.tmp 4)⟩])
  (.cond (.tmp 5)
   (.seq (.region [⟨some 2, none, .mov (.const (.int .i64 0))⟩])
   .ret)
   .skip))
  (.seq (.region [⟨some 6, none, .mov (.tmp 0)⟩, ⟨some 7, none, .nilCheck (.tmp 6)⟩, ⟨some 8, none, .field 3 (.tmp 7)⟩, ⟨some 9, none, .load false 1 (.tmp 8)⟩, ⟨some 10, none, .len (.tmp 9)⟩, ⟨some 2, none, .mov (.tmp 10)⟩])
  .ret))),
  [.tmp 2]⟩
theorem c23 : cprog Go.Proofs.Try.prog 23 = some C23 := by kernel_rfl
-- dustcart/dustcartlaw04.contents
def C25 : CFunc := ⟨(.seq (.region [⟨some 6, none, .mov (.const (.int .i64 0))⟩, ⟨some 7, none, .mov (.const (.int .i64 0))⟩])
  (.seq (.block 0 (.seq (.region [⟨some 9, none, .mov (.tmp 0)⟩, ⟨some 10, none, .call 41 [(.tmp 9)]⟩, ⟨some 11, none, .not (.tmp 10)⟩, ⟨some 8, none, .mov (.tmp 11)⟩])
   (.cond (.tmp 8)
    (.seq (.region [⟨some 6, none, .mov (.const (.int .i64 0))⟩, ⟨some 7, none, .mov (.const (.int .i64 5))⟩])
    .ret)
    (.seq (.region [⟨some 13, none, .mov (.tmp 1)⟩, ⟨some 14, none, .bin .lss (.tmp 13) (.const (.int .i64 0))⟩, ⟨some 15, none, .mov (.tmp 14)⟩, ⟨some 16, some (15, false), .mov (.tmp 1)⟩, ⟨some 17, some (15, false), .mov (.tmp 0)⟩, ⟨some 18, some (15, false), .nilCheck (.tmp 17)⟩, ⟨some 19, some (15, false), .field 0 (.tmp 18)⟩, ⟨some 20, some (15, false), .load false 1 (.tmp 19)⟩, ⟨some 21, some (15, false), .len (.tmp 20)⟩, ⟨some 22, some (15, false), .bin .geq (.tmp 16) (.tmp 21)⟩, ⟨some 23, none, .pick (.tmp 15) (.const (.bool true)) (.tmp 22)⟩, ⟨some 24, none, .mov (.tmp 23)⟩, ⟨some 25, some (24, false), .mov (.tmp 2)⟩, ⟨some 26, some (24, false), .call 48 [(.tmp 25)]⟩, ⟨some 27, some (24, false), .not (.tmp 26)⟩, ⟨some 28, none, .pick (.tmp 24) (.const (.bool true)) (.tmp 27)⟩, ⟨some 12, none, .mov (.tmp 28)⟩])
    (.cond (.tmp 12)
     (.seq (.region [⟨some 6, none, .mov (.const (.int .i64 0))⟩, ⟨some 7, none, .mov (.const (.int .i64 1))⟩])
     .ret)
     .skip)))))
  (.seq (.region [⟨some 29, none, .mov (.tmp 0)⟩, ⟨some 30, none, .nilCheck (.tmp 29)⟩, ⟨some 31, none, .field 0 (.tmp 30)⟩, ⟨some 32, none, .load false 1 (.tmp 31)⟩, ⟨some 33, none, .mov (.tmp 1)⟩, ⟨some 34, none, .index 1 (.tmp 32) (.tmp 33)⟩, ⟨some 35, none, .load false 1 (.tmp 34)⟩, ⟨some 36, none, .mov (.tmp 2)⟩, ⟨some 37, none, .index 1 (.tmp 35) (.tmp 36)⟩, ⟨some 38, none, .load false 1 (.tmp 37)⟩, ⟨some 6, none, .mov (.tmp 38)⟩, ⟨some 7, none, .mov (.const (.int .i64 0))⟩])
  .ret))),
  [.tmp 6, .tmp 7]⟩
theorem c25 : cprog Go.Proofs.Try.prog 25 = some C25 := by kernel_rfl
-- dustcart/dustcartlaw04.ints
def C26_1 : CCode := .seq (.seq (.region [⟨some 11, none, .mov (.tmp 5)⟩, ⟨some 12, none, .mov (.tmp 0)⟩, ⟨some 13, none, .len (.tmp 12)⟩, ⟨some 14, none, .bin .lss (.tmp 11) (.tmp 13)⟩])
    (.cond (.tmp 14)
     .skip
     (.exit 0)))
    (.seq (.block 1 (.seq (.dregion [⟨⟨some 17, none, .mov (.tmp 0)⟩, 0, 0, 0⟩, ⟨⟨some 18, none, .mov (.tmp 5)⟩, 1, 0, 0⟩, ⟨⟨some 19, none, .index 1 (.tmp 17) (.tmp 18)⟩, 2, 0, 0⟩, ⟨⟨some 20, none, .load false 1 (.tmp 19)⟩, 3, 1, 0⟩, ⟨⟨some 21, none, .mov (.tmp 1)⟩, 4, 0, 0⟩, ⟨⟨some 22, none, .mov (.tmp 5)⟩, 5, 0, 0⟩, ⟨⟨some 23, none, .index 1 (.tmp 21) (.tmp 22)⟩, 6, 0, 0⟩, ⟨⟨some 24, none, .load false 1 (.tmp 23)⟩, 7, 1, 0⟩, ⟨⟨some 25, none, .bin .neq (.tmp 20) (.tmp 24)⟩, 8, 0, 0⟩])
     (.cond (.tmp 25)
      (.seq (.region [⟨some 4, none, .mov (.const (.bool false))⟩])
      .ret)
      .skip)))
    (.region [⟨some 15, none, .mov (.tmp 5)⟩, ⟨some 16, none, .bin .add (.tmp 15) (.const (.int .i64 1))⟩, ⟨some 5, none, .mov (.tmp 16)⟩]))
def C26 : CFunc := ⟨(.seq (.region [⟨some 4, none, .mov (.const (.bool false))⟩])
  (.seq (.seq (.region [⟨some 6, none, .mov (.tmp 0)⟩, ⟨some 7, none, .len (.tmp 6)⟩, ⟨some 8, none, .mov (.tmp 1)⟩, ⟨some 9, none, .len (.tmp 8)⟩, ⟨some 10, none, .bin .neq (.tmp 7) (.tmp 9)⟩])
  (.cond (.tmp 10)
   (.seq (.region [⟨some 4, none, .mov (.const (.bool false))⟩])
   .ret)
   .skip))
  (.seq (.seq (.region [⟨some 5, none, .mov (.const (.int .i64 0))⟩])
  (.block 0 (.loop C26_1)))
  (.seq (.region [⟨some 4, none, .mov (.const (.bool true))⟩])
  .ret)))),
  [.tmp 4]⟩
theorem c26 : cprog Go.Proofs.Try.prog 26 = some C26 := by kernel_rfl
-- dustcart/dustcartlaw04.keeps
def C29_1 : CCode := .seq (.region [⟨some 21, none, .bin .lss (.tmp 20) (.tmp 19)⟩])
    (.seq (.cond (.tmp 21)
     .skip
     (.exit 0))
    (.seq (.block 1 (.seq (.region [⟨some 22, none, .mov (.tmp 20)⟩, ⟨some 23, none, .index 5 (.tmp 18) (.tmp 20)⟩, ⟨some 24, none, .load true 5 (.tmp 23)⟩, ⟨some 6, none, .new [.int .i64 0, .int .i64 0, .int .i64 0, .nilSlice, .nilSlice]⟩, ⟨some 5, none, .mov (.tmp 22)⟩, ⟨none, none, .store 5 (.tmp 6) (.tmp 24)⟩])
     (.seq (.dregion [⟨⟨some 27, none, .field 0 (.tmp 6)⟩, 2, 0, 0⟩, ⟨⟨some 28, none, .load true 3 (.tmp 27)⟩, 3, 1, 0⟩, ⟨⟨some 29, none, .call 50 [(.tmp 28)]⟩, 4, 3, 0⟩, ⟨⟨some 25, none, .field 3 (.tmp 6)⟩, 0, 0, 0⟩, ⟨⟨some 26, none, .load false 1 (.tmp 25)⟩, 1, 1, 0⟩, ⟨⟨some 30, none, .slice 1 (.tmp 26) none (some (.tmp 29)) none⟩, 5, 0, 1⟩, ⟨⟨some 7, none, .mov (.tmp 30)⟩, 6, 0, 1⟩])
     (.seq (.seq (.region [⟨some 31, none, .mov (.tmp 3)⟩, ⟨some 32, none, .mov (.tmp 5)⟩, ⟨some 33, none, .bin .add (.tmp 32) (.const (.int .i64 1))⟩, ⟨some 34, none, .index 1 (.tmp 31) (.tmp 33)⟩, ⟨some 35, none, .load false 1 (.tmp 34)⟩, ⟨some 36, none, .not (.tmp 35)⟩, ⟨some 37, none, .mov (.tmp 36)⟩, ⟨some 38, some (37, false), .mov (.tmp 7)⟩, ⟨some 39, some (37, false), .len (.tmp 38)⟩, ⟨some 40, some (37, false), .bin .eql (.tmp 39) (.const (.int .i64 0))⟩, ⟨some 41, none, .pick (.tmp 37) (.const (.bool true)) (.tmp 40)⟩, ⟨some 42, none, .mov (.tmp 41)⟩, ⟨some 43, some (42, false), .mov (.tmp 3)⟩, ⟨some 44, some (42, false), .mov (.tmp 7)⟩, ⟨some 45, some (42, false), .index 1 (.tmp 44) (.const (.int .i64 0))⟩, ⟨some 46, some (42, false), .load false 1 (.tmp 45)⟩, ⟨some 47, some (42, false), .index 1 (.tmp 43) (.tmp 46)⟩, ⟨some 48, some (42, false), .load false 1 (.tmp 47)⟩, ⟨some 49, none, .pick (.tmp 42) (.const (.bool true)) (.tmp 48)⟩])
     (.cond (.tmp 49)
      (.exit 1)
      .skip))
     (.seq (.region [⟨some 50, none, .mov (.tmp 7)⟩, ⟨some 51, none, .call 51 [(.tmp 50), (.const (.func 52 []))]⟩])
     (.cond (.tmp 51)
      (.seq (.region [⟨some 52, none, .mov (.tmp 7)⟩, ⟨none, none, .clear [.int .i64 0] (.tmp 52)⟩])
      (.region [⟨some 53, none, .mov (.tmp 4)⟩, ⟨some 54, none, .bin .add (.tmp 53) (.const (.int .i64 1))⟩, ⟨some 4, none, .mov (.tmp 54)⟩]))
      .skip))))))
    (.region [⟨some 55, none, .bin .add (.tmp 20) (.const (.int .i64 1))⟩, ⟨some 20, none, .mov (.tmp 55)⟩])))
def C29 : CFunc := ⟨(.seq (.region [⟨some 2, none, .mov (.const (.int .i64 0))⟩])
  (.seq (.seq (.region [⟨some 8, none, .mov (.tmp 0)⟩, ⟨some 9, none, .call 41 [(.tmp 8)]⟩, ⟨some 10, none, .not (.tmp 9)⟩])
  (.cond (.tmp 10)
   (.seq (.region [⟨some 2, none, .mov (.const (.int .i64 0))⟩])
   .ret)
   .skip))
  (.seq (.region [⟨some 11, none, .mov (.tmp 0)⟩, ⟨some 12, none, .call 42 [(.tmp 11)]⟩, ⟨some 3, none, .mov (.tmp 12)⟩])
  (.seq (.region [⟨some 13, none, .mov (.tmp 3)⟩, ⟨some 14, none, .index 1 (.tmp 13) (.const (.int .i64 0))⟩, ⟨none, none, .store 1 (.tmp 14) (.const (.bool false))⟩])
  (.seq (.region [⟨some 4, none, .mov (.const (.int .i64 0))⟩])
  (.seq (.seq (.region [⟨some 15, none, .mov (.tmp 0)⟩, ⟨some 16, none, .nilCheck (.tmp 15)⟩, ⟨some 17, none, .field 3 (.tmp 16)⟩, ⟨some 18, none, .load false 1 (.tmp 17)⟩, ⟨some 19, none, .len (.tmp 18)⟩, ⟨some 20, none, .mov (.const (.int .i64 0))⟩])
  (.block 0 (.loop C29_1)))
  (.seq (.region [⟨some 56, none, .mov (.tmp 4)⟩, ⟨some 2, none, .mov (.tmp 56)⟩])
  .ret))))))),
  [.tmp 2]⟩
theorem c29 : cprog Go.Proofs.Try.prog 29 = some C29 := by kernel_rfl
-- dustcart/dustcartlaw04.great
def C30 : CFunc := ⟨(.seq (.region [⟨some 2, none, .mov (.const (.bool false))⟩])
  (.seq (.region [⟨some 3, none, .mov (.tmp 0)⟩, ⟨some 4, none, .len (.tmp 3)⟩, ⟨some 5, none, .bin .gtr (.tmp 4) (.const (.int .i64 120))⟩, ⟨some 2, none, .mov (.tmp 5)⟩])
  .ret)),
  [.tmp 2]⟩
theorem c30 : cprog Go.Proofs.Try.prog 30 = some C30 := by kernel_rfl
-- dustcart/model.New
def C31_1 : CCode := .seq (.region [⟨some 16, none, .bin .lss (.tmp 15) (.tmp 14)⟩])
    (.seq (.cond (.tmp 16)
     .skip
     (.exit 0))
    (.seq (.block 1 (.dregion [⟨⟨some 18, none, .mov (.tmp 4)⟩, 1, 0, 0⟩, ⟨⟨some 19, none, .nilCheck (.tmp 18)⟩, 2, 0, 0⟩, ⟨⟨some 20, none, .field 0 (.tmp 19)⟩, 3, 0, 0⟩, ⟨⟨some 21, none, .load false 1 (.tmp 20)⟩, 4, 1, 0⟩, ⟨⟨some 22, none, .makeSlice 1 [.int .i64 0] (.const (.int .i64 16)) (.const (.int .i64 16))⟩, 5, 0, 0⟩, ⟨⟨some 23, none, .buildSlice 1 [.nilSlice] 1 [(0, 1, (.tmp 22))]⟩, 6, 0, 0⟩, ⟨⟨some 24, none, .append 1 (.tmp 21) (.tmp 23)⟩, 7, 3, 0⟩, ⟨⟨some 17, none, .mov (.tmp 4)⟩, 0, 0, 0⟩, ⟨⟨some 25, none, .nilCheck (.tmp 17)⟩, 8, 0, 1⟩, ⟨⟨some 26, none, .field 0 (.tmp 25)⟩, 9, 0, 1⟩, ⟨⟨none, none, .store 1 (.tmp 26) (.tmp 24)⟩, 10, 3, 1⟩]))
    (.region [⟨some 27, none, .bin .add (.tmp 15) (.const (.int .i64 1))⟩, ⟨some 15, none, .mov (.tmp 27)⟩])))
def C31 : CFunc := ⟨(.seq (.region [⟨some 2, none, .mov (.const (.nilPtr))⟩, ⟨some 3, none, .mov (.const (.int .i64 0))⟩])
  (.seq (.seq (.region [⟨some 5, none, .mov (.tmp 0)⟩, ⟨some 6, none, .bin .lss (.tmp 5) (.const (.int .i64 1))⟩, ⟨some 7, none, .mov (.tmp 6)⟩, ⟨some 8, some (7, false), .mov (.tmp 0)⟩, ⟨some 9, some (7, false), .bin .gtr (.tmp 8) (.const (.int .i64 4))⟩, ⟨some 10, none, .pick (.tmp 7) (.const (.bool true)) (.tmp 9)⟩])
  (.cond (.tmp 10)
   (.seq (.region [⟨some 2, none, .mov (.const (.nilPtr))⟩, ⟨some 3, none, .mov (.const (.int .i64 1))⟩])
   .ret)
   .skip))
  (.seq (.region [⟨some 11, none, .makeSlice 1 [.int .i64 0] (.const (.int .i64 16)) (.const (.int .i64 16))⟩, ⟨some 12, none, .build [.nilSlice, .nilSlice, .nilSlice, .nilSlice] [(1, 1, (.tmp 11))]⟩, ⟨some 13, none, .box (.tmp 12)⟩, ⟨some 4, none, .mov (.tmp 13)⟩])
  (.seq (.seq (.region [⟨some 14, none, .mov (.tmp 0)⟩, ⟨some 15, none, .mov (.const (.int .i64 0))⟩])
  (.block 0 (.loop C31_1)))
  (.seq (.region [⟨some 28, none, .mov (.tmp 4)⟩, ⟨some 2, none, .mov (.tmp 28)⟩, ⟨some 3, none, .mov (.const (.int .i64 0))⟩])
  .ret))))),
  [.tmp 2, .tmp 3]⟩
theorem c31 : cprog Go.Proofs.Try.prog 31 = some C31 := by kernel_rfl
-- dustcart/dustcartref04.New
def C32_1 : CCode := .seq (.seq (.region [⟨some 15, none, .mov (.tmp 5)⟩, ⟨some 16, none, .mov (.tmp 0)⟩, ⟨some 17, none, .bin .lss (.tmp 15) (.tmp 16)⟩])
    (.cond (.tmp 17)
     .skip
     (.exit 0)))
    (.seq (.block 1 (.dregion [⟨⟨some 21, none, .mov (.tmp 4)⟩, 1, 0, 0⟩, ⟨⟨some 22, none, .nilCheck (.tmp 21)⟩, 2, 0, 0⟩, ⟨⟨some 23, none, .field 0 (.tmp 22)⟩, 3, 0, 0⟩, ⟨⟨some 24, none, .load false 1 (.tmp 23)⟩, 4, 1, 0⟩, ⟨⟨some 25, none, .makeSlice 1 [.int .i64 0] (.const (.int .i64 16)) (.const (.int .i64 16))⟩, 5, 0, 0⟩, ⟨⟨some 26, none, .buildSlice 1 [.nilSlice] 1 [(0, 1, (.tmp 25))]⟩, 6, 0, 0⟩, ⟨⟨some 27, none, .append 1 (.tmp 24) (.tmp 26)⟩, 7, 3, 0⟩, ⟨⟨some 20, none, .mov (.tmp 4)⟩, 0, 0, 0⟩, ⟨⟨some 28, none, .nilCheck (.tmp 20)⟩, 8, 0, 1⟩, ⟨⟨some 29, none, .field 0 (.tmp 28)⟩, 9, 0, 1⟩, ⟨⟨none, none, .store 1 (.tmp 29) (.tmp 27)⟩, 10, 3, 1⟩]))
    (.region [⟨some 18, none, .mov (.tmp 5)⟩, ⟨some 19, none, .bin .add (.tmp 18) (.const (.int .i64 1))⟩, ⟨some 5, none, .mov (.tmp 19)⟩]))
def C32 : CFunc := ⟨(.seq (.region [⟨some 2, none, .mov (.const (.nilPtr))⟩, ⟨some 3, none, .mov (.const (.int .i64 0))⟩])
  (.seq (.seq (.region [⟨some 6, none, .mov (.tmp 0)⟩, ⟨some 7, none, .bin .lss (.tmp 6) (.const (.int .i64 1))⟩, ⟨some 8, none, .mov (.tmp 7)⟩, ⟨some 9, some (8, false), .mov (.tmp 0)⟩, ⟨some 10, some (8, false), .bin .gtr (.tmp 9) (.const (.int .i64 4))⟩, ⟨some 11, none, .pick (.tmp 8) (.const (.bool true)) (.tmp 10)⟩])
  (.cond (.tmp 11)
   (.seq (.region [⟨some 2, none, .mov (.const (.nilPtr))⟩, ⟨some 3, none, .mov (.const (.int .i64 1))⟩])
   .ret)
   .skip))
  (.seq (.region [⟨some 12, none, .makeSlice 1 [.int .i64 0] (.const (.int .i64 16)) (.const (.int .i64 16))⟩, ⟨some 13, none, .build [.nilSlice, .nilSlice, .nilSlice, .nilSlice] [(1, 1, (.tmp 12))]⟩, ⟨some 14, none, .box (.tmp 13)⟩, ⟨some 4, none, .mov (.tmp 14)⟩])
  (.seq (.seq (.region [⟨some 5, none, .mov (.const (.int .i64 0))⟩])
  (.block 0 (.loop C32_1)))
  (.seq (.region [⟨some 30, none, .mov (.tmp 4)⟩, ⟨some 2, none, .mov (.tmp 30)⟩, ⟨some 3, none, .mov (.const (.int .i64 0))⟩])
  .ret))))),
  [.tmp 2, .tmp 3]⟩
theorem c32 : cprog Go.Proofs.Try.prog 32 = some C32 := by kernel_rfl
-- (*dustcart/model.Model).Clone
def C33_1 : CCode := .seq (.region [⟨some 50, none, .bin .lss (.tmp 49) (.tmp 48)⟩])
    (.seq (.cond (.tmp 50)
     .skip
     (.exit 2))
    (.seq (.block 3 (.seq (.region [⟨some 51, none, .index 5 (.tmp 47) (.tmp 49)⟩, ⟨some 52, none, .load true 5 (.tmp 51)⟩, ⟨some 7, none, .new [.int .i64 0, .int .i64 0, .int .i64 0, .nilSlice, .nilSlice]⟩, ⟨none, none, .store 5 (.tmp 7) (.tmp 52)⟩])
     (.dregion [⟨⟨some 60, none, .field 3 (.tmp 7)⟩, 7, 0, 0⟩, ⟨⟨some 61, none, .load false 1 (.tmp 60)⟩, 8, 1, 0⟩, ⟨⟨some 62, none, .call 53 [(.tmp 61)]⟩, 9, 3, 0⟩, ⟨⟨some 63, none, .field 4 (.tmp 7)⟩, 10, 0, 0⟩, ⟨⟨some 64, none, .load false 1 (.tmp 63)⟩, 11, 1, 0⟩, ⟨⟨some 65, none, .call 53 [(.tmp 64)]⟩, 12, 3, 1⟩, ⟨⟨some 54, none, .mov (.tmp 3)⟩, 1, 0, 0⟩, ⟨⟨some 55, none, .nilCheck (.tmp 54)⟩, 2, 0, 0⟩, ⟨⟨some 56, none, .field 3 (.tmp 55)⟩, 3, 0, 0⟩, ⟨⟨some 57, none, .load false 1 (.tmp 56)⟩, 4, 1, 0⟩, ⟨⟨some 58, none, .field 0 (.tmp 7)⟩, 5, 0, 0⟩, ⟨⟨some 59, none, .load true 3 (.tmp 58)⟩, 6, 1, 0⟩, ⟨⟨some 66, none, .build [.int .i64 0, .int .i64 0, .int .i64 0, .nilSlice, .nilSlice] [(0, 3, (.tmp 59)), (3, 1, (.tmp 62)), (4, 1, (.tmp 65))]⟩, 13, 0, 2⟩, ⟨⟨some 67, none, .buildSlice 5 [.int .i64 0, .int .i64 0, .int .i64 0, .nilSlice, .nilSlice] 1 [(0, 5, (.tmp 66))]⟩, 14, 0, 2⟩, ⟨⟨some 68, none, .append 5 (.tmp 57) (.tmp 67)⟩, 15, 3, 2⟩, ⟨⟨some 53, none, .mov (.tmp 3)⟩, 0, 0, 0⟩, ⟨⟨some 69, none, .nilCheck (.tmp 53)⟩, 16, 0, 3⟩, ⟨⟨some 70, none, .field 3 (.tmp 69)⟩, 17, 0, 3⟩, ⟨⟨none, none, .store 1 (.tmp 70) (.tmp 68)⟩, 18, 3, 3⟩])))
    (.region [⟨some 71, none, .bin .add (.tmp 49) (.const (.int .i64 1))⟩, ⟨some 49, none, .mov (.tmp 71)⟩])))
def C33_2 : CCode := .seq (.region [⟨some 29, none, .bin .lss (.tmp 28) (.tmp 27)⟩])
    (.seq (.cond (.tmp 29)
     .skip
     (.exit 0))
    (.seq (.block 1 (.seq (.region [⟨some 30, none, .index 1 (.tmp 26) (.tmp 28)⟩, ⟨some 31, none, .load false 1 (.tmp 30)⟩, ⟨some 5, none, .mov (.tmp 31)⟩])
     (.dregion [⟨⟨some 37, none, .mov (.tmp 5)⟩, 5, 0, 0⟩, ⟨⟨some 38, none, .call 53 [(.tmp 37)]⟩, 6, 3, 0⟩, ⟨⟨some 33, none, .mov (.tmp 3)⟩, 1, 0, 0⟩, ⟨⟨some 34, none, .nilCheck (.tmp 33)⟩, 2, 0, 0⟩, ⟨⟨some 35, none, .field 0 (.tmp 34)⟩, 3, 0, 0⟩, ⟨⟨some 36, none, .load false 1 (.tmp 35)⟩, 4, 1, 0⟩, ⟨⟨some 39, none, .buildSlice 1 [.nilSlice] 1 [(0, 1, (.tmp 38))]⟩, 7, 0, 1⟩, ⟨⟨some 40, none, .append 1 (.tmp 36) (.tmp 39)⟩, 8, 3, 1⟩, ⟨⟨some 32, none, .mov (.tmp 3)⟩, 0, 0, 0⟩, ⟨⟨some 41, none, .nilCheck (.tmp 32)⟩, 9, 0, 2⟩, ⟨⟨some 42, none, .field 0 (.tmp 41)⟩, 10, 0, 2⟩, ⟨⟨none, none, .store 1 (.tmp 42) (.tmp 40)⟩, 11, 3, 2⟩])))
    (.region [⟨some 43, none, .bin .add (.tmp 28) (.const (.int .i64 1))⟩, ⟨some 28, none, .mov (.tmp 43)⟩])))
def C33 : CFunc := ⟨(.seq (.region [⟨some 2, none, .mov (.const (.nilPtr))⟩])
  (.seq (.seq (.region [⟨some 8, none, .mov (.tmp 0)⟩, ⟨some 9, none, .call 41 [(.tmp 8)]⟩, ⟨some 10, none, .not (.tmp 9)⟩])
  (.cond (.tmp 10)
   (.seq (.region [⟨some 2, none, .mov (.const (.nilPtr))⟩])
   .ret)
   .skip))
  (.seq (.dregion [⟨⟨some 11, none, .mov (.tmp 0)⟩, 0, 0, 0⟩, ⟨⟨some 12, none, .nilCheck (.tmp 11)⟩, 1, 0, 0⟩, ⟨⟨some 13, none, .field 1 (.tmp 12)⟩, 2, 0, 0⟩, ⟨⟨some 14, none, .load false 1 (.tmp 13)⟩, 3, 1, 0⟩, ⟨⟨some 15, none, .call 53 [(.tmp 14)]⟩, 4, 3, 0⟩, ⟨⟨some 16, none, .mov (.tmp 0)⟩, 5, 0, 0⟩, ⟨⟨some 17, none, .nilCheck (.tmp 16)⟩, 6, 0, 0⟩, ⟨⟨some 18, none, .field 2 (.tmp 17)⟩, 7, 0, 0⟩, ⟨⟨some 19, none, .load false 1 (.tmp 18)⟩, 8, 1, 0⟩, ⟨⟨some 20, none, .call 53 [(.tmp 19)]⟩, 9, 3, 1⟩, ⟨⟨some 21, none, .build [.nilSlice, .nilSlice, .nilSlice, .nilSlice] [(1, 1, (.tmp 15)), (2, 1, (.tmp 20))]⟩, 10, 0, 2⟩, ⟨⟨some 22, none, .box (.tmp 21)⟩, 11, 0, 2⟩, ⟨⟨some 3, none, .mov (.tmp 22)⟩, 12, 0, 2⟩])
  (.seq (.seq (.region [⟨some 23, none, .mov (.tmp 0)⟩, ⟨some 24, none, .nilCheck (.tmp 23)⟩, ⟨some 25, none, .field 0 (.tmp 24)⟩, ⟨some 26, none, .load false 1 (.tmp 25)⟩, ⟨some 27, none, .len (.tmp 26)⟩, ⟨some 28, none, .mov (.const (.int .i64 0))⟩])
  (.block 0 (.loop C33_2)))
  (.seq (.seq (.region [⟨some 44, none, .mov (.tmp 0)⟩, ⟨some 45, none, .nilCheck (.tmp 44)⟩, ⟨some 46, none, .field 3 (.tmp 45)⟩, ⟨some 47, none, .load false 1 (.tmp 46)⟩, ⟨some 48, none, .len (.tmp 47)⟩, ⟨some 49, none, .mov (.const (.int .i64 0))⟩])
  (.block 2 (.loop C33_1)))
  (.seq (.region [⟨some 72, none, .mov (.tmp 3)⟩, ⟨some 2, none, .mov (.tmp 72)⟩])
  .ret)))))),
  [.tmp 2]⟩
theorem c33 : cprog Go.Proofs.Try.prog 33 = some C33 := by kernel_rfl
-- (*dustcart/dustcartref04.Model).Clone
def C34_1 : CCode := .seq (.seq (.region [⟨some 51, none, .mov (.tmp 5)⟩, ⟨some 52, none, .mov (.tmp 0)⟩, ⟨some 53, none, .nilCheck (.tmp 52)⟩, ⟨some 54, none, .field 3 (.tmp 53)⟩, ⟨some 55, none, .load false 1 (.tmp 54)⟩, ⟨some 56, none, .len (.tmp 55)⟩, ⟨some 57, none, .bin .lss (.tmp 51) (.tmp 56)⟩])
    (.cond (.tmp 57)
     .skip
     (.exit 2)))
    (.seq (.block 3 (.seq (.region [⟨some 60, none, .mov (.tmp 0)⟩, ⟨some 61, none, .nilCheck (.tmp 60)⟩, ⟨some 62, none, .field 3 (.tmp 61)⟩, ⟨some 63, none, .load false 1 (.tmp 62)⟩, ⟨some 64, none, .mov (.tmp 5)⟩, ⟨some 65, none, .index 5 (.tmp 63) (.tmp 64)⟩, ⟨some 66, none, .load true 5 (.tmp 65)⟩, ⟨some 6, none, .new [.int .i64 0, .int .i64 0, .int .i64 0, .nilSlice, .nilSlice]⟩, ⟨none, none, .store 5 (.tmp 6) (.tmp 66)⟩])
     (.seq (.region [⟨some 67, none, .buildSlice 1 [] 0 []⟩, ⟨some 68, none, .field 3 (.tmp 6)⟩, ⟨some 69, none, .load false 1 (.tmp 68)⟩, ⟨some 70, none, .append 1 (.tmp 67) (.tmp 69)⟩, ⟨some 71, none, .field 3 (.tmp 6)⟩, ⟨none, none, .store 1 (.tmp 71) (.tmp 70)⟩])
     (.seq (.region [⟨some 72, none, .buildSlice 1 [] 0 []⟩, ⟨some 73, none, .field 4 (.tmp 6)⟩, ⟨some 74, none, .load false 1 (.tmp 73)⟩, ⟨some 75, none, .append 1 (.tmp 72) (.tmp 74)⟩, ⟨some 76, none, .field 4 (.tmp 6)⟩, ⟨none, none, .store 1 (.tmp 76) (.tmp 75)⟩])
     (.dregion [⟨⟨some 78, none, .mov (.tmp 3)⟩, 1, 0, 0⟩, ⟨⟨some 79, none, .nilCheck (.tmp 78)⟩, 2, 0, 0⟩, ⟨⟨some 80, none, .field 3 (.tmp 79)⟩, 3, 0, 0⟩, ⟨⟨some 81, none, .load false 1 (.tmp 80)⟩, 4, 1, 0⟩, ⟨⟨some 82, none, .load true 5 (.tmp 6)⟩, 5, 1, 0⟩, ⟨⟨some 83, none, .buildSlice 5 [.int .i64 0, .int .i64 0, .int .i64 0, .nilSlice, .nilSlice] 1 [(0, 5, (.tmp 82))]⟩, 6, 0, 0⟩, ⟨⟨some 84, none, .append 5 (.tmp 81) (.tmp 83)⟩, 7, 3, 0⟩, ⟨⟨some 77, none, .mov (.tmp 3)⟩, 0, 0, 0⟩, ⟨⟨some 85, none, .nilCheck (.tmp 77)⟩, 8, 0, 1⟩, ⟨⟨some 86, none, .field 3 (.tmp 85)⟩, 9, 0, 1⟩, ⟨⟨none, none, .store 1 (.tmp 86) (.tmp 84)⟩, 10, 3, 1⟩])))))
    (.region [⟨some 58, none, .mov (.tmp 5)⟩, ⟨some 59, none, .bin .add (.tmp 58) (.const (.int .i64 1))⟩, ⟨some 5, none, .mov (.tmp 59)⟩]))
def C34_2 : CCode := .seq (.seq (.region [⟨some 24, none, .mov (.tmp 4)⟩, ⟨some 25, none, .mov (.tmp 0)⟩, ⟨some 26, none, .nilCheck (.tmp 25)⟩, ⟨some 27, none, .field 0 (.tmp 26)⟩, ⟨some 28, none, .load false 1 (.tmp 27)⟩, ⟨some 29, none, .len (.tmp 28)⟩, ⟨some 30, none, .bin .lss (.tmp 24) (.tmp 29)⟩])
    (.cond (.tmp 30)
     .skip
     (.exit 0)))
    (.seq (.block 1 (.dregion [⟨⟨some 38, none, .buildSlice 1 [] 0 []⟩, 5, 0, 0⟩, ⟨⟨some 39, none, .mov (.tmp 0)⟩, 6, 0, 0⟩, ⟨⟨some 40, none, .nilCheck (.tmp 39)⟩, 7, 0, 0⟩, ⟨⟨some 41, none, .field 0 (.tmp 40)⟩, 8, 0, 0⟩, ⟨⟨some 42, none, .load false 1 (.tmp 41)⟩, 9, 1, 0⟩, ⟨⟨some 43, none, .mov (.tmp 4)⟩, 10, 0, 0⟩, ⟨⟨some 44, none, .index 1 (.tmp 42) (.tmp 43)⟩, 11, 0, 0⟩, ⟨⟨some 45, none, .load false 1 (.tmp 44)⟩, 12, 1, 0⟩, ⟨⟨some 46, none, .append 1 (.tmp 38) (.tmp 45)⟩, 13, 3, 0⟩, ⟨⟨some 34, none, .mov (.tmp 3)⟩, 1, 0, 0⟩, ⟨⟨some 35, none, .nilCheck (.tmp 34)⟩, 2, 0, 0⟩, ⟨⟨some 36, none, .field 0 (.tmp 35)⟩, 3, 0, 0⟩, ⟨⟨some 37, none, .load false 1 (.tmp 36)⟩, 4, 1, 0⟩, ⟨⟨some 47, none, .buildSlice 1 [.nilSlice] 1 [(0, 1, (.tmp 46))]⟩, 14, 0, 1⟩, ⟨⟨some 48, none, .append 1 (.tmp 37) (.tmp 47)⟩, 15, 3, 1⟩, ⟨⟨some 33, none, .mov (.tmp 3)⟩, 0, 0, 0⟩, ⟨⟨some 49, none, .nilCheck (.tmp 33)⟩, 16, 0, 2⟩, ⟨⟨some 50, none, .field 0 (.tmp 49)⟩, 17, 0, 2⟩, ⟨⟨none, none, .store 1 (.tmp 50) (.tmp 48)⟩, 18, 3, 2⟩]))
    (.region [⟨some 31, none, .mov (.tmp 4)⟩, ⟨some 32, none, .bin .add (.tmp 31) (.const (.int .i64 1))⟩, ⟨some 4, none, .mov (.tmp 32)⟩]))
def C34 : CFunc := ⟨(.seq (.region [⟨some 2, none, .mov (.const (.nilPtr))⟩])
  (.seq (.seq (.region [⟨some 7, none, .mov (.tmp 0)⟩, ⟨some 8, none, .call 54 [(.tmp 7)]⟩, ⟨some 9, none, .not (.tmp 8)⟩])
  (.cond (.tmp 9)
   (.seq (.region [⟨some 2, none, .mov (.const (.nilPtr))⟩])
   .ret)
   .skip))
  (.seq (.dregion [⟨⟨some 10, none, .buildSlice 1 [] 0 []⟩, 0, 0, 0⟩, ⟨⟨some 11, none, .mov (.tmp 0)⟩, 1, 0, 0⟩, ⟨⟨some 12, none, .nilCheck (.tmp 11)⟩, 2, 0, 0⟩, ⟨⟨some 13, none, .field 1 (.tmp 12)⟩, 3, 0, 0⟩, ⟨⟨some 14, none, .load false 1 (.tmp 13)⟩, 4, 1, 0⟩, ⟨⟨some 15, none, .append 1 (.tmp 10) (.tmp 14)⟩, 5, 3, 0⟩, ⟨⟨some 16, none, .buildSlice 1 [] 0 []⟩, 6, 0, 0⟩, ⟨⟨some 17, none, .mov (.tmp 0)⟩, 7, 0, 0⟩, ⟨⟨some 18, none, .nilCheck (.tmp 17)⟩, 8, 0, 0⟩, ⟨⟨some 19, none, .field 2 (.tmp 18)⟩, 9, 0, 0⟩, ⟨⟨some 20, none, .load false 1 (.tmp 19)⟩, 10, 1, 0⟩, ⟨⟨some 21, none, .append 1 (.tmp 16) (.tmp 20)⟩, 11, 3, 1⟩, ⟨⟨some 22, none, .build [.nilSlice, .nilSlice, .nilSlice, .nilSlice] [(1, 1, (.tmp 15)), (2, 1, (.tmp 21))]⟩, 12, 0, 2⟩, ⟨⟨some 23, none, .box (.tmp 22)⟩, 13, 0, 2⟩, ⟨⟨some 3, none, .mov (.tmp 23)⟩, 14, 0, 2⟩])
  (.seq (.seq (.region [⟨some 4, none, .mov (.const (.int .i64 0))⟩])
  (.block 0 (.loop C34_2)))
  (.seq (.seq (.region [⟨some 5, none, .mov (.const (.int .i64 0))⟩])
  (.block 2 (.loop C34_1)))
  (.seq (.region [⟨some 87, none, .mov (.tmp 3)⟩, ⟨some 2, none, .mov (.tmp 87)⟩])
  .ret)))))),
  [.tmp 2]⟩
theorem c34 : cprog Go.Proofs.Try.prog 34 = some C34 := by kernel_rfl
-- dustcart/dustcartlaw04.play
def C35 : CFunc := ⟨(.seq (.region [⟨some 5, none, .box (.tmp 2)⟩, ⟨some 6, none, .mov (.const (.bool false))⟩])
  (.seq (.seq (.region [⟨some 15, none, .field 0 (.tmp 5)⟩, ⟨some 16, none, .load false 1 (.tmp 15)⟩])
  (.block 0 (.seq (.region [⟨some 18, none, .bin .eql (.tmp 16) (.const (.int .i64 0))⟩, ⟨some 17, none, .mov (.tmp 18)⟩])
   (.cond (.tmp 17)
    (.seq (.region [⟨some 20, none, .mov (.tmp 0)⟩, ⟨some 21, none, .field 1 (.tmp 5)⟩, ⟨some 22, none, .load false 1 (.tmp 21)⟩, ⟨some 23, none, .field 2 (.tmp 5)⟩, ⟨some 24, none, .load true 8 (.tmp 23)⟩, ⟨some 25, none, .call 40 [(.tmp 20), (.tmp 22), (.tmp 24)]⟩, ⟨some 19, none, .mov (.tmp 25)⟩, ⟨some 26, none, .extract (.tmp 19) 0⟩, ⟨some 27, none, .extract (.tmp 19) 1⟩, ⟨some 7, none, .new [.nilSlice, .int .i64 0, .int .i64 0, .int .i64 0, .int .i64 0, .int .i64 0, .int .i64 0]⟩, ⟨none, none, .store 7 (.tmp 7) (.tmp 26)⟩, ⟨some 8, none, .mov (.tmp 27)⟩])
    (.seq (.region [⟨some 29, none, .mov (.tmp 1)⟩, ⟨some 30, none, .field 1 (.tmp 5)⟩, ⟨some 31, none, .load false 1 (.tmp 30)⟩, ⟨some 32, none, .field 2 (.tmp 5)⟩, ⟨some 33, none, .load true 8 (.tmp 32)⟩, ⟨some 34, none, .call 55 [(.tmp 29), (.tmp 31), (.tmp 33)]⟩, ⟨some 28, none, .mov (.tmp 34)⟩, ⟨some 35, none, .extract (.tmp 28) 0⟩, ⟨some 36, none, .extract (.tmp 28) 1⟩, ⟨some 9, none, .new [.nilSlice, .int .i64 0, .int .i64 0, .int .i64 0, .int .i64 0, .int .i64 0, .int .i64 0]⟩, ⟨none, none, .store 7 (.tmp 9) (.tmp 35)⟩, ⟨some 10, none, .mov (.tmp 36)⟩])
    (.seq (.region [⟨some 37, none, .load true 7 (.tmp 7)⟩, ⟨some 38, none, .load true 7 (.tmp 9)⟩, ⟨some 39, none, .call 56 [(.tmp 37), (.tmp 38)]⟩, ⟨some 40, none, .mov (.tmp 39)⟩, ⟨some 41, some (40, true), .mov (.tmp 8)⟩, ⟨some 42, some (40, true), .mov (.tmp 10)⟩, ⟨some 43, some (40, true), .bin .eql (.tmp 41) (.tmp 42)⟩, ⟨some 44, none, .pick (.tmp 40) (.tmp 43) (.const (.bool false))⟩, ⟨some 6, none, .mov (.tmp 44)⟩])
    .ret)))
    (.seq (.region [⟨some 46, none, .bin .eql (.tmp 16) (.const (.int .i64 1))⟩, ⟨some 45, none, .mov (.tmp 46)⟩])
    (.cond (.tmp 45)
     (.seq (.region [⟨some 47, none, .mov (.tmp 0)⟩, ⟨some 48, none, .call 29 [(.tmp 47)]⟩, ⟨some 49, none, .mov (.tmp 1)⟩, ⟨some 50, none, .call 57 [(.tmp 49)]⟩, ⟨some 51, none, .bin .eql (.tmp 48) (.tmp 50)⟩, ⟨some 6, none, .mov (.tmp 51)⟩])
     .ret)
     (.seq (.region [⟨some 53, none, .bin .eql (.tmp 16) (.const (.int .i64 2))⟩, ⟨some 52, none, .mov (.tmp 53)⟩])
     (.cond (.tmp 52)
      (.seq (.dregion [⟨⟨some 54, none, .mov (.tmp 0)⟩, 0, 0, 0⟩, ⟨⟨some 55, none, .field 10 (.tmp 5)⟩, 1, 0, 0⟩, ⟨⟨some 56, none, .load false 1 (.tmp 55)⟩, 2, 1, 0⟩, ⟨⟨some 57, none, .call 18 [(.tmp 54), (.tmp 56)]⟩, 3, 3, 0⟩, ⟨⟨some 58, none, .mov (.tmp 1)⟩, 4, 0, 0⟩, ⟨⟨some 59, none, .field 10 (.tmp 5)⟩, 5, 0, 0⟩, ⟨⟨some 60, none, .load false 1 (.tmp 59)⟩, 6, 1, 0⟩, ⟨⟨some 61, none, .call 58 [(.tmp 58), (.tmp 60)]⟩, 7, 3, 1⟩, ⟨⟨some 62, none, .bin .eql (.tmp 57) (.tmp 61)⟩, 8, 0, 2⟩, ⟨⟨some 6, none, .mov (.tmp 62)⟩, 9, 0, 2⟩])
      .ret)
      (.seq (.region [⟨some 64, none, .bin .eql (.tmp 16) (.const (.int .i64 3))⟩, ⟨some 63, none, .mov (.tmp 64)⟩])
      (.cond (.tmp 63)
       (.seq (.region [⟨some 66, none, .mov (.tmp 0)⟩, ⟨some 67, none, .call 46 [(.tmp 66)]⟩, ⟨some 65, none, .mov (.tmp 67)⟩, ⟨some 68, none, .extract (.tmp 65) 0⟩, ⟨some 69, none, .extract (.tmp 65) 1⟩, ⟨some 11, none, .mov (.tmp 68)⟩, ⟨some 12, none, .mov (.tmp 69)⟩])
       (.seq (.region [⟨some 71, none, .mov (.tmp 1)⟩, ⟨some 72, none, .call 59 [(.tmp 71)]⟩, ⟨some 70, none, .mov (.tmp 72)⟩, ⟨some 73, none, .extract (.tmp 70) 0⟩, ⟨some 74, none, .extract (.tmp 70) 1⟩, ⟨some 13, none, .mov (.tmp 73)⟩, ⟨some 14, none, .mov (.tmp 74)⟩])
       (.seq (.region [⟨some 75, none, .mov (.tmp 11)⟩, ⟨some 76, none, .mov (.tmp 13)⟩, ⟨some 77, none, .bin .eql (.tmp 75) (.tmp 76)⟩, ⟨some 78, none, .mov (.tmp 77)⟩, ⟨some 79, some (78, true), .mov (.tmp 12)⟩, ⟨some 80, some (78, true), .mov (.tmp 14)⟩, ⟨some 81, some (78, true), .bin .eql (.tmp 79) (.tmp 80)⟩, ⟨some 82, none, .pick (.tmp 78) (.tmp 81) (.const (.bool false))⟩, ⟨some 6, none, .mov (.tmp 82)⟩])
       .ret)))
       (.seq (.region [⟨some 84, none, .bin .eql (.tmp 16) (.const (.int .i64 4))⟩, ⟨some 83, none, .mov (.tmp 84)⟩])
       (.cond (.tmp 83)
        (.seq (.dregion [⟨⟨some 85, none, .mov (.tmp 0)⟩, 0, 0, 0⟩, ⟨⟨some 86, none, .field 10 (.tmp 5)⟩, 1, 0, 0⟩, ⟨⟨some 87, none, .load false 1 (.tmp 86)⟩, 2, 1, 0⟩, ⟨⟨some 88, none, .field 11 (.tmp 5)⟩, 3, 0, 0⟩, ⟨⟨some 89, none, .load false 1 (.tmp 88)⟩, 4, 1, 0⟩, ⟨⟨some 90, none, .field 12 (.tmp 5)⟩, 5, 0, 0⟩, ⟨⟨some 91, none, .load false 1 (.tmp 90)⟩, 6, 1, 0⟩, ⟨⟨some 92, none, .call 17 [(.tmp 85), (.tmp 87), (.tmp 89), (.tmp 91)]⟩, 7, 3, 0⟩, ⟨⟨some 93, none, .mov (.tmp 1)⟩, 8, 0, 0⟩, ⟨⟨some 94, none, .field 10 (.tmp 5)⟩, 9, 0, 0⟩, ⟨⟨some 95, none, .load false 1 (.tmp 94)⟩, 10, 1, 0⟩, ⟨⟨some 96, none, .field 11 (.tmp 5)⟩, 11, 0, 0⟩, ⟨⟨some 97, none, .load false 1 (.tmp 96)⟩, 12, 1, 0⟩, ⟨⟨some 98, none, .field 12 (.tmp 5)⟩, 13, 0, 0⟩, ⟨⟨some 99, none, .load false 1 (.tmp 98)⟩, 14, 1, 0⟩, ⟨⟨some 100, none, .call 60 [(.tmp 93), (.tmp 95), (.tmp 97), (.tmp 99)]⟩, 15, 3, 1⟩, ⟨⟨some 101, none, .bin .eql (.tmp 92) (.tmp 100)⟩, 16, 0, 2⟩, ⟨⟨some 6, none, .mov (.tmp 101)⟩, 17, 0, 2⟩])
        .ret)
        .skip))))))))))))
  (.seq (.region [⟨some 6, none, .mov (.const (.bool true))⟩])
  .ret))),
  [.tmp 6]⟩
theorem c35 : cprog Go.Proofs.Try.prog 35 = some C35 := by kernel_rfl
-- dustcart/dustcartlaw04.Same
def C36_1 : CCode := .seq (.seq (.region [⟨some 108, none, .mov (.tmp 16)⟩, ⟨some 109, none, .mov (.tmp 1)⟩, ⟨some 110, none, .call 62 [(.tmp 109)]⟩, ⟨some 111, none, .bin .add (.tmp 110) (.const (.int .i64 1))⟩, ⟨some 112, none, .bin .leq (.tmp 108) (.tmp 111)⟩])
    (.cond (.tmp 112)
     .skip
     (.exit 6)))
    (.seq (.block 7 (.seq (.region [⟨some 115, none, .mov (.tmp 0)⟩, ⟨some 116, none, .mov (.tmp 1)⟩, ⟨some 117, none, .mov (.tmp 16)⟩, ⟨some 118, none, .call 38 [(.tmp 115), (.tmp 116), (.tmp 117)]⟩, ⟨some 119, none, .not (.tmp 118)⟩])
     (.cond (.tmp 119)
      (.seq (.region [⟨some 4, none, .mov (.const (.bool false))⟩])
      .ret)
      .skip)))
    (.region [⟨some 113, none, .mov (.tmp 16)⟩, ⟨some 114, none, .bin .add (.tmp 113) (.const (.int .i64 1))⟩, ⟨some 16, none, .mov (.tmp 114)⟩]))
def C36_2 : CCode := .seq (.seq (.region [⟨some 84, none, .mov (.tmp 11)⟩, ⟨some 85, none, .bin .leq (.tmp 84) (.const (.int .i64 16))⟩])
    (.cond (.tmp 85)
     .skip
     (.exit 4)))
    (.seq (.block 5 (.seq (.region [⟨some 89, none, .mov (.tmp 0)⟩, ⟨some 90, none, .mov (.tmp 11)⟩, ⟨some 91, none, .call 37 [(.tmp 89), (.tmp 90)]⟩, ⟨some 88, none, .mov (.tmp 91)⟩, ⟨some 92, none, .extract (.tmp 88) 0⟩, ⟨some 93, none, .extract (.tmp 88) 1⟩, ⟨some 12, none, .mov (.tmp 92)⟩, ⟨some 13, none, .mov (.tmp 93)⟩])
     (.seq (.region [⟨some 95, none, .mov (.tmp 1)⟩, ⟨some 96, none, .mov (.tmp 11)⟩, ⟨some 97, none, .call 66 [(.tmp 95), (.tmp 96)]⟩, ⟨some 94, none, .mov (.tmp 97)⟩, ⟨some 98, none, .extract (.tmp 94) 0⟩, ⟨some 99, none, .extract (.tmp 94) 1⟩, ⟨some 14, none, .mov (.tmp 98)⟩, ⟨some 15, none, .mov (.tmp 99)⟩])
     (.seq (.region [⟨some 100, none, .mov (.tmp 12)⟩, ⟨some 101, none, .mov (.tmp 14)⟩, ⟨some 102, none, .bin .neq (.tmp 100) (.tmp 101)⟩, ⟨some 103, none, .mov (.tmp 102)⟩, ⟨some 104, some (103, false), .mov (.tmp 13)⟩, ⟨some 105, some (103, false), .mov (.tmp 15)⟩, ⟨some 106, some (103, false), .bin .neq (.tmp 104) (.tmp 105)⟩, ⟨some 107, none, .pick (.tmp 103) (.const (.bool true)) (.tmp 106)⟩])
     (.cond (.tmp 107)
      (.seq (.region [⟨some 4, none, .mov (.const (.bool false))⟩])
      .ret)
      .skip)))))
    (.region [⟨some 86, none, .mov (.tmp 11)⟩, ⟨some 87, none, .bin .add (.tmp 86) (.const (.int .i64 1))⟩, ⟨some 11, none, .mov (.tmp 87)⟩]))
def C36_3 : CCode := .seq (.seq (.region [⟨some 58, none, .mov (.tmp 6)⟩, ⟨some 59, none, .bin .leq (.tmp 58) (.const (.int .i64 16))⟩])
       (.cond (.tmp 59)
        .skip
        (.exit 2)))
       (.seq (.block 3 (.seq (.region [⟨some 63, none, .mov (.tmp 0)⟩, ⟨some 64, none, .mov (.tmp 5)⟩, ⟨some 65, none, .mov (.tmp 6)⟩, ⟨some 66, none, .call 25 [(.tmp 63), (.tmp 64), (.tmp 65)]⟩, ⟨some 62, none, .mov (.tmp 66)⟩, ⟨some 67, none, .extract (.tmp 62) 0⟩, ⟨some 68, none, .extract (.tmp 62) 1⟩, ⟨some 7, none, .mov (.tmp 67)⟩, ⟨some 8, none, .mov (.tmp 68)⟩])
        (.seq (.region [⟨some 70, none, .mov (.tmp 1)⟩, ⟨some 71, none, .mov (.tmp 5)⟩, ⟨some 72, none, .mov (.tmp 6)⟩, ⟨some 73, none, .call 65 [(.tmp 70), (.tmp 71), (.tmp 72)]⟩, ⟨some 69, none, .mov (.tmp 73)⟩, ⟨some 74, none, .extract (.tmp 69) 0⟩, ⟨some 75, none, .extract (.tmp 69) 1⟩, ⟨some 9, none, .mov (.tmp 74)⟩, ⟨some 10, none, .mov (.tmp 75)⟩])
        (.seq (.region [⟨some 76, none, .mov (.tmp 7)⟩, ⟨some 77, none, .mov (.tmp 9)⟩, ⟨some 78, none, .bin .neq (.tmp 76) (.tmp 77)⟩, ⟨some 79, none, .mov (.tmp 78)⟩, ⟨some 80, some (79, false), .mov (.tmp 8)⟩, ⟨some 81, some (79, false), .mov (.tmp 10)⟩, ⟨some 82, some (79, false), .bin .neq (.tmp 80) (.tmp 81)⟩, ⟨some 83, none, .pick (.tmp 79) (.const (.bool true)) (.tmp 82)⟩])
        (.cond (.tmp 83)
         (.seq (.region [⟨some 4, none, .mov (.const (.bool false))⟩])
         .ret)
         .skip)))))
       (.region [⟨some 60, none, .mov (.tmp 6)⟩, ⟨some 61, none, .bin .add (.tmp 60) (.const (.int .i64 1))⟩, ⟨some 6, none, .mov (.tmp 61)⟩]))
def C36_4 : CCode := .seq (.seq (.region [⟨some 52, none, .mov (.tmp 5)⟩, ⟨some 53, none, .mov (.tmp 1)⟩, ⟨some 54, none, .call 61 [(.tmp 53)]⟩, ⟨some 55, none, .bin .leq (.tmp 52) (.tmp 54)⟩])
    (.cond (.tmp 55)
     .skip
     (.exit 0)))
    (.seq (.block 1 (.seq (.region [⟨some 6, none, .mov (.const (.int .i64 (-1)))⟩])
     (.block 2 (.loop C36_3))))
    (.region [⟨some 56, none, .mov (.tmp 5)⟩, ⟨some 57, none, .bin .add (.tmp 56) (.const (.int .i64 1))⟩, ⟨some 5, none, .mov (.tmp 57)⟩]))
def C36 : CFunc := ⟨(.seq (.region [⟨some 4, none, .mov (.const (.bool false))⟩])
  (.seq (.seq (.region [⟨some 17, none, .mov (.tmp 0)⟩, ⟨some 18, none, .call 22 [(.tmp 17)]⟩, ⟨some 19, none, .mov (.tmp 1)⟩, ⟨some 20, none, .call 61 [(.tmp 19)]⟩, ⟨some 21, none, .bin .neq (.tmp 18) (.tmp 20)⟩, ⟨some 22, none, .mov (.tmp 21)⟩, ⟨some 23, some (22, false), .mov (.tmp 0)⟩, ⟨some 24, some (22, false), .call 23 [(.tmp 23)]⟩, ⟨some 25, some (22, false), .mov (.tmp 1)⟩, ⟨some 26, some (22, false), .call 62 [(.tmp 25)]⟩, ⟨some 27, some (22, false), .bin .neq (.tmp 24) (.tmp 26)⟩, ⟨some 28, none, .pick (.tmp 22) (.const (.bool true)) (.tmp 27)⟩, ⟨some 29, none, .mov (.tmp 28)⟩, ⟨some 30, some (29, false), .mov (.tmp 0)⟩, ⟨some 31, some (29, false), .call 39 [(.tmp 30)]⟩, ⟨some 32, some (29, false), .mov (.tmp 1)⟩, ⟨some 33, some (29, false), .call 63 [(.tmp 32)]⟩, ⟨some 34, some (29, false), .call 26 [(.tmp 31), (.tmp 33)]⟩, ⟨some 35, some (29, false), .not (.tmp 34)⟩, ⟨some 36, none, .pick (.tmp 29) (.const (.bool true)) (.tmp 35)⟩, ⟨some 37, none, .mov (.tmp 36)⟩, ⟨some 38, some (37, false), .mov (.tmp 0)⟩, ⟨some 39, some (37, false), .call 14 [(.tmp 38)]⟩, ⟨some 40, some (37, false), .mov (.tmp 1)⟩, ⟨some 41, some (37, false), .call 64 [(.tmp 40)]⟩, ⟨some 42, some (37, false), .call 26 [(.tmp 39), (.tmp 41)]⟩, ⟨some 43, some (37, false), .not (.tmp 42)⟩, ⟨some 44, none, .pick (.tmp 37) (.const (.bool true)) (.tmp 43)⟩, ⟨some 45, none, .mov (.tmp 44)⟩, ⟨some 46, some (45, false), .mov (.tmp 0)⟩, ⟨some 47, some (45, false), .eqv false 1 (.tmp 46) (.const (.nilPtr))⟩, ⟨some 48, some (45, false), .mov (.tmp 1)⟩, ⟨some 49, some (45, false), .eqv false 1 (.tmp 48) (.const (.nilPtr))⟩, ⟨some 50, some (45, false), .eqv true 0 (.tmp 47) (.tmp 49)⟩, ⟨some 51, none, .pick (.tmp 45) (.const (.bool true)) (.tmp 50)⟩])
  (.cond (.tmp 51)
   (.seq (.region [⟨some 4, none, .mov (.const (.bool false))⟩])
   .ret)
   .skip))
  (.seq (.seq (.region [⟨some 5, none, .mov (.const (.int .i64 (-1)))⟩])
  (.block 0 (.loop C36_4)))
  (.seq (.seq (.region [⟨some 11, none, .mov (.const (.int .i64 (-1)))⟩])
  (.block 4 (.loop C36_2)))
  (.seq (.seq (.region [⟨some 16, none, .mov (.const (.int .i64 (-1)))⟩])
  (.block 6 (.loop C36_1)))
  (.seq (.region [⟨some 4, none, .mov (.const (.bool true))⟩])
  .ret)))))),
  [.tmp 4]⟩
theorem c36 : cprog Go.Proofs.Try.prog 36 = some C36 := by kernel_rfl
-- (*dustcart/model.Model).Global
def C37 : CFunc := ⟨(.seq (.region [⟨some 4, none, .mov (.const (.int .i64 0))⟩, ⟨some 5, none, .mov (.const (.int .i64 0))⟩])
  (.seq (.block 0 (.seq (.region [⟨some 7, none, .mov (.tmp 0)⟩, ⟨some 8, none, .call 41 [(.tmp 7)]⟩, ⟨some 9, none, .not (.tmp 8)⟩, ⟨some 6, none, .mov (.tmp 9)⟩])
   (.cond (.tmp 6)
    (.seq (.region [⟨some 4, none, .mov (.const (.int .i64 0))⟩, ⟨some 5, none, .mov (.const (.int .i64 5))⟩])
    .ret)
    (.seq (.region [⟨some 11, none, .mov (.tmp 1)⟩, ⟨some 12, none, .bin .lss (.tmp 11) (.const (.int .i64 0))⟩, ⟨some 13, none, .mov (.tmp 12)⟩, ⟨some 14, some (13, false), .mov (.tmp 1)⟩, ⟨some 15, some (13, false), .bin .geq (.tmp 14) (.const (.int .i64 16))⟩, ⟨some 16, none, .pick (.tmp 13) (.const (.bool true)) (.tmp 15)⟩, ⟨some 10, none, .mov (.tmp 16)⟩])
    (.cond (.tmp 10)
     (.seq (.region [⟨some 4, none, .mov (.const (.int .i64 0))⟩, ⟨some 5, none, .mov (.const (.int .i64 1))⟩])
     .ret)
     .skip)))))
  (.seq (.region [⟨some 17, none, .mov (.tmp 0)⟩, ⟨some 18, none, .nilCheck (.tmp 17)⟩, ⟨some 19, none, .field 1 (.tmp 18)⟩, ⟨some 20, none, .load false 1 (.tmp 19)⟩, ⟨some 21, none, .mov (.tmp 1)⟩, ⟨some 22, none, .index 1 (.tmp 20) (.tmp 21)⟩, ⟨some 23, none, .load false 1 (.tmp 22)⟩, ⟨some 4, none, .mov (.tmp 23)⟩, ⟨some 5, none, .mov (.const (.int .i64 0))⟩])
  .ret))),
  [.tmp 4, .tmp 5]⟩
theorem c37 : cprog Go.Proofs.Try.prog 37 = some C37 := by kernel_rfl
-- dustcart/dustcartlaw04.looks
def C38_1 : CCode := .seq (.seq (.region [⟨some 69, none, .mov (.tmp 16)⟩, ⟨some 70, none, .field 1 (.tmp 9)⟩, ⟨some 71, none, .load false 1 (.tmp 70)⟩, ⟨some 72, none, .bin .leq (.tmp 69) (.tmp 71)⟩])
    (.cond (.tmp 72)
     .skip
     (.exit 2)))
    (.seq (.block 3 (.seq (.region [⟨some 76, none, .mov (.tmp 0)⟩, ⟨some 77, none, .mov (.tmp 2)⟩, ⟨some 78, none, .mov (.tmp 16)⟩, ⟨some 79, none, .call 47 [(.tmp 76), (.tmp 77), (.tmp 78)]⟩, ⟨some 75, none, .mov (.tmp 79)⟩, ⟨some 80, none, .extract (.tmp 75) 0⟩, ⟨some 81, none, .extract (.tmp 75) 1⟩, ⟨some 17, none, .mov (.tmp 80)⟩, ⟨some 18, none, .mov (.tmp 81)⟩])
     (.seq (.region [⟨some 83, none, .mov (.tmp 1)⟩, ⟨some 84, none, .mov (.tmp 2)⟩, ⟨some 85, none, .mov (.tmp 16)⟩, ⟨some 86, none, .call 69 [(.tmp 83), (.tmp 84), (.tmp 85)]⟩, ⟨some 82, none, .mov (.tmp 86)⟩, ⟨some 87, none, .extract (.tmp 82) 0⟩, ⟨some 88, none, .extract (.tmp 82) 1⟩, ⟨some 19, none, .mov (.tmp 87)⟩, ⟨some 20, none, .mov (.tmp 88)⟩])
     (.seq (.region [⟨some 89, none, .mov (.tmp 17)⟩, ⟨some 90, none, .mov (.tmp 19)⟩, ⟨some 91, none, .bin .neq (.tmp 89) (.tmp 90)⟩, ⟨some 92, none, .mov (.tmp 91)⟩, ⟨some 93, some (92, false), .mov (.tmp 18)⟩, ⟨some 94, some (92, false), .mov (.tmp 20)⟩, ⟨some 95, some (92, false), .bin .neq (.tmp 93) (.tmp 94)⟩, ⟨some 96, none, .pick (.tmp 92) (.const (.bool true)) (.tmp 95)⟩])
     (.cond (.tmp 96)
      (.seq (.region [⟨some 6, none, .mov (.const (.bool false))⟩])
      .ret)
      .skip)))))
    (.region [⟨some 73, none, .mov (.tmp 16)⟩, ⟨some 74, none, .bin .add (.tmp 73) (.const (.int .i64 1))⟩, ⟨some 16, none, .mov (.tmp 74)⟩]))
def C38_2 : CCode := .seq (.seq (.region [⟨some 41, none, .mov (.tmp 11)⟩, ⟨some 42, none, .field 0 (.tmp 9)⟩, ⟨some 43, none, .load false 1 (.tmp 42)⟩, ⟨some 44, none, .bin .leq (.tmp 41) (.tmp 43)⟩])
    (.cond (.tmp 44)
     .skip
     (.exit 0)))
    (.seq (.block 1 (.seq (.region [⟨some 48, none, .mov (.tmp 0)⟩, ⟨some 49, none, .mov (.tmp 2)⟩, ⟨some 50, none, .mov (.tmp 11)⟩, ⟨some 51, none, .call 16 [(.tmp 48), (.tmp 49), (.tmp 50)]⟩, ⟨some 47, none, .mov (.tmp 51)⟩, ⟨some 52, none, .extract (.tmp 47) 0⟩, ⟨some 53, none, .extract (.tmp 47) 1⟩, ⟨some 12, none, .mov (.tmp 52)⟩, ⟨some 13, none, .mov (.tmp 53)⟩])
     (.seq (.region [⟨some 55, none, .mov (.tmp 1)⟩, ⟨some 56, none, .mov (.tmp 2)⟩, ⟨some 57, none, .mov (.tmp 11)⟩, ⟨some 58, none, .call 68 [(.tmp 55), (.tmp 56), (.tmp 57)]⟩, ⟨some 54, none, .mov (.tmp 58)⟩, ⟨some 59, none, .extract (.tmp 54) 0⟩, ⟨some 60, none, .extract (.tmp 54) 1⟩, ⟨some 14, none, .mov (.tmp 59)⟩, ⟨some 15, none, .mov (.tmp 60)⟩])
     (.seq (.region [⟨some 61, none, .mov (.tmp 12)⟩, ⟨some 62, none, .mov (.tmp 14)⟩, ⟨some 63, none, .bin .neq (.tmp 61) (.tmp 62)⟩, ⟨some 64, none, .mov (.tmp 63)⟩, ⟨some 65, some (64, false), .mov (.tmp 13)⟩, ⟨some 66, some (64, false), .mov (.tmp 15)⟩, ⟨some 67, some (64, false), .bin .neq (.tmp 65) (.tmp 66)⟩, ⟨some 68, none, .pick (.tmp 64) (.const (.bool true)) (.tmp 67)⟩])
     (.cond (.tmp 68)
      (.seq (.region [⟨some 6, none, .mov (.const (.bool false))⟩])
      .ret)
      .skip)))))
    (.region [⟨some 45, none, .mov (.tmp 11)⟩, ⟨some 46, none, .bin .add (.tmp 45) (.const (.int .i64 1))⟩, ⟨some 11, none, .mov (.tmp 46)⟩]))
def C38 : CFunc := ⟨(.seq (.region [⟨some 6, none, .mov (.const (.bool false))⟩])
  (.seq (.region [⟨some 22, none, .mov (.tmp 0)⟩, ⟨some 23, none, .mov (.tmp 2)⟩, ⟨some 24, none, .call 15 [(.tmp 22), (.tmp 23)]⟩, ⟨some 21, none, .mov (.tmp 24)⟩, ⟨some 25, none, .extract (.tmp 21) 0⟩, ⟨some 26, none, .extract (.tmp 21) 1⟩, ⟨some 7, none, .new [.int .i64 0, .int .i64 0, .int .i64 0]⟩, ⟨none, none, .store 3 (.tmp 7) (.tmp 25)⟩, ⟨some 8, none, .mov (.tmp 26)⟩])
  (.seq (.region [⟨some 28, none, .mov (.tmp 1)⟩, ⟨some 29, none, .mov (.tmp 2)⟩, ⟨some 30, none, .call 67 [(.tmp 28), (.tmp 29)]⟩, ⟨some 27, none, .mov (.tmp 30)⟩, ⟨some 31, none, .extract (.tmp 27) 0⟩, ⟨some 32, none, .extract (.tmp 27) 1⟩, ⟨some 9, none, .new [.int .i64 0, .int .i64 0, .int .i64 0]⟩, ⟨none, none, .store 3 (.tmp 9) (.tmp 31)⟩, ⟨some 10, none, .mov (.tmp 32)⟩])
  (.seq (.seq (.region [⟨some 33, none, .load true 3 (.tmp 7)⟩, ⟨some 34, none, .load true 3 (.tmp 9)⟩, ⟨some 35, none, .eqs true 3 (.tmp 33) (.tmp 34)⟩, ⟨some 36, none, .mov (.tmp 35)⟩, ⟨some 37, some (36, false), .mov (.tmp 8)⟩, ⟨some 38, some (36, false), .mov (.tmp 10)⟩, ⟨some 39, some (36, false), .bin .neq (.tmp 37) (.tmp 38)⟩, ⟨some 40, none, .pick (.tmp 36) (.const (.bool true)) (.tmp 39)⟩])
  (.cond (.tmp 40)
   (.seq (.region [⟨some 6, none, .mov (.const (.bool false))⟩])
   .ret)
   .skip))
  (.seq (.seq (.region [⟨some 11, none, .mov (.const (.int .i64 (-1)))⟩])
  (.block 0 (.loop C38_2)))
  (.seq (.seq (.region [⟨some 16, none, .mov (.const (.int .i64 (-1)))⟩])
  (.block 2 (.loop C38_1)))
  (.seq (.region [⟨some 6, none, .mov (.const (.bool true))⟩])
  .ret))))))),
  [.tmp 6]⟩
theorem c38 : cprog Go.Proofs.Try.prog 38 = some C38 := by kernel_rfl
end Go.Cs.Try

/- The compiled functions of the seat, part 2. -/
namespace Go.Cs.Try
open Go Go.Cs
set_option maxRecDepth 100000
-- (*dustcart/model.Model).Queue
def C39 : CFunc := ⟨(.seq (.region [⟨some 2, none, .mov (.const (.nilSlice))⟩])
  (.seq (.seq (.region [⟨some 3, none, .mov (.tmp 0)⟩, ⟨some 4, none, .call 41 [(.tmp 3)]⟩, ⟨some 5, none, .not (.tmp 4)⟩])
  (.cond (.tmp 5)
   (.seq (.region [⟨some 2, none, .mov (.const (.nilSlice))⟩])
   .ret)
   .skip))
  (.seq (.region [⟨some 6, none, .mov (.tmp 0)⟩, ⟨some 7, none, .nilCheck (.tmp 6)⟩, ⟨some 8, none, .field 2 (.tmp 7)⟩, ⟨some 9, none, .load false 1 (.tmp 8)⟩, ⟨some 10, none, .call 53 [(.tmp 9)]⟩, ⟨some 2, none, .mov (.tmp 10)⟩])
  .ret))),
  [.tmp 2]⟩
theorem c39 : cprog Go.Proofs.Try.prog 39 = some C39 := by kernel_rfl
-- (*dustcart/model.Model).Do
def C40 : CFunc := ⟨(.seq (.region [⟨some 5, none, .box (.tmp 2)⟩, ⟨some 6, none, .new [.nilSlice, .int .i64 0, .int .i64 0, .int .i64 0, .int .i64 0, .int .i64 0, .int .i64 0]⟩, ⟨some 7, none, .mov (.const (.int .i64 0))⟩])
  (.seq (.seq (.region [⟨some 13, none, .mov (.tmp 0)⟩, ⟨some 14, none, .call 41 [(.tmp 13)]⟩, ⟨some 15, none, .not (.tmp 14)⟩])
  (.cond (.tmp 15)
   (.seq (.region [⟨some 16, none, .build [.nilSlice, .int .i64 0, .int .i64 0, .int .i64 0, .int .i64 0, .int .i64 0, .int .i64 0] []⟩, ⟨none, none, .store 7 (.tmp 6) (.tmp 16)⟩, ⟨some 7, none, .mov (.const (.int .i64 5))⟩])
   .ret)
   .skip))
  (.seq (.region [⟨some 17, none, .call 70 []⟩, ⟨some 8, none, .mov (.tmp 17)⟩])
  (.seq (.seq (.region [⟨some 18, none, .mov (.tmp 1)⟩, ⟨some 19, none, .bin .lss (.tmp 18) (.const (.int .i64 0))⟩, ⟨some 20, none, .mov (.tmp 19)⟩, ⟨some 21, some (20, false), .mov (.tmp 1)⟩, ⟨some 22, some (20, false), .mov (.tmp 0)⟩, ⟨some 23, some (20, false), .nilCheck (.tmp 22)⟩, ⟨some 24, some (20, false), .field 0 (.tmp 23)⟩, ⟨some 25, some (20, false), .load false 1 (.tmp 24)⟩, ⟨some 26, some (20, false), .len (.tmp 25)⟩, ⟨some 27, some (20, false), .bin .geq (.tmp 21) (.tmp 26)⟩, ⟨some 28, none, .pick (.tmp 20) (.const (.bool true)) (.tmp 27)⟩, ⟨some 29, none, .mov (.tmp 28)⟩, ⟨some 30, some (29, false), .field 0 (.tmp 5)⟩, ⟨some 31, some (29, false), .load false 1 (.tmp 30)⟩, ⟨some 32, some (29, false), .bin .lss (.tmp 31) (.const (.int .i64 0))⟩, ⟨some 33, none, .pick (.tmp 29) (.const (.bool true)) (.tmp 32)⟩, ⟨some 34, none, .mov (.tmp 33)⟩, ⟨some 35, some (34, false), .field 0 (.tmp 5)⟩, ⟨some 36, some (34, false), .load false 1 (.tmp 35)⟩, ⟨some 37, some (34, false), .mov (.tmp 8)⟩, ⟨some 38, some (34, false), .len (.tmp 37)⟩, ⟨some 39, some (34, false), .bin .geq (.tmp 36) (.tmp 38)⟩, ⟨some 40, none, .pick (.tmp 34) (.const (.bool true)) (.tmp 39)⟩])
  (.cond (.tmp 40)
   (.seq (.region [⟨some 41, none, .build [.nilSlice, .int .i64 0, .int .i64 0, .int .i64 0, .int .i64 0, .int .i64 0, .int .i64 0] []⟩, ⟨none, none, .store 7 (.tmp 6) (.tmp 41)⟩, ⟨some 7, none, .mov (.const (.int .i64 1))⟩])
   .ret)
   .skip))
  (.seq (.region [⟨some 42, none, .mov (.tmp 8)⟩, ⟨some 43, none, .field 0 (.tmp 5)⟩, ⟨some 44, none, .load false 1 (.tmp 43)⟩, ⟨some 45, none, .index 4 (.tmp 42) (.tmp 44)⟩, ⟨some 46, none, .load true 4 (.tmp 45)⟩, ⟨some 9, none, .new [.bool false, .nilFunc, .nilFunc, .nilFunc]⟩, ⟨none, none, .store 4 (.tmp 9) (.tmp 46)⟩])
  (.seq (.dregion [⟨⟨some 47, none, .load true 8 (.tmp 5)⟩, 0, 1, 0⟩, ⟨⟨some 48, none, .mov (.tmp 0)⟩, 1, 0, 0⟩, ⟨⟨some 49, none, .mov (.tmp 0)⟩, 2, 0, 0⟩, ⟨⟨some 50, none, .nilCheck (.tmp 49)⟩, 3, 0, 0⟩, ⟨⟨some 51, none, .field 0 (.tmp 50)⟩, 4, 0, 0⟩, ⟨⟨some 52, none, .load false 1 (.tmp 51)⟩, 5, 1, 0⟩, ⟨⟨some 53, none, .mov (.tmp 1)⟩, 6, 0, 0⟩, ⟨⟨some 54, none, .index 1 (.tmp 52) (.tmp 53)⟩, 7, 0, 0⟩, ⟨⟨some 55, none, .load false 1 (.tmp 54)⟩, 8, 1, 0⟩, ⟨⟨some 56, none, .build [.int .i64 0, .int .i64 0, .int .i64 0, .int .i64 0, .int .i64 0, .int .i64 0, .int .i64 0, .int .i64 0, .nilPtr, .nilSlice] [(0, 8, (.tmp 47)), (8, 1, (.tmp 48)), (9, 1, (.tmp 55))]⟩, 9, 0, 0⟩, ⟨⟨some 57, none, .box (.tmp 56)⟩, 10, 0, 0⟩, ⟨⟨some 10, none, .mov (.tmp 57)⟩, 11, 0, 0⟩])
  (.seq (.block 0 (.seq (.region [⟨some 59, none, .field 1 (.tmp 5)⟩, ⟨some 60, none, .load false 1 (.tmp 59)⟩, ⟨some 61, none, .call 48 [(.tmp 60)]⟩, ⟨some 62, none, .not (.tmp 61)⟩, ⟨some 63, none, .mov (.tmp 62)⟩, ⟨some 64, some (63, false), .field 0 (.tmp 9)⟩, ⟨some 65, some (63, false), .load false 1 (.tmp 64)⟩, ⟨some 66, some (63, false), .mov (.tmp 65)⟩, ⟨some 67, some (66, true), .field 2 (.tmp 5)⟩, ⟨some 68, some (66, true), .load false 1 (.tmp 67)⟩, ⟨some 69, some (66, true), .call 48 [(.tmp 68)]⟩, ⟨some 70, some (66, true), .not (.tmp 69)⟩, ⟨some 71, some (63, false), .pick (.tmp 66) (.tmp 70) (.const (.bool false))⟩, ⟨some 72, none, .pick (.tmp 63) (.const (.bool true)) (.tmp 71)⟩, ⟨some 58, none, .mov (.tmp 72)⟩])
   (.cond (.tmp 58)
    (.seq (.region [⟨some 73, none, .build [.nilSlice, .int .i64 0, .int .i64 0, .int .i64 0, .int .i64 0, .int .i64 0, .int .i64 0] []⟩, ⟨none, none, .store 7 (.tmp 6) (.tmp 73)⟩, ⟨some 7, none, .mov (.const (.int .i64 1))⟩])
    .ret)
    (.seq (.region [⟨some 75, none, .field 0 (.tmp 5)⟩, ⟨some 76, none, .load false 1 (.tmp 75)⟩, ⟨some 77, none, .bin .eql (.tmp 76) (.const (.int .i64 0))⟩, ⟨some 78, none, .mov (.tmp 77)⟩, ⟨some 79, some (78, true), .field 5 (.tmp 5)⟩, ⟨some 80, some (78, true), .load true 3 (.tmp 79)⟩, ⟨some 81, some (78, true), .call 71 [(.tmp 80)]⟩, ⟨some 82, some (78, true), .not (.tmp 81)⟩, ⟨some 83, none, .pick (.tmp 78) (.tmp 82) (.const (.bool false))⟩, ⟨some 74, none, .mov (.tmp 83)⟩])
    (.cond (.tmp 74)
     (.seq (.region [⟨some 84, none, .build [.nilSlice, .int .i64 0, .int .i64 0, .int .i64 0, .int .i64 0, .int .i64 0, .int .i64 0] []⟩, ⟨none, none, .store 7 (.tmp 6) (.tmp 84)⟩, ⟨some 7, none, .mov (.const (.int .i64 2))⟩])
     .ret)
     .skip)))))
  (.seq (.seq (.region [⟨some 85, none, .field 1 (.tmp 9)⟩, ⟨some 86, none, .load false 1 (.tmp 85)⟩, ⟨some 87, none, .mov (.tmp 10)⟩, ⟨some 88, none, .callv (.tmp 86) [(.tmp 87)]⟩, ⟨some 11, none, .mov (.tmp 88)⟩])
  (.seq (.region [⟨some 89, none, .mov (.tmp 11)⟩, ⟨some 90, none, .bin .geq (.tmp 89) (.const (.int .i64 0))⟩, ⟨some 91, none, .mov (.tmp 90)⟩, ⟨some 92, some (91, true), .mov (.tmp 10)⟩, ⟨some 93, some (91, true), .nilCheck (.tmp 92)⟩, ⟨some 94, some (91, true), .field 9 (.tmp 93)⟩, ⟨some 95, some (91, true), .load false 1 (.tmp 94)⟩, ⟨some 96, some (91, true), .mov (.tmp 11)⟩, ⟨some 97, some (91, true), .index 1 (.tmp 95) (.tmp 96)⟩, ⟨some 98, some (91, true), .load false 1 (.tmp 97)⟩, ⟨some 99, some (91, true), .bin .eql (.tmp 98) (.const (.int .i64 0))⟩, ⟨some 100, none, .pick (.tmp 91) (.tmp 99) (.const (.bool false))⟩])
  (.cond (.tmp 100)
   (.seq (.region [⟨some 101, none, .build [.nilSlice, .int .i64 0, .int .i64 0, .int .i64 0, .int .i64 0, .int .i64 0, .int .i64 0] []⟩, ⟨none, none, .store 7 (.tmp 6) (.tmp 101)⟩, ⟨some 7, none, .mov (.const (.int .i64 7))⟩])
   .ret)
   .skip)))
  (.seq (.seq (.region [⟨some 102, none, .field 2 (.tmp 9)⟩, ⟨some 103, none, .load false 1 (.tmp 102)⟩, ⟨some 104, none, .mov (.tmp 10)⟩, ⟨some 105, none, .callv (.tmp 103) [(.tmp 104)]⟩, ⟨some 12, none, .mov (.tmp 105)⟩])
  (.seq (.region [⟨some 106, none, .mov (.tmp 12)⟩, ⟨some 107, none, .bin .geq (.tmp 106) (.const (.int .i64 0))⟩, ⟨some 108, none, .mov (.tmp 107)⟩, ⟨some 109, some (108, true), .field 3 (.tmp 5)⟩, ⟨some 110, some (108, true), .load false 1 (.tmp 109)⟩, ⟨some 111, some (108, true), .bin .lss (.tmp 110) (.const (.int .i64 0))⟩, ⟨some 112, some (108, true), .mov (.tmp 111)⟩, ⟨some 113, some (112, false), .field 3 (.tmp 5)⟩, ⟨some 114, some (112, false), .load false 1 (.tmp 113)⟩, ⟨some 115, some (112, false), .mov (.tmp 12)⟩, ⟨some 116, some (112, false), .bin .geq (.tmp 114) (.tmp 115)⟩, ⟨some 117, some (108, true), .pick (.tmp 112) (.const (.bool true)) (.tmp 116)⟩, ⟨some 118, none, .pick (.tmp 108) (.tmp 117) (.const (.bool false))⟩])
  (.cond (.tmp 118)
   (.seq (.region [⟨some 119, none, .build [.nilSlice, .int .i64 0, .int .i64 0, .int .i64 0, .int .i64 0, .int .i64 0, .int .i64 0] []⟩, ⟨none, none, .store 7 (.tmp 6) (.tmp 119)⟩, ⟨some 7, none, .mov (.const (.int .i64 1))⟩])
   .ret)
   .skip)))
  (.seq (.region [⟨some 120, none, .field 3 (.tmp 9)⟩, ⟨some 121, none, .load false 1 (.tmp 120)⟩, ⟨some 122, none, .mov (.tmp 10)⟩, ⟨some 123, none, .callv (.tmp 121) [(.tmp 122)]⟩, ⟨none, none, .store 7 (.tmp 6) (.tmp 123)⟩, ⟨some 7, none, .mov (.const (.int .i64 0))⟩])
  .ret)))))))))),
  [.cell 6 true 7, .tmp 7]⟩
theorem c40 : cprog Go.Proofs.Try.prog 40 = some C40 := by kernel_rfl
-- (*dustcart/model.Model).made
def C41 : CFunc := ⟨(.seq (.region [⟨some 2, none, .mov (.const (.bool false))⟩])
  (.seq (.region [⟨some 3, none, .mov (.tmp 0)⟩, ⟨some 4, none, .eqv true 1 (.tmp 3) (.const (.nilPtr))⟩, ⟨some 5, none, .mov (.tmp 4)⟩, ⟨some 6, some (5, true), .mov (.tmp 0)⟩, ⟨some 7, some (5, true), .nilCheck (.tmp 6)⟩, ⟨some 8, some (5, true), .field 0 (.tmp 7)⟩, ⟨some 9, some (5, true), .load false 1 (.tmp 8)⟩, ⟨some 10, some (5, true), .len (.tmp 9)⟩, ⟨some 11, some (5, true), .bin .gtr (.tmp 10) (.const (.int .i64 0))⟩, ⟨some 12, none, .pick (.tmp 5) (.tmp 11) (.const (.bool false))⟩, ⟨some 2, none, .mov (.tmp 12)⟩])
  .ret)),
  [.tmp 2]⟩
theorem c41 : cprog Go.Proofs.Try.prog 41 = some C41 := by kernel_rfl
-- (*dustcart/model.Model).kept
def C42_1 : CCode := .seq (.region [⟨some 97, none, .bin .lss (.tmp 96) (.tmp 95)⟩])
       (.seq (.cond (.tmp 97)
        .skip
        (.exit 10))
       (.seq (.block 11 (.seq (.region [⟨some 98, none, .mov (.tmp 96)⟩, ⟨some 99, none, .index 5 (.tmp 94) (.tmp 96)⟩, ⟨some 100, none, .load true 5 (.tmp 99)⟩, ⟨some 15, none, .new [.int .i64 0, .int .i64 0, .int .i64 0, .nilSlice, .nilSlice]⟩, ⟨some 14, none, .mov (.tmp 98)⟩, ⟨none, none, .store 5 (.tmp 15) (.tmp 100)⟩])
        (.seq (.dregion [⟨⟨some 101, none, .load false 1 (.tmp 3)⟩, 0, 1, 0⟩, ⟨⟨some 102, none, .mov (.tmp 14)⟩, 1, 0, 0⟩, ⟨⟨some 103, none, .bin .add (.tmp 102) (.const (.int .i64 1))⟩, 2, 0, 0⟩, ⟨⟨some 104, none, .index 1 (.tmp 101) (.tmp 103)⟩, 3, 0, 0⟩, ⟨⟨some 105, none, .load false 1 (.tmp 104)⟩, 4, 1, 0⟩, ⟨⟨some 106, none, .mov (.tmp 105)⟩, 5, 0, 0⟩, ⟨⟨some 107, some (106, true), .field 0 (.tmp 15)⟩, 6, 0, 0⟩, ⟨⟨some 108, some (106, true), .field 2 (.tmp 107)⟩, 7, 0, 0⟩, ⟨⟨some 109, some (106, true), .load false 1 (.tmp 108)⟩, 8, 1, 0⟩, ⟨⟨some 110, some (106, true), .bin .eql (.tmp 109) (.const (.int .i64 2))⟩, 9, 0, 0⟩, ⟨⟨some 111, none, .pick (.tmp 106) (.tmp 110) (.const (.bool false))⟩, 10, 0, 0⟩, ⟨⟨some 112, none, .mov (.tmp 111)⟩, 11, 0, 0⟩, ⟨⟨some 113, some (112, true), .load false 1 (.tmp 3)⟩, 12, 1, 0⟩, ⟨⟨some 114, some (112, true), .field 3 (.tmp 15)⟩, 13, 0, 0⟩, ⟨⟨some 115, some (112, true), .load false 1 (.tmp 114)⟩, 14, 1, 0⟩, ⟨⟨some 116, some (112, true), .index 1 (.tmp 115) (.const (.int .i64 0))⟩, 15, 0, 0⟩, ⟨⟨some 117, some (112, true), .load false 1 (.tmp 116)⟩, 16, 1, 0⟩, ⟨⟨some 118, some (112, true), .index 1 (.tmp 113) (.tmp 117)⟩, 17, 0, 0⟩, ⟨⟨some 119, some (112, true), .load false 1 (.tmp 118)⟩, 18, 1, 0⟩, ⟨⟨some 120, none, .pick (.tmp 112) (.tmp 119) (.const (.bool false))⟩, 19, 0, 0⟩])
        (.cond (.tmp 120)
         (.region [⟨some 121, none, .mov (.tmp 5)⟩, ⟨some 122, none, .field 3 (.tmp 15)⟩, ⟨some 123, none, .load false 1 (.tmp 122)⟩, ⟨some 124, none, .index 1 (.tmp 123) (.const (.int .i64 1))⟩, ⟨some 125, none, .load false 1 (.tmp 124)⟩, ⟨some 126, none, .callv (.tmp 121) [(.tmp 125)]⟩])
         .skip))))
       (.region [⟨some 127, none, .bin .add (.tmp 96) (.const (.int .i64 1))⟩, ⟨some 96, none, .mov (.tmp 127)⟩])))
def C42_2 : CCode := .seq (.region [⟨some 84, none, .bin .lss (.tmp 83) (.tmp 82)⟩])
          (.seq (.cond (.tmp 84)
           .skip
           (.exit 8))
          (.seq (.block 9 (.seq (.region [⟨some 85, none, .index 1 (.tmp 81) (.tmp 83)⟩, ⟨some 86, none, .load false 1 (.tmp 85)⟩, ⟨some 13, none, .mov (.tmp 86)⟩])
           (.region [⟨some 87, none, .mov (.tmp 5)⟩, ⟨some 88, none, .mov (.tmp 13)⟩, ⟨some 89, none, .callv (.tmp 87) [(.tmp 88)]⟩])))
          (.region [⟨some 90, none, .bin .add (.tmp 83) (.const (.int .i64 1))⟩, ⟨some 83, none, .mov (.tmp 90)⟩])))
def C42_3 : CCode := .seq (.seq (.region [⟨some 56, none, .load false 1 (.tmp 4)⟩, ⟨some 57, none, .len (.tmp 56)⟩, ⟨some 58, none, .bin .gtr (.tmp 57) (.const (.int .i64 0))⟩])
       (.cond (.tmp 58)
        .skip
        (.exit 6)))
       (.block 7 (.seq (.region [⟨some 59, none, .mov (.tmp 0)⟩, ⟨some 60, none, .load false 1 (.tmp 4)⟩, ⟨some 61, none, .load false 1 (.tmp 4)⟩, ⟨some 62, none, .len (.tmp 61)⟩, ⟨some 63, none, .bin .sub (.tmp 62) (.const (.int .i64 1))⟩, ⟨some 64, none, .index 1 (.tmp 60) (.tmp 63)⟩, ⟨some 65, none, .load false 1 (.tmp 64)⟩, ⟨some 66, none, .call 74 [(.tmp 59), (.tmp 65)]⟩, ⟨some 11, none, .mov (.tmp 66)⟩])
        (.seq (.region [⟨some 67, none, .load false 1 (.tmp 4)⟩, ⟨some 68, none, .load false 1 (.tmp 4)⟩, ⟨some 69, none, .len (.tmp 68)⟩, ⟨some 70, none, .bin .sub (.tmp 69) (.const (.int .i64 1))⟩, ⟨some 71, none, .slice 1 (.tmp 67) none (some (.tmp 70)) none⟩, ⟨none, none, .store 1 (.tmp 4) (.tmp 71)⟩])
        (.seq (.dregion [⟨⟨some 76, none, .mov (.tmp 11)⟩, 4, 0, 0⟩, ⟨⟨some 77, none, .nilCheck (.tmp 76)⟩, 5, 0, 0⟩, ⟨⟨some 78, none, .field 0 (.tmp 77)⟩, 6, 0, 0⟩, ⟨⟨some 79, none, .load true 3 (.tmp 78)⟩, 7, 1, 0⟩, ⟨⟨some 80, none, .call 50 [(.tmp 79)]⟩, 8, 3, 0⟩, ⟨⟨some 72, none, .mov (.tmp 11)⟩, 0, 0, 0⟩, ⟨⟨some 73, none, .nilCheck (.tmp 72)⟩, 1, 0, 0⟩, ⟨⟨some 74, none, .field 3 (.tmp 73)⟩, 2, 0, 0⟩, ⟨⟨some 75, none, .load false 1 (.tmp 74)⟩, 3, 1, 0⟩, ⟨⟨some 81, none, .slice 1 (.tmp 75) (some (.tmp 80)) none none⟩, 9, 0, 1⟩, ⟨⟨some 82, none, .len (.tmp 81)⟩, 10, 0, 1⟩, ⟨⟨some 83, none, .mov (.const (.int .i64 0))⟩, 11, 0, 0⟩])
        (.block 8 (.loop C42_2))))))
def C42_4 : CCode := .seq (.seq (.region [⟨some 55, none, .mov (.tmp 10)⟩])
    (.cond (.tmp 55)
     .skip
     (.exit 4)))
    (.block 5 (.seq (.block 6 (.loop C42_3))
     (.seq (.seq (.region [⟨some 91, none, .mov (.tmp 0)⟩, ⟨some 92, none, .nilCheck (.tmp 91)⟩, ⟨some 93, none, .field 3 (.tmp 92)⟩, ⟨some 94, none, .load false 1 (.tmp 93)⟩, ⟨some 95, none, .len (.tmp 94)⟩, ⟨some 96, none, .mov (.const (.int .i64 0))⟩])
     (.block 10 (.loop C42_1)))
     (.region [⟨some 128, none, .load false 1 (.tmp 4)⟩, ⟨some 129, none, .len (.tmp 128)⟩, ⟨some 130, none, .bin .gtr (.tmp 129) (.const (.int .i64 0))⟩, ⟨some 10, none, .mov (.tmp 130)⟩]))))
def C42_5 : CCode := .seq (.region [⟨some 47, none, .bin .lss (.tmp 46) (.tmp 45)⟩])
       (.seq (.cond (.tmp 47)
        .skip
        (.exit 2))
       (.seq (.block 3 (.seq (.region [⟨some 48, none, .index 1 (.tmp 44) (.tmp 46)⟩, ⟨some 49, none, .load false 1 (.tmp 48)⟩, ⟨some 9, none, .mov (.tmp 49)⟩])
        (.region [⟨some 50, none, .mov (.tmp 5)⟩, ⟨some 51, none, .mov (.tmp 9)⟩, ⟨some 52, none, .callv (.tmp 50) [(.tmp 51)]⟩])))
       (.region [⟨some 53, none, .bin .add (.tmp 46) (.const (.int .i64 1))⟩, ⟨some 46, none, .mov (.tmp 53)⟩])))
def C42_6 : CCode := .seq (.region [⟨some 41, none, .bin .lss (.tmp 40) (.tmp 39)⟩])
    (.seq (.cond (.tmp 41)
     .skip
     (.exit 0))
    (.seq (.block 1 (.seq (.region [⟨some 42, none, .index 1 (.tmp 38) (.tmp 40)⟩, ⟨some 43, none, .load false 1 (.tmp 42)⟩, ⟨some 7, none, .mov (.tmp 43)⟩])
     (.seq (.region [⟨some 44, none, .mov (.tmp 7)⟩, ⟨some 45, none, .len (.tmp 44)⟩, ⟨some 46, none, .mov (.const (.int .i64 0))⟩])
     (.block 2 (.loop C42_5)))))
    (.region [⟨some 54, none, .bin .add (.tmp 40) (.const (.int .i64 1))⟩, ⟨some 40, none, .mov (.tmp 54)⟩])))
def C42 : CFunc := ⟨(.seq (.region [⟨some 2, none, .mov (.const (.nilSlice))⟩])
  (.seq (.region [⟨some 16, none, .mov (.tmp 0)⟩, ⟨some 17, none, .nilCheck (.tmp 16)⟩, ⟨some 18, none, .field 3 (.tmp 17)⟩, ⟨some 19, none, .load false 1 (.tmp 18)⟩, ⟨some 20, none, .len (.tmp 19)⟩, ⟨some 21, none, .bin .add (.tmp 20) (.const (.int .i64 1))⟩, ⟨some 22, none, .makeSlice 1 [.bool false] (.tmp 21) (.tmp 21)⟩, ⟨some 3, none, .new [.nilSlice]⟩, ⟨none, none, .store 1 (.tmp 3) (.tmp 22)⟩])
  (.seq (.region [⟨some 4, none, .new [.nilSlice]⟩])
  (.seq (.region [⟨some 23, none, .mkfunc 72 [(.tmp 3), (.tmp 4)]⟩, ⟨some 5, none, .mov (.tmp 23)⟩])
  (.seq (.seq (.dregion [⟨⟨some 24, none, .mov (.tmp 0)⟩, 0, 0, 0⟩, ⟨⟨some 25, none, .nilCheck (.tmp 24)⟩, 1, 0, 0⟩, ⟨⟨some 26, none, .field 0 (.tmp 25)⟩, 2, 0, 0⟩, ⟨⟨some 27, none, .load false 1 (.tmp 26)⟩, 3, 1, 0⟩, ⟨⟨some 28, none, .call 73 [(.tmp 27)]⟩, 4, 3, 0⟩, ⟨⟨some 29, none, .mov (.tmp 0)⟩, 5, 0, 0⟩, ⟨⟨some 30, none, .nilCheck (.tmp 29)⟩, 6, 0, 0⟩, ⟨⟨some 31, none, .field 1 (.tmp 30)⟩, 7, 0, 0⟩, ⟨⟨some 32, none, .load false 1 (.tmp 31)⟩, 8, 1, 0⟩, ⟨⟨some 33, none, .mov (.tmp 0)⟩, 9, 0, 0⟩, ⟨⟨some 34, none, .nilCheck (.tmp 33)⟩, 10, 0, 0⟩, ⟨⟨some 35, none, .field 2 (.tmp 34)⟩, 11, 0, 0⟩, ⟨⟨some 36, none, .load false 1 (.tmp 35)⟩, 12, 1, 0⟩, ⟨⟨some 37, none, .buildSlice 1 [.nilSlice, .nilSlice] 2 [(0, 1, (.tmp 32)), (1, 1, (.tmp 36))]⟩, 13, 0, 0⟩, ⟨⟨some 38, none, .append 1 (.tmp 28) (.tmp 37)⟩, 14, 3, 1⟩, ⟨⟨some 39, none, .len (.tmp 38)⟩, 15, 0, 2⟩, ⟨⟨some 40, none, .mov (.const (.int .i64 0))⟩, 16, 0, 0⟩])
  (.block 0 (.loop C42_6)))
  (.seq (.seq (.region [⟨some 10, none, .mov (.const (.bool true))⟩])
  (.block 4 (.loop C42_4)))
  (.seq (.region [⟨some 131, none, .load false 1 (.tmp 3)⟩, ⟨some 2, none, .mov (.tmp 131)⟩])
  .ret))))))),
  [.tmp 2]⟩
theorem c42 : cprog Go.Proofs.Try.prog 42 = some C42 := by kernel_rfl
-- (*dustcart/model.Model).object
def C43 : CFunc := ⟨(.seq (.region [⟨some 4, none, .mov (.const (.nilPtr))⟩, ⟨some 5, none, .mov (.const (.int .i64 0))⟩])
  (.seq (.block 0 (.seq (.region [⟨some 7, none, .mov (.tmp 0)⟩, ⟨some 8, none, .call 41 [(.tmp 7)]⟩, ⟨some 9, none, .not (.tmp 8)⟩, ⟨some 6, none, .mov (.tmp 9)⟩])
   (.cond (.tmp 6)
    (.seq (.region [⟨some 4, none, .mov (.const (.nilPtr))⟩, ⟨some 5, none, .mov (.const (.int .i64 5))⟩])
    .ret)
    (.seq (.region [⟨some 11, none, .mov (.tmp 0)⟩, ⟨some 12, none, .mov (.tmp 1)⟩, ⟨some 13, none, .call 45 [(.tmp 11), (.tmp 12)]⟩, ⟨some 14, none, .not (.tmp 13)⟩, ⟨some 10, none, .mov (.tmp 14)⟩])
    (.cond (.tmp 10)
     (.seq (.region [⟨some 4, none, .mov (.const (.nilPtr))⟩, ⟨some 5, none, .mov (.const (.int .i64 4))⟩])
     .ret)
     .skip)))))
  (.seq (.region [⟨some 15, none, .mov (.tmp 0)⟩, ⟨some 16, none, .mov (.tmp 1)⟩, ⟨some 17, none, .call 74 [(.tmp 15), (.tmp 16)]⟩, ⟨some 4, none, .mov (.tmp 17)⟩, ⟨some 5, none, .mov (.const (.int .i64 0))⟩])
  .ret))),
  [.tmp 4, .tmp 5]⟩
theorem c43 : cprog Go.Proofs.Try.prog 43 = some C43 := by kernel_rfl
-- dustcart/model.element
def C44 : CFunc := ⟨(.seq (.region [⟨some 4, none, .mov (.const (.int .i64 0))⟩, ⟨some 5, none, .mov (.const (.int .i64 0))⟩])
  (.seq (.seq (.region [⟨some 6, none, .mov (.tmp 1)⟩, ⟨some 7, none, .bin .lss (.tmp 6) (.const (.int .i64 0))⟩, ⟨some 8, none, .mov (.tmp 7)⟩, ⟨some 9, some (8, false), .mov (.tmp 1)⟩, ⟨some 10, some (8, false), .mov (.tmp 0)⟩, ⟨some 11, some (8, false), .len (.tmp 10)⟩, ⟨some 12, some (8, false), .bin .geq (.tmp 9) (.tmp 11)⟩, ⟨some 13, none, .pick (.tmp 8) (.const (.bool true)) (.tmp 12)⟩])
  (.cond (.tmp 13)
   (.seq (.region [⟨some 4, none, .mov (.const (.int .i64 0))⟩, ⟨some 5, none, .mov (.const (.int .i64 1))⟩])
   .ret)
   .skip))
  (.seq (.region [⟨some 14, none, .mov (.tmp 0)⟩, ⟨some 15, none, .mov (.tmp 1)⟩, ⟨some 16, none, .index 1 (.tmp 14) (.tmp 15)⟩, ⟨some 17, none, .load false 1 (.tmp 16)⟩, ⟨some 4, none, .mov (.tmp 17)⟩, ⟨some 5, none, .mov (.const (.int .i64 0))⟩])
  .ret))),
  [.tmp 4, .tmp 5]⟩
theorem c44 : cprog Go.Proofs.Try.prog 44 = some C44 := by kernel_rfl
-- (*dustcart/model.Model).there
def C45 : CFunc := ⟨(.seq (.region [⟨some 4, none, .mov (.const (.bool false))⟩])
  (.seq (.region [⟨some 5, none, .mov (.tmp 0)⟩, ⟨some 6, none, .call 41 [(.tmp 5)]⟩, ⟨some 7, none, .mov (.tmp 6)⟩, ⟨some 8, some (7, true), .mov (.tmp 1)⟩, ⟨some 9, some (7, true), .bin .geq (.tmp 8) (.const (.int .i64 1))⟩, ⟨some 10, none, .pick (.tmp 7) (.tmp 9) (.const (.bool false))⟩, ⟨some 11, none, .mov (.tmp 10)⟩, ⟨some 12, some (11, true), .mov (.tmp 1)⟩, ⟨some 13, some (11, true), .mov (.tmp 0)⟩, ⟨some 14, some (11, true), .nilCheck (.tmp 13)⟩, ⟨some 15, some (11, true), .field 3 (.tmp 14)⟩, ⟨some 16, some (11, true), .load false 1 (.tmp 15)⟩, ⟨some 17, some (11, true), .len (.tmp 16)⟩, ⟨some 18, some (11, true), .bin .leq (.tmp 12) (.tmp 17)⟩, ⟨some 19, none, .pick (.tmp 11) (.tmp 18) (.const (.bool false))⟩, ⟨some 4, none, .mov (.tmp 19)⟩])
  .ret)),
  [.tmp 4]⟩
theorem c45 : cprog Go.Proofs.Try.prog 45 = some C45 := by kernel_rfl
-- (*dustcart/model.Model).Pop
def C46 : CFunc := ⟨(.seq (.region [⟨some 2, none, .mov (.const (.int .i64 0))⟩, ⟨some 3, none, .mov (.const (.int .i64 0))⟩])
  (.seq (.block 0 (.seq (.region [⟨some 6, none, .mov (.tmp 0)⟩, ⟨some 7, none, .call 41 [(.tmp 6)]⟩, ⟨some 8, none, .not (.tmp 7)⟩, ⟨some 5, none, .mov (.tmp 8)⟩])
   (.cond (.tmp 5)
    (.seq (.region [⟨some 2, none, .mov (.const (.int .i64 0))⟩, ⟨some 3, none, .mov (.const (.int .i64 5))⟩])
    .ret)
    (.seq (.region [⟨some 10, none, .mov (.tmp 0)⟩, ⟨some 11, none, .nilCheck (.tmp 10)⟩, ⟨some 12, none, .field 2 (.tmp 11)⟩, ⟨some 13, none, .load false 1 (.tmp 12)⟩, ⟨some 14, none, .len (.tmp 13)⟩, ⟨some 15, none, .bin .eql (.tmp 14) (.const (.int .i64 0))⟩, ⟨some 9, none, .mov (.tmp 15)⟩])
    (.cond (.tmp 9)
     (.seq (.region [⟨some 2, none, .mov (.const (.int .i64 0))⟩, ⟨some 3, none, .mov (.const (.int .i64 4))⟩])
     .ret)
     .skip)))))
  (.seq (.region [⟨some 16, none, .mov (.tmp 0)⟩, ⟨some 17, none, .nilCheck (.tmp 16)⟩, ⟨some 18, none, .field 2 (.tmp 17)⟩, ⟨some 19, none, .load false 1 (.tmp 18)⟩, ⟨some 20, none, .index 1 (.tmp 19) (.const (.int .i64 0))⟩, ⟨some 21, none, .load false 1 (.tmp 20)⟩, ⟨some 4, none, .mov (.tmp 21)⟩])
  (.seq (.region [⟨some 22, none, .mov (.tmp 0)⟩, ⟨some 23, none, .mov (.tmp 0)⟩, ⟨some 24, none, .nilCheck (.tmp 23)⟩, ⟨some 25, none, .field 2 (.tmp 24)⟩, ⟨some 26, none, .load false 1 (.tmp 25)⟩, ⟨some 27, none, .slice 1 (.tmp 26) (some (.const (.int .i64 1))) none none⟩, ⟨some 28, none, .call 53 [(.tmp 27)]⟩, ⟨some 29, none, .nilCheck (.tmp 22)⟩, ⟨some 30, none, .field 2 (.tmp 29)⟩, ⟨none, none, .store 1 (.tmp 30) (.tmp 28)⟩])
  (.seq (.region [⟨some 31, none, .mov (.tmp 4)⟩, ⟨some 2, none, .mov (.tmp 31)⟩, ⟨some 3, none, .mov (.const (.int .i64 0))⟩])
  .ret))))),
  [.tmp 2, .tmp 3]⟩
theorem c46 : cprog Go.Proofs.Try.prog 46 = some C46 := by kernel_rfl
-- (*dustcart/model.Model).Data
def C47 : CFunc := ⟨(.seq (.region [⟨some 6, none, .mov (.const (.int .i64 0))⟩, ⟨some 7, none, .mov (.const (.int .i64 0))⟩])
  (.seq (.region [⟨some 11, none, .mov (.tmp 0)⟩, ⟨some 12, none, .mov (.tmp 1)⟩, ⟨some 13, none, .call 43 [(.tmp 11), (.tmp 12)]⟩, ⟨some 10, none, .mov (.tmp 13)⟩, ⟨some 14, none, .extract (.tmp 10) 0⟩, ⟨some 15, none, .extract (.tmp 10) 1⟩, ⟨some 8, none, .mov (.tmp 14)⟩, ⟨some 9, none, .mov (.tmp 15)⟩])
  (.seq (.seq (.region [⟨some 16, none, .mov (.tmp 9)⟩, ⟨some 17, none, .bin .neq (.tmp 16) (.const (.int .i64 0))⟩])
  (.cond (.tmp 17)
   (.seq (.region [⟨some 18, none, .mov (.tmp 9)⟩, ⟨some 6, none, .mov (.const (.int .i64 0))⟩, ⟨some 7, none, .mov (.tmp 18)⟩])
   .ret)
   .skip))
  (.seq (.region [⟨some 19, none, .mov (.tmp 8)⟩, ⟨some 20, none, .nilCheck (.tmp 19)⟩, ⟨some 21, none, .field 4 (.tmp 20)⟩, ⟨some 22, none, .load false 1 (.tmp 21)⟩, ⟨some 23, none, .mov (.tmp 2)⟩, ⟨some 24, none, .call 44 [(.tmp 22), (.tmp 23)]⟩, ⟨some 25, none, .extract (.tmp 24) 0⟩, ⟨some 26, none, .extract (.tmp 24) 1⟩, ⟨some 6, none, .mov (.tmp 25)⟩, ⟨some 7, none, .mov (.tmp 26)⟩])
  .ret)))),
  [.tmp 6, .tmp 7]⟩
theorem c47 : cprog Go.Proofs.Try.prog 47 = some C47 := by kernel_rfl
-- dustcart/model.slot
def C48 : CFunc := ⟨(.seq (.region [⟨some 2, none, .mov (.const (.bool false))⟩])
  (.seq (.region [⟨some 3, none, .mov (.tmp 0)⟩, ⟨some 4, none, .bin .geq (.tmp 3) (.const (.int .i64 0))⟩, ⟨some 5, none, .mov (.tmp 4)⟩, ⟨some 6, some (5, true), .mov (.tmp 0)⟩, ⟨some 7, some (5, true), .bin .lss (.tmp 6) (.const (.int .i64 16))⟩, ⟨some 8, none, .pick (.tmp 5) (.tmp 7) (.const (.bool false))⟩, ⟨some 2, none, .mov (.tmp 8)⟩])
  .ret)),
  [.tmp 2]⟩
theorem c48 : cprog Go.Proofs.Try.prog 48 = some C48 := by kernel_rfl
-- dustcart/dustcartref04.Strong
def C49 : CFunc := ⟨(.seq (.region [⟨some 2, none, .box (.tmp 0)⟩, ⟨some 4, none, .mov (.const (.bool false))⟩])
  (.seq (.region [⟨some 5, none, .field 2 (.tmp 2)⟩, ⟨some 6, none, .load false 1 (.tmp 5)⟩, ⟨some 7, none, .bin .neq (.tmp 6) (.const (.int .i64 1))⟩, ⟨some 8, none, .mov (.tmp 7)⟩, ⟨some 9, some (8, true), .field 2 (.tmp 2)⟩, ⟨some 10, some (8, true), .load false 1 (.tmp 9)⟩, ⟨some 11, some (8, true), .bin .neq (.tmp 10) (.const (.int .i64 2))⟩, ⟨some 12, none, .pick (.tmp 8) (.tmp 11) (.const (.bool false))⟩, ⟨some 13, none, .mov (.tmp 12)⟩, ⟨some 14, some (13, false), .mov (.tmp 1)⟩, ⟨some 15, some (13, false), .bin .gtr (.tmp 14) (.const (.int .i64 0))⟩, ⟨some 16, some (13, false), .mov (.tmp 15)⟩, ⟨some 17, some (16, true), .field 2 (.tmp 2)⟩, ⟨some 18, some (16, true), .load false 1 (.tmp 17)⟩, ⟨some 19, some (16, true), .bin .eql (.tmp 18) (.const (.int .i64 1))⟩, ⟨some 20, some (16, true), .mov (.tmp 19)⟩, ⟨some 21, some (20, false), .mov (.tmp 1)⟩, ⟨some 22, some (20, false), .bin .gtr (.tmp 21) (.const (.int .i64 1))⟩, ⟨some 23, some (16, true), .pick (.tmp 20) (.const (.bool true)) (.tmp 22)⟩, ⟨some 24, some (13, false), .pick (.tmp 16) (.tmp 23) (.const (.bool false))⟩, ⟨some 25, none, .pick (.tmp 13) (.const (.bool true)) (.tmp 24)⟩, ⟨some 4, none, .mov (.tmp 25)⟩])
  .ret)),
  [.tmp 4]⟩
theorem c49 : cprog Go.Proofs.Try.prog 49 = some C49 := by kernel_rfl
-- dustcart/model.softs
def C50 : CFunc := ⟨(.seq (.region [⟨some 1, none, .box (.tmp 0)⟩, ⟨some 2, none, .mov (.const (.int .i64 0))⟩])
  (.seq (.seq (.region [⟨some 3, none, .field 2 (.tmp 1)⟩, ⟨some 4, none, .load false 1 (.tmp 3)⟩])
  (.block 0 (.seq (.region [⟨some 6, none, .bin .eql (.tmp 4) (.const (.int .i64 1))⟩, ⟨some 5, none, .mov (.tmp 6)⟩])
   (.cond (.tmp 5)
    (.seq (.region [⟨some 2, none, .mov (.const (.int .i64 1))⟩])
    .ret)
    (.seq (.region [⟨some 8, none, .bin .eql (.tmp 4) (.const (.int .i64 2))⟩, ⟨some 7, none, .mov (.tmp 8)⟩])
    (.cond (.tmp 7)
     (.seq (.region [⟨some 2, none, .mov (.const (.int .i64 2))⟩])
     .ret)
     .skip))))))
  (.seq (.region [⟨some 2, none, .mov (.const (.int .i64 0))⟩])
  .ret))),
  [.tmp 2]⟩
theorem c50 : cprog Go.Proofs.Try.prog 50 = some C50 := by kernel_rfl
-- slices.ContainsFunc[[]int,int]
def C51 : CFunc := ⟨(.seq (.region [⟨some 4, none, .mov (.const (.bool false))⟩])
  (.seq (.region [⟨some 5, none, .mov (.tmp 0)⟩, ⟨some 6, none, .mov (.tmp 1)⟩, ⟨some 7, none, .call 75 [(.tmp 5), (.tmp 6)]⟩, ⟨some 8, none, .bin .geq (.tmp 7) (.const (.int .i64 0))⟩, ⟨some 4, none, .mov (.tmp 8)⟩])
  .ret)),
  [.tmp 4]⟩
theorem c51 : cprog Go.Proofs.Try.prog 51 = some C51 := by kernel_rfl
-- (*dustcart/model.Model).Collect$1
def C52 : CFunc := ⟨(.seq (.region [⟨some 2, none, .mov (.const (.bool false))⟩])
  (.seq (.region [⟨some 3, none, .mov (.tmp 0)⟩, ⟨some 4, none, .bin .neq (.tmp 3) (.const (.int .i64 0))⟩, ⟨some 2, none, .mov (.tmp 4)⟩])
  .ret)),
  [.tmp 2]⟩
theorem c52 : cprog Go.Proofs.Try.prog 52 = some C52 := by kernel_rfl
-- slices.Clone[[]int,int]
def C53 : CFunc := ⟨(.seq (.region [⟨some 2, none, .mov (.const (.nilSlice))⟩])
  (.seq (.seq (.region [⟨some 3, none, .mov (.tmp 0)⟩, ⟨some 4, none, .eqv false 2 (.tmp 3) (.const (.nilSlice))⟩])
  (.cond (.tmp 4)
   (.seq (.region [⟨some 2, none, .mov (.const (.nilSlice))⟩])
   .ret)
   .skip))
  (.seq (.region [⟨some 5, none, .buildSlice 1 [] 0 []⟩, ⟨some 6, none, .mov (.tmp 0)⟩, ⟨some 7, none, .append 1 (.tmp 5) (.tmp 6)⟩, ⟨some 2, none, .mov (.tmp 7)⟩])
  .ret))),
  [.tmp 2]⟩
theorem c53 : cprog Go.Proofs.Try.prog 53 = some C53 := by kernel_rfl
-- (*dustcart/dustcartref04.Model).Made
def C54 : CFunc := ⟨(.seq (.region [⟨some 2, none, .mov (.const (.bool false))⟩])
  (.seq (.region [⟨some 3, none, .mov (.tmp 0)⟩, ⟨some 4, none, .eqv true 1 (.tmp 3) (.const (.nilPtr))⟩, ⟨some 5, none, .mov (.tmp 4)⟩, ⟨some 6, some (5, true), .mov (.tmp 0)⟩, ⟨some 7, some (5, true), .nilCheck (.tmp 6)⟩, ⟨some 8, some (5, true), .field 0 (.tmp 7)⟩, ⟨some 9, some (5, true), .load false 1 (.tmp 8)⟩, ⟨some 10, some (5, true), .len (.tmp 9)⟩, ⟨some 11, some (5, true), .bin .gtr (.tmp 10) (.const (.int .i64 0))⟩, ⟨some 12, none, .pick (.tmp 5) (.tmp 11) (.const (.bool false))⟩, ⟨some 2, none, .mov (.tmp 12)⟩])
  .ret)),
  [.tmp 2]⟩
theorem c54 : cprog Go.Proofs.Try.prog 54 = some C54 := by kernel_rfl
-- (*dustcart/dustcartref04.Model).Do
def C55 : CFunc := ⟨(.seq (.region [⟨some 5, none, .box (.tmp 2)⟩, ⟨some 6, none, .new [.nilSlice, .int .i64 0, .int .i64 0, .int .i64 0, .int .i64 0, .int .i64 0, .int .i64 0]⟩, ⟨some 7, none, .mov (.const (.int .i64 0))⟩])
  (.seq (.seq (.region [⟨some 12, none, .mov (.tmp 0)⟩, ⟨some 13, none, .call 54 [(.tmp 12)]⟩, ⟨some 14, none, .not (.tmp 13)⟩])
  (.cond (.tmp 14)
   (.seq (.region [⟨some 15, none, .build [.nilSlice, .int .i64 0, .int .i64 0, .int .i64 0, .int .i64 0, .int .i64 0, .int .i64 0] []⟩, ⟨none, none, .store 7 (.tmp 6) (.tmp 15)⟩, ⟨some 7, none, .mov (.const (.int .i64 5))⟩])
   .ret)
   .skip))
  (.seq (.seq (.region [⟨some 16, none, .mov (.tmp 0)⟩, ⟨some 17, none, .mov (.tmp 1)⟩, ⟨some 18, none, .load true 8 (.tmp 5)⟩, ⟨some 19, none, .call 76 [(.tmp 16), (.tmp 17), (.tmp 18)]⟩, ⟨some 8, none, .mov (.tmp 19)⟩])
  (.seq (.region [⟨some 20, none, .mov (.tmp 8)⟩, ⟨some 21, none, .bin .neq (.tmp 20) (.const (.int .i64 0))⟩])
  (.cond (.tmp 21)
   (.seq (.region [⟨some 22, none, .build [.nilSlice, .int .i64 0, .int .i64 0, .int .i64 0, .int .i64 0, .int .i64 0, .int .i64 0] []⟩, ⟨some 23, none, .mov (.tmp 8)⟩, ⟨none, none, .store 7 (.tmp 6) (.tmp 22)⟩, ⟨some 7, none, .mov (.tmp 23)⟩])
   .ret)
   .skip)))
  (.seq (.region [⟨some 24, none, .mov (.tmp 0)⟩, ⟨some 25, none, .nilCheck (.tmp 24)⟩, ⟨some 26, none, .field 0 (.tmp 25)⟩, ⟨some 27, none, .load false 1 (.tmp 26)⟩, ⟨some 28, none, .mov (.tmp 1)⟩, ⟨some 29, none, .index 1 (.tmp 27) (.tmp 28)⟩, ⟨some 30, none, .load false 1 (.tmp 29)⟩, ⟨some 9, none, .mov (.tmp 30)⟩])
  (.seq (.region [⟨some 10, none, .new [.nilSlice, .int .i64 0, .int .i64 0, .int .i64 0, .int .i64 0, .int .i64 0, .int .i64 0]⟩])
  (.seq (.seq (.region [⟨some 31, none, .field 0 (.tmp 5)⟩, ⟨some 32, none, .load false 1 (.tmp 31)⟩])
  (.block 0 (.seq (.region [⟨some 34, none, .bin .eql (.tmp 32) (.const (.int .i64 0))⟩, ⟨some 33, none, .mov (.tmp 34)⟩])
   (.cond (.tmp 33)
    (.seq (.dregion [⟨⟨some 36, none, .mov (.tmp 0)⟩, 1, 0, 0⟩, ⟨⟨some 37, none, .nilCheck (.tmp 36)⟩, 2, 0, 0⟩, ⟨⟨some 38, none, .field 3 (.tmp 37)⟩, 3, 0, 0⟩, ⟨⟨some 39, none, .load false 1 (.tmp 38)⟩, 4, 1, 0⟩, ⟨⟨some 40, none, .field 5 (.tmp 5)⟩, 5, 0, 0⟩, ⟨⟨some 41, none, .load true 3 (.tmp 40)⟩, 6, 1, 0⟩, ⟨⟨some 42, none, .field 5 (.tmp 5)⟩, 7, 0, 0⟩, ⟨⟨some 43, none, .field 0 (.tmp 42)⟩, 8, 0, 0⟩, ⟨⟨some 44, none, .load false 1 (.tmp 43)⟩, 9, 1, 0⟩, ⟨⟨some 45, none, .makeSlice 1 [.int .i64 0] (.tmp 44) (.tmp 44)⟩, 10, 0, 0⟩, ⟨⟨some 46, none, .field 5 (.tmp 5)⟩, 11, 0, 0⟩, ⟨⟨some 47, none, .field 1 (.tmp 46)⟩, 12, 0, 0⟩, ⟨⟨some 48, none, .load false 1 (.tmp 47)⟩, 13, 1, 0⟩, ⟨⟨some 49, none, .makeSlice 1 [.int .i64 0] (.tmp 48) (.tmp 48)⟩, 14, 0, 0⟩, ⟨⟨some 50, none, .build [.int .i64 0, .int .i64 0, .int .i64 0, .nilSlice, .nilSlice] [(0, 3, (.tmp 41)), (3, 1, (.tmp 45)), (4, 1, (.tmp 49))]⟩, 15, 0, 0⟩, ⟨⟨some 51, none, .buildSlice 5 [.int .i64 0, .int .i64 0, .int .i64 0, .nilSlice, .nilSlice] 1 [(0, 5, (.tmp 50))]⟩, 16, 0, 0⟩, ⟨⟨some 52, none, .append 5 (.tmp 39) (.tmp 51)⟩, 17, 3, 0⟩, ⟨⟨some 35, none, .mov (.tmp 0)⟩, 0, 0, 0⟩, ⟨⟨some 53, none, .nilCheck (.tmp 35)⟩, 18, 0, 1⟩, ⟨⟨some 54, none, .field 3 (.tmp 53)⟩, 19, 0, 1⟩, ⟨⟨none, none, .store 1 (.tmp 54) (.tmp 52)⟩, 20, 3, 1⟩])
    (.seq (.dregion [⟨⟨some 55, none, .mov (.tmp 9)⟩, 0, 0, 0⟩, ⟨⟨some 56, none, .field 1 (.tmp 5)⟩, 1, 0, 0⟩, ⟨⟨some 57, none, .load false 1 (.tmp 56)⟩, 2, 1, 0⟩, ⟨⟨some 58, none, .mov (.tmp 0)⟩, 3, 0, 0⟩, ⟨⟨some 59, none, .nilCheck (.tmp 58)⟩, 4, 0, 0⟩, ⟨⟨some 60, none, .field 3 (.tmp 59)⟩, 5, 0, 0⟩, ⟨⟨some 61, none, .load false 1 (.tmp 60)⟩, 6, 1, 0⟩, ⟨⟨some 62, none, .len (.tmp 61)⟩, 7, 0, 0⟩, ⟨⟨some 63, none, .index 1 (.tmp 55) (.tmp 57)⟩, 8, 0, 0⟩, ⟨⟨none, none, .store 1 (.tmp 63) (.tmp 62)⟩, 9, 3, 0⟩])
    (.region [⟨some 64, none, .mov (.tmp 0)⟩, ⟨some 65, none, .nilCheck (.tmp 64)⟩, ⟨some 66, none, .field 3 (.tmp 65)⟩, ⟨some 67, none, .load false 1 (.tmp 66)⟩, ⟨some 68, none, .len (.tmp 67)⟩, ⟨some 69, none, .field 5 (.tmp 10)⟩, ⟨none, none, .store 1 (.tmp 69) (.tmp 68)⟩])))
    (.seq (.region [⟨some 71, none, .bin .eql (.tmp 32) (.const (.int .i64 1))⟩, ⟨some 70, none, .mov (.tmp 71)⟩])
    (.cond (.tmp 70)
     (.seq (.dregion [⟨⟨some 72, none, .mov (.tmp 9)⟩, 0, 0, 0⟩, ⟨⟨some 73, none, .field 1 (.tmp 5)⟩, 1, 0, 0⟩, ⟨⟨some 74, none, .load false 1 (.tmp 73)⟩, 2, 1, 0⟩, ⟨⟨some 75, none, .mov (.tmp 0)⟩, 3, 0, 0⟩, ⟨⟨some 76, none, .nilCheck (.tmp 75)⟩, 4, 0, 0⟩, ⟨⟨some 77, none, .field 3 (.tmp 76)⟩, 5, 0, 0⟩, ⟨⟨some 78, none, .load false 1 (.tmp 77)⟩, 6, 1, 0⟩, ⟨⟨some 79, none, .mov (.tmp 9)⟩, 7, 0, 0⟩, ⟨⟨some 80, none, .field 2 (.tmp 5)⟩, 8, 0, 0⟩, ⟨⟨some 81, none, .load false 1 (.tmp 80)⟩, 9, 1, 0⟩, ⟨⟨some 82, none, .index 1 (.tmp 79) (.tmp 81)⟩, 10, 0, 0⟩, ⟨⟨some 83, none, .load false 1 (.tmp 82)⟩, 11, 1, 0⟩, ⟨⟨some 84, none, .bin .sub (.tmp 83) (.const (.int .i64 1))⟩, 12, 0, 0⟩, ⟨⟨some 85, none, .index 5 (.tmp 78) (.tmp 84)⟩, 13, 0, 0⟩, ⟨⟨some 86, none, .field 3 (.tmp 85)⟩, 14, 0, 0⟩, ⟨⟨some 87, none, .load false 1 (.tmp 86)⟩, 15, 1, 0⟩, ⟨⟨some 88, none, .field 3 (.tmp 5)⟩, 16, 0, 0⟩, ⟨⟨some 89, none, .load false 1 (.tmp 88)⟩, 17, 1, 0⟩, ⟨⟨some 90, none, .index 1 (.tmp 87) (.tmp 89)⟩, 18, 0, 0⟩, ⟨⟨some 91, none, .load false 1 (.tmp 90)⟩, 19, 1, 0⟩, ⟨⟨some 92, none, .index 1 (.tmp 72) (.tmp 74)⟩, 20, 0, 0⟩, ⟨⟨none, none, .store 1 (.tmp 92) (.tmp 91)⟩, 21, 3, 0⟩])
     (.region [⟨some 93, none, .mov (.tmp 9)⟩, ⟨some 94, none, .field 1 (.tmp 5)⟩, ⟨some 95, none, .load false 1 (.tmp 94)⟩, ⟨some 96, none, .index 1 (.tmp 93) (.tmp 95)⟩, ⟨some 97, none, .load false 1 (.tmp 96)⟩, ⟨some 98, none, .field 6 (.tmp 10)⟩, ⟨none, none, .store 1 (.tmp 98) (.tmp 97)⟩]))
     (.seq (.region [⟨some 100, none, .bin .eql (.tmp 32) (.const (.int .i64 2))⟩, ⟨some 99, none, .mov (.tmp 100)⟩])
     (.cond (.tmp 99)
      (.seq (.dregion [⟨⟨some 101, none, .mov (.tmp 9)⟩, 0, 0, 0⟩, ⟨⟨some 102, none, .field 1 (.tmp 5)⟩, 1, 0, 0⟩, ⟨⟨some 103, none, .load false 1 (.tmp 102)⟩, 2, 1, 0⟩, ⟨⟨some 104, none, .index 1 (.tmp 101) (.tmp 103)⟩, 3, 0, 0⟩, ⟨⟨some 105, none, .load false 1 (.tmp 104)⟩, 4, 1, 0⟩, ⟨⟨some 113, none, .field 1 (.tmp 10)⟩, 12, 0, 0⟩, ⟨⟨none, none, .store 1 (.tmp 113) (.tmp 105)⟩, 13, 3, 0⟩, ⟨⟨some 106, none, .field 3 (.tmp 5)⟩, 5, 0, 0⟩, ⟨⟨some 107, none, .load false 1 (.tmp 106)⟩, 6, 1, 0⟩, ⟨⟨some 114, none, .field 2 (.tmp 10)⟩, 14, 0, 1⟩, ⟨⟨none, none, .store 1 (.tmp 114) (.tmp 107)⟩, 15, 3, 1⟩, ⟨⟨some 108, none, .mov (.tmp 9)⟩, 7, 0, 0⟩, ⟨⟨some 109, none, .field 2 (.tmp 5)⟩, 8, 0, 0⟩, ⟨⟨some 110, none, .load false 1 (.tmp 109)⟩, 9, 1, 0⟩, ⟨⟨some 111, none, .index 1 (.tmp 108) (.tmp 110)⟩, 10, 0, 0⟩, ⟨⟨some 112, none, .load false 1 (.tmp 111)⟩, 11, 1, 0⟩, ⟨⟨some 115, none, .field 4 (.tmp 10)⟩, 16, 0, 2⟩, ⟨⟨none, none, .store 1 (.tmp 115) (.tmp 112)⟩, 17, 3, 2⟩])
      (.seq (.dregion [⟨⟨some 116, none, .mov (.tmp 0)⟩, 0, 0, 0⟩, ⟨⟨some 117, none, .nilCheck (.tmp 116)⟩, 1, 0, 0⟩, ⟨⟨some 118, none, .field 3 (.tmp 117)⟩, 2, 0, 0⟩, ⟨⟨some 119, none, .load false 1 (.tmp 118)⟩, 3, 1, 0⟩, ⟨⟨some 120, none, .mov (.tmp 9)⟩, 4, 0, 0⟩, ⟨⟨some 121, none, .field 1 (.tmp 5)⟩, 5, 0, 0⟩, ⟨⟨some 122, none, .load false 1 (.tmp 121)⟩, 6, 1, 0⟩, ⟨⟨some 123, none, .index 1 (.tmp 120) (.tmp 122)⟩, 7, 0, 0⟩, ⟨⟨some 124, none, .load false 1 (.tmp 123)⟩, 8, 1, 0⟩, ⟨⟨some 125, none, .bin .sub (.tmp 124) (.const (.int .i64 1))⟩, 9, 0, 0⟩, ⟨⟨some 126, none, .index 5 (.tmp 119) (.tmp 125)⟩, 10, 0, 0⟩, ⟨⟨some 127, none, .field 3 (.tmp 126)⟩, 11, 0, 0⟩, ⟨⟨some 128, none, .load false 1 (.tmp 127)⟩, 12, 1, 0⟩, ⟨⟨some 129, none, .field 3 (.tmp 5)⟩, 13, 0, 0⟩, ⟨⟨some 130, none, .load false 1 (.tmp 129)⟩, 14, 1, 0⟩, ⟨⟨some 131, none, .index 1 (.tmp 128) (.tmp 130)⟩, 15, 0, 0⟩, ⟨⟨some 132, none, .load false 1 (.tmp 131)⟩, 16, 1, 0⟩, ⟨⟨some 133, none, .field 3 (.tmp 10)⟩, 17, 0, 0⟩, ⟨⟨none, none, .store 1 (.tmp 133) (.tmp 132)⟩, 18, 3, 0⟩])
      (.dregion [⟨⟨some 134, none, .mov (.tmp 0)⟩, 0, 0, 0⟩, ⟨⟨some 135, none, .nilCheck (.tmp 134)⟩, 1, 0, 0⟩, ⟨⟨some 136, none, .field 3 (.tmp 135)⟩, 2, 0, 0⟩, ⟨⟨some 137, none, .load false 1 (.tmp 136)⟩, 3, 1, 0⟩, ⟨⟨some 138, none, .mov (.tmp 9)⟩, 4, 0, 0⟩, ⟨⟨some 139, none, .field 1 (.tmp 5)⟩, 5, 0, 0⟩, ⟨⟨some 140, none, .load false 1 (.tmp 139)⟩, 6, 1, 0⟩, ⟨⟨some 141, none, .index 1 (.tmp 138) (.tmp 140)⟩, 7, 0, 0⟩, ⟨⟨some 142, none, .load false 1 (.tmp 141)⟩, 8, 1, 0⟩, ⟨⟨some 143, none, .bin .sub (.tmp 142) (.const (.int .i64 1))⟩, 9, 0, 0⟩, ⟨⟨some 144, none, .index 5 (.tmp 137) (.tmp 143)⟩, 10, 0, 0⟩, ⟨⟨some 145, none, .field 3 (.tmp 144)⟩, 11, 0, 0⟩, ⟨⟨some 146, none, .load false 1 (.tmp 145)⟩, 12, 1, 0⟩, ⟨⟨some 147, none, .field 3 (.tmp 5)⟩, 13, 0, 0⟩, ⟨⟨some 148, none, .load false 1 (.tmp 147)⟩, 14, 1, 0⟩, ⟨⟨some 149, none, .mov (.tmp 9)⟩, 15, 0, 0⟩, ⟨⟨some 150, none, .field 2 (.tmp 5)⟩, 16, 0, 0⟩, ⟨⟨some 151, none, .load false 1 (.tmp 150)⟩, 17, 1, 0⟩, ⟨⟨some 152, none, .index 1 (.tmp 149) (.tmp 151)⟩, 18, 0, 0⟩, ⟨⟨some 153, none, .load false 1 (.tmp 152)⟩, 19, 1, 0⟩, ⟨⟨some 154, none, .index 1 (.tmp 146) (.tmp 148)⟩, 20, 0, 0⟩, ⟨⟨none, none, .store 1 (.tmp 154) (.tmp 153)⟩, 21, 3, 0⟩])))
      (.seq (.region [⟨some 156, none, .bin .eql (.tmp 32) (.const (.int .i64 3))⟩, ⟨some 155, none, .mov (.tmp 156)⟩])
      (.cond (.tmp 155)
       (.dregion [⟨⟨some 157, none, .mov (.tmp 0)⟩, 0, 0, 0⟩, ⟨⟨some 158, none, .nilCheck (.tmp 157)⟩, 1, 0, 0⟩, ⟨⟨some 159, none, .field 3 (.tmp 158)⟩, 2, 0, 0⟩, ⟨⟨some 160, none, .load false 1 (.tmp 159)⟩, 3, 1, 0⟩, ⟨⟨some 161, none, .mov (.tmp 9)⟩, 4, 0, 0⟩, ⟨⟨some 162, none, .field 1 (.tmp 5)⟩, 5, 0, 0⟩, ⟨⟨some 163, none, .load false 1 (.tmp 162)⟩, 6, 1, 0⟩, ⟨⟨some 164, none, .index 1 (.tmp 161) (.tmp 163)⟩, 7, 0, 0⟩, ⟨⟨some 165, none, .load false 1 (.tmp 164)⟩, 8, 1, 0⟩, ⟨⟨some 166, none, .bin .sub (.tmp 165) (.const (.int .i64 1))⟩, 9, 0, 0⟩, ⟨⟨some 167, none, .index 5 (.tmp 160) (.tmp 166)⟩, 10, 0, 0⟩, ⟨⟨some 168, none, .field 4 (.tmp 167)⟩, 11, 0, 0⟩, ⟨⟨some 169, none, .load false 1 (.tmp 168)⟩, 12, 1, 0⟩, ⟨⟨some 170, none, .field 3 (.tmp 5)⟩, 13, 0, 0⟩, ⟨⟨some 171, none, .load false 1 (.tmp 170)⟩, 14, 1, 0⟩, ⟨⟨some 172, none, .field 4 (.tmp 5)⟩, 15, 0, 0⟩, ⟨⟨some 173, none, .load false 1 (.tmp 172)⟩, 16, 1, 0⟩, ⟨⟨some 174, none, .index 1 (.tmp 169) (.tmp 171)⟩, 17, 0, 0⟩, ⟨⟨none, none, .store 1 (.tmp 174) (.tmp 173)⟩, 18, 3, 0⟩])
       (.seq (.region [⟨some 176, none, .bin .eql (.tmp 32) (.const (.int .i64 4))⟩, ⟨some 175, none, .mov (.tmp 176)⟩])
       (.cond (.tmp 175)
        (.dregion [⟨⟨some 177, none, .mov (.tmp 0)⟩, 0, 0, 0⟩, ⟨⟨some 178, none, .nilCheck (.tmp 177)⟩, 1, 0, 0⟩, ⟨⟨some 179, none, .field 3 (.tmp 178)⟩, 2, 0, 0⟩, ⟨⟨some 180, none, .load false 1 (.tmp 179)⟩, 3, 1, 0⟩, ⟨⟨some 181, none, .mov (.tmp 9)⟩, 4, 0, 0⟩, ⟨⟨some 182, none, .field 1 (.tmp 5)⟩, 5, 0, 0⟩, ⟨⟨some 183, none, .load false 1 (.tmp 182)⟩, 6, 1, 0⟩, ⟨⟨some 184, none, .index 1 (.tmp 181) (.tmp 183)⟩, 7, 0, 0⟩, ⟨⟨some 185, none, .load false 1 (.tmp 184)⟩, 8, 1, 0⟩, ⟨⟨some 186, none, .bin .sub (.tmp 185) (.const (.int .i64 1))⟩, 9, 0, 0⟩, ⟨⟨some 187, none, .index 5 (.tmp 180) (.tmp 186)⟩, 10, 0, 0⟩, ⟨⟨some 188, none, .field 4 (.tmp 187)⟩, 11, 0, 0⟩, ⟨⟨some 189, none, .load false 1 (.tmp 188)⟩, 12, 1, 0⟩, ⟨⟨some 190, none, .field 3 (.tmp 5)⟩, 13, 0, 0⟩, ⟨⟨some 191, none, .load false 1 (.tmp 190)⟩, 14, 1, 0⟩, ⟨⟨some 192, none, .index 1 (.tmp 189) (.tmp 191)⟩, 15, 0, 0⟩, ⟨⟨some 193, none, .load false 1 (.tmp 192)⟩, 16, 1, 0⟩, ⟨⟨some 194, none, .buildSlice 1 [.int .i64 0] 1 [(0, 1, (.tmp 193))]⟩, 17, 0, 0⟩, ⟨⟨some 195, none, .field 0 (.tmp 10)⟩, 18, 0, 0⟩, ⟨⟨none, none, .store 1 (.tmp 195) (.tmp 194)⟩, 19, 3, 0⟩])
        (.seq (.region [⟨some 197, none, .bin .eql (.tmp 32) (.const (.int .i64 5))⟩, ⟨some 196, none, .mov (.tmp 197)⟩])
        (.cond (.tmp 196)
         (.seq (.dregion [⟨⟨some 198, none, .mov (.tmp 9)⟩, 0, 0, 0⟩, ⟨⟨some 199, none, .field 1 (.tmp 5)⟩, 1, 0, 0⟩, ⟨⟨some 200, none, .load false 1 (.tmp 199)⟩, 2, 1, 0⟩, ⟨⟨some 201, none, .mov (.tmp 9)⟩, 3, 0, 0⟩, ⟨⟨some 202, none, .field 2 (.tmp 5)⟩, 4, 0, 0⟩, ⟨⟨some 203, none, .load false 1 (.tmp 202)⟩, 5, 1, 0⟩, ⟨⟨some 204, none, .index 1 (.tmp 201) (.tmp 203)⟩, 6, 0, 0⟩, ⟨⟨some 205, none, .load false 1 (.tmp 204)⟩, 7, 1, 0⟩, ⟨⟨some 206, none, .index 1 (.tmp 198) (.tmp 200)⟩, 8, 0, 0⟩, ⟨⟨none, none, .store 1 (.tmp 206) (.tmp 205)⟩, 9, 3, 0⟩])
         (.region [⟨some 207, none, .mov (.tmp 9)⟩, ⟨some 208, none, .field 1 (.tmp 5)⟩, ⟨some 209, none, .load false 1 (.tmp 208)⟩, ⟨some 210, none, .index 1 (.tmp 207) (.tmp 209)⟩, ⟨some 211, none, .load false 1 (.tmp 210)⟩, ⟨some 212, none, .field 6 (.tmp 10)⟩, ⟨none, none, .store 1 (.tmp 212) (.tmp 211)⟩]))
         (.seq (.region [⟨some 214, none, .bin .eql (.tmp 32) (.const (.int .i64 6))⟩, ⟨some 213, none, .mov (.tmp 214)⟩])
         (.cond (.tmp 213)
          (.region [⟨some 215, none, .mov (.tmp 9)⟩, ⟨some 216, none, .field 1 (.tmp 5)⟩, ⟨some 217, none, .load false 1 (.tmp 216)⟩, ⟨some 218, none, .index 1 (.tmp 215) (.tmp 217)⟩, ⟨none, none, .store 1 (.tmp 218) (.const (.int .i64 0))⟩])
          (.seq (.region [⟨some 220, none, .bin .eql (.tmp 32) (.const (.int .i64 7))⟩, ⟨some 219, none, .mov (.tmp 220)⟩])
          (.cond (.tmp 219)
           (.seq (.region [⟨some 221, none, .buildSlice 1 [.int .i64 0] 1 [(0, 1, (.const (.int .i64 0)))]⟩, ⟨some 222, none, .field 0 (.tmp 10)⟩, ⟨none, none, .store 1 (.tmp 222) (.tmp 221)⟩])
           (.seq (.dregion [⟨⟨some 223, none, .mov (.tmp 9)⟩, 0, 0, 0⟩, ⟨⟨some 224, none, .field 1 (.tmp 5)⟩, 1, 0, 0⟩, ⟨⟨some 225, none, .load false 1 (.tmp 224)⟩, 2, 1, 0⟩, ⟨⟨some 226, none, .index 1 (.tmp 223) (.tmp 225)⟩, 3, 0, 0⟩, ⟨⟨some 227, none, .load false 1 (.tmp 226)⟩, 4, 1, 0⟩, ⟨⟨some 228, none, .mov (.tmp 9)⟩, 5, 0, 0⟩, ⟨⟨some 229, none, .field 2 (.tmp 5)⟩, 6, 0, 0⟩, ⟨⟨some 230, none, .load false 1 (.tmp 229)⟩, 7, 1, 0⟩, ⟨⟨some 231, none, .index 1 (.tmp 228) (.tmp 230)⟩, 8, 0, 0⟩, ⟨⟨some 232, none, .load false 1 (.tmp 231)⟩, 9, 1, 0⟩, ⟨⟨some 233, none, .bin .eql (.tmp 227) (.tmp 232)⟩, 10, 0, 0⟩])
           (.cond (.tmp 233)
            (.region [⟨some 234, none, .buildSlice 1 [.int .i64 0] 1 [(0, 1, (.const (.int .i64 1)))]⟩, ⟨some 235, none, .field 0 (.tmp 10)⟩, ⟨none, none, .store 1 (.tmp 235) (.tmp 234)⟩])
            .skip)))
           (.seq (.region [⟨some 237, none, .bin .eql (.tmp 32) (.const (.int .i64 8))⟩, ⟨some 236, none, .mov (.tmp 237)⟩])
           (.cond (.tmp 236)
            (.region [⟨some 238, none, .mov (.tmp 9)⟩, ⟨some 239, none, .field 1 (.tmp 5)⟩, ⟨some 240, none, .load false 1 (.tmp 239)⟩, ⟨some 241, none, .index 1 (.tmp 238) (.tmp 240)⟩, ⟨some 242, none, .load false 1 (.tmp 241)⟩, ⟨some 243, none, .buildSlice 1 [.int .i64 0] 1 [(0, 1, (.tmp 242))]⟩, ⟨some 244, none, .field 0 (.tmp 10)⟩, ⟨none, none, .store 1 (.tmp 244) (.tmp 243)⟩])
            (.seq (.region [⟨some 246, none, .bin .eql (.tmp 32) (.const (.int .i64 9))⟩, ⟨some 245, none, .mov (.tmp 246)⟩])
            (.cond (.tmp 245)
             (.dregion [⟨⟨some 247, none, .mov (.tmp 0)⟩, 0, 0, 0⟩, ⟨⟨some 248, none, .nilCheck (.tmp 247)⟩, 1, 0, 0⟩, ⟨⟨some 249, none, .field 1 (.tmp 248)⟩, 2, 0, 0⟩, ⟨⟨some 250, none, .load false 1 (.tmp 249)⟩, 3, 1, 0⟩, ⟨⟨some 251, none, .field 3 (.tmp 5)⟩, 4, 0, 0⟩, ⟨⟨some 252, none, .load false 1 (.tmp 251)⟩, 5, 1, 0⟩, ⟨⟨some 253, none, .mov (.tmp 9)⟩, 6, 0, 0⟩, ⟨⟨some 254, none, .field 1 (.tmp 5)⟩, 7, 0, 0⟩, ⟨⟨some 255, none, .load false 1 (.tmp 254)⟩, 8, 1, 0⟩, ⟨⟨some 256, none, .index 1 (.tmp 253) (.tmp 255)⟩, 9, 0, 0⟩, ⟨⟨some 257, none, .load false 1 (.tmp 256)⟩, 10, 1, 0⟩, ⟨⟨some 258, none, .index 1 (.tmp 250) (.tmp 252)⟩, 11, 0, 0⟩, ⟨⟨none, none, .store 1 (.tmp 258) (.tmp 257)⟩, 12, 3, 0⟩])
             (.seq (.region [⟨some 260, none, .bin .eql (.tmp 32) (.const (.int .i64 10))⟩, ⟨some 259, none, .mov (.tmp 260)⟩])
             (.cond (.tmp 259)
              (.seq (.dregion [⟨⟨some 261, none, .mov (.tmp 9)⟩, 0, 0, 0⟩, ⟨⟨some 262, none, .field 1 (.tmp 5)⟩, 1, 0, 0⟩, ⟨⟨some 263, none, .load false 1 (.tmp 262)⟩, 2, 1, 0⟩, ⟨⟨some 264, none, .mov (.tmp 0)⟩, 3, 0, 0⟩, ⟨⟨some 265, none, .nilCheck (.tmp 264)⟩, 4, 0, 0⟩, ⟨⟨some 266, none, .field 1 (.tmp 265)⟩, 5, 0, 0⟩, ⟨⟨some 267, none, .load false 1 (.tmp 266)⟩, 6, 1, 0⟩, ⟨⟨some 268, none, .field 3 (.tmp 5)⟩, 7, 0, 0⟩, ⟨⟨some 269, none, .load false 1 (.tmp 268)⟩, 8, 1, 0⟩, ⟨⟨some 270, none, .index 1 (.tmp 267) (.tmp 269)⟩, 9, 0, 0⟩, ⟨⟨some 271, none, .load false 1 (.tmp 270)⟩, 10, 1, 0⟩, ⟨⟨some 272, none, .index 1 (.tmp 261) (.tmp 263)⟩, 11, 0, 0⟩, ⟨⟨none, none, .store 1 (.tmp 272) (.tmp 271)⟩, 12, 3, 0⟩])
              (.region [⟨some 273, none, .mov (.tmp 9)⟩, ⟨some 274, none, .field 1 (.tmp 5)⟩, ⟨some 275, none, .load false 1 (.tmp 274)⟩, ⟨some 276, none, .index 1 (.tmp 273) (.tmp 275)⟩, ⟨some 277, none, .load false 1 (.tmp 276)⟩, ⟨some 278, none, .field 6 (.tmp 10)⟩, ⟨none, none, .store 1 (.tmp 278) (.tmp 277)⟩]))
              (.seq (.region [⟨some 280, none, .bin .eql (.tmp 32) (.const (.int .i64 11))⟩, ⟨some 279, none, .mov (.tmp 280)⟩])
              (.cond (.tmp 279)
               (.seq (.dregion [⟨⟨some 281, none, .mov (.tmp 0)⟩, 0, 0, 0⟩, ⟨⟨some 282, none, .nilCheck (.tmp 281)⟩, 1, 0, 0⟩, ⟨⟨some 283, none, .field 3 (.tmp 282)⟩, 2, 0, 0⟩, ⟨⟨some 284, none, .load false 1 (.tmp 283)⟩, 3, 1, 0⟩, ⟨⟨some 285, none, .mov (.tmp 9)⟩, 4, 0, 0⟩, ⟨⟨some 286, none, .field 1 (.tmp 5)⟩, 5, 0, 0⟩, ⟨⟨some 287, none, .load false 1 (.tmp 286)⟩, 6, 1, 0⟩, ⟨⟨some 288, none, .index 1 (.tmp 285) (.tmp 287)⟩, 7, 0, 0⟩, ⟨⟨some 289, none, .load false 1 (.tmp 288)⟩, 8, 1, 0⟩, ⟨⟨some 290, none, .bin .sub (.tmp 289) (.const (.int .i64 1))⟩, 9, 0, 0⟩, ⟨⟨some 291, none, .index 5 (.tmp 284) (.tmp 290)⟩, 10, 0, 0⟩, ⟨⟨some 292, none, .field 0 (.tmp 291)⟩, 11, 0, 0⟩, ⟨⟨some 293, none, .load true 3 (.tmp 292)⟩, 12, 1, 0⟩, ⟨⟨some 11, none, .new [.int .i64 0, .int .i64 0, .int .i64 0]⟩, 13, 0, 0⟩, ⟨⟨none, none, .store 3 (.tmp 11) (.tmp 293)⟩, 14, 3, 0⟩])
               (.region [⟨some 294, none, .field 0 (.tmp 11)⟩, ⟨some 295, none, .load false 1 (.tmp 294)⟩, ⟨some 296, none, .field 1 (.tmp 11)⟩, ⟨some 297, none, .load false 1 (.tmp 296)⟩, ⟨some 298, none, .field 2 (.tmp 11)⟩, ⟨some 299, none, .load false 1 (.tmp 298)⟩, ⟨some 300, none, .buildSlice 1 [.int .i64 0, .int .i64 0, .int .i64 0] 3 [(0, 1, (.tmp 295)), (1, 1, (.tmp 297)), (2, 1, (.tmp 299))]⟩, ⟨some 301, none, .field 0 (.tmp 10)⟩, ⟨none, none, .store 1 (.tmp 301) (.tmp 300)⟩]))
               .skip))))))))))))))))))))))))))
  (.seq (.region [⟨some 302, none, .load true 7 (.tmp 10)⟩, ⟨none, none, .store 7 (.tmp 6) (.tmp 302)⟩, ⟨some 7, none, .mov (.const (.int .i64 0))⟩])
  .ret))))))),
  [.cell 6 true 7, .tmp 7]⟩
theorem c55 : cprog Go.Proofs.Try.prog 55 = some C55 := by kernel_rfl
-- dustcart/dustcartref04.SameEffect
def C56_1 : CCode := .seq (.seq (.region [⟨some 55, none, .mov (.tmp 5)⟩, ⟨some 56, none, .field 0 (.tmp 2)⟩, ⟨some 57, none, .load false 1 (.tmp 56)⟩, ⟨some 58, none, .len (.tmp 57)⟩, ⟨some 59, none, .bin .lss (.tmp 55) (.tmp 58)⟩])
    (.cond (.tmp 59)
     .skip
     (.exit 0)))
    (.seq (.block 1 (.seq (.dregion [⟨⟨some 62, none, .field 0 (.tmp 2)⟩, 0, 0, 0⟩, ⟨⟨some 63, none, .load false 1 (.tmp 62)⟩, 1, 1, 0⟩, ⟨⟨some 64, none, .mov (.tmp 5)⟩, 2, 0, 0⟩, ⟨⟨some 65, none, .index 1 (.tmp 63) (.tmp 64)⟩, 3, 0, 0⟩, ⟨⟨some 66, none, .load false 1 (.tmp 65)⟩, 4, 1, 0⟩, ⟨⟨some 67, none, .field 0 (.tmp 3)⟩, 5, 0, 0⟩, ⟨⟨some 68, none, .load false 1 (.tmp 67)⟩, 6, 1, 0⟩, ⟨⟨some 69, none, .mov (.tmp 5)⟩, 7, 0, 0⟩, ⟨⟨some 70, none, .index 1 (.tmp 68) (.tmp 69)⟩, 8, 0, 0⟩, ⟨⟨some 71, none, .load false 1 (.tmp 70)⟩, 9, 1, 0⟩, ⟨⟨some 72, none, .bin .neq (.tmp 66) (.tmp 71)⟩, 10, 0, 0⟩])
     (.cond (.tmp 72)
      (.seq (.region [⟨some 4, none, .mov (.const (.bool false))⟩])
      .ret)
      .skip)))
    (.region [⟨some 60, none, .mov (.tmp 5)⟩, ⟨some 61, none, .bin .add (.tmp 60) (.const (.int .i64 1))⟩, ⟨some 5, none, .mov (.tmp 61)⟩]))
def C56 : CFunc := ⟨(.seq (.region [⟨some 2, none, .box (.tmp 0)⟩, ⟨some 3, none, .box (.tmp 1)⟩, ⟨some 4, none, .mov (.const (.bool false))⟩])
  (.seq (.seq (.region [⟨some 6, none, .field 0 (.tmp 2)⟩, ⟨some 7, none, .load false 1 (.tmp 6)⟩, ⟨some 8, none, .len (.tmp 7)⟩, ⟨some 9, none, .field 0 (.tmp 3)⟩, ⟨some 10, none, .load false 1 (.tmp 9)⟩, ⟨some 11, none, .len (.tmp 10)⟩, ⟨some 12, none, .bin .neq (.tmp 8) (.tmp 11)⟩, ⟨some 13, none, .mov (.tmp 12)⟩, ⟨some 14, some (13, false), .field 1 (.tmp 2)⟩, ⟨some 15, some (13, false), .load false 1 (.tmp 14)⟩, ⟨some 16, some (13, false), .field 1 (.tmp 3)⟩, ⟨some 17, some (13, false), .load false 1 (.tmp 16)⟩, ⟨some 18, some (13, false), .bin .neq (.tmp 15) (.tmp 17)⟩, ⟨some 19, none, .pick (.tmp 13) (.const (.bool true)) (.tmp 18)⟩, ⟨some 20, none, .mov (.tmp 19)⟩, ⟨some 21, some (20, false), .field 2 (.tmp 2)⟩, ⟨some 22, some (20, false), .load false 1 (.tmp 21)⟩, ⟨some 23, some (20, false), .field 2 (.tmp 3)⟩, ⟨some 24, some (20, false), .load false 1 (.tmp 23)⟩, ⟨some 25, some (20, false), .bin .neq (.tmp 22) (.tmp 24)⟩, ⟨some 26, none, .pick (.tmp 20) (.const (.bool true)) (.tmp 25)⟩, ⟨some 27, none, .mov (.tmp 26)⟩, ⟨some 28, some (27, false), .field 3 (.tmp 2)⟩, ⟨some 29, some (27, false), .load false 1 (.tmp 28)⟩, ⟨some 30, some (27, false), .field 3 (.tmp 3)⟩, ⟨some 31, some (27, false), .load false 1 (.tmp 30)⟩, ⟨some 32, some (27, false), .bin .neq (.tmp 29) (.tmp 31)⟩, ⟨some 33, none, .pick (.tmp 27) (.const (.bool true)) (.tmp 32)⟩, ⟨some 34, none, .mov (.tmp 33)⟩, ⟨some 35, some (34, false), .field 4 (.tmp 2)⟩, ⟨some 36, some (34, false), .load false 1 (.tmp 35)⟩, ⟨some 37, some (34, false), .field 4 (.tmp 3)⟩, ⟨some 38, some (34, false), .load false 1 (.tmp 37)⟩, ⟨some 39, some (34, false), .bin .neq (.tmp 36) (.tmp 38)⟩, ⟨some 40, none, .pick (.tmp 34) (.const (.bool true)) (.tmp 39)⟩, ⟨some 41, none, .mov (.tmp 40)⟩, ⟨some 42, some (41, false), .field 5 (.tmp 2)⟩, ⟨some 43, some (41, false), .load false 1 (.tmp 42)⟩, ⟨some 44, some (41, false), .field 5 (.tmp 3)⟩, ⟨some 45, some (41, false), .load false 1 (.tmp 44)⟩, ⟨some 46, some (41, false), .bin .neq (.tmp 43) (.tmp 45)⟩, ⟨some 47, none, .pick (.tmp 41) (.const (.bool true)) (.tmp 46)⟩, ⟨some 48, none, .mov (.tmp 47)⟩, ⟨some 49, some (48, false), .field 6 (.tmp 2)⟩, ⟨some 50, some (48, false), .load false 1 (.tmp 49)⟩, ⟨some 51, some (48, false), .field 6 (.tmp 3)⟩, ⟨some 52, some (48, false), .load false 1 (.tmp 51)⟩, ⟨some 53, some (48, false), .bin .neq (.tmp 50) (.tmp 52)⟩, ⟨some 54, none, .pick (.tmp 48) (.const (.bool true)) (.tmp 53)⟩])
  (.cond (.tmp 54)
   (.seq (.region [⟨some 4, none, .mov (.const (.bool false))⟩])
   .ret)
   .skip))
  (.seq (.seq (.region [⟨some 5, none, .mov (.const (.int .i64 0))⟩])
  (.block 0 (.loop C56_1)))
  (.seq (.region [⟨some 4, none, .mov (.const (.bool true))⟩])
  .ret)))),
  [.tmp 4]⟩
theorem c56 : cprog Go.Proofs.Try.prog 56 = some C56 := by kernel_rfl
-- (*dustcart/dustcartref04.Model).Collect
def C57_1 : CCode := .seq (.seq (.region [⟨some 13, none, .mov (.tmp 5)⟩, ⟨some 14, none, .mov (.tmp 3)⟩, ⟨some 15, none, .len (.tmp 14)⟩, ⟨some 16, none, .bin .lss (.tmp 13) (.tmp 15)⟩])
    (.cond (.tmp 16)
     .skip
     (.exit 0)))
    (.seq (.block 1 (.seq (.region [⟨some 19, none, .mov (.tmp 0)⟩, ⟨some 20, none, .nilCheck (.tmp 19)⟩, ⟨some 21, none, .field 3 (.tmp 20)⟩, ⟨some 22, none, .load false 1 (.tmp 21)⟩, ⟨some 23, none, .mov (.tmp 5)⟩, ⟨some 24, none, .bin .sub (.tmp 23) (.const (.int .i64 1))⟩, ⟨some 25, none, .index 5 (.tmp 22) (.tmp 24)⟩, ⟨some 26, none, .load true 5 (.tmp 25)⟩, ⟨some 6, none, .new [.int .i64 0, .int .i64 0, .int .i64 0, .nilSlice, .nilSlice]⟩, ⟨none, none, .store 5 (.tmp 6) (.tmp 26)⟩])
     (.seq (.seq (.region [⟨some 27, none, .mov (.tmp 3)⟩, ⟨some 28, none, .mov (.tmp 5)⟩, ⟨some 29, none, .index 1 (.tmp 27) (.tmp 28)⟩, ⟨some 30, none, .load false 1 (.tmp 29)⟩, ⟨some 31, none, .not (.tmp 30)⟩, ⟨some 32, none, .mov (.tmp 31)⟩, ⟨some 33, some (32, false), .field 0 (.tmp 6)⟩, ⟨some 34, some (32, false), .field 2 (.tmp 33)⟩, ⟨some 35, some (32, false), .load false 1 (.tmp 34)⟩, ⟨some 36, some (32, false), .bin .neq (.tmp 35) (.const (.int .i64 1))⟩, ⟨some 37, some (32, false), .mov (.tmp 36)⟩, ⟨some 38, some (37, true), .field 0 (.tmp 6)⟩, ⟨some 39, some (37, true), .field 2 (.tmp 38)⟩, ⟨some 40, some (37, true), .load false 1 (.tmp 39)⟩, ⟨some 41, some (37, true), .bin .neq (.tmp 40) (.const (.int .i64 2))⟩, ⟨some 42, some (32, false), .pick (.tmp 37) (.tmp 41) (.const (.bool false))⟩, ⟨some 43, none, .pick (.tmp 32) (.const (.bool true)) (.tmp 42)⟩, ⟨some 44, none, .mov (.tmp 43)⟩, ⟨some 45, some (44, false), .mov (.tmp 3)⟩, ⟨some 46, some (44, false), .field 3 (.tmp 6)⟩, ⟨some 47, some (44, false), .load false 1 (.tmp 46)⟩, ⟨some 48, some (44, false), .index 1 (.tmp 47) (.const (.int .i64 0))⟩, ⟨some 49, some (44, false), .load false 1 (.tmp 48)⟩, ⟨some 50, some (44, false), .index 1 (.tmp 45) (.tmp 49)⟩, ⟨some 51, some (44, false), .load false 1 (.tmp 50)⟩, ⟨some 52, none, .pick (.tmp 44) (.const (.bool true)) (.tmp 51)⟩])
     (.cond (.tmp 52)
      (.exit 1)
      .skip))
     (.seq (.region [⟨some 53, none, .field 3 (.tmp 6)⟩, ⟨some 54, none, .load false 1 (.tmp 53)⟩, ⟨some 55, none, .index 1 (.tmp 54) (.const (.int .i64 0))⟩, ⟨some 56, none, .load false 1 (.tmp 55)⟩, ⟨some 57, none, .bin .neq (.tmp 56) (.const (.int .i64 0))⟩, ⟨some 7, none, .mov (.tmp 57)⟩])
     (.seq (.region [⟨some 58, none, .field 3 (.tmp 6)⟩, ⟨some 59, none, .load false 1 (.tmp 58)⟩, ⟨some 60, none, .index 1 (.tmp 59) (.const (.int .i64 0))⟩, ⟨none, none, .store 1 (.tmp 60) (.const (.int .i64 0))⟩])
     (.seq (.seq (.region [⟨some 61, none, .field 0 (.tmp 6)⟩, ⟨some 62, none, .field 2 (.tmp 61)⟩, ⟨some 63, none, .load false 1 (.tmp 62)⟩, ⟨some 64, none, .bin .eql (.tmp 63) (.const (.int .i64 2))⟩])
     (.cond (.tmp 64)
      (.seq (.region [⟨some 65, none, .mov (.tmp 7)⟩, ⟨some 66, none, .mov (.tmp 65)⟩, ⟨some 67, some (66, false), .field 3 (.tmp 6)⟩, ⟨some 68, some (66, false), .load false 1 (.tmp 67)⟩, ⟨some 69, some (66, false), .index 1 (.tmp 68) (.const (.int .i64 1))⟩, ⟨some 70, some (66, false), .load false 1 (.tmp 69)⟩, ⟨some 71, some (66, false), .bin .neq (.tmp 70) (.const (.int .i64 0))⟩, ⟨some 72, none, .pick (.tmp 66) (.const (.bool true)) (.tmp 71)⟩, ⟨some 7, none, .mov (.tmp 72)⟩])
      (.region [⟨some 73, none, .field 3 (.tmp 6)⟩, ⟨some 74, none, .load false 1 (.tmp 73)⟩, ⟨some 75, none, .index 1 (.tmp 74) (.const (.int .i64 1))⟩, ⟨none, none, .store 1 (.tmp 75) (.const (.int .i64 0))⟩]))
      .skip))
     (.seq (.region [⟨some 76, none, .mov (.tmp 7)⟩])
     (.cond (.tmp 76)
      (.region [⟨some 77, none, .mov (.tmp 4)⟩, ⟨some 78, none, .bin .add (.tmp 77) (.const (.int .i64 1))⟩, ⟨some 4, none, .mov (.tmp 78)⟩])
      .skip))))))))
    (.region [⟨some 17, none, .mov (.tmp 5)⟩, ⟨some 18, none, .bin .add (.tmp 17) (.const (.int .i64 1))⟩, ⟨some 5, none, .mov (.tmp 18)⟩]))
def C57 : CFunc := ⟨(.seq (.region [⟨some 2, none, .mov (.const (.int .i64 0))⟩])
  (.seq (.seq (.region [⟨some 8, none, .mov (.tmp 0)⟩, ⟨some 9, none, .call 54 [(.tmp 8)]⟩, ⟨some 10, none, .not (.tmp 9)⟩])
  (.cond (.tmp 10)
   (.seq (.region [⟨some 2, none, .mov (.const (.int .i64 0))⟩])
   .ret)
   .skip))
  (.seq (.region [⟨some 11, none, .mov (.tmp 0)⟩, ⟨some 12, none, .call 77 [(.tmp 11)]⟩, ⟨some 3, none, .mov (.tmp 12)⟩])
  (.seq (.region [⟨some 4, none, .mov (.const (.int .i64 0))⟩])
  (.seq (.seq (.region [⟨some 5, none, .mov (.const (.int .i64 1))⟩])
  (.block 0 (.loop C57_1)))
  (.seq (.region [⟨some 79, none, .mov (.tmp 4)⟩, ⟨some 2, none, .mov (.tmp 79)⟩])
  .ret)))))),
  [.tmp 2]⟩
theorem c57 : cprog Go.Proofs.Try.prog 57 = some C57 := by kernel_rfl
-- (*dustcart/dustcartref04.Model).Push
def C58 : CFunc := ⟨(.seq (.region [⟨some 4, none, .mov (.const (.int .i64 0))⟩])
  (.seq (.seq (.region [⟨some 5, none, .mov (.tmp 0)⟩, ⟨some 6, none, .call 54 [(.tmp 5)]⟩, ⟨some 7, none, .not (.tmp 6)⟩])
  (.cond (.tmp 7)
   (.seq (.region [⟨some 4, none, .mov (.const (.int .i64 5))⟩])
   .ret)
   .skip))
  (.seq (.seq (.region [⟨some 8, none, .mov (.tmp 0)⟩, ⟨some 9, none, .mov (.tmp 1)⟩, ⟨some 10, none, .call 78 [(.tmp 8), (.tmp 9)]⟩, ⟨some 11, none, .not (.tmp 10)⟩])
  (.cond (.tmp 11)
   (.seq (.region [⟨some 4, none, .mov (.const (.int .i64 4))⟩])
   .ret)
   .skip))
  (.seq (.seq (.region [⟨some 12, none, .mov (.tmp 0)⟩, ⟨some 13, none, .nilCheck (.tmp 12)⟩, ⟨some 14, none, .field 2 (.tmp 13)⟩, ⟨some 15, none, .load false 1 (.tmp 14)⟩, ⟨some 16, none, .len (.tmp 15)⟩, ⟨some 17, none, .bin .geq (.tmp 16) (.const (.int .i64 64))⟩])
  (.cond (.tmp 17)
   (.seq (.region [⟨some 4, none, .mov (.const (.int .i64 6))⟩])
   .ret)
   .skip))
  (.seq (.region [⟨some 18, none, .mov (.tmp 0)⟩, ⟨some 19, none, .mov (.tmp 0)⟩, ⟨some 20, none, .nilCheck (.tmp 19)⟩, ⟨some 21, none, .field 2 (.tmp 20)⟩, ⟨some 22, none, .load false 1 (.tmp 21)⟩, ⟨some 23, none, .mov (.tmp 1)⟩, ⟨some 24, none, .buildSlice 1 [.int .i64 0] 1 [(0, 1, (.tmp 23))]⟩, ⟨some 25, none, .append 1 (.tmp 22) (.tmp 24)⟩, ⟨some 26, none, .nilCheck (.tmp 18)⟩, ⟨some 27, none, .field 2 (.tmp 26)⟩, ⟨none, none, .store 1 (.tmp 27) (.tmp 25)⟩])
  (.seq (.region [⟨some 4, none, .mov (.const (.int .i64 0))⟩])
  .ret)))))),
  [.tmp 4]⟩
theorem c58 : cprog Go.Proofs.Try.prog 58 = some C58 := by kernel_rfl
-- (*dustcart/dustcartref04.Model).Pop
def C59 : CFunc := ⟨(.seq (.region [⟨some 2, none, .mov (.const (.int .i64 0))⟩, ⟨some 3, none, .mov (.const (.int .i64 0))⟩])
  (.seq (.seq (.region [⟨some 5, none, .mov (.tmp 0)⟩, ⟨some 6, none, .call 54 [(.tmp 5)]⟩, ⟨some 7, none, .not (.tmp 6)⟩])
  (.cond (.tmp 7)
   (.seq (.region [⟨some 2, none, .mov (.const (.int .i64 0))⟩, ⟨some 3, none, .mov (.const (.int .i64 5))⟩])
   .ret)
   .skip))
  (.seq (.seq (.region [⟨some 8, none, .mov (.tmp 0)⟩, ⟨some 9, none, .nilCheck (.tmp 8)⟩, ⟨some 10, none, .field 2 (.tmp 9)⟩, ⟨some 11, none, .load false 1 (.tmp 10)⟩, ⟨some 12, none, .len (.tmp 11)⟩, ⟨some 13, none, .bin .eql (.tmp 12) (.const (.int .i64 0))⟩])
  (.cond (.tmp 13)
   (.seq (.region [⟨some 2, none, .mov (.const (.int .i64 0))⟩, ⟨some 3, none, .mov (.const (.int .i64 4))⟩])
   .ret)
   .skip))
  (.seq (.region [⟨some 14, none, .mov (.tmp 0)⟩, ⟨some 15, none, .nilCheck (.tmp 14)⟩, ⟨some 16, none, .field 2 (.tmp 15)⟩, ⟨some 17, none, .load false 1 (.tmp 16)⟩, ⟨some 18, none, .index 1 (.tmp 17) (.const (.int .i64 0))⟩, ⟨some 19, none, .load false 1 (.tmp 18)⟩, ⟨some 4, none, .mov (.tmp 19)⟩])
  (.seq (.region [⟨some 20, none, .mov (.tmp 0)⟩, ⟨some 21, none, .buildSlice 1 [] 0 []⟩, ⟨some 22, none, .mov (.tmp 0)⟩, ⟨some 23, none, .nilCheck (.tmp 22)⟩, ⟨some 24, none, .field 2 (.tmp 23)⟩, ⟨some 25, none, .load false 1 (.tmp 24)⟩, ⟨some 26, none, .slice 1 (.tmp 25) (some (.const (.int .i64 1))) none none⟩, ⟨some 27, none, .append 1 (.tmp 21) (.tmp 26)⟩, ⟨some 28, none, .nilCheck (.tmp 20)⟩, ⟨some 29, none, .field 2 (.tmp 28)⟩, ⟨none, none, .store 1 (.tmp 29) (.tmp 27)⟩])
  (.seq (.region [⟨some 30, none, .mov (.tmp 4)⟩, ⟨some 2, none, .mov (.tmp 30)⟩, ⟨some 3, none, .mov (.const (.int .i64 0))⟩])
  .ret)))))),
  [.tmp 2, .tmp 3]⟩
theorem c59 : cprog Go.Proofs.Try.prog 59 = some C59 := by kernel_rfl
-- (*dustcart/dustcartref04.Model).SetRef
def C60 : CFunc := ⟨(.seq (.region [⟨some 8, none, .mov (.const (.int .i64 0))⟩])
  (.seq (.seq (.region [⟨some 10, none, .mov (.tmp 0)⟩, ⟨some 11, none, .mov (.tmp 1)⟩, ⟨some 12, none, .call 79 [(.tmp 10), (.tmp 11)]⟩, ⟨some 9, none, .mov (.tmp 12)⟩])
  (.seq (.region [⟨some 13, none, .mov (.tmp 9)⟩, ⟨some 14, none, .bin .neq (.tmp 13) (.const (.int .i64 0))⟩])
  (.cond (.tmp 14)
   (.seq (.region [⟨some 15, none, .mov (.tmp 9)⟩, ⟨some 8, none, .mov (.tmp 15)⟩])
   .ret)
   .skip)))
  (.seq (.seq (.region [⟨some 16, none, .mov (.tmp 2)⟩, ⟨some 17, none, .bin .lss (.tmp 16) (.const (.int .i64 0))⟩, ⟨some 18, none, .mov (.tmp 17)⟩, ⟨some 19, some (18, false), .mov (.tmp 2)⟩, ⟨some 20, some (18, false), .mov (.tmp 0)⟩, ⟨some 21, some (18, false), .nilCheck (.tmp 20)⟩, ⟨some 22, some (18, false), .field 3 (.tmp 21)⟩, ⟨some 23, some (18, false), .load false 1 (.tmp 22)⟩, ⟨some 24, some (18, false), .mov (.tmp 1)⟩, ⟨some 25, some (18, false), .bin .sub (.tmp 24) (.const (.int .i64 1))⟩, ⟨some 26, some (18, false), .index 5 (.tmp 23) (.tmp 25)⟩, ⟨some 27, some (18, false), .field 3 (.tmp 26)⟩, ⟨some 28, some (18, false), .load false 1 (.tmp 27)⟩, ⟨some 29, some (18, false), .len (.tmp 28)⟩, ⟨some 30, some (18, false), .bin .geq (.tmp 19) (.tmp 29)⟩, ⟨some 31, none, .pick (.tmp 18) (.const (.bool true)) (.tmp 30)⟩, ⟨some 32, none, .mov (.tmp 31)⟩, ⟨some 33, some (32, false), .mov (.tmp 3)⟩, ⟨some 34, some (32, false), .bin .neq (.tmp 33) (.const (.int .i64 0))⟩, ⟨some 35, some (32, false), .mov (.tmp 34)⟩, ⟨some 36, some (35, true), .mov (.tmp 0)⟩, ⟨some 37, some (35, true), .mov (.tmp 3)⟩, ⟨some 38, some (35, true), .call 78 [(.tmp 36), (.tmp 37)]⟩, ⟨some 39, some (35, true), .not (.tmp 38)⟩, ⟨some 40, some (32, false), .pick (.tmp 35) (.tmp 39) (.const (.bool false))⟩, ⟨some 41, none, .pick (.tmp 32) (.const (.bool true)) (.tmp 40)⟩])
  (.cond (.tmp 41)
   (.seq (.region [⟨some 8, none, .mov (.const (.int .i64 1))⟩])
   .ret)
   .skip))
  (.seq (.region [⟨some 42, none, .mov (.tmp 0)⟩, ⟨some 43, none, .nilCheck (.tmp 42)⟩, ⟨some 44, none, .field 3 (.tmp 43)⟩, ⟨some 45, none, .load false 1 (.tmp 44)⟩, ⟨some 46, none, .mov (.tmp 1)⟩, ⟨some 47, none, .bin .sub (.tmp 46) (.const (.int .i64 1))⟩, ⟨some 48, none, .index 5 (.tmp 45) (.tmp 47)⟩, ⟨some 49, none, .field 3 (.tmp 48)⟩, ⟨some 50, none, .load false 1 (.tmp 49)⟩, ⟨some 51, none, .mov (.tmp 2)⟩, ⟨some 52, none, .mov (.tmp 3)⟩, ⟨some 53, none, .index 1 (.tmp 50) (.tmp 51)⟩, ⟨none, none, .store 1 (.tmp 53) (.tmp 52)⟩])
  (.seq (.region [⟨some 8, none, .mov (.const (.int .i64 0))⟩])
  .ret))))),
  [.tmp 8]⟩
theorem c60 : cprog Go.Proofs.Try.prog 60 = some C60 := by kernel_rfl
-- (*dustcart/dustcartref04.Model).Mutators
def C61 : CFunc := ⟨(.seq (.region [⟨some 2, none, .mov (.const (.int .i64 0))⟩])
  (.seq (.seq (.region [⟨some 3, none, .mov (.tmp 0)⟩, ⟨some 4, none, .call 54 [(.tmp 3)]⟩, ⟨some 5, none, .not (.tmp 4)⟩])
  (.cond (.tmp 5)
   (.seq (.region [⟨some 2, none, .mov (.const (.int .i64 0))⟩])
   .ret)
   .skip))
  (.seq (.region [⟨some 6, none, .mov (.tmp 0)⟩, ⟨some 7, none, .nilCheck (.tmp 6)⟩, ⟨some 8, none, .field 0 (.tmp 7)⟩, ⟨some 9, none, .load false 1 (.tmp 8)⟩, ⟨some 10, none, .len (.tmp 9)⟩, ⟨some 2, none, .mov (.tmp 10)⟩])
  .ret))),
  [.tmp 2]⟩
theorem c61 : cprog Go.Proofs.Try.prog 61 = some C61 := by kernel_rfl
end Go.Cs.Try
