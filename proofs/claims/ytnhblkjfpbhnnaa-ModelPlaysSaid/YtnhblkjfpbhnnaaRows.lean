/-
  No cell of these rows narrows 'for every input' (looked for: loops, veiled, ifaces, maps, wideKeys, modest, calm, conditions, laid).
  DERIVED. THE GIVEN ROWS OF THIS SEAT. 9 by the template 'for every input the law returns true; each argument reads behind the call as it read before'; 0 by the template 'total and deterministic' (their statements: YtnhblkjfpbhnnaaTotals.lean).
  GIVEN WITH THE SEED: the statements are not yours to turn. If you find one false, say at which input.
  Laid BY PROGRAM, IN A SANDBOX (cutbox-rows.mjs): the forced cells as the released guide's own fill.sh prints them over the translation f595b6a679126849… (all of the seat's roots in one cut). By AI agents, Wed Nov 11 2026. No macro, syntax, notation, axiom, sorry.
-/
import Derived.Test.YtnhblkjfpbhnnaaChecked
import GoSem.Claim
import GoSem.ClaimJoined
import GoSem.ClaimMapViews
import Derived.JoinedTies
import Derived.KernelRfl
namespace Go.Proofs.Ytnhblkjfpbhnnaa
/- THE CELL 'sum', in the pinned program and in every row, IS THE sha256 OF THE DUMP (.gsa) THAT YtnhblkjfpbhnnaaProg.lean LOADS. Nothing in Lean hashes anything: it is a label: what it is worth is what the hold of that sum in a sandbox is worth. -/
noncomputable def Try.pinned : Pinned := { name := "ytnhblkjfpbhnnaa", sum := "f595b6a679126849b60cdbf39e45c0c6ed52cd98bc28c1d6e4c89c3f0f9f1e4a", checked := Try.checked }
namespace Rows
def none {H : Type} : Left H := { results := [], args := [] }

/-- 'dustcartlaw04.ModelMore': WHATEVER THE INPUT: true; the input reads as it did. -/
def modelMoreSpec : ChangeSpec := { name := "modelMore", fn := fun _ => fun
  | [d1, d2, d3, d4, d5] => { results := [.lit (.bool true)], args := [d1, d2, d3, d4, d5] }
  | _ => none }
def modelMoreRow : OpenClaim := { program := "ytnhblkjfpbhnnaa", sum := "f595b6a679126849b60cdbf39e45c0c6ed52cd98bc28c1d6e4c89c3f0f9f1e4a", func := "dustcart/dustcartlaw04.ModelMore", spec := "modelMore", unfollowed := true, recurses := true, apart := false }
def ModelMoreSaid : Prop := modelMoreRow.holds Try.pinned (OpenSpec.ofChange modelMoreSpec)

/-- ITS FALSE NEIGHBOUR: 'it returns false'. Refute it at one input. -/
def modelMoreWrong : ChangeSpec := { name := "modelMore", fn := fun _ => fun
  | [d1, d2, d3, d4, d5] => { results := [.lit (.bool false)], args := [d1, d2, d3, d4, d5] }
  | _ => none }
def ModelMoreWrongFalsely : Prop := modelMoreRow.holds Try.pinned (OpenSpec.ofChange modelMoreWrong)

/-- 'dustcartlaw04.ModelTold': WHATEVER THE INPUT: true; the input reads as it did. -/
def modelToldSpec : ChangeSpec := { name := "modelTold", fn := fun _ => fun
  | [d1, d2, d3] => { results := [.lit (.bool true)], args := [d1, d2, d3] }
  | _ => none }
def modelToldRow : OpenClaim := { program := "ytnhblkjfpbhnnaa", sum := "f595b6a679126849b60cdbf39e45c0c6ed52cd98bc28c1d6e4c89c3f0f9f1e4a", func := "dustcart/dustcartlaw04.ModelTold", spec := "modelTold", unfollowed := true, recurses := true, apart := false }
def ModelToldSaid : Prop := modelToldRow.holds Try.pinned (OpenSpec.ofChange modelToldSpec)

/-- ITS FALSE NEIGHBOUR: 'it returns false'. Refute it at one input. -/
def modelToldWrong : ChangeSpec := { name := "modelTold", fn := fun _ => fun
  | [d1, d2, d3] => { results := [.lit (.bool false)], args := [d1, d2, d3] }
  | _ => none }
def ModelToldWrongFalsely : Prop := modelToldRow.holds Try.pinned (OpenSpec.ofChange modelToldWrong)

/-- 'dustcartlaw04.ModelNever': WHATEVER THE INPUT: true; the input reads as it did. -/
def modelNeverSpec : ChangeSpec := { name := "modelNever", fn := fun _ => fun
  | [d1, d2, d3] => { results := [.lit (.bool true)], args := [d1, d2, d3] }
  | _ => none }
def modelNeverRow : OpenClaim := { program := "ytnhblkjfpbhnnaa", sum := "f595b6a679126849b60cdbf39e45c0c6ed52cd98bc28c1d6e4c89c3f0f9f1e4a", func := "dustcart/dustcartlaw04.ModelNever", spec := "modelNever", unfollowed := true, recurses := true, apart := false }
def ModelNeverSaid : Prop := modelNeverRow.holds Try.pinned (OpenSpec.ofChange modelNeverSpec)

/-- ITS FALSE NEIGHBOUR: 'it returns false'. Refute it at one input. -/
def modelNeverWrong : ChangeSpec := { name := "modelNever", fn := fun _ => fun
  | [d1, d2, d3] => { results := [.lit (.bool false)], args := [d1, d2, d3] }
  | _ => none }
def ModelNeverWrongFalsely : Prop := modelNeverRow.holds Try.pinned (OpenSpec.ofChange modelNeverWrong)

/-- 'dustcartlaw04.ModelLeast': WHATEVER THE INPUT: true; the input reads as it did. -/
def modelLeastSpec : ChangeSpec := { name := "modelLeast", fn := fun _ => fun
  | [d1, d2] => { results := [.lit (.bool true)], args := [d1, d2] }
  | _ => none }
def modelLeastRow : OpenClaim := { program := "ytnhblkjfpbhnnaa", sum := "f595b6a679126849b60cdbf39e45c0c6ed52cd98bc28c1d6e4c89c3f0f9f1e4a", func := "dustcart/dustcartlaw04.ModelLeast", spec := "modelLeast", unfollowed := true, recurses := true, apart := false }
def ModelLeastSaid : Prop := modelLeastRow.holds Try.pinned (OpenSpec.ofChange modelLeastSpec)

/-- ITS FALSE NEIGHBOUR: 'it returns false'. Refute it at one input. -/
def modelLeastWrong : ChangeSpec := { name := "modelLeast", fn := fun _ => fun
  | [d1, d2] => { results := [.lit (.bool false)], args := [d1, d2] }
  | _ => none }
def ModelLeastWrongFalsely : Prop := modelLeastRow.holds Try.pinned (OpenSpec.ofChange modelLeastWrong)

/-- 'dustcartlaw04.ModelCollects': WHATEVER THE INPUT: true; the input reads as it did. -/
def modelCollectsSpec : ChangeSpec := { name := "modelCollects", fn := fun _ => fun
  | [d1, d2] => { results := [.lit (.bool true)], args := [d1, d2] }
  | _ => none }
def modelCollectsRow : OpenClaim := { program := "ytnhblkjfpbhnnaa", sum := "f595b6a679126849b60cdbf39e45c0c6ed52cd98bc28c1d6e4c89c3f0f9f1e4a", func := "dustcart/dustcartlaw04.ModelCollects", spec := "modelCollects", unfollowed := true, recurses := true, apart := false }
def ModelCollectsSaid : Prop := modelCollectsRow.holds Try.pinned (OpenSpec.ofChange modelCollectsSpec)

/-- ITS FALSE NEIGHBOUR: 'it returns false'. Refute it at one input. -/
def modelCollectsWrong : ChangeSpec := { name := "modelCollects", fn := fun _ => fun
  | [d1, d2] => { results := [.lit (.bool false)], args := [d1, d2] }
  | _ => none }
def ModelCollectsWrongFalsely : Prop := modelCollectsRow.holds Try.pinned (OpenSpec.ofChange modelCollectsWrong)

/-- 'dustcartlaw04.ModelRefused': WHATEVER THE INPUT: true; the input reads as it did. -/
def modelRefusedSpec : ChangeSpec := { name := "modelRefused", fn := fun _ => fun
  | [d1, d2, d3] => { results := [.lit (.bool true)], args := [d1, d2, d3] }
  | _ => none }
def modelRefusedRow : OpenClaim := { program := "ytnhblkjfpbhnnaa", sum := "f595b6a679126849b60cdbf39e45c0c6ed52cd98bc28c1d6e4c89c3f0f9f1e4a", func := "dustcart/dustcartlaw04.ModelRefused", spec := "modelRefused", unfollowed := true, recurses := true, apart := false }
def ModelRefusedSaid : Prop := modelRefusedRow.holds Try.pinned (OpenSpec.ofChange modelRefusedSpec)

/-- ITS FALSE NEIGHBOUR: 'it returns false'. Refute it at one input. -/
def modelRefusedWrong : ChangeSpec := { name := "modelRefused", fn := fun _ => fun
  | [d1, d2, d3] => { results := [.lit (.bool false)], args := [d1, d2, d3] }
  | _ => none }
def ModelRefusedWrongFalsely : Prop := modelRefusedRow.holds Try.pinned (OpenSpec.ofChange modelRefusedWrong)

/-- 'dustcartlaw04.ModelPlays': WHATEVER THE INPUT: true; the input reads as it did. -/
def modelPlaysSpec : ChangeSpec := { name := "modelPlays", fn := fun _ => fun
  | [d1, d2] => { results := [.lit (.bool true)], args := [d1, d2] }
  | _ => none }
def modelPlaysRow : OpenClaim := { program := "ytnhblkjfpbhnnaa", sum := "f595b6a679126849b60cdbf39e45c0c6ed52cd98bc28c1d6e4c89c3f0f9f1e4a", func := "dustcart/dustcartlaw04.ModelPlays", spec := "modelPlays", unfollowed := true, recurses := true, apart := false }
def ModelPlaysSaid : Prop := modelPlaysRow.holds Try.pinned (OpenSpec.ofChange modelPlaysSpec)

/-- ITS FALSE NEIGHBOUR: 'it returns false'. Refute it at one input. -/
def modelPlaysWrong : ChangeSpec := { name := "modelPlays", fn := fun _ => fun
  | [d1, d2] => { results := [.lit (.bool false)], args := [d1, d2] }
  | _ => none }
def ModelPlaysWrongFalsely : Prop := modelPlaysRow.holds Try.pinned (OpenSpec.ofChange modelPlaysWrong)

/-- 'dustcartlaw04.ModelNone': WHATEVER THE INPUT: true; the input reads as it did. -/
def modelNoneSpec : ChangeSpec := { name := "modelNone", fn := fun _ => fun
  | [d] => { results := [.lit (.bool true)], args := [d] }
  | _ => none }
def modelNoneRow : OpenClaim := { program := "ytnhblkjfpbhnnaa", sum := "f595b6a679126849b60cdbf39e45c0c6ed52cd98bc28c1d6e4c89c3f0f9f1e4a", func := "dustcart/dustcartlaw04.ModelNone", spec := "modelNone", unfollowed := true, recurses := true, apart := false }
def ModelNoneSaid : Prop := modelNoneRow.holds Try.pinned (OpenSpec.ofChange modelNoneSpec)

/-- ITS FALSE NEIGHBOUR: 'it returns false'. Refute it at one input. -/
def modelNoneWrong : ChangeSpec := { name := "modelNone", fn := fun _ => fun
  | [d] => { results := [.lit (.bool false)], args := [d] }
  | _ => none }
def ModelNoneWrongFalsely : Prop := modelNoneRow.holds Try.pinned (OpenSpec.ofChange modelNoneWrong)

/-- 'dustcartlaw04.ModelClones': WHATEVER THE INPUT: true; the input reads as it did. -/
def modelClonesSpec : ChangeSpec := { name := "modelClones", fn := fun _ => fun
  | [d1, d2, d3, d4] => { results := [.lit (.bool true)], args := [d1, d2, d3, d4] }
  | _ => none }
def modelClonesRow : OpenClaim := { program := "ytnhblkjfpbhnnaa", sum := "f595b6a679126849b60cdbf39e45c0c6ed52cd98bc28c1d6e4c89c3f0f9f1e4a", func := "dustcart/dustcartlaw04.ModelClones", spec := "modelClones", unfollowed := true, recurses := true, apart := false }
def ModelClonesSaid : Prop := modelClonesRow.holds Try.pinned (OpenSpec.ofChange modelClonesSpec)

/-- ITS FALSE NEIGHBOUR: 'it returns false'. Refute it at one input. -/
def modelClonesWrong : ChangeSpec := { name := "modelClones", fn := fun _ => fun
  | [d1, d2, d3, d4] => { results := [.lit (.bool false)], args := [d1, d2, d3, d4] }
  | _ => none }
def ModelClonesWrongFalsely : Prop := modelClonesRow.holds Try.pinned (OpenSpec.ofChange modelClonesWrong)

/- THE SECOND FORM. 'bulk': how many values and letters a reading holds, each counted each time it is reached (what is shared counts as often as it is met; a slice's spare places count too). A statement '..UptoSaid' is the law's where the arguments, and the package variables that the reading takes, are together of bulk at most 1048576: NARROWER than '..Said'. Prove '..Said' where nothing that the law and all that it calls make is longer than what came in: it says more and counts as full. Else prove '..UptoSaid'. A law counts once. -/
mutual
def uptoBulk {H : Type} : DataW H → Nat
  | .lit (.string bytes) => bytes.length + 1
  | .lit _ => 1
  | .nil => 1
  | .ptr d => uptoBulk d + 1
  | .slice elems spare => uptoBulkAll elems + uptoBulkAll spare + 1
  | .agg parts => uptoBulkAll parts + 1
  | .iface _ d => uptoBulk d + 1
  | .map entries => uptoBulkEntries entries + 1
  | .held _ => 1
def uptoBulkAll {H : Type} : List (DataW H) → Nat
  | [] => 0
  | d :: r => uptoBulk d + uptoBulkAll r
def uptoBulkEntries {H : Type} : List (Lit × DataW H) → Nat
  | [] => 0
  | x :: r => uptoBulkEntry x + uptoBulkEntries r
def uptoBulkEntry {H : Type} : Lit × DataW H → Nat
  | (.string bytes, d) => bytes.length + uptoBulk d + 1
  | (_, d) => uptoBulk d + 1
 end
def uptoSmall : (H : Type) → List (DataW H) → Bool := fun _ ds => decide (uptoBulkAll ds ≤ 1048576)
def OpenSpec.upto (s : _root_.Go.ChangeSpec) : _root_.Go.OpenSpec := { _root_.Go.OpenSpec.ofChange s with cond := some uptoSmall }

/-- 'dustcartlaw04.ModelMore', WHERE WHAT IT READS IS OF BULK AT MOST 1048576: true; the input reads as it did. -/
def modelMoreUptoRow : OpenClaim := { program := "ytnhblkjfpbhnnaa", sum := "f595b6a679126849b60cdbf39e45c0c6ed52cd98bc28c1d6e4c89c3f0f9f1e4a", func := "dustcart/dustcartlaw04.ModelMore", spec := "modelMore", unfollowed := true, recurses := true, apart := false, narrowed := true }
def ModelMoreUptoSaid : Prop := modelMoreUptoRow.holds Try.pinned (OpenSpec.upto modelMoreSpec)

/-- 'dustcartlaw04.ModelTold', WHERE WHAT IT READS IS OF BULK AT MOST 1048576: true; the input reads as it did. -/
def modelToldUptoRow : OpenClaim := { program := "ytnhblkjfpbhnnaa", sum := "f595b6a679126849b60cdbf39e45c0c6ed52cd98bc28c1d6e4c89c3f0f9f1e4a", func := "dustcart/dustcartlaw04.ModelTold", spec := "modelTold", unfollowed := true, recurses := true, apart := false, narrowed := true }
def ModelToldUptoSaid : Prop := modelToldUptoRow.holds Try.pinned (OpenSpec.upto modelToldSpec)

/-- 'dustcartlaw04.ModelNever', WHERE WHAT IT READS IS OF BULK AT MOST 1048576: true; the input reads as it did. -/
def modelNeverUptoRow : OpenClaim := { program := "ytnhblkjfpbhnnaa", sum := "f595b6a679126849b60cdbf39e45c0c6ed52cd98bc28c1d6e4c89c3f0f9f1e4a", func := "dustcart/dustcartlaw04.ModelNever", spec := "modelNever", unfollowed := true, recurses := true, apart := false, narrowed := true }
def ModelNeverUptoSaid : Prop := modelNeverUptoRow.holds Try.pinned (OpenSpec.upto modelNeverSpec)

/-- 'dustcartlaw04.ModelLeast', WHERE WHAT IT READS IS OF BULK AT MOST 1048576: true; the input reads as it did. -/
def modelLeastUptoRow : OpenClaim := { program := "ytnhblkjfpbhnnaa", sum := "f595b6a679126849b60cdbf39e45c0c6ed52cd98bc28c1d6e4c89c3f0f9f1e4a", func := "dustcart/dustcartlaw04.ModelLeast", spec := "modelLeast", unfollowed := true, recurses := true, apart := false, narrowed := true }
def ModelLeastUptoSaid : Prop := modelLeastUptoRow.holds Try.pinned (OpenSpec.upto modelLeastSpec)

/-- 'dustcartlaw04.ModelCollects', WHERE WHAT IT READS IS OF BULK AT MOST 1048576: true; the input reads as it did. -/
def modelCollectsUptoRow : OpenClaim := { program := "ytnhblkjfpbhnnaa", sum := "f595b6a679126849b60cdbf39e45c0c6ed52cd98bc28c1d6e4c89c3f0f9f1e4a", func := "dustcart/dustcartlaw04.ModelCollects", spec := "modelCollects", unfollowed := true, recurses := true, apart := false, narrowed := true }
def ModelCollectsUptoSaid : Prop := modelCollectsUptoRow.holds Try.pinned (OpenSpec.upto modelCollectsSpec)

/-- 'dustcartlaw04.ModelRefused', WHERE WHAT IT READS IS OF BULK AT MOST 1048576: true; the input reads as it did. -/
def modelRefusedUptoRow : OpenClaim := { program := "ytnhblkjfpbhnnaa", sum := "f595b6a679126849b60cdbf39e45c0c6ed52cd98bc28c1d6e4c89c3f0f9f1e4a", func := "dustcart/dustcartlaw04.ModelRefused", spec := "modelRefused", unfollowed := true, recurses := true, apart := false, narrowed := true }
def ModelRefusedUptoSaid : Prop := modelRefusedUptoRow.holds Try.pinned (OpenSpec.upto modelRefusedSpec)

/-- 'dustcartlaw04.ModelPlays', WHERE WHAT IT READS IS OF BULK AT MOST 1048576: true; the input reads as it did. -/
def modelPlaysUptoRow : OpenClaim := { program := "ytnhblkjfpbhnnaa", sum := "f595b6a679126849b60cdbf39e45c0c6ed52cd98bc28c1d6e4c89c3f0f9f1e4a", func := "dustcart/dustcartlaw04.ModelPlays", spec := "modelPlays", unfollowed := true, recurses := true, apart := false, narrowed := true }
def ModelPlaysUptoSaid : Prop := modelPlaysUptoRow.holds Try.pinned (OpenSpec.upto modelPlaysSpec)

/-- 'dustcartlaw04.ModelNone', WHERE WHAT IT READS IS OF BULK AT MOST 1048576: true; the input reads as it did. -/
def modelNoneUptoRow : OpenClaim := { program := "ytnhblkjfpbhnnaa", sum := "f595b6a679126849b60cdbf39e45c0c6ed52cd98bc28c1d6e4c89c3f0f9f1e4a", func := "dustcart/dustcartlaw04.ModelNone", spec := "modelNone", unfollowed := true, recurses := true, apart := false, narrowed := true }
def ModelNoneUptoSaid : Prop := modelNoneUptoRow.holds Try.pinned (OpenSpec.upto modelNoneSpec)

/-- 'dustcartlaw04.ModelClones', WHERE WHAT IT READS IS OF BULK AT MOST 1048576: true; the input reads as it did. -/
def modelClonesUptoRow : OpenClaim := { program := "ytnhblkjfpbhnnaa", sum := "f595b6a679126849b60cdbf39e45c0c6ed52cd98bc28c1d6e4c89c3f0f9f1e4a", func := "dustcart/dustcartlaw04.ModelClones", spec := "modelClones", unfollowed := true, recurses := true, apart := false, narrowed := true }
def ModelClonesUptoSaid : Prop := modelClonesUptoRow.holds Try.pinned (OpenSpec.upto modelClonesSpec)

end Rows
end Go.Proofs.Ytnhblkjfpbhnnaa
