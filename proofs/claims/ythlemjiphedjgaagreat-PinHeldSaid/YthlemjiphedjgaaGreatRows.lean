/-
  No cell of these rows narrows 'for every input' (looked for: loops, veiled, ifaces, maps, wideKeys, modest, calm, conditions, laid).
  DERIVED. THE GIVEN ROWS OF THIS SEAT. 4 by the template 'for every input the law returns true; each argument reads behind the call as it read before'; 0 by the template 'total and deterministic' (their statements: YthlemjiphedjgaaGreatTotals.lean).
  GIVEN WITH THE SEED: the statements are not yours to turn. If you find one false, say at which input.
  Laid BY PROGRAM, IN A SANDBOX (cutbox-rows.mjs): the forced cells as the released guide's own fill.sh prints them over the translation 15a8408bc7a971f6… (all of the seat's roots in one cut). By AI agents, Wed Nov 11 2026. No macro, syntax, notation, axiom, sorry.
-/
import Derived.Test.YthlemjiphedjgaaGreatChecked
import GoSem.Claim
import GoSem.ClaimJoined
import GoSem.ClaimMapViews
import Derived.JoinedTies
import Derived.KernelRfl
namespace Go.Proofs.YthlemjiphedjgaaGreat
/- THE CELL 'sum', in the pinned program and in every row, IS THE sha256 OF THE DUMP (.gsa) THAT YthlemjiphedjgaaGreatProg.lean LOADS. Nothing in Lean hashes anything: it is a label: what it is worth is what the hold of that sum in a sandbox is worth. -/
noncomputable def Tryz.pinned : Pinned := { name := "ythlemjiphedjgaagreat", sum := "15a8408bc7a971f60f497e69049155306f6b42b37eb1eed435331331fe4bbf4d", checked := Tryz.checked }
namespace Rows
def none {H : Type} : Left H := { results := [], args := [] }

/-- 'dustcartlaw18.PinApart': WHATEVER THE INPUT: true; the input reads as it did. -/
def pinApartSpec : ChangeSpec := { name := "pinApart", fn := fun _ => fun
  | [d1, d2, d3] => { results := [.lit (.bool true)], args := [d1, d2, d3] }
  | _ => none }
def pinApartRow : OpenClaim := { program := "ythlemjiphedjgaagreat", sum := "15a8408bc7a971f60f497e69049155306f6b42b37eb1eed435331331fe4bbf4d", func := "dustcart/dustcartlaw18.PinApart", spec := "pinApart", inPlace := ["maps.clone"], unfollowed := true, recurses := true, apart := false }
def PinApartSaid : Prop := pinApartRow.holds Tryz.pinned (OpenSpec.ofChange pinApartSpec)

/-- ITS FALSE NEIGHBOUR: 'it returns false'. Refute it at one input. -/
def pinApartWrong : ChangeSpec := { name := "pinApart", fn := fun _ => fun
  | [d1, d2, d3] => { results := [.lit (.bool false)], args := [d1, d2, d3] }
  | _ => none }
def PinApartWrongFalsely : Prop := pinApartRow.holds Tryz.pinned (OpenSpec.ofChange pinApartWrong)

/-- 'dustcartlaw18.PinHeld': WHATEVER THE INPUT: true; the input reads as it did. -/
def pinHeldSpec : ChangeSpec := { name := "pinHeld", fn := fun _ => fun
  | [d1, d2, d3] => { results := [.lit (.bool true)], args := [d1, d2, d3] }
  | _ => none }
def pinHeldRow : OpenClaim := { program := "ythlemjiphedjgaagreat", sum := "15a8408bc7a971f60f497e69049155306f6b42b37eb1eed435331331fe4bbf4d", func := "dustcart/dustcartlaw18.PinHeld", spec := "pinHeld", unfollowed := true, recurses := true, apart := false }
def PinHeldSaid : Prop := pinHeldRow.holds Tryz.pinned (OpenSpec.ofChange pinHeldSpec)

/-- ITS FALSE NEIGHBOUR: 'it returns false'. Refute it at one input. -/
def pinHeldWrong : ChangeSpec := { name := "pinHeld", fn := fun _ => fun
  | [d1, d2, d3] => { results := [.lit (.bool false)], args := [d1, d2, d3] }
  | _ => none }
def PinHeldWrongFalsely : Prop := pinHeldRow.holds Tryz.pinned (OpenSpec.ofChange pinHeldWrong)

/-- 'dustcartlaw18.PinPlays': WHATEVER THE INPUT: true; the input reads as it did. -/
def pinPlaysSpec : ChangeSpec := { name := "pinPlays", fn := fun _ => fun
  | [d1, d2] => { results := [.lit (.bool true)], args := [d1, d2] }
  | _ => none }
def pinPlaysRow : OpenClaim := { program := "ythlemjiphedjgaagreat", sum := "15a8408bc7a971f60f497e69049155306f6b42b37eb1eed435331331fe4bbf4d", func := "dustcart/dustcartlaw18.PinPlays", spec := "pinPlays", unfollowed := true, recurses := true, apart := false }
def PinPlaysSaid : Prop := pinPlaysRow.holds Tryz.pinned (OpenSpec.ofChange pinPlaysSpec)

/-- ITS FALSE NEIGHBOUR: 'it returns false'. Refute it at one input. -/
def pinPlaysWrong : ChangeSpec := { name := "pinPlays", fn := fun _ => fun
  | [d1, d2] => { results := [.lit (.bool false)], args := [d1, d2] }
  | _ => none }
def PinPlaysWrongFalsely : Prop := pinPlaysRow.holds Tryz.pinned (OpenSpec.ofChange pinPlaysWrong)

/-- 'dustcartlaw18.PinKept': WHATEVER THE INPUT: true; the input reads as it did. -/
def pinKeptSpec : ChangeSpec := { name := "pinKept", fn := fun _ => fun
  | [d1, d2, d3, d4] => { results := [.lit (.bool true)], args := [d1, d2, d3, d4] }
  | _ => none }
def pinKeptRow : OpenClaim := { program := "ythlemjiphedjgaagreat", sum := "15a8408bc7a971f60f497e69049155306f6b42b37eb1eed435331331fe4bbf4d", func := "dustcart/dustcartlaw18.PinKept", spec := "pinKept", inPlace := ["maps.clone"], unfollowed := true, recurses := true, apart := false }
def PinKeptSaid : Prop := pinKeptRow.holds Tryz.pinned (OpenSpec.ofChange pinKeptSpec)

/-- ITS FALSE NEIGHBOUR: 'it returns false'. Refute it at one input. -/
def pinKeptWrong : ChangeSpec := { name := "pinKept", fn := fun _ => fun
  | [d1, d2, d3, d4] => { results := [.lit (.bool false)], args := [d1, d2, d3, d4] }
  | _ => none }
def PinKeptWrongFalsely : Prop := pinKeptRow.holds Tryz.pinned (OpenSpec.ofChange pinKeptWrong)

/- THE SECOND FORM. 'bulk': how many values and letters a reading holds, each counted each time it is reached (what is shared counts as often as it is met; a slice's spare places count too). A statement '..UptoSaid' is the law's where the arguments, and the package variables that the reading takes, are together of bulk at most 1048576: NARROWER than '..Said'. Prove '..Said' where nothing that the law and all that it calls make is longer than what came in: it says more and counts as full. Else prove '..UptoSaid'. A law counts once. -/
mutual
def uptoBulk {H : Type} : DataW H → Nat
  | .lit (.string bytes) => bytes.length + 1
  | .lit _ => 1
  | .nil => 1
  | .ptr d => uptoBulk d + 1
  | .slice elems spare => uptoBulkAll elems + uptoBulkAll spare + 1
  | .agg parts => uptoBulkAll parts + 1
  | .iface _ d => uptoBulk d + 1
  | .map entries => uptoBulkEntries entries + 1
  | .held _ => 1
def uptoBulkAll {H : Type} : List (DataW H) → Nat
  | [] => 0
  | d :: r => uptoBulk d + uptoBulkAll r
def uptoBulkEntries {H : Type} : List (Lit × DataW H) → Nat
  | [] => 0
  | x :: r => uptoBulkEntry x + uptoBulkEntries r
def uptoBulkEntry {H : Type} : Lit × DataW H → Nat
  | (.string bytes, d) => bytes.length + uptoBulk d + 1
  | (_, d) => uptoBulk d + 1
 end
def uptoSmall : (H : Type) → List (DataW H) → Bool := fun _ ds => decide (uptoBulkAll ds ≤ 1048576)
def OpenSpec.upto (s : _root_.Go.ChangeSpec) : _root_.Go.OpenSpec := { _root_.Go.OpenSpec.ofChange s with cond := some uptoSmall }

/-- 'dustcartlaw18.PinApart', WHERE WHAT IT READS IS OF BULK AT MOST 1048576: true; the input reads as it did. -/
def pinApartUptoRow : OpenClaim := { program := "ythlemjiphedjgaagreat", sum := "15a8408bc7a971f60f497e69049155306f6b42b37eb1eed435331331fe4bbf4d", func := "dustcart/dustcartlaw18.PinApart", spec := "pinApart", inPlace := ["maps.clone"], unfollowed := true, recurses := true, apart := false, narrowed := true }
def PinApartUptoSaid : Prop := pinApartUptoRow.holds Tryz.pinned (OpenSpec.upto pinApartSpec)

/-- 'dustcartlaw18.PinHeld', WHERE WHAT IT READS IS OF BULK AT MOST 1048576: true; the input reads as it did. -/
def pinHeldUptoRow : OpenClaim := { program := "ythlemjiphedjgaagreat", sum := "15a8408bc7a971f60f497e69049155306f6b42b37eb1eed435331331fe4bbf4d", func := "dustcart/dustcartlaw18.PinHeld", spec := "pinHeld", unfollowed := true, recurses := true, apart := false, narrowed := true }
def PinHeldUptoSaid : Prop := pinHeldUptoRow.holds Tryz.pinned (OpenSpec.upto pinHeldSpec)

/-- 'dustcartlaw18.PinPlays', WHERE WHAT IT READS IS OF BULK AT MOST 1048576: true; the input reads as it did. -/
def pinPlaysUptoRow : OpenClaim := { program := "ythlemjiphedjgaagreat", sum := "15a8408bc7a971f60f497e69049155306f6b42b37eb1eed435331331fe4bbf4d", func := "dustcart/dustcartlaw18.PinPlays", spec := "pinPlays", unfollowed := true, recurses := true, apart := false, narrowed := true }
def PinPlaysUptoSaid : Prop := pinPlaysUptoRow.holds Tryz.pinned (OpenSpec.upto pinPlaysSpec)

/-- 'dustcartlaw18.PinKept', WHERE WHAT IT READS IS OF BULK AT MOST 1048576: true; the input reads as it did. -/
def pinKeptUptoRow : OpenClaim := { program := "ythlemjiphedjgaagreat", sum := "15a8408bc7a971f60f497e69049155306f6b42b37eb1eed435331331fe4bbf4d", func := "dustcart/dustcartlaw18.PinKept", spec := "pinKept", inPlace := ["maps.clone"], unfollowed := true, recurses := true, apart := false, narrowed := true }
def PinKeptUptoSaid : Prop := pinKeptUptoRow.holds Tryz.pinned (OpenSpec.upto pinKeptSpec)

end Rows
end Go.Proofs.YthlemjiphedjgaaGreat
