/-
  No cell of these rows narrows 'for every input' (looked for: loops, veiled, ifaces, maps, wideKeys, modest, calm, conditions, laid).
  DERIVED. THE GIVEN ROWS OF THIS SEAT. 4 by the template 'for every input the law returns true; each argument reads behind the call as it read before'; 0 by the template 'total and deterministic' (their statements: YtpaijheplfakiaaGreatTotals.lean).
  GIVEN WITH THE SEED: the statements are not yours to turn. If you find one false, say at which input.
  Laid BY PROGRAM, IN A SANDBOX (cutbox-rows.mjs): the forced cells as the released guide's own fill.sh prints them over the translation 2c56e874503682ce… (all of the seat's roots in one cut). By AI agents, Wed Nov 11 2026. No macro, syntax, notation, axiom, sorry.
-/
import Derived.Test.YtpaijheplfakiaaGreatChecked
import GoSem.Claim
import GoSem.ClaimJoined
import GoSem.ClaimMapViews
import Derived.JoinedTies
import Derived.KernelRfl
namespace Go.Proofs.YtpaijheplfakiaaGreat
/- THE CELL 'sum', in the pinned program and in every row, IS THE sha256 OF THE DUMP (.gsa) THAT YtpaijheplfakiaaGreatProg.lean LOADS. Nothing in Lean hashes anything: it is a label: what it is worth is what the hold of that sum in a sandbox is worth. -/
noncomputable def Tryz.pinned : Pinned := { name := "ytpaijheplfakiaagreat", sum := "2c56e874503682ce4094bbd905e697df685cbe16ddb53b140ca4b4fcd7a60b06", checked := Tryz.checked }
namespace Rows
def none {H : Type} : Left H := { results := [], args := [] }

/-- 'dustcartlaw10.CompactNone': WHATEVER THE INPUT: true; the input reads as it did. -/
def compactNoneSpec : ChangeSpec := { name := "compactNone", fn := fun _ => fun
  | [d] => { results := [.lit (.bool true)], args := [d] }
  | _ => none }
def compactNoneRow : OpenClaim := { program := "ytpaijheplfakiaagreat", sum := "2c56e874503682ce4094bbd905e697df685cbe16ddb53b140ca4b4fcd7a60b06", func := "dustcart/dustcartlaw10.CompactNone", spec := "compactNone", unfollowed := true, recurses := true, apart := false }
def CompactNoneSaid : Prop := compactNoneRow.holds Tryz.pinned (OpenSpec.ofChange compactNoneSpec)

/-- ITS FALSE NEIGHBOUR: 'it returns false'. Refute it at one input. -/
def compactNoneWrong : ChangeSpec := { name := "compactNone", fn := fun _ => fun
  | [d] => { results := [.lit (.bool false)], args := [d] }
  | _ => none }
def CompactNoneWrongFalsely : Prop := compactNoneRow.holds Tryz.pinned (OpenSpec.ofChange compactNoneWrong)

/-- 'dustcartlaw09.CopyingNone': WHATEVER THE INPUT: true; the input reads as it did. -/
def copyingNoneSpec : ChangeSpec := { name := "copyingNone", fn := fun _ => fun
  | [d1, d2] => { results := [.lit (.bool true)], args := [d1, d2] }
  | _ => none }
def copyingNoneRow : OpenClaim := { program := "ytpaijheplfakiaagreat", sum := "2c56e874503682ce4094bbd905e697df685cbe16ddb53b140ca4b4fcd7a60b06", func := "dustcart/dustcartlaw09.CopyingNone", spec := "copyingNone", unfollowed := true, recurses := true, apart := false }
def CopyingNoneSaid : Prop := copyingNoneRow.holds Tryz.pinned (OpenSpec.ofChange copyingNoneSpec)

/-- ITS FALSE NEIGHBOUR: 'it returns false'. Refute it at one input. -/
def copyingNoneWrong : ChangeSpec := { name := "copyingNone", fn := fun _ => fun
  | [d1, d2] => { results := [.lit (.bool false)], args := [d1, d2] }
  | _ => none }
def CopyingNoneWrongFalsely : Prop := copyingNoneRow.holds Tryz.pinned (OpenSpec.ofChange copyingNoneWrong)

/-- 'dustcartlaw18.PinNone': WHATEVER THE INPUT: true; the input reads as it did. -/
def pinNoneSpec : ChangeSpec := { name := "pinNone", fn := fun _ => fun
  | [d1, d2, d3] => { results := [.lit (.bool true)], args := [d1, d2, d3] }
  | _ => none }
def pinNoneRow : OpenClaim := { program := "ytpaijheplfakiaagreat", sum := "2c56e874503682ce4094bbd905e697df685cbe16ddb53b140ca4b4fcd7a60b06", func := "dustcart/dustcartlaw18.PinNone", spec := "pinNone", unfollowed := true, recurses := true, apart := false }
def PinNoneSaid : Prop := pinNoneRow.holds Tryz.pinned (OpenSpec.ofChange pinNoneSpec)

/-- ITS FALSE NEIGHBOUR: 'it returns false'. Refute it at one input. -/
def pinNoneWrong : ChangeSpec := { name := "pinNone", fn := fun _ => fun
  | [d1, d2, d3] => { results := [.lit (.bool false)], args := [d1, d2, d3] }
  | _ => none }
def PinNoneWrongFalsely : Prop := pinNoneRow.holds Tryz.pinned (OpenSpec.ofChange pinNoneWrong)

/-- 'dustcartlaw11.ImmixNone': WHATEVER THE INPUT: true; the input reads as it did. -/
def immixNoneSpec : ChangeSpec := { name := "immixNone", fn := fun _ => fun
  | [d1, d2] => { results := [.lit (.bool true)], args := [d1, d2] }
  | _ => none }
def immixNoneRow : OpenClaim := { program := "ytpaijheplfakiaagreat", sum := "2c56e874503682ce4094bbd905e697df685cbe16ddb53b140ca4b4fcd7a60b06", func := "dustcart/dustcartlaw11.ImmixNone", spec := "immixNone", unfollowed := true, recurses := true, apart := false }
def ImmixNoneSaid : Prop := immixNoneRow.holds Tryz.pinned (OpenSpec.ofChange immixNoneSpec)

/-- ITS FALSE NEIGHBOUR: 'it returns false'. Refute it at one input. -/
def immixNoneWrong : ChangeSpec := { name := "immixNone", fn := fun _ => fun
  | [d1, d2] => { results := [.lit (.bool false)], args := [d1, d2] }
  | _ => none }
def ImmixNoneWrongFalsely : Prop := immixNoneRow.holds Tryz.pinned (OpenSpec.ofChange immixNoneWrong)

/- THE SECOND FORM. 'bulk': how many values and letters a reading holds, each counted each time it is reached (what is shared counts as often as it is met; a slice's spare places count too). A statement '..UptoSaid' is the law's where the arguments, and the package variables that the reading takes, are together of bulk at most 1048576: NARROWER than '..Said'. Prove '..Said' where nothing that the law and all that it calls make is longer than what came in: it says more and counts as full. Else prove '..UptoSaid'. A law counts once. -/
mutual
def uptoBulk {H : Type} : DataW H → Nat
  | .lit (.string bytes) => bytes.length + 1
  | .lit _ => 1
  | .nil => 1
  | .ptr d => uptoBulk d + 1
  | .slice elems spare => uptoBulkAll elems + uptoBulkAll spare + 1
  | .agg parts => uptoBulkAll parts + 1
  | .iface _ d => uptoBulk d + 1
  | .map entries => uptoBulkEntries entries + 1
  | .held _ => 1
def uptoBulkAll {H : Type} : List (DataW H) → Nat
  | [] => 0
  | d :: r => uptoBulk d + uptoBulkAll r
def uptoBulkEntries {H : Type} : List (Lit × DataW H) → Nat
  | [] => 0
  | x :: r => uptoBulkEntry x + uptoBulkEntries r
def uptoBulkEntry {H : Type} : Lit × DataW H → Nat
  | (.string bytes, d) => bytes.length + uptoBulk d + 1
  | (_, d) => uptoBulk d + 1
 end
def uptoSmall : (H : Type) → List (DataW H) → Bool := fun _ ds => decide (uptoBulkAll ds ≤ 1048576)
def OpenSpec.upto (s : _root_.Go.ChangeSpec) : _root_.Go.OpenSpec := { _root_.Go.OpenSpec.ofChange s with cond := some uptoSmall }

/-- 'dustcartlaw10.CompactNone', WHERE WHAT IT READS IS OF BULK AT MOST 1048576: true; the input reads as it did. -/
def compactNoneUptoRow : OpenClaim := { program := "ytpaijheplfakiaagreat", sum := "2c56e874503682ce4094bbd905e697df685cbe16ddb53b140ca4b4fcd7a60b06", func := "dustcart/dustcartlaw10.CompactNone", spec := "compactNone", unfollowed := true, recurses := true, apart := false, narrowed := true }
def CompactNoneUptoSaid : Prop := compactNoneUptoRow.holds Tryz.pinned (OpenSpec.upto compactNoneSpec)

/-- 'dustcartlaw09.CopyingNone', WHERE WHAT IT READS IS OF BULK AT MOST 1048576: true; the input reads as it did. -/
def copyingNoneUptoRow : OpenClaim := { program := "ytpaijheplfakiaagreat", sum := "2c56e874503682ce4094bbd905e697df685cbe16ddb53b140ca4b4fcd7a60b06", func := "dustcart/dustcartlaw09.CopyingNone", spec := "copyingNone", unfollowed := true, recurses := true, apart := false, narrowed := true }
def CopyingNoneUptoSaid : Prop := copyingNoneUptoRow.holds Tryz.pinned (OpenSpec.upto copyingNoneSpec)

/-- 'dustcartlaw18.PinNone', WHERE WHAT IT READS IS OF BULK AT MOST 1048576: true; the input reads as it did. -/
def pinNoneUptoRow : OpenClaim := { program := "ytpaijheplfakiaagreat", sum := "2c56e874503682ce4094bbd905e697df685cbe16ddb53b140ca4b4fcd7a60b06", func := "dustcart/dustcartlaw18.PinNone", spec := "pinNone", unfollowed := true, recurses := true, apart := false, narrowed := true }
def PinNoneUptoSaid : Prop := pinNoneUptoRow.holds Tryz.pinned (OpenSpec.upto pinNoneSpec)

/-- 'dustcartlaw11.ImmixNone', WHERE WHAT IT READS IS OF BULK AT MOST 1048576: true; the input reads as it did. -/
def immixNoneUptoRow : OpenClaim := { program := "ytpaijheplfakiaagreat", sum := "2c56e874503682ce4094bbd905e697df685cbe16ddb53b140ca4b4fcd7a60b06", func := "dustcart/dustcartlaw11.ImmixNone", spec := "immixNone", unfollowed := true, recurses := true, apart := false, narrowed := true }
def ImmixNoneUptoSaid : Prop := immixNoneUptoRow.holds Tryz.pinned (OpenSpec.upto immixNoneSpec)

end Rows
end Go.Proofs.YtpaijheplfakiaaGreat
