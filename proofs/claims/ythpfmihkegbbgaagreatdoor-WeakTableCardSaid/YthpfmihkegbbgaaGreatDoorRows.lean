/-
  NARROWER THAN 'FOR EVERY INPUT', by the rows' own cells (each row's printed sentence says how): WeakTable: laid · WeakNone: laid · WeakTwo: laid · WeakPlays: laid · WeakVanish: laid.
  DERIVED. THE GIVEN ROWS OF THIS SEAT. 5 by the template 'for every input the law returns true; each argument reads behind the call as it read before'; 0 by the template 'total and deterministic' (their statements: YthpfmihkegbbgaaGreatDoorTotals.lean).
  GIVEN WITH THE SEED: the statements are not yours to turn. If you find one false, say at which input.
  Laid BY PROGRAM, IN A SANDBOX (cutbox-rows.mjs): the forced cells as the released guide's own fill.sh prints them over the translation f60d21e2fd2f21e5… (all of the seat's roots in one cut). By AI agents, Wed Nov 11 2026. No macro, syntax, notation, axiom, sorry.
-/
import Derived.Test.YthpfmihkegbbgaaGreatDoorChecked
import GoSem.Claim
import GoSem.ClaimJoined
import GoSem.ClaimMapViews
import Derived.JoinedTies
import Derived.KernelRfl
namespace Go.Proofs.YthpfmihkegbbgaaGreatDoor
/- THE CELL 'sum', in the pinned program and in every row, IS THE sha256 OF THE DUMP (.gsa) THAT YthpfmihkegbbgaaGreatDoorProg.lean LOADS. Nothing in Lean hashes anything: it is a label: what it is worth is what the hold of that sum in a sandbox is worth. -/
noncomputable def Tryz.pinned : Pinned := { name := "ythpfmihkegbbgaagreatdoor", sum := "f60d21e2fd2f21e5a87456c626e718ffe531598c27c2044cd2a4f285c29617f8", checked := Tryz.checked }
namespace Rows
def none {H : Type} : Left H := { results := [], args := [] }

/- WHAT THE LISTED PACKAGE-LEVEL VARIABLES READ AS WHEN THE CALL BEGINS. Each datum BY PROGRAM (the guide's laid-datum.mjs) off the statement by which the dump's own 'gosem.cut.vars' lays the variable. In a bare row this is a premise. The card (YthpfmihkegbbgaaGreatDoorCards.lean) ties it to the program's text. -/
def laid_dustcart_weak_headShape {H : Type} : DataW H := .agg [.lit (.int .i64 8), .lit (.int .i64 1), .lit (.int .i64 3)]
def laid_dustcart_weak_entryShape {H : Type} : DataW H := .agg [.lit (.int .i64 3), .lit (.int .i64 1), .lit (.int .i64 2)]

/-- 'dustcartlaw19.WeakTable': WHATEVER THE INPUT: true; the input reads as it did. -/
def weakTableSpec : ChangeSpec := { name := "weakTable", fn := fun _ => fun
  | [d1, d2] => { results := [.lit (.bool true)], args := [d1, d2] }
  | _ => none }
def weakTableRow : OpenClaim := { program := "ythpfmihkegbbgaagreatdoor", sum := "f60d21e2fd2f21e5a87456c626e718ffe531598c27c2044cd2a4f285c29617f8", func := "dustcart/dustcartlaw19.WeakTable", spec := "weakTable", unfollowed := true, recurses := true, named := ["dustcart/weak.headShape", "dustcart/weak.entryShape"], apart := false, laid := [("dustcart/weak.headShape", laid_dustcart_weak_headShape), ("dustcart/weak.entryShape", laid_dustcart_weak_entryShape)] }
def WeakTableSaid : Prop := weakTableRow.holds Tryz.pinned (OpenSpec.ofChange weakTableSpec)

/-- ITS FALSE NEIGHBOUR: 'it returns false'. Refute it at one input. -/
def weakTableWrong : ChangeSpec := { name := "weakTable", fn := fun _ => fun
  | [d1, d2] => { results := [.lit (.bool false)], args := [d1, d2] }
  | _ => none }
def WeakTableWrongFalsely : Prop := weakTableRow.holds Tryz.pinned (OpenSpec.ofChange weakTableWrong)

/-- 'dustcartlaw19.WeakNone': WHATEVER THE INPUT: true; the input reads as it did. -/
def weakNoneSpec : ChangeSpec := { name := "weakNone", fn := fun _ => fun
  | [d1, d2, d3, d4, d5] => { results := [.lit (.bool true)], args := [d1, d2, d3, d4, d5] }
  | _ => none }
def weakNoneRow : OpenClaim := { program := "ythpfmihkegbbgaagreatdoor", sum := "f60d21e2fd2f21e5a87456c626e718ffe531598c27c2044cd2a4f285c29617f8", func := "dustcart/dustcartlaw19.WeakNone", spec := "weakNone", unfollowed := true, recurses := true, named := ["dustcart/weak.headShape", "dustcart/weak.entryShape"], apart := false, laid := [("dustcart/weak.headShape", laid_dustcart_weak_headShape), ("dustcart/weak.entryShape", laid_dustcart_weak_entryShape)] }
def WeakNoneSaid : Prop := weakNoneRow.holds Tryz.pinned (OpenSpec.ofChange weakNoneSpec)

/-- ITS FALSE NEIGHBOUR: 'it returns false'. Refute it at one input. -/
def weakNoneWrong : ChangeSpec := { name := "weakNone", fn := fun _ => fun
  | [d1, d2, d3, d4, d5] => { results := [.lit (.bool false)], args := [d1, d2, d3, d4, d5] }
  | _ => none }
def WeakNoneWrongFalsely : Prop := weakNoneRow.holds Tryz.pinned (OpenSpec.ofChange weakNoneWrong)

/-- 'dustcartlaw19.WeakTwo': WHATEVER THE INPUT: true; the input reads as it did. -/
def weakTwoSpec : ChangeSpec := { name := "weakTwo", fn := fun _ => fun
  | [d] => { results := [.lit (.bool true)], args := [d] }
  | _ => none }
def weakTwoRow : OpenClaim := { program := "ythpfmihkegbbgaagreatdoor", sum := "f60d21e2fd2f21e5a87456c626e718ffe531598c27c2044cd2a4f285c29617f8", func := "dustcart/dustcartlaw19.WeakTwo", spec := "weakTwo", unfollowed := true, recurses := true, named := ["dustcart/weak.headShape", "dustcart/weak.entryShape"], apart := false, laid := [("dustcart/weak.headShape", laid_dustcart_weak_headShape), ("dustcart/weak.entryShape", laid_dustcart_weak_entryShape)] }
def WeakTwoSaid : Prop := weakTwoRow.holds Tryz.pinned (OpenSpec.ofChange weakTwoSpec)

/-- ITS FALSE NEIGHBOUR: 'it returns false'. Refute it at one input. -/
def weakTwoWrong : ChangeSpec := { name := "weakTwo", fn := fun _ => fun
  | [d] => { results := [.lit (.bool false)], args := [d] }
  | _ => none }
def WeakTwoWrongFalsely : Prop := weakTwoRow.holds Tryz.pinned (OpenSpec.ofChange weakTwoWrong)

/-- 'dustcartlaw19.WeakPlays': WHATEVER THE INPUT: true; the input reads as it did. -/
def weakPlaysSpec : ChangeSpec := { name := "weakPlays", fn := fun _ => fun
  | [d1, d2] => { results := [.lit (.bool true)], args := [d1, d2] }
  | _ => none }
def weakPlaysRow : OpenClaim := { program := "ythpfmihkegbbgaagreatdoor", sum := "f60d21e2fd2f21e5a87456c626e718ffe531598c27c2044cd2a4f285c29617f8", func := "dustcart/dustcartlaw19.WeakPlays", spec := "weakPlays", unfollowed := true, recurses := true, named := ["dustcart/weak.headShape", "dustcart/weak.entryShape"], apart := false, laid := [("dustcart/weak.headShape", laid_dustcart_weak_headShape), ("dustcart/weak.entryShape", laid_dustcart_weak_entryShape)] }
def WeakPlaysSaid : Prop := weakPlaysRow.holds Tryz.pinned (OpenSpec.ofChange weakPlaysSpec)

/-- ITS FALSE NEIGHBOUR: 'it returns false'. Refute it at one input. -/
def weakPlaysWrong : ChangeSpec := { name := "weakPlays", fn := fun _ => fun
  | [d1, d2] => { results := [.lit (.bool false)], args := [d1, d2] }
  | _ => none }
def WeakPlaysWrongFalsely : Prop := weakPlaysRow.holds Tryz.pinned (OpenSpec.ofChange weakPlaysWrong)

/-- 'dustcartlaw19.WeakVanish': WHATEVER THE INPUT: true; the input reads as it did. -/
def weakVanishSpec : ChangeSpec := { name := "weakVanish", fn := fun _ => fun
  | [d1, d2, d3] => { results := [.lit (.bool true)], args := [d1, d2, d3] }
  | _ => none }
def weakVanishRow : OpenClaim := { program := "ythpfmihkegbbgaagreatdoor", sum := "f60d21e2fd2f21e5a87456c626e718ffe531598c27c2044cd2a4f285c29617f8", func := "dustcart/dustcartlaw19.WeakVanish", spec := "weakVanish", unfollowed := true, recurses := true, named := ["dustcart/weak.headShape", "dustcart/weak.entryShape"], apart := false, laid := [("dustcart/weak.headShape", laid_dustcart_weak_headShape), ("dustcart/weak.entryShape", laid_dustcart_weak_entryShape)] }
def WeakVanishSaid : Prop := weakVanishRow.holds Tryz.pinned (OpenSpec.ofChange weakVanishSpec)

/-- ITS FALSE NEIGHBOUR: 'it returns false'. Refute it at one input. -/
def weakVanishWrong : ChangeSpec := { name := "weakVanish", fn := fun _ => fun
  | [d1, d2, d3] => { results := [.lit (.bool false)], args := [d1, d2, d3] }
  | _ => none }
def WeakVanishWrongFalsely : Prop := weakVanishRow.holds Tryz.pinned (OpenSpec.ofChange weakVanishWrong)

/- THE SECOND FORM. 'bulk': how many values and letters a reading holds, each counted each time it is reached (what is shared counts as often as it is met; a slice's spare places count too). A statement '..UptoSaid' is the law's where the arguments, and the package variables that the reading takes, are together of bulk at most 1048576: NARROWER than '..Said'. Prove '..Said' where nothing that the law and all that it calls make is longer than what came in: it says more and counts as full. Else prove '..UptoSaid'. A law counts once. -/
mutual
def uptoBulk {H : Type} : DataW H → Nat
  | .lit (.string bytes) => bytes.length + 1
  | .lit _ => 1
  | .nil => 1
  | .ptr d => uptoBulk d + 1
  | .slice elems spare => uptoBulkAll elems + uptoBulkAll spare + 1
  | .agg parts => uptoBulkAll parts + 1
  | .iface _ d => uptoBulk d + 1
  | .map entries => uptoBulkEntries entries + 1
  | .held _ => 1
def uptoBulkAll {H : Type} : List (DataW H) → Nat
  | [] => 0
  | d :: r => uptoBulk d + uptoBulkAll r
def uptoBulkEntries {H : Type} : List (Lit × DataW H) → Nat
  | [] => 0
  | x :: r => uptoBulkEntry x + uptoBulkEntries r
def uptoBulkEntry {H : Type} : Lit × DataW H → Nat
  | (.string bytes, d) => bytes.length + uptoBulk d + 1
  | (_, d) => uptoBulk d + 1
 end
def uptoSmall : (H : Type) → List (DataW H) → Bool := fun _ ds => decide (uptoBulkAll ds ≤ 1048576)
def OpenSpec.upto (s : _root_.Go.ChangeSpec) : _root_.Go.OpenSpec := { _root_.Go.OpenSpec.ofChange s with cond := some uptoSmall }

/-- 'dustcartlaw19.WeakTable', WHERE WHAT IT READS IS OF BULK AT MOST 1048576: true; the input reads as it did. -/
def weakTableUptoRow : OpenClaim := { program := "ythpfmihkegbbgaagreatdoor", sum := "f60d21e2fd2f21e5a87456c626e718ffe531598c27c2044cd2a4f285c29617f8", func := "dustcart/dustcartlaw19.WeakTable", spec := "weakTable", unfollowed := true, recurses := true, named := ["dustcart/weak.headShape", "dustcart/weak.entryShape"], apart := false, laid := [("dustcart/weak.headShape", laid_dustcart_weak_headShape), ("dustcart/weak.entryShape", laid_dustcart_weak_entryShape)], narrowed := true }
def WeakTableUptoSaid : Prop := weakTableUptoRow.holds Tryz.pinned (OpenSpec.upto weakTableSpec)

/-- 'dustcartlaw19.WeakNone', WHERE WHAT IT READS IS OF BULK AT MOST 1048576: true; the input reads as it did. -/
def weakNoneUptoRow : OpenClaim := { program := "ythpfmihkegbbgaagreatdoor", sum := "f60d21e2fd2f21e5a87456c626e718ffe531598c27c2044cd2a4f285c29617f8", func := "dustcart/dustcartlaw19.WeakNone", spec := "weakNone", unfollowed := true, recurses := true, named := ["dustcart/weak.headShape", "dustcart/weak.entryShape"], apart := false, laid := [("dustcart/weak.headShape", laid_dustcart_weak_headShape), ("dustcart/weak.entryShape", laid_dustcart_weak_entryShape)], narrowed := true }
def WeakNoneUptoSaid : Prop := weakNoneUptoRow.holds Tryz.pinned (OpenSpec.upto weakNoneSpec)

/-- 'dustcartlaw19.WeakTwo', WHERE WHAT IT READS IS OF BULK AT MOST 1048576: true; the input reads as it did. -/
def weakTwoUptoRow : OpenClaim := { program := "ythpfmihkegbbgaagreatdoor", sum := "f60d21e2fd2f21e5a87456c626e718ffe531598c27c2044cd2a4f285c29617f8", func := "dustcart/dustcartlaw19.WeakTwo", spec := "weakTwo", unfollowed := true, recurses := true, named := ["dustcart/weak.headShape", "dustcart/weak.entryShape"], apart := false, laid := [("dustcart/weak.headShape", laid_dustcart_weak_headShape), ("dustcart/weak.entryShape", laid_dustcart_weak_entryShape)], narrowed := true }
def WeakTwoUptoSaid : Prop := weakTwoUptoRow.holds Tryz.pinned (OpenSpec.upto weakTwoSpec)

/-- 'dustcartlaw19.WeakPlays', WHERE WHAT IT READS IS OF BULK AT MOST 1048576: true; the input reads as it did. -/
def weakPlaysUptoRow : OpenClaim := { program := "ythpfmihkegbbgaagreatdoor", sum := "f60d21e2fd2f21e5a87456c626e718ffe531598c27c2044cd2a4f285c29617f8", func := "dustcart/dustcartlaw19.WeakPlays", spec := "weakPlays", unfollowed := true, recurses := true, named := ["dustcart/weak.headShape", "dustcart/weak.entryShape"], apart := false, laid := [("dustcart/weak.headShape", laid_dustcart_weak_headShape), ("dustcart/weak.entryShape", laid_dustcart_weak_entryShape)], narrowed := true }
def WeakPlaysUptoSaid : Prop := weakPlaysUptoRow.holds Tryz.pinned (OpenSpec.upto weakPlaysSpec)

/-- 'dustcartlaw19.WeakVanish', WHERE WHAT IT READS IS OF BULK AT MOST 1048576: true; the input reads as it did. -/
def weakVanishUptoRow : OpenClaim := { program := "ythpfmihkegbbgaagreatdoor", sum := "f60d21e2fd2f21e5a87456c626e718ffe531598c27c2044cd2a4f285c29617f8", func := "dustcart/dustcartlaw19.WeakVanish", spec := "weakVanish", unfollowed := true, recurses := true, named := ["dustcart/weak.headShape", "dustcart/weak.entryShape"], apart := false, laid := [("dustcart/weak.headShape", laid_dustcart_weak_headShape), ("dustcart/weak.entryShape", laid_dustcart_weak_entryShape)], narrowed := true }
def WeakVanishUptoSaid : Prop := weakVanishUptoRow.holds Tryz.pinned (OpenSpec.upto weakVanishSpec)

end Rows
end Go.Proofs.YthpfmihkegbbgaaGreatDoor
