/-
  DERIVED. GIVEN WITH THE SEED: THE CARDS: each row of YthpfmihkegbbgaaGreatDoorRows.lean that lists a variable, with what it lists TIED to the program's text (the seventh form; the later family's looks); each row that meets fmt, with fmt's text TOLD by the authors' own Lean function (tested against real Go, not proved from fmt's source: count such statements apart). THE CARD IS WHAT COUNTS. Prove the row's statement (the work); the ties are given (YthpfmihkegbbgaaGreatDoorTie.lean); close each card by the builder's one call (the guide's Derived/Test/ToyasCard.lean, 'card_holds'). Laid BY PROGRAM, IN A SANDBOX (cutbox-door.mjs). By AI agents, Wed Nov 11 2026. No macro, syntax, notation, axiom, sorry.
-/
import Derived.Test.YthpfmihkegbbgaaGreatDoorRows
import GoSem.ClaimSeven
namespace Go.Proofs.YthpfmihkegbbgaaGreatDoor
namespace Rows

/-- THE TIED CARD OF 'dustcartlaw19.WeakTable'. -/
def weakTableCard : Claim7 := { stood := { row := weakTableRow, standIns := [], harness := (true, "c152f6d82ca194ae67d6b1058f2e90d96c76bfdf0a07b3ef32761bb776b3354e"), looks := false }, kinds := [], alts := [], laidByText := true, laidKinds := [.data, .data], laidTests := true, laidLooks := .later }
def WeakTableCardSaid : Prop := Claim7.holds Tryz.pinned (.plain (OpenSpec.ofChange weakTableSpec)) weakTableCard

/-- THE TIED CARD OF 'dustcartlaw19.WeakNone'. -/
def weakNoneCard : Claim7 := { stood := { row := weakNoneRow, standIns := [], harness := (true, "c152f6d82ca194ae67d6b1058f2e90d96c76bfdf0a07b3ef32761bb776b3354e"), looks := false }, kinds := [], alts := [], laidByText := true, laidKinds := [.data, .data], laidTests := true, laidLooks := .later }
def WeakNoneCardSaid : Prop := Claim7.holds Tryz.pinned (.plain (OpenSpec.ofChange weakNoneSpec)) weakNoneCard

/-- THE TIED CARD OF 'dustcartlaw19.WeakTwo'. -/
def weakTwoCard : Claim7 := { stood := { row := weakTwoRow, standIns := [], harness := (true, "c152f6d82ca194ae67d6b1058f2e90d96c76bfdf0a07b3ef32761bb776b3354e"), looks := false }, kinds := [], alts := [], laidByText := true, laidKinds := [.data, .data], laidTests := true, laidLooks := .later }
def WeakTwoCardSaid : Prop := Claim7.holds Tryz.pinned (.plain (OpenSpec.ofChange weakTwoSpec)) weakTwoCard

/-- THE TIED CARD OF 'dustcartlaw19.WeakPlays'. -/
def weakPlaysCard : Claim7 := { stood := { row := weakPlaysRow, standIns := [], harness := (true, "c152f6d82ca194ae67d6b1058f2e90d96c76bfdf0a07b3ef32761bb776b3354e"), looks := false }, kinds := [], alts := [], laidByText := true, laidKinds := [.data, .data], laidTests := true, laidLooks := .later }
def WeakPlaysCardSaid : Prop := Claim7.holds Tryz.pinned (.plain (OpenSpec.ofChange weakPlaysSpec)) weakPlaysCard

/-- THE TIED CARD OF 'dustcartlaw19.WeakVanish'. -/
def weakVanishCard : Claim7 := { stood := { row := weakVanishRow, standIns := [], harness := (true, "c152f6d82ca194ae67d6b1058f2e90d96c76bfdf0a07b3ef32761bb776b3354e"), looks := false }, kinds := [], alts := [], laidByText := true, laidKinds := [.data, .data], laidTests := true, laidLooks := .later }
def WeakVanishCardSaid : Prop := Claim7.holds Tryz.pinned (.plain (OpenSpec.ofChange weakVanishSpec)) weakVanishCard

/-- THE SECOND FORM's CARD OF 'dustcartlaw19.WeakTable'. -/
def weakTableUptoCard : Claim7 := { stood := { row := weakTableUptoRow, standIns := [], harness := (true, "c152f6d82ca194ae67d6b1058f2e90d96c76bfdf0a07b3ef32761bb776b3354e"), looks := false }, kinds := [], alts := [], laidByText := true, laidKinds := [.data, .data], laidTests := true, laidLooks := .later }
def WeakTableUptoCardSaid : Prop := Claim7.holds Tryz.pinned (.plain (OpenSpec.upto weakTableSpec)) weakTableUptoCard

/-- THE SECOND FORM's CARD OF 'dustcartlaw19.WeakNone'. -/
def weakNoneUptoCard : Claim7 := { stood := { row := weakNoneUptoRow, standIns := [], harness := (true, "c152f6d82ca194ae67d6b1058f2e90d96c76bfdf0a07b3ef32761bb776b3354e"), looks := false }, kinds := [], alts := [], laidByText := true, laidKinds := [.data, .data], laidTests := true, laidLooks := .later }
def WeakNoneUptoCardSaid : Prop := Claim7.holds Tryz.pinned (.plain (OpenSpec.upto weakNoneSpec)) weakNoneUptoCard

/-- THE SECOND FORM's CARD OF 'dustcartlaw19.WeakTwo'. -/
def weakTwoUptoCard : Claim7 := { stood := { row := weakTwoUptoRow, standIns := [], harness := (true, "c152f6d82ca194ae67d6b1058f2e90d96c76bfdf0a07b3ef32761bb776b3354e"), looks := false }, kinds := [], alts := [], laidByText := true, laidKinds := [.data, .data], laidTests := true, laidLooks := .later }
def WeakTwoUptoCardSaid : Prop := Claim7.holds Tryz.pinned (.plain (OpenSpec.upto weakTwoSpec)) weakTwoUptoCard

/-- THE SECOND FORM's CARD OF 'dustcartlaw19.WeakPlays'. -/
def weakPlaysUptoCard : Claim7 := { stood := { row := weakPlaysUptoRow, standIns := [], harness := (true, "c152f6d82ca194ae67d6b1058f2e90d96c76bfdf0a07b3ef32761bb776b3354e"), looks := false }, kinds := [], alts := [], laidByText := true, laidKinds := [.data, .data], laidTests := true, laidLooks := .later }
def WeakPlaysUptoCardSaid : Prop := Claim7.holds Tryz.pinned (.plain (OpenSpec.upto weakPlaysSpec)) weakPlaysUptoCard

/-- THE SECOND FORM's CARD OF 'dustcartlaw19.WeakVanish'. -/
def weakVanishUptoCard : Claim7 := { stood := { row := weakVanishUptoRow, standIns := [], harness := (true, "c152f6d82ca194ae67d6b1058f2e90d96c76bfdf0a07b3ef32761bb776b3354e"), looks := false }, kinds := [], alts := [], laidByText := true, laidKinds := [.data, .data], laidTests := true, laidLooks := .later }
def WeakVanishUptoCardSaid : Prop := Claim7.holds Tryz.pinned (.plain (OpenSpec.upto weakVanishSpec)) weakVanishUptoCard
end Rows
end Go.Proofs.YthpfmihkegbbgaaGreatDoor
