/-
  DERIVED. GIVEN WITH THE SEED: THE CARDS: each row of YtnbnkhockoflgaaGreatDoorRows.lean that lists a variable, with what it lists TIED to the program's text (the seventh form; the later family's looks); each row that meets fmt, with fmt's text TOLD by the authors' own Lean function (tested against real Go, not proved from fmt's source: count such statements apart). THE CARD IS WHAT COUNTS. Prove the row's statement (the work); the ties are given (YtnbnkhockoflgaaGreatDoorTie.lean); close each card by the builder's one call (the guide's Derived/Test/ToyasCard.lean, 'card_holds'). Laid BY PROGRAM, IN A SANDBOX (cutbox-door.mjs). By AI agents, Wed Nov 11 2026. No macro, syntax, notation, axiom, sorry.
-/
import Derived.Test.YtnbnkhockoflgaaGreatDoorRows
import GoSem.ClaimSeven
namespace Go.Proofs.YtnbnkhockoflgaaGreatDoor
namespace Rows

/-- THE TIED CARD OF 'nacellelaw40.MaintOrder'. -/
def maintOrderCard : Claim7 := { stood := { row := maintOrderRow, standIns := [], harness := (true, "eb7d95fae155dc4a48065a6e3d55f000edc7ae678e0dbcb6573d531bc01e4f9b"), looks := true }, kinds := [], alts := [], laidByText := true, laidKinds := [.data, .data, .data, .sentinel, .sentinel, .listed, .data], laidTests := true, laidLooks := .later }
def MaintOrderCardSaid : Prop := Claim7.holds Tryz.pinned (.plain (OpenSpec.ofChange maintOrderSpec)) maintOrderCard

/-- THE TIED CARD OF 'nacellelaw40.MaintWhy'. -/
def maintWhyCard : Claim7 := { stood := { row := maintWhyRow, standIns := [], harness := (true, "eb7d95fae155dc4a48065a6e3d55f000edc7ae678e0dbcb6573d531bc01e4f9b"), looks := true }, kinds := [], alts := [], laidByText := true, laidKinds := [.data, .data, .data, .sentinel, .sentinel, .listed, .data], laidTests := true, laidLooks := .later }
def MaintWhyCardSaid : Prop := Claim7.holds Tryz.pinned (.plain (OpenSpec.ofChange maintWhySpec)) maintWhyCard

/-- THE TIED CARD OF 'nacellelaw40.MaintMore'. -/
def maintMoreCard : Claim7 := { stood := { row := maintMoreRow, standIns := [], harness := (true, "eb7d95fae155dc4a48065a6e3d55f000edc7ae678e0dbcb6573d531bc01e4f9b"), looks := true }, kinds := [], alts := [], laidByText := true, laidKinds := [.data, .data, .data, .sentinel, .sentinel, .listed, .data], laidTests := true, laidLooks := .later }
def MaintMoreCardSaid : Prop := Claim7.holds Tryz.pinned (.plain (OpenSpec.ofChange maintMoreSpec)) maintMoreCard

/-- THE TIED CARD OF 'nacellelaw40.MaintNone'. -/
def maintNoneCard : Claim7 := { stood := { row := maintNoneRow, standIns := [], harness := (true, "eb7d95fae155dc4a48065a6e3d55f000edc7ae678e0dbcb6573d531bc01e4f9b"), looks := true }, kinds := [], alts := [], laidByText := true, laidKinds := [.data, .data, .data, .sentinel, .sentinel, .listed, .data], laidTests := true, laidLooks := .later }
def MaintNoneCardSaid : Prop := Claim7.holds Tryz.pinned (.plain (OpenSpec.ofChange maintNoneSpec)) maintNoneCard

/-- THE TIED CARD OF 'nacellelaw40.MaintOnly'. -/
def maintOnlyCard : Claim7 := { stood := { row := maintOnlyRow, standIns := [], harness := (true, "eb7d95fae155dc4a48065a6e3d55f000edc7ae678e0dbcb6573d531bc01e4f9b"), looks := true }, kinds := [], alts := [], laidByText := true, laidKinds := [.data, .data, .data, .sentinel, .sentinel, .listed, .data], laidTests := true, laidLooks := .later }
def MaintOnlyCardSaid : Prop := Claim7.holds Tryz.pinned (.plain (OpenSpec.ofChange maintOnlySpec)) maintOnlyCard

/-- THE SECOND FORM's CARD OF 'nacellelaw40.MaintOrder'. -/
def maintOrderUptoCard : Claim7 := { stood := { row := maintOrderUptoRow, standIns := [], harness := (true, "eb7d95fae155dc4a48065a6e3d55f000edc7ae678e0dbcb6573d531bc01e4f9b"), looks := true }, kinds := [], alts := [], laidByText := true, laidKinds := [.data, .data, .data, .sentinel, .sentinel, .listed, .data], laidTests := true, laidLooks := .later }
def MaintOrderUptoCardSaid : Prop := Claim7.holds Tryz.pinned (.plain (OpenSpec.upto maintOrderSpec)) maintOrderUptoCard

/-- THE SECOND FORM's CARD OF 'nacellelaw40.MaintWhy'. -/
def maintWhyUptoCard : Claim7 := { stood := { row := maintWhyUptoRow, standIns := [], harness := (true, "eb7d95fae155dc4a48065a6e3d55f000edc7ae678e0dbcb6573d531bc01e4f9b"), looks := true }, kinds := [], alts := [], laidByText := true, laidKinds := [.data, .data, .data, .sentinel, .sentinel, .listed, .data], laidTests := true, laidLooks := .later }
def MaintWhyUptoCardSaid : Prop := Claim7.holds Tryz.pinned (.plain (OpenSpec.upto maintWhySpec)) maintWhyUptoCard

/-- THE SECOND FORM's CARD OF 'nacellelaw40.MaintMore'. -/
def maintMoreUptoCard : Claim7 := { stood := { row := maintMoreUptoRow, standIns := [], harness := (true, "eb7d95fae155dc4a48065a6e3d55f000edc7ae678e0dbcb6573d531bc01e4f9b"), looks := true }, kinds := [], alts := [], laidByText := true, laidKinds := [.data, .data, .data, .sentinel, .sentinel, .listed, .data], laidTests := true, laidLooks := .later }
def MaintMoreUptoCardSaid : Prop := Claim7.holds Tryz.pinned (.plain (OpenSpec.upto maintMoreSpec)) maintMoreUptoCard

/-- THE SECOND FORM's CARD OF 'nacellelaw40.MaintNone'. -/
def maintNoneUptoCard : Claim7 := { stood := { row := maintNoneUptoRow, standIns := [], harness := (true, "eb7d95fae155dc4a48065a6e3d55f000edc7ae678e0dbcb6573d531bc01e4f9b"), looks := true }, kinds := [], alts := [], laidByText := true, laidKinds := [.data, .data, .data, .sentinel, .sentinel, .listed, .data], laidTests := true, laidLooks := .later }
def MaintNoneUptoCardSaid : Prop := Claim7.holds Tryz.pinned (.plain (OpenSpec.upto maintNoneSpec)) maintNoneUptoCard

/-- THE SECOND FORM's CARD OF 'nacellelaw40.MaintOnly'. -/
def maintOnlyUptoCard : Claim7 := { stood := { row := maintOnlyUptoRow, standIns := [], harness := (true, "eb7d95fae155dc4a48065a6e3d55f000edc7ae678e0dbcb6573d531bc01e4f9b"), looks := true }, kinds := [], alts := [], laidByText := true, laidKinds := [.data, .data, .data, .sentinel, .sentinel, .listed, .data], laidTests := true, laidLooks := .later }
def MaintOnlyUptoCardSaid : Prop := Claim7.holds Tryz.pinned (.plain (OpenSpec.upto maintOnlySpec)) maintOnlyUptoCard
end Rows
end Go.Proofs.YtnbnkhockoflgaaGreatDoor
