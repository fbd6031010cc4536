/-
  DERIVED. GIVEN WITH THE SEED: THE CARDS: each row of YtknojjlfgjkbiaaGreatDoorRows.lean that lists a variable, with what it lists TIED to the program's text (the seventh form; the later family's looks); each row that meets fmt, with fmt's text TOLD by the authors' own Lean function (tested against real Go, not proved from fmt's source: count such statements apart). THE CARD IS WHAT COUNTS. Prove the row's statement (the work); the ties are given (YtknojjlfgjkbiaaGreatDoorTie.lean); close each card by the builder's one call (the guide's Derived/Test/ToyasCard.lean, 'card_holds'). Laid BY PROGRAM, IN A SANDBOX (cutbox-door.mjs). By AI agents, Wed Nov 11 2026. No macro, syntax, notation, axiom, sorry.
-/
import Derived.Test.YtknojjlfgjkbiaaGreatDoorRows
import GoSem.ClaimSeven
namespace Go.Proofs.YtknojjlfgjkbiaaGreatDoor
namespace Rows

/-- THE TIED CARD OF 'nacellelaw40.MaintTells'. -/
def maintTellsCard : Claim7 := { stood := { row := maintTellsRow, standIns := [], harness := (true, "8486afe81ee0635197596784327e50a771a18986a47c6418bc096f3ee2ee03fa"), looks := true }, kinds := [], alts := [], laidByText := true, laidKinds := [.data, .data, .data, .sentinel, .sentinel, .listed, .data], laidTests := true, laidLooks := .later }
def MaintTellsCardSaid : Prop := Claim7.holds Tryz.pinned (.plain (OpenSpec.ofChange maintTellsSpec)) maintTellsCard

/-- THE SECOND FORM's CARD OF 'nacellelaw40.MaintTells'. -/
def maintTellsUptoCard : Claim7 := { stood := { row := maintTellsUptoRow, standIns := [], harness := (true, "8486afe81ee0635197596784327e50a771a18986a47c6418bc096f3ee2ee03fa"), looks := true }, kinds := [], alts := [], laidByText := true, laidKinds := [.data, .data, .data, .sentinel, .sentinel, .listed, .data], laidTests := true, laidLooks := .later }
def MaintTellsUptoCardSaid : Prop := Claim7.holds Tryz.pinned (.plain (OpenSpec.upto maintTellsSpec)) maintTellsUptoCard
end Rows
end Go.Proofs.YtknojjlfgjkbiaaGreatDoor
