/-
  DERIVED. GIVEN WITH THE SEED: THE CARDS: each row of YtchfcgilpjkmhaaGreatDoorRows.lean that lists a variable, with what it lists TIED to the program's text (the seventh form; the later family's looks); each row that meets fmt, with fmt's text TOLD by the authors' own Lean function (tested against real Go, not proved from fmt's source: count such statements apart). THE CARD IS WHAT COUNTS. Prove the row's statement (the work); the ties are given (YtchfcgilpjkmhaaGreatDoorTie.lean); close each card by the builder's one call (the guide's Derived/Test/ToyasCard.lean, 'card_holds'). Laid BY PROGRAM, IN A SANDBOX (cutbox-door.mjs). By AI agents, Wed Nov 11 2026. No macro, syntax, notation, axiom, sorry.
-/
import Derived.Test.YtchfcgilpjkmhaaGreatDoorRows
import GoSem.ClaimSeven
namespace Go.Proofs.YtchfcgilpjkmhaaGreatDoor
namespace Rows

/-- THE TIED CARD OF 'nacellelaw40.MaintClears'. -/
def maintClearsCard : Claim7 := { stood := { row := maintClearsRow, standIns := [], harness := (true, "0a75f63706bdd07ffd4ce69d3edf7d9e47e862cd42ad2714f214e2dd89abce63"), looks := true }, kinds := [], alts := [], laidByText := true, laidKinds := [.data, .data, .data, .sentinel, .sentinel, .listed, .data], laidTests := true, laidLooks := .later }
def MaintClearsCardSaid : Prop := Claim7.holds Tryz.pinned (.plain (OpenSpec.ofChange maintClearsSpec)) maintClearsCard

/-- THE SECOND FORM's CARD OF 'nacellelaw40.MaintClears'. -/
def maintClearsUptoCard : Claim7 := { stood := { row := maintClearsUptoRow, standIns := [], harness := (true, "0a75f63706bdd07ffd4ce69d3edf7d9e47e862cd42ad2714f214e2dd89abce63"), looks := true }, kinds := [], alts := [], laidByText := true, laidKinds := [.data, .data, .data, .sentinel, .sentinel, .listed, .data], laidTests := true, laidLooks := .later }
def MaintClearsUptoCardSaid : Prop := Claim7.holds Tryz.pinned (.plain (OpenSpec.upto maintClearsSpec)) maintClearsUptoCard
end Rows
end Go.Proofs.YtchfcgilpjkmhaaGreatDoor
