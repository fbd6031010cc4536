/-
  DERIVED. GIVEN WITH THE SEED: THE CARDS: each row of YtmdgooofdmpcjaaGreatDoorRows.lean that lists a variable, with what it lists TIED to the program's text (the seventh form; the later family's looks); each row that meets fmt, with fmt's text TOLD by the authors' own Lean function (tested against real Go, not proved from fmt's source: count such statements apart). THE CARD IS WHAT COUNTS. Prove the row's statement (the work); the ties are given (YtmdgooofdmpcjaaGreatDoorTie.lean); close each card by the builder's one call (the guide's Derived/Test/ToyasCard.lean, 'card_holds'). Laid BY PROGRAM, IN A SANDBOX (cutbox-door.mjs). By AI agents, Wed Nov 11 2026. No macro, syntax, notation, axiom, sorry.
-/
import Derived.Test.YtmdgooofdmpcjaaGreatDoorRows
import GoSem.ClaimSeven
namespace Go.Proofs.YtmdgooofdmpcjaaGreatDoor
namespace Rows

/-- THE TIED CARD OF 'nacellelaw14.RouteShort'. -/
def routeShortCard : Claim7 := { stood := { row := routeShortRow, standIns := [], harness := (true, "7c394ffd3716469659adb96d33c928f84719b98e7c012b9efe3ac2480728bb9f"), looks := true }, kinds := [], alts := [], laidByText := true, laidKinds := [.data, .data, .data, .sentinel, .sentinel, .listed, .data], laidTests := true, laidLooks := .later }
def RouteShortCardSaid : Prop := Claim7.holds Tryz.pinned (.plain (OpenSpec.ofChange routeShortSpec)) routeShortCard

/-- THE TIED CARD OF 'nacellelaw14.RouteNets'. -/
def routeNetsCard : Claim7 := { stood := { row := routeNetsRow, standIns := [], harness := (true, "7c394ffd3716469659adb96d33c928f84719b98e7c012b9efe3ac2480728bb9f"), looks := true }, kinds := [], alts := [], laidByText := true, laidKinds := [.data, .data, .data, .sentinel, .sentinel, .listed, .data], laidTests := true, laidLooks := .later }
def RouteNetsCardSaid : Prop := Claim7.holds Tryz.pinned (.plain (OpenSpec.ofChange routeNetsSpec)) routeNetsCard

/-- THE TIED CARD OF 'nacellelaw14.RouteMore'. -/
def routeMoreCard : Claim7 := { stood := { row := routeMoreRow, standIns := [], harness := (true, "7c394ffd3716469659adb96d33c928f84719b98e7c012b9efe3ac2480728bb9f"), looks := true }, kinds := [], alts := [], laidByText := true, laidKinds := [.data, .data, .data, .sentinel, .sentinel, .listed, .data], laidTests := true, laidLooks := .later }
def RouteMoreCardSaid : Prop := Claim7.holds Tryz.pinned (.plain (OpenSpec.ofChange routeMoreSpec)) routeMoreCard

/-- THE TIED CARD OF 'nacellelaw14.RouteTree'. -/
def routeTreeCard : Claim7 := { stood := { row := routeTreeRow, standIns := [], harness := (true, "7c394ffd3716469659adb96d33c928f84719b98e7c012b9efe3ac2480728bb9f"), looks := true }, kinds := [], alts := [], laidByText := true, laidKinds := [.data, .data, .data, .sentinel, .sentinel, .listed, .data], laidTests := true, laidLooks := .later }
def RouteTreeCardSaid : Prop := Claim7.holds Tryz.pinned (.plain (OpenSpec.ofChange routeTreeSpec)) routeTreeCard

/-- THE TIED CARD OF 'nacellelaw14.RouteCut'. -/
def routeCutCard : Claim7 := { stood := { row := routeCutRow, standIns := [], harness := (true, "7c394ffd3716469659adb96d33c928f84719b98e7c012b9efe3ac2480728bb9f"), looks := true }, kinds := [], alts := [], laidByText := true, laidKinds := [.data, .data, .data, .sentinel, .sentinel, .listed, .data], laidTests := true, laidLooks := .later }
def RouteCutCardSaid : Prop := Claim7.holds Tryz.pinned (.plain (OpenSpec.ofChange routeCutSpec)) routeCutCard

/-- THE SECOND FORM's CARD OF 'nacellelaw14.RouteShort'. -/
def routeShortUptoCard : Claim7 := { stood := { row := routeShortUptoRow, standIns := [], harness := (true, "7c394ffd3716469659adb96d33c928f84719b98e7c012b9efe3ac2480728bb9f"), looks := true }, kinds := [], alts := [], laidByText := true, laidKinds := [.data, .data, .data, .sentinel, .sentinel, .listed, .data], laidTests := true, laidLooks := .later }
def RouteShortUptoCardSaid : Prop := Claim7.holds Tryz.pinned (.plain (OpenSpec.upto routeShortSpec)) routeShortUptoCard

/-- THE SECOND FORM's CARD OF 'nacellelaw14.RouteNets'. -/
def routeNetsUptoCard : Claim7 := { stood := { row := routeNetsUptoRow, standIns := [], harness := (true, "7c394ffd3716469659adb96d33c928f84719b98e7c012b9efe3ac2480728bb9f"), looks := true }, kinds := [], alts := [], laidByText := true, laidKinds := [.data, .data, .data, .sentinel, .sentinel, .listed, .data], laidTests := true, laidLooks := .later }
def RouteNetsUptoCardSaid : Prop := Claim7.holds Tryz.pinned (.plain (OpenSpec.upto routeNetsSpec)) routeNetsUptoCard

/-- THE SECOND FORM's CARD OF 'nacellelaw14.RouteMore'. -/
def routeMoreUptoCard : Claim7 := { stood := { row := routeMoreUptoRow, standIns := [], harness := (true, "7c394ffd3716469659adb96d33c928f84719b98e7c012b9efe3ac2480728bb9f"), looks := true }, kinds := [], alts := [], laidByText := true, laidKinds := [.data, .data, .data, .sentinel, .sentinel, .listed, .data], laidTests := true, laidLooks := .later }
def RouteMoreUptoCardSaid : Prop := Claim7.holds Tryz.pinned (.plain (OpenSpec.upto routeMoreSpec)) routeMoreUptoCard

/-- THE SECOND FORM's CARD OF 'nacellelaw14.RouteTree'. -/
def routeTreeUptoCard : Claim7 := { stood := { row := routeTreeUptoRow, standIns := [], harness := (true, "7c394ffd3716469659adb96d33c928f84719b98e7c012b9efe3ac2480728bb9f"), looks := true }, kinds := [], alts := [], laidByText := true, laidKinds := [.data, .data, .data, .sentinel, .sentinel, .listed, .data], laidTests := true, laidLooks := .later }
def RouteTreeUptoCardSaid : Prop := Claim7.holds Tryz.pinned (.plain (OpenSpec.upto routeTreeSpec)) routeTreeUptoCard

/-- THE SECOND FORM's CARD OF 'nacellelaw14.RouteCut'. -/
def routeCutUptoCard : Claim7 := { stood := { row := routeCutUptoRow, standIns := [], harness := (true, "7c394ffd3716469659adb96d33c928f84719b98e7c012b9efe3ac2480728bb9f"), looks := true }, kinds := [], alts := [], laidByText := true, laidKinds := [.data, .data, .data, .sentinel, .sentinel, .listed, .data], laidTests := true, laidLooks := .later }
def RouteCutUptoCardSaid : Prop := Claim7.holds Tryz.pinned (.plain (OpenSpec.upto routeCutSpec)) routeCutUptoCard
end Rows
end Go.Proofs.YtmdgooofdmpcjaaGreatDoor
