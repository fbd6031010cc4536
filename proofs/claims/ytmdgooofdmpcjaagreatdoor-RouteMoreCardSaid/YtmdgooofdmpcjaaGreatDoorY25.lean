import Derived.Test.YtmdgooofdmpcjaaGreatDoorCards
import Derived.Test.YtmdgooofdmpcjaaGreatDoorTie
import Derived.ProofKit
import Derived.OpenShut
import Derived.LaidMore
import Derived.Deep.DeepHandedRow
import Derived.Deep.DeepWitnessRowRef
import Derived.Lib.SmallJoins
import Derived.Deep.Fields
import Derived.Test.YtmdgooofdmpcjaaGreatDoorY0
set_option linter.unusedSimpArgs false
set_option linter.unusedVariables false
set_option linter.unusedSectionVars false
open Go.Proofs.Tryz renaming prog → pG
namespace Go.Proofs.YtmdgooofdmpcjaaGreatDoor
open Go.ChangeShapes Go.WideShapes Go.ChangeAt Go.RowKit
open Go.ChangeMaps (open_string)
set_option maxRecDepth 100000 in
theorem routeMore_door (os : Os) (args : Array Value) : laidMet pG Rows.routeMoreRow.laid ((World.doorLaid pG 400 os).forCall (fun _ _ => 0) ⟨#[], args, []⟩).memory :=
  laidMet_of_run' 8 (by kernel_rfl) (by kernel_rfl)
end Go.Proofs.YtmdgooofdmpcjaaGreatDoor
