import Derived.Test.YtmdgooofdmpcjaaGreatDoorCards
import Derived.Test.YtmdgooofdmpcjaaGreatDoorTie
import Derived.ProofKit
set_option linter.unusedSimpArgs false
set_option linter.unusedVariables false
set_option linter.unusedSectionVars false
namespace Go.Proofs.YtmdgooofdmpcjaaGreatDoor
open Go.ChangeShapes Go.WideShapes Go.ChangeAt Go.RowKit
/- RouteShort: closed facts of its row. Printed by wip/gen/row14.py. -/
theorem GF : (Rows.routeShortRow.wf (OpenSpec.ofChange (OpenSpec.ofChange Rows.routeShortSpec).bare)) = true := by kernel_rfl
theorem GH : (laidOutB Tryz.pinned.checked.prog) = true := by kernel_rfl
theorem GI : (mapsRowed Tryz.pinned.checked.prog) = true := by kernel_rfl
theorem GJ : (Tryz.f3.params.all (Tryz.pinned.checked.prog.readableRec ·)) = true := by kernel_rfl
theorem GK : (namedTie Tryz.pinned.checked.prog Rows.routeShortRow.named (OpenSpec.ofChange Rows.routeShortSpec).bare.vars) = true := by kernel_rfl
theorem GL : ((Rows.routeShortRow.stops == [])) = true := by kernel_rfl
theorem GN : ((Tryz.pinned.checked.prog.stops == [])) = true := by kernel_rfl
theorem GP : ((Rows.routeShortRow.knobs == [])) = true := by kernel_rfl
theorem GQ : ((Tryz.pinned.checked.prog.stopKnobs == [])) = true := by kernel_rfl
theorem GR : ((Rows.routeShortRow.inPlace == Tryz.pinned.checked.prog.inPlace 3)) = true := by kernel_rfl
theorem EJ : ((Rows.routeShortRow.unfollowed == Tryz.pinned.checked.prog.unfollowed 3)) = true := by kernel_rfl
theorem EK : ((Rows.routeShortRow.recurses == Tryz.pinned.checked.prog.recurses 3)) = true := by kernel_rfl
theorem EL : ((Rows.routeShortRow.named == Tryz.pinned.checked.prog.varsNamed 3)) = true := by kernel_rfl
theorem EM : ((Rows.routeShortRow.maps == (Tryz.f3.params.toList ++ (OpenSpec.ofChange Rows.routeShortSpec).bare.plain.varTypes Tryz.pinned.checked.prog).any (Tryz.pinned.checked.prog.mapsRec ·))) = true := by kernel_rfl
theorem EN : ((Rows.routeShortRow.ifaces == (Tryz.f3.params.toList ++ (OpenSpec.ofChange Rows.routeShortSpec).bare.plain.varTypes Tryz.pinned.checked.prog).any (Tryz.pinned.checked.prog.ifacesRec ·))) = true := by kernel_rfl
theorem EO : ((Rows.routeShortRow.mapsOut == Tryz.pinned.checked.prog.mapsAmong Tryz.f3.resultTypes.toList)) = true := by kernel_rfl
theorem EP : ((Rows.routeShortRow.loops == (Tryz.f3.params.toList ++ (OpenSpec.ofChange Rows.routeShortSpec).bare.plain.varTypes Tryz.pinned.checked.prog).any (Tryz.pinned.checked.prog.loopsFrom ·))) = true := by kernel_rfl
theorem ER : ((Rows.routeShortRow.wideKeys == (Tryz.f3.params.toList ++ (OpenSpec.ofChange Rows.routeShortSpec).bare.plain.varTypes Tryz.pinned.checked.prog ++ Tryz.f3.resultTypes.toList).any (Tryz.pinned.checked.prog.wideKeysFrom ·))) = true := by kernel_rfl
theorem ES : ((OpenSpec.ofChange Rows.routeShortSpec).bare.vars.all (Tryz.pinned.checked.prog.varReadable ·)) = true := by kernel_rfl
theorem ET : (Tryz.f3.resultTypes.all (fun t => Tryz.pinned.checked.prog.readableRec t && decide (t < Tryz.pinned.checked.prog.types.size))) = true := by kernel_rfl
theorem EU : ((Rows.routeShortRow.ifacesOut == Tryz.f3.resultTypes.toList.any (Tryz.pinned.checked.prog.ifacesRec ·))) = true := by kernel_rfl
theorem EV : ((Rows.routeShortRow.loopsOut == Tryz.f3.resultTypes.toList.any (Tryz.pinned.checked.prog.loopsFrom ·))) = true := by kernel_rfl
theorem EW : ((Rows.routeShortRow.plainKeys == Tryz.pinned.checked.prog.plainKeys)) = true := by kernel_rfl
theorem EX : (Rows.routeShortRow.shortTexts.isNone) = true := by kernel_rfl
theorem EY : (Tryz.pinned.checked.prog.stopsHeard) = true := by kernel_rfl
theorem EZ : (Tryz.pinned.checked.prog.mayEnter) = true := by kernel_rfl
theorem E1 : ((Rows.routeShortRow.lifted == Tryz.pinned.checked.prog.liftsFinal)) = true := by kernel_rfl
theorem E2 : ((Tryz.pinned.checked.prog.make == some Rows.routeShortRow.make)) = true := by kernel_rfl
theorem E3 : ((Rows.routeShortRow.kinds == (if Rows.routeShortRow.domain.isEmpty then [] else Tryz.f3.params.toList.map fun t => match Tryz.pinned.checked.prog.underlying t with | some (.int k) => some k | _ => none))) = true := by kernel_rfl
theorem E4 : ((Rows.routeShortRow.pinned == Rows.routeShortRow.pinnedBy)) = true := by kernel_rfl
theorem E5 : ((Rows.routeShortRow.veiled == (Tryz.f3.params.toList ++ (OpenSpec.ofChange Rows.routeShortSpec).bare.plain.varTypes Tryz.pinned.checked.prog ++ Tryz.f3.resultTypes.toList).any (Tryz.pinned.checked.prog.veiledRec ·))) = true := by kernel_rfl
theorem E6 : (Rows.routeShortRow.veiledFits Tryz.pinned.checked.prog Tryz.f3.params.toList (Tryz.f3.params.toList ++ (OpenSpec.ofChange Rows.routeShortSpec).bare.plain.varTypes Tryz.pinned.checked.prog ++ Tryz.f3.resultTypes.toList)) = true := by kernel_rfl
set_option maxRecDepth 100000 in
theorem y9 : joinedFacts Tryz.pinned.checked.prog 3 Tryz.f3 (OpenSpec.ofChange Rows.routeShortSpec).bare Rows.routeShortRow = true := by
  unfold joinedFacts
  simp only [Bool.and_eq_true]
  exact ⟨⟨⟨⟨⟨⟨⟨⟨⟨⟨⟨⟨⟨⟨⟨⟨⟨⟨⟨⟨⟨⟨⟨⟨⟨⟨⟨⟨⟨⟨⟨GF, GH⟩, GI⟩, GJ⟩, GK⟩, GL⟩, GN⟩, GP⟩, GQ⟩, GR⟩, EJ⟩, EK⟩, EL⟩, EM⟩, EN⟩, EO⟩, EP⟩, ER⟩, ES⟩, ET⟩, EU⟩, EV⟩, EW⟩, EX⟩, EY⟩, EZ⟩, E1⟩, E2⟩, E3⟩, E4⟩, E5⟩, E6⟩
end Go.Proofs.YtmdgooofdmpcjaaGreatDoor
