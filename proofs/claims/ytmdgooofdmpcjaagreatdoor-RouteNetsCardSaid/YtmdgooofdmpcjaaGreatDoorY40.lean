import Derived.Test.YtmdgooofdmpcjaaGreatDoorCards
import Derived.Test.YtmdgooofdmpcjaaGreatDoorTie
import Derived.ProofKit
set_option linter.unusedSimpArgs false
set_option linter.unusedVariables false
set_option linter.unusedSectionVars false
namespace Go.Proofs.YtmdgooofdmpcjaaGreatDoor
open Go.ChangeShapes Go.WideShapes Go.ChangeAt Go.RowKit
/- RouteNets: closed facts of its row. Printed by wip/gen/row14.py. -/
theorem LL : (Rows.routeNetsRow.wf (OpenSpec.ofChange (OpenSpec.ofChange Rows.routeNetsSpec).bare)) = true := by kernel_rfl
theorem LM : (laidOutB Tryz.pinned.checked.prog) = true := by kernel_rfl
theorem LN : (mapsRowed Tryz.pinned.checked.prog) = true := by kernel_rfl
theorem LO : (Tryz.f4.params.all (Tryz.pinned.checked.prog.readableRec ·)) = true := by kernel_rfl
theorem LP : (namedTie Tryz.pinned.checked.prog Rows.routeNetsRow.named (OpenSpec.ofChange Rows.routeNetsSpec).bare.vars) = true := by kernel_rfl
theorem LQ : ((Rows.routeNetsRow.stops == [])) = true := by kernel_rfl
theorem LS : ((Tryz.pinned.checked.prog.stops == [])) = true := by kernel_rfl
theorem LU : ((Rows.routeNetsRow.knobs == [])) = true := by kernel_rfl
theorem LV : ((Tryz.pinned.checked.prog.stopKnobs == [])) = true := by kernel_rfl
theorem LW : ((Rows.routeNetsRow.inPlace == Tryz.pinned.checked.prog.inPlace 4)) = true := by kernel_rfl
theorem GU : ((Rows.routeNetsRow.unfollowed == Tryz.pinned.checked.prog.unfollowed 4)) = true := by kernel_rfl
theorem GV : ((Rows.routeNetsRow.recurses == Tryz.pinned.checked.prog.recurses 4)) = true := by kernel_rfl
theorem GW : ((Rows.routeNetsRow.named == Tryz.pinned.checked.prog.varsNamed 4)) = true := by kernel_rfl
theorem GX : ((Rows.routeNetsRow.maps == (Tryz.f4.params.toList ++ (OpenSpec.ofChange Rows.routeNetsSpec).bare.plain.varTypes Tryz.pinned.checked.prog).any (Tryz.pinned.checked.prog.mapsRec ·))) = true := by kernel_rfl
theorem GY : ((Rows.routeNetsRow.ifaces == (Tryz.f4.params.toList ++ (OpenSpec.ofChange Rows.routeNetsSpec).bare.plain.varTypes Tryz.pinned.checked.prog).any (Tryz.pinned.checked.prog.ifacesRec ·))) = true := by kernel_rfl
theorem GZ : ((Rows.routeNetsRow.mapsOut == Tryz.pinned.checked.prog.mapsAmong Tryz.f4.resultTypes.toList)) = true := by kernel_rfl
theorem G4 : ((Rows.routeNetsRow.loops == (Tryz.f4.params.toList ++ (OpenSpec.ofChange Rows.routeNetsSpec).bare.plain.varTypes Tryz.pinned.checked.prog).any (Tryz.pinned.checked.prog.loopsFrom ·))) = true := by kernel_rfl
theorem G5 : ((Rows.routeNetsRow.wideKeys == (Tryz.f4.params.toList ++ (OpenSpec.ofChange Rows.routeNetsSpec).bare.plain.varTypes Tryz.pinned.checked.prog ++ Tryz.f4.resultTypes.toList).any (Tryz.pinned.checked.prog.wideKeysFrom ·))) = true := by kernel_rfl
theorem G6 : ((OpenSpec.ofChange Rows.routeNetsSpec).bare.vars.all (Tryz.pinned.checked.prog.varReadable ·)) = true := by kernel_rfl
theorem G7 : (Tryz.f4.resultTypes.all (fun t => Tryz.pinned.checked.prog.readableRec t && decide (t < Tryz.pinned.checked.prog.types.size))) = true := by kernel_rfl
theorem G8 : ((Rows.routeNetsRow.ifacesOut == Tryz.f4.resultTypes.toList.any (Tryz.pinned.checked.prog.ifacesRec ·))) = true := by kernel_rfl
theorem G9 : ((Rows.routeNetsRow.loopsOut == Tryz.f4.resultTypes.toList.any (Tryz.pinned.checked.prog.loopsFrom ·))) = true := by kernel_rfl
theorem Hu : ((Rows.routeNetsRow.plainKeys == Tryz.pinned.checked.prog.plainKeys)) = true := by kernel_rfl
theorem H6 : (Rows.routeNetsRow.shortTexts.isNone) = true := by kernel_rfl
theorem H7 : (Tryz.pinned.checked.prog.stopsHeard) = true := by kernel_rfl
theorem Ia : (Tryz.pinned.checked.prog.mayEnter) = true := by kernel_rfl
theorem Ib : ((Rows.routeNetsRow.lifted == Tryz.pinned.checked.prog.liftsFinal)) = true := by kernel_rfl
theorem Ic : ((Tryz.pinned.checked.prog.make == some Rows.routeNetsRow.make)) = true := by kernel_rfl
theorem Ie : ((Rows.routeNetsRow.kinds == (if Rows.routeNetsRow.domain.isEmpty then [] else Tryz.f4.params.toList.map fun t => match Tryz.pinned.checked.prog.underlying t with | some (.int k) => some k | _ => none))) = true := by kernel_rfl
theorem Ig : ((Rows.routeNetsRow.pinned == Rows.routeNetsRow.pinnedBy)) = true := by kernel_rfl
theorem Ih : ((Rows.routeNetsRow.veiled == (Tryz.f4.params.toList ++ (OpenSpec.ofChange Rows.routeNetsSpec).bare.plain.varTypes Tryz.pinned.checked.prog ++ Tryz.f4.resultTypes.toList).any (Tryz.pinned.checked.prog.veiledRec ·))) = true := by kernel_rfl
theorem Ii : (Rows.routeNetsRow.veiledFits Tryz.pinned.checked.prog Tryz.f4.params.toList (Tryz.f4.params.toList ++ (OpenSpec.ofChange Rows.routeNetsSpec).bare.plain.varTypes Tryz.pinned.checked.prog ++ Tryz.f4.resultTypes.toList)) = true := by kernel_rfl
set_option maxRecDepth 100000 in
theorem BU : joinedFacts Tryz.pinned.checked.prog 4 Tryz.f4 (OpenSpec.ofChange Rows.routeNetsSpec).bare Rows.routeNetsRow = true := by
  unfold joinedFacts
  simp only [Bool.and_eq_true]
  exact ⟨⟨⟨⟨⟨⟨⟨⟨⟨⟨⟨⟨⟨⟨⟨⟨⟨⟨⟨⟨⟨⟨⟨⟨⟨⟨⟨⟨⟨⟨⟨LL, LM⟩, LN⟩, LO⟩, LP⟩, LQ⟩, LS⟩, LU⟩, LV⟩, LW⟩, GU⟩, GV⟩, GW⟩, GX⟩, GY⟩, GZ⟩, G4⟩, G5⟩, G6⟩, G7⟩, G8⟩, G9⟩, Hu⟩, H6⟩, H7⟩, Ia⟩, Ib⟩, Ic⟩, Ie⟩, Ig⟩, Ih⟩, Ii⟩
end Go.Proofs.YtmdgooofdmpcjaaGreatDoor
