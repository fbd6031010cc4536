import Derived.Test.YtmdgooofdmpcjaaGreatDoorCards
import Derived.Test.YtmdgooofdmpcjaaGreatDoorTie
import Derived.ProofKit
set_option linter.unusedSimpArgs false
set_option linter.unusedVariables false
set_option linter.unusedSectionVars false
namespace Go.Proofs.YtmdgooofdmpcjaaGreatDoor
open Go.ChangeShapes Go.WideShapes Go.ChangeAt Go.RowKit
/- RouteMore: closed facts of its row. Printed by wip/gen/row14.py. -/
theorem routeMore_k0 : (Rows.routeMoreRow.wf (OpenSpec.ofChange (OpenSpec.ofChange Rows.routeMoreSpec).bare)) = true := by kernel_rfl
theorem routeMore_k1 : (laidOutB Tryz.pinned.checked.prog) = true := by kernel_rfl
theorem routeMore_k2 : (mapsRowed Tryz.pinned.checked.prog) = true := by kernel_rfl
theorem routeMore_k3 : (Tryz.f5.params.all (Tryz.pinned.checked.prog.readableRec ·)) = true := by kernel_rfl
theorem routeMore_k4 : (namedTie Tryz.pinned.checked.prog Rows.routeMoreRow.named (OpenSpec.ofChange Rows.routeMoreSpec).bare.vars) = true := by kernel_rfl
theorem routeMore_k5 : ((Rows.routeMoreRow.stops == [])) = true := by kernel_rfl
theorem routeMore_k6 : ((Tryz.pinned.checked.prog.stops == [])) = true := by kernel_rfl
theorem routeMore_k7 : ((Rows.routeMoreRow.knobs == [])) = true := by kernel_rfl
theorem routeMore_k8 : ((Tryz.pinned.checked.prog.stopKnobs == [])) = true := by kernel_rfl
theorem routeMore_k9 : ((Rows.routeMoreRow.inPlace == Tryz.pinned.checked.prog.inPlace 5)) = true := by kernel_rfl
theorem routeMore_k10 : ((Rows.routeMoreRow.unfollowed == Tryz.pinned.checked.prog.unfollowed 5)) = true := by kernel_rfl
theorem routeMore_k11 : ((Rows.routeMoreRow.recurses == Tryz.pinned.checked.prog.recurses 5)) = true := by kernel_rfl
theorem routeMore_k12 : ((Rows.routeMoreRow.named == Tryz.pinned.checked.prog.varsNamed 5)) = true := by kernel_rfl
theorem routeMore_k13 : ((Rows.routeMoreRow.maps == (Tryz.f5.params.toList ++ (OpenSpec.ofChange Rows.routeMoreSpec).bare.plain.varTypes Tryz.pinned.checked.prog).any (Tryz.pinned.checked.prog.mapsRec ·))) = true := by kernel_rfl
theorem routeMore_k14 : ((Rows.routeMoreRow.ifaces == (Tryz.f5.params.toList ++ (OpenSpec.ofChange Rows.routeMoreSpec).bare.plain.varTypes Tryz.pinned.checked.prog).any (Tryz.pinned.checked.prog.ifacesRec ·))) = true := by kernel_rfl
theorem routeMore_k15 : ((Rows.routeMoreRow.mapsOut == Tryz.pinned.checked.prog.mapsAmong Tryz.f5.resultTypes.toList)) = true := by kernel_rfl
theorem routeMore_k16 : ((Rows.routeMoreRow.loops == (Tryz.f5.params.toList ++ (OpenSpec.ofChange Rows.routeMoreSpec).bare.plain.varTypes Tryz.pinned.checked.prog).any (Tryz.pinned.checked.prog.loopsFrom ·))) = true := by kernel_rfl
theorem routeMore_k17 : ((Rows.routeMoreRow.wideKeys == (Tryz.f5.params.toList ++ (OpenSpec.ofChange Rows.routeMoreSpec).bare.plain.varTypes Tryz.pinned.checked.prog ++ Tryz.f5.resultTypes.toList).any (Tryz.pinned.checked.prog.wideKeysFrom ·))) = true := by kernel_rfl
theorem routeMore_k18 : ((OpenSpec.ofChange Rows.routeMoreSpec).bare.vars.all (Tryz.pinned.checked.prog.varReadable ·)) = true := by kernel_rfl
theorem routeMore_k19 : (Tryz.f5.resultTypes.all (fun t => Tryz.pinned.checked.prog.readableRec t && decide (t < Tryz.pinned.checked.prog.types.size))) = true := by kernel_rfl
theorem routeMore_k20 : ((Rows.routeMoreRow.ifacesOut == Tryz.f5.resultTypes.toList.any (Tryz.pinned.checked.prog.ifacesRec ·))) = true := by kernel_rfl
theorem routeMore_k21 : ((Rows.routeMoreRow.loopsOut == Tryz.f5.resultTypes.toList.any (Tryz.pinned.checked.prog.loopsFrom ·))) = true := by kernel_rfl
theorem routeMore_k22 : ((Rows.routeMoreRow.plainKeys == Tryz.pinned.checked.prog.plainKeys)) = true := by kernel_rfl
theorem routeMore_k23 : (Rows.routeMoreRow.shortTexts.isNone) = true := by kernel_rfl
theorem routeMore_k24 : (Tryz.pinned.checked.prog.stopsHeard) = true := by kernel_rfl
theorem routeMore_k25 : (Tryz.pinned.checked.prog.mayEnter) = true := by kernel_rfl
theorem routeMore_k26 : ((Rows.routeMoreRow.lifted == Tryz.pinned.checked.prog.liftsFinal)) = true := by kernel_rfl
theorem routeMore_k27 : ((Tryz.pinned.checked.prog.make == some Rows.routeMoreRow.make)) = true := by kernel_rfl
theorem routeMore_k28 : ((Rows.routeMoreRow.kinds == (if Rows.routeMoreRow.domain.isEmpty then [] else Tryz.f5.params.toList.map fun t => match Tryz.pinned.checked.prog.underlying t with | some (.int k) => some k | _ => none))) = true := by kernel_rfl
theorem routeMore_k29 : ((Rows.routeMoreRow.pinned == Rows.routeMoreRow.pinnedBy)) = true := by kernel_rfl
theorem routeMore_k30 : ((Rows.routeMoreRow.veiled == (Tryz.f5.params.toList ++ (OpenSpec.ofChange Rows.routeMoreSpec).bare.plain.varTypes Tryz.pinned.checked.prog ++ Tryz.f5.resultTypes.toList).any (Tryz.pinned.checked.prog.veiledRec ·))) = true := by kernel_rfl
theorem routeMore_k31 : (Rows.routeMoreRow.veiledFits Tryz.pinned.checked.prog Tryz.f5.params.toList (Tryz.f5.params.toList ++ (OpenSpec.ofChange Rows.routeMoreSpec).bare.plain.varTypes Tryz.pinned.checked.prog ++ Tryz.f5.resultTypes.toList)) = true := by kernel_rfl
set_option maxRecDepth 100000 in
theorem routeMore_facts : joinedFacts Tryz.pinned.checked.prog 5 Tryz.f5 (OpenSpec.ofChange Rows.routeMoreSpec).bare Rows.routeMoreRow = true := by
  unfold joinedFacts
  simp only [Bool.and_eq_true]
  exact ⟨⟨⟨⟨⟨⟨⟨⟨⟨⟨⟨⟨⟨⟨⟨⟨⟨⟨⟨⟨⟨⟨⟨⟨⟨⟨⟨⟨⟨⟨⟨routeMore_k0, routeMore_k1⟩, routeMore_k2⟩, routeMore_k3⟩, routeMore_k4⟩, routeMore_k5⟩, routeMore_k6⟩, routeMore_k7⟩, routeMore_k8⟩, routeMore_k9⟩, routeMore_k10⟩, routeMore_k11⟩, routeMore_k12⟩, routeMore_k13⟩, routeMore_k14⟩, routeMore_k15⟩, routeMore_k16⟩, routeMore_k17⟩, routeMore_k18⟩, routeMore_k19⟩, routeMore_k20⟩, routeMore_k21⟩, routeMore_k22⟩, routeMore_k23⟩, routeMore_k24⟩, routeMore_k25⟩, routeMore_k26⟩, routeMore_k27⟩, routeMore_k28⟩, routeMore_k29⟩, routeMore_k30⟩, routeMore_k31⟩
end Go.Proofs.YtmdgooofdmpcjaaGreatDoor
