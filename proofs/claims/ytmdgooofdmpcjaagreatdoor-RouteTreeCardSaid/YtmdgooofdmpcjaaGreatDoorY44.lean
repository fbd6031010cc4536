import Derived.Test.YtmdgooofdmpcjaaGreatDoorCards
import Derived.Test.YtmdgooofdmpcjaaGreatDoorTie
import Derived.ProofKit
set_option linter.unusedSimpArgs false
set_option linter.unusedVariables false
set_option linter.unusedSectionVars false
namespace Go.Proofs.YtmdgooofdmpcjaaGreatDoor
open Go.ChangeShapes Go.WideShapes Go.ChangeAt Go.RowKit
/- RouteTree: closed facts of its row. Printed by wip/gen/row14.py. -/
theorem aAx : (Rows.routeTreeRow.wf (OpenSpec.ofChange (OpenSpec.ofChange Rows.routeTreeSpec).bare)) = true := by kernel_rfl
theorem aA1 : (laidOutB Tryz.pinned.checked.prog) = true := by kernel_rfl
theorem aBA : (mapsRowed Tryz.pinned.checked.prog) = true := by kernel_rfl
theorem aBB : (Tryz.f6.params.all (Tryz.pinned.checked.prog.readableRec ·)) = true := by kernel_rfl
theorem aBM : (namedTie Tryz.pinned.checked.prog Rows.routeTreeRow.named (OpenSpec.ofChange Rows.routeTreeSpec).bare.vars) = true := by kernel_rfl
theorem aBO : ((Rows.routeTreeRow.stops == [])) = true := by kernel_rfl
theorem aBQ : ((Tryz.pinned.checked.prog.stops == [])) = true := by kernel_rfl
theorem aBe : ((Rows.routeTreeRow.knobs == [])) = true := by kernel_rfl
theorem aBg : ((Tryz.pinned.checked.prog.stopKnobs == [])) = true := by kernel_rfl
theorem aBk : ((Rows.routeTreeRow.inPlace == Tryz.pinned.checked.prog.inPlace 6)) = true := by kernel_rfl
theorem aAG : ((Rows.routeTreeRow.unfollowed == Tryz.pinned.checked.prog.unfollowed 6)) = true := by kernel_rfl
theorem aAH : ((Rows.routeTreeRow.recurses == Tryz.pinned.checked.prog.recurses 6)) = true := by kernel_rfl
theorem aAI : ((Rows.routeTreeRow.named == Tryz.pinned.checked.prog.varsNamed 6)) = true := by kernel_rfl
theorem aAJ : ((Rows.routeTreeRow.maps == (Tryz.f6.params.toList ++ (OpenSpec.ofChange Rows.routeTreeSpec).bare.plain.varTypes Tryz.pinned.checked.prog).any (Tryz.pinned.checked.prog.mapsRec ·))) = true := by kernel_rfl
theorem aAK : ((Rows.routeTreeRow.ifaces == (Tryz.f6.params.toList ++ (OpenSpec.ofChange Rows.routeTreeSpec).bare.plain.varTypes Tryz.pinned.checked.prog).any (Tryz.pinned.checked.prog.ifacesRec ·))) = true := by kernel_rfl
theorem aAL : ((Rows.routeTreeRow.mapsOut == Tryz.pinned.checked.prog.mapsAmong Tryz.f6.resultTypes.toList)) = true := by kernel_rfl
theorem aAM : ((Rows.routeTreeRow.loops == (Tryz.f6.params.toList ++ (OpenSpec.ofChange Rows.routeTreeSpec).bare.plain.varTypes Tryz.pinned.checked.prog).any (Tryz.pinned.checked.prog.loopsFrom ·))) = true := by kernel_rfl
theorem aAN : ((Rows.routeTreeRow.wideKeys == (Tryz.f6.params.toList ++ (OpenSpec.ofChange Rows.routeTreeSpec).bare.plain.varTypes Tryz.pinned.checked.prog ++ Tryz.f6.resultTypes.toList).any (Tryz.pinned.checked.prog.wideKeysFrom ·))) = true := by kernel_rfl
theorem aAO : ((OpenSpec.ofChange Rows.routeTreeSpec).bare.vars.all (Tryz.pinned.checked.prog.varReadable ·)) = true := by kernel_rfl
theorem aAP : (Tryz.f6.resultTypes.all (fun t => Tryz.pinned.checked.prog.readableRec t && decide (t < Tryz.pinned.checked.prog.types.size))) = true := by kernel_rfl
theorem aAQ : ((Rows.routeTreeRow.ifacesOut == Tryz.f6.resultTypes.toList.any (Tryz.pinned.checked.prog.ifacesRec ·))) = true := by kernel_rfl
theorem aAR : ((Rows.routeTreeRow.loopsOut == Tryz.f6.resultTypes.toList.any (Tryz.pinned.checked.prog.loopsFrom ·))) = true := by kernel_rfl
theorem aAS : ((Rows.routeTreeRow.plainKeys == Tryz.pinned.checked.prog.plainKeys)) = true := by kernel_rfl
theorem aAT : (Rows.routeTreeRow.shortTexts.isNone) = true := by kernel_rfl
theorem aAU : (Tryz.pinned.checked.prog.stopsHeard) = true := by kernel_rfl
theorem aAV : (Tryz.pinned.checked.prog.mayEnter) = true := by kernel_rfl
theorem aAW : ((Rows.routeTreeRow.lifted == Tryz.pinned.checked.prog.liftsFinal)) = true := by kernel_rfl
theorem aAX : ((Tryz.pinned.checked.prog.make == some Rows.routeTreeRow.make)) = true := by kernel_rfl
theorem aAY : ((Rows.routeTreeRow.kinds == (if Rows.routeTreeRow.domain.isEmpty then [] else Tryz.f6.params.toList.map fun t => match Tryz.pinned.checked.prog.underlying t with | some (.int k) => some k | _ => none))) = true := by kernel_rfl
theorem aAZ : ((Rows.routeTreeRow.pinned == Rows.routeTreeRow.pinnedBy)) = true := by kernel_rfl
theorem aAa : ((Rows.routeTreeRow.veiled == (Tryz.f6.params.toList ++ (OpenSpec.ofChange Rows.routeTreeSpec).bare.plain.varTypes Tryz.pinned.checked.prog ++ Tryz.f6.resultTypes.toList).any (Tryz.pinned.checked.prog.veiledRec ·))) = true := by kernel_rfl
theorem aAb : (Rows.routeTreeRow.veiledFits Tryz.pinned.checked.prog Tryz.f6.params.toList (Tryz.f6.params.toList ++ (OpenSpec.ofChange Rows.routeTreeSpec).bare.plain.varTypes Tryz.pinned.checked.prog ++ Tryz.f6.resultTypes.toList)) = true := by kernel_rfl
set_option maxRecDepth 100000 in
theorem routeTree_facts : joinedFacts Tryz.pinned.checked.prog 6 Tryz.f6 (OpenSpec.ofChange Rows.routeTreeSpec).bare Rows.routeTreeRow = true := by
  unfold joinedFacts
  simp only [Bool.and_eq_true]
  exact ⟨⟨⟨⟨⟨⟨⟨⟨⟨⟨⟨⟨⟨⟨⟨⟨⟨⟨⟨⟨⟨⟨⟨⟨⟨⟨⟨⟨⟨⟨⟨aAx, aA1⟩, aBA⟩, aBB⟩, aBM⟩, aBO⟩, aBQ⟩, aBe⟩, aBg⟩, aBk⟩, aAG⟩, aAH⟩, aAI⟩, aAJ⟩, aAK⟩, aAL⟩, aAM⟩, aAN⟩, aAO⟩, aAP⟩, aAQ⟩, aAR⟩, aAS⟩, aAT⟩, aAU⟩, aAV⟩, aAW⟩, aAX⟩, aAY⟩, aAZ⟩, aAa⟩, aAb⟩
end Go.Proofs.YtmdgooofdmpcjaaGreatDoor
