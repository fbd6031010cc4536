import Derived.Test.YtmdgooofdmpcjaaGreatDoorCards
import Derived.Test.YtmdgooofdmpcjaaGreatDoorTie
import Derived.ProofKit
set_option linter.unusedSimpArgs false
set_option linter.unusedVariables false
set_option linter.unusedSectionVars false
namespace Go.Proofs.YtmdgooofdmpcjaaGreatDoor
open Go.ChangeShapes Go.WideShapes Go.ChangeAt Go.RowKit
/- RouteCut: closed facts of its row. Printed by wip/gen/row14.py. -/
theorem OE : (Rows.routeCutRow.wf (OpenSpec.ofChange (OpenSpec.ofChange Rows.routeCutSpec).bare)) = true := by kernel_rfl
theorem OG : (laidOutB Tryz.pinned.checked.prog) = true := by kernel_rfl
theorem OH : (mapsRowed Tryz.pinned.checked.prog) = true := by kernel_rfl
theorem OI : (Tryz.f7.params.all (Tryz.pinned.checked.prog.readableRec ·)) = true := by kernel_rfl
theorem OJ : (namedTie Tryz.pinned.checked.prog Rows.routeCutRow.named (OpenSpec.ofChange Rows.routeCutSpec).bare.vars) = true := by kernel_rfl
theorem OL : ((Rows.routeCutRow.stops == [])) = true := by kernel_rfl
theorem OM : ((Tryz.pinned.checked.prog.stops == [])) = true := by kernel_rfl
theorem OO : ((Rows.routeCutRow.knobs == [])) = true := by kernel_rfl
theorem OP : ((Tryz.pinned.checked.prog.stopKnobs == [])) = true := by kernel_rfl
theorem OQ : ((Rows.routeCutRow.inPlace == Tryz.pinned.checked.prog.inPlace 7)) = true := by kernel_rfl
theorem Lj : ((Rows.routeCutRow.unfollowed == Tryz.pinned.checked.prog.unfollowed 7)) = true := by kernel_rfl
theorem Ll : ((Rows.routeCutRow.recurses == Tryz.pinned.checked.prog.recurses 7)) = true := by kernel_rfl
theorem Lm : ((Rows.routeCutRow.named == Tryz.pinned.checked.prog.varsNamed 7)) = true := by kernel_rfl
theorem Ln : ((Rows.routeCutRow.maps == (Tryz.f7.params.toList ++ (OpenSpec.ofChange Rows.routeCutSpec).bare.plain.varTypes Tryz.pinned.checked.prog).any (Tryz.pinned.checked.prog.mapsRec ·))) = true := by kernel_rfl
theorem Lp : ((Rows.routeCutRow.ifaces == (Tryz.f7.params.toList ++ (OpenSpec.ofChange Rows.routeCutSpec).bare.plain.varTypes Tryz.pinned.checked.prog).any (Tryz.pinned.checked.prog.ifacesRec ·))) = true := by kernel_rfl
theorem Lr : ((Rows.routeCutRow.mapsOut == Tryz.pinned.checked.prog.mapsAmong Tryz.f7.resultTypes.toList)) = true := by kernel_rfl
theorem Ls : ((Rows.routeCutRow.loops == (Tryz.f7.params.toList ++ (OpenSpec.ofChange Rows.routeCutSpec).bare.plain.varTypes Tryz.pinned.checked.prog).any (Tryz.pinned.checked.prog.loopsFrom ·))) = true := by kernel_rfl
theorem Lu : ((Rows.routeCutRow.wideKeys == (Tryz.f7.params.toList ++ (OpenSpec.ofChange Rows.routeCutSpec).bare.plain.varTypes Tryz.pinned.checked.prog ++ Tryz.f7.resultTypes.toList).any (Tryz.pinned.checked.prog.wideKeysFrom ·))) = true := by kernel_rfl
theorem Lv : ((OpenSpec.ofChange Rows.routeCutSpec).bare.vars.all (Tryz.pinned.checked.prog.varReadable ·)) = true := by kernel_rfl
theorem Lw : (Tryz.f7.resultTypes.all (fun t => Tryz.pinned.checked.prog.readableRec t && decide (t < Tryz.pinned.checked.prog.types.size))) = true := by kernel_rfl
theorem Lx : ((Rows.routeCutRow.ifacesOut == Tryz.f7.resultTypes.toList.any (Tryz.pinned.checked.prog.ifacesRec ·))) = true := by kernel_rfl
theorem Ly : ((Rows.routeCutRow.loopsOut == Tryz.f7.resultTypes.toList.any (Tryz.pinned.checked.prog.loopsFrom ·))) = true := by kernel_rfl
theorem Lz : ((Rows.routeCutRow.plainKeys == Tryz.pinned.checked.prog.plainKeys)) = true := by kernel_rfl
theorem LA : (Rows.routeCutRow.shortTexts.isNone) = true := by kernel_rfl
theorem LB : (Tryz.pinned.checked.prog.stopsHeard) = true := by kernel_rfl
theorem LC : (Tryz.pinned.checked.prog.mayEnter) = true := by kernel_rfl
theorem LD : ((Rows.routeCutRow.lifted == Tryz.pinned.checked.prog.liftsFinal)) = true := by kernel_rfl
theorem LG : ((Tryz.pinned.checked.prog.make == some Rows.routeCutRow.make)) = true := by kernel_rfl
theorem LH : ((Rows.routeCutRow.kinds == (if Rows.routeCutRow.domain.isEmpty then [] else Tryz.f7.params.toList.map fun t => match Tryz.pinned.checked.prog.underlying t with | some (.int k) => some k | _ => none))) = true := by kernel_rfl
theorem LI : ((Rows.routeCutRow.pinned == Rows.routeCutRow.pinnedBy)) = true := by kernel_rfl
theorem LJ : ((Rows.routeCutRow.veiled == (Tryz.f7.params.toList ++ (OpenSpec.ofChange Rows.routeCutSpec).bare.plain.varTypes Tryz.pinned.checked.prog ++ Tryz.f7.resultTypes.toList).any (Tryz.pinned.checked.prog.veiledRec ·))) = true := by kernel_rfl
theorem LK : (Rows.routeCutRow.veiledFits Tryz.pinned.checked.prog Tryz.f7.params.toList (Tryz.f7.params.toList ++ (OpenSpec.ofChange Rows.routeCutSpec).bare.plain.varTypes Tryz.pinned.checked.prog ++ Tryz.f7.resultTypes.toList)) = true := by kernel_rfl
set_option maxRecDepth 100000 in
theorem Dj : joinedFacts Tryz.pinned.checked.prog 7 Tryz.f7 (OpenSpec.ofChange Rows.routeCutSpec).bare Rows.routeCutRow = true := by
  unfold joinedFacts
  simp only [Bool.and_eq_true]
  exact ⟨⟨⟨⟨⟨⟨⟨⟨⟨⟨⟨⟨⟨⟨⟨⟨⟨⟨⟨⟨⟨⟨⟨⟨⟨⟨⟨⟨⟨⟨⟨OE, OG⟩, OH⟩, OI⟩, OJ⟩, OL⟩, OM⟩, OO⟩, OP⟩, OQ⟩, Lj⟩, Ll⟩, Lm⟩, Ln⟩, Lp⟩, Lr⟩, Ls⟩, Lu⟩, Lv⟩, Lw⟩, Lx⟩, Ly⟩, Lz⟩, LA⟩, LB⟩, LC⟩, LD⟩, LG⟩, LH⟩, LI⟩, LJ⟩, LK⟩
end Go.Proofs.YtmdgooofdmpcjaaGreatDoor
