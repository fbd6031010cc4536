/- The row's closed facts, each by itself. -/
import Derived.Test.YtknojjlfgjkbiaaGreatDoorH32
namespace Go.Proofs.YtknojjlfgjkbiaaGreatDoor
open Go.ChangeShapes Go.WideShapes Go.ChangeAt Go.RowKit
theorem maintTells_k0 : (Rows.maintTellsRow.wf (OpenSpec.ofChange (OpenSpec.ofChange Rows.maintTellsSpec).bare)) = true := by kernel_rfl
theorem maintTells_k1 : (laidOutB Tryz.pinned.checked.prog) = true := by kernel_rfl
theorem maintTells_k2 : (mapsRowed Tryz.pinned.checked.prog) = true := by kernel_rfl
theorem maintTells_k3 : (Tryz.f3.params.all (Tryz.pinned.checked.prog.readableRec ·)) = true := by kernel_rfl
theorem maintTells_k4 : (namedTie Tryz.pinned.checked.prog Rows.maintTellsRow.named (OpenSpec.ofChange Rows.maintTellsSpec).bare.vars) = true := by kernel_rfl
theorem maintTells_k5 : ((Rows.maintTellsRow.stops == [])) = true := by kernel_rfl
theorem maintTells_k6 : ((Tryz.pinned.checked.prog.stops == [])) = true := by kernel_rfl
theorem maintTells_k7 : ((Rows.maintTellsRow.knobs == [])) = true := by kernel_rfl
theorem maintTells_k8 : ((Tryz.pinned.checked.prog.stopKnobs == [])) = true := by kernel_rfl
theorem maintTells_k9 : ((Rows.maintTellsRow.inPlace == Tryz.pinned.checked.prog.inPlace 3)) = true := by kernel_rfl
theorem maintTells_k10 : ((Rows.maintTellsRow.unfollowed == Tryz.pinned.checked.prog.unfollowed 3)) = true := by kernel_rfl
theorem maintTells_k11 : ((Rows.maintTellsRow.recurses == Tryz.pinned.checked.prog.recurses 3)) = true := by kernel_rfl
theorem maintTells_k12 : ((Rows.maintTellsRow.named == Tryz.pinned.checked.prog.varsNamed 3)) = true := by kernel_rfl
theorem maintTells_k13 : ((Rows.maintTellsRow.maps == (Tryz.f3.params.toList ++ (OpenSpec.ofChange Rows.maintTellsSpec).bare.plain.varTypes Tryz.pinned.checked.prog).any (Tryz.pinned.checked.prog.mapsRec ·))) = true := by kernel_rfl
theorem maintTells_k14 : ((Rows.maintTellsRow.ifaces == (Tryz.f3.params.toList ++ (OpenSpec.ofChange Rows.maintTellsSpec).bare.plain.varTypes Tryz.pinned.checked.prog).any (Tryz.pinned.checked.prog.ifacesRec ·))) = true := by kernel_rfl
theorem maintTells_k15 : ((Rows.maintTellsRow.mapsOut == Tryz.pinned.checked.prog.mapsAmong Tryz.f3.resultTypes.toList)) = true := by kernel_rfl
theorem maintTells_k16 : ((Rows.maintTellsRow.loops == (Tryz.f3.params.toList ++ (OpenSpec.ofChange Rows.maintTellsSpec).bare.plain.varTypes Tryz.pinned.checked.prog).any (Tryz.pinned.checked.prog.loopsFrom ·))) = true := by kernel_rfl
theorem maintTells_k17 : ((Rows.maintTellsRow.wideKeys == (Tryz.f3.params.toList ++ (OpenSpec.ofChange Rows.maintTellsSpec).bare.plain.varTypes Tryz.pinned.checked.prog ++ Tryz.f3.resultTypes.toList).any (Tryz.pinned.checked.prog.wideKeysFrom ·))) = true := by kernel_rfl
theorem maintTells_k18 : ((OpenSpec.ofChange Rows.maintTellsSpec).bare.vars.all (Tryz.pinned.checked.prog.varReadable ·)) = true := by kernel_rfl
theorem maintTells_k19 : (Tryz.f3.resultTypes.all (fun t => Tryz.pinned.checked.prog.readableRec t && decide (t < Tryz.pinned.checked.prog.types.size))) = true := by kernel_rfl
theorem maintTells_k20 : ((Rows.maintTellsRow.ifacesOut == Tryz.f3.resultTypes.toList.any (Tryz.pinned.checked.prog.ifacesRec ·))) = true := by kernel_rfl
theorem maintTells_k21 : ((Rows.maintTellsRow.loopsOut == Tryz.f3.resultTypes.toList.any (Tryz.pinned.checked.prog.loopsFrom ·))) = true := by kernel_rfl
theorem maintTells_k22 : ((Rows.maintTellsRow.plainKeys == Tryz.pinned.checked.prog.plainKeys)) = true := by kernel_rfl
theorem maintTells_k23 : (Rows.maintTellsRow.shortTexts.isNone) = true := by kernel_rfl
theorem maintTells_k24 : (Tryz.pinned.checked.prog.stopsHeard) = true := by kernel_rfl
theorem maintTells_k25 : (Tryz.pinned.checked.prog.mayEnter) = true := by kernel_rfl
theorem maintTells_k26 : ((Rows.maintTellsRow.lifted == Tryz.pinned.checked.prog.liftsFinal)) = true := by kernel_rfl
theorem maintTells_k27 : ((Tryz.pinned.checked.prog.make == some Rows.maintTellsRow.make)) = true := by kernel_rfl
theorem maintTells_k28 : ((Rows.maintTellsRow.kinds == (if Rows.maintTellsRow.domain.isEmpty then [] else Tryz.f3.params.toList.map fun t => match Tryz.pinned.checked.prog.underlying t with | some (.int k) => some k | _ => none))) = true := by kernel_rfl
theorem maintTells_k29 : ((Rows.maintTellsRow.pinned == Rows.maintTellsRow.pinnedBy)) = true := by kernel_rfl
theorem maintTells_k30 : ((Rows.maintTellsRow.veiled == (Tryz.f3.params.toList ++ (OpenSpec.ofChange Rows.maintTellsSpec).bare.plain.varTypes Tryz.pinned.checked.prog ++ Tryz.f3.resultTypes.toList).any (Tryz.pinned.checked.prog.veiledRec ·))) = true := by kernel_rfl
theorem maintTells_k31 : (Rows.maintTellsRow.veiledFits Tryz.pinned.checked.prog Tryz.f3.params.toList (Tryz.f3.params.toList ++ (OpenSpec.ofChange Rows.maintTellsSpec).bare.plain.varTypes Tryz.pinned.checked.prog ++ Tryz.f3.resultTypes.toList)) = true := by kernel_rfl
set_option maxRecDepth 100000 in
theorem maintTells_facts : joinedFacts Tryz.pinned.checked.prog 3 Tryz.f3 (OpenSpec.ofChange Rows.maintTellsSpec).bare Rows.maintTellsRow = true := by
  unfold joinedFacts
  simp only [Bool.and_eq_true]
  exact ⟨⟨⟨⟨⟨⟨⟨⟨⟨⟨⟨⟨⟨⟨⟨⟨⟨⟨⟨⟨⟨⟨⟨⟨⟨⟨⟨⟨⟨⟨⟨maintTells_k0, maintTells_k1⟩, maintTells_k2⟩, maintTells_k3⟩, maintTells_k4⟩, maintTells_k5⟩, maintTells_k6⟩, maintTells_k7⟩, maintTells_k8⟩, maintTells_k9⟩, maintTells_k10⟩, maintTells_k11⟩, maintTells_k12⟩, maintTells_k13⟩, maintTells_k14⟩, maintTells_k15⟩, maintTells_k16⟩, maintTells_k17⟩, maintTells_k18⟩, maintTells_k19⟩, maintTells_k20⟩, maintTells_k21⟩, maintTells_k22⟩, maintTells_k23⟩, maintTells_k24⟩, maintTells_k25⟩, maintTells_k26⟩, maintTells_k27⟩, maintTells_k28⟩, maintTells_k29⟩, maintTells_k30⟩, maintTells_k31⟩
end Go.Proofs.YtknojjlfgjkbiaaGreatDoor
