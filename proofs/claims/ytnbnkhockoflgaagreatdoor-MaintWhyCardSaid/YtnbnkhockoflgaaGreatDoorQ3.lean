/- The row's closed facts, each by itself. -/
import Derived.Test.YtnbnkhockoflgaaGreatDoorJ32
namespace Go.Proofs.YtnbnkhockoflgaaGreatDoor
open Go.ChangeShapes Go.WideShapes Go.ChangeAt Go.RowKit
theorem maintWhy_k0 : (Rows.maintWhyRow.wf (OpenSpec.ofChange (OpenSpec.ofChange Rows.maintWhySpec).bare)) = true := by kernel_rfl
theorem maintWhy_k1 : (laidOutB Tryz.pinned.checked.prog) = true := by kernel_rfl
theorem maintWhy_k2 : (mapsRowed Tryz.pinned.checked.prog) = true := by kernel_rfl
theorem maintWhy_k3 : (Tryz.f4.params.all (Tryz.pinned.checked.prog.readableRec ·)) = true := by kernel_rfl
theorem maintWhy_k4 : (namedTie Tryz.pinned.checked.prog Rows.maintWhyRow.named (OpenSpec.ofChange Rows.maintWhySpec).bare.vars) = true := by kernel_rfl
theorem maintWhy_k5 : ((Rows.maintWhyRow.stops == [])) = true := by kernel_rfl
theorem maintWhy_k6 : ((Tryz.pinned.checked.prog.stops == [])) = true := by kernel_rfl
theorem maintWhy_k7 : ((Rows.maintWhyRow.knobs == [])) = true := by kernel_rfl
theorem maintWhy_k8 : ((Tryz.pinned.checked.prog.stopKnobs == [])) = true := by kernel_rfl
theorem maintWhy_k9 : ((Rows.maintWhyRow.inPlace == Tryz.pinned.checked.prog.inPlace 4)) = true := by kernel_rfl
theorem maintWhy_k10 : ((Rows.maintWhyRow.unfollowed == Tryz.pinned.checked.prog.unfollowed 4)) = true := by kernel_rfl
theorem maintWhy_k11 : ((Rows.maintWhyRow.recurses == Tryz.pinned.checked.prog.recurses 4)) = true := by kernel_rfl
theorem maintWhy_k12 : ((Rows.maintWhyRow.named == Tryz.pinned.checked.prog.varsNamed 4)) = true := by kernel_rfl
theorem maintWhy_k13 : ((Rows.maintWhyRow.maps == (Tryz.f4.params.toList ++ (OpenSpec.ofChange Rows.maintWhySpec).bare.plain.varTypes Tryz.pinned.checked.prog).any (Tryz.pinned.checked.prog.mapsRec ·))) = true := by kernel_rfl
theorem maintWhy_k14 : ((Rows.maintWhyRow.ifaces == (Tryz.f4.params.toList ++ (OpenSpec.ofChange Rows.maintWhySpec).bare.plain.varTypes Tryz.pinned.checked.prog).any (Tryz.pinned.checked.prog.ifacesRec ·))) = true := by kernel_rfl
theorem maintWhy_k15 : ((Rows.maintWhyRow.mapsOut == Tryz.pinned.checked.prog.mapsAmong Tryz.f4.resultTypes.toList)) = true := by kernel_rfl
theorem maintWhy_k16 : ((Rows.maintWhyRow.loops == (Tryz.f4.params.toList ++ (OpenSpec.ofChange Rows.maintWhySpec).bare.plain.varTypes Tryz.pinned.checked.prog).any (Tryz.pinned.checked.prog.loopsFrom ·))) = true := by kernel_rfl
theorem maintWhy_k17 : ((Rows.maintWhyRow.wideKeys == (Tryz.f4.params.toList ++ (OpenSpec.ofChange Rows.maintWhySpec).bare.plain.varTypes Tryz.pinned.checked.prog ++ Tryz.f4.resultTypes.toList).any (Tryz.pinned.checked.prog.wideKeysFrom ·))) = true := by kernel_rfl
theorem maintWhy_k18 : ((OpenSpec.ofChange Rows.maintWhySpec).bare.vars.all (Tryz.pinned.checked.prog.varReadable ·)) = true := by kernel_rfl
theorem maintWhy_k19 : (Tryz.f4.resultTypes.all (fun t => Tryz.pinned.checked.prog.readableRec t && decide (t < Tryz.pinned.checked.prog.types.size))) = true := by kernel_rfl
theorem maintWhy_k20 : ((Rows.maintWhyRow.ifacesOut == Tryz.f4.resultTypes.toList.any (Tryz.pinned.checked.prog.ifacesRec ·))) = true := by kernel_rfl
theorem maintWhy_k21 : ((Rows.maintWhyRow.loopsOut == Tryz.f4.resultTypes.toList.any (Tryz.pinned.checked.prog.loopsFrom ·))) = true := by kernel_rfl
theorem maintWhy_k22 : ((Rows.maintWhyRow.plainKeys == Tryz.pinned.checked.prog.plainKeys)) = true := by kernel_rfl
theorem maintWhy_k23 : (Rows.maintWhyRow.shortTexts.isNone) = true := by kernel_rfl
theorem maintWhy_k24 : (Tryz.pinned.checked.prog.stopsHeard) = true := by kernel_rfl
theorem maintWhy_k25 : (Tryz.pinned.checked.prog.mayEnter) = true := by kernel_rfl
theorem maintWhy_k26 : ((Rows.maintWhyRow.lifted == Tryz.pinned.checked.prog.liftsFinal)) = true := by kernel_rfl
theorem maintWhy_k27 : ((Tryz.pinned.checked.prog.make == some Rows.maintWhyRow.make)) = true := by kernel_rfl
theorem maintWhy_k28 : ((Rows.maintWhyRow.kinds == (if Rows.maintWhyRow.domain.isEmpty then [] else Tryz.f4.params.toList.map fun t => match Tryz.pinned.checked.prog.underlying t with | some (.int k) => some k | _ => none))) = true := by kernel_rfl
theorem maintWhy_k29 : ((Rows.maintWhyRow.pinned == Rows.maintWhyRow.pinnedBy)) = true := by kernel_rfl
theorem maintWhy_k30 : ((Rows.maintWhyRow.veiled == (Tryz.f4.params.toList ++ (OpenSpec.ofChange Rows.maintWhySpec).bare.plain.varTypes Tryz.pinned.checked.prog ++ Tryz.f4.resultTypes.toList).any (Tryz.pinned.checked.prog.veiledRec ·))) = true := by kernel_rfl
theorem maintWhy_k31 : (Rows.maintWhyRow.veiledFits Tryz.pinned.checked.prog Tryz.f4.params.toList (Tryz.f4.params.toList ++ (OpenSpec.ofChange Rows.maintWhySpec).bare.plain.varTypes Tryz.pinned.checked.prog ++ Tryz.f4.resultTypes.toList)) = true := by kernel_rfl
set_option maxRecDepth 100000 in
theorem maintWhy_facts : joinedFacts Tryz.pinned.checked.prog 4 Tryz.f4 (OpenSpec.ofChange Rows.maintWhySpec).bare Rows.maintWhyRow = true := by
  unfold joinedFacts
  simp only [Bool.and_eq_true]
  exact ⟨⟨⟨⟨⟨⟨⟨⟨⟨⟨⟨⟨⟨⟨⟨⟨⟨⟨⟨⟨⟨⟨⟨⟨⟨⟨⟨⟨⟨⟨⟨maintWhy_k0, maintWhy_k1⟩, maintWhy_k2⟩, maintWhy_k3⟩, maintWhy_k4⟩, maintWhy_k5⟩, maintWhy_k6⟩, maintWhy_k7⟩, maintWhy_k8⟩, maintWhy_k9⟩, maintWhy_k10⟩, maintWhy_k11⟩, maintWhy_k12⟩, maintWhy_k13⟩, maintWhy_k14⟩, maintWhy_k15⟩, maintWhy_k16⟩, maintWhy_k17⟩, maintWhy_k18⟩, maintWhy_k19⟩, maintWhy_k20⟩, maintWhy_k21⟩, maintWhy_k22⟩, maintWhy_k23⟩, maintWhy_k24⟩, maintWhy_k25⟩, maintWhy_k26⟩, maintWhy_k27⟩, maintWhy_k28⟩, maintWhy_k29⟩, maintWhy_k30⟩, maintWhy_k31⟩
end Go.Proofs.YtnbnkhockoflgaaGreatDoor
