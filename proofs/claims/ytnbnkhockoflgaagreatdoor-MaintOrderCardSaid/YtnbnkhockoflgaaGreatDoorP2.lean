/- The row's closed facts, each by itself. -/
import Derived.Test.YtnbnkhockoflgaaGreatDoorJ32
namespace Go.Proofs.YtnbnkhockoflgaaGreatDoor
open Go.ChangeShapes Go.WideShapes Go.ChangeAt Go.RowKit
theorem maintOrder_k0 : (Rows.maintOrderRow.wf (OpenSpec.ofChange (OpenSpec.ofChange Rows.maintOrderSpec).bare)) = true := by kernel_rfl
theorem maintOrder_k1 : (laidOutB Tryz.pinned.checked.prog) = true := by kernel_rfl
theorem maintOrder_k2 : (mapsRowed Tryz.pinned.checked.prog) = true := by kernel_rfl
theorem maintOrder_k3 : (Tryz.f3.params.all (Tryz.pinned.checked.prog.readableRec ·)) = true := by kernel_rfl
theorem maintOrder_k4 : (namedTie Tryz.pinned.checked.prog Rows.maintOrderRow.named (OpenSpec.ofChange Rows.maintOrderSpec).bare.vars) = true := by kernel_rfl
theorem maintOrder_k5 : ((Rows.maintOrderRow.stops == [])) = true := by kernel_rfl
theorem maintOrder_k6 : ((Tryz.pinned.checked.prog.stops == [])) = true := by kernel_rfl
theorem maintOrder_k7 : ((Rows.maintOrderRow.knobs == [])) = true := by kernel_rfl
theorem maintOrder_k8 : ((Tryz.pinned.checked.prog.stopKnobs == [])) = true := by kernel_rfl
theorem maintOrder_k9 : ((Rows.maintOrderRow.inPlace == Tryz.pinned.checked.prog.inPlace 3)) = true := by kernel_rfl
theorem maintOrder_k10 : ((Rows.maintOrderRow.unfollowed == Tryz.pinned.checked.prog.unfollowed 3)) = true := by kernel_rfl
theorem maintOrder_k11 : ((Rows.maintOrderRow.recurses == Tryz.pinned.checked.prog.recurses 3)) = true := by kernel_rfl
theorem maintOrder_k12 : ((Rows.maintOrderRow.named == Tryz.pinned.checked.prog.varsNamed 3)) = true := by kernel_rfl
theorem maintOrder_k13 : ((Rows.maintOrderRow.maps == (Tryz.f3.params.toList ++ (OpenSpec.ofChange Rows.maintOrderSpec).bare.plain.varTypes Tryz.pinned.checked.prog).any (Tryz.pinned.checked.prog.mapsRec ·))) = true := by kernel_rfl
theorem maintOrder_k14 : ((Rows.maintOrderRow.ifaces == (Tryz.f3.params.toList ++ (OpenSpec.ofChange Rows.maintOrderSpec).bare.plain.varTypes Tryz.pinned.checked.prog).any (Tryz.pinned.checked.prog.ifacesRec ·))) = true := by kernel_rfl
theorem maintOrder_k15 : ((Rows.maintOrderRow.mapsOut == Tryz.pinned.checked.prog.mapsAmong Tryz.f3.resultTypes.toList)) = true := by kernel_rfl
theorem maintOrder_k16 : ((Rows.maintOrderRow.loops == (Tryz.f3.params.toList ++ (OpenSpec.ofChange Rows.maintOrderSpec).bare.plain.varTypes Tryz.pinned.checked.prog).any (Tryz.pinned.checked.prog.loopsFrom ·))) = true := by kernel_rfl
theorem maintOrder_k17 : ((Rows.maintOrderRow.wideKeys == (Tryz.f3.params.toList ++ (OpenSpec.ofChange Rows.maintOrderSpec).bare.plain.varTypes Tryz.pinned.checked.prog ++ Tryz.f3.resultTypes.toList).any (Tryz.pinned.checked.prog.wideKeysFrom ·))) = true := by kernel_rfl
theorem maintOrder_k18 : ((OpenSpec.ofChange Rows.maintOrderSpec).bare.vars.all (Tryz.pinned.checked.prog.varReadable ·)) = true := by kernel_rfl
theorem maintOrder_k19 : (Tryz.f3.resultTypes.all (fun t => Tryz.pinned.checked.prog.readableRec t && decide (t < Tryz.pinned.checked.prog.types.size))) = true := by kernel_rfl
theorem maintOrder_k20 : ((Rows.maintOrderRow.ifacesOut == Tryz.f3.resultTypes.toList.any (Tryz.pinned.checked.prog.ifacesRec ·))) = true := by kernel_rfl
theorem maintOrder_k21 : ((Rows.maintOrderRow.loopsOut == Tryz.f3.resultTypes.toList.any (Tryz.pinned.checked.prog.loopsFrom ·))) = true := by kernel_rfl
theorem maintOrder_k22 : ((Rows.maintOrderRow.plainKeys == Tryz.pinned.checked.prog.plainKeys)) = true := by kernel_rfl
theorem maintOrder_k23 : (Rows.maintOrderRow.shortTexts.isNone) = true := by kernel_rfl
theorem maintOrder_k24 : (Tryz.pinned.checked.prog.stopsHeard) = true := by kernel_rfl
theorem maintOrder_k25 : (Tryz.pinned.checked.prog.mayEnter) = true := by kernel_rfl
theorem maintOrder_k26 : ((Rows.maintOrderRow.lifted == Tryz.pinned.checked.prog.liftsFinal)) = true := by kernel_rfl
theorem maintOrder_k27 : ((Tryz.pinned.checked.prog.make == some Rows.maintOrderRow.make)) = true := by kernel_rfl
theorem maintOrder_k28 : ((Rows.maintOrderRow.kinds == (if Rows.maintOrderRow.domain.isEmpty then [] else Tryz.f3.params.toList.map fun t => match Tryz.pinned.checked.prog.underlying t with | some (.int k) => some k | _ => none))) = true := by kernel_rfl
theorem maintOrder_k29 : ((Rows.maintOrderRow.pinned == Rows.maintOrderRow.pinnedBy)) = true := by kernel_rfl
theorem maintOrder_k30 : ((Rows.maintOrderRow.veiled == (Tryz.f3.params.toList ++ (OpenSpec.ofChange Rows.maintOrderSpec).bare.plain.varTypes Tryz.pinned.checked.prog ++ Tryz.f3.resultTypes.toList).any (Tryz.pinned.checked.prog.veiledRec ·))) = true := by kernel_rfl
theorem maintOrder_k31 : (Rows.maintOrderRow.veiledFits Tryz.pinned.checked.prog Tryz.f3.params.toList (Tryz.f3.params.toList ++ (OpenSpec.ofChange Rows.maintOrderSpec).bare.plain.varTypes Tryz.pinned.checked.prog ++ Tryz.f3.resultTypes.toList)) = true := by kernel_rfl
set_option maxRecDepth 100000 in
theorem maintOrder_facts : joinedFacts Tryz.pinned.checked.prog 3 Tryz.f3 (OpenSpec.ofChange Rows.maintOrderSpec).bare Rows.maintOrderRow = true := by
  unfold joinedFacts
  simp only [Bool.and_eq_true]
  exact ⟨⟨⟨⟨⟨⟨⟨⟨⟨⟨⟨⟨⟨⟨⟨⟨⟨⟨⟨⟨⟨⟨⟨⟨⟨⟨⟨⟨⟨⟨⟨maintOrder_k0, maintOrder_k1⟩, maintOrder_k2⟩, maintOrder_k3⟩, maintOrder_k4⟩, maintOrder_k5⟩, maintOrder_k6⟩, maintOrder_k7⟩, maintOrder_k8⟩, maintOrder_k9⟩, maintOrder_k10⟩, maintOrder_k11⟩, maintOrder_k12⟩, maintOrder_k13⟩, maintOrder_k14⟩, maintOrder_k15⟩, maintOrder_k16⟩, maintOrder_k17⟩, maintOrder_k18⟩, maintOrder_k19⟩, maintOrder_k20⟩, maintOrder_k21⟩, maintOrder_k22⟩, maintOrder_k23⟩, maintOrder_k24⟩, maintOrder_k25⟩, maintOrder_k26⟩, maintOrder_k27⟩, maintOrder_k28⟩, maintOrder_k29⟩, maintOrder_k30⟩, maintOrder_k31⟩
end Go.Proofs.YtnbnkhockoflgaaGreatDoor
