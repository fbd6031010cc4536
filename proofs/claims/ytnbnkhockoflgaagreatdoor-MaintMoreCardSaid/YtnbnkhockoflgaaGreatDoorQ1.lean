/- The row's closed facts, each by itself. -/
import Derived.Test.YtnbnkhockoflgaaGreatDoorJ32
namespace Go.Proofs.YtnbnkhockoflgaaGreatDoor
open Go.ChangeShapes Go.WideShapes Go.ChangeAt Go.RowKit
theorem maintMore_k0 : (Rows.maintMoreRow.wf (OpenSpec.ofChange (OpenSpec.ofChange Rows.maintMoreSpec).bare)) = true := by kernel_rfl
theorem maintMore_k1 : (laidOutB Tryz.pinned.checked.prog) = true := by kernel_rfl
theorem maintMore_k2 : (mapsRowed Tryz.pinned.checked.prog) = true := by kernel_rfl
theorem maintMore_k3 : (Tryz.f5.params.all (Tryz.pinned.checked.prog.readableRec ·)) = true := by kernel_rfl
theorem maintMore_k4 : (namedTie Tryz.pinned.checked.prog Rows.maintMoreRow.named (OpenSpec.ofChange Rows.maintMoreSpec).bare.vars) = true := by kernel_rfl
theorem maintMore_k5 : ((Rows.maintMoreRow.stops == [])) = true := by kernel_rfl
theorem maintMore_k6 : ((Tryz.pinned.checked.prog.stops == [])) = true := by kernel_rfl
theorem maintMore_k7 : ((Rows.maintMoreRow.knobs == [])) = true := by kernel_rfl
theorem maintMore_k8 : ((Tryz.pinned.checked.prog.stopKnobs == [])) = true := by kernel_rfl
theorem maintMore_k9 : ((Rows.maintMoreRow.inPlace == Tryz.pinned.checked.prog.inPlace 5)) = true := by kernel_rfl
theorem maintMore_k10 : ((Rows.maintMoreRow.unfollowed == Tryz.pinned.checked.prog.unfollowed 5)) = true := by kernel_rfl
theorem maintMore_k11 : ((Rows.maintMoreRow.recurses == Tryz.pinned.checked.prog.recurses 5)) = true := by kernel_rfl
theorem maintMore_k12 : ((Rows.maintMoreRow.named == Tryz.pinned.checked.prog.varsNamed 5)) = true := by kernel_rfl
theorem maintMore_k13 : ((Rows.maintMoreRow.maps == (Tryz.f5.params.toList ++ (OpenSpec.ofChange Rows.maintMoreSpec).bare.plain.varTypes Tryz.pinned.checked.prog).any (Tryz.pinned.checked.prog.mapsRec ·))) = true := by kernel_rfl
theorem maintMore_k14 : ((Rows.maintMoreRow.ifaces == (Tryz.f5.params.toList ++ (OpenSpec.ofChange Rows.maintMoreSpec).bare.plain.varTypes Tryz.pinned.checked.prog).any (Tryz.pinned.checked.prog.ifacesRec ·))) = true := by kernel_rfl
theorem maintMore_k15 : ((Rows.maintMoreRow.mapsOut == Tryz.pinned.checked.prog.mapsAmong Tryz.f5.resultTypes.toList)) = true := by kernel_rfl
theorem maintMore_k16 : ((Rows.maintMoreRow.loops == (Tryz.f5.params.toList ++ (OpenSpec.ofChange Rows.maintMoreSpec).bare.plain.varTypes Tryz.pinned.checked.prog).any (Tryz.pinned.checked.prog.loopsFrom ·))) = true := by kernel_rfl
theorem maintMore_k17 : ((Rows.maintMoreRow.wideKeys == (Tryz.f5.params.toList ++ (OpenSpec.ofChange Rows.maintMoreSpec).bare.plain.varTypes Tryz.pinned.checked.prog ++ Tryz.f5.resultTypes.toList).any (Tryz.pinned.checked.prog.wideKeysFrom ·))) = true := by kernel_rfl
theorem maintMore_k18 : ((OpenSpec.ofChange Rows.maintMoreSpec).bare.vars.all (Tryz.pinned.checked.prog.varReadable ·)) = true := by kernel_rfl
theorem maintMore_k19 : (Tryz.f5.resultTypes.all (fun t => Tryz.pinned.checked.prog.readableRec t && decide (t < Tryz.pinned.checked.prog.types.size))) = true := by kernel_rfl
theorem maintMore_k20 : ((Rows.maintMoreRow.ifacesOut == Tryz.f5.resultTypes.toList.any (Tryz.pinned.checked.prog.ifacesRec ·))) = true := by kernel_rfl
theorem maintMore_k21 : ((Rows.maintMoreRow.loopsOut == Tryz.f5.resultTypes.toList.any (Tryz.pinned.checked.prog.loopsFrom ·))) = true := by kernel_rfl
theorem maintMore_k22 : ((Rows.maintMoreRow.plainKeys == Tryz.pinned.checked.prog.plainKeys)) = true := by kernel_rfl
theorem maintMore_k23 : (Rows.maintMoreRow.shortTexts.isNone) = true := by kernel_rfl
theorem maintMore_k24 : (Tryz.pinned.checked.prog.stopsHeard) = true := by kernel_rfl
theorem maintMore_k25 : (Tryz.pinned.checked.prog.mayEnter) = true := by kernel_rfl
theorem maintMore_k26 : ((Rows.maintMoreRow.lifted == Tryz.pinned.checked.prog.liftsFinal)) = true := by kernel_rfl
theorem maintMore_k27 : ((Tryz.pinned.checked.prog.make == some Rows.maintMoreRow.make)) = true := by kernel_rfl
theorem maintMore_k28 : ((Rows.maintMoreRow.kinds == (if Rows.maintMoreRow.domain.isEmpty then [] else Tryz.f5.params.toList.map fun t => match Tryz.pinned.checked.prog.underlying t with | some (.int k) => some k | _ => none))) = true := by kernel_rfl
theorem maintMore_k29 : ((Rows.maintMoreRow.pinned == Rows.maintMoreRow.pinnedBy)) = true := by kernel_rfl
theorem maintMore_k30 : ((Rows.maintMoreRow.veiled == (Tryz.f5.params.toList ++ (OpenSpec.ofChange Rows.maintMoreSpec).bare.plain.varTypes Tryz.pinned.checked.prog ++ Tryz.f5.resultTypes.toList).any (Tryz.pinned.checked.prog.veiledRec ·))) = true := by kernel_rfl
theorem maintMore_k31 : (Rows.maintMoreRow.veiledFits Tryz.pinned.checked.prog Tryz.f5.params.toList (Tryz.f5.params.toList ++ (OpenSpec.ofChange Rows.maintMoreSpec).bare.plain.varTypes Tryz.pinned.checked.prog ++ Tryz.f5.resultTypes.toList)) = true := by kernel_rfl
set_option maxRecDepth 100000 in
theorem maintMore_facts : joinedFacts Tryz.pinned.checked.prog 5 Tryz.f5 (OpenSpec.ofChange Rows.maintMoreSpec).bare Rows.maintMoreRow = true := by
  unfold joinedFacts
  simp only [Bool.and_eq_true]
  exact ⟨⟨⟨⟨⟨⟨⟨⟨⟨⟨⟨⟨⟨⟨⟨⟨⟨⟨⟨⟨⟨⟨⟨⟨⟨⟨⟨⟨⟨⟨⟨maintMore_k0, maintMore_k1⟩, maintMore_k2⟩, maintMore_k3⟩, maintMore_k4⟩, maintMore_k5⟩, maintMore_k6⟩, maintMore_k7⟩, maintMore_k8⟩, maintMore_k9⟩, maintMore_k10⟩, maintMore_k11⟩, maintMore_k12⟩, maintMore_k13⟩, maintMore_k14⟩, maintMore_k15⟩, maintMore_k16⟩, maintMore_k17⟩, maintMore_k18⟩, maintMore_k19⟩, maintMore_k20⟩, maintMore_k21⟩, maintMore_k22⟩, maintMore_k23⟩, maintMore_k24⟩, maintMore_k25⟩, maintMore_k26⟩, maintMore_k27⟩, maintMore_k28⟩, maintMore_k29⟩, maintMore_k30⟩, maintMore_k31⟩
end Go.Proofs.YtnbnkhockoflgaaGreatDoor
