/- The row's closed facts, each by itself. -/
import Derived.Test.YtnbnkhockoflgaaGreatDoorJ32
namespace Go.Proofs.YtnbnkhockoflgaaGreatDoor
open Go.ChangeShapes Go.WideShapes Go.ChangeAt Go.RowKit
theorem maintNone_k0 : (Rows.maintNoneRow.wf (OpenSpec.ofChange (OpenSpec.ofChange Rows.maintNoneSpec).bare)) = true := by kernel_rfl
theorem maintNone_k1 : (laidOutB Tryz.pinned.checked.prog) = true := by kernel_rfl
theorem maintNone_k2 : (mapsRowed Tryz.pinned.checked.prog) = true := by kernel_rfl
theorem maintNone_k3 : (Tryz.f6.params.all (Tryz.pinned.checked.prog.readableRec ·)) = true := by kernel_rfl
theorem maintNone_k4 : (namedTie Tryz.pinned.checked.prog Rows.maintNoneRow.named (OpenSpec.ofChange Rows.maintNoneSpec).bare.vars) = true := by kernel_rfl
theorem maintNone_k5 : ((Rows.maintNoneRow.stops == [])) = true := by kernel_rfl
theorem maintNone_k6 : ((Tryz.pinned.checked.prog.stops == [])) = true := by kernel_rfl
theorem maintNone_k7 : ((Rows.maintNoneRow.knobs == [])) = true := by kernel_rfl
theorem maintNone_k8 : ((Tryz.pinned.checked.prog.stopKnobs == [])) = true := by kernel_rfl
theorem maintNone_k9 : ((Rows.maintNoneRow.inPlace == Tryz.pinned.checked.prog.inPlace 6)) = true := by kernel_rfl
theorem maintNone_k10 : ((Rows.maintNoneRow.unfollowed == Tryz.pinned.checked.prog.unfollowed 6)) = true := by kernel_rfl
theorem maintNone_k11 : ((Rows.maintNoneRow.recurses == Tryz.pinned.checked.prog.recurses 6)) = true := by kernel_rfl
theorem maintNone_k12 : ((Rows.maintNoneRow.named == Tryz.pinned.checked.prog.varsNamed 6)) = true := by kernel_rfl
theorem maintNone_k13 : ((Rows.maintNoneRow.maps == (Tryz.f6.params.toList ++ (OpenSpec.ofChange Rows.maintNoneSpec).bare.plain.varTypes Tryz.pinned.checked.prog).any (Tryz.pinned.checked.prog.mapsRec ·))) = true := by kernel_rfl
theorem maintNone_k14 : ((Rows.maintNoneRow.ifaces == (Tryz.f6.params.toList ++ (OpenSpec.ofChange Rows.maintNoneSpec).bare.plain.varTypes Tryz.pinned.checked.prog).any (Tryz.pinned.checked.prog.ifacesRec ·))) = true := by kernel_rfl
theorem maintNone_k15 : ((Rows.maintNoneRow.mapsOut == Tryz.pinned.checked.prog.mapsAmong Tryz.f6.resultTypes.toList)) = true := by kernel_rfl
theorem maintNone_k16 : ((Rows.maintNoneRow.loops == (Tryz.f6.params.toList ++ (OpenSpec.ofChange Rows.maintNoneSpec).bare.plain.varTypes Tryz.pinned.checked.prog).any (Tryz.pinned.checked.prog.loopsFrom ·))) = true := by kernel_rfl
theorem maintNone_k17 : ((Rows.maintNoneRow.wideKeys == (Tryz.f6.params.toList ++ (OpenSpec.ofChange Rows.maintNoneSpec).bare.plain.varTypes Tryz.pinned.checked.prog ++ Tryz.f6.resultTypes.toList).any (Tryz.pinned.checked.prog.wideKeysFrom ·))) = true := by kernel_rfl
theorem maintNone_k18 : ((OpenSpec.ofChange Rows.maintNoneSpec).bare.vars.all (Tryz.pinned.checked.prog.varReadable ·)) = true := by kernel_rfl
theorem maintNone_k19 : (Tryz.f6.resultTypes.all (fun t => Tryz.pinned.checked.prog.readableRec t && decide (t < Tryz.pinned.checked.prog.types.size))) = true := by kernel_rfl
theorem maintNone_k20 : ((Rows.maintNoneRow.ifacesOut == Tryz.f6.resultTypes.toList.any (Tryz.pinned.checked.prog.ifacesRec ·))) = true := by kernel_rfl
theorem maintNone_k21 : ((Rows.maintNoneRow.loopsOut == Tryz.f6.resultTypes.toList.any (Tryz.pinned.checked.prog.loopsFrom ·))) = true := by kernel_rfl
theorem maintNone_k22 : ((Rows.maintNoneRow.plainKeys == Tryz.pinned.checked.prog.plainKeys)) = true := by kernel_rfl
theorem maintNone_k23 : (Rows.maintNoneRow.shortTexts.isNone) = true := by kernel_rfl
theorem maintNone_k24 : (Tryz.pinned.checked.prog.stopsHeard) = true := by kernel_rfl
theorem maintNone_k25 : (Tryz.pinned.checked.prog.mayEnter) = true := by kernel_rfl
theorem maintNone_k26 : ((Rows.maintNoneRow.lifted == Tryz.pinned.checked.prog.liftsFinal)) = true := by kernel_rfl
theorem maintNone_k27 : ((Tryz.pinned.checked.prog.make == some Rows.maintNoneRow.make)) = true := by kernel_rfl
theorem maintNone_k28 : ((Rows.maintNoneRow.kinds == (if Rows.maintNoneRow.domain.isEmpty then [] else Tryz.f6.params.toList.map fun t => match Tryz.pinned.checked.prog.underlying t with | some (.int k) => some k | _ => none))) = true := by kernel_rfl
theorem maintNone_k29 : ((Rows.maintNoneRow.pinned == Rows.maintNoneRow.pinnedBy)) = true := by kernel_rfl
theorem maintNone_k30 : ((Rows.maintNoneRow.veiled == (Tryz.f6.params.toList ++ (OpenSpec.ofChange Rows.maintNoneSpec).bare.plain.varTypes Tryz.pinned.checked.prog ++ Tryz.f6.resultTypes.toList).any (Tryz.pinned.checked.prog.veiledRec ·))) = true := by kernel_rfl
theorem maintNone_k31 : (Rows.maintNoneRow.veiledFits Tryz.pinned.checked.prog Tryz.f6.params.toList (Tryz.f6.params.toList ++ (OpenSpec.ofChange Rows.maintNoneSpec).bare.plain.varTypes Tryz.pinned.checked.prog ++ Tryz.f6.resultTypes.toList)) = true := by kernel_rfl
set_option maxRecDepth 100000 in
theorem maintNone_facts : joinedFacts Tryz.pinned.checked.prog 6 Tryz.f6 (OpenSpec.ofChange Rows.maintNoneSpec).bare Rows.maintNoneRow = true := by
  unfold joinedFacts
  simp only [Bool.and_eq_true]
  exact ⟨⟨⟨⟨⟨⟨⟨⟨⟨⟨⟨⟨⟨⟨⟨⟨⟨⟨⟨⟨⟨⟨⟨⟨⟨⟨⟨⟨⟨⟨⟨maintNone_k0, maintNone_k1⟩, maintNone_k2⟩, maintNone_k3⟩, maintNone_k4⟩, maintNone_k5⟩, maintNone_k6⟩, maintNone_k7⟩, maintNone_k8⟩, maintNone_k9⟩, maintNone_k10⟩, maintNone_k11⟩, maintNone_k12⟩, maintNone_k13⟩, maintNone_k14⟩, maintNone_k15⟩, maintNone_k16⟩, maintNone_k17⟩, maintNone_k18⟩, maintNone_k19⟩, maintNone_k20⟩, maintNone_k21⟩, maintNone_k22⟩, maintNone_k23⟩, maintNone_k24⟩, maintNone_k25⟩, maintNone_k26⟩, maintNone_k27⟩, maintNone_k28⟩, maintNone_k29⟩, maintNone_k30⟩, maintNone_k31⟩
end Go.Proofs.YtnbnkhockoflgaaGreatDoor
