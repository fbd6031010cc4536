/- The row's closed facts, each by itself. -/
import Derived.Test.YtnbnkhockoflgaaGreatDoorJ32
namespace Go.Proofs.YtnbnkhockoflgaaGreatDoor
open Go.ChangeShapes Go.WideShapes Go.ChangeAt Go.RowKit
theorem maintOnly_k0 : (Rows.maintOnlyRow.wf (OpenSpec.ofChange (OpenSpec.ofChange Rows.maintOnlySpec).bare)) = true := by kernel_rfl
theorem maintOnly_k1 : (laidOutB Tryz.pinned.checked.prog) = true := by kernel_rfl
theorem maintOnly_k2 : (mapsRowed Tryz.pinned.checked.prog) = true := by kernel_rfl
theorem maintOnly_k3 : (Tryz.f7.params.all (Tryz.pinned.checked.prog.readableRec ·)) = true := by kernel_rfl
theorem maintOnly_k4 : (namedTie Tryz.pinned.checked.prog Rows.maintOnlyRow.named (OpenSpec.ofChange Rows.maintOnlySpec).bare.vars) = true := by kernel_rfl
theorem maintOnly_k5 : ((Rows.maintOnlyRow.stops == [])) = true := by kernel_rfl
theorem maintOnly_k6 : ((Tryz.pinned.checked.prog.stops == [])) = true := by kernel_rfl
theorem maintOnly_k7 : ((Rows.maintOnlyRow.knobs == [])) = true := by kernel_rfl
theorem maintOnly_k8 : ((Tryz.pinned.checked.prog.stopKnobs == [])) = true := by kernel_rfl
theorem maintOnly_k9 : ((Rows.maintOnlyRow.inPlace == Tryz.pinned.checked.prog.inPlace 7)) = true := by kernel_rfl
theorem maintOnly_k10 : ((Rows.maintOnlyRow.unfollowed == Tryz.pinned.checked.prog.unfollowed 7)) = true := by kernel_rfl
theorem maintOnly_k11 : ((Rows.maintOnlyRow.recurses == Tryz.pinned.checked.prog.recurses 7)) = true := by kernel_rfl
theorem maintOnly_k12 : ((Rows.maintOnlyRow.named == Tryz.pinned.checked.prog.varsNamed 7)) = true := by kernel_rfl
theorem maintOnly_k13 : ((Rows.maintOnlyRow.maps == (Tryz.f7.params.toList ++ (OpenSpec.ofChange Rows.maintOnlySpec).bare.plain.varTypes Tryz.pinned.checked.prog).any (Tryz.pinned.checked.prog.mapsRec ·))) = true := by kernel_rfl
theorem maintOnly_k14 : ((Rows.maintOnlyRow.ifaces == (Tryz.f7.params.toList ++ (OpenSpec.ofChange Rows.maintOnlySpec).bare.plain.varTypes Tryz.pinned.checked.prog).any (Tryz.pinned.checked.prog.ifacesRec ·))) = true := by kernel_rfl
theorem maintOnly_k15 : ((Rows.maintOnlyRow.mapsOut == Tryz.pinned.checked.prog.mapsAmong Tryz.f7.resultTypes.toList)) = true := by kernel_rfl
theorem maintOnly_k16 : ((Rows.maintOnlyRow.loops == (Tryz.f7.params.toList ++ (OpenSpec.ofChange Rows.maintOnlySpec).bare.plain.varTypes Tryz.pinned.checked.prog).any (Tryz.pinned.checked.prog.loopsFrom ·))) = true := by kernel_rfl
theorem maintOnly_k17 : ((Rows.maintOnlyRow.wideKeys == (Tryz.f7.params.toList ++ (OpenSpec.ofChange Rows.maintOnlySpec).bare.plain.varTypes Tryz.pinned.checked.prog ++ Tryz.f7.resultTypes.toList).any (Tryz.pinned.checked.prog.wideKeysFrom ·))) = true := by kernel_rfl
theorem maintOnly_k18 : ((OpenSpec.ofChange Rows.maintOnlySpec).bare.vars.all (Tryz.pinned.checked.prog.varReadable ·)) = true := by kernel_rfl
theorem maintOnly_k19 : (Tryz.f7.resultTypes.all (fun t => Tryz.pinned.checked.prog.readableRec t && decide (t < Tryz.pinned.checked.prog.types.size))) = true := by kernel_rfl
theorem maintOnly_k20 : ((Rows.maintOnlyRow.ifacesOut == Tryz.f7.resultTypes.toList.any (Tryz.pinned.checked.prog.ifacesRec ·))) = true := by kernel_rfl
theorem maintOnly_k21 : ((Rows.maintOnlyRow.loopsOut == Tryz.f7.resultTypes.toList.any (Tryz.pinned.checked.prog.loopsFrom ·))) = true := by kernel_rfl
theorem maintOnly_k22 : ((Rows.maintOnlyRow.plainKeys == Tryz.pinned.checked.prog.plainKeys)) = true := by kernel_rfl
theorem maintOnly_k23 : (Rows.maintOnlyRow.shortTexts.isNone) = true := by kernel_rfl
theorem maintOnly_k24 : (Tryz.pinned.checked.prog.stopsHeard) = true := by kernel_rfl
theorem maintOnly_k25 : (Tryz.pinned.checked.prog.mayEnter) = true := by kernel_rfl
theorem maintOnly_k26 : ((Rows.maintOnlyRow.lifted == Tryz.pinned.checked.prog.liftsFinal)) = true := by kernel_rfl
theorem maintOnly_k27 : ((Tryz.pinned.checked.prog.make == some Rows.maintOnlyRow.make)) = true := by kernel_rfl
theorem maintOnly_k28 : ((Rows.maintOnlyRow.kinds == (if Rows.maintOnlyRow.domain.isEmpty then [] else Tryz.f7.params.toList.map fun t => match Tryz.pinned.checked.prog.underlying t with | some (.int k) => some k | _ => none))) = true := by kernel_rfl
theorem maintOnly_k29 : ((Rows.maintOnlyRow.pinned == Rows.maintOnlyRow.pinnedBy)) = true := by kernel_rfl
theorem maintOnly_k30 : ((Rows.maintOnlyRow.veiled == (Tryz.f7.params.toList ++ (OpenSpec.ofChange Rows.maintOnlySpec).bare.plain.varTypes Tryz.pinned.checked.prog ++ Tryz.f7.resultTypes.toList).any (Tryz.pinned.checked.prog.veiledRec ·))) = true := by kernel_rfl
theorem maintOnly_k31 : (Rows.maintOnlyRow.veiledFits Tryz.pinned.checked.prog Tryz.f7.params.toList (Tryz.f7.params.toList ++ (OpenSpec.ofChange Rows.maintOnlySpec).bare.plain.varTypes Tryz.pinned.checked.prog ++ Tryz.f7.resultTypes.toList)) = true := by kernel_rfl
set_option maxRecDepth 100000 in
theorem maintOnly_facts : joinedFacts Tryz.pinned.checked.prog 7 Tryz.f7 (OpenSpec.ofChange Rows.maintOnlySpec).bare Rows.maintOnlyRow = true := by
  unfold joinedFacts
  simp only [Bool.and_eq_true]
  exact ⟨⟨⟨⟨⟨⟨⟨⟨⟨⟨⟨⟨⟨⟨⟨⟨⟨⟨⟨⟨⟨⟨⟨⟨⟨⟨⟨⟨⟨⟨⟨maintOnly_k0, maintOnly_k1⟩, maintOnly_k2⟩, maintOnly_k3⟩, maintOnly_k4⟩, maintOnly_k5⟩, maintOnly_k6⟩, maintOnly_k7⟩, maintOnly_k8⟩, maintOnly_k9⟩, maintOnly_k10⟩, maintOnly_k11⟩, maintOnly_k12⟩, maintOnly_k13⟩, maintOnly_k14⟩, maintOnly_k15⟩, maintOnly_k16⟩, maintOnly_k17⟩, maintOnly_k18⟩, maintOnly_k19⟩, maintOnly_k20⟩, maintOnly_k21⟩, maintOnly_k22⟩, maintOnly_k23⟩, maintOnly_k24⟩, maintOnly_k25⟩, maintOnly_k26⟩, maintOnly_k27⟩, maintOnly_k28⟩, maintOnly_k29⟩, maintOnly_k30⟩, maintOnly_k31⟩
end Go.Proofs.YtnbnkhockoflgaaGreatDoor
