import Derived.Test.YtchfcgilpjkmhaaGreatDoorY44
set_option maxRecDepth 100000
set_option linter.unusedSimpArgs false
set_option linter.unusedVariables false
set_option linter.unusedSectionVars false
namespace Go.Proofs.YtchfcgilpjkmhaaGreatDoor
open Go.ChangeShapes Go.WideShapes Go.ChangeAt Go.RowKit
theorem maintClears_k0:(Rows.maintClearsRow.wf (OpenSpec.ofChange (OpenSpec.ofChange Rows.maintClearsSpec).bare))=true:=by kernel_rfl
theorem maintClears_k1:(laidOutB Tryz.pinned.checked.prog)=true:=by kernel_rfl
theorem maintClears_k2:(mapsRowed Tryz.pinned.checked.prog)=true:=by kernel_rfl
theorem maintClears_k3:(Tryz.f3.params.all (Tryz.pinned.checked.prog.readableRec ·))=true:=by kernel_rfl
theorem maintClears_k4:(namedTie Tryz.pinned.checked.prog Rows.maintClearsRow.named (OpenSpec.ofChange Rows.maintClearsSpec).bare.vars)=true:=by kernel_rfl
theorem maintClears_k5:((Rows.maintClearsRow.stops== []))=true:=by kernel_rfl
theorem maintClears_k6:((Tryz.pinned.checked.prog.stops== []))=true:=by kernel_rfl
theorem maintClears_k7:((Rows.maintClearsRow.knobs== []))=true:=by kernel_rfl
theorem maintClears_k8:((Tryz.pinned.checked.prog.stopKnobs== []))=true:=by kernel_rfl
theorem maintClears_k9:((Rows.maintClearsRow.inPlace==Tryz.pinned.checked.prog.inPlace 3))=true:=by kernel_rfl
theorem maintClears_k10:((Rows.maintClearsRow.unfollowed==Tryz.pinned.checked.prog.unfollowed 3))=true:=by kernel_rfl
theorem maintClears_k11:((Rows.maintClearsRow.recurses==Tryz.pinned.checked.prog.recurses 3))=true:=by kernel_rfl
theorem maintClears_k12:((Rows.maintClearsRow.named==Tryz.pinned.checked.prog.varsNamed 3))=true:=by kernel_rfl
theorem maintClears_k13:((Rows.maintClearsRow.maps==(Tryz.f3.params.toList++(OpenSpec.ofChange Rows.maintClearsSpec).bare.plain.varTypes Tryz.pinned.checked.prog).any (Tryz.pinned.checked.prog.mapsRec ·)))=true:=by kernel_rfl
theorem maintClears_k14:((Rows.maintClearsRow.ifaces==(Tryz.f3.params.toList++(OpenSpec.ofChange Rows.maintClearsSpec).bare.plain.varTypes Tryz.pinned.checked.prog).any (Tryz.pinned.checked.prog.ifacesRec ·)))=true:=by kernel_rfl
theorem maintClears_k15:((Rows.maintClearsRow.mapsOut==Tryz.pinned.checked.prog.mapsAmong Tryz.f3.resultTypes.toList))=true:=by kernel_rfl
theorem maintClears_k16:((Rows.maintClearsRow.loops==(Tryz.f3.params.toList++(OpenSpec.ofChange Rows.maintClearsSpec).bare.plain.varTypes Tryz.pinned.checked.prog).any (Tryz.pinned.checked.prog.loopsFrom ·)))=true:=by kernel_rfl
theorem maintClears_k17:((Rows.maintClearsRow.wideKeys==(Tryz.f3.params.toList++(OpenSpec.ofChange Rows.maintClearsSpec).bare.plain.varTypes Tryz.pinned.checked.prog++Tryz.f3.resultTypes.toList).any (Tryz.pinned.checked.prog.wideKeysFrom ·)))=true:=by kernel_rfl
theorem maintClears_k18:((OpenSpec.ofChange Rows.maintClearsSpec).bare.vars.all (Tryz.pinned.checked.prog.varReadable ·))=true:=by kernel_rfl
theorem maintClears_k19:(Tryz.f3.resultTypes.all (fun t=>Tryz.pinned.checked.prog.readableRec t&&decide (t<Tryz.pinned.checked.prog.types.size)))=true:=by kernel_rfl
theorem maintClears_k20:((Rows.maintClearsRow.ifacesOut==Tryz.f3.resultTypes.toList.any (Tryz.pinned.checked.prog.ifacesRec ·)))=true:=by kernel_rfl
theorem maintClears_k21:((Rows.maintClearsRow.loopsOut==Tryz.f3.resultTypes.toList.any (Tryz.pinned.checked.prog.loopsFrom ·)))=true:=by kernel_rfl
theorem maintClears_k22:((Rows.maintClearsRow.plainKeys==Tryz.pinned.checked.prog.plainKeys))=true:=by kernel_rfl
theorem maintClears_k23:(Rows.maintClearsRow.shortTexts.isNone)=true:=by kernel_rfl
theorem maintClears_k24:(Tryz.pinned.checked.prog.stopsHeard)=true:=by kernel_rfl
theorem maintClears_k25:(Tryz.pinned.checked.prog.mayEnter)=true:=by kernel_rfl
theorem maintClears_k26:((Rows.maintClearsRow.lifted==Tryz.pinned.checked.prog.liftsFinal))=true:=by kernel_rfl
theorem maintClears_k27:((Tryz.pinned.checked.prog.make==some Rows.maintClearsRow.make))=true:=by kernel_rfl
theorem maintClears_k28:((Rows.maintClearsRow.kinds==(if Rows.maintClearsRow.domain.isEmpty then[]else Tryz.f3.params.toList.map fun t=>match Tryz.pinned.checked.prog.underlying t with | some (.int k)=>some k | _=>none)))=true:=by kernel_rfl
theorem maintClears_k29:((Rows.maintClearsRow.pinned==Rows.maintClearsRow.pinnedBy))=true:=by kernel_rfl
theorem maintClears_k30:((Rows.maintClearsRow.veiled==(Tryz.f3.params.toList++(OpenSpec.ofChange Rows.maintClearsSpec).bare.plain.varTypes Tryz.pinned.checked.prog++Tryz.f3.resultTypes.toList).any (Tryz.pinned.checked.prog.veiledRec ·)))=true:=by kernel_rfl
theorem maintClears_k31:(Rows.maintClearsRow.veiledFits Tryz.pinned.checked.prog Tryz.f3.params.toList (Tryz.f3.params.toList++(OpenSpec.ofChange Rows.maintClearsSpec).bare.plain.varTypes Tryz.pinned.checked.prog++Tryz.f3.resultTypes.toList))=true:=by kernel_rfl
theorem maintClears_facts:joinedFacts Tryz.pinned.checked.prog 3 Tryz.f3 (OpenSpec.ofChange Rows.maintClearsSpec).bare Rows.maintClearsRow=true:=by
 unfold joinedFacts;simp only[Bool.and_eq_true];exact⟨⟨⟨⟨⟨⟨⟨⟨⟨⟨⟨⟨⟨⟨⟨⟨⟨⟨⟨⟨⟨⟨⟨⟨⟨⟨⟨⟨⟨⟨⟨maintClears_k0,maintClears_k1⟩,maintClears_k2⟩,maintClears_k3⟩,maintClears_k4⟩,maintClears_k5⟩,maintClears_k6⟩,maintClears_k7⟩,maintClears_k8⟩,maintClears_k9⟩,maintClears_k10⟩,maintClears_k11⟩,maintClears_k12⟩,maintClears_k13⟩,maintClears_k14⟩,maintClears_k15⟩,maintClears_k16⟩,maintClears_k17⟩,maintClears_k18⟩,maintClears_k19⟩,maintClears_k20⟩,maintClears_k21⟩,maintClears_k22⟩,maintClears_k23⟩,maintClears_k24⟩,maintClears_k25⟩,maintClears_k26⟩,maintClears_k27⟩,maintClears_k28⟩,maintClears_k29⟩,maintClears_k30⟩,maintClears_k31⟩
end Go.Proofs.YtchfcgilpjkmhaaGreatDoor
