/- MaintNone: the row and the card. -/
import Derived.Test.YtnbnkhockoflgaaGreatDoorN0
import Derived.Test.YtnbnkhockoflgaaGreatDoorN3
import Derived.Lib.SmallJoins
import Derived.Deep.Fields
set_option linter.unusedSimpArgs false
set_option linter.unusedVariables false
set_option linter.unusedSectionVars false
namespace Go.Proofs.YtnbnkhockoflgaaGreatDoor
open Go.ChangeShapes Go.WideShapes Go.ChangeAt Go.RowKit
open Go.ChangeMaps (open_string)

open Go.Deep in
set_option maxRecDepth 100000 in
theorem open_rep {H : Type} {enc : TypeId × Value → H} {W : World} {r : Reach} {b0 : Nat} {v : Value} {d : DataW H} {p : List MemPlace} (hok : Value.okWide Tryz.prog W r b0 46 v) (h : DataW.Trod enc Tryz.prog W 0 (fun _ => true) true 46 v d p) :
    ∃ x : Rep, v = x.val ∧ x.ok := by
  obtain ⟨f0, f1, hs, ht0, ht1⟩ : ∃ f0 f1 : Field, Tryz.prog.underlying 46 = some (.struct #[f0, f1]) ∧ f0.type = 9 ∧ f1.type = 3 := ⟨_, _, Tryz.underlying46, rfl, rfl⟩
  have hone : oneCellFields Tryz.prog #[f0, f1] = true := by
    have e : oneCellFields Tryz.prog (Tryz.prog.fieldsOf 46) = true := by kernel_rfl
    have e2 : Tryz.prog.fieldsOf 46 = #[f0, f1] := by simp [Program.fieldsOf, hs]
    rw [e2] at e; exact e
  obtain ⟨v0, v1, y0, y1, n, rfl, _, _, g0, g1⟩ := Joins.open_agg2 hs hone (by kernel_rfl) hok h
  rw [ht0] at g0
  rw [ht1] at g1
  obtain ⟨a, e0, _, k0⟩ := DataW.trod_string Tryz.underlying9 g0
  obtain ⟨b, e1, _, k1⟩ := DataW.trod_int Tryz.underlying3 g1
  injection e0 with e0
  injection e1 with e1
  subst e0 e1
  exact ⟨⟨a, b⟩, rfl, k0, k1⟩

set_option maxRecDepth 100000 in
theorem maintNone_row (os : Os) {H : Type} (enc : TypeId × Value → H) :
    (OpenSpec.ofChange Rows.maintNoneSpec).preRow enc Tryz.prog Tryz.f6 Rows.maintNoneRow.domain false Rows.maintNoneRow.laid ((World.doorLaid Tryz.prog 400 os).forCall (fun _ _ => 0) ⟨#[], #[.agg #[.string ⟨#[]⟩, .int .i64 0], .string ⟨#[]⟩], []⟩).memory #[.agg #[.string ⟨#[]⟩, .int .i64 0], .string ⟨#[]⟩] := by
  have hw : (DataW.whole enc Tryz.prog ((World.doorLaid Tryz.prog 400 os).forCall (fun _ _ => 0) ⟨#[], #[.agg #[.string ⟨#[]⟩, .int .i64 0], .string ⟨#[]⟩], []⟩).memory Tryz.f6.params.toList Rows.maintNoneSpec.vars false #[Value.agg #[.string ⟨#[]⟩, .int .i64 0], .string ⟨#[]⟩].toList 8).map (fun x => (x.1, x.2.1)) =
      some ([.agg [.lit (.string []), .lit (.int .i64 0)], .lit (.string [])], []) := by kernel_rfl
  obtain ⟨⟨x1, x2, x3⟩, hx, hx1⟩ := Option.map_eq_some_iff.1 hw
  simp only [Prod.mk.injEq] at hx1
  obtain ⟨rfl, rfl⟩ := hx1
  exact OpenSpec.preRow_of_cond 8 hx (by kernel_rfl) (fun k hk => by cases hk) (by kernel_rfl) (door_met os _)

set_option maxRecDepth 100000 in
theorem maintNone_lifted (os : Os) (started : os.Started) (H : Type) (enc : TypeId × Value → H) (F : Stop.Interp) :
    ReturnsInHanded {} Tryz.checked os 6 .any ((OpenSpec.ofChange Rows.maintNoneSpec).preRow enc Tryz.prog Tryz.f6 Rows.maintNoneRow.domain false Rows.maintNoneRow.laid) (((OpenSpec.ofChange Rows.maintNoneSpec).at F).post enc Tryz.prog Tryz.f6 false true false false) := by
  refine returnsInHanded_of_row (C := Tryz.checked) (s := OpenSpec.ofChange Rows.maintNoneSpec) own started (by kernel_rfl) Tryz.func6
    (witness_row_atRef (enc := enc) (C := Tryz.checked) false (World.doorLaid Tryz.prog 400 os) #[.agg #[.string ⟨#[]⟩, .int .i64 0], .string ⟨#[]⟩] rfl (by kernel_rfl) (by kernel_rfl) (by kernel_rfl) (maintNone_row os enc)) ?_
  intro W base args ds gs before hval0 hW _ _ _ hL _ _
  have hval : ∀ (j : Nat) t v, Tryz.f6.params[j]? = some t → args[j]? = some v → Value.okWide Tryz.prog W .any base t v := hval0
  have hW' := hW
  obtain ⟨p, q, hA0, hV, rfl, hfz, hnd⟩ := hW
  have hA : DataW.TrodAll enc Tryz.prog W 0 (fun _ => true) true Tryz.f6.params.toList args.toList ds p := hA0
  rw [Tryz.params6] at hA hval
  obtain ⟨v0, vs0, d0, ds0, p0, q0, hargs, rfl, rfl, h0, r0⟩ := trodAll_cons hA
  obtain ⟨v1, vs1, d1, ds1, p1, q1, rfl, rfl, rfl, h1, r1⟩ := trodAll_cons r0
  obtain ⟨rfl, rfl, rfl⟩ := trodAll_nil r1
  obtain rfl : args = #[v0, v1] := by cases args; simp_all
  obtain ⟨x, rfl, hx⟩ := open_rep (hval 0 46 v0 rfl rfl) h0
  obtain ⟨u, rfl, rfl, rfl, hu⟩ := open_string Tryz.underlying9 (hval 1 9 v1 rfl rfl) h1
  clear hA0 hval0
  refine (maintNone_c x u W).mono fun e W' ⟨he, hg⟩ => ?_
  subst he
  refine ⟨_, rfl, law_post (tb := 4) laid ?_ ?_ Tryz.underlying4 rfl hW' ⟨rfl, rfl, rfl⟩ hg⟩
  · rw [Tryz.params6]; intro t ht; simp at ht; rcases ht with rfl | rfl <;> exact ⟨by kernel_rfl, of_decide_eq_true (by kernel_rfl)⟩
  · kernel_rfl

theorem maintNone_said : Rows.MaintNoneSaid :=
  OpenClaim.holds_of_cond 6 Tryz.f6 rfl rfl rfl rfl rfl rfl rfl ⟨rfl, rfl, rfl, rfl, rfl⟩ rfl rfl rfl rfl rfl (by kernel_rfl) Tryz.func6 maintNone_facts
    (of_decide_eq_true (by kernel_rfl)) (by unfold Func.isWrapper; first | (rw [if_pos (by decide +kernel)]; kernel_rfl) | (rw [if_neg (by decide +kernel)]; exact ⟨rfl, rfl⟩))
    (fun os started H enc _ F => by rw [OpenClaim.pre_eq_preRow]; exact maintNone_lifted os started H enc F)
theorem maintNone_plain (f : FuncId) (fn : Func) (hf : Tryz.pinned.checked.prog.funcNamed "nacelle/nacellelaw40.MaintNone" = some f) (hfn : Tryz.pinned.checked.prog.funcs[f]? = some fn) :
    true = Tryz.pinned.checked.prog.looks [] ∧ ∀ (j : Nat) t, fn.params[j]? = some t → Tryz.pinned.checked.prog.wantsStandIn t = false := by
  obtain rfl : f = 6 := Option.some.inj ((show Tryz.prog.funcNamed "nacelle/nacellelaw40.MaintNone" = some 6 by kernel_rfl).symm.trans hf) |>.symm
  obtain rfl : fn = Tryz.f6 := (Option.some.inj (Tryz.func6.symm.trans hfn)).symm
  refine ⟨by kernel_rfl, fun j t ht => ?_⟩
  rw [Tryz.params6] at ht
  have ht := Array.mem_of_getElem? ht
  simp at ht
  rcases ht with rfl | rfl
  · exact (show Tryz.prog.wantsStandIn 46 = false by kernel_rfl)
  · exact (show Tryz.prog.wantsStandIn 9 = false by kernel_rfl)
theorem maintNone_card : Rows.MaintNoneCardSaid :=
  Claim7.holds_tied_plain_at .later [] _ _ _ _ maintNone_said (fun _ h => by cases h) (by kernel_rfl) (fun _ h => by cases h) maintNone_row_tie rfl ⟨rfl, rfl⟩ (by kernel_rfl) rfl maintNone_plain (by kernel_rfl)
#print axioms maintNone_card
end Go.Proofs.YtnbnkhockoflgaaGreatDoor
