/- MaintMore: the row and the card. -/
import Derived.Test.YtnbnkhockoflgaaGreatDoorP5
import Derived.Test.YtnbnkhockoflgaaGreatDoorQ1
import Derived.Test.YtnbnkhockoflgaaGreatDoorO0
import Derived.Test.YtnbnkhockoflgaaGreatDoorJ32
import Derived.Lib.SmallJoins
import Derived.Deep.Fields
set_option linter.unusedSimpArgs false
set_option linter.unusedVariables false
set_option linter.unusedSectionVars false
namespace Go.Proofs.YtnbnkhockoflgaaGreatDoor
open Go.ChangeShapes Go.WideShapes Go.ChangeAt Go.RowKit
open Go.ChangeMaps (open_string)

open Go.Deep in
set_option maxRecDepth 100000 in
theorem open_rep {H : Type} {enc : TypeId × Value → H} {W : World} {r : Reach} {b0 : Nat} {v : Value} {d : DataW H} {p : List MemPlace} (hok : Value.okWide Tryz.prog W r b0 46 v) (h : DataW.Trod enc Tryz.prog W 0 (fun _ => true) true 46 v d p) :
    ∃ x : Rep, v = x.val ∧ x.ok := by
  obtain ⟨f0, f1, hs, ht0, ht1⟩ : ∃ f0 f1 : Field, Tryz.prog.underlying 46 = some (.struct #[f0, f1]) ∧ f0.type = 9 ∧ f1.type = 3 := ⟨_, _, Tryz.underlying46, rfl, rfl⟩
  have hone : oneCellFields Tryz.prog #[f0, f1] = true := by
    have e : oneCellFields Tryz.prog (Tryz.prog.fieldsOf 46) = true := by kernel_rfl
    have e2 : Tryz.prog.fieldsOf 46 = #[f0, f1] := by simp [Program.fieldsOf, hs]
    rw [e2] at e; exact e
  obtain ⟨v0, v1, y0, y1, n, rfl, _, _, g0, g1⟩ := Joins.open_agg2 hs hone (by kernel_rfl) hok h
  rw [ht0] at g0
  rw [ht1] at g1
  obtain ⟨a, e0, _, k0⟩ := DataW.trod_string Tryz.underlying9 g0
  obtain ⟨b, e1, _, k1⟩ := DataW.trod_int Tryz.underlying3 g1
  injection e0 with e0
  injection e1 with e1
  subst e0 e1
  exact ⟨⟨a, b⟩, rfl, k0, k1⟩

set_option maxRecDepth 100000 in
theorem maintMore_door (os : Os) (args : Array Value) : laidMet Tryz.prog Rows.maintMoreRow.laid ((World.doorLaid Tryz.prog 400 os).forCall (fun _ _ => 0) ⟨#[], args, []⟩).memory := by
  have e : Rows.maintMoreRow.laid = Rows.maintNoneRow.laid := rfl
  rw [e]
  exact door_met os args
set_option maxRecDepth 100000 in
theorem maintMore_row (os : Os) {H : Type} (enc : TypeId × Value → H) :
    (OpenSpec.ofChange Rows.maintMoreSpec).preRow enc Tryz.prog Tryz.f5 Rows.maintMoreRow.domain false Rows.maintMoreRow.laid ((World.doorLaid Tryz.prog 400 os).forCall (fun _ _ => 0) ⟨#[], #[.slice none 0 0, .slice none 0 0, .agg #[.string ⟨#[]⟩, .int .i64 0]], []⟩).memory #[.slice none 0 0, .slice none 0 0, .agg #[.string ⟨#[]⟩, .int .i64 0]] := by
  have hw : (DataW.whole enc Tryz.prog ((World.doorLaid Tryz.prog 400 os).forCall (fun _ _ => 0) ⟨#[], #[.slice none 0 0, .slice none 0 0, .agg #[.string ⟨#[]⟩, .int .i64 0]], []⟩).memory Tryz.f5.params.toList Rows.maintMoreSpec.vars false (#[.slice none 0 0, .slice none 0 0, .agg #[.string ⟨#[]⟩, .int .i64 0]] : Array Value).toList 8).map (fun x => (x.1, x.2.1)) =
      some ([.nil, .nil, .agg [.lit (.string []), .lit (.int .i64 0)]], []) := by kernel_rfl
  obtain ⟨⟨x1, x2, x3⟩, hx, hx1⟩ := Option.map_eq_some_iff.1 hw
  simp only [Prod.mk.injEq] at hx1
  obtain ⟨rfl, rfl⟩ := hx1
  exact OpenSpec.preRow_of_cond 8 hx (by kernel_rfl) (fun k hk => by cases hk) (by kernel_rfl) (maintMore_door os _)

set_option maxRecDepth 100000 in
theorem maintMore_lifted (os : Os) (started : os.Started) (H : Type) (enc : TypeId × Value → H) (F : Stop.Interp) :
    ReturnsInHanded {} Tryz.checked os 5 .any ((OpenSpec.ofChange Rows.maintMoreSpec).preRow enc Tryz.prog Tryz.f5 Rows.maintMoreRow.domain false Rows.maintMoreRow.laid) (((OpenSpec.ofChange Rows.maintMoreSpec).at F).post enc Tryz.prog Tryz.f5 false true false false) := by
  refine returnsInHanded_of_row (C := Tryz.checked) (s := OpenSpec.ofChange Rows.maintMoreSpec) own started (by kernel_rfl) Tryz.func5
    (witness_row_atRef (enc := enc) (C := Tryz.checked) false (World.doorLaid Tryz.prog 400 os) #[.slice none 0 0, .slice none 0 0, .agg #[.string ⟨#[]⟩, .int .i64 0]] rfl (by kernel_rfl) (by kernel_rfl) (by kernel_rfl) (maintMore_row os enc)) ?_
  intro W base args ds gs before hval0 hW _ _ hsz0 hL _ _
  have hval : ∀ (j : Nat) t v, Tryz.f5.params[j]? = some t → args[j]? = some v → Value.okWide Tryz.prog W .any base t v := hval0
  have hW' := hW
  obtain ⟨p, q, hA0, hV, rfl, hfz, hnd⟩ := hW
  have hA : DataW.TrodAll enc Tryz.prog W 0 (fun _ => true) true Tryz.f5.params.toList args.toList ds p := hA0
  rw [Tryz.params5] at hA hval
  obtain ⟨v0, vs0, d0, ds0, p0, q0, hargs, rfl, rfl, h0, r0⟩ := trodAll_cons hA
  obtain ⟨v1, vs1, d1, ds1, p1, q1, rfl, rfl, rfl, h1, r1⟩ := trodAll_cons r0
  obtain ⟨v2, vs2, d2, ds2, p2, q2, rfl, rfl, rfl, h2, r2⟩ := trodAll_cons r1
  obtain ⟨rfl, rfl, rfl⟩ := trodAll_nil r2
  obtain rfl : args = #[v0, v1, v2] := by cases args; simp_all
  have hsz := hsz0
  rw [Tryz.params5] at hsz
  obtain ⟨A0, c0, L0, rfl, hlc0, hcm0, hr0, hok0, hl0⟩ := arg_css (hval 0 22 v0 rfl rfl) h0 (fun n hn => by simpa using List.all_eq_true.1 hsz n (DataW.weights_mem_each (j := 0) (t := 22) rfl rfl n hn))
  obtain ⟨A1, c1, L1, rfl, hlc1, hcm1, hr1, hok1, hl1⟩ := arg_reps (hval 1 31 v1 rfl rfl) h1 (fun n hn => by simpa using List.all_eq_true.1 hsz n (DataW.weights_mem_each (j := 1) (t := 31) rfl rfl n hn))
  obtain ⟨x2, rfl, hx2⟩ := open_rep (hval 2 46 v2 rfl rfl) h2
  clear hA0 hval0
  refine (maintMore_c L0 L1 x2 A0 c0 A1 c1 W hr0 hok0 hl0 hr1 hok1 hl1 hx2).mono fun e W' ⟨he, hg⟩ => ?_
  subst he
  refine ⟨_, rfl, law_post (tb := 4) laid ?_ ?_ Tryz.underlying4 rfl hW' ⟨rfl, rfl, rfl⟩ hg⟩
  · rw [Tryz.params5]; intro t ht; simp at ht; rcases ht with rfl | rfl | rfl <;> exact ⟨by kernel_rfl, of_decide_eq_true (by kernel_rfl)⟩
  · kernel_rfl

theorem maintMore_said : Rows.MaintMoreSaid :=
  OpenClaim.holds_of_cond 5 Tryz.f5 rfl rfl rfl rfl rfl rfl rfl ⟨rfl, rfl, rfl, rfl, rfl⟩ rfl rfl rfl rfl rfl (by kernel_rfl) Tryz.func5 maintMore_facts
    (of_decide_eq_true (by kernel_rfl)) (by unfold Func.isWrapper; first | (rw [if_pos (by decide +kernel)]; kernel_rfl) | (rw [if_neg (by decide +kernel)]; exact ⟨rfl, rfl⟩))
    (fun os started H enc _ F => by rw [OpenClaim.pre_eq_preRow]; exact maintMore_lifted os started H enc F)
theorem maintMore_plain (f : FuncId) (fn : Func) (hf : Tryz.pinned.checked.prog.funcNamed "nacelle/nacellelaw40.MaintMore" = some f) (hfn : Tryz.pinned.checked.prog.funcs[f]? = some fn) :
    true = Tryz.pinned.checked.prog.looks [] ∧ ∀ (j : Nat) t, fn.params[j]? = some t → Tryz.pinned.checked.prog.wantsStandIn t = false := by
  obtain rfl : f = 5 := Option.some.inj ((show Tryz.prog.funcNamed "nacelle/nacellelaw40.MaintMore" = some 5 by kernel_rfl).symm.trans hf) |>.symm
  obtain rfl : fn = Tryz.f5 := (Option.some.inj (Tryz.func5.symm.trans hfn)).symm
  refine ⟨by kernel_rfl, fun j t ht => ?_⟩
  rw [Tryz.params5] at ht
  have ht := Array.mem_of_getElem? ht
  simp at ht
  rcases ht with rfl | rfl | rfl
  · exact (show Tryz.prog.wantsStandIn 22 = false by kernel_rfl)
  · exact (show Tryz.prog.wantsStandIn 31 = false by kernel_rfl)
  · exact (show Tryz.prog.wantsStandIn 46 = false by kernel_rfl)
theorem maintMore_card : Rows.MaintMoreCardSaid :=
  Claim7.holds_tied_plain_at .later [] _ _ _ _ maintMore_said (fun _ h => by cases h) (by kernel_rfl) (fun _ h => by cases h) maintMore_row_tie rfl ⟨rfl, rfl⟩ (by kernel_rfl) rfl maintMore_plain (by kernel_rfl)
#print axioms maintMore_card
end Go.Proofs.YtnbnkhockoflgaaGreatDoor
