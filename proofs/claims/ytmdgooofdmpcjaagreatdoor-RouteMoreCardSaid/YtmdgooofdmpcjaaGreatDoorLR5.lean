import Derived.Test.YtmdgooofdmpcjaaGreatDoorCards
import Derived.Test.YtmdgooofdmpcjaaGreatDoorTie
import Derived.ProofKit
import Derived.OpenShut
import Derived.LaidMore
import Derived.Deep.DeepHandedRow
import Derived.Deep.DeepWitnessRowRef
import Derived.Lib.SmallJoins
import Derived.Deep.Fields
import Derived.Test.YtmdgooofdmpcjaaGreatDoorY22
import Derived.Test.YtmdgooofdmpcjaaGreatDoorY23
import Derived.Test.YtmdgooofdmpcjaaGreatDoorY0
import Derived.Test.YtmdgooofdmpcjaaGreatDoorY24
import Derived.Test.YtmdgooofdmpcjaaGreatDoorY25
set_option linter.unusedSimpArgs false
set_option linter.unusedVariables false
set_option linter.unusedSectionVars false
open Go.Proofs.Tryz renaming prog → pG
namespace Go.Proofs.YtmdgooofdmpcjaaGreatDoor
open Go.ChangeShapes Go.WideShapes Go.ChangeAt Go.RowKit
/- RouteMore: the row and the card. Printed by wip/gen/row14.py. -/
open Go.ChangeMaps (open_string)

set_option maxRecDepth 100000 in
theorem arg_link {H : Type} {enc : TypeId × Value → H} {W : World} {r : Reach} {b0 : Nat} {v : Value} {d : DataW H} {p : List MemPlace} (hw : Value.okWide pG W r b0 46 v) (h : DataW.Trod enc pG W 0 (fun _ => true) true 46 v d p) (hz : ∀ n ∈ d.weights pG 46, n ≤ reachBytes) : ∃ x : aO, v = x.val := by
  obtain ⟨cs, rfl, hsz⟩ := okWide_struct Tryz.underlying46 hw
  obtain ⟨n, h⟩ := h
  obtain ⟨x, e, -⟩ := aCo (⟨_, h, hz⟩ : Tr enc pG W n 46 _)
  refine ⟨x, ?_⟩
  obtain ⟨l⟩ := cs
  have e2 : l = _ := e
  subst e2
  rfl
set_option maxRecDepth 100000 in
theorem routeMore_row (os : Os) {H : Type} (enc : TypeId × Value → H) :
    (OpenSpec.ofChange Rows.routeMoreSpec).preRow enc pG Tryz.f5 Rows.routeMoreRow.domain false Rows.routeMoreRow.laid ((World.doorLaid pG 400 os).forCall (fun _ _ => 0) ⟨#[], #[.agg #[.slice none 0 0, .slice none 0 0, .slice none 0 0, .slice none 0 0, .slice none 0 0, .slice none 0 0, .slice none 0 0, .slice none 0 0], .int .i64 0, .int .i64 0, .agg #[.string ⟨#[]⟩, .string ⟨#[]⟩, .int .i64 0, .int .i64 0], .int .u8 0], []⟩).memory #[.agg #[.slice none 0 0, .slice none 0 0, .slice none 0 0, .slice none 0 0, .slice none 0 0, .slice none 0 0, .slice none 0 0, .slice none 0 0], .int .i64 0, .int .i64 0, .agg #[.string ⟨#[]⟩, .string ⟨#[]⟩, .int .i64 0, .int .i64 0], .int .u8 0] := by
  have hw : (DataW.whole enc pG ((World.doorLaid pG 400 os).forCall (fun _ _ => 0) ⟨#[], #[.agg #[.slice none 0 0, .slice none 0 0, .slice none 0 0, .slice none 0 0, .slice none 0 0, .slice none 0 0, .slice none 0 0, .slice none 0 0], .int .i64 0, .int .i64 0, .agg #[.string ⟨#[]⟩, .string ⟨#[]⟩, .int .i64 0, .int .i64 0], .int .u8 0], []⟩).memory Tryz.f5.params.toList Rows.routeMoreSpec.vars false (#[.agg #[.slice none 0 0, .slice none 0 0, .slice none 0 0, .slice none 0 0, .slice none 0 0, .slice none 0 0, .slice none 0 0, .slice none 0 0], .int .i64 0, .int .i64 0, .agg #[.string ⟨#[]⟩, .string ⟨#[]⟩, .int .i64 0, .int .i64 0], .int .u8 0] : Array Value).toList 8).map (fun x => (x.1, x.2.1)) =
      some ([.agg [.nil, .nil, .nil, .nil, .nil, .nil, .nil, .nil], .lit (.int .i64 0), .lit (.int .i64 0), .agg [.lit (.string []), .lit (.string []), .lit (.int .i64 0), .lit (.int .i64 0)], .lit (.int .u8 0)], []) := by kernel_rfl
  obtain ⟨⟨x1, x2, x3⟩, hx, Dg⟩ := Option.map_eq_some_iff.1 hw
  simp only [Prod.mk.injEq] at Dg
  obtain ⟨rfl, rfl⟩ := Dg
  exact OpenSpec.preRow_of_cond 8 hx (by kernel_rfl) (fun k hk => by cases hk) (by kernel_rfl) (routeMore_door os _)
set_option maxRecDepth 100000 in
theorem routeMore_lifted (os : Os) (started : os.Started) (H : Type) (enc : TypeId × Value → H) (F : Stop.Interp) :
    ReturnsInHanded {} Tryz.checked os 5 .any ((OpenSpec.ofChange Rows.routeMoreSpec).preRow enc pG Tryz.f5 Rows.routeMoreRow.domain false Rows.routeMoreRow.laid) (((OpenSpec.ofChange Rows.routeMoreSpec).at F).post enc pG Tryz.f5 false true false false) := by
  refine returnsInHanded_of_row (C := Tryz.checked) (s := OpenSpec.ofChange Rows.routeMoreSpec) own started (by kernel_rfl) Tryz.func5
    (witness_row_atRef (enc := enc) (C := Tryz.checked) false (World.doorLaid pG 400 os) #[.agg #[.slice none 0 0, .slice none 0 0, .slice none 0 0, .slice none 0 0, .slice none 0 0, .slice none 0 0, .slice none 0 0, .slice none 0 0], .int .i64 0, .int .i64 0, .agg #[.string ⟨#[]⟩, .string ⟨#[]⟩, .int .i64 0, .int .i64 0], .int .u8 0] rfl (by kernel_rfl) (by kernel_rfl) (by kernel_rfl) (routeMore_row os enc)) ?_
  intro W base args ds gs before hval0 hW _ _ BQ hL hsh _
  have hval : ∀ (j : Nat) t v, Tryz.f5.params[j]? = some t → args[j]? = some v → Value.okWide pG W .any base t v := hval0
  have hW' := hW
  obtain ⟨p, q, hA0, hV, rfl, hfz, hnd⟩ := hW
  have hA : DataW.TrodAll enc pG W 0 (fun _ => true) true Tryz.f5.params.toList args.toList ds p := hA0
  rw [Tryz.params5] at hA hval
  obtain ⟨v0, vs0, d0, ds0, p0, q0, Mt, rfl, rfl, h0, r0⟩ := trodAll_cons hA
  obtain ⟨v1, vs1, d1, ds1, p1, q1, rfl, rfl, rfl, h1, r1⟩ := trodAll_cons r0
  obtain ⟨v2, vs2, d2, ds2, p2, q2, rfl, rfl, rfl, h2, r2⟩ := trodAll_cons r1
  obtain ⟨v3, vs3, d3, ds3, p3, q3, rfl, rfl, rfl, h3, r3⟩ := trodAll_cons r2
  obtain ⟨v4, vs4, d4, ds4, p4, q4, rfl, rfl, rfl, h4, r4⟩ := trodAll_cons r3
  obtain ⟨rfl, rfl, rfl⟩ := trodAll_nil r4
  obtain rfl : args = #[v0, v1, v2, v3, v4] := by cases args; simp_all
  have hsz := BQ
  rw [Tryz.params5] at hsz
  obtain ⟨x, rfl, AA, hxc⟩ := JN (hval 0 31 v0 rfl rfl) h0 (fun n hn => by simpa using List.all_eq_true.1 hsz n (DataW.weights_mem_each (j := 0) (t := 31) rfl rfl n hn))
  obtain ⟨a1, rfl, rfl, rfl, w1⟩ := open_int Tryz.underlying3 (hval 1 3 v1 rfl rfl) h1
  obtain ⟨a2, rfl, rfl, rfl, w2⟩ := open_int Tryz.underlying3 (hval 2 3 v2 rfl rfl) h2
  obtain ⟨a3, rfl⟩ := arg_link (hval 3 46 v3 rfl rfl) h3 (fun n hn => by simpa using List.all_eq_true.1 hsz n (DataW.weights_mem_each (j := 3) (t := 46) rfl rfl n hn))
  obtain ⟨a4, rfl, rfl, rfl, w4⟩ := open_int Tryz.underlying5 (hval 4 5 v4 rfl rfl) h4
  clear hA0 hval0
  refine (more_c x a1 a2 a3 a4 W AA (Dh hL hsh) (fun r hr => (hxc r hr).2) (Io w4)).mono fun e W' ⟨he, hg⟩ => ?_
  subst he
  refine ⟨_, rfl, Di (tb := 4) laid ?_ ?_ Tryz.underlying4 rfl hW' ⟨rfl, rfl, rfl⟩ hg⟩
  · rw [Tryz.params5]; intro t ht; simp at ht; rcases ht with rfl | rfl | rfl | rfl <;> exact ⟨by kernel_rfl, of_decide_eq_true (by kernel_rfl)⟩
  · kernel_rfl
theorem routeMore_said : Rows.RouteMoreSaid :=
  OpenClaim.holds_of_cond 5 Tryz.f5 rfl rfl rfl rfl rfl rfl rfl ⟨rfl, rfl, rfl, rfl, rfl⟩ rfl rfl rfl rfl rfl (by kernel_rfl) Tryz.func5 routeMore_facts
    (of_decide_eq_true (by kernel_rfl)) (by unfold Func.isWrapper; first | (rw [if_pos (by decide +kernel)]; kernel_rfl) | (rw [if_neg (by decide +kernel)]; exact ⟨rfl, rfl⟩))
    (fun os started H enc _ F => by rw [OpenClaim.pre_eq_preRow]; exact routeMore_lifted os started H enc F)
theorem routeMore_plain (f : FuncId) (fn : Func) (hf : Tryz.pinned.checked.prog.funcNamed "nacelle/nacellelaw14.RouteMore" = some f) (RF : Tryz.pinned.checked.prog.funcs[f]? = some fn) :
    true = Tryz.pinned.checked.prog.looks [] ∧ ∀ (j : Nat) t, fn.params[j]? = some t → Tryz.pinned.checked.prog.wantsStandIn t = false := by
  obtain rfl : f = 5 := Option.some.inj ((show pG.funcNamed "nacelle/nacellelaw14.RouteMore" = some 5 by kernel_rfl).symm.trans hf) |>.symm
  obtain rfl : fn = Tryz.f5 := (Option.some.inj (Tryz.func5.symm.trans RF)).symm
  refine ⟨by kernel_rfl, fun j t ht => ?_⟩
  rw [Tryz.params5] at ht
  have ht := Array.mem_of_getElem? ht
  simp at ht
  rcases ht with rfl | rfl | rfl | rfl
  · exact (show pG.wantsStandIn 31 = false by kernel_rfl)
  · exact (show pG.wantsStandIn 3 = false by kernel_rfl)
  · exact (show pG.wantsStandIn 46 = false by kernel_rfl)
  · exact (show pG.wantsStandIn 5 = false by kernel_rfl)
theorem routeMore_card : Rows.RouteMoreCardSaid :=
  Claim7.holds_tied_plain_at .later [] _ _ _ _ routeMore_said (fun _ h => by cases h) (by kernel_rfl) (fun _ h => by cases h) routeMore_row_tie rfl ⟨rfl, rfl⟩ (by kernel_rfl) rfl routeMore_plain (by kernel_rfl)
#print axioms routeMore_card
end Go.Proofs.YtmdgooofdmpcjaaGreatDoor
