/- WindowPairs: for any two slots, the statement's call returns true and leaves its arguments alone. -/
import Derived.Test.YtlmbffnmjfbglaaR0
namespace Go.Proofs.Ytlmbffnmjfbglaa
open Go.ChangeShapes Go.WideShapes Go.ChangeAt Go.RowKit

set_option maxHeartbeats 1000000 in
theorem refDisj_c (a b : Slot) (w : World) :
    Calls Try.prog 35 #[.agg #[.int .i64 a.off, .int .i64 a.per, .int .i64 a.len], .agg #[.int .i64 b.off, .int .i64 b.per, .int .i64 b.len]] w fun e w' => e = .returned (.bool (disjB a b)) ∧ Below w.heap.size w w' := by
  obtain ⟨q, hq⟩ := meet_ex a b
  have hme := fun W => refMeet_c a b q hq W
  have hva := fun W => refValid_c a W
  have hvb := fun W => refValid_c b W
  have h0 := BY.start w a b
  rw [← disj_q hq]
  clear hq
  generalize validS a = va at *
  generalize validS b = vb at *
  obtain ⟨q1, q2⟩ := q
  simp only at *
  go_enter Try.func35, Try.ntmps35
  go_wp2_with fail
  generalize (w.alloc (.cells #[.int .i64 a.off, .int .i64 a.per, .int .i64 a.len] 23)).alloc (.cells #[.int .i64 b.off, .int .i64 b.per, .int .i64 b.len] 23) = W0 at h0 ⊢
  refine (hme W0).mono ?_
  rintro e W1 ⟨rfl, hb1⟩
  have h1 := h0.next hb1
  clear h0 hb1 hme
  obtain ⟨⟨c0, c1, c2⟩, d0, d1, d2⟩ := h1.cells
  go_wp2_with fail
  refine (hva W1).mono ?_
  rintro e W2 ⟨rfl, hb2⟩
  have h2 := h1.next hb2
  clear h1 hb2 hva c0 c1 c2 d0 d1 d2
  cases va with
  | false =>
    have hB := h2.hb
    clear hvb
    go_wp2
    go_ret
    exact ⟨rfl, hB⟩
  | true =>
    obtain ⟨⟨c0, c1, c2⟩, d0, d1, d2⟩ := h2.cells
    go_wp2_with fail
    refine (hvb W2).mono ?_
    rintro e W3 ⟨rfl, hb3⟩
    have hB := (h2.next hb3).hb
    clear h2 hb3 hvb c0 c1 c2 d0 d1 d2
    cases vb <;> cases q2 <;> (go_wp2; go_ret; exact ⟨rfl, hB⟩)

set_option maxRecDepth 100000 in
set_option maxHeartbeats 1000000 in
theorem pair_c (a b : Slot) (w : World) :
    Calls Try.prog 13 #[.agg #[.int .i64 a.off, .int .i64 a.per, .int .i64 a.len], .agg #[.int .i64 b.off, .int .i64 b.per, .int .i64 b.len]] w fun e w' => e = .returned (.bool true) ∧ Below w.heap.size w w' := by
  obtain ⟨q, hq⟩ := meet_ex a b
  have hme := fun W => meet_c a b q hq W
  have hrm := fun W => refMeet_c a b q hq W
  have hva := fun W => valid_c a W
  have hra := fun W => refValid_c a W
  have hdj := fun W => disj_c a b W
  have hrd := fun W => refDisj_c a b W
  have h0 := BY.start w a b
  clear hq
  generalize validS a = va at *
  generalize disjB a b = dj at *
  obtain ⟨q1, q2⟩ := q
  simp only at *
  go_enter Try.func13, Try.ntmps13
  go_wp2_with fail
  generalize (w.alloc (.cells #[.int .i64 a.off, .int .i64 a.per, .int .i64 a.len] 23)).alloc (.cells #[.int .i64 b.off, .int .i64 b.per, .int .i64 b.len] 23) = W0 at h0 ⊢
  refine (hme W0).mono ?_
  rintro e W1 ⟨rfl, hb1⟩
  have h1 := h0.next hb1
  clear h0 hb1 hme
  obtain ⟨⟨c0, c1, c2⟩, d0, d1, d2⟩ := h1.cells
  go_wp2_with fail
  refine (hrm W1).mono ?_
  rintro e W2 ⟨rfl, hb2⟩
  have h2 := h1.next hb2
  clear h1 hb2 hrm c0 c1 c2 d0 d1 d2
  obtain ⟨⟨c0, c1, c2⟩, d0, d1, d2⟩ := h2.cells
  have z1 := h2.ba.lt
  have z2 := h2.bb.lt
  have t1 : (va == va) = true := by simp
  have t2 : (dj == dj) = true := by simp
  have t3 : (q1 == q1) = true := by simp
  have t4 : (q2 == q2) = true := by simp
  go_wp2_with fail
  have hec := ext_cell W2
  refine wp_region_ext (by kernel_rfl) (by kernel_rfl) ?_
  repeat (go_big_quiet_step ((first | (go_at_call 22; exact ext_call (hva _)) | (go_at_call 34; exact ext_call (hra _)) | (go_at_call 20; exact ext_call (hdj _)) | (go_at_call 35; exact ext_call (hrd _)))))
  refine wpQuiet_nil ?_
  rintro w' ⟨x, rfl⟩
  have hB := (h2.next x.h).hb
  clear hec hva hra hdj hrd h2 c0 c1 c2 d0 d1 d2 z1 z2
  generalize x.w = w' at hB ⊢
  go_wp2
  go_ret
  exact ⟨rfl, hB⟩

set_option maxRecDepth 100000 in
set_option maxHeartbeats 1000000 in
theorem pairs_walk (a b : Slot) (w : World) :
    Calls Try.prog 3 #[.agg #[.int .i64 a.off, .int .i64 a.per, .int .i64 a.len], .agg #[.int .i64 b.off, .int .i64 b.per, .int .i64 b.len]] w fun e w' => e = .returned (.bool true) ∧ Below w.heap.size w w' := by
  have haw := fun W => awake_c W
  have hpr := fun W => pair_c a b W
  have h0 := BY.start w a b
  by_cases g1 : 200 < a.per <;> by_cases g2 : a.per ≤ 2000 <;> by_cases g3 : 200 < b.per <;> by_cases g4 : b.per ≤ 2000
  all_goals first | (exfalso; omega) | skip
  all_goals
    go_enter Try.func3, Try.ntmps3
    go_wp2_with fail
    generalize (w.alloc (.cells #[.int .i64 a.off, .int .i64 a.per, .int .i64 a.len] 23)).alloc (.cells #[.int .i64 b.off, .int .i64 b.per, .int .i64 b.len] 23) = W0 at h0 ⊢
    first
    | ((with_reducible refine (haw W0).mono ?_)
       rintro e W1 ⟨rfl, hb1⟩
       have hB := (h0.next hb1).hb
       clear h0 hb1 haw hpr
       go_wp2
       go_ret
       exact ⟨rfl, hB⟩)
    | ((with_reducible refine (hpr W0).mono ?_)
       rintro e W1 ⟨rfl, hb1⟩
       have h1 := h0.next hb1
       clear h0 hb1 hpr
       go_wp2_with fail
       refine (haw W1).mono ?_
       rintro e W2 ⟨rfl, hb2⟩
       have hB := (h1.next hb2).hb
       clear h1 hb2 haw
       go_wp2
       go_ret
       exact ⟨rfl, hB⟩)

-- THE ROW
set_option maxRecDepth 100000 in
theorem windowPairs_lifted (os : Os) (started : os.Started) (H : Type) (enc : TypeId × Value → H) :
    ReturnsInHanded {} Try.checked os 3 .any (Rows.windowPairsSpec.pre6 enc Try.prog Try.f3 Rows.windowPairsRow.domain false) (Rows.windowPairsSpec.post enc Try.prog Try.f3 false true false false) := by
  refine returnsInHanded_of_change (C := Try.checked) own started (by kernel_rfl) Try.func3
    (ChangeSpec.witness6 (enc := enc) (C := Try.checked) false ⟨#[], #[.agg #[.int .i64 0, .int .i64 0, .int .i64 0], .agg #[.int .i64 0, .int .i64 0, .int .i64 0]], []⟩ 8 (by kernel_rfl) (by kernel_rfl) (by kernel_rfl) (by kernel_rfl)) ?_
  intro W base args ds gs before hval0 hW hcnd _
  have hval : ∀ (j : Nat) t v, Try.f3.params[j]? = some t → args[j]? = some v → Value.okWide Try.prog W .any base t v := hval0
  have hW' := hW
  obtain ⟨p, q, hA0, hV, rfl, hfz, hnd⟩ := hW
  have hA : DataW.TrodAll enc Try.prog W 0 (fun _ => true) true Try.f3.params.toList args.toList ds p := hA0
  rw [Try.params3] at hA hval
  obtain ⟨v0, vs0, d0, ds0, p0, q0, hargs, rfl, rfl, h0, r0⟩ := trodAll_cons hA
  obtain ⟨v1, vs1, d1, ds1, p1, q1, rfl, rfl, rfl, h1, r1⟩ := trodAll_cons r0
  obtain ⟨rfl, rfl, rfl⟩ := trodAll_nil r1
  obtain rfl : args = #[v0, v1] := by cases args; simp_all
  obtain ⟨s0, rfl, hP0⟩ := open_slot (hval 0 23 v0 rfl rfl) h0
  obtain ⟨s1, rfl, hP1⟩ := open_slot (hval 1 23 v1 rfl rfl) h1
  clear hA0 hval0
  refine (pairs_walk s0 s1 W).mono fun e W' ⟨he, hg⟩ => ?_
  subst he
  refine ⟨_, rfl, law_post (tb := 4) laid ?_ ?_ Try.underlying4 rfl hW' ⟨rfl, rfl, rfl⟩ hg⟩
  · rw [Try.params3]; intro t ht; simp at ht; subst ht; exact ⟨by kernel_rfl, of_decide_eq_true (by kernel_rfl)⟩
  · kernel_rfl

theorem windowPairs_holds : Rows.WindowPairsSaid :=
  OpenClaim.holds_of_wide 3 Try.f3 rfl rfl rfl rfl rfl rfl rfl ⟨rfl, rfl, rfl, rfl, rfl⟩ rfl rfl rfl rfl rfl (by kernel_rfl) Try.func3 (by kernel_rfl)
    (of_decide_eq_true (by kernel_rfl)) (by unfold Func.isWrapper; first | (rw [if_pos (by decide +kernel)]; kernel_rfl) | (rw [if_neg (by decide +kernel)]; exact ⟨rfl, rfl⟩))
    (fun os started H enc _ => windowPairs_lifted os started H enc)
#print axioms windowPairs_holds
end Go.Proofs.Ytlmbffnmjfbglaa
