/- MemoryMaps: for all regions and numbers the law returns true. No condition. -/
import Derived.Test.YtjgmdchlgabflaaC0
namespace Go.Proofs.Ytjgmdchlgabflaa
open Go.ChangeShapes Go.WideShapes Go.ChangeAt Go.RowKit

set_option maxRecDepth 100000 in
set_option maxHeartbeats 1000000 in
theorem maps_walk (l : List Reg) (A : Option Addr) (c : Nat) (part addr at_ : Int) (w : World) (h : RdReg w w.heap.size A l) (hl : l.length ≤ maxLen) :
    Calls Try.prog 3 #[.slice A l.length c, .int .i64 part, .int .i64 addr, .int .i64 at_] w fun e w' => e = .returned (.bool true) ∧ Below w.heap.size w w' := by
  unfold maxLen at hl
  by_cases h200 : 200 < l.length
  · clear h
    go_enter Try.func3, Try.ntmps3
    go_wp2_with fail
    refine (awake_c w).mono ?_
    rintro e w1 ⟨rfl, hb1⟩
    go_wp2
    go_ret
    exact ⟨rfl, hb1⟩
  · have hl2 : l.length ≤ 4611686018427387904 := by omega
    have hT := Translate_c part addr l A c w h hl2
    go_enter Try.func3, Try.ntmps3
    go_wp2_with fail
    refine hT.mono ?_
    clear hT
    rintro e w1 ⟨rfl, hb1⟩
    have hr1 := h.below hb1
    have hT := refTranslate_c part addr l A c w1 hr1 hl2
    clear h
    go_wp2_with fail
    refine hT.mono ?_
    clear hT
    rintro e w1' ⟨rfl, rfl⟩
    have hT := Owner_c at_ l A c w1 hr1 hl2
    go_wp2_with fail
    refine hT.mono ?_
    clear hT
    rintro e w2 ⟨rfl, hb2⟩
    have hr2 := hr1.below hb2
    have hB2 := hb1.trans (hb2.mono hb1.size)
    clear hr1 hb1 hb2
    have hT := refOwner_c at_ l A c w2 hr2 hl2
    go_wp2_with fail
    refine hT.mono ?_
    clear hT
    rintro e w3 ⟨rfl, hb3⟩
    have hr3 := hr2.below hb3
    have hB3 := hB2.trans (hb3.mono hB2.size)
    clear hr2 hB2 hb3
    have hT := near_c l A c w3 hr3 hl2
    clear hr3
    generalize transV l part addr = t
    generalize ownV l at_ = o
    obtain ⟨t0, t1⟩ := t
    obtain ⟨o0, o1, o2⟩ := o
    have haw := awake_c w3
    cases hn : l.all nearR with
    | false =>
      rw [hn] at hT
      go_wp2_with fail
      refine hT.mono ?_
      rintro e w4 ⟨rfl, rfl⟩
      clear hT hn
      go_wp2_with fail
      refine haw.mono ?_
      rintro e w4 ⟨rfl, hb4⟩
      clear haw
      go_wp2
      go_ret
      exact ⟨rfl, hB3.trans (hb4.mono hB3.size)⟩
    | true =>
      rw [hn] at hT
      go_wp2_with fail
      refine hT.mono ?_
      rintro e w4 ⟨rfl, rfl⟩
      clear hT hn
      have e0 : (t0 == t0) = true := by simp
      have e1 : (t1 == t1) = true := by simp
      have e2 : (o0 == o0) = true := by simp
      have e3 : (o1 == o1) = true := by simp
      have e4 : (o2 == o2) = true := by simp
      go_wp2_with fail
      refine haw.mono ?_
      rintro e w4 ⟨rfl, hb4⟩
      clear haw
      go_wp2
      go_ret
      exact ⟨rfl, hB3.trans (hb4.mono hB3.size)⟩

theorem own : ownKnob Try.prog.godebug = none := by kernel_rfl
theorem laid : laidOutB Try.prog = true := by kernel_rfl

set_option maxRecDepth 100000 in
theorem maps_lifted (os : Os) (started : os.Started) (H : Type) (enc : TypeId × Value → H) :
    ReturnsInHanded {} Try.checked os 3 .any (Rows.memoryMapsSpec.pre6 enc Try.prog Try.f3 Rows.memoryMapsRow.domain false) (Rows.memoryMapsSpec.post enc Try.prog Try.f3 false true false false) := by
  refine returnsInHanded_of_change (C := Try.checked) own started (by kernel_rfl) Try.func3
    (ChangeSpec.witness6 (enc := enc) (C := Try.checked) false ⟨#[], #[.slice none 0 0, .int .i64 0, .int .i64 0, .int .i64 0], []⟩ 8 (by kernel_rfl) (by kernel_rfl) (by kernel_rfl) (by kernel_rfl)) ?_
  intro W base args ds gs before hval0 hW hcnd _
  have hval : ∀ (j : Nat) t v, Try.f3.params[j]? = some t → args[j]? = some v → Value.okWide Try.prog W .any base t v := hval0
  have hW' := hW
  obtain ⟨p, q, hA0, hV, rfl, hfz, hnd⟩ := hW
  have hA : DataW.TrodAll enc Try.prog W 0 (fun _ => true) true Try.f3.params.toList args.toList ds p := hA0
  rw [Try.params3] at hA hval
  obtain ⟨v0, v1, v2, v3, d0, d1, d2, d3, p0, p1, p2, p3, rfl, rfl, rfl, h0, h1, h2, h3⟩ := trodAll_four hA
  obtain ⟨A, c, l, rfl, hlc, hcm, hR, _⟩ := open_regs (hval 0 22 v0 rfl rfl) h0
  obtain ⟨x1, rfl, rfl, rfl, w1⟩ := open_int Try.underlying3 (hval 1 3 v1 rfl rfl) h1
  obtain ⟨x2, rfl, rfl, rfl, w2⟩ := open_int Try.underlying3 (hval 2 3 v2 rfl rfl) h2
  obtain ⟨x3, rfl, rfl, rfl, w3⟩ := open_int Try.underlying3 (hval 3 3 v3 rfl rfl) h3
  clear hA0 hval0
  refine (maps_walk l A c x1 x2 x3 W hR (Nat.le_trans hlc hcm)).mono fun e W' ⟨he, hg⟩ => ?_
  subst he
  refine ⟨_, rfl, law_post (tb := 4) laid ?_ ?_ Try.underlying4 rfl hW' ⟨rfl, rfl, rfl⟩ hg⟩
  · rw [Try.params3]; intro t ht; simp at ht; rcases ht with rfl | rfl <;> exact ⟨by kernel_rfl, of_decide_eq_true (by kernel_rfl)⟩
  · kernel_rfl

theorem maps_holds : Rows.MemoryMapsSaid :=
  OpenClaim.holds_of_wide 3 Try.f3 rfl rfl rfl rfl rfl rfl rfl ⟨rfl, rfl, rfl, rfl, rfl⟩ rfl rfl rfl rfl rfl (by kernel_rfl) Try.func3 (by kernel_rfl)
    (of_decide_eq_true (by kernel_rfl)) (by unfold Func.isWrapper; first | (rw [if_pos (by decide +kernel)]; kernel_rfl) | (rw [if_neg (by decide +kernel)]; exact ⟨rfl, rfl⟩))
    (fun os started H enc _ => maps_lifted os started H enc)
#print axioms maps_holds
end Go.Proofs.Ytjgmdchlgabflaa
