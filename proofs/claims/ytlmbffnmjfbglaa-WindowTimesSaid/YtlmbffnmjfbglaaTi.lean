/- WindowTimes: for any table, frame and time, the statement's call returns true and leaves its arguments alone. -/
import Derived.Test.YtlmbffnmjfbglaaC0
import Derived.Test.YtlmbffnmjfbglaaQ1
import Derived.Test.YtlmbffnmjfbglaaL0
namespace Go.Proofs.Ytlmbffnmjfbglaa
open Go.ChangeShapes Go.WideShapes Go.ChangeAt Go.RowKit

theorem lent_rd {w : World} {g cap : Nat} {l : List Win} {m : List Win} (h : Row w g cap (l ++ m)) : RdG Win.tri w w.heap.size (some ⟨g, 0, none⟩) l := fun _ =>
  ⟨g, 0, rfl, h.lt, fun i hi => by
    have := h.cells i (by rw [List.length_append]; omega)
    rw [List.getElem_append_left hi] at this
    simpa [Win.tri] using this⟩

set_option maxRecDepth 100000 in
set_option maxHeartbeats 2000000 in
theorem times_walk (tb : List Win) (A : Option Addr) (c : Nat) (F t : Int) (w : World) (h : RdG Win.tri w w.heap.size A tb) (hl : tb.length ≤ 9223372036854775807) :
    Calls Try.prog 4 #[.slice A tb.length c, .int .i64 F, .int .i64 t] w fun e w' => e = .returned (.bool true) ∧ Below w.heap.size w w' := by
  have haw := fun W => awake_c W
  by_cases hbig : 200 < tb.length
  · have hd : (200 : Int) < (tb.length : Int) := by omega
    go_enter Try.func4, Try.ntmps4
    go_wp2_with fail
    refine (haw _).mono ?_
    rintro e w1 ⟨rfl, hb1⟩
    clear haw h
    go_wp2
    go_ret
    exact ⟨rfl, hb1⟩
  · have hd : (tb.length : Int) ≤ 200 := by omega
    have hlt := lent_c tb A c w h (by omega)
    have hx := eql_Win
    have hgd := guard_Win
    go_enter Try.func4, Try.ntmps4
    go_wp2_with fail
    refine hlt.mono ?_
    rintro e w1 ⟨v, rfl, ⟨g, cap, rfl, hrow⟩, hb1⟩
    clear hlt
    have h1 := h.below hb1
    have ho := owner_c tb (some ⟨g, 0, none⟩) cap F t w1 (lent_rd hrow) (by omega)
    go_wp2_with fail
    refine ho.mono ?_
    rintro e w2 ⟨rfl, hb2⟩
    have hB2 := hb1.trans (hb2.mono hb1.size)
    have h2 := h1.below hb2
    have hr2 := hrow.below hb2 hrow.lt
    clear ho hb1 hb2 h1 hrow
    have hro := refOwner_c tb A c F t w2 h2 (by omega)
    go_wp2_with fail
    refine hro.mono ?_
    rintro e w3 ⟨rfl, hb3⟩
    have hB3 := hB2.trans (hb3.mono hB2.size)
    have h3 := h2.below hb3
    have hr3 := hr2.below hb3 hr2.lt
    clear hro hB2 hb3 h2 hr2
    have hn := next_c tb (some ⟨g, 0, none⟩) cap F t w3 (lent_rd hr3) (by omega)
    have t1 : ((ownerV tb F t).1 == (ownerV tb F t).1) = true := by simp
    have t2 : ((ownerV tb F t).2 == (ownerV tb F t).2) = true := by simp
    have heq := fun W => eql_Win (nextV tb F t).1 (nextV tb F t).1 W
    rw [Win.eqB_iff.2 rfl] at heq
    have t3 : ((nextV tb F t).2.1 == (nextV tb F t).2.1) = true := by simp
    have t4 : ((nextV tb F t).2.2 == (nextV tb F t).2.2) = true := by simp
    have hrn := fun W hW => refNext_c tb A c F t W hW (by omega)
    generalize ownerV tb F t = ov at *
    generalize nextV tb F t = nv at *
    clear hx
    go_wp2_with fail
    refine hn.mono ?_
    rintro e w4 ⟨rfl, hb4⟩
    have hB4 := hB3.trans (hb4.mono hB3.size)
    have h4 := h3.below hb4
    have hr4 := hr3.below hb4 hr3.lt
    clear hn hB3 hb4 h3 hr3
    go_wp2_with fail
    refine nameC fun W5 hW5 => ?_
    have hB5 : Below w.heap.size w W5 := by subst hW5; exact hB4.alloc hB4.size _
    have h5 : RdG Win.tri W5 W5.heap.size A tb := by subst hW5; exact h4.below ((Below.refl _ _).alloc (Nat.le_refl _) _)
    have hr5 : Row W5 g cap (tb ++ (List.range 12).map markR) := by subst hW5; exact hr4.below ((Below.refl _ _).alloc (Nat.le_refl _) _) hr4.lt
    have hbx : Blk W5 w4.heap.size 31 #[.int .i64 nv.1.part, .int .i64 nv.1.start, .int .i64 nv.1.len] := by subst hW5; exact Blk.new w4 31 _
    clear hW5 hB4 h4 hr4
    refine (hrn W5 h5).mono ?_
    rintro e w6 ⟨rfl, hb6⟩
    have hB6 := hB5.trans (hb6.mono hB5.size)
    have h6 := h5.below hb6
    have hr6 := hr5.below hb6 hr5.lt
    have hbx6 := hbx.below hb6 hbx.lt
    clear hrn hB5 hb6 h5 hr5 hbx
    generalize w4.heap.size = Bx at hbx6 ⊢
    have p0 : w6.cell? ⟨Bx, 0, none⟩ = some (.int .i64 nv.1.part) := hbx6.cell 0
    have p1 : w6.cell? ⟨Bx, 1, none⟩ = some (.int .i64 nv.1.start) := hbx6.cell 1
    have p2 : w6.cell? ⟨Bx, 2, none⟩ = some (.int .i64 nv.1.len) := hbx6.cell 2
    have z0 := hbx6.lt
    have hne : Bx ≠ w6.heap.size := by omega
    go_wp2_with fail
    refine nameC fun W7 hW7 => ?_
    have hB7 : Below w.heap.size w W7 := by subst hW7; exact hB6.alloc hB6.size _
    have h7 : RdG Win.tri W7 W7.heap.size A tb := by subst hW7; exact h6.below ((Below.refl _ _).alloc (Nat.le_refl _) _)
    have hr7 : Row W7 g cap (tb ++ (List.range 12).map markR) := by subst hW7; exact hr6.below ((Below.refl _ _).alloc (Nat.le_refl _) _) hr6.lt
    clear hW7 hB6 h6 hr6 hbx6 p0 p1 p2 z0 hne
    have hkp := kept_c (.slice (some ⟨g, 0, none⟩) tb.length cap) tb A c W7 ⟨g, cap, rfl, hr7⟩ h7 (by omega)
    refine hkp.mono ?_
    rintro e w8 ⟨rfl, hb8⟩
    have hB8 := hB7.trans (hb8.mono hB7.size)
    clear hkp hB7 hb8 h7 hr7
    go_wp2_with fail
    refine (haw w8).mono ?_
    rintro e w9 ⟨rfl, hb9⟩
    have hB9 := hB8.trans (hb9.mono hB8.size)
    clear haw hB8 hb9
    go_wp2
    go_ret
    exact ⟨rfl, hB9⟩

-- THE ROW
set_option maxRecDepth 100000 in
theorem windowTimes_lifted (os : Os) (started : os.Started) (H : Type) (enc : TypeId × Value → H) :
    ReturnsInHanded {} Try.checked os 4 .any (Rows.windowTimesSpec.pre6 enc Try.prog Try.f4 Rows.windowTimesRow.domain false) (Rows.windowTimesSpec.post enc Try.prog Try.f4 false true false false) := by
  refine returnsInHanded_of_change (C := Try.checked) own started (by kernel_rfl) Try.func4
    (ChangeSpec.witness6 (enc := enc) (C := Try.checked) false ⟨#[], #[.slice none 0 0, .int .i64 0, .int .i64 0], []⟩ 8 (by kernel_rfl) (by kernel_rfl) (by kernel_rfl) (by kernel_rfl)) ?_
  intro W base args ds gs before hval0 hW hcnd _
  have hval : ∀ (j : Nat) t v, Try.f4.params[j]? = some t → args[j]? = some v → Value.okWide Try.prog W .any base t v := hval0
  have hW' := hW
  obtain ⟨p, q, hA0, hV, rfl, hfz, hnd⟩ := hW
  have hA : DataW.TrodAll enc Try.prog W 0 (fun _ => true) true Try.f4.params.toList args.toList ds p := hA0
  rw [Try.params4] at hA hval
  obtain ⟨v0, vs0, d0, ds0, p0, q0, hargs, rfl, rfl, h0, r0⟩ := trodAll_cons hA
  obtain ⟨v1, vs1, d1, ds1, p1, q1, rfl, rfl, rfl, h1, r1⟩ := trodAll_cons r0
  obtain ⟨v2, vs2, d2, ds2, p2, q2, rfl, rfl, rfl, h2, r2⟩ := trodAll_cons r1
  obtain ⟨rfl, rfl, rfl⟩ := trodAll_nil r2
  obtain rfl : args = #[v0, v1, v2] := by cases args; simp_all
  obtain ⟨A0, c0, l0, rfl, hlc0, hcm0, hR0, hP0⟩ := open_wins (hval 0 26 v0 rfl rfl) h0
  obtain ⟨a1, rfl, rfl, rfl, w1⟩ := open_int Try.underlying3 (hval 1 3 v1 rfl rfl) h1
  obtain ⟨a2, rfl, rfl, rfl, w2⟩ := open_int Try.underlying3 (hval 2 3 v2 rfl rfl) h2
  clear hA0 hval0
  refine (times_walk l0 A0 c0 a1 a2 W hR0 (Nat.le_trans hlc0 hcm0)).mono fun e W' ⟨he, hg⟩ => ?_
  subst he
  refine ⟨_, rfl, law_post (tb := 4) laid ?_ ?_ Try.underlying4 rfl hW' ⟨rfl, rfl, rfl⟩ hg⟩
  · rw [Try.params4]; intro t ht; simp at ht; rcases ht with rfl | rfl <;> exact ⟨by kernel_rfl, of_decide_eq_true (by kernel_rfl)⟩
  · kernel_rfl

theorem windowTimes_holds : Rows.WindowTimesSaid :=
  OpenClaim.holds_of_wide 4 Try.f4 rfl rfl rfl rfl rfl rfl rfl ⟨rfl, rfl, rfl, rfl, rfl⟩ rfl rfl rfl rfl rfl (by kernel_rfl) Try.func4 (by kernel_rfl)
    (of_decide_eq_true (by kernel_rfl)) (by unfold Func.isWrapper; first | (rw [if_pos (by decide +kernel)]; kernel_rfl) | (rw [if_neg (by decide +kernel)]; exact ⟨rfl, rfl⟩))
    (fun os started H enc _ => windowTimes_lifted os started H enc)
#print axioms windowTimes_holds
end Go.Proofs.Ytlmbffnmjfbglaa
