/- PlanSound: if Check accepts claims, no choice of offsets is a plan; of any module and claims. -/
import Derived.Test.YtlmbffnmjfbglabG9
import Derived.Test.YtlmbffnmjfbglabOC
namespace Go.Proofs.Ytlmbffnmjfbglab
open Go.ChangeShapes Go.WideShapes Go.ChangeAt Go.RowKit

theorem check_none {F : Int} {ps : List Part} {l : List Claim} (h : checkV F ps l = true) (xs : List Int) : ¬ IsPlan ps xs := fun hx =>
  plan_no_clash hx (check_sound h xs hx.1 fun k hk => ⟨(hx.2 k hk).1, (hx.2 k hk).2.1⟩)

set_option maxRecDepth 100000 in
set_option maxHeartbeats 4000000 in
theorem sound_walk (name : ByteArray) (mem F : Int) (ps : List Part) (A : Option Addr) (c : Nat) (l : List Claim) (Al : Option Addr) (cl : Nat) (w : World) (h : RdPart w w.heap.size A ps) (hk : RdK w Al l) (hl : ps.length * 8 ≤ 140737488355328) (hll : l.length ≤ 9223372036854775807) :
    Calls Try.prog 11 #[.agg #[.string name, .int .i64 mem, .int .i64 F, .slice A ps.length c], .slice Al l.length cl] w fun e w' => e = .returned (.bool true) ∧ Below w.heap.size w w' := by
  have H := Lib.hid h
  have HK := Lib.hid hk
  have HLL := Lib.hid hll
  clear h hk hll
  go_enter Try.func11, Try.ntmps11
  go_wp2_with fail
  refine nameC fun W0 hW0 => ?_
  have hB0 : Below w.heap.size w W0 := by subst hW0; exact (Below.refl _ w).alloc (Nat.le_refl _) _
  have hb0 : Blk W0 w.heap.size 24 #[.string name, .int .i64 mem, .int .i64 F, .slice A ps.length c] := by subst hW0; exact Blk.new w 24 _
  clear hW0
  refine (awake_c W0).mono ?_
  rintro e W1 ⟨rfl, hb1⟩
  have hB1 := hB0.trans (hb1.mono hB0.size)
  replace hb0 := hb0.below hb1 hb0.lt
  clear hb1 hB0
  have q0 : W1.cell? ⟨w.heap.size, 0, none⟩ = some (.string name) := hb0.cell 0
  have q1 : W1.cell? ⟨w.heap.size, 1, none⟩ = some (.int .i64 mem) := hb0.cell 1
  have q2 : W1.cell? ⟨w.heap.size, 2, none⟩ = some (.int .i64 F) := hb0.cell 2
  have q3 : W1.cell? ⟨w.heap.size, 3, none⟩ = some (.slice A ps.length c) := hb0.cell 3
  have hch := choices_c name mem F ps A c W1 (H.out.below hB1) hl
  obtain ⟨N, hN⟩ : ∃ N, N = choicesV F ps := ⟨_, rfl⟩
  rw [← hN] at hch
  have HN := Lib.hid hN
  have Hch := Lib.hid hch
  clear hN hch
  go_wp2_with fail
  refine Hch.out.mono ?_
  rintro e W2 ⟨rfl, hb2⟩
  have hB2 := hB1.trans (hb2.mono hB1.size)
  replace hb0 := hb0.below hb2 hb0.lt
  clear hb2 hB1 Hch q0 q1 q2 q3
  by_cases hneg : N < 0
  · have hd : decide (N < 0) = true := decide_eq_true hneg
    clear HN
    go_wp2_with fail
    go_ret
    exact ⟨rfl, hB2⟩
  · have hd : decide (N < 0) = false := decide_eq_false hneg
    obtain ⟨hT, hprod⟩ := choices_prod (F := F) (ps := ps) (by rw [← HN.out]; omega)
    have q0 : W2.cell? ⟨w.heap.size, 0, none⟩ = some (.string name) := hb0.cell 0
    have q1 : W2.cell? ⟨w.heap.size, 1, none⟩ = some (.int .i64 mem) := hb0.cell 1
    have q2 : W2.cell? ⟨w.heap.size, 2, none⟩ = some (.int .i64 F) := hb0.cell 2
    have q3 : W2.cell? ⟨w.heap.size, 3, none⟩ = some (.slice A ps.length c) := hb0.cell 3
    have hck := check_c name mem F ps A c l Al cl W2 (H.out.below hB2) (RdK.keep' hB2 HK.out) hl HLL.out
    have HT := Lib.hid hT
    have Hck := Lib.hid hck
    clear hT hprod hck
    go_wp2_with fail
    refine Hck.out.mono ?_
    rintro e W3 ⟨rfl, hb3⟩
    have hB3 := hB2.trans (hb3.mono hB2.size)
    replace hb0 := hb0.below hb3 hb0.lt
    clear hb3 hB2 Hck q0 q1 q2 q3
    cases hv : checkV F ps l with
    | false =>
      clear hv HN HT
      go_wp2_with fail
      go_ret
      exact ⟨rfl, hB3⟩
    | true =>
      have hno : ∀ xs, ¬ IsPlan ps xs := check_none hv
      have Hno := Lib.hid hno
      clear hv hno
      have hN2 := choices_bd (F := F) (ps := ps) (by rw [← HN.out]; omega)
      have hN0 : 0 ≤ N := by omega
      have hN1 : N ≤ 20000 := by rw [HN.out]; exact hN2
      have hposs : ∀ k : Int, 0 ≤ k → k < N → Possible ps (choiceV ps k) := fun k h0 h1 => choice_possible (F := F) h0 (by rw [← HN.out]; exact h1)
      have hlp : ps.length ≤ 6 := (timesV_ok HT.out).few
      have HP := Lib.hid hposs
      have HB3 := Lib.hid hB3
      have Hb0 := Lib.hid hb0
      clear HN hposs hN2 hneg hd hB3 hb0
      go_wp2_with fail
      go_loopw [6] (fun i wr => ∃ k : Nat, (k : Int) ≤ N ∧ i = .int .i64 k ∧ Below W3.heap.size W3 wr) (fun i _ => (N - intOf i).toNat)
      case atStart => exact ⟨0, by omega, rfl, Below.refl _ _⟩
      case round =>
        obtain ⟨k, hk, rfl, hBr⟩ := hrel
        have hbr := Hb0.out.below hBr Hb0.out.lt
        have q0 : wr.cell? ⟨w.heap.size, 0, none⟩ = some (.string name) := hbr.cell 0
        have q1 : wr.cell? ⟨w.heap.size, 1, none⟩ = some (.int .i64 mem) := hbr.cell 1
        have q2 : wr.cell? ⟨w.heap.size, 2, none⟩ = some (.int .i64 F) := hbr.cell 2
        have q3 : wr.cell? ⟨w.heap.size, 3, none⟩ = some (.slice A ps.length c) := hbr.cell 3
        have hBw := HB3.out.trans (hBr.mono HB3.out.size)
        by_cases hlt : (k : Int) < N
        · have hdk : decide ((k : Int) < N) = true := decide_eq_true hlt
          have hch := choice_c name mem F ps A c (k : Int) wr (H.out.below hBw) HT.out (by omega)
          have hxl : (choiceV ps k).length = ps.length := stepsC_len ps k ps.length
          have hpos := HP.out k (by omega) hlt
          obtain ⟨xs, hxs⟩ : ∃ xs, xs = choiceV ps k := ⟨_, rfl⟩
          rw [← hxs] at hch hxl hpos
          have Hch := Lib.hid hch
          have Hpos := Lib.hid hpos
          have Hxl := Lib.hid hxl
          clear hch hpos hxl hxs
          go_wp2_with fail
          refine Hch.out.mono ?_
          rintro e w4 ⟨B4, c4, rfl, hc4, hB4, hx4, hb4⟩
          have hbr4 := hbr.below hb4 hbr.lt
          have hBw4 := hBw.trans (hb4.mono hBw.size)
          have hBr4 := hBr.trans (hb4.mono hBr.size)
          clear q0 q1 q2 q3 Hch hbr hBw hBr hb4
          have q0 : w4.cell? ⟨w.heap.size, 0, none⟩ = some (.string name) := hbr4.cell 0
          have q1 : w4.cell? ⟨w.heap.size, 1, none⟩ = some (.int .i64 mem) := hbr4.cell 1
          have q2 : w4.cell? ⟨w.heap.size, 2, none⟩ = some (.int .i64 F) := hbr4.cell 2
          have q3 : w4.cell? ⟨w.heap.size, 3, none⟩ = some (.slice A ps.length c) := hbr4.cell 3
          have hcl := clashT_c name mem F ps A c xs (some ⟨B4, 0, none⟩) c4 w4 (H.out.below hBw4) hx4 (by omega) (by rw [Hxl.out]; omega)
          rw [Hxl.out] at hcl
          have Hcl := Lib.hid hcl
          clear hcl
          go_wp2_with fail
          refine Hcl.out.mono ?_
          rintro e w5 ⟨q, hq, rfl, hb5⟩
          have hbr5 := hbr4.below hb5 hbr4.lt
          have hBw5 := hBw4.trans (hb5.mono hBw4.size)
          have hBr5 := hBr4.trans (hb5.mono hBr4.size)
          have hx5 := hx4.below hb5
          have h120 : q.2 = 120 := by
            refine Decidable.byContradiction fun h => ?_
            exact Hno.out _ ((clash_iff HT.out Hpos.out.1 Hpos.out.2 hq).1 h)
          rw [decide_eq_true h120]
          clear q0 q1 q2 q3 Hcl hbr4 hBw4 hBr4 hb5 hq hx4 h120
          have q0 : w5.cell? ⟨w.heap.size, 0, none⟩ = some (.string name) := hbr5.cell 0
          have q1 : w5.cell? ⟨w.heap.size, 1, none⟩ = some (.int .i64 mem) := hbr5.cell 1
          have q2 : w5.cell? ⟨w.heap.size, 2, none⟩ = some (.int .i64 F) := hbr5.cell 2
          have q3 : w5.cell? ⟨w.heap.size, 3, none⟩ = some (.slice A ps.length c) := hbr5.cell 3
          have hft := fits_c name mem F ps A c xs (some ⟨B4, 0, none⟩) c4 w5 (H.out.below hBw5) hx5 (by rw [Hxl.out]; exact hc4) hl (by rw [Hxl.out]; omega)
          rw [Hxl.out] at hft
          have hfv : fitsV F ps xs = false := by
            cases hf : fitsV F ps xs with
            | false => rfl
            | true => exact absurd ((fits_iff HT.out xs).1 hf) (Hno.out _)
          rw [hfv] at hft
          have Hft := Lib.hid hft
          clear hft hfv
          go_wp2_with fail
          refine Hft.out.mono ?_
          rintro e w6 ⟨rfl, hb6⟩
          have hBr6 := hBr5.trans (hb6.mono hBr5.size)
          clear q0 q1 q2 q3 Hft hbr5 hBw5 hBr5 hb6 hx5
          go_wp2_with fail
          go_roundw
          case rel => exact ⟨k + 1, by omega, by go_num, hBr6⟩
          case measure => simp [intOf]; omega
        · have hdk : decide ((k : Int) < N) = false := decide_eq_false hlt
          have hpl := plan_c name mem F ps A c wr (H.out.below hBw) hl
          have hpe : (planV F ps).2.2 = 5 ∨ (planV F ps).2.2 = 130 := by
            rcases planV_cases HT.out with ⟨os, _, ho, _⟩ | ⟨h1, _⟩ | ⟨h1, _⟩
            · exact absurd ho (Hno.out _)
            · exact .inl h1
            · exact .inr h1
          generalize planV F ps = pv at *
          obtain ⟨po, pc, pe⟩ := pv
          simp only at hpl hpe
          have Hpl := Lib.hid hpl
          clear hpl hlt
          go_wp2_with fail
          refine Hpl.out.mono ?_
          rintro e w4 ⟨Ao, co, Ac, cc, rfl, _, _, _, _, hb4⟩
          have hBw4 := hBw.trans (hb4.mono hBw.size)
          clear q0 q1 q2 q3 Hpl hbr hBw hBr hb4
          rcases hpe with rfl | rfl
          · go_wp2_with fail
            go_ret
            exact ⟨rfl, hBw4⟩
          · go_wp2_with fail
            go_ret
            exact ⟨rfl, hBw4⟩

-- THE ROW
set_option maxRecDepth 100000 in
theorem planSound_lifted (os : Os) (started : os.Started) (H : Type) (enc : TypeId × Value → H) :
    ReturnsInHanded {} Try.checked os 11 .any (Rows.planSoundSpec.pre6 enc Try.prog Try.f11 Rows.planSoundRow.domain false) (Rows.planSoundSpec.post enc Try.prog Try.f11 false true false false) := by
  refine returnsInHanded_of_change_sized (C := Try.checked) own started (by kernel_rfl) Try.func11
    (ChangeSpec.witness6 (enc := enc) (C := Try.checked) false ⟨#[], #[.agg #[.string ⟨#[]⟩, .int .i64 0, .int .i64 0, .slice none 0 0], .slice none 0 0], []⟩ 8 (by kernel_rfl) (by kernel_rfl) (by kernel_rfl) (by kernel_rfl)) ?_
  intro W base args ds gs before hval0 hW hcnd hsz0 _
  have hval : ∀ (j : Nat) t v, Try.f11.params[j]? = some t → args[j]? = some v → Value.okWide Try.prog W .any base t v := hval0
  have hW' := hW
  obtain ⟨p, q, hA0, hV, rfl, hfz, hnd⟩ := hW
  have hA : DataW.TrodAll enc Try.prog W 0 (fun _ => true) true Try.f11.params.toList args.toList ds p := hA0
  rw [Try.params11] at hA hval
  obtain ⟨v0, vs0, d0, ds0, p0, q0, hargs, rfl, rfl, h0, r0⟩ := trodAll_cons hA
  obtain ⟨v1, vs1, d1, ds1, p1, q1, rfl, rfl, rfl, h1, r1⟩ := trodAll_cons r0
  obtain ⟨rfl, rfl, rfl⟩ := trodAll_nil r1
  obtain rfl : args = #[v0, v1] := by cases args; simp_all
  obtain ⟨name0, mem0, frame0, A0, c0, l0, rfl, km0, kf0, hlc0, hcm0, hR0, hP0⟩ := open_module (hval 0 24 v0 rfl rfl) h0
  obtain ⟨A1, c1, l1, rfl, hlc1, hcm1, hR1, hP1⟩ := open_claims (hval 1 29 v1 rfl rfl) h1
  have hsz := hsz0
  rw [Try.params11] at hsz
  have hz0 := sz_module (hval 0 24 _ rfl rfl) h0 (fun n hn => by simpa using List.all_eq_true.1 hsz n (DataW.weights_mem_each (j := 0) (t := 24) rfl rfl n hn)) rfl
  clear hA0 hval0
  refine (sound_walk name0 mem0 frame0 l0 A0 c0 l1 A1 c1 W hR0 hR1 hz0 (by unfold maxLen at hcm1; omega)).mono fun e W' ⟨he, hg⟩ => ?_
  subst he
  refine ⟨_, rfl, law_post (tb := 4) laid ?_ ?_ Try.underlying4 rfl hW' ⟨rfl, rfl, rfl⟩ hg⟩
  · rw [Try.params11]; intro t ht; simp at ht; rcases ht with rfl | rfl <;> exact ⟨by kernel_rfl, of_decide_eq_true (by kernel_rfl)⟩
  · kernel_rfl

theorem planSound_holds : Rows.PlanSoundSaid :=
  OpenClaim.holds_of_wide 11 Try.f11 rfl rfl rfl rfl rfl rfl rfl ⟨rfl, rfl, rfl, rfl, rfl⟩ rfl rfl rfl rfl rfl (by kernel_rfl) Try.func11 (by kernel_rfl)
    (of_decide_eq_true (by kernel_rfl)) (by unfold Func.isWrapper; first | (rw [if_pos (by decide +kernel)]; kernel_rfl) | (rw [if_neg (by decide +kernel)]; exact ⟨rfl, rfl⟩))
    (fun os started H enc _ => planSound_lifted os started H enc)
#print axioms planSound_holds
end Go.Proofs.Ytlmbffnmjfbglab
