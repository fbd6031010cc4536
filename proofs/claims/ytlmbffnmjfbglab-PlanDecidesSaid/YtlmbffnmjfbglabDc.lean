/- Texts Dc, joined. -/
import Derived.Test.YtlmbffnmjfbglabG9
import Derived.Test.YtlmbffnmjfbglabG8
import Derived.Test.YtlmbffnmjfbglabG7
set_option linter.unusedSimpArgs false
set_option linter.unusedVariables false
/- PlanDecides: if there is a plan, Plan returns the first one among all choices of offsets; if there is none, it returns claims that Check accepts; of any module. -/
namespace Go.Proofs.Ytlmbffnmjfbglab
open Go.ChangeShapes Go.WideShapes Go.ChangeAt Go.RowKit

set_option maxRecDepth 100000 in
set_option maxHeartbeats 4000000 in
theorem decides_walk (name : ByteArray) (mem F : Int) (ps : List Part) (A : Option Addr) (c : Nat) (w : World) (h : RdPart w w.heap.size A ps) (hl : ps.length * 8 ≤ 140737488355328) :
    Calls Try.prog 10 #[.agg #[.string name, .int .i64 mem, .int .i64 F, .slice A ps.length c]] w fun e w' => e = .returned (.bool true) ∧ Below w.heap.size w w' := by
  have H := Lib.hid h
  clear h
  go_enter Try.func10, Try.ntmps10
  go_wp2_with fail
  refine nameC fun W0 hW0 => ?_
  have hB0 : Below w.heap.size w W0 := by subst hW0; exact (Below.refl _ w).alloc (Nat.le_refl _) _
  have hb0 : Blk W0 w.heap.size 24 #[.string name, .int .i64 mem, .int .i64 F, .slice A ps.length c] := by subst hW0; exact Blk.new w 24 _
  clear hW0
  refine (awake_c W0).mono ?_
  rintro e W1 ⟨rfl, hb1⟩
  have hB1 := hB0.trans (hb1.mono hB0.size)
  replace hb0 := hb0.below hb1 hb0.lt
  clear hb1 hB0
  have q0 : W1.cell? ⟨w.heap.size, 0, none⟩ = some (.string name) := hb0.cell 0
  have q1 : W1.cell? ⟨w.heap.size, 1, none⟩ = some (.int .i64 mem) := hb0.cell 1
  have q2 : W1.cell? ⟨w.heap.size, 2, none⟩ = some (.int .i64 F) := hb0.cell 2
  have q3 : W1.cell? ⟨w.heap.size, 3, none⟩ = some (.slice A ps.length c) := hb0.cell 3
  have hch := choices_c name mem F ps A c W1 (H.out.below hB1) hl
  obtain ⟨N, hN⟩ : ∃ N, N = choicesV F ps := ⟨_, rfl⟩
  rw [← hN] at hch
  have HN := Lib.hid hN
  have Hch := Lib.hid hch
  clear hN hch
  go_wp2_with fail
  refine Hch.out.mono ?_
  rintro e W2 ⟨rfl, hb2⟩
  have hB2 := hB1.trans (hb2.mono hB1.size)
  replace hb0 := hb0.below hb2 hb0.lt
  clear hb2 hB1 Hch q0 q1 q2 q3
  by_cases hneg : N < 0
  · have hd : decide (N < 0) = true := decide_eq_true hneg
    clear HN
    go_wp2_with fail
    go_ret
    exact ⟨rfl, hB2⟩
  · have hd : decide (N < 0) = false := decide_eq_false hneg
    have hD := decides (F := F) (ps := ps) (by rw [← HN.out]; omega)
    obtain ⟨hT, hprod⟩ := choices_prod (F := F) (ps := ps) (by rw [← HN.out]; omega)
    have q0 : W2.cell? ⟨w.heap.size, 0, none⟩ = some (.string name) := hb0.cell 0
    have q1 : W2.cell? ⟨w.heap.size, 1, none⟩ = some (.int .i64 mem) := hb0.cell 1
    have q2 : W2.cell? ⟨w.heap.size, 2, none⟩ = some (.int .i64 F) := hb0.cell 2
    have q3 : W2.cell? ⟨w.heap.size, 3, none⟩ = some (.slice A ps.length c) := hb0.cell 3
    have hpl := plan_c name mem F ps A c W2 (H.out.below hB2) hl
    have HD := Lib.hid hD
    have HT := Lib.hid hT
    clear hD hprod hT
    obtain ⟨pv, hpv⟩ : ∃ pv, pv = planV F ps := ⟨_, rfl⟩
    rw [← hpv] at hpl HD
    obtain ⟨po, pc, pe⟩ := pv
    simp only at hpl HD
    have hpcl : pc.length ≤ 16384 := by have := planV_len F ps; rw [← hpv] at this; exact this
    have Hpv := Lib.hid hpv
    have Hpl := Lib.hid hpl
    clear hpv hpl
    go_wp2_with fail
    refine Hpl.out.mono ?_
    rintro e W3 ⟨Ao, co, Ac, cc, rfl, hro, hrc, hcc, hco, hb3⟩
    have hB3 := hB2.trans (hb3.mono hB2.size)
    replace hb0 := hb0.below hb3 hb0.lt
    clear hb3 hB2 Hpl q0 q1 q2 q3
    have hN2 := choices_bd (F := F) (ps := ps) (by rw [← HN.out]; omega)
    by_cases h5 : pe = 5
    · have hd5 : (pe == (5 : Int)) = true := by simp [h5]
      obtain ⟨hpo, hpc⟩ : po = [] ∧ pc = [] := by
        have hp := Hpv.out
        rcases planV_cases HT.out with ⟨os, hv, _, _⟩ | ⟨_, h2, h3⟩ | ⟨h1, _⟩
        · rw [hv] at hp; injection hp with _ hp; injection hp with _ hp; omega
        · rw [← hp] at h2 h3; exact ⟨h2, h3⟩
        · rw [← hp] at h1; simp only at h1; omega
      subst hpo hpc h5
      clear hro hrc HD HN Hpv
      go_wp2_with fail
      go_ret
      exact ⟨rfl, hB3⟩
    · have hd5 : (pe == (5 : Int)) = false := by simp [h5]
      have hcs : W3.cell? ⟨w.heap.size, 0, none⟩ = some (.string name) := hb0.cell 0
      have HD2 : Hid ((∀ i, 0 ≤ i → i < N → IsPlan ps (choiceV ps i) → (∀ j, 0 ≤ j → j < i → ¬ IsPlan ps (choiceV ps j)) → po = choiceV ps i ∧ pc = [] ∧ pe = 0 ∧ fitsV F ps (choiceV ps i) = true) ∧ ((∀ i, 0 ≤ i → i < N → ¬ IsPlan ps (choiceV ps i)) → pe = 130 ∧ po = [] ∧ checkV F ps pc = true)) := by
        rw [HN.out]
        rcases HD.out with h | ⟨h1, h2⟩
        · exact absurd h.1 h5
        · refine ⟨fun i a b c d => ?_, h2⟩
          obtain ⟨e1, e2⟩ := h1 i a b c d
          injection e1 with e3 e4
          injection e4 with e4 e5
          exact ⟨e3, e4, e5, e2⟩
      have hN0 : 0 ≤ N := by omega
      have hN1 : N ≤ 20000 := by rw [HN.out]; exact hN2
      have hposs : ∀ k : Int, 0 ≤ k → k < N → Possible ps (choiceV ps k) := fun k h0 h1 => choice_possible (F := F) h0 (by rw [← HN.out]; exact h1)
      have hlp : ps.length ≤ 6 := (timesV_ok HT.out).few
      have HP := Lib.hid hposs
      have HB3 := Lib.hid hB3
      have Hb0 := Lib.hid hb0
      have Hro := Lib.hid hro
      have Hrc := Lib.hid hrc
      clear HD HN Hpv hposs hN2 hneg hd hcs hB3 hb0 hro hrc
      go_wp2_with fail
      go_loopw [7] (fun i wr => ∃ k : Nat, (k : Int) ≤ N ∧ i = .int .i64 k ∧ Below W3.heap.size W3 wr ∧ Hid (∀ j : Int, 0 ≤ j → j < k → ¬ IsPlan ps (choiceV ps j))) (fun i _ => (N - intOf i).toNat)
      case atStart => exact ⟨0, by omega, rfl, Below.refl _ _, fun j h0 h1 => by omega⟩
      case round =>
        obtain ⟨k, hk, rfl, hBr, hall⟩ := hrel
        have hbr := Hb0.out.below hBr Hb0.out.lt
        have q0 : wr.cell? ⟨w.heap.size, 0, none⟩ = some (.string name) := hbr.cell 0
        have q1 : wr.cell? ⟨w.heap.size, 1, none⟩ = some (.int .i64 mem) := hbr.cell 1
        have q2 : wr.cell? ⟨w.heap.size, 2, none⟩ = some (.int .i64 F) := hbr.cell 2
        have q3 : wr.cell? ⟨w.heap.size, 3, none⟩ = some (.slice A ps.length c) := hbr.cell 3
        have hBw := HB3.out.trans (hBr.mono HB3.out.size)
        by_cases hlt : (k : Int) < N
        · have hdk : decide ((k : Int) < N) = true := decide_eq_true hlt
          have hch := choice_c name mem F ps A c (k : Int) wr (H.out.below hBw) HT.out (by omega)
          have hxl : (choiceV ps k).length = ps.length := stepsC_len ps k ps.length
          have hpos := HP.out k (by omega) hlt
          obtain ⟨xs, hxs⟩ : ∃ xs, xs = choiceV ps k := ⟨_, rfl⟩
          rw [← hxs] at hch hxl hpos
          have Hxs := Lib.hid hxs
          have Hch := Lib.hid hch
          have Hpos := Lib.hid hpos
          have Hxl := Lib.hid hxl
          clear hch hpos hxl hxs
          go_wp2_with fail
          refine Hch.out.mono ?_
          rintro e w4 ⟨B4, c4, rfl, hc4, hB4, hx4, hb4⟩
          have hbr4 := hbr.below hb4 hbr.lt
          have hBw4 := hBw.trans (hb4.mono hBw.size)
          have hBr4 := hBr.trans (hb4.mono hBr.size)
          clear q0 q1 q2 q3 Hch hbr hBw hBr hb4
          have q0 : w4.cell? ⟨w.heap.size, 0, none⟩ = some (.string name) := hbr4.cell 0
          have q1 : w4.cell? ⟨w.heap.size, 1, none⟩ = some (.int .i64 mem) := hbr4.cell 1
          have q2 : w4.cell? ⟨w.heap.size, 2, none⟩ = some (.int .i64 F) := hbr4.cell 2
          have q3 : w4.cell? ⟨w.heap.size, 3, none⟩ = some (.slice A ps.length c) := hbr4.cell 3
          have hcl := clashT_c name mem F ps A c xs (some ⟨B4, 0, none⟩) c4 w4 (H.out.below hBw4) hx4 (by omega) (by rw [Hxl.out]; omega)
          rw [Hxl.out] at hcl
          have Hcl := Lib.hid hcl
          clear hcl
          go_wp2_with fail
          refine Hcl.out.mono ?_
          rintro e w5 ⟨q, hq, rfl, hb5⟩
          have hbr5 := hbr4.below hb5 hbr4.lt
          have hBw5 := hBw4.trans (hb5.mono hBw4.size)
          have hBr5 := hBr4.trans (hb5.mono hBr4.size)
          have hx5 := hx4.below hb5
          have hiff := clash_iff HT.out Hpos.out.1 Hpos.out.2 hq
          clear q0 q1 q2 q3 Hcl hbr4 hBw4 hBr4 hb5 hq hx4
          by_cases h120 : q.2 = 120
          · rw [decide_eq_true h120]
            have hno : ¬ IsPlan ps xs := fun h => hiff.2 h h120
            have hall2 : ∀ j : Int, 0 ≤ j → j < (k + 1 : Nat) → ¬ IsPlan ps (choiceV ps j) := fun j h0 h1 => by
              by_cases e : j = k
              · subst e; rw [← Hxs.out]; exact hno
              · exact hall.out j h0 (by omega)
            have Hall2 := Lib.hid hall2
            clear hall2 hno hiff h120 hall
            go_wp2_with fail
            go_roundw
            case rel => exact ⟨k + 1, by omega, by go_num, hBr5, Hall2.out⟩
            case measure => simp [intOf]; omega
          · rw [decide_eq_false h120]
            have hyes := hiff.1 h120
            obtain ⟨e1, e2, e3, e4⟩ := HD2.out.1 k (by omega) (of_decide_eq_true hdk) (by rw [← Hxs.out]; exact hyes) hall.out
            rw [← Hxs.out] at e1 e4
            have hro5 := Hro.out.below hBr5
            have Hro5 := Lib.hid hro5
            clear hiff h120 hyes hall HD2 Hrc hro5 Hro
            subst e1 e2 e3
            have hsi := sameInts_c po po Ao (some ⟨B4, 0, none⟩) co c4 w5 Hro5.out hx5 (by rw [Hxl.out]; omega) (by rw [Hxl.out]; omega)
            have hft : ∀ W, Below w5.heap.size w5 W → Calls Try.prog 27 #[.agg #[.string name, .int .i64 mem, .int .i64 F, .slice A ps.length c], .slice Ao po.length co] W fun e w' => e = .returned (.bool true) ∧ Below W.heap.size W w' := fun W hb => by
              have := fits_c name mem F ps A c po Ao co W (H.out.below (hBw5.trans (hb.mono hBw5.size))) (Hro5.out.below hb) hco hl (by rw [Hxl.out]; omega)
              rwa [e4] at this
            rw [Hxl.out, decide_eq_true rfl] at hsi
            rw [Hxl.out] at hft
            have Hsi := Lib.hid hsi
            have Hft := Lib.hid hft
            have Hxl2 := Hxl
            clear hsi hft e4 hcc
            rw [Hxl.out]
            rw [Hxl.out] at hco
            clear Hxl
            go_wp2_with fail
            refine Hsi.out.mono ?_
            rintro e w6 ⟨rfl, hb6⟩
            have hbr6 := hbr5.below hb6 hbr5.lt
            have hBw6 := hBw5.trans (hb6.mono hBw5.size)
            have q0 : w6.cell? ⟨w.heap.size, 0, none⟩ = some (.string name) := hbr6.cell 0
            have q1 : w6.cell? ⟨w.heap.size, 1, none⟩ = some (.int .i64 mem) := hbr6.cell 1
            have q2 : w6.cell? ⟨w.heap.size, 2, none⟩ = some (.int .i64 F) := hbr6.cell 2
            have q3 : w6.cell? ⟨w.heap.size, 3, none⟩ = some (.slice A ps.length c) := hbr6.cell 3
            have hf6 := Hft.out w6 hb6
            have Hf6 := Lib.hid hf6
            clear hf6 Hsi Hft hb6 hbr5 hBw5
            go_wp2_with fail
            refine Hf6.out.mono ?_
            rintro e w7 ⟨rfl, hb7⟩
            have hBw7 := hBw6.trans (hb7.mono hBw6.size)
            clear q0 q1 q2 q3 Hf6 hb7 hbr6 hBw6
            go_wp2_with fail
            go_ret
            exact ⟨rfl, hBw7⟩
        · have hdk : decide ((k : Int) < N) = false := decide_eq_false hlt
          have hkN : (k : Int) = N := by omega
          obtain ⟨e1, e2, e3⟩ := HD2.out.2 (fun i a b => hall.out i a (by omega))
          have hrk : RdK W3 Ac pc := Hrc.out.keep fun b ⟨_, o, g2, _⟩ => ⟨fun _ => rfl, (Array.getElem?_eq_some_iff.1 g2).1⟩
          have hpl2 : pc.length ≤ 9223372036854775807 := by omega
          have hck := check_c name mem F ps A c pc Ac cc wr (H.out.below hBw) (RdK.keep' hBr hrk) hl hpl2
          rw [e3] at hck
          subst e1 e2
          have Hck := Lib.hid hck
          clear hck hpl2 hrk e3 hkN hlt Hro Hrc HD2 hall
          go_wp2_with fail
          refine Hck.out.mono ?_
          rintro e w4 ⟨rfl, hb4⟩
          have hBw4 := hBw.trans (hb4.mono hBw.size)
          clear q0 q1 q2 q3 Hck hbr hBw hBr hb4
          go_wp2_with fail
          go_ret
          exact ⟨rfl, hBw4⟩

-- THE ROW
set_option maxRecDepth 100000 in
theorem planDecides_lifted (os : Os) (started : os.Started) (H : Type) (enc : TypeId × Value → H) :
    ReturnsInHanded {} Try.checked os 10 .any (Rows.planDecidesSpec.pre6 enc Try.prog Try.f10 Rows.planDecidesRow.domain false) (Rows.planDecidesSpec.post enc Try.prog Try.f10 false true false false) := by
  refine returnsInHanded_of_change_sized (C := Try.checked) own started (by kernel_rfl) Try.func10
    (ChangeSpec.witness6 (enc := enc) (C := Try.checked) false ⟨#[], #[.agg #[.string ⟨#[]⟩, .int .i64 0, .int .i64 0, .slice none 0 0]], []⟩ 8 (by kernel_rfl) (by kernel_rfl) (by kernel_rfl) (by kernel_rfl)) ?_
  intro W base args ds gs before hval0 hW hcnd hsz0 _
  have hval : ∀ (j : Nat) t v, Try.f10.params[j]? = some t → args[j]? = some v → Value.okWide Try.prog W .any base t v := hval0
  have hW' := hW
  obtain ⟨p, q, hA0, hV, rfl, hfz, hnd⟩ := hW
  have hA : DataW.TrodAll enc Try.prog W 0 (fun _ => true) true Try.f10.params.toList args.toList ds p := hA0
  rw [Try.params10] at hA hval
  obtain ⟨v0, vs0, d0, ds0, p0, q0, hargs, rfl, rfl, h0, r0⟩ := trodAll_cons hA
  obtain ⟨rfl, rfl, rfl⟩ := trodAll_nil r0
  obtain rfl : args = #[v0] := by cases args; simp_all
  obtain ⟨name0, mem0, frame0, A0, c0, l0, rfl, km0, kf0, hlc0, hcm0, hR0, hP0⟩ := open_module (hval 0 24 v0 rfl rfl) h0
  have hsz := hsz0
  rw [Try.params10] at hsz
  have hz0 := sz_module (hval 0 24 _ rfl rfl) h0 (fun n hn => by simpa using List.all_eq_true.1 hsz n (DataW.weights_mem_each (j := 0) (t := 24) rfl rfl n hn)) rfl
  clear hA0 hval0
  refine (decides_walk name0 mem0 frame0 l0 A0 c0 W hR0 hz0).mono fun e W' ⟨he, hg⟩ => ?_
  subst he
  refine ⟨_, rfl, law_post (tb := 4) laid ?_ ?_ Try.underlying4 rfl hW' ⟨rfl, rfl, rfl⟩ hg⟩
  · rw [Try.params10]; intro t ht; simp at ht; subst ht; exact ⟨by kernel_rfl, of_decide_eq_true (by kernel_rfl)⟩
  · kernel_rfl

theorem planDecides_holds : Rows.PlanDecidesSaid :=
  OpenClaim.holds_of_wide 10 Try.f10 rfl rfl rfl rfl rfl rfl rfl ⟨rfl, rfl, rfl, rfl, rfl⟩ rfl rfl rfl rfl rfl (by kernel_rfl) Try.func10 (by kernel_rfl)
    (of_decide_eq_true (by kernel_rfl)) (by unfold Func.isWrapper; first | (rw [if_pos (by decide +kernel)]; kernel_rfl) | (rw [if_neg (by decide +kernel)]; exact ⟨rfl, rfl⟩))
    (fun os started H enc _ => planDecides_lifted os started H enc)
#print axioms planDecides_holds
end Go.Proofs.Ytlmbffnmjfbglab
