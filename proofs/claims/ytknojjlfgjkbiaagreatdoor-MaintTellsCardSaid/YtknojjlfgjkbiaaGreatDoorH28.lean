/- Texts R6, joined. -/
import Derived.Test.YtknojjlfgjkbiaaGreatDoorH20
set_option linter.unusedSimpArgs false
set_option linter.unusedVariables false
set_option linter.unusedSectionVars false
/- The reference's parser: cause. -/
namespace Go.Proofs.YtknojjlfgjkbiaaGreatDoor
open Go.ChangeShapes Go.WideShapes Go.ChangeAt Go.RowKit
attribute [local go_sem] Oper.semAt_some

set_option maxRecDepth 100000 in
set_option maxHeartbeats 4000000 in
theorem cause_c (cs : Cs) (g : Nat) (A : Option Addr) (c : Nat) (ts : List Tok) (now : Nat) (sz : Int) (w : World) (h : InB w g A c ts now sz) (hl : ts.length ≤ 100000) (hc : CauseAt ts now cs) :
    Calls Tryz.prog 166 #[.pointer (some ⟨g, 0, none⟩)] w fun e w' => ∃ An cn Ax cx, e = .returned (.agg #[.string cs.unit, .slice An cs.needs.length cn, .slice Ax cs.excl.length cx]) ∧
      OwnCs w' w.heap.size ⟨cs, ⟨An, cs.needs.length, cn⟩, ⟨Ax, cs.excl.length, cx⟩⟩ ∧ InB w' g A c ts (now + 2 + 4 * cs.needs.length + 2 * cs.excl.length) sz ∧ Gr (· = g) w w' := by
  obtain ⟨w0, hw0⟩ : ∃ w0, w0 = w.alloc (.cells #[.string ⟨#[]⟩, .slice none 0 0, .slice none 0 0] 29) := ⟨_, rfl⟩
  have hB0 : Below w.heap.size w w0 := by rw [hw0]; exact (Below.refl _ _).alloc (Nat.le_refl _) _
  have hr0 : Blk w0 w.heap.size 29 #[.string ⟨#[]⟩, .slice none 0 0, .slice none 0 0] := by rw [hw0]; exact Blk.new w _ _
  obtain ⟨hu1, hu2, hu3⟩ := hc.unit
  have hn1 := name_c w0 (h.below hB0) hu1 hl hu2
  rw [hu3] at hn1
  have Hn1 := Lib.hid hn1
  have Hc := Lib.hid hc
  have Hw0 := Lib.hid hw0
  have HB0 := Lib.hid hB0
  have Hr0 := Lib.hid hr0
  have hg := h.lt
  clear h hc hn1 hw0 hB0 hr0 hu1 hu2 hu3
  go_enter Tryz.func166, Tryz.ntmps166
  go_wp2_with fail
  rw [← Hw0.out]
  refine Hn1.out.mono ?_
  rintro e w1 ⟨rfl, hI1, hG1⟩
  obtain ⟨w2, hw2⟩ : ∃ w2, w2 = w1.alloc (.cells #[.string cs.unit, .slice none 0 0, .slice none 0 0] 29) := ⟨_, rfl⟩
  have hs1 : w.heap.size < w1.heap.size := Nat.lt_of_lt_of_le Hr0.out.lt hG1.size
  have hB2 : Below w1.heap.size w1 w2 := by rw [hw2]; exact (Below.refl _ _).alloc (Nat.le_refl _) _
  have hS2 : CauSt w g w1.heap.size A c ts sz cs.unit [] (.slice none 0 0) [] (.slice none 0 0) (now + 1) w2 :=
    ⟨hI1.below hB2, ((Gr.of_below HB0.out).trans (hG1)).trans (Gr.of_below hB2), hg, (hG1.blk Hr0.out (by omega)).below hB2 hs1, by rw [hw2]; exact Blk.new w1 _ _, hs1, World.ownsRow_nil _ _ _ _, World.ownsRow_nil _ _ _ _⟩
  obtain ⟨hy1, hy2⟩ := Hc.out.needs
  have hm1 := must_c sNeeds w2 hS2.inb hy1 hl hy2
  have Hm1 := Lib.hid hm1
  have HS2 := Lib.hid hS2
  have Hw2 := Lib.hid hw2
  clear hm1 hS2 hw2 hB2 hI1 hG1 Hn1 hy1 hy2
  go_wp2_with fail
  rw [← Hw2.out]
  refine Hm1.out.mono ?_
  rintro e w3 ⟨⟨v3, rfl⟩, hI3, hG3⟩
  have HS3 := Lib.hid (HS2.out.next hI3 hG3)
  clear hI3 hG3 Hm1 Hw2 HS2
  go_wp2_with fail
  go_loopw [] (fun wr => ∃ (k : Nat) (vn : Value), k < cs.needs.length ∧ CauSt w g w1.heap.size A c ts sz cs.unit (cs.needs.take k) vn [] (.slice none 0 0) (now + 2 + 4 * k) wr) (fun wr => ts.length - nowOf g wr)
  case atStart => exact ⟨0, _, Hc.out.pos, HS3.out⟩
  case round =>
    clear HS3
    obtain ⟨k, vn, hk, hS⟩ := hrel
    obtain ⟨nd, hnd⟩ : ∃ nd, nd = cs.needs.take k := ⟨_, rfl⟩
    rw [← hnd] at hS
    have hlk : nd.length = k := by rw [hnd]; simp; omega
    have Hnd := Lib.hid hnd
    have Hlk := Lib.hid hlk
    have hlk2 : nd.length ≤ 100000 := by have := (Hc.out.num k hk).1; omega
    clear hnd hlk
    have hnow := hS.inb.nowOf
    obtain ⟨Av, cv, rfl, _⟩ := own_caps hS.nd
    obtain ⟨i0, hi0, hz0, hz1, hz2⟩ := info_parts info46
    obtain ⟨hq1, hq2, hq3⟩ := Hc.out.name k hk
    have hA := name_c wr hS.inb hq1 hl hq2
    rw [hq3] at hA
    have HA := Lib.hid hA
    have HS := Lib.hid hS
    clear hA hS hq1 hq2 hq3
    go_wp2_with fail
    refine HA.out.mono ?_
    rintro e W1 ⟨rfl, hI1, hG1⟩
    obtain ⟨W2, hW2⟩ : ∃ W2, W2 = W1.alloc (.cells #[.string cs.needs[k].unit, .int .i64 0] 32) := ⟨_, rfl⟩
    have hB2 : Below W1.heap.size W1 W2 := by rw [hW2]; exact (Below.refl _ _).alloc (Nat.le_refl _) _
    have hb2 : Blk W2 W1.heap.size 32 #[.string cs.needs[k].unit, .int .i64 0] := by rw [hW2]; exact Blk.new W1 _ _
    obtain ⟨hq1, hq2⟩ := Hc.out.colon k hk
    have hA2 := must_c ⟨#[58]⟩ W2 ((hI1.below hB2 : InB W2 g A c ts _ sz)) (by omega : now + 2 + 4 * k + 1 < ts.length) hl (by simpa [show now + 2 + 4 * k + 1 = now + 3 + 4 * k by omega] using hq2)
    have HA2 := Lib.hid hA2
    have HI1 := Lib.hid hI1
    have HG1 := Lib.hid hG1
    have HB2 := Lib.hid hB2
    have Hb2 := Lib.hid hb2
    have HW2 := Lib.hid hW2
    clear hA2 hI1 hG1 hB2 hb2 hW2 HA hq1 hq2
    go_wp2_with fail
    rw [← HW2.out]
    refine HA2.out.mono ?_
    rintro e W3 ⟨⟨v, rfl⟩, hI3, hG3⟩
    obtain ⟨hq1, hq2, hq3⟩ := Hc.out.num k hk
    have hA3 := num_c cs.needs[k].code W3 hI3 (by omega : now + 2 + 4 * k + 1 + 1 < ts.length) hl (by simpa [show now + 2 + 4 * k + 1 + 1 = now + 4 + 4 * k by omega] using hq2) (by simpa [show now + 2 + 4 * k + 1 + 1 = now + 4 + 4 * k by omega] using hq3)
    have HA3 := Lib.hid hA3
    have HG3 := Lib.hid hG3
    clear hA3 hI3 hG3 HA2 hq1 hq2 hq3 HW2
    go_wp2_with fail
    refine HA3.out.mono ?_
    rintro e W4 ⟨rfl, hI4, hG4⟩
    have hs1 := HG1.out.size
    have hs3 := HG3.out.size
    have hgW : g < W1.heap.size := HI1.out.lt
    have hb4 : Blk W4 W1.heap.size 32 #[.string cs.needs[k].unit, .int .i64 0] := hG4.blk (HG3.out.blk Hb2.out (by omega)) (by omega)
    have hG14 : Gr (· = g) W1 W4 := ((Gr.of_below HB2.out).trans HG3.out).trans hG4
    have hS4 := HS.out.next (hI4.far (p := ⟨W1.heap.size, 1, none⟩) hgW (.int .i64 cs.needs[k].code)) (HG1.out.trans (hG14.far (p := ⟨W1.heap.size, 1, none⟩) (Nat.le_refl _) (.int .i64 cs.needs[k].code)))
    have hb5 : Blk (W4.setCell ⟨W1.heap.size, 1, none⟩ (.int .i64 cs.needs[k].code)) W1.heap.size 32 #[.string cs.needs[k].unit, .int .i64 cs.needs[k].code] := by simpa using hb4.set_ 1 (.int .i64 cs.needs[k].code)
    have hf4 : W4.frozen? ⟨W1.heap.size, 1, none⟩ = false := hb4.frozen 1
    have hc4 : W4.cell? ⟨W1.heap.size, 1, none⟩ = some (.int .i64 0) := hb4.cell 1
    have hBr := HS.out.ltBc
    have k1 : (W4.setCell ⟨W1.heap.size, 1, none⟩ (.int .i64 cs.needs[k].code)).cell? ⟨w1.heap.size, 1, none⟩ = some (.slice Av nd.length cv) := hS4.blk.cell 1
    have j0 : (W4.setCell ⟨W1.heap.size, 1, none⟩ (.int .i64 cs.needs[k].code)).cell? ⟨W1.heap.size, 0, none⟩ = some (.string cs.needs[k].unit) := hb5.cell 0
    have j1 : (W4.setCell ⟨W1.heap.size, 1, none⟩ (.int .i64 cs.needs[k].code)).cell? ⟨W1.heap.size, 1, none⟩ = some (.int .i64 cs.needs[k].code) := hb5.cell 1
    have HS4 := Lib.hid hS4
    clear hb4 hb5 hG14 hS4 hI4 hG4 HA3
    go_wp2_with (at_builtin; refine wpList_append_own _ rfl (.tmp 19) (.tmp 21) 23 rfl w.heap.size 32 i0 (.agg #[.string ⟨#[]⟩, .int .i64 0]) 2 24 Tryz.underlying23 hi0 hz0 hz1 hz2 rfl (by decide) _ _ _ rfl (HS4.out.nd.alloc _) ⟨W4.heap.size, 0, none⟩ 1 1 [.string cs.needs[k].unit, .int .i64 cs.needs[k].code] rfl rfl ?c1 ?c2 ?c3 ?c4 ?c5 ?_)
    case c1 =>
      intro j u' hj
      rw [addr_add_none, Nat.zero_add]
      have hbk := Blk.new (W4.setCell ⟨W1.heap.size, 1, none⟩ (.int .i64 cs.needs[k].code)) 32 #[.string cs.needs[k].unit, .int .i64 cs.needs[k].code]
      have hz4 : (W4.setCell ⟨W1.heap.size, 1, none⟩ (.int .i64 cs.needs[k].code)).heap.size = W4.heap.size := by simp [World.setCell]
      rw [hz4] at hbk
      exact (hbk.cell j).trans (by simpa using hj)
    case c2 => intro u' hu'; simp at hu'; rcases hu' with rfl | rfl <;> rfl
    case c3 => unfold maxLen; omega
    case c4 => omega
    case c5 => have := HS4.out.nd; have := HS4.out.gr.size; simp [World.setCell] at this ⊢; omega
    intro v5 w5 hown5 hg5 _
    obtain ⟨A5, c5, rfl, _⟩ := own_caps hown5
    have hS5 := HS4.out.need cs.needs[k] hown5 hg5
    have e5 : nd ++ [cs.needs[k]] = cs.needs.take (k + 1) := by rw [Hnd.out, List.take_succ_eq_append_getElem hk]
    have hwB : Blk w5 w1.heap.size 29 #[.string cs.unit, .slice Av nd.length cv, .slice none 0 0] :=
      (Gr.of_grown (X := fun j => (Value.slice Av nd.length cv).ownBlock = some j) hg5 (fun j e => e)).blk (HS4.out.blk.alloc (.cells #[.string cs.needs[k].unit, .int .i64 cs.needs[k].code] 32)) (own_blk_ne (HS4.out.nd.alloc (.cells #[.string cs.needs[k].unit, .int .i64 cs.needs[k].code] 32)) (HS4.out.blk.alloc (.cells #[.string cs.needs[k].unit, .int .i64 cs.needs[k].code] 32)) (by decide))
    have b1 : w5.cell? ⟨w1.heap.size, 1, none⟩ = some (.slice Av nd.length cv) := hwB.cell 1
    have bf : w5.frozen? ⟨w1.heap.size, 1, none⟩ = false := hwB.frozen 1
    obtain ⟨hq1, hq2⟩ := Hc.out.comma k hk
    have hq2' : seesB (ts[now + 2 + 4 * k + 1 + 1 + 1]'(by omega)) ⟨#[44]⟩ = decide (k + 1 < cs.needs.length) := by simpa [show now + 2 + 4 * k + 1 + 1 + 1 = now + 5 + 4 * k by omega] using hq2
    have HS5 := Lib.hid hS5
    have He5 := Lib.hid e5
    have Hq1 := Lib.hid hq1
    have Hq2 := Lib.hid hq2'
    clear hS5 e5 hq2 hq2' hwB hown5 hg5 HS4 HG3 HG1 HI1 HB2 Hb2
    by_cases hmore : k + 1 < cs.needs.length
    · have hi := is_yes ⟨#[44]⟩ _ HS5.out.inb (by have := Hq1.out; omega) hl (Hq2.out.trans (decide_eq_true hmore))
      have Hi := Lib.hid hi
      clear hi
      go_wp2_with fail
      refine Hi.out.mono ?_
      rintro e W6 ⟨rfl, hI6, hG6⟩
      have HS6 := Lib.hid (HS5.out.next hI6 hG6)
      have hnow6 := hI6.nowOf
      clear hI6 hG6 Hi
      go_wp2_with fail
      go_roundw
      case rel => exact ⟨k + 1, _, hmore, by rw [← He5.out]; exact (by omega : now + 2 + 4 * k + 1 + 1 + 1 + 1 = now + 2 + 4 * (k + 1)) ▸ HS6.out⟩
      case measure => rw [hnow6, hnow]; have := (Hc.out.comma k hk).1; omega
    · have hi := is_no ⟨#[44]⟩ _ HS5.out.inb (by have := Hq1.out; omega) hl (Hq2.out.trans (decide_eq_false hmore))
      have Hi := Lib.hid hi
      have hkn : k + 1 = cs.needs.length := by omega
      have Hkn := Lib.hid hkn
      clear hi hkn hmore
      go_wp2_with fail
      refine Hi.out.mono ?_
      rintro e W6 ⟨rfl, hb6⟩
      have hS6 := HS5.out.below hb6
      rw [He5.out, Hkn.out, List.take_length] at hS6
      have hp6 : now + 2 + 4 * k + 1 + 1 + 1 = now + 1 + 4 * cs.needs.length := by have := Hkn.out; omega
      rw [hp6] at hS6
      have HS6 := Lib.hid hS6
      clear hS6 hb6 hp6 Hi HS5 He5 Hq1 Hq2
      obtain ⟨hz1', hz2'⟩ := Hc.out.unl
      by_cases hm : 0 < cs.excl.length
      · have hi := is_yes sUnless _ HS6.out.inb hz1' hl (hz2'.trans (decide_eq_true hm))
        have Hi := Lib.hid hi
        clear hi hz1' hz2'
        go_wp2_with fail
        refine Hi.out.mono ?_
        rintro e W7 ⟨rfl, hI7, hG7⟩
        have HS7 := Lib.hid (HS6.out.next hI7 hG7)
        clear hI7 hG7 Hi HS6
        go_wp2_with fail
        obtain ⟨hq3, hq4, hq5⟩ := Hc.out.ex 0 hm
        have hq3' : now + 1 + 4 * cs.needs.length + 1 < ts.length := by omega
        have hnm := name_c W7.drew HS7.out.drew_.inb hq3' hl (by simpa [show now + 1 + 4 * cs.needs.length + 1 = now + 2 + 4 * cs.needs.length + 2 * 0 by omega] using hq4)
        rw [show (ts[now + 1 + 4 * cs.needs.length + 1]'hq3').text = cs.excl[0] by simpa [show now + 1 + 4 * cs.needs.length + 1 = now + 2 + 4 * cs.needs.length + 2 * 0 by omega] using hq5] at hnm
        have Hnm := Lib.hid hnm
        have hx0 : W7.drew.cell? ⟨w1.heap.size, 2, none⟩ = some (.slice none 0 0) := HS7.out.drew_.blk.cell 2
        obtain ⟨vN, hvN⟩ : ∃ vN, vN = Value.slice A5 (nd.length + 1) c5 := ⟨_, rfl⟩
        rw [← hvN] at HS7
        clear hnm hq4 hq5 hvN
        refine wp_region_S (fun W' => W'.cell? ⟨w1.heap.size, 2, none⟩ = some (.slice none 0 0)) 7 (by kernel_rfl) hx0 (fun hHeld => ?_)
        refine wpAnyS_take (i := 0) (v := ?_) rfl (by kernel_rfl) (by kernel_rfl) (by kernel_rfl) (by kernel_rfl) (fun c a w h => h) (Or.inl ⟨by rfl, ?_⟩) hHeld ?_
        rotate_left
        · intro w hSw
          go_simp
          first | done | with_reducible rfl
        simp only [Act.put, List.setIfInBounds_toArray, List.set_cons_zero, List.set_cons_succ]
        refine wpAnyS_take (i := 1) (v := ?_) rfl (by kernel_rfl) (by kernel_rfl) (by kernel_rfl) (by kernel_rfl) (fun c a w h => h) (Or.inl ⟨by rfl, ?_⟩) hHeld ?_
        rotate_left
        · intro w hSw
          go_simp
          first | done | with_reducible rfl
        simp only [Act.put, List.setIfInBounds_toArray, List.set_cons_zero, List.set_cons_succ]
        refine wpAnyS_take (i := 2) (v := ?_) rfl (by kernel_rfl) (by kernel_rfl) (by kernel_rfl) (by kernel_rfl) (fun c a w h => h) (Or.inl ⟨by rfl, ?_⟩) hHeld ?_
        rotate_left
        · intro w hSw
          go_simp
          first | done | with_reducible rfl
        simp only [Act.put, List.setIfInBounds_toArray, List.set_cons_zero, List.set_cons_succ]
        refine wpAnyS_ready (rs := [3]) (by kernel_rfl) (by simp) ?_
        refine AllReadyS.cons rfl (fun K hK => ?_) AllReadyS.nil
        go_simp
        refine Hnm.out.mono ?_
        rintro e W10 ⟨rfl, hI10, hG10⟩
        have hS10 := HS7.out.drew_.next hI10 hG10
        have HS10 := Lib.hid hS10
        have hHeld10 : W10.cell? ⟨w1.heap.size, 2, none⟩ = some (.slice none 0 0) := hS10.blk.cell 2
        refine hK.out _ _ (fun _ => hHeld10) ?_
        clear hK hHeld hI10 hG10 hS10
        refine wpAnyS_ready (rs := [4]) (by kernel_rfl) (by simp) ?_
        refine AllReadyS.cons rfl (fun K hK => ?_) AllReadyS.nil
        go_simp
        have hHeld11 : (W10.alloc (.cells #[.string cs.excl[0]] 9)).cell? ⟨w1.heap.size, 2, none⟩ = some (.slice none 0 0) := (HS10.out.blk.alloc _).cell 2
        refine hK.out _ _ (fun _ => hHeld11) ?_
        clear hK hHeld10
        obtain ⟨j0, hj0, hy0, hy1, hy2⟩ := info_parts info9
        refine wpAnyS_ready (rs := [5]) (by kernel_rfl) (by simp) ?_
        refine AllReadyS.cons rfl (fun K hK => ?_) AllReadyS.nil
        refine step_append_own (by rfl) (.tmp 30) (.tmp 33) 24 (by rfl) w.heap.size 9 j0 (.string ⟨#[]⟩) 1 16 Tryz.underlying24 hj0 hy0 hy1 hy2 rfl (by decide) (.slice none 0 0) 0 _ (by rfl) (HS10.out.ex.alloc _) ⟨W10.heap.size, 0, none⟩ 1 1 [.string cs.excl[0]] (by rfl) (by rfl) ?c1 ?c2 ?c3 ?c4 ?c5 ?_
        case c1 =>
          intro j u' hj
          rw [addr_add_none, Nat.zero_add, (Blk.new W10 9 #[.string cs.excl[0]]).cell j]
          simpa using hj
        case c2 => intro u' hu'; simp at hu'; subst hu'; rfl
        case c3 => unfold maxLen; omega
        case c4 => omega
        case c5 => have := HS10.out.gr.size; simp; omega
        intro v12 W12 hown12 hg12
        have hw12 : Blk W12 w1.heap.size 29 #[.string cs.unit, vN, (.slice none 0 0)] :=
          (Gr.of_grown (X := fun j => ((.slice none 0 0) : Value).ownBlock = some j) hg12 (fun j e => e)).blk (HS10.out.blk.alloc (.cells #[.string cs.excl[0]] 9)) (own_blk_ne (HS10.out.ex.alloc (.cells #[.string cs.excl[0]] 9)) (HS10.out.blk.alloc (.cells #[.string cs.excl[0]] 9)) (by decide))
        have hHeld12 : W12.cell? ⟨w1.heap.size, 2, none⟩ = some (.slice none 0 0) := hw12.cell 2
        have bf12 : W12.frozen? ⟨w1.heap.size, 2, none⟩ = false := hw12.frozen 2
        have HS12 := Lib.hid (HS10.out.exc cs.excl[0] hown12 hg12)
        obtain ⟨A12, c12, rfl, _⟩ := own_caps hown12
        refine hK.out _ _ (fun _ => hHeld12) ?_
        clear hK hHeld11 hown12 hg12 hw12
        refine wpAnyS_takeT (i := 6) (v := ?_) rfl (by kernel_rfl) (by kernel_rfl) (by kernel_rfl) (by kernel_rfl) (fun c a w h => h) (Or.inl ⟨by rfl, ?_⟩) hHeld12 ?_
        rotate_left
        · intro w hSw
          go_simp
          first | done | with_reducible rfl
        simp only [Act.put, List.setIfInBounds_toArray, List.set_cons_zero, List.set_cons_succ]
        refine wpAnyS_ready (rs := [7]) (by kernel_rfl) (by simp) ?_
        refine AllReadyS.cons rfl (fun K hK => ?_) AllReadyS.nil
        go_simp
        refine hK.out _ _ (fun h => absurd h (by decide)) ?_
        clear hK
        refine wpAnyS_done (by kernel_rfl) ?_ _
        go_wp2_with fail
        go_loopw [] (fun wr => ∃ (k : Nat) (vN vX : Value), 0 < k ∧ k ≤ cs.excl.length ∧ CauSt w g w1.heap.size A c ts sz cs.unit cs.needs vN (cs.excl.take k) vX (now + 1 + 4 * cs.needs.length + 2 * k) wr) (fun wr => ts.length - nowOf g wr)
        case atStart => exact ⟨1, vN, _, by omega, hm, by rw [show cs.excl.take 1 = [] ++ [cs.excl[0]] by simpa using List.take_succ_eq_append_getElem hm]; exact HS12.out⟩
        case round =>
          clear HS12 hHeld12 bf12 hx0 hnow hf4 hc4
          obtain ⟨k2, vN2, vX2, hk0, hk2, hS⟩ := hrel
          obtain ⟨e2, he2⟩ : ∃ e2, e2 = cs.excl.take k2 := ⟨_, rfl⟩
          rw [← he2] at hS
          have hle2 : e2.length = k2 := by rw [he2]; simp; omega
          obtain ⟨AX, cX, rfl, _⟩ := own_caps hS.ex
          have hnow2 := hS.inb.nowOf
          obtain ⟨hc1, hc2⟩ := Hc.out.xcomma (k2 - 1) (by omega)
          have hc1' : now + 1 + 4 * cs.needs.length + 2 * k2 < ts.length := by omega
          have hc2' : seesB (ts[now + 1 + 4 * cs.needs.length + 2 * k2]'hc1') ⟨#[44]⟩ = decide (k2 < cs.excl.length) := by
            rw [show decide (k2 < cs.excl.length) = decide (k2 - 1 + 1 < cs.excl.length) by rw [show k2 - 1 + 1 = k2 by omega], ← hc2]
            congr 2; omega
          have He2 := Lib.hid he2
          have Hle2 := Lib.hid hle2
          have hle3 : e2.length ≤ 100000 := by omega
          have HSr := Lib.hid hS
          clear he2 hle2 hS hc1 hc2
          by_cases hm2 : k2 < cs.excl.length
          · have hi := is_yes ⟨#[44]⟩ _ HSr.out.inb hc1' hl (hc2'.trans (decide_eq_true hm2))
            have Hi := Lib.hid hi
            clear hi hc2'
            go_wp2_with fail
            refine Hi.out.mono ?_
            rintro e Wa ⟨rfl, hIa, hGa⟩
            have HSa := Lib.hid (HSr.out.next hIa hGa)
            clear hIa hGa Hi HSr
            go_wp2_with fail
            obtain ⟨hq3, hq4, hq5⟩ := Hc.out.ex k2 hm2
            have hq3' : now + 1 + 4 * cs.needs.length + 2 * k2 + 1 < ts.length := by omega
            have hnm := name_c Wa.drew HSa.out.drew_.inb hq3' hl (by rw [← hq4]; congr 2; omega)
            rw [show (ts[now + 1 + 4 * cs.needs.length + 2 * k2 + 1]'hq3').text = cs.excl[k2] by rw [← hq5]; congr 2; omega] at hnm
            have Hnm2 := Lib.hid hnm
            have hx2 : Wa.drew.cell? ⟨w1.heap.size, 2, none⟩ = some (.slice AX e2.length cX) := HSa.out.drew_.blk.cell 2
            clear hnm hq4 hq5
            refine wp_region_S (fun W' => W'.cell? ⟨w1.heap.size, 2, none⟩ = some (.slice AX e2.length cX)) 7 (by kernel_rfl) hx2 (fun hHeld => ?_)
            refine wpAnyS_take (i := 0) (v := ?_) rfl (by kernel_rfl) (by kernel_rfl) (by kernel_rfl) (by kernel_rfl) (fun c a w h => h) (Or.inl ⟨by rfl, ?_⟩) hHeld ?_
            rotate_left
            · intro w hSw
              go_simp
              first | done | with_reducible rfl
            simp only [Act.put, List.setIfInBounds_toArray, List.set_cons_zero, List.set_cons_succ]
            refine wpAnyS_take (i := 1) (v := ?_) rfl (by kernel_rfl) (by kernel_rfl) (by kernel_rfl) (by kernel_rfl) (fun c a w h => h) (Or.inl ⟨by rfl, ?_⟩) hHeld ?_
            rotate_left
            · intro w hSw
              go_simp
              first | done | with_reducible rfl
            simp only [Act.put, List.setIfInBounds_toArray, List.set_cons_zero, List.set_cons_succ]
            refine wpAnyS_take (i := 2) (v := ?_) rfl (by kernel_rfl) (by kernel_rfl) (by kernel_rfl) (by kernel_rfl) (fun c a w h => h) (Or.inl ⟨by rfl, ?_⟩) hHeld ?_
            rotate_left
            · intro w hSw
              go_simp
              first | done | with_reducible rfl
            simp only [Act.put, List.setIfInBounds_toArray, List.set_cons_zero, List.set_cons_succ]
            refine wpAnyS_ready (rs := [3]) (by kernel_rfl) (by simp) ?_
            refine AllReadyS.cons rfl (fun K hK => ?_) AllReadyS.nil
            go_simp
            refine Hnm2.out.mono ?_
            rintro e W10 ⟨rfl, hI10, hG10⟩
            have hS10 := HSa.out.drew_.next hI10 hG10
            have HS10 := Lib.hid hS10
            have hHeld10 : W10.cell? ⟨w1.heap.size, 2, none⟩ = some (.slice AX e2.length cX) := hS10.blk.cell 2
            refine hK.out _ _ (fun _ => hHeld10) ?_
            clear hK hHeld hI10 hG10 hS10
            refine wpAnyS_ready (rs := [4]) (by kernel_rfl) (by simp) ?_
            refine AllReadyS.cons rfl (fun K hK => ?_) AllReadyS.nil
            go_simp
            have hHeld11 : (W10.alloc (.cells #[.string cs.excl[k2]] 9)).cell? ⟨w1.heap.size, 2, none⟩ = some (.slice AX e2.length cX) := (HS10.out.blk.alloc _).cell 2
            refine hK.out _ _ (fun _ => hHeld11) ?_
            clear hK hHeld10
            obtain ⟨j0, hj0, hy0, hy1, hy2⟩ := info_parts info9
            refine wpAnyS_ready (rs := [5]) (by kernel_rfl) (by simp) ?_
            refine AllReadyS.cons rfl (fun K hK => ?_) AllReadyS.nil
            refine step_append_own (by rfl) (.tmp 39) (.tmp 42) 24 (by rfl) w.heap.size 9 j0 (.string ⟨#[]⟩) 1 16 Tryz.underlying24 hj0 hy0 hy1 hy2 rfl (by decide) (.slice AX e2.length cX) e2.length _ (by rfl) (HS10.out.ex.alloc _) ⟨W10.heap.size, 0, none⟩ 1 1 [.string cs.excl[k2]] (by rfl) (by rfl) ?c1 ?c2 ?c3 ?c4 ?c5 ?_
            case c1 =>
              intro j u' hj
              rw [addr_add_none, Nat.zero_add, (Blk.new W10 9 #[.string cs.excl[k2]]).cell j]
              simpa using hj
            case c2 => intro u' hu'; simp at hu'; subst hu'; rfl
            case c3 => unfold maxLen; omega
            case c4 => omega
            case c5 => have := HS10.out.gr.size; simp; omega
            intro v12 W12 hown12 hg12
            have hw12 : Blk W12 w1.heap.size 29 #[.string cs.unit, vN2, (.slice AX e2.length cX)] :=
              (Gr.of_grown (X := fun j => ((.slice AX e2.length cX) : Value).ownBlock = some j) hg12 (fun j e => e)).blk (HS10.out.blk.alloc (.cells #[.string cs.excl[k2]] 9)) (own_blk_ne (HS10.out.ex.alloc (.cells #[.string cs.excl[k2]] 9)) (HS10.out.blk.alloc (.cells #[.string cs.excl[k2]] 9)) (by decide))
            have hHeld12 : W12.cell? ⟨w1.heap.size, 2, none⟩ = some (.slice AX e2.length cX) := hw12.cell 2
            have bf12 : W12.frozen? ⟨w1.heap.size, 2, none⟩ = false := hw12.frozen 2
            have HS12 := Lib.hid (HS10.out.exc cs.excl[k2] hown12 hg12)
            obtain ⟨A12, c12, rfl, _⟩ := own_caps hown12
            refine hK.out _ _ (fun _ => hHeld12) ?_
            clear hK hHeld11 hown12 hg12 hw12
            refine wpAnyS_takeT (i := 6) (v := ?_) rfl (by kernel_rfl) (by kernel_rfl) (by kernel_rfl) (by kernel_rfl) (fun c a w h => h) (Or.inl ⟨by rfl, ?_⟩) hHeld12 ?_
            rotate_left
            · intro w hSw
              go_simp
              first | done | with_reducible rfl
            simp only [Act.put, List.setIfInBounds_toArray, List.set_cons_zero, List.set_cons_succ]
            refine wpAnyS_ready (rs := [7]) (by kernel_rfl) (by simp) ?_
            refine AllReadyS.cons rfl (fun K hK => ?_) AllReadyS.nil
            go_simp
            refine hK.out _ _ (fun h => absurd h (by decide)) ?_
            clear hK
            refine wpAnyS_done (by kernel_rfl) ?_ _
            have hnow3 := HS12.out.inb.nowOf
            go_wp2_with fail
            go_roundw
            case rel => exact ⟨k2 + 1, _, _, by omega, hm2, by rw [List.take_succ_eq_append_getElem hm2, ← He2.out]; exact (by omega : now + 1 + 4 * cs.needs.length + 2 * k2 + 1 + 1 = now + 1 + 4 * cs.needs.length + 2 * (k2 + 1)) ▸ HS12.out⟩
            case measure => rw [hnow3, hnow2]; omega
          · have hi := is_no ⟨#[44]⟩ _ HSr.out.inb hc1' hl (hc2'.trans (decide_eq_false hm2))
            have Hi := Lib.hid hi
            obtain rfl : k2 = cs.excl.length := by omega
            clear hi hc2' hc1'
            go_wp2_with fail
            refine Hi.out.mono ?_
            rintro e W8 ⟨rfl, hb8⟩
            have hS8 := HSr.out.below hb8
            rw [He2.out, List.take_length] at hS8
            have HS8 := Lib.hid hS8
            clear hS8 hb8 Hi HSr
            obtain ⟨hz1, hz2⟩ := Hc.out.semi
            have hm3 := must_c ⟨#[59]⟩ _ HS8.out.inb hz1 hl hz2
            have Hm3 := Lib.hid hm3
            clear hm3
            go_wp2_with fail
            refine Hm3.out.mono ?_
            rintro e W9 ⟨⟨v9, rfl⟩, hI9, hG9⟩
            have hS9 := HS8.out.next hI9 hG9
            obtain ⟨An, cn, hvn, hn1, hn2⟩ := own_caps hS9.nd
            obtain ⟨Ax, cx, hvx, hx1, hx2⟩ := own_caps hS9.ex
            rw [hvn, hvx] at hS9
            have k0 : W9.cell? ⟨w1.heap.size, 0, none⟩ = some (.string cs.unit) := hS9.blk.cell 0
            have k1 : W9.cell? ⟨w1.heap.size, 1, none⟩ = some (.slice An cs.needs.length cn) := hS9.blk.cell 1
            have k2 : W9.cell? ⟨w1.heap.size, 2, none⟩ = some (.slice Ax cs.excl.length cx) := hS9.blk.cell 2
            have r0 : W9.cell? ⟨w.heap.size, 0, none⟩ = some (.string ⟨#[]⟩) := hS9.res.cell 0
            have r1 : W9.cell? ⟨w.heap.size, 1, none⟩ = some (.slice none 0 0) := hS9.res.cell 1
            have r2 : W9.cell? ⟨w.heap.size, 2, none⟩ = some (.slice none 0 0) := hS9.res.cell 2
            have f0 : W9.frozen? ⟨w.heap.size, 0, none⟩ = false := hS9.res.frozen 0
            have f1 : W9.frozen? ⟨w.heap.size, 1, none⟩ = false := hS9.res.frozen 1
            have f2 : W9.frozen? ⟨w.heap.size, 2, none⟩ = false := hS9.res.frozen 2
            have hne1 := hS9.hBc
            have HS9 := Lib.hid hS9
            clear hS9 hI9 hG9 Hm3 hvn hvx hz1 hz2
            go_wp2_with fail
            have hfin := CauSt.fin (cs := cs) HS9.out hn1 hn2 hx1 hx2
            generalize (((W9.setCell ⟨w.heap.size, 0, none⟩ (.string cs.unit)).setCell ⟨w.heap.size, 1, none⟩ (.slice An cs.needs.length cn)).setCell ⟨w.heap.size, 2, none⟩ (.slice Ax cs.excl.length cx)) = W10 at *
            obtain ⟨z0, z1, z2, hfin⟩ := hfin
            exact bodyPost_ret (v := .agg #[.string cs.unit, .slice An cs.needs.length cn, .slice Ax cs.excl.length cx]) (by simp [results, Tryz.results166, go_sem, z0, z1, z2]) rfl ⟨An, cn, Ax, cx, rfl, hfin.1, (show now + 1 + 4 * cs.needs.length + 2 * cs.excl.length + 1 = now + 2 + 4 * cs.needs.length + 2 * cs.excl.length by omega) ▸ hfin.2.1, hfin.2.2⟩
      · have hi := is_no sUnless _ HS6.out.inb hz1' hl (hz2'.trans (decide_eq_false hm))
        have Hi := Lib.hid hi
        have he0 : cs.excl = [] := List.eq_nil_of_length_eq_zero (by omega)
        have He0 := Lib.hid he0
        clear hi hz1' hz2' he0
        go_wp2_with fail
        refine Hi.out.mono ?_
        rintro e W7 ⟨rfl, hb7⟩
        have HS7 := Lib.hid (HS6.out.below hb7)
        obtain ⟨vN, vX, HS8⟩ : ∃ vN vX, Hid (CauSt w g w1.heap.size A c ts sz cs.unit cs.needs vN cs.excl vX (now + 1 + 4 * cs.needs.length + 2 * cs.excl.length) W7) := ⟨_, _, by have := HS7.out; rw [He0.out]; exact Lib.hid this⟩
        clear hb7 Hi HS6 HS7
        obtain ⟨hz1, hz2⟩ := Hc.out.semi
        have hm3 := must_c ⟨#[59]⟩ _ HS8.out.inb hz1 hl hz2
        have Hm3 := Lib.hid hm3
        clear hm3
        go_wp2_with fail
        refine Hm3.out.mono ?_
        rintro e W9 ⟨⟨v9, rfl⟩, hI9, hG9⟩
        have hS9 := HS8.out.next hI9 hG9
        obtain ⟨An, cn, hvn, hn1, hn2⟩ := own_caps hS9.nd
        obtain ⟨Ax, cx, hvx, hx1, hx2⟩ := own_caps hS9.ex
        rw [hvn, hvx] at hS9
        have k0 : W9.cell? ⟨w1.heap.size, 0, none⟩ = some (.string cs.unit) := hS9.blk.cell 0
        have k1 : W9.cell? ⟨w1.heap.size, 1, none⟩ = some (.slice An cs.needs.length cn) := hS9.blk.cell 1
        have k2 : W9.cell? ⟨w1.heap.size, 2, none⟩ = some (.slice Ax cs.excl.length cx) := hS9.blk.cell 2
        have r0 : W9.cell? ⟨w.heap.size, 0, none⟩ = some (.string ⟨#[]⟩) := hS9.res.cell 0
        have r1 : W9.cell? ⟨w.heap.size, 1, none⟩ = some (.slice none 0 0) := hS9.res.cell 1
        have r2 : W9.cell? ⟨w.heap.size, 2, none⟩ = some (.slice none 0 0) := hS9.res.cell 2
        have f0 : W9.frozen? ⟨w.heap.size, 0, none⟩ = false := hS9.res.frozen 0
        have f1 : W9.frozen? ⟨w.heap.size, 1, none⟩ = false := hS9.res.frozen 1
        have f2 : W9.frozen? ⟨w.heap.size, 2, none⟩ = false := hS9.res.frozen 2
        have hne1 := hS9.hBc
        have HS9 := Lib.hid hS9
        clear hS9 hI9 hG9 Hm3 hvn hvx hz1 hz2
        go_wp2_with fail
        have hfin := CauSt.fin (cs := cs) HS9.out hn1 hn2 hx1 hx2
        generalize (((W9.setCell ⟨w.heap.size, 0, none⟩ (.string cs.unit)).setCell ⟨w.heap.size, 1, none⟩ (.slice An cs.needs.length cn)).setCell ⟨w.heap.size, 2, none⟩ (.slice Ax cs.excl.length cx)) = W10 at *
        obtain ⟨z0, z1, z2, hfin⟩ := hfin
        exact bodyPost_ret (v := .agg #[.string cs.unit, .slice An cs.needs.length cn, .slice Ax cs.excl.length cx]) (by simp [results, Tryz.results166, go_sem, z0, z1, z2]) rfl ⟨An, cn, Ax, cx, rfl, hfin.1, (show now + 1 + 4 * cs.needs.length + 2 * cs.excl.length + 1 = now + 2 + 4 * cs.needs.length + 2 * cs.excl.length by omega) ▸ hfin.2.1, hfin.2.2⟩

end Go.Proofs.YtknojjlfgjkbiaaGreatDoor
