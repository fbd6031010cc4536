/- Texts V0 V2, joined. -/
import Derived.Test.YtknojjlfgjkbiaaGreatDoorM3
set_option linter.unusedSimpArgs false
set_option linter.unusedVariables false
set_option linter.unusedSectionVars false
/- fits (24). -/
namespace Go.Proofs.YtknojjlfgjkbiaaGreatDoor
open Go.ChangeShapes Go.WideShapes Go.ChangeAt Go.RowKit
attribute [local go_sem] Oper.semAt_some

theorem fits_c (ok : Bool) (w : World) : Calls Tryz.prog 24 #[.int .i64 (if ok = true then 0 else 400), .bool ok] w fun e w' => e = .returned (.bool true) ∧ w = w' := by
  cases ok
  · rw [if_neg (by decide)]
    go_enter Tryz.func24, Tryz.ntmps24
    go_wp2_with fail
    go_ret
    exact ⟨rfl, rfl⟩
  · rw [if_pos rfl]
    go_enter Tryz.func24, Tryz.ntmps24
    go_wp2_with fail
    go_ret
    exact ⟨rfl, rfl⟩
end Go.Proofs.YtknojjlfgjkbiaaGreatDoor
/- The reference's Sorted. -/
namespace Go.Proofs.YtknojjlfgjkbiaaGreatDoor
open Go.ChangeShapes Go.WideShapes Go.ChangeAt Go.RowKit
attribute [local go_sem] Oper.semAt_some

theorem atR_eq {out : List Rep} {x : Rep} {j : Nat} (hj : j ≤ out.length) (hb : ∀ i (h : i < out.length), i < j → repLt out[i] x = true) (ha : ∀ h : j < out.length, repLt out[j] x = false) : atR out x = j := by
  unfold atR
  by_cases h : j < out.length
  · rw [List.findIdx_eq h]
    exact ⟨by rw [ha h]; rfl, fun i hi => by rw [hb i (by omega) hi]; rfl⟩
  · have e : j = out.length := by omega
    subst e
    apply List.findIdx_eq_length_of_false
    intro y hy
    obtain ⟨i, hi, rfl⟩ := List.getElem_of_mem hy
    rw [hb i hi hi]; rfl
theorem addR_step (l : List Rep) (k : Nat) (h : k < l.length) : (l.take (k + 1)).foldl addR [] = addR ((l.take k).foldl addR []) l[k] := by
  rw [List.take_succ_eq_append_getElem h, List.foldl_append]; rfl
theorem rdRep_take {w : World} {B : Nat} {A : Option Addr} {l : List Rep} (h : RdRep w B A l) (k : Nat) : RdRep w B A (l.take k) := fun hn => by
  obtain ⟨b, o, rfl, hb, hc⟩ := h (by simp at hn; omega)
  exact ⟨b, o, rfl, hb, fun i hi => by
    have hi' : i < l.length := by simp at hi; omega
    obtain ⟨h1, h2⟩ := hc i hi'
    rw [h1, h2]; simp⟩
theorem slice_lo (A : Option Addr) (n c j : Nat) (h : j ≤ c) (W : World) : (Instr.sliceAt 23 (.slice A n c) none (some (.int .i64 (j : Int))) none).run Tryz.prog W = .ok (.slice A j c) W := by
  have h0 : (0 : Int) ≤ (j : Int) := by omega
  have h1 : (j : Int) ≤ (c : Int) := by omega
  cases A <;> simp [go_sem, h0, h1, sliced, map_add_zero]
theorem slice_hi {w : World} (s : List Rep) (A : Option Addr) (c j : Nat) (hj : j ≤ s.length) (hc : s.length ≤ c) (hr : RdRep w w.heap.size A s) : ∃ AD m cd, (s.drop j).length = m ∧ (∀ W, (Instr.sliceAt 23 (.slice A s.length c) (some (.int .i64 (j : Int))) none none).run Tryz.prog W = .ok (.slice AD m cd) W) ∧ RdRep w w.heap.size AD (s.drop j) := by
  have h0 : (0 : Int) ≤ (j : Int) := by omega
  have h1 : (j : Int) ≤ (s.length : Int) := by omega
  have h2 : (s.length : Int) ≤ (c : Int) := by omega
  cases A with
  | none =>
    have hl0 : s = [] := by
      rcases Nat.eq_zero_or_pos s.length with h | h
      · exact List.eq_nil_of_length_eq_zero h
      · obtain ⟨b, o, e, _⟩ := hr h; cases e
    subst hl0
    have hj0 : j = 0 := by simpa using hj
    subst hj0
    refine ⟨none, 0, c, rfl, fun W => ?_, fun hn => by simp at hn⟩
    have h3 : (0 : Int) ≤ (c : Int) := by omega
    simp [go_sem, h3, sliced]
  | some p =>
    by_cases hcj : c = j
    · have h3 : ((s.length : Int) - (j : Int)).toNat = s.length - j := by omega
      have h4 : ((c : Int) - (j : Int)).toNat = c - j := by omega
      refine ⟨some p, s.length - j, c - j, by simp, fun W => ?_, fun hn => by simp at hn; omega⟩
      simp [go_sem, h0, h1, h2, h3, h4, sliced, hcj]
    refine ⟨some (p.add (j * 2)), s.length - j, c - j, by simp, fun W => ?_, fun hn => ?_⟩
    · have h3 : ((s.length : Int) - (j : Int)).toNat = s.length - j := by omega
      have h4 : ((c : Int) - (j : Int)).toNat = c - j := by omega
      simp [go_sem, h0, h1, h2, h3, h4, sliced]
      exact fun e => absurd e hcj
    · obtain ⟨b, o, e, hb, hcc⟩ := hr (by simp at hn; omega)
      injection e with e
      subst e
      refine ⟨b, o + j * 2, by rw [addr_add_none], hb, fun i hi => ?_⟩
      have hi' : j + i < s.length := by simp at hi; omega
      obtain ⟨q0, q1⟩ := hcc (j + i) hi'
      rw [show o + j * 2 + i * 2 = o + (j + i) * 2 by omega, q0, q1]
      simp
section
attribute [-go_sem] run_sliceAt_slice
set_option maxRecDepth 100000 in
set_option maxHeartbeats 4000000 in
theorem rSorted_c (l : List Rep) (A : Option Addr) (c : Nat) (w : World) (h : RdRep w w.heap.size A l) (hl : l.length ≤ 100000000) :
    Calls Tryz.prog 53 #[.slice A l.length c] w fun e w' => ∃ A' c', e = .returned (.slice A' (sortR l).length c') ∧ RdRep w' w'.heap.size A' (sortR l) ∧ Below w.heap.size w w' := by
  have H := Lib.hid h
  obtain ⟨i0, hi0, hz0, hz1, hz2⟩ := info_parts info46
  clear h
  go_enter Tryz.func53, Tryz.ntmps53
  go_wp2_with fail
  go_loopw [3, 4] (fun v t wr => ∃ k : Nat, k ≤ l.length ∧ t = .int .i64 k ∧ Below w.heap.size w wr ∧ wr.ownsRow w.heap.size 32 2 v ((l.take k).foldl addR []).length (((l.take k).foldl addR []).flatMap Rep.cells)) (fun _ t wr => l.length - (intOf t).toNat)
  case atStart => exact ⟨0, Nat.zero_le _, rfl, Below.refl _ _, World.ownsRow_nil _ _ _ _⟩
  case round =>
    obtain ⟨k, hk, rfl, hB, hown⟩ := hrel
    obtain ⟨Av, cv, rfl, hcv, _⟩ := own_caps hown
    by_cases hlt : k < l.length
    · obtain ⟨bo, oo, hA, hbo, hc⟩ := (H.out.below hB) (by omega)
      subst hA
      obtain ⟨d0, d1⟩ := hc k hlt
      have hst := addR_step l k hlt
      have hsl : ((l.take k).foldl addR []).length ≤ 100000000 := by have := sortR_len (l.take k) []; simp at this; omega
      have hcall := rHasReport_c ((l.take k).foldl addR []) Av cv l[k] wr (rdRep_of_own hown) (by omega)
      have Hst := Lib.hid hst
      have Hcall := Lib.hid hcall
      have Hown := Lib.hid hown
      have HB := Lib.hid hB
      clear hc hst hcall hown hB
      generalize (l.take k).foldl addR [] = s at *
      generalize l[k] = x at *
      cases hq : memB x s with
      | true =>
        rw [hq] at Hcall
        have hn : Hid ((l.take (k + 1)).foldl addR [] = s) := Lib.hid (Hst.out.trans (if_pos (memB_iff.1 hq)))
        clear Hst hq
        go_wp2_with fail
        refine Hcall.out.mono ?_
        rintro e w2 ⟨rfl, hb2⟩
        have HB2 := Lib.hid (HB.out.trans (hb2.mono HB.out.size))
        have Hown2 := Lib.hid (own_keep Hown.out (below_grown (row := none) hb2) (fun r e => by cases e))
        clear hb2
        go_wp2_with fail
        go_roundw
        case rel => exact ⟨k + 1, by omega, by go_num, HB2.out, by rw [hn.out]; exact Hown2.out⟩
        case measure => simp [intOf]; omega
      | false =>
        rw [hq] at Hcall
        have hn : Hid ((l.take (k + 1)).foldl addR [] = insR s x) := Lib.hid (Hst.out.trans (if_neg (fun h => by rw [memB_iff.2 h] at hq; cases hq)))
        clear Hst hq
        go_wp2_with fail
        refine Hcall.out.mono ?_
        rintro e w2 ⟨rfl, hb2⟩
        have HB2 := Lib.hid (HB.out.trans (hb2.mono HB.out.size))
        have Hown2 := Lib.hid (own_keep Hown.out (below_grown (row := none) hb2) (fun r e => by cases e))
        have hz2' := HB2.out.size
        have e0 : w2.cell? ⟨bo, oo + k * 2, none⟩ = some (.string x.unit) := below_cell0 hb2 d0
        have e1 : w2.cell? ⟨bo, oo + k * 2 + 1, none⟩ = some (.int .i64 x.code) := below_cell0 hb2 d1
        have hi0' : (0 : Int) ≤ (k : Int) := by omega
        have hi1' : (k : Int) < (l.length : Int) := by omega
        clear hb2 d0 d1 Hcall HB Hown
        go_wp2_with fail
        go_loopw [5] (fun t wr => ∃ j : Nat, j ≤ s.length ∧ t = .int .i64 j ∧ Below w2.heap.size w2 wr ∧ Hid (∀ i (h : i < s.length), i < j → repLt s[i] x = true)) (fun t wr => s.length - (intOf t).toNat)
        case atStart => exact ⟨0, Nat.zero_le _, rfl, Below.refl _ _, Lib.hid fun i _ h => absurd h (by omega)⟩
        case round =>
          obtain ⟨j, hj, rfl, hb, hdone⟩ := hrel
          have hOwnR := own_keep Hown2.out (below_grown (row := none) hb) (fun r e => by cases e)
          have f0 : wr.cell? ⟨bo, oo + k * 2, none⟩ = some (.string x.unit) := below_cell0 hb e0
          have f1 : wr.cell? ⟨bo, oo + k * 2 + 1, none⟩ = some (.int .i64 x.code) := below_cell0 hb e1
          have HB3 := Lib.hid hb
          have HOwnR := Lib.hid hOwnR
          have hec := ext_cell wr
          have hbo3 := World.block_lt_of_cell? _ _ f0
          clear hb e0 e1
          by_cases hlj : j < s.length
          · obtain ⟨g, og, hA, hg, hgc⟩ := rdRep_of_own hOwnR (by omega)
            subst hA
            obtain ⟨g0, g1⟩ := hgc j hlj
            have hnx : repLt s[j] x = true → ∀ i (h : i < s.length), i < j + 1 → repLt s[i] x = true := fun hq => forall_succ (p := fun r => repLt r x = true) hdone.out hq
            have hat : repLt s[j] x = false → atR s x = j := fun hq => atR_eq hj hdone.out (fun _ => hq)
            have Hnx := Lib.hid hnx
            have Hat := Lib.hid hat
            have q0 : (0 : Int) ≤ (j : Int) := by omega
            have q1 : (j : Int) < (s.length : Int) := by omega
            clear hgc hnx hat hOwnR hdone
            generalize s[j] = y at *
            cases h1 : Op.bytesLess y.unit.toList x.unit.toList with
            | true =>
              have hr := Lib.hid (Hnx.out (by unfold repLt ltS; rw [h1]; rfl))
              clear Hnx Hat
              go_wp2_with fail
              refine wp_region_ext (by kernel_rfl) (by kernel_rfl) ?_
              repeat (go_big_quiet_step (fail))
              refine wpQuiet_nil ?_
              intro _ hw'
              obtain ⟨xx, hw''⟩ := hw'
              subst hw''
              have HB4 := Lib.hid (HB3.out.trans (xx.h.mono HB3.out.size))
              have HOwn4 := Lib.hid (own_keep HOwnR.out (below_grown (row := none) xx.h) (fun r e => by cases e))
              have f0' : xx.w.cell? ⟨bo, oo + k * 2, none⟩ = some (.string x.unit) := below_cell0 xx.h f0
              have f1' : xx.w.cell? ⟨bo, oo + k * 2 + 1, none⟩ = some (.int .i64 x.code) := below_cell0 xx.h f1
              clear hec f0 f1 HOwnR HB3
              generalize xx.w = w4 at *
              go_wp2_with fail
              go_roundw
              case rel => exact ⟨j + 1, by omega, by go_num, HB4.out, hr⟩
              case measure => simp [intOf]; omega
            | false =>
              by_cases h2 : y.unit = x.unit
              · have h3 : (y.unit.toList == x.unit.toList) = true := str_eq h2
                by_cases h4 : y.code < x.code
                · have h5 : decide (y.code < x.code) = true := decide_eq_true h4
                  have hr := Lib.hid (Hnx.out (by unfold repLt ltS; rw [h1, h5, decide_eq_true h2]; rfl))
                  clear Hnx Hat h2 h4
                  go_wp2_with fail
                  refine wp_region_ext (by kernel_rfl) (by kernel_rfl) ?_
                  repeat (go_big_quiet_step (fail))
                  refine wpQuiet_nil ?_
                  intro _ hw'
                  obtain ⟨xx, hw''⟩ := hw'
                  subst hw''
                  have HB4 := Lib.hid (HB3.out.trans (xx.h.mono HB3.out.size))
                  have HOwn4 := Lib.hid (own_keep HOwnR.out (below_grown (row := none) xx.h) (fun r e => by cases e))
                  have f0' : xx.w.cell? ⟨bo, oo + k * 2, none⟩ = some (.string x.unit) := below_cell0 xx.h f0
                  have f1' : xx.w.cell? ⟨bo, oo + k * 2 + 1, none⟩ = some (.int .i64 x.code) := below_cell0 xx.h f1
                  clear hec f0 f1 HOwnR HB3
                  generalize xx.w = w4 at *
                  go_wp2_with fail
                  go_roundw
                  case rel => exact ⟨j + 1, by omega, by go_num, HB4.out, hr⟩
                  case measure => simp [intOf]; omega
                · have h5 : decide (y.code < x.code) = false := decide_eq_false h4
                  have hr := Lib.hid (Hat.out (by unfold repLt ltS; rw [h1, h5, decide_eq_true h2]; rfl))
                  clear Hnx Hat h2 h4
                  go_wp2_with fail
                  refine wp_region_ext (by kernel_rfl) (by kernel_rfl) ?_
                  repeat (go_big_quiet_step (fail))
                  refine wpQuiet_nil ?_
                  intro _ hw'
                  obtain ⟨xx, hw''⟩ := hw'
                  subst hw''
                  have HB4 := Lib.hid (HB3.out.trans (xx.h.mono HB3.out.size))
                  have HOwn4 := Lib.hid (own_keep HOwnR.out (below_grown (row := none) xx.h) (fun r e => by cases e))
                  have f0' : xx.w.cell? ⟨bo, oo + k * 2, none⟩ = some (.string x.unit) := below_cell0 xx.h f0
                  have f1' : xx.w.cell? ⟨bo, oo + k * 2 + 1, none⟩ = some (.int .i64 x.code) := below_cell0 xx.h f1
                  clear hec f0 f1 HOwnR HB3
                  generalize xx.w = w4 at *
                  go_wp2_with fail
                  have HB5 := Lib.hid HB4.out.drew
                  have hHeld : w4.drew.cell? ⟨bo, oo + k * 2, none⟩ = some (.string x.unit) ∧ w4.drew.cell? ⟨bo, oo + k * 2 + 1, none⟩ = some (.int .i64 x.code) := ⟨f0', f1'⟩
                  have hrd : Reads w4.drew w4.drew.heap.size 2 (some ⟨g, og, none⟩) j ((s.take j).flatMap Rep.cells) := by
                    have := reads_rep (rdRep_take (rdRep_of_own HOwn4.out.drew) j)
                    rw [List.length_take_of_le hj] at this
                    exact this
                  obtain ⟨AD, mm, cd, hmm, hs2, hrt⟩ := slice_hi s (some ⟨g, og, none⟩) cv j hj hcv (rdRep_of_own HOwn4.out.drew)
                  have hs1 := slice_lo (some ⟨g, og, none⟩) s.length cv j (Nat.le_trans hj hcv)
                  have hfin : ∀ (W : World) (v : Value), W.ownsRow w.heap.size 32 2 v (j + 1 + mm) ((s.take j).flatMap Rep.cells ++ [.string x.unit, .int .i64 x.code] ++ (s.drop j).flatMap Rep.cells) → W.ownsRow w.heap.size 32 2 v ((l.take (k + 1)).foldl addR []).length (((l.take (k + 1)).foldl addR []).flatMap Rep.cells) := fun W v h => by
                    rw [hn.out]
                    unfold insR
                    rw [hr.out]
                    have e1 : (s.take j ++ x :: s.drop j).length = j + 1 + mm := by simp at hmm ⊢; omega
                    have e2 : (s.take j ++ x :: s.drop j).flatMap Rep.cells = (s.take j).flatMap Rep.cells ++ [.string x.unit, .int .i64 x.code] ++ (s.drop j).flatMap Rep.cells := by simp [Rep.cells]
                    rw [e1, e2]
                    exact h
                  have hms : mm ≤ 100000000 := by simp at hmm; omega
                  have Hfin := Lib.hid hfin
                  have Hrt := Lib.hid hrt
                  clear hfin hrt HB4 HOwn4 f0' f1' hr hn
                  refine wp_region_S (fun W' => W'.cell? ⟨bo, oo + k * 2, none⟩ = some (.string x.unit) ∧ W'.cell? ⟨bo, oo + k * 2 + 1, none⟩ = some (.int .i64 x.code)) 15 (by kernel_rfl) hHeld (fun hHeld => ?_)
                  generalize w4.drew = z at *
                  have hHz := hHeld
                  have hbz : bo < z.heap.size := World.block_lt_of_cell? _ _ hHeld.1
                  refine wpAnyS_take (i := 1) (v := ?_) rfl (by kernel_rfl) (by kernel_rfl) (by kernel_rfl) (by kernel_rfl) (fun c a w h => h) (Or.inl ⟨by rfl, ?_⟩) hHeld ?_
                  rotate_left
                  · intro w hSw
                    (try obtain ⟨hSw1, hSw2⟩ := hSw)
                    go_simp
                    first | done | with_reducible rfl
                  simp only [Act.put, List.setIfInBounds_toArray, List.set_cons_zero, List.set_cons_succ]
                  refine wpAnyS_take (i := 2) (v := ?_) rfl (by kernel_rfl) (by kernel_rfl) (by kernel_rfl) (by kernel_rfl) (fun c a w h => h) (Or.inl ⟨by rfl, ?_⟩) hHeld ?_
                  rotate_left
                  · intro w hSw
                    (try obtain ⟨hSw1, hSw2⟩ := hSw)
                    go_simp
                    first | done | with_reducible rfl
                  simp only [Act.put, List.setIfInBounds_toArray, List.set_cons_zero, List.set_cons_succ]
                  refine wpAnyS_take (i := 3) (v := ?_) rfl (by kernel_rfl) (by kernel_rfl) (by kernel_rfl) (by kernel_rfl) (fun c a w h => h) (Or.inl ⟨by rfl, ?_⟩) hHeld ?_
                  rotate_left
                  · intro w hSw
                    (try obtain ⟨hSw1, hSw2⟩ := hSw)
                    go_simp
                    first | done | with_reducible rfl
                  simp only [Act.put, List.setIfInBounds_toArray, List.set_cons_zero, List.set_cons_succ]
                  refine wpAnyS_take (i := 5) (v := ?_) rfl (by kernel_rfl) (by kernel_rfl) (by kernel_rfl) (by kernel_rfl) (fun c a w h => h) (Or.inl ⟨by rfl, ?_⟩) hHeld ?_
                  rotate_left
                  · intro w hSw
                    (try obtain ⟨hSw1, hSw2⟩ := hSw)
                    go_simp
                    first | done | with_reducible rfl
                  simp only [Act.put, List.setIfInBounds_toArray, List.set_cons_zero, List.set_cons_succ]
                  refine wpAnyS_take (i := 6) (v := ?_) rfl (by kernel_rfl) (by kernel_rfl) (by kernel_rfl) (by kernel_rfl) (fun c a w h => h) (Or.inl ⟨by rfl, ?_⟩) hHeld ?_
                  rotate_left
                  · intro w hSw
                    (try obtain ⟨hSw1, hSw2⟩ := hSw)
                    go_simp
                    first | done | with_reducible rfl
                  simp only [Act.put, List.setIfInBounds_toArray, List.set_cons_zero, List.set_cons_succ]
                  refine wpAnyS_take (i := 7) (v := ?_) rfl (by kernel_rfl) (by kernel_rfl) (by kernel_rfl) (by kernel_rfl) (fun c a w h => h) (Or.inl ⟨by rfl, ?_⟩) hHeld ?_
                  rotate_left
                  · intro w hSw
                    (try obtain ⟨hSw1, hSw2⟩ := hSw)
                    go_simp
                    first | done | with_reducible rfl
                  simp only [Act.put, List.setIfInBounds_toArray, List.set_cons_zero, List.set_cons_succ]
                  refine wpAnyS_take (i := 8) (v := ?_) rfl (by kernel_rfl) (by kernel_rfl) (by kernel_rfl) (by kernel_rfl) (fun c a w h => h) (Or.inl ⟨by rfl, ?_⟩) hHeld ?_
                  rotate_left
                  · intro w hSw
                    (try obtain ⟨hSw1, hSw2⟩ := hSw)
                    go_simp
                    first | done | with_reducible rfl
                  simp only [Act.put, List.setIfInBounds_toArray, List.set_cons_zero, List.set_cons_succ]
                  refine wpAnyS_take (i := 11) (v := ?_) rfl (by kernel_rfl) (by kernel_rfl) (by kernel_rfl) (by kernel_rfl) (fun c a w h => h) (Or.inl ⟨by rfl, ?_⟩) hHeld ?_
                  rotate_left
                  · intro w hSw
                    (try obtain ⟨hSw1, hSw2⟩ := hSw)
                    go_simp
                    first | done | with_reducible rfl
                  simp only [Act.put, List.setIfInBounds_toArray, List.set_cons_zero, List.set_cons_succ]
                  refine wpAnyS_take (i := 12) (v := ?_) rfl (by kernel_rfl) (by kernel_rfl) (by kernel_rfl) (by kernel_rfl) (fun c a w h => h) (Or.inl ⟨by rfl, ?_⟩) hHeld ?_
                  rotate_left
                  · intro w hSw
                    (try obtain ⟨hSw1, hSw2⟩ := hSw)
                    go_simp
                    first | done | with_reducible rfl
                  simp only [Act.put, List.setIfInBounds_toArray, List.set_cons_zero, List.set_cons_succ]
                  refine wpAnyS_take (i := 13) (v := ?_) rfl (by kernel_rfl) (by kernel_rfl) (by kernel_rfl) (by kernel_rfl) (fun c a w h => h) (Or.inl ⟨by rfl, ?_⟩) hHeld ?_
                  rotate_left
                  · intro w hSw
                    (try obtain ⟨hSw1, hSw2⟩ := hSw)
                    go_simp
                    first | done | with_reducible rfl
                  simp only [Act.put, List.setIfInBounds_toArray, List.set_cons_zero, List.set_cons_succ]
                  refine wpAnyS_ready (rs := [0, 9]) (by kernel_rfl) (by simp) ?_
                  refine AllReadyS.cons rfl (fun K hK => ?_) (AllReadyS.cons rfl (fun K hK => ?_) AllReadyS.nil)
                  · go_simp
                    have hal1 := fun (p : Addr) (y : Value) (hp : z.cell? p = some y) => (World.cell?_alloc_lt z (.cells #[] 32) p (World.block_lt_of_cell? _ _ hp)).trans hp
                    have hHeld1 := And.intro (hal1 _ _ hHeld.1) (hal1 _ _ hHeld.2)
                    refine hK.out _ _ (fun _ => hHeld1) ?_
                    clear hK hal1 K hHeld
                    have hHeld := hHeld1
                    try simp only [Act.put, List.setIfInBounds_toArray, List.set_cons_zero, List.set_cons_succ]
                    have hown1 := World.ownsRow_made (base := z.heap.size) (e := 32) (size := 2) z #[] 0 (Nat.le_refl _) (by simp [maxLen]) rfl
                    refine wpAnyS_ready (rs := [4, 9]) (by kernel_rfl) (by simp) ?_
                    refine AllReadyS.cons rfl (fun K hK => ?_) (AllReadyS.cons rfl (fun K hK => ?_) AllReadyS.nil)
                    · refine step_append_any _ (by rfl) (.tmp 63) (.tmp 66) 23 (by rfl) z.heap.size 32 i0 _ 2 24 Tryz.underlying23 hi0 hz0 hz1 hz2 rfl (by decide) _ 0 [] (by rfl) (hown1) z.heap.size (some ⟨g, og, none⟩) j cv ((s.take j).flatMap Rep.cells) (by rfl) (hrd.alloc (Nat.le_refl _) _) (rep_one _) (by unfold maxLen; omega) (by omega) (by simp) ?_
                      intro v3 W3 hown3 hg3 _
                      rw [Nat.zero_add, List.nil_append] at hown3
                      have hbel3 := ((Below.refl _ z).alloc (Nat.le_refl _) (.cells #[] 32)).grown hg3 (by simp) (fun g hg => by simp [Value.ownBlock] at hg; omega)
                      have hHeld3 := And.intro ((hbel3.cell (p := ⟨bo, oo + k * 2, none⟩) hbz).trans hHz.1) ((hbel3.cell (p := ⟨bo, oo + k * 2 + 1, none⟩) hbz).trans hHz.2)
                      refine hK.out _ _ (fun _ => hHeld3) ?_
                      clear hK K hHeld hown1 hg3
                      have hHeld := hHeld3
                      try simp only [Act.put, List.setIfInBounds_toArray, List.set_cons_zero, List.set_cons_succ]
                      refine wpAnyS_ready (rs := [9]) (by kernel_rfl) (by simp) ?_
                      refine AllReadyS.cons rfl (fun K hK => ?_) AllReadyS.nil
                      go_simp
                      have hal5 := fun (p : Addr) (y : Value) (hp : W3.cell? p = some y) => (World.cell?_alloc_lt W3 (.cells #[.string x.unit, .int .i64 x.code] 32) p (World.block_lt_of_cell? _ _ hp)).trans hp
                      have hHeld5 := And.intro (hal5 _ _ hHeld.1) (hal5 _ _ hHeld.2)
                      refine hK.out _ _ (fun _ => hHeld5) ?_
                      clear hK hal5 K hHeld
                      have hHeld := hHeld5
                      try simp only [Act.put, List.setIfInBounds_toArray, List.set_cons_zero, List.set_cons_succ]
                      have hblk : Blk (W3.alloc (.cells #[.string x.unit, .int .i64 x.code] 32)) W3.heap.size 32 #[.string x.unit, .int .i64 x.code] := Blk.new W3 32 _
                      have hown3 := hown3.alloc (.cells #[.string x.unit, .int .i64 x.code] 32)
                      have hbel := hbel3.alloc hbel3.size (.cells #[.string x.unit, .int .i64 x.code] 32)
                      generalize W3.alloc (.cells #[.string x.unit, .int .i64 x.code] 32) = W6 at *
                      generalize W3.heap.size = g98 at *
                      clear hbel3 hrd
                      refine wpAnyS_ready (rs := [10]) (by kernel_rfl) (by simp) ?_
                      refine AllReadyS.cons rfl (fun K hK => ?_) AllReadyS.nil
                      refine step_append_any _ (by rfl) (.tmp 67) (.tmp 72) 23 (by rfl) z.heap.size 32 i0 _ 2 24 Tryz.underlying23 hi0 hz0 hz1 hz2 rfl (by decide) v3 j ((s.take j).flatMap Rep.cells) (by rfl) hown3 (g98 + 1) (some ⟨g98, 0, none⟩) 1 1 [.string x.unit, .int .i64 x.code] (by rfl) ⟨rfl, fun _ => ⟨_, rfl, Nat.lt_succ_self _, blk_flat hblk⟩⟩ (by intro u hu; simp at hu; rcases hu with rfl | rfl <;> rfl) (by unfold maxLen; omega) (by omega) hbel.size ?_
                      intro v6 W7 hown7 hg7 _
                      have hbel7 := hbel.grown hg7 hbel.size (fun g hg => (hown3.lt g hg).1)
                      have hHeld7 := And.intro ((hbel7.cell (p := ⟨bo, oo + k * 2, none⟩) hbz).trans hHz.1) ((hbel7.cell (p := ⟨bo, oo + k * 2 + 1, none⟩) hbz).trans hHz.2)
                      refine hK.out _ _ (fun _ => hHeld7) ?_
                      clear hK K hHeld hown3 hblk hg7
                      have hHeld := hHeld7
                      try simp only [Act.put, List.setIfInBounds_toArray, List.set_cons_zero, List.set_cons_succ]
                      refine wpAnyS_ready (rs := [14]) (by kernel_rfl) (by simp) ?_
                      refine AllReadyS.cons rfl (fun K hK => ?_) AllReadyS.nil
                      refine step_append_any _ (by rfl) (.tmp 73) (.tmp 76) 23 (by rfl) z.heap.size 32 i0 _ 2 24 Tryz.underlying23 hi0 hz0 hz1 hz2 rfl (by decide) v6 (j + 1) _ (by rfl) hown7 W7.heap.size AD mm cd ((s.drop j).flatMap Rep.cells) (by rfl) (by have := reads_rep (Hrt.out.below hbel7); rw [hmm] at this; exact this) (rep_one _) (by unfold maxLen; omega) (by omega) hbel7.size ?_
                      intro v8 W8 hown8 hg8 _
                      have hbel8 := hbel7.grown hg8 hbel7.size (fun g hg => (hown7.lt g hg).1)
                      have hHeld8 := And.intro ((hbel8.cell (p := ⟨bo, oo + k * 2, none⟩) hbz).trans hHz.1) ((hbel8.cell (p := ⟨bo, oo + k * 2 + 1, none⟩) hbz).trans hHz.2)
                      refine hK.out _ _ (fun _ => hHeld8) ?_
                      have HOwn8 := Lib.hid (Hfin.out _ _ (own_base hown8 (Nat.le_trans HB2.out.size HB5.out.size)))
                      have HB8 := Lib.hid (HB2.out.trans ((HB5.out.trans (hbel8.mono HB5.out.size)).mono HB2.out.size))
                      clear hK K hHeld hown7 hown8 hg8 hbel7 hbel8 hHeld7
                      try simp only [Act.put, List.setIfInBounds_toArray, List.set_cons_zero, List.set_cons_succ]
                      refine wpAnyS_ready (rs := [15]) (by kernel_rfl) (by simp) ?_
                      refine AllReadyS.cons rfl (fun K hK => ?_) AllReadyS.nil
                      go_simp
                      refine hK.out _ _ (fun h => absurd h (by decide)) ?_
                      clear hK K hHeld8 hHz
                      refine wpAnyS_done (by kernel_rfl) ?_ _
                      go_wp2_with fail
                      go_roundw
                      case rel => exact ⟨k + 1, by omega, by go_num, HB8.out, HOwn8.out⟩
                      case measure => simp [intOf]; omega
                    · go_simp
                      have hal5 := fun (p : Addr) (y : Value) (hp : (z.alloc (.cells #[] 32)).cell? p = some y) => (World.cell?_alloc_lt (z.alloc (.cells #[] 32)) (.cells #[.string x.unit, .int .i64 x.code] 32) p (World.block_lt_of_cell? _ _ hp)).trans hp
                      have hHeld5 := And.intro (hal5 _ _ hHeld.1) (hal5 _ _ hHeld.2)
                      refine hK.out _ _ (fun _ => hHeld5) ?_
                      clear hK hal5 K hHeld
                      have hHeld := hHeld5
                      try simp only [Act.put, List.setIfInBounds_toArray, List.set_cons_zero, List.set_cons_succ]
                      have hblk := Blk.new (z.alloc (.cells #[] 32)) 32 #[.string x.unit, .int .i64 x.code]
                      rw [World.size_alloc] at hblk
                      have hown1' := hown1.alloc (.cells #[.string x.unit, .int .i64 x.code] 32)
                      refine wpAnyS_ready (rs := [4]) (by kernel_rfl) (by simp) ?_
                      refine AllReadyS.cons rfl (fun K hK => ?_) AllReadyS.nil
                      refine step_append_any _ (by rfl) (.tmp 63) (.tmp 66) 23 (by rfl) z.heap.size 32 i0 _ 2 24 Tryz.underlying23 hi0 hz0 hz1 hz2 rfl (by decide) _ 0 [] (by rfl) (hown1') z.heap.size (some ⟨g, og, none⟩) j cv ((s.take j).flatMap Rep.cells) (by rfl) ((hrd.alloc (Nat.le_refl _) _).alloc (by simp) _) (rep_one _) (by unfold maxLen; omega) (by omega) (by simp; omega) ?_
                      intro v3 W3 hown3 hg3 _
                      rw [Nat.zero_add, List.nil_append] at hown3
                      have hbel := (((Below.refl _ z).alloc (Nat.le_refl _) (.cells #[] 32)).alloc (by simp) (.cells #[.string x.unit, .int .i64 x.code] 32)).grown hg3 (by simp; omega) (fun g hg => by simp [Value.ownBlock] at hg; omega)
                      have hblk := hblk.grown hg3 (by simp [Value.ownBlock])
                      have hHeld3 := And.intro ((hbel.cell (p := ⟨bo, oo + k * 2, none⟩) hbz).trans hHz.1) ((hbel.cell (p := ⟨bo, oo + k * 2 + 1, none⟩) hbz).trans hHz.2)
                      refine hK.out _ _ (fun _ => hHeld3) ?_
                      clear hK K hHeld hown1 hown1' hg3
                      have hHeld := hHeld3
                      try simp only [Act.put, List.setIfInBounds_toArray, List.set_cons_zero, List.set_cons_succ]
                      generalize z.heap.size + 1 = g98 at *
                      clear hrd
                      refine wpAnyS_ready (rs := [10]) (by kernel_rfl) (by simp) ?_
                      refine AllReadyS.cons rfl (fun K hK => ?_) AllReadyS.nil
                      refine step_append_any _ (by rfl) (.tmp 67) (.tmp 72) 23 (by rfl) z.heap.size 32 i0 _ 2 24 Tryz.underlying23 hi0 hz0 hz1 hz2 rfl (by decide) v3 j ((s.take j).flatMap Rep.cells) (by rfl) hown3 (g98 + 1) (some ⟨g98, 0, none⟩) 1 1 [.string x.unit, .int .i64 x.code] (by rfl) ⟨rfl, fun _ => ⟨_, rfl, Nat.lt_succ_self _, blk_flat hblk⟩⟩ (by intro u hu; simp at hu; rcases hu with rfl | rfl <;> rfl) (by unfold maxLen; omega) (by omega) hbel.size ?_
                      intro v6 W7 hown7 hg7 _
                      have hbel7 := hbel.grown hg7 hbel.size (fun g hg => (hown3.lt g hg).1)
                      have hHeld7 := And.intro ((hbel7.cell (p := ⟨bo, oo + k * 2, none⟩) hbz).trans hHz.1) ((hbel7.cell (p := ⟨bo, oo + k * 2 + 1, none⟩) hbz).trans hHz.2)
                      refine hK.out _ _ (fun _ => hHeld7) ?_
                      clear hK K hHeld hown3 hblk hg7
                      have hHeld := hHeld7
                      try simp only [Act.put, List.setIfInBounds_toArray, List.set_cons_zero, List.set_cons_succ]
                      refine wpAnyS_ready (rs := [14]) (by kernel_rfl) (by simp) ?_
                      refine AllReadyS.cons rfl (fun K hK => ?_) AllReadyS.nil
                      refine step_append_any _ (by rfl) (.tmp 73) (.tmp 76) 23 (by rfl) z.heap.size 32 i0 _ 2 24 Tryz.underlying23 hi0 hz0 hz1 hz2 rfl (by decide) v6 (j + 1) _ (by rfl) hown7 W7.heap.size AD mm cd ((s.drop j).flatMap Rep.cells) (by rfl) (by have := reads_rep (Hrt.out.below hbel7); rw [hmm] at this; exact this) (rep_one _) (by unfold maxLen; omega) (by omega) hbel7.size ?_
                      intro v8 W8 hown8 hg8 _
                      have hbel8 := hbel7.grown hg8 hbel7.size (fun g hg => (hown7.lt g hg).1)
                      have hHeld8 := And.intro ((hbel8.cell (p := ⟨bo, oo + k * 2, none⟩) hbz).trans hHz.1) ((hbel8.cell (p := ⟨bo, oo + k * 2 + 1, none⟩) hbz).trans hHz.2)
                      refine hK.out _ _ (fun _ => hHeld8) ?_
                      have HOwn8 := Lib.hid (Hfin.out _ _ (own_base hown8 (Nat.le_trans HB2.out.size HB5.out.size)))
                      have HB8 := Lib.hid (HB2.out.trans ((HB5.out.trans (hbel8.mono HB5.out.size)).mono HB2.out.size))
                      clear hK K hHeld hown7 hown8 hg8 hbel7 hbel8 hHeld7
                      try simp only [Act.put, List.setIfInBounds_toArray, List.set_cons_zero, List.set_cons_succ]
                      refine wpAnyS_ready (rs := [15]) (by kernel_rfl) (by simp) ?_
                      refine AllReadyS.cons rfl (fun K hK => ?_) AllReadyS.nil
                      go_simp
                      refine hK.out _ _ (fun h => absurd h (by decide)) ?_
                      clear hK K hHeld8 hHz
                      refine wpAnyS_done (by kernel_rfl) ?_ _
                      go_wp2_with fail
                      go_roundw
                      case rel => exact ⟨k + 1, by omega, by go_num, HB8.out, HOwn8.out⟩
                      case measure => simp [intOf]; omega
                  · go_simp
                    have hal5 := fun (p : Addr) (y : Value) (hp : z.cell? p = some y) => (World.cell?_alloc_lt z (.cells #[.string x.unit, .int .i64 x.code] 32) p (World.block_lt_of_cell? _ _ hp)).trans hp
                    have hHeld5 := And.intro (hal5 _ _ hHeld.1) (hal5 _ _ hHeld.2)
                    refine hK.out _ _ (fun _ => hHeld5) ?_
                    clear hK hal5 K hHeld
                    have hHeld := hHeld5
                    try simp only [Act.put, List.setIfInBounds_toArray, List.set_cons_zero, List.set_cons_succ]
                    refine wpAnyS_ready (rs := [0]) (by kernel_rfl) (by simp) ?_
                    refine AllReadyS.cons rfl (fun K hK => ?_) AllReadyS.nil
                    have hblk := Blk.new z 32 #[.string x.unit, .int .i64 x.code]
                    go_simp
                    have hal1 := fun (p : Addr) (y : Value) (hp : (z.alloc (.cells #[.string x.unit, .int .i64 x.code] 32)).cell? p = some y) => (World.cell?_alloc_lt (z.alloc (.cells #[.string x.unit, .int .i64 x.code] 32)) (.cells #[] 32) p (World.block_lt_of_cell? _ _ hp)).trans hp
                    have hHeld1 := And.intro (hal1 _ _ hHeld.1) (hal1 _ _ hHeld.2)
                    refine hK.out _ _ (fun _ => hHeld1) ?_
                    clear hK hal1 K hHeld
                    have hHeld := hHeld1
                    try simp only [Act.put, List.setIfInBounds_toArray, List.set_cons_zero, List.set_cons_succ]
                    have hblk := hblk.alloc (.cells #[] 32)
                    have hown1 := World.ownsRow_made (base := z.heap.size) (e := 32) (size := 2) (z.alloc (.cells #[.string x.unit, .int .i64 x.code] 32)) #[] 0 (by simp) (by simp [maxLen]) rfl
                    rw [World.size_alloc] at hown1
                    refine wpAnyS_ready (rs := [4]) (by kernel_rfl) (by simp) ?_
                    refine AllReadyS.cons rfl (fun K hK => ?_) AllReadyS.nil
                    refine step_append_any _ (by rfl) (.tmp 63) (.tmp 66) 23 (by rfl) z.heap.size 32 i0 _ 2 24 Tryz.underlying23 hi0 hz0 hz1 hz2 rfl (by decide) _ 0 [] (by rfl) (hown1) z.heap.size (some ⟨g, og, none⟩) j cv ((s.take j).flatMap Rep.cells) (by rfl) ((hrd.alloc (Nat.le_refl _) _).alloc (by simp) _) (rep_one _) (by unfold maxLen; omega) (by omega) (by simp; omega) ?_
                    intro v3 W3 hown3 hg3 _
                    rw [Nat.zero_add, List.nil_append] at hown3
                    have hbel := (((Below.refl _ z).alloc (Nat.le_refl _) (.cells #[.string x.unit, .int .i64 x.code] 32)).alloc (by simp) (.cells #[] 32)).grown hg3 (by simp; omega) (fun g hg => by simp [Value.ownBlock] at hg; omega)
                    have hblk := hblk.grown hg3 (by simp [Value.ownBlock])
                    have hHeld3 := And.intro ((hbel.cell (p := ⟨bo, oo + k * 2, none⟩) hbz).trans hHz.1) ((hbel.cell (p := ⟨bo, oo + k * 2 + 1, none⟩) hbz).trans hHz.2)
                    refine hK.out _ _ (fun _ => hHeld3) ?_
                    clear hK K hHeld hown1 hg3
                    have hHeld := hHeld3
                    try simp only [Act.put, List.setIfInBounds_toArray, List.set_cons_zero, List.set_cons_succ]
                    generalize z.heap.size = g98 at hblk ⊢
                    clear hrd
                    refine wpAnyS_ready (rs := [10]) (by kernel_rfl) (by simp) ?_
                    refine AllReadyS.cons rfl (fun K hK => ?_) AllReadyS.nil
                    refine step_append_any _ (by rfl) (.tmp 67) (.tmp 72) 23 (by rfl) z.heap.size 32 i0 _ 2 24 Tryz.underlying23 hi0 hz0 hz1 hz2 rfl (by decide) v3 j ((s.take j).flatMap Rep.cells) (by rfl) hown3 (g98 + 1) (some ⟨g98, 0, none⟩) 1 1 [.string x.unit, .int .i64 x.code] (by rfl) ⟨rfl, fun _ => ⟨_, rfl, Nat.lt_succ_self _, blk_flat hblk⟩⟩ (by intro u hu; simp at hu; rcases hu with rfl | rfl <;> rfl) (by unfold maxLen; omega) (by omega) hbel.size ?_
                    intro v6 W7 hown7 hg7 _
                    have hbel7 := hbel.grown hg7 hbel.size (fun g hg => (hown3.lt g hg).1)
                    have hHeld7 := And.intro ((hbel7.cell (p := ⟨bo, oo + k * 2, none⟩) hbz).trans hHz.1) ((hbel7.cell (p := ⟨bo, oo + k * 2 + 1, none⟩) hbz).trans hHz.2)
                    refine hK.out _ _ (fun _ => hHeld7) ?_
                    clear hK K hHeld hown3 hblk hg7
                    have hHeld := hHeld7
                    try simp only [Act.put, List.setIfInBounds_toArray, List.set_cons_zero, List.set_cons_succ]
                    refine wpAnyS_ready (rs := [14]) (by kernel_rfl) (by simp) ?_
                    refine AllReadyS.cons rfl (fun K hK => ?_) AllReadyS.nil
                    refine step_append_any _ (by rfl) (.tmp 73) (.tmp 76) 23 (by rfl) z.heap.size 32 i0 _ 2 24 Tryz.underlying23 hi0 hz0 hz1 hz2 rfl (by decide) v6 (j + 1) _ (by rfl) hown7 W7.heap.size AD mm cd ((s.drop j).flatMap Rep.cells) (by rfl) (by have := reads_rep (Hrt.out.below hbel7); rw [hmm] at this; exact this) (rep_one _) (by unfold maxLen; omega) (by omega) hbel7.size ?_
                    intro v8 W8 hown8 hg8 _
                    have hbel8 := hbel7.grown hg8 hbel7.size (fun g hg => (hown7.lt g hg).1)
                    have hHeld8 := And.intro ((hbel8.cell (p := ⟨bo, oo + k * 2, none⟩) hbz).trans hHz.1) ((hbel8.cell (p := ⟨bo, oo + k * 2 + 1, none⟩) hbz).trans hHz.2)
                    refine hK.out _ _ (fun _ => hHeld8) ?_
                    have HOwn8 := Lib.hid (Hfin.out _ _ (own_base hown8 (Nat.le_trans HB2.out.size HB5.out.size)))
                    have HB8 := Lib.hid (HB2.out.trans ((HB5.out.trans (hbel8.mono HB5.out.size)).mono HB2.out.size))
                    clear hK K hHeld hown7 hown8 hg8 hbel7 hbel8 hHeld7
                    try simp only [Act.put, List.setIfInBounds_toArray, List.set_cons_zero, List.set_cons_succ]
                    refine wpAnyS_ready (rs := [15]) (by kernel_rfl) (by simp) ?_
                    refine AllReadyS.cons rfl (fun K hK => ?_) AllReadyS.nil
                    go_simp
                    refine hK.out _ _ (fun h => absurd h (by decide)) ?_
                    clear hK K hHeld8 hHz
                    refine wpAnyS_done (by kernel_rfl) ?_ _
                    go_wp2_with fail
                    go_roundw
                    case rel => exact ⟨k + 1, by omega, by go_num, HB8.out, HOwn8.out⟩
                    case measure => simp [intOf]; omega
              · have h3 : (y.unit.toList == x.unit.toList) = false := str_ne h2
                have hr := Lib.hid (Hat.out (by unfold repLt ltS; rw [h1, decide_eq_false h2]; rfl))
                clear Hnx Hat h2
                go_wp2_with fail
                refine wp_region_ext (by kernel_rfl) (by kernel_rfl) ?_
                repeat (go_big_quiet_step (fail))
                refine wpQuiet_nil ?_
                intro _ hw'
                obtain ⟨xx, hw''⟩ := hw'
                subst hw''
                have HB4 := Lib.hid (HB3.out.trans (xx.h.mono HB3.out.size))
                have HOwn4 := Lib.hid (own_keep HOwnR.out (below_grown (row := none) xx.h) (fun r e => by cases e))
                have f0' : xx.w.cell? ⟨bo, oo + k * 2, none⟩ = some (.string x.unit) := below_cell0 xx.h f0
                have f1' : xx.w.cell? ⟨bo, oo + k * 2 + 1, none⟩ = some (.int .i64 x.code) := below_cell0 xx.h f1
                clear hec f0 f1 HOwnR HB3
                generalize xx.w = w4 at *
                go_wp2_with fail
                have HB5 := Lib.hid HB4.out.drew
                have hHeld : w4.drew.cell? ⟨bo, oo + k * 2, none⟩ = some (.string x.unit) ∧ w4.drew.cell? ⟨bo, oo + k * 2 + 1, none⟩ = some (.int .i64 x.code) := ⟨f0', f1'⟩
                have hrd : Reads w4.drew w4.drew.heap.size 2 (some ⟨g, og, none⟩) j ((s.take j).flatMap Rep.cells) := by
                  have := reads_rep (rdRep_take (rdRep_of_own HOwn4.out.drew) j)
                  rw [List.length_take_of_le hj] at this
                  exact this
                obtain ⟨AD, mm, cd, hmm, hs2, hrt⟩ := slice_hi s (some ⟨g, og, none⟩) cv j hj hcv (rdRep_of_own HOwn4.out.drew)
                have hs1 := slice_lo (some ⟨g, og, none⟩) s.length cv j (Nat.le_trans hj hcv)
                have hfin : ∀ (W : World) (v : Value), W.ownsRow w.heap.size 32 2 v (j + 1 + mm) ((s.take j).flatMap Rep.cells ++ [.string x.unit, .int .i64 x.code] ++ (s.drop j).flatMap Rep.cells) → W.ownsRow w.heap.size 32 2 v ((l.take (k + 1)).foldl addR []).length (((l.take (k + 1)).foldl addR []).flatMap Rep.cells) := fun W v h => by
                  rw [hn.out]
                  unfold insR
                  rw [hr.out]
                  have e1 : (s.take j ++ x :: s.drop j).length = j + 1 + mm := by simp at hmm ⊢; omega
                  have e2 : (s.take j ++ x :: s.drop j).flatMap Rep.cells = (s.take j).flatMap Rep.cells ++ [.string x.unit, .int .i64 x.code] ++ (s.drop j).flatMap Rep.cells := by simp [Rep.cells]
                  rw [e1, e2]
                  exact h
                have hms : mm ≤ 100000000 := by simp at hmm; omega
                have Hfin := Lib.hid hfin
                have Hrt := Lib.hid hrt
                clear hfin hrt HB4 HOwn4 f0' f1' hr hn
                refine wp_region_S (fun W' => W'.cell? ⟨bo, oo + k * 2, none⟩ = some (.string x.unit) ∧ W'.cell? ⟨bo, oo + k * 2 + 1, none⟩ = some (.int .i64 x.code)) 15 (by kernel_rfl) hHeld (fun hHeld => ?_)
                generalize w4.drew = z at *
                have hHz := hHeld
                have hbz : bo < z.heap.size := World.block_lt_of_cell? _ _ hHeld.1
                refine wpAnyS_take (i := 1) (v := ?_) rfl (by kernel_rfl) (by kernel_rfl) (by kernel_rfl) (by kernel_rfl) (fun c a w h => h) (Or.inl ⟨by rfl, ?_⟩) hHeld ?_
                rotate_left
                · intro w hSw
                  (try obtain ⟨hSw1, hSw2⟩ := hSw)
                  go_simp
                  first | done | with_reducible rfl
                simp only [Act.put, List.setIfInBounds_toArray, List.set_cons_zero, List.set_cons_succ]
                refine wpAnyS_take (i := 2) (v := ?_) rfl (by kernel_rfl) (by kernel_rfl) (by kernel_rfl) (by kernel_rfl) (fun c a w h => h) (Or.inl ⟨by rfl, ?_⟩) hHeld ?_
                rotate_left
                · intro w hSw
                  (try obtain ⟨hSw1, hSw2⟩ := hSw)
                  go_simp
                  first | done | with_reducible rfl
                simp only [Act.put, List.setIfInBounds_toArray, List.set_cons_zero, List.set_cons_succ]
                refine wpAnyS_take (i := 3) (v := ?_) rfl (by kernel_rfl) (by kernel_rfl) (by kernel_rfl) (by kernel_rfl) (fun c a w h => h) (Or.inl ⟨by rfl, ?_⟩) hHeld ?_
                rotate_left
                · intro w hSw
                  (try obtain ⟨hSw1, hSw2⟩ := hSw)
                  go_simp
                  first | done | with_reducible rfl
                simp only [Act.put, List.setIfInBounds_toArray, List.set_cons_zero, List.set_cons_succ]
                refine wpAnyS_take (i := 5) (v := ?_) rfl (by kernel_rfl) (by kernel_rfl) (by kernel_rfl) (by kernel_rfl) (fun c a w h => h) (Or.inl ⟨by rfl, ?_⟩) hHeld ?_
                rotate_left
                · intro w hSw
                  (try obtain ⟨hSw1, hSw2⟩ := hSw)
                  go_simp
                  first | done | with_reducible rfl
                simp only [Act.put, List.setIfInBounds_toArray, List.set_cons_zero, List.set_cons_succ]
                refine wpAnyS_take (i := 6) (v := ?_) rfl (by kernel_rfl) (by kernel_rfl) (by kernel_rfl) (by kernel_rfl) (fun c a w h => h) (Or.inl ⟨by rfl, ?_⟩) hHeld ?_
                rotate_left
                · intro w hSw
                  (try obtain ⟨hSw1, hSw2⟩ := hSw)
                  go_simp
                  first | done | with_reducible rfl
                simp only [Act.put, List.setIfInBounds_toArray, List.set_cons_zero, List.set_cons_succ]
                refine wpAnyS_take (i := 7) (v := ?_) rfl (by kernel_rfl) (by kernel_rfl) (by kernel_rfl) (by kernel_rfl) (fun c a w h => h) (Or.inl ⟨by rfl, ?_⟩) hHeld ?_
                rotate_left
                · intro w hSw
                  (try obtain ⟨hSw1, hSw2⟩ := hSw)
                  go_simp
                  first | done | with_reducible rfl
                simp only [Act.put, List.setIfInBounds_toArray, List.set_cons_zero, List.set_cons_succ]
                refine wpAnyS_take (i := 8) (v := ?_) rfl (by kernel_rfl) (by kernel_rfl) (by kernel_rfl) (by kernel_rfl) (fun c a w h => h) (Or.inl ⟨by rfl, ?_⟩) hHeld ?_
                rotate_left
                · intro w hSw
                  (try obtain ⟨hSw1, hSw2⟩ := hSw)
                  go_simp
                  first | done | with_reducible rfl
                simp only [Act.put, List.setIfInBounds_toArray, List.set_cons_zero, List.set_cons_succ]
                refine wpAnyS_take (i := 11) (v := ?_) rfl (by kernel_rfl) (by kernel_rfl) (by kernel_rfl) (by kernel_rfl) (fun c a w h => h) (Or.inl ⟨by rfl, ?_⟩) hHeld ?_
                rotate_left
                · intro w hSw
                  (try obtain ⟨hSw1, hSw2⟩ := hSw)
                  go_simp
                  first | done | with_reducible rfl
                simp only [Act.put, List.setIfInBounds_toArray, List.set_cons_zero, List.set_cons_succ]
                refine wpAnyS_take (i := 12) (v := ?_) rfl (by kernel_rfl) (by kernel_rfl) (by kernel_rfl) (by kernel_rfl) (fun c a w h => h) (Or.inl ⟨by rfl, ?_⟩) hHeld ?_
                rotate_left
                · intro w hSw
                  (try obtain ⟨hSw1, hSw2⟩ := hSw)
                  go_simp
                  first | done | with_reducible rfl
                simp only [Act.put, List.setIfInBounds_toArray, List.set_cons_zero, List.set_cons_succ]
                refine wpAnyS_take (i := 13) (v := ?_) rfl (by kernel_rfl) (by kernel_rfl) (by kernel_rfl) (by kernel_rfl) (fun c a w h => h) (Or.inl ⟨by rfl, ?_⟩) hHeld ?_
                rotate_left
                · intro w hSw
                  (try obtain ⟨hSw1, hSw2⟩ := hSw)
                  go_simp
                  first | done | with_reducible rfl
                simp only [Act.put, List.setIfInBounds_toArray, List.set_cons_zero, List.set_cons_succ]
                refine wpAnyS_ready (rs := [0, 9]) (by kernel_rfl) (by simp) ?_
                refine AllReadyS.cons rfl (fun K hK => ?_) (AllReadyS.cons rfl (fun K hK => ?_) AllReadyS.nil)
                · go_simp
                  have hal1 := fun (p : Addr) (y : Value) (hp : z.cell? p = some y) => (World.cell?_alloc_lt z (.cells #[] 32) p (World.block_lt_of_cell? _ _ hp)).trans hp
                  have hHeld1 := And.intro (hal1 _ _ hHeld.1) (hal1 _ _ hHeld.2)
                  refine hK.out _ _ (fun _ => hHeld1) ?_
                  clear hK hal1 K hHeld
                  have hHeld := hHeld1
                  try simp only [Act.put, List.setIfInBounds_toArray, List.set_cons_zero, List.set_cons_succ]
                  have hown1 := World.ownsRow_made (base := z.heap.size) (e := 32) (size := 2) z #[] 0 (Nat.le_refl _) (by simp [maxLen]) rfl
                  refine wpAnyS_ready (rs := [4, 9]) (by kernel_rfl) (by simp) ?_
                  refine AllReadyS.cons rfl (fun K hK => ?_) (AllReadyS.cons rfl (fun K hK => ?_) AllReadyS.nil)
                  · refine step_append_any _ (by rfl) (.tmp 63) (.tmp 66) 23 (by rfl) z.heap.size 32 i0 _ 2 24 Tryz.underlying23 hi0 hz0 hz1 hz2 rfl (by decide) _ 0 [] (by rfl) (hown1) z.heap.size (some ⟨g, og, none⟩) j cv ((s.take j).flatMap Rep.cells) (by rfl) (hrd.alloc (Nat.le_refl _) _) (rep_one _) (by unfold maxLen; omega) (by omega) (by simp) ?_
                    intro v3 W3 hown3 hg3 _
                    rw [Nat.zero_add, List.nil_append] at hown3
                    have hbel3 := ((Below.refl _ z).alloc (Nat.le_refl _) (.cells #[] 32)).grown hg3 (by simp) (fun g hg => by simp [Value.ownBlock] at hg; omega)
                    have hHeld3 := And.intro ((hbel3.cell (p := ⟨bo, oo + k * 2, none⟩) hbz).trans hHz.1) ((hbel3.cell (p := ⟨bo, oo + k * 2 + 1, none⟩) hbz).trans hHz.2)
                    refine hK.out _ _ (fun _ => hHeld3) ?_
                    clear hK K hHeld hown1 hg3
                    have hHeld := hHeld3
                    try simp only [Act.put, List.setIfInBounds_toArray, List.set_cons_zero, List.set_cons_succ]
                    refine wpAnyS_ready (rs := [9]) (by kernel_rfl) (by simp) ?_
                    refine AllReadyS.cons rfl (fun K hK => ?_) AllReadyS.nil
                    go_simp
                    have hal5 := fun (p : Addr) (y : Value) (hp : W3.cell? p = some y) => (World.cell?_alloc_lt W3 (.cells #[.string x.unit, .int .i64 x.code] 32) p (World.block_lt_of_cell? _ _ hp)).trans hp
                    have hHeld5 := And.intro (hal5 _ _ hHeld.1) (hal5 _ _ hHeld.2)
                    refine hK.out _ _ (fun _ => hHeld5) ?_
                    clear hK hal5 K hHeld
                    have hHeld := hHeld5
                    try simp only [Act.put, List.setIfInBounds_toArray, List.set_cons_zero, List.set_cons_succ]
                    have hblk : Blk (W3.alloc (.cells #[.string x.unit, .int .i64 x.code] 32)) W3.heap.size 32 #[.string x.unit, .int .i64 x.code] := Blk.new W3 32 _
                    have hown3 := hown3.alloc (.cells #[.string x.unit, .int .i64 x.code] 32)
                    have hbel := hbel3.alloc hbel3.size (.cells #[.string x.unit, .int .i64 x.code] 32)
                    generalize W3.alloc (.cells #[.string x.unit, .int .i64 x.code] 32) = W6 at *
                    generalize W3.heap.size = g98 at *
                    clear hbel3 hrd
                    refine wpAnyS_ready (rs := [10]) (by kernel_rfl) (by simp) ?_
                    refine AllReadyS.cons rfl (fun K hK => ?_) AllReadyS.nil
                    refine step_append_any _ (by rfl) (.tmp 67) (.tmp 72) 23 (by rfl) z.heap.size 32 i0 _ 2 24 Tryz.underlying23 hi0 hz0 hz1 hz2 rfl (by decide) v3 j ((s.take j).flatMap Rep.cells) (by rfl) hown3 (g98 + 1) (some ⟨g98, 0, none⟩) 1 1 [.string x.unit, .int .i64 x.code] (by rfl) ⟨rfl, fun _ => ⟨_, rfl, Nat.lt_succ_self _, blk_flat hblk⟩⟩ (by intro u hu; simp at hu; rcases hu with rfl | rfl <;> rfl) (by unfold maxLen; omega) (by omega) hbel.size ?_
                    intro v6 W7 hown7 hg7 _
                    have hbel7 := hbel.grown hg7 hbel.size (fun g hg => (hown3.lt g hg).1)
                    have hHeld7 := And.intro ((hbel7.cell (p := ⟨bo, oo + k * 2, none⟩) hbz).trans hHz.1) ((hbel7.cell (p := ⟨bo, oo + k * 2 + 1, none⟩) hbz).trans hHz.2)
                    refine hK.out _ _ (fun _ => hHeld7) ?_
                    clear hK K hHeld hown3 hblk hg7
                    have hHeld := hHeld7
                    try simp only [Act.put, List.setIfInBounds_toArray, List.set_cons_zero, List.set_cons_succ]
                    refine wpAnyS_ready (rs := [14]) (by kernel_rfl) (by simp) ?_
                    refine AllReadyS.cons rfl (fun K hK => ?_) AllReadyS.nil
                    refine step_append_any _ (by rfl) (.tmp 73) (.tmp 76) 23 (by rfl) z.heap.size 32 i0 _ 2 24 Tryz.underlying23 hi0 hz0 hz1 hz2 rfl (by decide) v6 (j + 1) _ (by rfl) hown7 W7.heap.size AD mm cd ((s.drop j).flatMap Rep.cells) (by rfl) (by have := reads_rep (Hrt.out.below hbel7); rw [hmm] at this; exact this) (rep_one _) (by unfold maxLen; omega) (by omega) hbel7.size ?_
                    intro v8 W8 hown8 hg8 _
                    have hbel8 := hbel7.grown hg8 hbel7.size (fun g hg => (hown7.lt g hg).1)
                    have hHeld8 := And.intro ((hbel8.cell (p := ⟨bo, oo + k * 2, none⟩) hbz).trans hHz.1) ((hbel8.cell (p := ⟨bo, oo + k * 2 + 1, none⟩) hbz).trans hHz.2)
                    refine hK.out _ _ (fun _ => hHeld8) ?_
                    have HOwn8 := Lib.hid (Hfin.out _ _ (own_base hown8 (Nat.le_trans HB2.out.size HB5.out.size)))
                    have HB8 := Lib.hid (HB2.out.trans ((HB5.out.trans (hbel8.mono HB5.out.size)).mono HB2.out.size))
                    clear hK K hHeld hown7 hown8 hg8 hbel7 hbel8 hHeld7
                    try simp only [Act.put, List.setIfInBounds_toArray, List.set_cons_zero, List.set_cons_succ]
                    refine wpAnyS_ready (rs := [15]) (by kernel_rfl) (by simp) ?_
                    refine AllReadyS.cons rfl (fun K hK => ?_) AllReadyS.nil
                    go_simp
                    refine hK.out _ _ (fun h => absurd h (by decide)) ?_
                    clear hK K hHeld8 hHz
                    refine wpAnyS_done (by kernel_rfl) ?_ _
                    go_wp2_with fail
                    go_roundw
                    case rel => exact ⟨k + 1, by omega, by go_num, HB8.out, HOwn8.out⟩
                    case measure => simp [intOf]; omega
                  · go_simp
                    have hal5 := fun (p : Addr) (y : Value) (hp : (z.alloc (.cells #[] 32)).cell? p = some y) => (World.cell?_alloc_lt (z.alloc (.cells #[] 32)) (.cells #[.string x.unit, .int .i64 x.code] 32) p (World.block_lt_of_cell? _ _ hp)).trans hp
                    have hHeld5 := And.intro (hal5 _ _ hHeld.1) (hal5 _ _ hHeld.2)
                    refine hK.out _ _ (fun _ => hHeld5) ?_
                    clear hK hal5 K hHeld
                    have hHeld := hHeld5
                    try simp only [Act.put, List.setIfInBounds_toArray, List.set_cons_zero, List.set_cons_succ]
                    have hblk := Blk.new (z.alloc (.cells #[] 32)) 32 #[.string x.unit, .int .i64 x.code]
                    rw [World.size_alloc] at hblk
                    have hown1' := hown1.alloc (.cells #[.string x.unit, .int .i64 x.code] 32)
                    refine wpAnyS_ready (rs := [4]) (by kernel_rfl) (by simp) ?_
                    refine AllReadyS.cons rfl (fun K hK => ?_) AllReadyS.nil
                    refine step_append_any _ (by rfl) (.tmp 63) (.tmp 66) 23 (by rfl) z.heap.size 32 i0 _ 2 24 Tryz.underlying23 hi0 hz0 hz1 hz2 rfl (by decide) _ 0 [] (by rfl) (hown1') z.heap.size (some ⟨g, og, none⟩) j cv ((s.take j).flatMap Rep.cells) (by rfl) ((hrd.alloc (Nat.le_refl _) _).alloc (by simp) _) (rep_one _) (by unfold maxLen; omega) (by omega) (by simp; omega) ?_
                    intro v3 W3 hown3 hg3 _
                    rw [Nat.zero_add, List.nil_append] at hown3
                    have hbel := (((Below.refl _ z).alloc (Nat.le_refl _) (.cells #[] 32)).alloc (by simp) (.cells #[.string x.unit, .int .i64 x.code] 32)).grown hg3 (by simp; omega) (fun g hg => by simp [Value.ownBlock] at hg; omega)
                    have hblk := hblk.grown hg3 (by simp [Value.ownBlock])
                    have hHeld3 := And.intro ((hbel.cell (p := ⟨bo, oo + k * 2, none⟩) hbz).trans hHz.1) ((hbel.cell (p := ⟨bo, oo + k * 2 + 1, none⟩) hbz).trans hHz.2)
                    refine hK.out _ _ (fun _ => hHeld3) ?_
                    clear hK K hHeld hown1 hown1' hg3
                    have hHeld := hHeld3
                    try simp only [Act.put, List.setIfInBounds_toArray, List.set_cons_zero, List.set_cons_succ]
                    generalize z.heap.size + 1 = g98 at *
                    clear hrd
                    refine wpAnyS_ready (rs := [10]) (by kernel_rfl) (by simp) ?_
                    refine AllReadyS.cons rfl (fun K hK => ?_) AllReadyS.nil
                    refine step_append_any _ (by rfl) (.tmp 67) (.tmp 72) 23 (by rfl) z.heap.size 32 i0 _ 2 24 Tryz.underlying23 hi0 hz0 hz1 hz2 rfl (by decide) v3 j ((s.take j).flatMap Rep.cells) (by rfl) hown3 (g98 + 1) (some ⟨g98, 0, none⟩) 1 1 [.string x.unit, .int .i64 x.code] (by rfl) ⟨rfl, fun _ => ⟨_, rfl, Nat.lt_succ_self _, blk_flat hblk⟩⟩ (by intro u hu; simp at hu; rcases hu with rfl | rfl <;> rfl) (by unfold maxLen; omega) (by omega) hbel.size ?_
                    intro v6 W7 hown7 hg7 _
                    have hbel7 := hbel.grown hg7 hbel.size (fun g hg => (hown3.lt g hg).1)
                    have hHeld7 := And.intro ((hbel7.cell (p := ⟨bo, oo + k * 2, none⟩) hbz).trans hHz.1) ((hbel7.cell (p := ⟨bo, oo + k * 2 + 1, none⟩) hbz).trans hHz.2)
                    refine hK.out _ _ (fun _ => hHeld7) ?_
                    clear hK K hHeld hown3 hblk hg7
                    have hHeld := hHeld7
                    try simp only [Act.put, List.setIfInBounds_toArray, List.set_cons_zero, List.set_cons_succ]
                    refine wpAnyS_ready (rs := [14]) (by kernel_rfl) (by simp) ?_
                    refine AllReadyS.cons rfl (fun K hK => ?_) AllReadyS.nil
                    refine step_append_any _ (by rfl) (.tmp 73) (.tmp 76) 23 (by rfl) z.heap.size 32 i0 _ 2 24 Tryz.underlying23 hi0 hz0 hz1 hz2 rfl (by decide) v6 (j + 1) _ (by rfl) hown7 W7.heap.size AD mm cd ((s.drop j).flatMap Rep.cells) (by rfl) (by have := reads_rep (Hrt.out.below hbel7); rw [hmm] at this; exact this) (rep_one _) (by unfold maxLen; omega) (by omega) hbel7.size ?_
                    intro v8 W8 hown8 hg8 _
                    have hbel8 := hbel7.grown hg8 hbel7.size (fun g hg => (hown7.lt g hg).1)
                    have hHeld8 := And.intro ((hbel8.cell (p := ⟨bo, oo + k * 2, none⟩) hbz).trans hHz.1) ((hbel8.cell (p := ⟨bo, oo + k * 2 + 1, none⟩) hbz).trans hHz.2)
                    refine hK.out _ _ (fun _ => hHeld8) ?_
                    have HOwn8 := Lib.hid (Hfin.out _ _ (own_base hown8 (Nat.le_trans HB2.out.size HB5.out.size)))
                    have HB8 := Lib.hid (HB2.out.trans ((HB5.out.trans (hbel8.mono HB5.out.size)).mono HB2.out.size))
                    clear hK K hHeld hown7 hown8 hg8 hbel7 hbel8 hHeld7
                    try simp only [Act.put, List.setIfInBounds_toArray, List.set_cons_zero, List.set_cons_succ]
                    refine wpAnyS_ready (rs := [15]) (by kernel_rfl) (by simp) ?_
                    refine AllReadyS.cons rfl (fun K hK => ?_) AllReadyS.nil
                    go_simp
                    refine hK.out _ _ (fun h => absurd h (by decide)) ?_
                    clear hK K hHeld8 hHz
                    refine wpAnyS_done (by kernel_rfl) ?_ _
                    go_wp2_with fail
                    go_roundw
                    case rel => exact ⟨k + 1, by omega, by go_num, HB8.out, HOwn8.out⟩
                    case measure => simp [intOf]; omega
                · go_simp
                  have hal5 := fun (p : Addr) (y : Value) (hp : z.cell? p = some y) => (World.cell?_alloc_lt z (.cells #[.string x.unit, .int .i64 x.code] 32) p (World.block_lt_of_cell? _ _ hp)).trans hp
                  have hHeld5 := And.intro (hal5 _ _ hHeld.1) (hal5 _ _ hHeld.2)
                  refine hK.out _ _ (fun _ => hHeld5) ?_
                  clear hK hal5 K hHeld
                  have hHeld := hHeld5
                  try simp only [Act.put, List.setIfInBounds_toArray, List.set_cons_zero, List.set_cons_succ]
                  refine wpAnyS_ready (rs := [0]) (by kernel_rfl) (by simp) ?_
                  refine AllReadyS.cons rfl (fun K hK => ?_) AllReadyS.nil
                  have hblk := Blk.new z 32 #[.string x.unit, .int .i64 x.code]
                  go_simp
                  have hal1 := fun (p : Addr) (y : Value) (hp : (z.alloc (.cells #[.string x.unit, .int .i64 x.code] 32)).cell? p = some y) => (World.cell?_alloc_lt (z.alloc (.cells #[.string x.unit, .int .i64 x.code] 32)) (.cells #[] 32) p (World.block_lt_of_cell? _ _ hp)).trans hp
                  have hHeld1 := And.intro (hal1 _ _ hHeld.1) (hal1 _ _ hHeld.2)
                  refine hK.out _ _ (fun _ => hHeld1) ?_
                  clear hK hal1 K hHeld
                  have hHeld := hHeld1
                  try simp only [Act.put, List.setIfInBounds_toArray, List.set_cons_zero, List.set_cons_succ]
                  have hblk := hblk.alloc (.cells #[] 32)
                  have hown1 := World.ownsRow_made (base := z.heap.size) (e := 32) (size := 2) (z.alloc (.cells #[.string x.unit, .int .i64 x.code] 32)) #[] 0 (by simp) (by simp [maxLen]) rfl
                  rw [World.size_alloc] at hown1
                  refine wpAnyS_ready (rs := [4]) (by kernel_rfl) (by simp) ?_
                  refine AllReadyS.cons rfl (fun K hK => ?_) AllReadyS.nil
                  refine step_append_any _ (by rfl) (.tmp 63) (.tmp 66) 23 (by rfl) z.heap.size 32 i0 _ 2 24 Tryz.underlying23 hi0 hz0 hz1 hz2 rfl (by decide) _ 0 [] (by rfl) (hown1) z.heap.size (some ⟨g, og, none⟩) j cv ((s.take j).flatMap Rep.cells) (by rfl) ((hrd.alloc (Nat.le_refl _) _).alloc (by simp) _) (rep_one _) (by unfold maxLen; omega) (by omega) (by simp; omega) ?_
                  intro v3 W3 hown3 hg3 _
                  rw [Nat.zero_add, List.nil_append] at hown3
                  have hbel := (((Below.refl _ z).alloc (Nat.le_refl _) (.cells #[.string x.unit, .int .i64 x.code] 32)).alloc (by simp) (.cells #[] 32)).grown hg3 (by simp; omega) (fun g hg => by simp [Value.ownBlock] at hg; omega)
                  have hblk := hblk.grown hg3 (by simp [Value.ownBlock])
                  have hHeld3 := And.intro ((hbel.cell (p := ⟨bo, oo + k * 2, none⟩) hbz).trans hHz.1) ((hbel.cell (p := ⟨bo, oo + k * 2 + 1, none⟩) hbz).trans hHz.2)
                  refine hK.out _ _ (fun _ => hHeld3) ?_
                  clear hK K hHeld hown1 hg3
                  have hHeld := hHeld3
                  try simp only [Act.put, List.setIfInBounds_toArray, List.set_cons_zero, List.set_cons_succ]
                  generalize z.heap.size = g98 at hblk ⊢
                  clear hrd
                  refine wpAnyS_ready (rs := [10]) (by kernel_rfl) (by simp) ?_
                  refine AllReadyS.cons rfl (fun K hK => ?_) AllReadyS.nil
                  refine step_append_any _ (by rfl) (.tmp 67) (.tmp 72) 23 (by rfl) z.heap.size 32 i0 _ 2 24 Tryz.underlying23 hi0 hz0 hz1 hz2 rfl (by decide) v3 j ((s.take j).flatMap Rep.cells) (by rfl) hown3 (g98 + 1) (some ⟨g98, 0, none⟩) 1 1 [.string x.unit, .int .i64 x.code] (by rfl) ⟨rfl, fun _ => ⟨_, rfl, Nat.lt_succ_self _, blk_flat hblk⟩⟩ (by intro u hu; simp at hu; rcases hu with rfl | rfl <;> rfl) (by unfold maxLen; omega) (by omega) hbel.size ?_
                  intro v6 W7 hown7 hg7 _
                  have hbel7 := hbel.grown hg7 hbel.size (fun g hg => (hown3.lt g hg).1)
                  have hHeld7 := And.intro ((hbel7.cell (p := ⟨bo, oo + k * 2, none⟩) hbz).trans hHz.1) ((hbel7.cell (p := ⟨bo, oo + k * 2 + 1, none⟩) hbz).trans hHz.2)
                  refine hK.out _ _ (fun _ => hHeld7) ?_
                  clear hK K hHeld hown3 hblk hg7
                  have hHeld := hHeld7
                  try simp only [Act.put, List.setIfInBounds_toArray, List.set_cons_zero, List.set_cons_succ]
                  refine wpAnyS_ready (rs := [14]) (by kernel_rfl) (by simp) ?_
                  refine AllReadyS.cons rfl (fun K hK => ?_) AllReadyS.nil
                  refine step_append_any _ (by rfl) (.tmp 73) (.tmp 76) 23 (by rfl) z.heap.size 32 i0 _ 2 24 Tryz.underlying23 hi0 hz0 hz1 hz2 rfl (by decide) v6 (j + 1) _ (by rfl) hown7 W7.heap.size AD mm cd ((s.drop j).flatMap Rep.cells) (by rfl) (by have := reads_rep (Hrt.out.below hbel7); rw [hmm] at this; exact this) (rep_one _) (by unfold maxLen; omega) (by omega) hbel7.size ?_
                  intro v8 W8 hown8 hg8 _
                  have hbel8 := hbel7.grown hg8 hbel7.size (fun g hg => (hown7.lt g hg).1)
                  have hHeld8 := And.intro ((hbel8.cell (p := ⟨bo, oo + k * 2, none⟩) hbz).trans hHz.1) ((hbel8.cell (p := ⟨bo, oo + k * 2 + 1, none⟩) hbz).trans hHz.2)
                  refine hK.out _ _ (fun _ => hHeld8) ?_
                  have HOwn8 := Lib.hid (Hfin.out _ _ (own_base hown8 (Nat.le_trans HB2.out.size HB5.out.size)))
                  have HB8 := Lib.hid (HB2.out.trans ((HB5.out.trans (hbel8.mono HB5.out.size)).mono HB2.out.size))
                  clear hK K hHeld hown7 hown8 hg8 hbel7 hbel8 hHeld7
                  try simp only [Act.put, List.setIfInBounds_toArray, List.set_cons_zero, List.set_cons_succ]
                  refine wpAnyS_ready (rs := [15]) (by kernel_rfl) (by simp) ?_
                  refine AllReadyS.cons rfl (fun K hK => ?_) AllReadyS.nil
                  go_simp
                  refine hK.out _ _ (fun h => absurd h (by decide)) ?_
                  clear hK K hHeld8 hHz
                  refine wpAnyS_done (by kernel_rfl) ?_ _
                  go_wp2_with fail
                  go_roundw
                  case rel => exact ⟨k + 1, by omega, by go_num, HB8.out, HOwn8.out⟩
                  case measure => simp [intOf]; omega
          · obtain rfl : j = s.length := by omega
            have hr : Hid (atR s x = s.length) := Lib.hid (atR_eq (Nat.le_refl _) hdone.out (fun h => absurd h (by omega)))
            clear hdone
            go_wp2_with fail
            refine wp_region_ext (by kernel_rfl) (by kernel_rfl) ?_
            repeat (go_big_quiet_step (fail))
            refine wpQuiet_nil ?_
            intro _ hw'
            obtain ⟨xx, hw''⟩ := hw'
            subst hw''
            have HB4 := Lib.hid (HB3.out.trans (xx.h.mono HB3.out.size))
            have HOwn4 := Lib.hid (own_keep HOwnR.out (below_grown (row := none) xx.h) (fun r e => by cases e))
            have f0' : xx.w.cell? ⟨bo, oo + k * 2, none⟩ = some (.string x.unit) := below_cell0 xx.h f0
            have f1' : xx.w.cell? ⟨bo, oo + k * 2 + 1, none⟩ = some (.int .i64 x.code) := below_cell0 xx.h f1
            clear hec f0 f1 HOwnR HB3
            generalize xx.w = w4 at *
            go_wp2_with fail
            have HB5 := Lib.hid HB4.out.drew
            have hHeld : w4.drew.cell? ⟨bo, oo + k * 2, none⟩ = some (.string x.unit) ∧ w4.drew.cell? ⟨bo, oo + k * 2 + 1, none⟩ = some (.int .i64 x.code) := ⟨f0', f1'⟩
            have hrd : Reads w4.drew w4.drew.heap.size 2 Av s.length ((s.take s.length).flatMap Rep.cells) := by
              have := reads_rep (rdRep_take (rdRep_of_own HOwn4.out.drew) s.length)
              rw [List.length_take_of_le hj] at this
              exact this
            obtain ⟨AD, mm, cd, hmm, hs2, hrt⟩ := slice_hi s Av cv s.length hj hcv (rdRep_of_own HOwn4.out.drew)
            have hs1 := slice_lo Av s.length cv s.length (Nat.le_trans hj hcv)
            have hfin : ∀ (W : World) (v : Value), W.ownsRow w.heap.size 32 2 v (s.length + 1 + mm) ((s.take s.length).flatMap Rep.cells ++ [.string x.unit, .int .i64 x.code] ++ (s.drop s.length).flatMap Rep.cells) → W.ownsRow w.heap.size 32 2 v ((l.take (k + 1)).foldl addR []).length (((l.take (k + 1)).foldl addR []).flatMap Rep.cells) := fun W v h => by
              rw [hn.out]
              unfold insR
              rw [hr.out]
              have e1 : (s.take s.length ++ x :: s.drop s.length).length = s.length + 1 + mm := by simp at hmm ⊢; omega
              have e2 : (s.take s.length ++ x :: s.drop s.length).flatMap Rep.cells = (s.take s.length).flatMap Rep.cells ++ [.string x.unit, .int .i64 x.code] ++ (s.drop s.length).flatMap Rep.cells := by simp [Rep.cells]
              rw [e1, e2]
              exact h
            have hms : mm ≤ 100000000 := by simp at hmm; omega
            have Hfin := Lib.hid hfin
            have Hrt := Lib.hid hrt
            clear hfin hrt HB4 HOwn4 f0' f1' hr hn
            refine wp_region_S (fun W' => W'.cell? ⟨bo, oo + k * 2, none⟩ = some (.string x.unit) ∧ W'.cell? ⟨bo, oo + k * 2 + 1, none⟩ = some (.int .i64 x.code)) 15 (by kernel_rfl) hHeld (fun hHeld => ?_)
            generalize w4.drew = z at *
            have hHz := hHeld
            have hbz : bo < z.heap.size := World.block_lt_of_cell? _ _ hHeld.1
            refine wpAnyS_take (i := 1) (v := ?_) rfl (by kernel_rfl) (by kernel_rfl) (by kernel_rfl) (by kernel_rfl) (fun c a w h => h) (Or.inl ⟨by rfl, ?_⟩) hHeld ?_
            rotate_left
            · intro w hSw
              (try obtain ⟨hSw1, hSw2⟩ := hSw)
              go_simp
              first | done | with_reducible rfl
            simp only [Act.put, List.setIfInBounds_toArray, List.set_cons_zero, List.set_cons_succ]
            refine wpAnyS_take (i := 2) (v := ?_) rfl (by kernel_rfl) (by kernel_rfl) (by kernel_rfl) (by kernel_rfl) (fun c a w h => h) (Or.inl ⟨by rfl, ?_⟩) hHeld ?_
            rotate_left
            · intro w hSw
              (try obtain ⟨hSw1, hSw2⟩ := hSw)
              go_simp
              first | done | with_reducible rfl
            simp only [Act.put, List.setIfInBounds_toArray, List.set_cons_zero, List.set_cons_succ]
            refine wpAnyS_take (i := 3) (v := ?_) rfl (by kernel_rfl) (by kernel_rfl) (by kernel_rfl) (by kernel_rfl) (fun c a w h => h) (Or.inl ⟨by rfl, ?_⟩) hHeld ?_
            rotate_left
            · intro w hSw
              (try obtain ⟨hSw1, hSw2⟩ := hSw)
              go_simp
              first | done | with_reducible rfl
            simp only [Act.put, List.setIfInBounds_toArray, List.set_cons_zero, List.set_cons_succ]
            refine wpAnyS_take (i := 5) (v := ?_) rfl (by kernel_rfl) (by kernel_rfl) (by kernel_rfl) (by kernel_rfl) (fun c a w h => h) (Or.inl ⟨by rfl, ?_⟩) hHeld ?_
            rotate_left
            · intro w hSw
              (try obtain ⟨hSw1, hSw2⟩ := hSw)
              go_simp
              first | done | with_reducible rfl
            simp only [Act.put, List.setIfInBounds_toArray, List.set_cons_zero, List.set_cons_succ]
            refine wpAnyS_take (i := 6) (v := ?_) rfl (by kernel_rfl) (by kernel_rfl) (by kernel_rfl) (by kernel_rfl) (fun c a w h => h) (Or.inl ⟨by rfl, ?_⟩) hHeld ?_
            rotate_left
            · intro w hSw
              (try obtain ⟨hSw1, hSw2⟩ := hSw)
              go_simp
              first | done | with_reducible rfl
            simp only [Act.put, List.setIfInBounds_toArray, List.set_cons_zero, List.set_cons_succ]
            refine wpAnyS_take (i := 7) (v := ?_) rfl (by kernel_rfl) (by kernel_rfl) (by kernel_rfl) (by kernel_rfl) (fun c a w h => h) (Or.inl ⟨by rfl, ?_⟩) hHeld ?_
            rotate_left
            · intro w hSw
              (try obtain ⟨hSw1, hSw2⟩ := hSw)
              go_simp
              first | done | with_reducible rfl
            simp only [Act.put, List.setIfInBounds_toArray, List.set_cons_zero, List.set_cons_succ]
            refine wpAnyS_take (i := 8) (v := ?_) rfl (by kernel_rfl) (by kernel_rfl) (by kernel_rfl) (by kernel_rfl) (fun c a w h => h) (Or.inl ⟨by rfl, ?_⟩) hHeld ?_
            rotate_left
            · intro w hSw
              (try obtain ⟨hSw1, hSw2⟩ := hSw)
              go_simp
              first | done | with_reducible rfl
            simp only [Act.put, List.setIfInBounds_toArray, List.set_cons_zero, List.set_cons_succ]
            refine wpAnyS_take (i := 11) (v := ?_) rfl (by kernel_rfl) (by kernel_rfl) (by kernel_rfl) (by kernel_rfl) (fun c a w h => h) (Or.inl ⟨by rfl, ?_⟩) hHeld ?_
            rotate_left
            · intro w hSw
              (try obtain ⟨hSw1, hSw2⟩ := hSw)
              go_simp
              first | done | with_reducible rfl
            simp only [Act.put, List.setIfInBounds_toArray, List.set_cons_zero, List.set_cons_succ]
            refine wpAnyS_take (i := 12) (v := ?_) rfl (by kernel_rfl) (by kernel_rfl) (by kernel_rfl) (by kernel_rfl) (fun c a w h => h) (Or.inl ⟨by rfl, ?_⟩) hHeld ?_
            rotate_left
            · intro w hSw
              (try obtain ⟨hSw1, hSw2⟩ := hSw)
              go_simp
              first | done | with_reducible rfl
            simp only [Act.put, List.setIfInBounds_toArray, List.set_cons_zero, List.set_cons_succ]
            refine wpAnyS_take (i := 13) (v := ?_) rfl (by kernel_rfl) (by kernel_rfl) (by kernel_rfl) (by kernel_rfl) (fun c a w h => h) (Or.inl ⟨by rfl, ?_⟩) hHeld ?_
            rotate_left
            · intro w hSw
              (try obtain ⟨hSw1, hSw2⟩ := hSw)
              go_simp
              first | done | with_reducible rfl
            simp only [Act.put, List.setIfInBounds_toArray, List.set_cons_zero, List.set_cons_succ]
            refine wpAnyS_ready (rs := [0, 9]) (by kernel_rfl) (by simp) ?_
            refine AllReadyS.cons rfl (fun K hK => ?_) (AllReadyS.cons rfl (fun K hK => ?_) AllReadyS.nil)
            · go_simp
              have hal1 := fun (p : Addr) (y : Value) (hp : z.cell? p = some y) => (World.cell?_alloc_lt z (.cells #[] 32) p (World.block_lt_of_cell? _ _ hp)).trans hp
              have hHeld1 := And.intro (hal1 _ _ hHeld.1) (hal1 _ _ hHeld.2)
              refine hK.out _ _ (fun _ => hHeld1) ?_
              clear hK hal1 K hHeld
              have hHeld := hHeld1
              try simp only [Act.put, List.setIfInBounds_toArray, List.set_cons_zero, List.set_cons_succ]
              have hown1 := World.ownsRow_made (base := z.heap.size) (e := 32) (size := 2) z #[] 0 (Nat.le_refl _) (by simp [maxLen]) rfl
              refine wpAnyS_ready (rs := [4, 9]) (by kernel_rfl) (by simp) ?_
              refine AllReadyS.cons rfl (fun K hK => ?_) (AllReadyS.cons rfl (fun K hK => ?_) AllReadyS.nil)
              · refine step_append_any _ (by rfl) (.tmp 63) (.tmp 66) 23 (by rfl) z.heap.size 32 i0 _ 2 24 Tryz.underlying23 hi0 hz0 hz1 hz2 rfl (by decide) _ 0 [] (by rfl) (hown1) z.heap.size Av s.length cv ((s.take s.length).flatMap Rep.cells) (by rfl) (hrd.alloc (Nat.le_refl _) _) (rep_one _) (by unfold maxLen; omega) (by omega) (by simp) ?_
                intro v3 W3 hown3 hg3 _
                rw [Nat.zero_add, List.nil_append] at hown3
                have hbel3 := ((Below.refl _ z).alloc (Nat.le_refl _) (.cells #[] 32)).grown hg3 (by simp) (fun g hg => by simp [Value.ownBlock] at hg; omega)
                have hHeld3 := And.intro ((hbel3.cell (p := ⟨bo, oo + k * 2, none⟩) hbz).trans hHz.1) ((hbel3.cell (p := ⟨bo, oo + k * 2 + 1, none⟩) hbz).trans hHz.2)
                refine hK.out _ _ (fun _ => hHeld3) ?_
                clear hK K hHeld hown1 hg3
                have hHeld := hHeld3
                try simp only [Act.put, List.setIfInBounds_toArray, List.set_cons_zero, List.set_cons_succ]
                refine wpAnyS_ready (rs := [9]) (by kernel_rfl) (by simp) ?_
                refine AllReadyS.cons rfl (fun K hK => ?_) AllReadyS.nil
                go_simp
                have hal5 := fun (p : Addr) (y : Value) (hp : W3.cell? p = some y) => (World.cell?_alloc_lt W3 (.cells #[.string x.unit, .int .i64 x.code] 32) p (World.block_lt_of_cell? _ _ hp)).trans hp
                have hHeld5 := And.intro (hal5 _ _ hHeld.1) (hal5 _ _ hHeld.2)
                refine hK.out _ _ (fun _ => hHeld5) ?_
                clear hK hal5 K hHeld
                have hHeld := hHeld5
                try simp only [Act.put, List.setIfInBounds_toArray, List.set_cons_zero, List.set_cons_succ]
                have hblk : Blk (W3.alloc (.cells #[.string x.unit, .int .i64 x.code] 32)) W3.heap.size 32 #[.string x.unit, .int .i64 x.code] := Blk.new W3 32 _
                have hown3 := hown3.alloc (.cells #[.string x.unit, .int .i64 x.code] 32)
                have hbel := hbel3.alloc hbel3.size (.cells #[.string x.unit, .int .i64 x.code] 32)
                generalize W3.alloc (.cells #[.string x.unit, .int .i64 x.code] 32) = W6 at *
                generalize W3.heap.size = g98 at *
                clear hbel3 hrd
                refine wpAnyS_ready (rs := [10]) (by kernel_rfl) (by simp) ?_
                refine AllReadyS.cons rfl (fun K hK => ?_) AllReadyS.nil
                refine step_append_any _ (by rfl) (.tmp 67) (.tmp 72) 23 (by rfl) z.heap.size 32 i0 _ 2 24 Tryz.underlying23 hi0 hz0 hz1 hz2 rfl (by decide) v3 s.length ((s.take s.length).flatMap Rep.cells) (by rfl) hown3 (g98 + 1) (some ⟨g98, 0, none⟩) 1 1 [.string x.unit, .int .i64 x.code] (by rfl) ⟨rfl, fun _ => ⟨_, rfl, Nat.lt_succ_self _, blk_flat hblk⟩⟩ (by intro u hu; simp at hu; rcases hu with rfl | rfl <;> rfl) (by unfold maxLen; omega) (by omega) hbel.size ?_
                intro v6 W7 hown7 hg7 _
                have hbel7 := hbel.grown hg7 hbel.size (fun g hg => (hown3.lt g hg).1)
                have hHeld7 := And.intro ((hbel7.cell (p := ⟨bo, oo + k * 2, none⟩) hbz).trans hHz.1) ((hbel7.cell (p := ⟨bo, oo + k * 2 + 1, none⟩) hbz).trans hHz.2)
                refine hK.out _ _ (fun _ => hHeld7) ?_
                clear hK K hHeld hown3 hblk hg7
                have hHeld := hHeld7
                try simp only [Act.put, List.setIfInBounds_toArray, List.set_cons_zero, List.set_cons_succ]
                refine wpAnyS_ready (rs := [14]) (by kernel_rfl) (by simp) ?_
                refine AllReadyS.cons rfl (fun K hK => ?_) AllReadyS.nil
                refine step_append_any _ (by rfl) (.tmp 73) (.tmp 76) 23 (by rfl) z.heap.size 32 i0 _ 2 24 Tryz.underlying23 hi0 hz0 hz1 hz2 rfl (by decide) v6 (s.length + 1) _ (by rfl) hown7 W7.heap.size AD mm cd ((s.drop s.length).flatMap Rep.cells) (by rfl) (by have := reads_rep (Hrt.out.below hbel7); rw [hmm] at this; exact this) (rep_one _) (by unfold maxLen; omega) (by omega) hbel7.size ?_
                intro v8 W8 hown8 hg8 _
                have hbel8 := hbel7.grown hg8 hbel7.size (fun g hg => (hown7.lt g hg).1)
                have hHeld8 := And.intro ((hbel8.cell (p := ⟨bo, oo + k * 2, none⟩) hbz).trans hHz.1) ((hbel8.cell (p := ⟨bo, oo + k * 2 + 1, none⟩) hbz).trans hHz.2)
                refine hK.out _ _ (fun _ => hHeld8) ?_
                have HOwn8 := Lib.hid (Hfin.out _ _ (own_base hown8 (Nat.le_trans HB2.out.size HB5.out.size)))
                have HB8 := Lib.hid (HB2.out.trans ((HB5.out.trans (hbel8.mono HB5.out.size)).mono HB2.out.size))
                clear hK K hHeld hown7 hown8 hg8 hbel7 hbel8 hHeld7
                try simp only [Act.put, List.setIfInBounds_toArray, List.set_cons_zero, List.set_cons_succ]
                refine wpAnyS_ready (rs := [15]) (by kernel_rfl) (by simp) ?_
                refine AllReadyS.cons rfl (fun K hK => ?_) AllReadyS.nil
                go_simp
                refine hK.out _ _ (fun h => absurd h (by decide)) ?_
                clear hK K hHeld8 hHz
                refine wpAnyS_done (by kernel_rfl) ?_ _
                go_wp2_with fail
                go_roundw
                case rel => exact ⟨k + 1, by omega, by go_num, HB8.out, HOwn8.out⟩
                case measure => simp [intOf]; omega
              · go_simp
                have hal5 := fun (p : Addr) (y : Value) (hp : (z.alloc (.cells #[] 32)).cell? p = some y) => (World.cell?_alloc_lt (z.alloc (.cells #[] 32)) (.cells #[.string x.unit, .int .i64 x.code] 32) p (World.block_lt_of_cell? _ _ hp)).trans hp
                have hHeld5 := And.intro (hal5 _ _ hHeld.1) (hal5 _ _ hHeld.2)
                refine hK.out _ _ (fun _ => hHeld5) ?_
                clear hK hal5 K hHeld
                have hHeld := hHeld5
                try simp only [Act.put, List.setIfInBounds_toArray, List.set_cons_zero, List.set_cons_succ]
                have hblk := Blk.new (z.alloc (.cells #[] 32)) 32 #[.string x.unit, .int .i64 x.code]
                rw [World.size_alloc] at hblk
                have hown1' := hown1.alloc (.cells #[.string x.unit, .int .i64 x.code] 32)
                refine wpAnyS_ready (rs := [4]) (by kernel_rfl) (by simp) ?_
                refine AllReadyS.cons rfl (fun K hK => ?_) AllReadyS.nil
                refine step_append_any _ (by rfl) (.tmp 63) (.tmp 66) 23 (by rfl) z.heap.size 32 i0 _ 2 24 Tryz.underlying23 hi0 hz0 hz1 hz2 rfl (by decide) _ 0 [] (by rfl) (hown1') z.heap.size Av s.length cv ((s.take s.length).flatMap Rep.cells) (by rfl) ((hrd.alloc (Nat.le_refl _) _).alloc (by simp) _) (rep_one _) (by unfold maxLen; omega) (by omega) (by simp; omega) ?_
                intro v3 W3 hown3 hg3 _
                rw [Nat.zero_add, List.nil_append] at hown3
                have hbel := (((Below.refl _ z).alloc (Nat.le_refl _) (.cells #[] 32)).alloc (by simp) (.cells #[.string x.unit, .int .i64 x.code] 32)).grown hg3 (by simp; omega) (fun g hg => by simp [Value.ownBlock] at hg; omega)
                have hblk := hblk.grown hg3 (by simp [Value.ownBlock])
                have hHeld3 := And.intro ((hbel.cell (p := ⟨bo, oo + k * 2, none⟩) hbz).trans hHz.1) ((hbel.cell (p := ⟨bo, oo + k * 2 + 1, none⟩) hbz).trans hHz.2)
                refine hK.out _ _ (fun _ => hHeld3) ?_
                clear hK K hHeld hown1 hown1' hg3
                have hHeld := hHeld3
                try simp only [Act.put, List.setIfInBounds_toArray, List.set_cons_zero, List.set_cons_succ]
                generalize z.heap.size + 1 = g98 at *
                clear hrd
                refine wpAnyS_ready (rs := [10]) (by kernel_rfl) (by simp) ?_
                refine AllReadyS.cons rfl (fun K hK => ?_) AllReadyS.nil
                refine step_append_any _ (by rfl) (.tmp 67) (.tmp 72) 23 (by rfl) z.heap.size 32 i0 _ 2 24 Tryz.underlying23 hi0 hz0 hz1 hz2 rfl (by decide) v3 s.length ((s.take s.length).flatMap Rep.cells) (by rfl) hown3 (g98 + 1) (some ⟨g98, 0, none⟩) 1 1 [.string x.unit, .int .i64 x.code] (by rfl) ⟨rfl, fun _ => ⟨_, rfl, Nat.lt_succ_self _, blk_flat hblk⟩⟩ (by intro u hu; simp at hu; rcases hu with rfl | rfl <;> rfl) (by unfold maxLen; omega) (by omega) hbel.size ?_
                intro v6 W7 hown7 hg7 _
                have hbel7 := hbel.grown hg7 hbel.size (fun g hg => (hown3.lt g hg).1)
                have hHeld7 := And.intro ((hbel7.cell (p := ⟨bo, oo + k * 2, none⟩) hbz).trans hHz.1) ((hbel7.cell (p := ⟨bo, oo + k * 2 + 1, none⟩) hbz).trans hHz.2)
                refine hK.out _ _ (fun _ => hHeld7) ?_
                clear hK K hHeld hown3 hblk hg7
                have hHeld := hHeld7
                try simp only [Act.put, List.setIfInBounds_toArray, List.set_cons_zero, List.set_cons_succ]
                refine wpAnyS_ready (rs := [14]) (by kernel_rfl) (by simp) ?_
                refine AllReadyS.cons rfl (fun K hK => ?_) AllReadyS.nil
                refine step_append_any _ (by rfl) (.tmp 73) (.tmp 76) 23 (by rfl) z.heap.size 32 i0 _ 2 24 Tryz.underlying23 hi0 hz0 hz1 hz2 rfl (by decide) v6 (s.length + 1) _ (by rfl) hown7 W7.heap.size AD mm cd ((s.drop s.length).flatMap Rep.cells) (by rfl) (by have := reads_rep (Hrt.out.below hbel7); rw [hmm] at this; exact this) (rep_one _) (by unfold maxLen; omega) (by omega) hbel7.size ?_
                intro v8 W8 hown8 hg8 _
                have hbel8 := hbel7.grown hg8 hbel7.size (fun g hg => (hown7.lt g hg).1)
                have hHeld8 := And.intro ((hbel8.cell (p := ⟨bo, oo + k * 2, none⟩) hbz).trans hHz.1) ((hbel8.cell (p := ⟨bo, oo + k * 2 + 1, none⟩) hbz).trans hHz.2)
                refine hK.out _ _ (fun _ => hHeld8) ?_
                have HOwn8 := Lib.hid (Hfin.out _ _ (own_base hown8 (Nat.le_trans HB2.out.size HB5.out.size)))
                have HB8 := Lib.hid (HB2.out.trans ((HB5.out.trans (hbel8.mono HB5.out.size)).mono HB2.out.size))
                clear hK K hHeld hown7 hown8 hg8 hbel7 hbel8 hHeld7
                try simp only [Act.put, List.setIfInBounds_toArray, List.set_cons_zero, List.set_cons_succ]
                refine wpAnyS_ready (rs := [15]) (by kernel_rfl) (by simp) ?_
                refine AllReadyS.cons rfl (fun K hK => ?_) AllReadyS.nil
                go_simp
                refine hK.out _ _ (fun h => absurd h (by decide)) ?_
                clear hK K hHeld8 hHz
                refine wpAnyS_done (by kernel_rfl) ?_ _
                go_wp2_with fail
                go_roundw
                case rel => exact ⟨k + 1, by omega, by go_num, HB8.out, HOwn8.out⟩
                case measure => simp [intOf]; omega
            · go_simp
              have hal5 := fun (p : Addr) (y : Value) (hp : z.cell? p = some y) => (World.cell?_alloc_lt z (.cells #[.string x.unit, .int .i64 x.code] 32) p (World.block_lt_of_cell? _ _ hp)).trans hp
              have hHeld5 := And.intro (hal5 _ _ hHeld.1) (hal5 _ _ hHeld.2)
              refine hK.out _ _ (fun _ => hHeld5) ?_
              clear hK hal5 K hHeld
              have hHeld := hHeld5
              try simp only [Act.put, List.setIfInBounds_toArray, List.set_cons_zero, List.set_cons_succ]
              refine wpAnyS_ready (rs := [0]) (by kernel_rfl) (by simp) ?_
              refine AllReadyS.cons rfl (fun K hK => ?_) AllReadyS.nil
              have hblk := Blk.new z 32 #[.string x.unit, .int .i64 x.code]
              go_simp
              have hal1 := fun (p : Addr) (y : Value) (hp : (z.alloc (.cells #[.string x.unit, .int .i64 x.code] 32)).cell? p = some y) => (World.cell?_alloc_lt (z.alloc (.cells #[.string x.unit, .int .i64 x.code] 32)) (.cells #[] 32) p (World.block_lt_of_cell? _ _ hp)).trans hp
              have hHeld1 := And.intro (hal1 _ _ hHeld.1) (hal1 _ _ hHeld.2)
              refine hK.out _ _ (fun _ => hHeld1) ?_
              clear hK hal1 K hHeld
              have hHeld := hHeld1
              try simp only [Act.put, List.setIfInBounds_toArray, List.set_cons_zero, List.set_cons_succ]
              have hblk := hblk.alloc (.cells #[] 32)
              have hown1 := World.ownsRow_made (base := z.heap.size) (e := 32) (size := 2) (z.alloc (.cells #[.string x.unit, .int .i64 x.code] 32)) #[] 0 (by simp) (by simp [maxLen]) rfl
              rw [World.size_alloc] at hown1
              refine wpAnyS_ready (rs := [4]) (by kernel_rfl) (by simp) ?_
              refine AllReadyS.cons rfl (fun K hK => ?_) AllReadyS.nil
              refine step_append_any _ (by rfl) (.tmp 63) (.tmp 66) 23 (by rfl) z.heap.size 32 i0 _ 2 24 Tryz.underlying23 hi0 hz0 hz1 hz2 rfl (by decide) _ 0 [] (by rfl) (hown1) z.heap.size Av s.length cv ((s.take s.length).flatMap Rep.cells) (by rfl) ((hrd.alloc (Nat.le_refl _) _).alloc (by simp) _) (rep_one _) (by unfold maxLen; omega) (by omega) (by simp; omega) ?_
              intro v3 W3 hown3 hg3 _
              rw [Nat.zero_add, List.nil_append] at hown3
              have hbel := (((Below.refl _ z).alloc (Nat.le_refl _) (.cells #[.string x.unit, .int .i64 x.code] 32)).alloc (by simp) (.cells #[] 32)).grown hg3 (by simp; omega) (fun g hg => by simp [Value.ownBlock] at hg; omega)
              have hblk := hblk.grown hg3 (by simp [Value.ownBlock])
              have hHeld3 := And.intro ((hbel.cell (p := ⟨bo, oo + k * 2, none⟩) hbz).trans hHz.1) ((hbel.cell (p := ⟨bo, oo + k * 2 + 1, none⟩) hbz).trans hHz.2)
              refine hK.out _ _ (fun _ => hHeld3) ?_
              clear hK K hHeld hown1 hg3
              have hHeld := hHeld3
              try simp only [Act.put, List.setIfInBounds_toArray, List.set_cons_zero, List.set_cons_succ]
              generalize z.heap.size = g98 at hblk ⊢
              clear hrd
              refine wpAnyS_ready (rs := [10]) (by kernel_rfl) (by simp) ?_
              refine AllReadyS.cons rfl (fun K hK => ?_) AllReadyS.nil
              refine step_append_any _ (by rfl) (.tmp 67) (.tmp 72) 23 (by rfl) z.heap.size 32 i0 _ 2 24 Tryz.underlying23 hi0 hz0 hz1 hz2 rfl (by decide) v3 s.length ((s.take s.length).flatMap Rep.cells) (by rfl) hown3 (g98 + 1) (some ⟨g98, 0, none⟩) 1 1 [.string x.unit, .int .i64 x.code] (by rfl) ⟨rfl, fun _ => ⟨_, rfl, Nat.lt_succ_self _, blk_flat hblk⟩⟩ (by intro u hu; simp at hu; rcases hu with rfl | rfl <;> rfl) (by unfold maxLen; omega) (by omega) hbel.size ?_
              intro v6 W7 hown7 hg7 _
              have hbel7 := hbel.grown hg7 hbel.size (fun g hg => (hown3.lt g hg).1)
              have hHeld7 := And.intro ((hbel7.cell (p := ⟨bo, oo + k * 2, none⟩) hbz).trans hHz.1) ((hbel7.cell (p := ⟨bo, oo + k * 2 + 1, none⟩) hbz).trans hHz.2)
              refine hK.out _ _ (fun _ => hHeld7) ?_
              clear hK K hHeld hown3 hblk hg7
              have hHeld := hHeld7
              try simp only [Act.put, List.setIfInBounds_toArray, List.set_cons_zero, List.set_cons_succ]
              refine wpAnyS_ready (rs := [14]) (by kernel_rfl) (by simp) ?_
              refine AllReadyS.cons rfl (fun K hK => ?_) AllReadyS.nil
              refine step_append_any _ (by rfl) (.tmp 73) (.tmp 76) 23 (by rfl) z.heap.size 32 i0 _ 2 24 Tryz.underlying23 hi0 hz0 hz1 hz2 rfl (by decide) v6 (s.length + 1) _ (by rfl) hown7 W7.heap.size AD mm cd ((s.drop s.length).flatMap Rep.cells) (by rfl) (by have := reads_rep (Hrt.out.below hbel7); rw [hmm] at this; exact this) (rep_one _) (by unfold maxLen; omega) (by omega) hbel7.size ?_
              intro v8 W8 hown8 hg8 _
              have hbel8 := hbel7.grown hg8 hbel7.size (fun g hg => (hown7.lt g hg).1)
              have hHeld8 := And.intro ((hbel8.cell (p := ⟨bo, oo + k * 2, none⟩) hbz).trans hHz.1) ((hbel8.cell (p := ⟨bo, oo + k * 2 + 1, none⟩) hbz).trans hHz.2)
              refine hK.out _ _ (fun _ => hHeld8) ?_
              have HOwn8 := Lib.hid (Hfin.out _ _ (own_base hown8 (Nat.le_trans HB2.out.size HB5.out.size)))
              have HB8 := Lib.hid (HB2.out.trans ((HB5.out.trans (hbel8.mono HB5.out.size)).mono HB2.out.size))
              clear hK K hHeld hown7 hown8 hg8 hbel7 hbel8 hHeld7
              try simp only [Act.put, List.setIfInBounds_toArray, List.set_cons_zero, List.set_cons_succ]
              refine wpAnyS_ready (rs := [15]) (by kernel_rfl) (by simp) ?_
              refine AllReadyS.cons rfl (fun K hK => ?_) AllReadyS.nil
              go_simp
              refine hK.out _ _ (fun h => absurd h (by decide)) ?_
              clear hK K hHeld8 hHz
              refine wpAnyS_done (by kernel_rfl) ?_ _
              go_wp2_with fail
              go_roundw
              case rel => exact ⟨k + 1, by omega, by go_num, HB8.out, HOwn8.out⟩
              case measure => simp [intOf]; omega
    · obtain rfl : k = l.length := by omega
      rw [List.take_length] at hown ⊢
      have HR := Lib.hid (And.intro (rdRep_of_own hown) hB)
      clear hown hB
      go_wp2_with fail
      go_ret
      exact ⟨Av, cv, rfl, HR.out⟩
end
end Go.Proofs.YtknojjlfgjkbiaaGreatDoor
