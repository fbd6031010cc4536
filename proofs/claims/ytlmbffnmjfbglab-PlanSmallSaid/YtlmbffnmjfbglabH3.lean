/- The reference's Fits and Conflict. -/
import Derived.Test.YtlmbffnmjfbglabH1
set_option linter.unusedSimpArgs false
set_option linter.unusedVariables false
namespace Go.Proofs.Ytlmbffnmjfbglab
open Go.ChangeShapes Go.WideShapes Go.ChangeAt Go.RowKit

section
attribute [-go_sem] run_sliceAt_slice
set_option maxRecDepth 100000 in
set_option maxHeartbeats 2000000 in
theorem rfits_c (name : ByteArray) (mem F : Int) (ps : List Part) (A : Option Addr) (c : Nat) (os : List Int) (Ao : Option Addr) (co : Nat) (w : World) (h : RdPart w w.heap.size A ps) (ho : RdInt w w.heap.size Ao os) (hcap : os.length ≤ co) (hl : ps.length * 8 ≤ 140737488355328) (hlo : os.length ≤ 9223372036854775807) :
    Calls Try.prog 51 #[.agg #[.string name, .int .i64 mem, .int .i64 F, .slice A ps.length c], .slice Ao os.length co] w fun e w' => e = .returned (.bool (fitsV F ps os)) ∧ Below w.heap.size w w' := by
  obtain ⟨W1, hW1⟩ : ∃ W1, W1 = w.alloc (.cells #[.string name, .int .i64 mem, .int .i64 F, .slice A ps.length c] 24) := ⟨_, rfl⟩
  have hB : Below w.heap.size w W1 := by rw [hW1]; exact (Below.refl _ w).alloc (Nat.le_refl _) _
  have hb0 : Blk W1 w.heap.size 24 #[.string name, .int .i64 mem, .int .i64 F, .slice A ps.length c] := by rw [hW1]; exact Blk.new w 24 _
  have hti := refTimes_c name mem F ps A c W1 (h.below hB) (by omega)
  have HW1 := Lib.hid hW1
  have H := Lib.hid h
  have HO := Lib.hid ho
  have HB := Lib.hid hB
  have Hb := Lib.hid hb0
  clear hW1 h ho hB hb0
  cases hT : timesV F ps with
  | false =>
    rw [hT] at hti
    have Hv := Lib.hid (show fitsV F ps os = false by simp [fitsV, prefixOk, hT])
    have Hti := Lib.hid hti
    clear hti hT
    go_enter Try.func51, Try.ntmps51
    go_wp2_with fail
    rw [← HW1.out]
    refine Hti.out.mono ?_
    rintro e W2 ⟨rfl, hb2⟩
    have hB2 := HB.out.trans (hb2.mono HB.out.size)
    clear Hti hb2
    go_wp2_with fail
    go_ret
    exact ⟨ret_bool Hv.out.symm, hB2⟩
  | true =>
    rw [hT] at hti
    have Hti := Lib.hid hti
    have HT := Lib.hid hT
    have h6 := (timesV_ok hT).few
    clear hti hT
    go_enter Try.func51, Try.ntmps51
    go_wp2_with fail
    rw [← HW1.out]
    refine Hti.out.mono ?_
    rintro e W2 ⟨rfl, hb2⟩
    have hB2 := HB.out.trans (hb2.mono HB.out.size)
    have hbx := Hb.out.below hb2 Hb.out.lt
    have q0 : W2.cell? ⟨w.heap.size, 0, none⟩ = some (.string name) := hbx.cell 0
    have q1 : W2.cell? ⟨w.heap.size, 1, none⟩ = some (.int .i64 mem) := hbx.cell 1
    have q2 : W2.cell? ⟨w.heap.size, 2, none⟩ = some (.int .i64 F) := hbx.cell 2
    have q3 : W2.cell? ⟨w.heap.size, 3, none⟩ = some (.slice A ps.length c) := hbx.cell 3
    have Hbx := Lib.hid hbx
    clear Hti hb2 Hb HB hbx HW1
    by_cases hn : os.length = ps.length
    · have hdn : ((os.length : Int) != (ps.length : Int)) = false := by simp [hn]
      have hpo := rposs_c name mem F ps A c os Ao co W2 (H.out.below hB2) (HO.out.below hB2) HT.out hlo
      have Hn := Lib.hid hn
      have hle : os.length ≤ 6 := by omega
      clear hn
      cases hv : possV ps os with
      | false =>
        rw [hv] at hpo
        have Hv := Lib.hid (show fitsV F ps os = false by
          have : prefixOk F ps os = possV ps os := by simp [prefixOk, possV, HT.out]
          simp [fitsV, this, hv])
        have Hpo := Lib.hid hpo
        clear hpo hv
        go_wp2_with fail
        refine Hpo.out.mono ?_
        rintro e W3 ⟨rfl, hb3⟩
        have hB3 := hB2.trans (hb3.mono hB2.size)
        clear Hpo hb3 q0 q1 q2 q3
        go_wp2_with fail
        go_ret
        exact ⟨ret_bool Hv.out.symm, hB3⟩
      | true =>
        rw [hv] at hpo
        have Hv := Lib.hid hv
        have Hpo := Lib.hid hpo
        clear hpo hv
        go_wp2_with fail
        refine Hpo.out.mono ?_
        rintro e W3 ⟨rfl, hb3⟩
        have hB3 := hB2.trans (hb3.mono hB2.size)
        have hbx := Hbx.out.below hb3 Hbx.out.lt
        have Hbx3 := Lib.hid hbx
        have HB3 := Lib.hid hB3
        clear Hpo hb3 q0 q1 q2 q3 hB2 hbx hB3 Hbx
        go_wp2_with fail
        go_loopw [5] (fun i wr => ∃ k : Nat, k ≤ os.length ∧ i = .int .i64 k ∧ Below W3.heap.size W3 wr ∧ Hid (∀ j, j < k → conflP ps (os.take j) (os.getD j 0) < 0)) (fun i _ => os.length - (intOf i).toNat)
        case atStart => exact ⟨0, Nat.zero_le _, rfl, Below.refl _ _, fun j h => absurd h (by omega)⟩
        case round =>
          obtain ⟨k, hk, rfl, hBr, hall⟩ := hrel
          have hBw := HB3.out.trans (hBr.mono HB3.out.size)
          by_cases hlt : k < os.length
          · have hbr := Hbx3.out.below hBr Hbx3.out.lt
            have q0 : wr.cell? ⟨w.heap.size, 0, none⟩ = some (.string name) := hbr.cell 0
            have q1 : wr.cell? ⟨w.heap.size, 1, none⟩ = some (.int .i64 mem) := hbr.cell 1
            have q2 : wr.cell? ⟨w.heap.size, 2, none⟩ = some (.int .i64 F) := hbr.cell 2
            have q3 : wr.cell? ⟨w.heap.size, 3, none⟩ = some (.slice A ps.length c) := hbr.cell 3
            have hbz := hbr.lt
            have hO := HO.out.below hBw
            obtain ⟨b, o, rfl, hb, hcc⟩ := hO (by omega)
            have c0 := hcc k hlt
            have hi0 : (0 : Int) ≤ (k : Int) := by omega
            have hi1 : (k : Int) < (os.length : Int) := by omega
            have htl : (os.take k).length = k := by simp; omega
            have hp := H.out.below hBw
            have hcl : ∀ y : Ext wr, Calls Try.prog 74 #[.agg #[.string name, .int .i64 mem, .int .i64 F, .slice A ps.length c], .slice (some ⟨b, o, none⟩) k co, .int .i64 os[k]] y.w fun e w' => e = .returned (.int .i64 (conflP ps (os.take k) os[k])) ∧ Below y.w.heap.size y.w w' := fun y => by
              have := rconfl_c name mem F ps A c (os.take k) (some ⟨b, o, none⟩) co os[k] y.w (hp.below y.h) ((RdInt.take hO).below y.h) (by rw [htl]; have := Hn.out; omega) h6
              rwa [htl] at this
            have hsl := fun W => slice_to (some ⟨b, o, none⟩) os.length k co (by omega) W
            have hgd : os.getD k 0 = os[k] := by simp [hlt]
            have hno : ¬ conflP ps (os.take k) os[k] < 0 → fitsV F ps os = false := fun hq => fitsV_no hlt (by rw [hgd]; exact hq)
            have hnx : conflP ps (os.take k) os[k] < 0 → (∀ j, j < k + 1 → conflP ps (os.take j) (os.getD j 0) < 0) := fun hq j hj => by
              by_cases e : j = k
              · subst e; rw [hgd]; exact hq
              · exact hall.out j (by omega)
            have hec := ext_cell wr
            have HNo := Lib.hid hno
            have HNx := Lib.hid hnx
            have Hcl := Lib.hid hcl
            clear hno hnx hcl hcc hO hp hall htl hgd hbr
            generalize conflP ps (os.take k) os[k] = y at *
            generalize os[k] = v at *
            by_cases hy : y < 0
            · have hyd : decide (y ≥ 0) = false := decide_eq_false (by omega)
              have hyd2 : ¬ 0 ≤ y := by omega
              have Hx := Lib.hid (HNx.out hy)
              clear HNx HNo hy
              go_wp2_with fail
              refine wp_region_ext (by kernel_rfl) (by kernel_rfl) ?_
              repeat (go_big_quiet_step ((go_at_call 74; with_reducible exact ext_call (Hcl.out _))))
              refine wpQuiet_nil ?_
              intro _ hw'
              obtain ⟨xx, hw''⟩ := hw'
              subst hw''
              have hB2 := hBr.trans (xx.h.mono hBr.size)
              clear hec q0 q1 q2 q3 c0 Hcl hsl
              generalize xx.w = w9 at hB2 ⊢
              go_wp2_with fail
              go_roundw
              case rel => exact ⟨k + 1, by omega, by go_num, hB2, Hx.out⟩
              case measure => simp [intOf]; omega
            · have hyd : decide (y ≥ 0) = true := decide_eq_true (by omega)
              have hyd2 : 0 ≤ y := by omega
              have Hx := Lib.hid (HNo.out hy)
              clear HNx HNo hy
              go_wp2_with fail
              refine wp_region_ext (by kernel_rfl) (by kernel_rfl) ?_
              repeat (go_big_quiet_step ((go_at_call 74; with_reducible exact ext_call (Hcl.out _))))
              refine wpQuiet_nil ?_
              intro _ hw'
              obtain ⟨xx, hw''⟩ := hw'
              subst hw''
              have hB2 := hBw.trans (xx.h.mono hBw.size)
              clear hec q0 q1 q2 q3 c0 Hcl hsl
              generalize xx.w = w9 at hB2 ⊢
              go_wp2_with fail
              go_ret
              exact ⟨ret_bool Hx.out.symm, hB2⟩
          · have Hf := Lib.hid (show fitsV F ps os = true by
              have : prefixOk F ps os = possV ps os := by simp [prefixOk, possV, HT.out]
              unfold fitsV
              rw [this, Hv.out, decide_eq_true Hn.out]
              simp only [Bool.true_and, List.all_eq_true, List.mem_range, decide_eq_true_eq]
              exact fun j hj => hall.out j (by omega))
            clear hall
            go_wp2_with fail
            go_ret
            exact ⟨ret_bool Hf.out.symm, hBw⟩
    · have hdn : ((os.length : Int) != (ps.length : Int)) = true := by simp; omega
      have Hv := Lib.hid (show fitsV F ps os = false by simp [fitsV, hn])
      clear hn
      go_wp2_with fail
      go_ret
      exact ⟨ret_bool Hv.out.symm, hB2⟩
end

set_option maxRecDepth 100000 in
set_option maxHeartbeats 2000000 in
theorem rconflict_c (name : ByteArray) (mem F : Int) (ps : List Part) (A : Option Addr) (c : Nat) (os : List Int) (Ao : Option Addr) (co : Nat) (x : Int) (w : World) (h : RdPart w w.heap.size A ps) (ho : RdInt w w.heap.size Ao os) (hl : ps.length * 8 ≤ 140737488355328) (hlo : os.length ≤ 1000) :
    Calls Try.prog 50 #[.agg #[.string name, .int .i64 mem, .int .i64 F, .slice A ps.length c], .slice Ao os.length co, .int .i64 x] w fun e w' => e = .returned (.tuple #[.int .i64 (conflV F ps os x), .bool (decide (0 ≤ conflV F ps os x))]) ∧ Below w.heap.size w w' := by
  obtain ⟨i0, hi0, hz0, hz1, hz2⟩ := info_parts info3
  obtain ⟨W1, hW1⟩ : ∃ W1, W1 = w.alloc (.cells #[.string name, .int .i64 mem, .int .i64 F, .slice A ps.length c] 24) := ⟨_, rfl⟩
  have hB : Below w.heap.size w W1 := by rw [hW1]; exact (Below.refl _ w).alloc (Nat.le_refl _) _
  have hb0 : Blk W1 w.heap.size 24 #[.string name, .int .i64 mem, .int .i64 F, .slice A ps.length c] := by rw [hW1]; exact Blk.new w 24 _
  obtain ⟨W2, hW2⟩ : ∃ W2, W2 = W1.alloc (.cells #[] 3) := ⟨_, rfl⟩
  have hB12 : Below W1.heap.size W1 W2 := by rw [hW2]; exact (Below.refl _ _).alloc (Nat.le_refl _) _
  have hs1 : W1.heap.size = w.heap.size + 1 := by rw [hW1]; simp
  have hown2 : W2.ownsRow (w.heap.size + 1) 3 1 (.slice (some ⟨w.heap.size + 1, 0, none⟩) 0 0) 0 [] := by rw [hW2, ← hs1]; exact World.ownsRow_made W1 #[] 0 (Nat.le_refl _) (by simp [maxLen]) (by simp)
  have hs2 : w.heap.size + 1 ≤ W2.heap.size := by have := hB12.size; omega
  have hB2 := hB.trans (hB12.mono hB.size)
  have hrd := (rdInt_reads (ho.below hB2))
  have hb2 := hb0.below hB12 hb0.lt
  have HW1 := Lib.hid hW1
  have HW2 := Lib.hid hW2
  have H := Lib.hid h
  have HO := Lib.hid ho
  have HB2 := Lib.hid hB2
  have Hb2 := Lib.hid hb2
  have Hown := Lib.hid hown2
  have Hrd := Lib.hid hrd
  have hbz := hb0.lt
  clear hW1 hW2 h ho hB hb0 hB2 hb2 hown2 hrd hs1 hB12
  go_enter Try.func50, Try.ntmps50
  go_wp2_with (at_builtin; rw [← HW1.out, ← HW2.out]; refine wpList_append_any _ rfl _ _ 28 rfl (w.heap.size + 1) 3 i0 (.int .i64 0) 1 8 Try.underlying28 hi0 hz0 hz1 hz2 rfl (by decide) _ 0 [] rfl Hown.out W2.heap.size Ao os.length co (os.map (Value.int .i64)) rfl Hrd.out (ints_one os) (by unfold maxLen; omega) (by omega) hs2 ?_)
  intro v w3 hown3 hgr3 hat3
  have hB3 : Below w.heap.size w w3 := HB2.out.grown hgr3 HB2.out.size (fun k hk => by simp [Value.ownBlock] at hk; omega)
  have hb3 := Hb2.out.grown hgr3 (by simp [Value.ownBlock])
  have hown3' : w3.ownsRow (w.heap.size + 1) 3 1 v os.length (os.map (Value.int .i64)) := by simpa using hown3
  obtain ⟨W4, hW4⟩ : ∃ W4, W4 = w3.alloc (.cells #[.int .i64 x] 3) := ⟨_, rfl⟩
  have hB34 : Below w3.heap.size w3 W4 := by rw [hW4]; exact (Below.refl _ _).alloc (Nat.le_refl _) _
  have hnew : Blk W4 w3.heap.size 3 #[.int .i64 x] := by rw [hW4]; exact Blk.new w3 3 _
  have hown4 := hown3'.kept (below_grown (row := none) hB34) (by cases v.ownBlock <;> simp)
  have hB4 := hB3.trans (hB34.mono hB3.size)
  have hb4 := hb3.below hB34 hb3.lt
  have hs4 : w.heap.size + 1 ≤ W4.heap.size := by have := hb4.lt; omega
  have HW4 := Lib.hid hW4
  have Hnew := Lib.hid hnew
  have Hown4 := Lib.hid hown4
  have HB4 := Lib.hid hB4
  have Hb4 := Lib.hid hb4
  clear hown3 hown3' hgr3 hat3 hB3 hb3 hB34 hnew hown4 hB4 hb4 hW4 Hown Hrd HB2 Hb2 HW1 HW2 hs2
  go_wp2_with (at_builtin; rw [← HW4.out]; refine wpList_append_lies _ rfl _ _ 28 rfl (w.heap.size + 1) 3 i0 _ 1 8 Try.underlying28 hi0 hz0 hz1 hz2 rfl (by decide) v os.length _ rfl Hown4.out ⟨w3.heap.size, 0, none⟩ 1 1 [.int .i64 x] rfl rfl (World.news_of_block Hnew.out) (by simp [Value.oneCell']) (by omega) (by unfold maxLen; omega) (by omega) hs4 _ rfl ?_)
  intro g cap w5 hown5 hgr5 hg hgl
  have hB5 : Below w.heap.size w w5 := HB4.out.grown hgr5 HB4.out.size (fun k hk => by have := (Hown4.out.lt k hk).1; omega)
  have hb5 := Hb4.out.grown hgr5 (fun e => by have := (Hown4.out.lt _ e.symm).1; omega)
  have hri : RdInt w5 w5.heap.size (some ⟨g, 0, none⟩) (os ++ [x]) := by
    obtain ⟨A2, c2, e, hr⟩ := RdInt.of_own (n := os.length + 1) (l := os ++ [x]) (by simp) (by simpa using hown5)
    injection e with e
    subst e
    exact hr
  have hti := refTimes_c name mem F ps A c w5 (H.out.below hB5) (by omega)
  have q0 : w5.cell? ⟨w.heap.size, 0, none⟩ = some (.string name) := hb5.cell 0
  have q1 : w5.cell? ⟨w.heap.size, 1, none⟩ = some (.int .i64 mem) := hb5.cell 1
  have q2 : w5.cell? ⟨w.heap.size, 2, none⟩ = some (.int .i64 F) := hb5.cell 2
  have q3 : w5.cell? ⟨w.heap.size, 3, none⟩ = some (.slice A ps.length c) := hb5.cell 3
  have Hri := Lib.hid hri
  have Hb5 := Lib.hid hb5
  have hov : conflV F ps os x = if prefixOk F ps (os ++ [x]) then conflP ps os x else -1 := rfl
  have Hov := Lib.hid hov
  clear hown5 hgr5 hg hgl hri hb5 Hnew Hown4 HB4 Hb4 HW4 hs4 hov
  cases hT : timesV F ps with
  | false =>
    rw [hT] at hti
    have hv : conflV F ps os x = -1 := by rw [Hov.out, if_neg]; simp [prefixOk, hT]
    have Hti := Lib.hid hti
    have Hv := Lib.hid hv
    clear hti hT Hov hv
    go_wp2_with fail
    refine Hti.out.mono ?_
    rintro e w6 ⟨rfl, hb6⟩
    have hB6 := hB5.trans (hb6.mono hB5.size)
    clear Hti hb6 q0 q1 q2 q3
    go_wp2_with fail
    go_ret2
    exact ⟨by rw [Hv.out]; rfl, hB6⟩
  | true =>
    rw [hT] at hti
    have hol : (os ++ [x]).length = os.length + 1 := by simp
    have hpo := fun w6 (hb : Below w5.heap.size w5 w6) => rposs_c name mem F ps A c (os ++ [x]) (some ⟨g, 0, none⟩) cap w6 (H.out.below (hB5.trans (hb.mono hB5.size))) (Hri.out.below hb) hT (by rw [hol]; omega)
    rw [hol] at hpo
    have hpx : prefixOk F ps (os ++ [x]) = possV ps (os ++ [x]) := by simp [prefixOk, possV, hT]
    rw [hpx] at Hov
    have Hti := Lib.hid hti
    have Hpo := Lib.hid hpo
    have h6 := (timesV_ok hT).few
    clear hti hT hpo hpx
    go_wp2_with fail
    refine Hti.out.mono ?_
    rintro e w6 ⟨rfl, hb6⟩
    have hB6 := hB5.trans (hb6.mono hB5.size)
    have hb6' := Hb5.out.below hb6 Hb5.out.lt
    have hpo := Hpo.out w6 hb6
    have Hpo6 := Lib.hid hpo
    have Hb6 := Lib.hid hb6'
    have HB6 := Lib.hid hB6
    have Hb56 := Lib.hid hb6
    clear Hti hb6 q0 q1 q2 q3 Hpo hpo hb6' hB6 Hb5
    have q0 : w6.cell? ⟨w.heap.size, 0, none⟩ = some (.string name) := Hb6.out.cell 0
    have q1 : w6.cell? ⟨w.heap.size, 1, none⟩ = some (.int .i64 mem) := Hb6.out.cell 1
    have q2 : w6.cell? ⟨w.heap.size, 2, none⟩ = some (.int .i64 F) := Hb6.out.cell 2
    have q3 : w6.cell? ⟨w.heap.size, 3, none⟩ = some (.slice A ps.length c) := Hb6.out.cell 3
    cases hpv : possV ps (os ++ [x]) with
    | false =>
      rw [hpv] at Hpo6
      have hv : conflV F ps os x = -1 := by rw [Hov.out, hpv]; rfl
      have Hv := Lib.hid hv
      clear hv Hov hpv
      go_wp2_with fail
      refine Hpo6.out.mono ?_
      rintro e w7 ⟨rfl, hb7⟩
      have hB7 := HB6.out.trans (hb7.mono HB6.out.size)
      clear Hpo6 hb7 q0 q1 q2 q3
      go_wp2_with fail
      go_ret2
      exact ⟨by rw [Hv.out]; rfl, hB7⟩
    | true =>
      rw [hpv] at Hpo6
      have hv : conflV F ps os x = conflP ps os x := by rw [Hov.out, hpv]; rfl
      have hlt : os.length < ps.length := by
        have h1 := hpv
        simp only [possV, Bool.and_eq_true, decide_eq_true_eq] at h1
        omega
      have Hv := Lib.hid hv
      clear hv Hov hpv hol
      go_wp2_with fail
      refine Hpo6.out.mono ?_
      rintro e w7 ⟨rfl, hb7⟩
      have hB7 := HB6.out.trans (hb7.mono HB6.out.size)
      have hb7' := Hb6.out.below hb7 Hb6.out.lt
      have hcf := rconfl_c name mem F ps A c os Ao co x w7 (H.out.below hB7) (HO.out.below hB7) hlt h6
      clear Hpo6 hb7 q0 q1 q2 q3
      have q0 : w7.cell? ⟨w.heap.size, 0, none⟩ = some (.string name) := hb7'.cell 0
      have q1 : w7.cell? ⟨w.heap.size, 1, none⟩ = some (.int .i64 mem) := hb7'.cell 1
      have q2 : w7.cell? ⟨w.heap.size, 2, none⟩ = some (.int .i64 F) := hb7'.cell 2
      have q3 : w7.cell? ⟨w.heap.size, 3, none⟩ = some (.slice A ps.length c) := hb7'.cell 3
      have Hcf := Lib.hid hcf
      clear hcf hb7'
      generalize conflP ps os x = y at *
      go_wp2_with fail
      refine Hcf.out.mono ?_
      rintro e w8 ⟨rfl, hb8⟩
      have hB8 := hB7.trans (hb8.mono hB7.size)
      clear Hcf hb8 q0 q1 q2 q3
      have hge : (y ≥ 0) = (0 ≤ y) := rfl
      go_wp2_with fail
      go_ret2
      exact ⟨by rw [Hv.out]; rfl, hB8⟩
end Go.Proofs.Ytlmbffnmjfbglab
