/- The reference's right and Check. -/
import Derived.Test.YtlmbffnmjfbglabH2
set_option linter.unusedSimpArgs false
set_option linter.unusedVariables false
namespace Go.Proofs.Ytlmbffnmjfbglab
open Go.ChangeShapes Go.WideShapes Go.ChangeAt Go.RowKit

theorem goP_cons (ps : List Part) (os : List Int) (nx f t wi : Int) (sub r : List Claim) : goP ps os nx (.mk f t wi sub :: r) = (decide (f = nx) && (decide (f ≤ t) && (decide (t ≤ lastP ps os.length) && (oneP ps os (.mk f t wi sub) && goP ps os (t + 1) r)))) := by
  rw [goP]; rfl
theorem oneP_neg (ps : List Part) (os : List Int) (f : Int) (sub : List Claim) : oneP ps os (.mk f f (-1) sub) = rightP ps (os ++ [f]) sub := by
  rw [oneP, if_pos rfl, rightP]; simp

set_option maxRecDepth 100000 in
set_option maxHeartbeats 8000000 in
theorem rright_c (name : ByteArray) (mem F : Int) (ps : List Part) (A : Option Addr) (c : Nat) (hT : timesV F ps = true) : ∀ (N : Nat) (l : List Claim), sizeL l < N → ∀ (os : List Int) (Ao : Option Addr) (co : Nat) (Ac : Option Addr) (cc : Nat) (w : World), RdPart w w.heap.size A ps → RdInt w w.heap.size Ao os → RdK w Ac l → os.length ≤ ps.length → l.length ≤ 9223372036854775807 →
    Calls Try.prog 75 #[.agg #[.string name, .int .i64 mem, .int .i64 F, .slice A ps.length c], .slice Ao os.length co, .slice Ac l.length cc] w fun e w' => e = .returned (.bool (rightP ps os l)) ∧ Below w.heap.size w w' := by
  intro N
  induction N with
  | zero => intro l hl; omega
  | succ N ih =>
    intro l hN os Ao co Ac cc w h ho hk hn hlen
    obtain ⟨W1, hW1⟩ : ∃ W1, W1 = w.alloc (.cells #[.string name, .int .i64 mem, .int .i64 F, .slice A ps.length c] 24) := ⟨_, rfl⟩
    have hB : Below w.heap.size w W1 := by rw [hW1]; exact (Below.refl _ w).alloc (Nat.le_refl _) _
    have hb0 : Blk W1 w.heap.size 24 #[.string name, .int .i64 mem, .int .i64 F, .slice A ps.length c] := by rw [hW1]; exact Blk.new w 24 _
    have q3 : W1.cell? ⟨w.heap.size, 3, none⟩ = some (.slice A ps.length c) := hb0.cell 3
    have h6 := (timesV_ok hT).few
    have HW1 := Lib.hid hW1
    have H := Lib.hid h
    have HO := Lib.hid ho
    have HK := Lib.hid hk
    have HB := Lib.hid hB
    have Hb := Lib.hid hb0
    have HT := Lib.hid hT
    have IH := Lib.hid ih
    have HN := Lib.hid hN
    clear hW1 h ho hk hB hb0 ih hN hT
    go_enter Try.func75, Try.ntmps75
    by_cases hlt : os.length < ps.length
    case neg =>
      have hd : decide ((os.length : Int) ≥ (ps.length : Int)) = true := decide_eq_true (by omega)
      have hd2 : ps.length ≤ os.length := by omega
      have Hv := Lib.hid (show rightP ps os l = false by simp [rightP, hlt])
      have hBf := HB.out
      rw [HW1.out] at hBf
      clear hlt
      go_wp2_with fail
      go_ret
      exact ⟨ret_bool Hv.out.symm, hBf⟩
    have hd : decide ((os.length : Int) ≥ (ps.length : Int)) = false := decide_eq_false (by omega)
    have hd2 : ¬ ps.length ≤ os.length := by omega
    have hlp : lastP ps os.length = ps[os.length].period - ps[os.length].length := by simp [lastP, hlt]
    have hla0 : 0 ≤ lastP ps os.length ∧ lastP ps os.length ≤ 2000 := by
      have hp := (timesV_ok HT.out).per ps[os.length] (List.getElem_mem _)
      have hq := (timesV_ok HT.out).len ps[os.length] (List.getElem_mem _)
      rw [hlp]; omega
    by_cases hl0 : l.length = 0
    · have hdl : ((l.length : Int) == 0) = true := beq_iff_eq.2 (by omega)
      have Hv := Lib.hid (show rightP ps os l = false by
        have : l = [] := List.eq_nil_of_length_eq_zero hl0
        subst this
        exact right_nil hla0.1)
      have hBf := HB.out
      rw [HW1.out] at hBf
      clear hl0
      go_wp2_with fail
      go_ret
      exact ⟨ret_bool Hv.out.symm, hBf⟩
    have hdl : ((l.length : Int) == 0) = false := beq_eq_false_iff_ne.2 (by omega)
    have Hrp := Lib.hid (show rightP ps os l = goP ps os 0 (l.drop 0) by simp [rightP, hlt])
    clear hlp hl0
    go_wp2_with fail
    rw [← HW1.out]
    clear q3
    go_loopw [8, 9] (fun nx i wr => ∃ (k : Nat) (x : Int), k ≤ l.length ∧ i = .int .i64 k ∧ nx = .int .i64 x ∧ 0 ≤ x ∧ x ≤ 2001 ∧ Below W1.heap.size W1 wr ∧ Hid (rightP ps os l = goP ps os x (l.drop k))) (fun _ i _ => l.length - (intOf i).toNat)
    case atStart => exact ⟨0, 0, Nat.zero_le _, rfl, rfl, by omega, by omega, Below.refl _ _, Hrp.out⟩
    case round =>
      clear Hrp
      obtain ⟨k, x, hk, rfl, rfl, hx0, hx1, hBr, hgo⟩ := hrel
      have hBw := HB.out.trans (hBr.mono HB.out.size)
      have hbr := Hb.out.below hBr Hb.out.lt
      have q0 : wr.cell? ⟨w.heap.size, 0, none⟩ = some (.string name) := hbr.cell 0
      have q1 : wr.cell? ⟨w.heap.size, 1, none⟩ = some (.int .i64 mem) := hbr.cell 1
      have q2 : wr.cell? ⟨w.heap.size, 2, none⟩ = some (.int .i64 F) := hbr.cell 2
      have q3 : wr.cell? ⟨w.heap.size, 3, none⟩ = some (.slice A ps.length c) := hbr.cell 3
      have hbz := hbr.lt
      by_cases hkl : k < l.length
      case neg =>
        obtain rfl : k = l.length := by omega
        have hla := rlast_c name mem F ps A c os.length wr (H.out.below hBw) hlt HT.out
        have hv : rightP ps os l = (x == lastP ps os.length + 1) := by
          rw [hgo.out, List.drop_length, goP]; rfl
        have hwr := IntWalk.i64_in (lastP ps os.length + 1) (by omega)
        have Hv := Lib.hid hv
        have Hla := Lib.hid hla
        clear hgo hv hla hbr
        generalize lastP ps os.length = lp at *
        go_wp2_with fail
        refine Hla.out.mono ?_
        rintro e w2 ⟨rfl, hb2⟩
        have hB2 := hBw.trans (hb2.mono hBw.size)
        clear Hla hb2 q0 q1 q2 q3
        go_wp2_with fail
        go_ret
        exact ⟨ret_bool Hv.out.symm, hB2⟩
      obtain ⟨b, o, rfl, hb, hrl⟩ := RdK.keep' hBw HK.out (by omega)
      obtain ⟨c0, c1, c2, As, cs, c3, hs1, hs2, hsr⟩ := (RdL.at_ l o k hkl hrl).open'
      have hi0' : (0 : Int) ≤ (k : Int) := by omega
      have hi1' : (k : Int) < (l.length : Int) := by omega
      have hsz := sizeL_mem hkl
      rw [Claim.subN_sub] at hsz
      have hdr : l.drop k = l[k] :: l.drop (k + 1) := List.drop_eq_getElem_cons hkl
      have hsubN : sizeL l[k].sub < N := by have := HN.out; omega
      have hg := hgo.out
      rw [hdr] at hg
      cases hcx : l[k] with
      | mk f t wi sub =>
      rw [hcx] at c0 c1 c2 c3 hs1 hsr hsz hsubN hg
      simp only [Claim.frm, Claim.to, Claim.wth, Claim.sub] at c0 c1 c2 c3 hs1 hsr hsz hsubN
      rw [goP_cons] at hg
      obtain ⟨W5, hW5⟩ : ∃ W5, W5 = wr.alloc (.cells #[.int .i64 f, .int .i64 t, .int .i64 wi, .slice As sub.length cs] 35) := ⟨_, rfl⟩
      have hB5 : Below wr.heap.size wr W5 := by rw [hW5]; exact (Below.refl _ _).alloc (Nat.le_refl _) _
      have hbc : Blk W5 wr.heap.size 35 #[.int .i64 f, .int .i64 t, .int .i64 wi, .slice As sub.length cs] := by rw [hW5]; exact Blk.new wr 35 _
      have hbm := hbr.below hB5 hbr.lt
      have hBw5 := hBw.trans (hB5.mono hBw.size)
      have hBr5 := hBr.trans (hB5.mono hBr.size)
      have hsr5 := RdK.keep' hB5 hsr
      have hla : ∀ y : Ext W5, Calls Try.prog 77 #[.agg #[.string name, .int .i64 mem, .int .i64 F, .slice A ps.length c], .int .i64 os.length] y.w fun e w' => e = .returned (.int .i64 (lastP ps os.length)) ∧ Below y.w.heap.size y.w w' := fun y => rlast_c name mem F ps A c os.length y.w ((H.out.below hBw5).below y.h) hlt HT.out
      have p0 : W5.cell? ⟨w.heap.size, 0, none⟩ = some (.string name) := hbm.cell 0
      have p1 : W5.cell? ⟨w.heap.size, 1, none⟩ = some (.int .i64 mem) := hbm.cell 1
      have p2 : W5.cell? ⟨w.heap.size, 2, none⟩ = some (.int .i64 F) := hbm.cell 2
      have p3 : W5.cell? ⟨w.heap.size, 3, none⟩ = some (.slice A ps.length c) := hbm.cell 3
      have r0 : W5.cell? ⟨wr.heap.size, 0, none⟩ = some (.int .i64 f) := hbc.cell 0
      have r1 : W5.cell? ⟨wr.heap.size, 1, none⟩ = some (.int .i64 t) := hbc.cell 1
      have r2 : W5.cell? ⟨wr.heap.size, 2, none⟩ = some (.int .i64 wi) := hbc.cell 2
      have r3 : W5.cell? ⟨wr.heap.size, 3, none⟩ = some (.slice As sub.length cs) := hbc.cell 3
      have hz5 : wr.heap.size < W5.heap.size := hbc.lt
      have hz6 : w.heap.size < W5.heap.size := hbm.lt
      have hec := ext_cell W5
      have Hg := Lib.hid hg
      have Hla := Lib.hid hla
      have Hbc := Lib.hid hbc
      have Hbm := Lib.hid hbm
      have HW5 := Lib.hid hW5
      have Hsr5 := Lib.hid hsr5
      have HsubN := Lib.hid hsubN
      clear hg hla hbc hbm hW5 hsr5 hsubN hgo hrl hsr hcx hdr hB5 hbr hsz
      generalize hlpd : lastP ps os.length = lp at *
      have Hlpd := Lib.hid hlpd
      clear hlpd
      by_cases hfx : f = x
      case neg =>
        have hdf : (f != x) = true := by simpa using hfx
        have Hv := Lib.hid (show rightP ps os l = false by rw [Hg.out, decide_eq_false hfx]; rfl)
        clear hfx Hg
        go_upto_region 9 with (fail)
        rw [← HW5.out]
        clear c0 c1 c2 c3 q0 q1 q2 q3 HW5
        refine wp_region_ext (by kernel_rfl) (by kernel_rfl) ?_
        repeat (go_big_quiet_step (fail))
        refine wpQuiet_nil ?_
        intro _ hw'
        obtain ⟨xx, hw''⟩ := hw'
        subst hw''
        have hBf := hBw5.trans (xx.h.mono hBw5.size)
        clear hec p0 p1 p2 p3 r0 r1 r2 r3
        generalize xx.w = w9 at hBf ⊢
        go_wp2_with fail
        go_ret
        exact ⟨ret_bool Hv.out.symm, hBf⟩
      subst hfx
      have hdf : (f != f) = false := by simp
      by_cases htf : t < f
      · have hdt : decide (t < f) = true := decide_eq_true htf
        have Hv := Lib.hid (show rightP ps os l = false by rw [Hg.out, decide_eq_true rfl, decide_eq_false (show ¬ f ≤ t by omega)]; rfl)
        clear Hg
        go_upto_region 9 with (fail)
        rw [← HW5.out]
        clear c0 c1 c2 c3 q0 q1 q2 q3 HW5
        refine wp_region_ext (by kernel_rfl) (by kernel_rfl) ?_
        repeat (go_big_quiet_step (fail))
        refine wpQuiet_nil ?_
        intro _ hw'
        obtain ⟨xx, hw''⟩ := hw'
        subst hw''
        have hBf := hBw5.trans (xx.h.mono hBw5.size)
        clear hec p0 p1 p2 p3 r0 r1 r2 r3
        generalize xx.w = w9 at hBf ⊢
        go_wp2_with fail
        go_ret
        exact ⟨ret_bool Hv.out.symm, hBf⟩
      have hdt : decide (t < f) = false := decide_eq_false htf
      by_cases htl : t > lp
      · have hdl2 : decide (t > lp) = true := decide_eq_true htl
        have Hv := Lib.hid (show rightP ps os l = false by rw [Hg.out, decide_eq_true rfl, decide_eq_true (show f ≤ t by omega), decide_eq_false (show ¬ t ≤ lp by omega)]; rfl)
        clear Hg
        go_upto_region 9 with (fail)
        rw [← HW5.out]
        clear c0 c1 c2 c3 q0 q1 q2 q3 HW5
        refine wp_region_ext (by kernel_rfl) (by kernel_rfl) ?_
        repeat (go_big_quiet_step ((go_at_call 77; with_reducible exact ext_call (Hla.out _))))
        refine wpQuiet_nil ?_
        intro _ hw'
        obtain ⟨xx, hw''⟩ := hw'
        subst hw''
        have hBf := hBw5.trans (xx.h.mono hBw5.size)
        clear hec p0 p1 p2 p3 r0 r1 r2 r3
        generalize xx.w = w9 at hBf ⊢
        go_wp2_with fail
        go_ret
        exact ⟨ret_bool Hv.out.symm, hBf⟩
      have hdl2 : decide (t > lp) = false := decide_eq_false htl
      have hg2 : rightP ps os l = (oneP ps os (.mk f t wi sub) && goP ps os (t + 1) (l.drop (k + 1))) := by
        rw [Hg.out, decide_eq_true rfl, decide_eq_true (show f ≤ t by omega), decide_eq_true (show t ≤ lp by omega)]; rfl
      have hwt := IntWalk.i64_in (t + 1) (by omega)
      have Hg2 := Lib.hid hg2
      clear hg2 Hg
      go_upto_region 9 with (fail)
      rw [← HW5.out]
      clear c0 c1 c2 c3 q0 q1 q2 q3 HW5
      refine wp_region_ext (by kernel_rfl) (by kernel_rfl) ?_
      repeat (go_big_quiet_step ((go_at_call 77; with_reducible exact ext_call (Hla.out _))))
      refine wpQuiet_nil ?_
      intro _ hw'
      obtain ⟨xx, hw''⟩ := hw'
      subst hw''
      have hbm6 := Hbm.out.below xx.h Hbm.out.lt
      have hbc6 := Hbc.out.below xx.h Hbc.out.lt
      have hsr6 := RdK.keep' xx.h Hsr5.out
      have hBw6 := hBw5.trans (xx.h.mono hBw5.size)
      have hBr6 := hBr5.trans (xx.h.mono hBr5.size)
      clear hec p0 p1 p2 p3 r0 r1 r2 r3 Hla Hbm Hbc Hsr5 hBr5 hBw5 hdf
      generalize xx.w = W6 at *
      have r0 : W6.cell? ⟨wr.heap.size, 0, none⟩ = some (.int .i64 f) := hbc6.cell 0
      have r1 : W6.cell? ⟨wr.heap.size, 1, none⟩ = some (.int .i64 t) := hbc6.cell 1
      have r2 : W6.cell? ⟨wr.heap.size, 2, none⟩ = some (.int .i64 wi) := hbc6.cell 2
      have r3 : W6.cell? ⟨wr.heap.size, 3, none⟩ = some (.slice As sub.length cs) := hbc6.cell 3
      by_cases hw1 : wi = -1
      · subst hw1
        have hdw : ((-1 : Int) == -1) = true := rfl
        by_cases hft : f = t
        · subst hft
          have h1p := oneP_neg ps os f sub
          rw [h1p] at Hg2
          have hol : (os ++ [f]).length = os.length + 1 := by simp
          have hcall : ∀ W' A' c', Below W6.heap.size W6 W' → RdInt W' W'.heap.size A' (os ++ [f]) → Calls Try.prog 75 #[.agg #[.string name, .int .i64 mem, .int .i64 F, .slice A ps.length c], .slice A' (os.length + 1) c', .slice As sub.length cs] W' fun e w' => e = .returned (.bool (rightP ps (os ++ [f]) sub)) ∧ Below W'.heap.size W' w' := fun W' A' c' hb hri => by
            have := IH.out sub HsubN.out (os ++ [f]) A' c' As cs W' (H.out.below (hBw6.trans (hb.mono hBw6.size))) hri (RdK.keep' hb hsr6) (by rw [hol]; omega) (by unfold maxLen at hs2; omega)
            rw [hol] at this
            exact this
          have hos6 := HO.out.below hBw6
          clear h1p hol
          go_wp2_with fail
          refine reg75_13_c name mem F ps A c os Ao co f (-1) sub As cs w.heap.size wr.heap.size (rightP ps (os ++ [f]) sub) W6 (by omega) (rdInt_reads hos6) hbm6 hbc6 hcall _ ?_ ?_
          · exact fun d _ _ _ _ h => by cases d <;> exact h
          rintro y59 y60 y61 y62 y63 y64 y65 y66 y67 y68 y69 y70 y71 y72 y73 y74 y75 y76 W7 hb67
          have hBw7 := hBw6.trans (hb67.mono hBw6.size)
          have hBr7 := hBr6.trans (hb67.mono hBr6.size)
          clear hb67 hcall hos6 r0 r1 r2 r3 hbm6 hbc6 hsr6 hBw6 hBr6
          cases hr : rightP ps (os ++ [f]) sub with
          | false =>
            have Hv := Lib.hid (show rightP ps os l = false by rw [Hg2.out, hr]; rfl)
            clear hr Hg2
            go_wp2_with fail
            go_ret
            exact ⟨ret_bool Hv.out.symm, hBw7⟩
          | true =>
            have Hv := Lib.hid (show rightP ps os l = goP ps os (f + 1) (l.drop (k + 1)) by rw [Hg2.out, hr]; rfl)
            clear hr Hg2
            go_wp2_with fail
            go_roundw
            case rel => exact ⟨k + 1, f + 1, by omega, by go_num, rfl, by omega, by omega, hBr7, Hv.out⟩
            case measure => simp [intOf]; omega
        · have hdne : (f != t) = true := by simpa using hft
          have Hv := Lib.hid (show rightP ps os l = false by rw [Hg2.out, oneP, if_pos rfl, decide_eq_false hft]; rfl)
          clear Hg2 hft
          go_wp2_with fail
          refine wp_region_ext (by kernel_rfl) (by kernel_rfl) ?_
          have hec := ext_cell W6
          have hbz6 := hbc6.lt
          repeat (go_big_quiet_step (fail))
          refine wpQuiet_nil ?_
          intro _ hw'
          obtain ⟨xx, hw''⟩ := hw'
          subst hw''
          have hBf := hBw6.trans (xx.h.mono hBw6.size)
          clear hec r0 r1 r2 r3 hbm6 hbc6 hsr6
          generalize xx.w = w9 at hBf ⊢
          go_wp2_with fail
          go_ret
          exact ⟨ret_bool Hv.out.symm, hBf⟩
      · have hdw : (wi == -1) = false := by simpa using hw1
        have hone : oneP ps os (.mk f t wi sub) = if wi < 0 ∨ (os.length : Int) ≤ wi ∨ 0 < sub.length then false else allP ps os wi.toNat f t := by rw [oneP, if_neg hw1]
        by_cases hw0 : wi < 0
        · have hd0 : decide (wi < 0) = true := decide_eq_true hw0
          have Hv := Lib.hid (show rightP ps os l = false by rw [Hg2.out, hone, if_pos (.inl hw0)]; rfl)
          clear Hg2 hone hw1
          go_wp2_with fail
          go_ret
          exact ⟨ret_bool Hv.out.symm, hBw6⟩
        have hd0 : decide (wi < 0) = false := decide_eq_false hw0
        by_cases hwn : (os.length : Int) ≤ wi
        · have hdn : decide (wi ≥ (os.length : Int)) = true := decide_eq_true hwn
          have Hv := Lib.hid (show rightP ps os l = false by rw [Hg2.out, hone, if_pos (.inr (.inl hwn))]; rfl)
          clear Hg2 hone hw1
          go_wp2_with fail
          go_ret
          exact ⟨ret_bool Hv.out.symm, hBw6⟩
        have hdn : decide (wi ≥ (os.length : Int)) = false := decide_eq_false hwn
        by_cases hsub : 0 < sub.length
        · have hds : decide ((sub.length : Int) > 0) = true := decide_eq_true (by omega)
          have Hv := Lib.hid (show rightP ps os l = false by rw [Hg2.out, hone, if_pos (.inr (.inr hsub))]; rfl)
          clear Hg2 hone hw1
          go_wp2_with fail
          go_ret
          exact ⟨ret_bool Hv.out.symm, hBw6⟩
        have hds : decide ((sub.length : Int) > 0) = false := decide_eq_false (by omega)
        have hg3 : rightP ps os l = (allP ps os wi.toNat f t && goP ps os (t + 1) (l.drop (k + 1))) := by rw [Hg2.out, hone, if_neg (by omega)]
        obtain ⟨j, rfl⟩ := Int.eq_ofNat_of_zero_le (show 0 ≤ wi by omega)
        have hj : j < os.length := by omega
        have hjp : j < ps.length := by omega
        rw [Int.toNat_natCast] at hg3
        have Hg3 := Lib.hid hg3
        have Hbm6 := Lib.hid hbm6
        have Hbc6 := Lib.hid hbc6
        have HBw6 := Lib.hid hBw6
        have HBr6 := Lib.hid hBr6
        clear Hg2 hone hg3 hw1 hbm6 hbc6 hBw6 hBr6 hsr6
        go_wp2_with fail
        clear r0 r1 r2 r3
        generalize wr.heap.size = Bc at *
        go_loopw [11] (fun oo wq => ∃ d : Nat, (d : Int) ≤ t - f + 1 ∧ oo = .int .i64 (f + d) ∧ Below W6.heap.size W6 wq ∧ Hid (∀ y : Int, f ≤ y → y < f + d → clashP ps os j y = true)) (fun oo _ => (t + 1 - intOf oo).toNat)
        case atStart => exact ⟨0, by omega, by simp, Below.refl _ _, fun y h1 h2 => by omega⟩
        case round =>
          obtain ⟨d, hd9, rfl, hBq, hall⟩ := hrel
          have hbm := Hbm6.out.below hBq Hbm6.out.lt
          have hbc := Hbc6.out.below hBq Hbc6.out.lt
          have hBwq := HBw6.out.trans (hBq.mono HBw6.out.size)
          have p0 : wr.cell? ⟨w.heap.size, 0, none⟩ = some (.string name) := hbm.cell 0
          have p1 : wr.cell? ⟨w.heap.size, 1, none⟩ = some (.int .i64 mem) := hbm.cell 1
          have p2 : wr.cell? ⟨w.heap.size, 2, none⟩ = some (.int .i64 F) := hbm.cell 2
          have p3 : wr.cell? ⟨w.heap.size, 3, none⟩ = some (.slice A ps.length c) := hbm.cell 3
          have r1 : wr.cell? ⟨Bc, 1, none⟩ = some (.int .i64 t) := hbc.cell 1
          have r2 : wr.cell? ⟨Bc, 2, none⟩ = some (.int .i64 j) := hbc.cell 2
          have hz7 := hbc.lt
          have hz8 := hbm.lt
          by_cases hle : f + d ≤ t
          · have hdle : decide (f + (d : Int) ≤ t) = true := decide_eq_true hle
            obtain ⟨b3, o3, rfl, hb3, hcc⟩ := (HO.out.below hBwq) (by omega)
            have c0 := hcc j hj
            have hj0 : (0 : Int) ≤ (j : Int) := by omega
            have hj1 : (j : Int) < (os.length : Int) := by omega
            have hp := H.out.below hBwq
            have k1 : ∀ y : Ext wr, Calls Try.prog 91 #[.agg #[.string name, .int .i64 mem, .int .i64 F, .slice A ps.length c], .int .i64 j, .int .i64 os[j]] y.w fun e w' => e = .returned (.agg #[.int .i64 os[j], .int .i64 ps[j].period, .int .i64 ps[j].length]) ∧ Below y.w.heap.size y.w w' := fun y => rslot_c name mem F ps A c j os[j] y.w (hp.below y.h) hjp h6
            have k2 : ∀ y : Ext wr, Calls Try.prog 91 #[.agg #[.string name, .int .i64 mem, .int .i64 F, .slice A ps.length c], .int .i64 os.length, .int .i64 (f + d)] y.w fun e w' => e = .returned (.agg #[.int .i64 (f + d), .int .i64 ps[os.length].period, .int .i64 ps[os.length].length]) ∧ Below y.w.heap.size y.w w' := fun y => rslot_c name mem F ps A c os.length (f + d) y.w (hp.below y.h) hlt h6
            have k3 : ∀ y : Ext wr, Calls Try.prog 90 #[.agg #[.int .i64 os[j], .int .i64 ps[j].period, .int .i64 ps[j].length], .agg #[.int .i64 (f + d), .int .i64 ps[os.length].period, .int .i64 ps[os.length].length]] y.w fun e w' => e = .returned (.bool (disjB ⟨os[j], ps[j].period, ps[j].length⟩ ⟨f + d, ps[os.length].period, ps[os.length].length⟩)) ∧ Below y.w.heap.size y.w w' := fun y => refDisj_c ⟨os[j], ps[j].period, ps[j].length⟩ ⟨f + d, ps[os.length].period, ps[os.length].length⟩ y.w
            have hec := ext_cell wr
            have hcl : clashP ps os j (f + d) = !disjB ⟨os[j], ps[j].period, ps[j].length⟩ ⟨f + d, ps[os.length].period, ps[os.length].length⟩ := by simp [clashP, pslot, hj, hlt, hjp]
            have hno : clashP ps os j (f + d) = false → rightP ps os l = false := fun h => by rw [Hg3.out, allP_no (x := f + d) (by omega) hle h]; rfl
            have hnx : clashP ps os j (f + d) = true → ∀ y : Int, f ≤ y → y < f + (d + 1 : Nat) → clashP ps os j y = true := fun h y h1 h2 => by
              by_cases e : y = f + d
              · subst e; exact h
              · exact hall.out y h1 (by omega)
            have hwd := IntWalk.i64_in (f + d + 1) (by omega)
            have HNo := Lib.hid hno
            have HNx := Lib.hid hnx
            have Hcl := Lib.hid hcl
            have K1 := Lib.hid k1
            have K2 := Lib.hid k2
            have K3 := Lib.hid k3
            clear hno hnx hcl k1 k2 k3 hcc hall hp hbm hbc
            generalize os[j] = v0 at *
            generalize ps[j].period = v1 at *
            generalize ps[j].length = v2 at *
            generalize ps[os.length].period = v3 at *
            generalize ps[os.length].length = v4 at *
            generalize clashP ps os j (f + d) = cl at *
            generalize disjB ⟨v0, v1, v2⟩ ⟨f + d, v3, v4⟩ = q at *
            go_wp2_with fail
            refine wp_region_ext (by kernel_rfl) (by kernel_rfl) ?_
            repeat (go_big_quiet_step ((first | (go_at_call 91; first | with_reducible exact ext_call (K1.out _) | with_reducible exact ext_call (K2.out _)) | (go_at_call 90; with_reducible exact ext_call (K3.out _)))))
            refine wpQuiet_nil ?_
            intro _ hw'
            obtain ⟨xx, hw''⟩ := hw'
            subst hw''
            have hB2 := hBq.trans (xx.h.mono hBq.size)
            clear hec p0 p1 p2 p3 r1 r2 c0 K1 K2 K3
            generalize xx.w = w9 at hB2 ⊢
            cases q with
            | true =>
              have hy := Lib.hid (HNo.out Hcl.out)
              have hfin := HBw6.out.trans (hB2.mono HBw6.out.size)
              clear HNx HNo Hcl hB2
              go_wp2_with fail
              go_ret
              exact ⟨ret_bool hy.out.symm, hfin⟩
            | false =>
              have Hnext := Lib.hid (HNx.out Hcl.out)
              clear HNx HNo Hcl
              go_wp2_with fail
              go_roundw
              case rel => exact ⟨d + 1, by omega, by simp; omega, hB2, Hnext.out⟩
              case measure => simp [intOf]; omega
          · have hdle : decide (f + (d : Int) ≤ t) = false := decide_eq_false hle
            have hall2 : allP ps os j f t = true := allP_yes fun y h1 h2 => hall.out y h1 (by omega)
            have Hv := Lib.hid (show rightP ps os l = goP ps os (t + 1) (l.drop (k + 1)) by rw [Hg3.out, hall2]; rfl)
            have hBrq := HBr6.out.trans (hBq.mono HBr6.out.size)
            clear hall hall2 Hg3 hbm hbc p0 p1 p2 p3 r2
            go_wp2_with fail
            go_roundw
            case rel => exact ⟨k + 1, t + 1, by omega, by go_num, rfl, by omega, by omega, hBrq, Hv.out⟩
            case measure => simp [intOf]; omega

set_option maxRecDepth 100000 in
set_option maxHeartbeats 2000000 in
theorem rcheck_c (name : ByteArray) (mem F : Int) (ps : List Part) (A : Option Addr) (c : Nat) (l : List Claim) (Ac : Option Addr) (cc : Nat) (w : World) (h : RdPart w w.heap.size A ps) (hk : RdK w Ac l) (hl : ps.length * 8 ≤ 140737488355328) (hll : l.length ≤ 9223372036854775807) :
    Calls Try.prog 52 #[.agg #[.string name, .int .i64 mem, .int .i64 F, .slice A ps.length c], .slice Ac l.length cc] w fun e w' => e = .returned (.bool (checkV F ps l)) ∧ Below w.heap.size w w' := by
  obtain ⟨W1, hW1⟩ : ∃ W1, W1 = w.alloc (.cells #[.string name, .int .i64 mem, .int .i64 F, .slice A ps.length c] 24) := ⟨_, rfl⟩
  have hB : Below w.heap.size w W1 := by rw [hW1]; exact (Below.refl _ w).alloc (Nat.le_refl _) _
  have hb0 : Blk W1 w.heap.size 24 #[.string name, .int .i64 mem, .int .i64 F, .slice A ps.length c] := by rw [hW1]; exact Blk.new w 24 _
  have hti := refTimes_c name mem F ps A c W1 (h.below hB) (by omega)
  have HW1 := Lib.hid hW1
  have H := Lib.hid h
  have HK := Lib.hid hk
  have HB := Lib.hid hB
  have Hb := Lib.hid hb0
  clear hW1 h hk hB hb0
  cases hT : timesV F ps with
  | false =>
    rw [hT] at hti
    have Hv := Lib.hid (show checkV F ps l = false by simp [checkV, hT])
    have Hti := Lib.hid hti
    clear hti hT
    go_enter Try.func52, Try.ntmps52
    go_wp2_with fail
    rw [← HW1.out]
    refine Hti.out.mono ?_
    rintro e W2 ⟨rfl, hb2⟩
    have hB2 := HB.out.trans (hb2.mono HB.out.size)
    clear Hti hb2
    go_wp2_with fail
    go_ret
    exact ⟨ret_bool Hv.out.symm, hB2⟩
  | true =>
    rw [hT] at hti
    have Hti := Lib.hid hti
    have HT := Lib.hid hT
    clear hti hT
    go_enter Try.func52, Try.ntmps52
    go_wp2_with fail
    rw [← HW1.out]
    refine Hti.out.mono ?_
    rintro e W2 ⟨rfl, hb2⟩
    have hB2 := HB.out.trans (hb2.mono HB.out.size)
    have hbx := Hb.out.below hb2 Hb.out.lt
    have hsz := rsize_c (sizeL l + 1) l (by omega) Ac cc W2 (RdK.keep' hB2 HK.out) hll
    have hcv : checkV F ps l = (decide (IntKind.i64.wrap (sizeL l) ≤ 16384) && rightP ps [] l) := by simp [checkV, HT.out]
    have Hbx := Lib.hid hbx
    have HB2 := Lib.hid hB2
    have Hcv := Lib.hid hcv
    clear Hti hb2 Hb HB hbx HW1 hB2 hcv
    generalize IntKind.i64.wrap (sizeL l) = sz at *
    have Hsz := Lib.hid hsz
    clear hsz
    go_wp2_with fail
    refine Hsz.out.mono ?_
    rintro e W3 ⟨rfl, hb3⟩
    have hB3 := HB2.out.trans (hb3.mono HB2.out.size)
    have hbx := Hbx.out.below hb3 Hbx.out.lt
    clear Hsz hb3 HB2 Hbx
    by_cases hs : sz ≤ 16384
    · have hd : decide (sz ≤ 16384) = true := decide_eq_true hs
      have q0 : W3.cell? ⟨w.heap.size, 0, none⟩ = some (.string name) := hbx.cell 0
      have q1 : W3.cell? ⟨w.heap.size, 1, none⟩ = some (.int .i64 mem) := hbx.cell 1
      have q2 : W3.cell? ⟨w.heap.size, 2, none⟩ = some (.int .i64 F) := hbx.cell 2
      have q3 : W3.cell? ⟨w.heap.size, 3, none⟩ = some (.slice A ps.length c) := hbx.cell 3
      have hrc := rright_c name mem F ps A c HT.out (sizeL l + 1) l (by omega) [] none 0 Ac cc W3 (H.out.below hB3) (fun h => absurd h (by simp)) (RdK.keep' hB3 HK.out) (by simp) hll
      have Hv := Lib.hid (show checkV F ps l = rightP ps [] l by rw [Hcv.out, hd]; rfl)
      have Hrc := Lib.hid hrc
      clear hrc hbx hs Hcv
      generalize rightP ps [] l = rr at *
      go_wp2_with fail
      refine Hrc.out.mono ?_
      rintro e W4 ⟨rfl, hb4⟩
      have hB4 := hB3.trans (hb4.mono hB3.size)
      clear Hrc hb4 q0 q1 q2 q3
      go_wp2_with fail
      go_ret
      exact ⟨ret_bool Hv.out.symm, hB4⟩
    · have hd : decide (sz ≤ 16384) = false := decide_eq_false hs
      have Hv := Lib.hid (show checkV F ps l = false by rw [Hcv.out, hd]; rfl)
      clear hbx hs Hcv
      go_wp2_with fail
      go_ret
      exact ⟨ret_bool Hv.out.symm, hB3⟩
end Go.Proofs.Ytlmbffnmjfbglab
