/- PlanLess: without one of its partitions, the other offsets of a plan are a plan; so Plan finds one, unless the search is too long; of any module and number. -/
import Derived.Test.YtlmbffnmjfbglabL8
import Derived.Test.YtlmbffnmjfbglabM9
set_option linter.unusedSimpArgs false
set_option linter.unusedVariables false
namespace Go.Proofs.Ytlmbffnmjfbglab
open Go.ChangeShapes Go.WideShapes Go.ChangeAt Go.RowKit

theorem rdInt_own {w : World} {base : Nat} {v : Value} {l : List Int} (h : w.ownsRow base 3 1 v l.length (l.map (Value.int .i64))) : ∃ A c, v = .slice A l.length c ∧ l.length ≤ c ∧ RdInt w w.heap.size A l := by
  rcases h.2 with ⟨rfl, h0⟩ | ⟨g, cap, cur, rfl, hb, hg, h1, h2, _⟩
  · exact ⟨none, 0, by rw [h0], by omega, fun hn => by omega⟩
  · refine ⟨_, cap, rfl, h1, fun hn => ⟨g, 0, rfl, (Array.getElem?_eq_some_iff.1 hg).1, fun i hi => ?_⟩⟩
    have := h.cells (g := g) rfl i (.int .i64 l[i]) (by simp [hi])
    rw [add_none] at this
    exact this

section
attribute [-go_sem] run_sliceAt_slice
set_option maxRecDepth 100000 in
set_option maxHeartbeats 4000000 in
theorem less_walk (name : ByteArray) (mem F : Int) (ps : List Part) (A : Option Addr) (c : Nat) (at_ : Int) (w : World) (h : RdPart w w.heap.size A ps) (hc : ps.length ≤ c) (hl : ps.length * 8 ≤ 140737488355328) :
    Calls Try.prog 8 #[.agg #[.string name, .int .i64 mem, .int .i64 F, .slice A ps.length c], .int .i64 at_] w fun e w' => e = .returned (.bool true) ∧ Below w.heap.size w w' := by
  have H := Lib.hid h
  clear h
  go_enter Try.func8, Try.ntmps8
  go_wp2_with fail
  refine nameC fun W0 hW0 => ?_
  have hB0 : Below w.heap.size w W0 := by subst hW0; exact (Below.refl _ w).alloc (Nat.le_refl _) _
  have hb0 : Blk W0 w.heap.size 24 #[.string name, .int .i64 mem, .int .i64 F, .slice A ps.length c] := by subst hW0; exact Blk.new w 24 _
  clear hW0
  refine (awake_c W0).mono ?_
  rintro e W1 ⟨rfl, hb1⟩
  have hB1 := hB0.trans (hb1.mono hB0.size)
  replace hb0 := hb0.below hb1 hb0.lt
  clear hb1 hB0
  have q0 : W1.cell? ⟨w.heap.size, 0, none⟩ = some (.string name) := hb0.cell 0
  have q1 : W1.cell? ⟨w.heap.size, 1, none⟩ = some (.int .i64 mem) := hb0.cell 1
  have q2 : W1.cell? ⟨w.heap.size, 2, none⟩ = some (.int .i64 F) := hb0.cell 2
  have q3 : W1.cell? ⟨w.heap.size, 3, none⟩ = some (.slice A ps.length c) := hb0.cell 3
  have hch := choices_c name mem F ps A c W1 (H.out.below hB1) hl
  obtain ⟨N, hN⟩ : ∃ N, N = choicesV F ps := ⟨_, rfl⟩
  rw [← hN] at hch
  have HN := Lib.hid hN
  have Hch := Lib.hid hch
  clear hN hch
  go_wp2_with fail
  refine Hch.out.mono ?_
  rintro e W2 ⟨rfl, hb2⟩
  have hB2 := hB1.trans (hb2.mono hB1.size)
  replace hb0 := hb0.below hb2 hb0.lt
  clear hb2 hB1 Hch q0 q1 q2 q3
  by_cases hneg : N < 0
  · have hd : decide (N < 0) = true := decide_eq_true hneg
    clear HN
    go_wp2_with fail
    go_ret
    exact ⟨rfl, hB2⟩
  have hd : decide (N < 0) = false := decide_eq_false hneg
  obtain ⟨hT, hprod⟩ := choices_prod (F := F) (ps := ps) (by rw [← HN.out]; omega)
  have q0 : W2.cell? ⟨w.heap.size, 0, none⟩ = some (.string name) := hb0.cell 0
  have q1 : W2.cell? ⟨w.heap.size, 1, none⟩ = some (.int .i64 mem) := hb0.cell 1
  have q2 : W2.cell? ⟨w.heap.size, 2, none⟩ = some (.int .i64 F) := hb0.cell 2
  have q3 : W2.cell? ⟨w.heap.size, 3, none⟩ = some (.slice A ps.length c) := hb0.cell 3
  by_cases hz : ps.length = 0
  · have hdz : ((ps.length : Int) == 0) = true := beq_iff_eq.2 (by omega)
    clear hprod HN
    go_wp2_with fail
    go_ret
    exact ⟨rfl, hB2⟩
  have hdz : ((ps.length : Int) == 0) = false := beq_eq_false_iff_ne.2 (by omega)
  have hps6 : ps.length ≤ 6 := (timesV_ok hT).few
  have hpl := plan_c name mem F ps A c W2 (H.out.below hB2) hl
  have hcas := planV_cases hT
  have hlaw : ∀ k, (planV F ps).2.2 = 0 → k < ps.length → _ := fun k h0 hk => less_law hT h0 (k := k) hk
  have HT := Lib.hid hT
  clear hprod hT
  generalize planV F ps = pv at *
  obtain ⟨po, pc, pe⟩ := pv
  simp only at hpl hcas hlaw
  have Hpl := Lib.hid hpl
  have Hcas := Lib.hid hcas
  have Hlaw := Lib.hid hlaw
  have hz' : 0 < ps.length := by omega
  clear hpl hcas hlaw hz
  go_wp2_with fail
  refine Hpl.out.mono ?_
  rintro e W3 ⟨Ao, co, Ac, cc, rfl, hro, hrc, hcc, hco, hb3⟩
  have hB3 := hB2.trans (hb3.mono hB2.size)
  replace hb0 := hb0.below hb3 hb0.lt
  clear hb3 hB2 Hpl q0 q1 q2 q3 hrc hcc
  by_cases h0 : pe = 0
  case neg =>
    have hd3 : (pe != (0 : Int)) = true := by simpa using h0
    obtain rfl : po = [] := by
      rcases Hcas.out with ⟨os, hv, _, _⟩ | ⟨_, h2, _⟩ | ⟨_, h2, _⟩
      · injection hv with _ hv; injection hv with _ hv; exact absurd hv h0
      · exact h2
      · exact h2
    clear Hcas Hlaw h0 HN hro
    go_wp2_with fail
    go_ret
    exact ⟨rfl, hB3⟩
  subst h0
  have hpo : po.length = ps.length := by
    rcases Hcas.out with ⟨os, hv, h1, _⟩ | ⟨h1, _⟩ | ⟨h1, _⟩
    · injection hv with hv _; subst hv; exact h1.1
    · omega
    · omega
  obtain ⟨k, hkI, hk⟩ : ∃ k : Nat, at_ % (po.length : Int) = k ∧ k < po.length := by
    have h1 := Int.emod_nonneg at_ (show (po.length : Int) ≠ 0 by omega)
    have h2 := Int.emod_lt_of_pos at_ (show (0 : Int) < (po.length : Int) by omega)
    exact ⟨(at_ % (po.length : Int)).toNat, by omega, by omega⟩
  have hpk := pick_c at_ (po.length : Int) W3 (by omega) (by omega)
  rw [hkI] at hpk
  have hpo6 : po.length ≤ 6 := by omega
  obtain ⟨hl1, hl2⟩ := Hlaw.out k rfl (by omega)
  have hel : (ps.eraseIdx k).length = ps.length - 1 := List.length_eraseIdx_of_lt (by omega)
  have heo : (po.eraseIdx k).length = po.length - 1 := List.length_eraseIdx_of_lt hk
  have Hpo := Lib.hid hpo
  have Hel := Lib.hid hel
  have Heo := Lib.hid heo
  have Hl1 := Lib.hid hl1
  have Hl2 := Lib.hid hl2
  have Hro := Lib.hid hro
  have Hpk := Lib.hid hpk
  clear hpo hel heo hl1 hl2 hro hpk hkI Hcas Hlaw HN
  go_wp2_with fail
  refine Hpk.out.mono ?_
  rintro e W ⟨rfl, rfl⟩
  have q0 : W3.cell? ⟨w.heap.size, 0, none⟩ = some (.string name) := hb0.cell 0
  have q1 : W3.cell? ⟨w.heap.size, 1, none⟩ = some (.int .i64 mem) := hb0.cell 1
  have q2 : W3.cell? ⟨w.heap.size, 2, none⟩ = some (.int .i64 F) := hb0.cell 2
  have q3 : W3.cell? ⟨w.heap.size, 3, none⟩ = some (.slice A ps.length c) := hb0.cell 3
  clear Hpk
  go_wp2_with fail
  have hz3 : W3.heap.size ≤ W3.heap.size + 1 := by omega
  obtain ⟨W4, hW4⟩ : ∃ W4, W4 = W3.alloc (.cells #[.string name, .int .i64 mem, .int .i64 F, .slice A ps.length c] 24) := ⟨_, rfl⟩
  have hB4 : Below w.heap.size w W4 := by rw [hW4]; exact hB3.alloc hB3.size _
  have hb4 : Blk W4 w.heap.size 24 #[.string name, .int .i64 mem, .int .i64 F, .slice A ps.length c] := by rw [hW4]; exact hb0.alloc _
  have hb9 : Blk W4 W3.heap.size 24 #[.string name, .int .i64 mem, .int .i64 F, .slice A ps.length c] := by rw [hW4]; exact Blk.new W3 24 _
  have hB34 : Below W3.heap.size W3 W4 := by rw [hW4]; exact (Below.refl _ _).alloc (Nat.le_refl _) _
  have h39 : w.heap.size < W3.heap.size := hb0.lt
  rw [← hW4]
  clear hW4 hb0 q0 q1 q2 q3 hB3
  refine reg8_10_c ps A c k w.heap.size W3.heap.size W4 (by rw [← Hpo.out]; exact hk) hc hps6 (rdPart_reads (H.out.below hB4)) hb4 rfl hb9 rfl _ ?_ ?_
  · exact fun d _ _ _ _ h => by cases d <;> exact h
  rintro y42 y43 y44 y45 y46 y47 y48 y49 y50 y51 y52 y53 y54 V W5 hb45 hown
  obtain ⟨Ap, cp, rfl, hcp, _, hrp⟩ := rdPart_own (l := ps.eraseIdx k) (by rw [Hel.out]; exact hown)
  have hB5 : Below w.heap.size w (W5.setCell ⟨W3.heap.size, 3, none⟩ (.slice Ap (ps.eraseIdx k).length cp)) := (hB4.trans (hb45.mono hB4.size)).setCell (p := ⟨W3.heap.size, 3, none⟩) (Nat.le_of_lt h39) _
  have hb95 : Blk (W5.setCell ⟨W3.heap.size, 3, none⟩ (.slice Ap (ps.eraseIdx k).length cp)) W3.heap.size 24 #[.string name, .int .i64 mem, .int .i64 F, .slice Ap (ps.eraseIdx k).length cp] := (hb9.below hb45 hb9.lt).set_ 3 _
  have hrp5 : RdPart (W5.setCell ⟨W3.heap.size, 3, none⟩ (.slice Ap (ps.eraseIdx k).length cp)) (W5.setCell ⟨W3.heap.size, 3, none⟩ (.slice Ap (ps.eraseIdx k).length cp)).heap.size Ap (ps.eraseIdx k) := fun hn => by
    obtain ⟨b, o, e, hb, hcc⟩ := hrp hn
    have hbne : b ≠ W3.heap.size := fun e2 => by
      rcases hown.2 with ⟨e3, h0⟩ | ⟨g, cap, cur, e3, hg, _⟩
      · rw [Hel.out] at hn; omega
      · injection e3 with e3 _ _
        rw [e] at e3
        injection e3 with e3
        injection e3 with e3
        have := hb9.lt
        omega
    refine ⟨b, o, e, by simpa [World.setCell] using hb, fun i hi j v hv => ?_⟩
    rw [World.cell?_setCell_far _ _ _ _ (fun e => hbne e.symm)]
    exact hcc i hi j v hv
  have hro5 : RdInt (W5.setCell ⟨W3.heap.size, 3, none⟩ (.slice Ap (ps.eraseIdx k).length cp)) (W5.setCell ⟨W3.heap.size, 3, none⟩ (.slice Ap (ps.eraseIdx k).length cp)).heap.size Ao po := fun hn => by
    obtain ⟨b, o, e, hb, hcc⟩ := Hro.out hn
    have h5 := hB34.trans (hb45.mono hB34.size)
    refine ⟨b, o, e, by have := h5.size; simp [World.setCell]; omega, fun i hi => ?_⟩
    rw [World.cell?_setCell_far _ _ _ _ (show W3.heap.size ≠ b by omega)]
    rw [h5.cell (p := ⟨b, o + i, none⟩) hb]
    exact hcc i hi
  generalize W5.setCell ⟨W3.heap.size, 3, none⟩ (.slice Ap (ps.eraseIdx k).length cp) = W6 at *
  have HB5 := Lib.hid hB5
  have Hb95 := Lib.hid hb95
  have Hrp5 := Lib.hid hrp5
  have Hro5 := Lib.hid hro5
  clear hB5 hb95 hrp5 hro5 hown hrp hb45 hB4 hb4 hb9 hB34 Hro
  go_wp2_with fail
  refine reg8_11_c po Ao co k W6 hk hco (by omega) (rdInt_reads Hro5.out) _ ?_ ?_
  · exact fun d _ _ _ _ h => by cases d <;> exact h
  rintro y55 y56 y57 y58 y59 y60 y61 y62 y63 y64 V W7 hb67 hown
  obtain ⟨Ar, cr, rfl, hcr, hrr⟩ := rdInt_own (l := po.eraseIdx k) (by rw [Heo.out]; exact hown)
  have hB7 := HB5.out.trans (hb67.mono HB5.out.size)
  have hb97 := Hb95.out.below hb67 Hb95.out.lt
  have hrp7 := Hrp5.out.below hb67
  clear hown hb67 HB5 Hb95 Hrp5 Hro5
  have hl1 := Hl1.out
  have hl2 := Hl2.out
  have hel6 : (ps.eraseIdx k).length ≤ 6 := by rw [Hel.out]; omega
  have her6 : (po.eraseIdx k).length ≤ 6 := by rw [Heo.out]; omega
  clear Hl1 Hl2 Hel Heo Hpo
  generalize ps.eraseIdx k = qs at *
  generalize po.eraseIdx k = rs at *
  have q0 : W7.cell? ⟨W3.heap.size, 0, none⟩ = some (.string name) := hb97.cell 0
  have q1 : W7.cell? ⟨W3.heap.size, 1, none⟩ = some (.int .i64 mem) := hb97.cell 1
  have q2 : W7.cell? ⟨W3.heap.size, 2, none⟩ = some (.int .i64 F) := hb97.cell 2
  have q3 : W7.cell? ⟨W3.heap.size, 3, none⟩ = some (.slice Ap qs.length cp) := hb97.cell 3
  have hpl := plan_c name mem F qs Ap cp W7 hrp7 (by omega)
  generalize planV F qs = pv at *
  obtain ⟨po2, pc2, pe2⟩ := pv
  simp only at hpl hl2
  have Hpl := Lib.hid hpl
  have Hl1 := Lib.hid hl1
  have Hl2 := Lib.hid hl2
  clear hpl hl1 hl2
  go_wp2_with fail
  refine Hpl.out.mono ?_
  rintro e W8 ⟨Ao2, co2, Ac2, cc2, rfl, hro2, _, _, hco2, hb8⟩
  have hB8 := hB7.trans (hb8.mono hB7.size)
  replace hb97 := hb97.below hb8 hb97.lt
  replace hrp7 := hrp7.below hb8
  replace hrr := hrr.below hb8
  clear hb8 Hpl q0 q1 q2 q3 hB7
  have q0 : W8.cell? ⟨W3.heap.size, 0, none⟩ = some (.string name) := hb97.cell 0
  have q1 : W8.cell? ⟨W3.heap.size, 1, none⟩ = some (.int .i64 mem) := hb97.cell 1
  have q2 : W8.cell? ⟨W3.heap.size, 2, none⟩ = some (.int .i64 F) := hb97.cell 2
  have q3 : W8.cell? ⟨W3.heap.size, 3, none⟩ = some (.slice Ap qs.length cp) := hb97.cell 3
  have hft := fits_c name mem F qs Ap cp rs Ar cr W8 hrp7 hrr hcr (by omega) (by omega)
  rw [Hl1.out] at hft
  have Hft := Lib.hid hft
  have Hrp7 := Lib.hid hrp7
  have Hrr := Lib.hid hrr
  have Hb97 := Lib.hid hb97
  clear hft hrp7 hrr hb97
  by_cases h5 : pe2 = 5
  · subst h5
    clear Hl2 hro2
    go_wp2_with fail
    refine Hft.out.mono ?_
    rintro e W9 ⟨rfl, hb9⟩
    have hB9 := hB8.trans (hb9.mono hB8.size)
    clear q0 q1 q2 q3 Hft hb9
    go_wp2_with fail
    go_ret
    exact ⟨rfl, hB9⟩
  obtain ⟨hpe, hf2, hl3, hlex⟩ : pe2 = 0 ∧ fitsV F qs po2 = true ∧ po2.length = rs.length ∧ LexLe po2 rs := by
    rcases Hl2.out with h | h
    · exact absurd h h5
    · exact h
  subst hpe
  have Hf2 := Lib.hid hf2
  have Hl3 := Lib.hid hl3
  have Hlex := Lib.hid hlex
  have Hro2 := Lib.hid hro2
  clear hf2 hl3 hlex Hl2 h5 hro2
  go_wp2_with fail
  refine Hft.out.mono ?_
  rintro e W9 ⟨rfl, hb9⟩
  have hB9 := hB8.trans (hb9.mono hB8.size)
  have hb97 := Hb97.out.below hb9 Hb97.out.lt
  have hrp9 := Hrp7.out.below hb9
  have hrr9 := Hrr.out.below hb9
  have hro9 := Hro2.out.below hb9
  clear q0 q1 q2 q3 Hft hb9 Hb97 Hrp7 Hrr Hro2 hB8
  have q0 : W9.cell? ⟨W3.heap.size, 0, none⟩ = some (.string name) := hb97.cell 0
  have q1 : W9.cell? ⟨W3.heap.size, 1, none⟩ = some (.int .i64 mem) := hb97.cell 1
  have q2 : W9.cell? ⟨W3.heap.size, 2, none⟩ = some (.int .i64 F) := hb97.cell 2
  have q3 : W9.cell? ⟨W3.heap.size, 3, none⟩ = some (.slice Ap qs.length cp) := hb97.cell 3
  have hpo26 : po2.length ≤ 6 := by rw [Hl3.out]; exact her6
  have hft := fits_c name mem F qs Ap cp po2 Ao2 co2 W9 hrp9 hro9 hco2 (by omega) (by omega)
  rw [Hf2.out] at hft
  have Hft := Lib.hid hft
  have Hrr := Lib.hid hrr9
  have Hro2 := Lib.hid hro9
  clear hft hrp9 hrr9 hro9 hb97
  go_wp2_with fail
  refine Hft.out.mono ?_
  rintro e W10 ⟨rfl, hb10⟩
  have hB10 := hB9.trans (hb10.mono hB9.size)
  have hrr := Hrr.out.below hb10
  have hro := Hro2.out.below hb10
  have Hrr' := Lib.hid hrr
  have Hro' := Lib.hid hro
  have HB10 := Lib.hid hB10
  clear q0 q1 q2 q3 Hft hb10 Hrr Hro2 hB9 hrr hro hB10
  go_wp2_with fail
  go_loopw [14] (fun i wr => ∃ j : Nat, j ≤ po2.length ∧ i = .int .i64 j ∧ Below W10.heap.size W10 wr ∧ Hid (∀ m, m < j → po2.getD m 0 = rs.getD m 0)) (fun i _ => po2.length - (intOf i).toNat)
  case atStart => exact ⟨0, Nat.zero_le _, rfl, Below.refl _ _, fun m hm => absurd hm (by omega)⟩
  case round =>
    obtain ⟨j, hj, rfl, hBr, hall⟩ := hrel
    by_cases hlt : j < po2.length
    · have hlr : j < rs.length := by rw [← Hl3.out]; exact hlt
      obtain ⟨b, o, rfl, hb, hcc⟩ := (Hro'.out.below hBr) (by omega)
      obtain ⟨b2, o2, rfl, hb2, hcc2⟩ := (Hrr'.out.below hBr) (by omega)
      have c0 := hcc j hlt
      have c1 := hcc2 j hlr
      have hi0 : (0 : Int) ≤ (j : Int) := by omega
      have hi1 : (j : Int) < (po2.length : Int) := by omega
      have hi2 : (j : Int) < (rs.length : Int) := by omega
      have hg1 : po2.getD j 0 = po2[j] := by simp [hlt]
      have hg2 : rs.getD j 0 = rs[j] := by simp [hlr]
      by_cases hxy : po2[j] = rs[j]
      · have hall2 : ∀ m, m < j + 1 → po2.getD m 0 = rs.getD m 0 := fun m hm => by
          by_cases e : m = j
          · subst e; rw [hg1, hg2, hxy]
          · exact hall.out m (by omega)
        have Hall2 := Lib.hid hall2
        have hne : (po2[j] != rs[j]) = false := by simp [hxy]
        clear hcc hcc2 hg1 hg2 hxy hall2 hall
        generalize po2[j] = x at *
        generalize rs[j] = y at *
        go_wp2_with fail
        go_quiet (fail)
        have hB9 := below_drewN hBr nq
        go_wp2_with fail
        go_roundw
        case rel => exact ⟨j + 1, by omega, by go_num, hB9, Hall2.out⟩
        case measure => simp [intOf]; omega
      · have hlex2 : po2[j] < rs[j] := by
          rcases Hlex.out with h | ⟨m, hm, ht, hlt2⟩
          · exact absurd (by subst h; rfl) hxy
          · have hmj : m = j := by
              rcases Nat.lt_trichotomy m j with h | h | h
              · have := hall.out m h; omega
              · exact h
              · exfalso
                have h3 := congrArg (fun l => l.getD j 0) ht
                simp only [List.getD_eq_getElem?_getD, List.getElem?_take, h, if_true] at h3
                rw [← List.getD_eq_getElem?_getD, ← List.getD_eq_getElem?_getD, hg1, hg2] at h3
                exact hxy h3
            subst hmj
            omega
        have hne : (po2[j] != rs[j]) = true := by simpa using hxy
        have hdl : decide (po2[j] < rs[j]) = true := decide_eq_true hlex2
        clear hcc hcc2 hg1 hg2 hxy hall
        generalize po2[j] = x at *
        generalize rs[j] = y at *
        go_wp2_with fail
        go_quiet (fail)
        have hB9 := below_drewN hBr nq
        have c0' : (wr.drewN nq).cell? ⟨b, o + j, none⟩ = some (.int .i64 x) := c0
        have c1' : (wr.drewN nq).cell? ⟨b2, o2 + j, none⟩ = some (.int .i64 y) := c1
        go_wp2_with fail
        go_quiet (fail)
        have hB11 := HB10.out.trans ((below_drewN hB9 nq).mono HB10.out.size)
        go_wp2_with fail
        go_ret
        exact ⟨rfl, hB11⟩
    · obtain rfl : j = po2.length := by omega
      have hB11 := HB10.out.trans (hBr.mono HB10.out.size)
      clear hall hlt
      go_wp2_with fail
      go_ret
      exact ⟨rfl, hB11⟩
end

-- THE ROW
set_option maxRecDepth 100000 in
theorem planLess_lifted (os : Os) (started : os.Started) (H : Type) (enc : TypeId × Value → H) :
    ReturnsInHanded {} Try.checked os 8 .any (Rows.planLessSpec.pre6 enc Try.prog Try.f8 Rows.planLessRow.domain false) (Rows.planLessSpec.post enc Try.prog Try.f8 false true false false) := by
  refine returnsInHanded_of_change_sized (C := Try.checked) own started (by kernel_rfl) Try.func8
    (ChangeSpec.witness6 (enc := enc) (C := Try.checked) false ⟨#[], #[.agg #[.string ⟨#[]⟩, .int .i64 0, .int .i64 0, .slice none 0 0], .int .i64 0], []⟩ 8 (by kernel_rfl) (by kernel_rfl) (by kernel_rfl) (by kernel_rfl)) ?_
  intro W base args ds gs before hval0 hW hcnd hsz0 _
  have hval : ∀ (j : Nat) t v, Try.f8.params[j]? = some t → args[j]? = some v → Value.okWide Try.prog W .any base t v := hval0
  have hW' := hW
  obtain ⟨p, q, hA0, hV, rfl, hfz, hnd⟩ := hW
  have hA : DataW.TrodAll enc Try.prog W 0 (fun _ => true) true Try.f8.params.toList args.toList ds p := hA0
  rw [Try.params8] at hA hval
  obtain ⟨v0, vs0, d0, ds0, p0, q0, hargs, rfl, rfl, h0, r0⟩ := trodAll_cons hA
  obtain ⟨v1, vs1, d1, ds1, p1, q1, rfl, rfl, rfl, h1, r1⟩ := trodAll_cons r0
  obtain ⟨rfl, rfl, rfl⟩ := trodAll_nil r1
  obtain rfl : args = #[v0, v1] := by cases args; simp_all
  obtain ⟨name0, mem0, frame0, A0, c0, l0, rfl, km0, kf0, hlc0, hcm0, hR0, hP0⟩ := open_module (hval 0 24 v0 rfl rfl) h0
  obtain ⟨a1, rfl, rfl, rfl, w1⟩ := open_int Try.underlying3 (hval 1 3 v1 rfl rfl) h1
  have hsz := hsz0
  rw [Try.params8] at hsz
  have hz0 := sz_module (hval 0 24 _ rfl rfl) h0 (fun n hn => by simpa using List.all_eq_true.1 hsz n (DataW.weights_mem_each (j := 0) (t := 24) rfl rfl n hn)) rfl
  clear hA0 hval0
  refine (less_walk name0 mem0 frame0 l0 A0 c0 a1 W hR0 hlc0 hz0).mono fun e W' ⟨he, hg⟩ => ?_
  subst he
  refine ⟨_, rfl, law_post (tb := 4) laid ?_ ?_ Try.underlying4 rfl hW' ⟨rfl, rfl, rfl⟩ hg⟩
  · rw [Try.params8]; intro t ht; simp at ht; rcases ht with rfl | rfl <;> exact ⟨by kernel_rfl, of_decide_eq_true (by kernel_rfl)⟩
  · kernel_rfl

theorem planLess_holds : Rows.PlanLessSaid :=
  OpenClaim.holds_of_wide 8 Try.f8 rfl rfl rfl rfl rfl rfl rfl ⟨rfl, rfl, rfl, rfl, rfl⟩ rfl rfl rfl rfl rfl (by kernel_rfl) Try.func8 (by kernel_rfl)
    (of_decide_eq_true (by kernel_rfl)) (by unfold Func.isWrapper; first | (rw [if_pos (by decide +kernel)]; kernel_rfl) | (rw [if_neg (by decide +kernel)]; exact ⟨rfl, rfl⟩))
    (fun os started H enc _ => planLess_lifted os started H enc)
#print axioms planLess_holds
end Go.Proofs.Ytlmbffnmjfbglab
