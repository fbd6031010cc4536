/- PlanSmall: the closed statement's call returns true. -/
import Derived.Test.YtlmbffnmjfbglabSq
import Derived.Deep.DeepCutAuto
import Derived.Deep.CutBlock
set_option linter.unusedSimpArgs false
set_option linter.unusedVariables false
namespace Go.Proofs.Ytlmbffnmjfbglab
open Go.ChangeShapes Go.WideShapes Go.ChangeAt Go.RowKit Go.Deep

set_option maxRecDepth 100000 in
set_option maxHeartbeats 8000000 in
theorem planSmall_walk (w : World) : Calls Try.prog 7 #[] w fun e w' => e = .returned (.bool true) ∧ Below w.heap.size w w' := by
  obtain ⟨i0, hi0, hz0, hz1, hz2⟩ := info_parts info35
  go_enter Try.func7, Try.ntmps7
  go_wp2_with fail
  refine nameW fun W0 hW0 => ?_
  have hp0 : Blk W0 w.heap.size 3 (([2, 3, 4, 6, 12] : List Int).map (Value.int .i64)).toArray := by rw [hW0]; exact Blk.new w 3 _
  have hB0 : Below w.heap.size w W0 := by rw [hW0]; exact (Below.refl _ w).alloc (Nat.le_refl _) _
  clear hW0
  generalize hpl : ([2, 3, 4, 6, 12] : List Int) = pl at hp0
  have Hpl := Lib.hid (show pl.length = 5 by rw [← hpl]; rfl)
  clear hpl
  go_loopw [2] (fun i wr => ∃ n : Nat, n ≤ 8002 ∧ i = .int .i64 n ∧ Below W0.heap.size W0 wr) (fun i _ => 8002 - (intOf i).toNat)
  case atStart => exact ⟨0, Nat.zero_le _, rfl, Below.refl _ _⟩
  case round =>
    obtain ⟨n, hn, rfl, hB8⟩ := hrel
    by_cases hlt : n < 8000
    · have hn0 : (0 : Int) ≤ (n : Int) := by omega
      have hn1 : (n : Int) < 8000 := by omega
      have hp8 := hp0.below hB8 hp0.lt
      have hpz := hp8.lt
      go_wp2_with fail
      go_upto_region 5 with fail
      go_cut [3] (fun m wc => ∃ (Bm : Nat) (A9 : Option Addr) (c9 : Nat) (ss : List Int), m = .pointer (some ⟨Bm, 0, none⟩) ∧ SM W0 Bm A9 c9 ss wc)
      case first =>
      
        refine reg7_5_c W0 wr w.heap.size n pl Hpl.out hp8 hlt hB8 _ ?_ ?_
        · exact fun d _ _ _ _ h => by cases d <;> exact h
        rintro y17 y18 y19 y20 y21 y22 y23 y24 y25 y26 y27 y28 y29 y30 y31 y32 y33 y34 y35 y36 y37 y38 y39 y40 y41 y42 y43 y44 y45 y46 y47 Bm A9 c9 ss W' hS
        go_wp2_with fail
        go_meet
        exact ⟨Bm, A9, c9, ss, rfl, hS⟩
      case rest =>
        obtain ⟨Bm, A9, c9, ss, rfl, hS⟩ := hcut
        clear hp8 hpz hB8 Hpl hp0
        have g0 : wc.cell? ⟨Bm, 0, none⟩ = some (.string ⟨#[]⟩) := hS.bm.cell 0
        have g1 : wc.cell? ⟨Bm, 1, none⟩ = some (.int .i64 0) := hS.bm.cell 1
        have g2 : wc.cell? ⟨Bm, 2, none⟩ = some (.int .i64 12) := hS.bm.cell 2
        have g3 : wc.cell? ⟨Bm, 3, none⟩ = some (.slice A9 (pairs ss).length c9) := hS.bm.cell 3
        have hpl := plansG_c 12 ss A9 c9 wc hS.pt hS.n hS.cap
        have Hpl := Lib.hid hpl
        have HS := Lib.hid hS
        clear hpl hS
        go_wp2_with fail
        refine Hpl.out.mono ?_
        rintro e W1 ⟨rfl, hb1⟩
        have HS1 := Lib.hid (HS.out.next hb1)
        clear hb1 HS Hpl g0 g1 g2 g3
        obtain ⟨r, m97, hr97⟩ := tmod_nat n 97 (by omega)
        have w97 := IntWalk.i64_in (r : Int) (by omega)
        by_cases h97 : 0 < r
        · have hd : decide ((r : Int) > 0) = true := decide_eq_true (by omega)
          have hd2 : decide (0 < r) = true := decide_eq_true h97
          go_wp2_with fail
          go_roundw
          case rel => exact ⟨n + 3, by omega, by go_num, HS1.out.hb⟩
          case measure => simp [intOf]; omega
        · obtain rfl : r = 0 := by omega
          clear h97 hr97 w97
          have hrp := rplan_c ⟨#[]⟩ 0 12 (pairs ss) A9 c9 W1 HS1.out.pt (by have := HS1.out.n; omega)
          have hql := planV_size 12 (pairs ss)
          generalize planV 12 (pairs ss) = q at hrp hql
          obtain ⟨qa, qb, qe⟩ := q
          dsimp only at hrp hql
          have g0 : W1.cell? ⟨Bm, 0, none⟩ = some (.string ⟨#[]⟩) := HS1.out.bm.cell 0
          have g1 : W1.cell? ⟨Bm, 1, none⟩ = some (.int .i64 0) := HS1.out.bm.cell 1
          have g2 : W1.cell? ⟨Bm, 2, none⟩ = some (.int .i64 12) := HS1.out.bm.cell 2
          have g3 : W1.cell? ⟨Bm, 3, none⟩ = some (.slice A9 (pairs ss).length c9) := HS1.out.bm.cell 3
          have hqn : qb.length ≤ 16384 := Nat.le_trans (sizeL_len qb) hql
          have Hrp := Lib.hid hrp
          have Hql := Lib.hid hql
          clear hrp hql
          go_wp2_with fail
          refine Hrp.out.mono ?_
          rintro e W2 ⟨Ao, co, Ac, cc, rfl, _, hrk, hb2⟩
          have HS2 := Lib.hid (HS1.out.next hb2)
          have Hrk := Lib.hid hrk
          clear hb2 hrk HS1 Hrp g0 g1 g2 g3
          have g0 : W2.cell? ⟨Bm, 0, none⟩ = some (.string ⟨#[]⟩) := HS2.out.bm.cell 0
          have g1 : W2.cell? ⟨Bm, 1, none⟩ = some (.int .i64 0) := HS2.out.bm.cell 1
          have g2 : W2.cell? ⟨Bm, 2, none⟩ = some (.int .i64 12) := HS2.out.bm.cell 2
          have g3 : W2.cell? ⟨Bm, 3, none⟩ = some (.slice A9 (pairs ss).length c9) := HS2.out.bm.cell 3
          have hk1 := checksG_c 12 ss A9 c9 [] none 0 0 qb Ac cc W2 HS2.out.pt HS2.out.n (fun h => absurd h (by simp)) (by simp) (by simp) Hrk.out (by have := Hql.out; omega)
          rw [List.length_nil] at hk1
          have Hk1 := Lib.hid hk1
          clear hk1
          go_wp2_with fail
          refine Hk1.out.mono ?_
          rintro e W3 ⟨rfl, hb3⟩
          have HS3 := Lib.hid (HS2.out.next hb3)
          have Hrk3 := Lib.hid (RdK.keep' hb3 Hrk.out)
          clear hb3 Hk1 HS2 Hrk g0 g1 g2 g3
          obtain ⟨r2, m2n, hr2⟩ := tmod_nat n 2 (by omega)
          obtain ⟨r3, m3n, hr3⟩ := tmod_nat n 3 (by omega)
          obtain ⟨r4, m4n, hr4⟩ := tmod_nat n 4 (by omega)
          have w2n := IntWalk.i64_in (r2 : Int) (by omega)
          have w3n := IntWalk.i64_in (r3 : Int) (by omega)
          have w4n := IntWalk.i64_in (r4 : Int) (by omega)
          have g0 : W3.cell? ⟨Bm, 0, none⟩ = some (.string ⟨#[]⟩) := HS3.out.bm.cell 0
          have g1 : W3.cell? ⟨Bm, 1, none⟩ = some (.int .i64 0) := HS3.out.bm.cell 1
          have g2 : W3.cell? ⟨Bm, 2, none⟩ = some (.int .i64 12) := HS3.out.bm.cell 2
          have g3 : W3.cell? ⟨Bm, 3, none⟩ = some (.slice A9 (pairs ss).length c9) := HS3.out.bm.cell 3
          go_wp2_with fail
          refine nameC fun W4 hW4 => ?_
          have hBx : Below W3.heap.size W3 W4 := by rw [hW4]; exact (Below.refl _ _).alloc (Nat.le_refl _) _
          have hos : RdInt W4 W4.heap.size (some ⟨W3.heap.size, 0, none⟩) [(r2 : Int)] := by rw [hW4]; exact RdInt.blk (l := [(r2 : Int)]) (Blk.new W3 3 _)
          have HS4 := Lib.hid (HS3.out.next hBx)
          have Hrk4 := Lib.hid (RdK.keep' hBx Hrk3.out)
          have hk2 := checksG_c 12 ss A9 c9 [(r2 : Int)] (some ⟨W3.heap.size, 0, none⟩) 1 r3 qb Ac cc W4 HS4.out.pt HS4.out.n hos (by simp) (by simp) Hrk4.out (by have := Hql.out; omega)
          clear hW4 hBx hos HS3 Hrk3 g0 g1 g2 g3
          refine hk2.mono ?_
          rintro e W5 ⟨rfl, hb5⟩
          have HS5 := Lib.hid (HS4.out.next hb5)
          have Hrk5 := Lib.hid (RdK.keep' hb5 Hrk4.out)
          clear hb5 hk2 HS4 Hrk4
          have g0 : W5.cell? ⟨Bm, 0, none⟩ = some (.string ⟨#[]⟩) := HS5.out.bm.cell 0
          have g1 : W5.cell? ⟨Bm, 1, none⟩ = some (.int .i64 0) := HS5.out.bm.cell 1
          have g2 : W5.cell? ⟨Bm, 2, none⟩ = some (.int .i64 12) := HS5.out.bm.cell 2
          have g3 : W5.cell? ⟨Bm, 3, none⟩ = some (.slice A9 (pairs ss).length c9) := HS5.out.bm.cell 3
          go_wp2_with fail
          refine nameC fun W6 hW6 => ?_
          have hBx : Below W5.heap.size W5 W6 := by rw [hW6]; exact (Below.refl _ _).alloc (Nat.le_refl _) _
          have hos : RdInt W6 W6.heap.size (some ⟨W5.heap.size, 0, none⟩) [0, 1, (r4 : Int)] := by rw [hW6]; exact RdInt.blk (l := [0, 1, (r4 : Int)]) (Blk.new W5 3 _)
          have HS6 := Lib.hid (HS5.out.next hBx)
          have Hrk6 := Lib.hid (RdK.keep' hBx Hrk5.out)
          have hk3 := checksG_c 12 ss A9 c9 [0, 1, (r4 : Int)] (some ⟨W5.heap.size, 0, none⟩) 3 0 [] none 0 W6 HS6.out.pt HS6.out.n hos (by simp) (by simp) (fun h => absurd h (by simp)) (by simp [sizeL])
          clear hW6 hBx hos HS5 Hrk5 g0 g1 g2 g3
          refine hk3.mono ?_
          rintro e W7 ⟨rfl, hb7⟩
          have HS7 := Lib.hid (HS6.out.next hb7)
          have Hrk7 := Lib.hid (RdK.keep' hb7 Hrk6.out)
          clear hb7 hk3 HS6 Hrk6 m2n m3n m4n w2n w3n w4n hr2 hr3 hr4
          go_wp2_with fail
          go_loopw [7] (fun i wr => ∃ k : Nat, k ≤ qb.length ∧ i = .int .i64 k ∧ Below W7.heap.size W7 wr) (fun i _ => qb.length - (intOf i).toNat)
          case atStart => exact ⟨0, Nat.zero_le _, rfl, Below.refl _ _⟩
          case round =>
            obtain ⟨k, hk, rfl, hB7⟩ := hrel
            by_cases hkl : k < qb.length
            · have hk0 : (0 : Int) ≤ (k : Int) := by omega
              have hk1 : (k : Int) < (qb.length : Int) := by omega
              go_wp2_with fail
              obtain ⟨wo, hwo⟩ : ∃ wo : World, wo = wr := ⟨_, rfl⟩
              subst hwo
              go_loopw [8] (fun i wr => ∃ f : Nat, f ≤ 12 ∧ i = .int .i64 f ∧ Below W7.heap.size W7 wr) (fun i _ => 12 - (intOf i).toNat)
              case atStart => exact ⟨0, Nat.zero_le _, rfl, hB7⟩
              case round =>
                clear hB7
                obtain ⟨f, hf, rfl, hB7⟩ := hrel
                by_cases hfl : f < 12
                · have hf0 : (0 : Int) ≤ (f : Int) := by omega
                  have hf1 : (f : Int) < 12 := by omega
                  have htc := tree_c (sizeL qb + 1) qb (by omega) Ac cc wr (RdK.keep' hB7 Hrk7.out) (by have := Hql.out; omega)
                  have HS8 := Lib.hid (HS7.out.next hB7)
                  have HB7 := Lib.hid hB7
                  have Htc := Lib.hid htc
                  clear htc hB7
                  go_wp2_with fail
                  refine Htc.out.mono ?_
                  rintro e W9 ⟨V, L, rfl, hT, hb9⟩
                  obtain ⟨g, cap, x, a, b, L2, rfl, hg, ha, hsp⟩ := spot_one hT k hkl
                  have hcap : qb.length ≤ cap := by
                    obtain ⟨A1, c1, e, h1, h2, _⟩ := hT.rd
                    injection e with _ _ e; omega
                  have hx3 : W9.cell? ⟨g, k * 4 + 3, none⟩ = some (.slice x.s.a x.s.n x.s.c) := hsp.cells 3 _ rfl
                  have hxl : x.s.n ≤ x.s.c := hsp.val.2.2.2.2.1
                  have HS9 := Lib.hid (HS8.out.next hb9)
                  have HB9 := Lib.hid hb9
                  have Hsp := Lib.hid hsp
                  have Hg := Lib.hid (And.intro hg ha)
                  clear hT hb9 hsp hg ha Htc
                  go_upto_region 20 with fail
                  go_cut [108] (fun s wc => ∃ bb : Bool, s = .bool bb ∧ wc = W9 ∧ (bb = true → 0 < x.s.n))
                  case first =>
                    obtain ⟨r2, m2, hr2⟩ := tmod_nat f 2 (by omega)
                    have w2 := IntWalk.i64_in (r2 : Int) (by omega)
                    by_cases h2 : r2 = 1
                    · subst h2
                      by_cases hsn : 0 < x.s.n
                      · have hd : decide ((x.s.n : Int) > 0) = true := decide_eq_true (by omega)
                        have hd2 : decide (0 < x.s.n) = true := decide_eq_true hsn
                        go_wp2_with fail
                        go_meet
                        exact ⟨true, rfl, rfl, fun _ => hsn⟩
                      · have hd : decide ((x.s.n : Int) > 0) = false := decide_eq_false (by omega)
                        have hd2 : decide (0 < x.s.n) = false := decide_eq_false hsn
                        go_wp2_with fail
                        go_meet
                        exact ⟨false, rfl, rfl, fun h => absurd h (by simp)⟩
                    · obtain rfl : r2 = 0 := by omega
                      go_wp2_with fail
                      go_meet
                      exact ⟨false, rfl, rfl, fun h => absurd h (by simp)⟩
                  case rest =>
                  obtain ⟨bb, rfl, hwc, hbb⟩ := hcut
                  subst hwc
                  go_upto_if 108 with fail
                  go_cut [10] (fun p wc => ∃ (bd jd : Nat) (x : CV) (y : Claim) (a b : Nat) (L2 : List CV), p = .pointer (some ⟨bd, jd * 4, none⟩) ∧ Below wr.heap.size wr wc ∧ wr.heap.size ≤ bd ∧ wr.heap.size ≤ a ∧ y.sub.length ≤ 16384 ∧ Spot wc (some ⟨g, 0, none⟩) qb bd jd x y a b L2)
                  case first =>
                  
                    have hql := Hql.out
                    have hyn : sizeL qb[k].sub < 16384 := by have := sizeL_mem hkl; rw [Claim.subN_sub] at this; omega
                    have hyl := sizeL_len qb[k].sub
                    cases bb with
                    | true =>
                      have hsn := hbb rfl
                      clear hbb
                      obtain ⟨rj, mj, hrj⟩ := tmod_nat f x.s.n (by omega)
                      have hjl : rj < qb[k].sub.length := by have := Hsp.out.val.2.2.2.1; omega
                      have wj := IntWalk.i64_in (rj : Int) (by have := hxl; have := Hsp.out.val.2.2.2.2.2.1; unfold maxLen at this; omega)
                      obtain ⟨g2, cap2, x2, a2, b2, L3, eV, hg2, ha2, hsp2⟩ := Hsp.out.down rj hjl
                      have hyn2 : (qb[k].sub[rj]'hjl).sub.length ≤ 16384 := by
                        have h1 := sizeL_mem (l := qb[k].sub) (k := rj) hjl
                        rw [Claim.subN_sub] at h1
                        have h2 := sizeL_len (qb[k].sub[rj]'hjl).sub
                        omega
                      have e1 : x.s.a = some ⟨g2, 0, none⟩ := by injection eV
                      rw [e1] at hx3
                      have Hsp2 := Lib.hid hsp2
                      have Hyn2 := Lib.hid hyn2
                      have Hr := Lib.hid (And.intro hg2 ha2)
                      have hj0 : (0 : Int) ≤ (rj : Int) := by omega
                      have hne : (x.s.n : Int) ≠ 0 := by omega
                      clear eV hsp2 hyn2 hg2 ha2 e1 hyn hyl hql
                      generalize x.s.n = sn at *
                      generalize x.s.c = sc at *
                      go_wp2_with fail
                      go_quiet (fail)
                      go_wp2_with fail
                      go_meet
                      exact ⟨g2, rj, x2, _, a2, b2, L3, rfl, below_drewN HB9.out _, by have := Hg.out; have := Hr.out; omega, by have := Hg.out; have := Hr.out; omega, Hyn2.out, Hsp2.out.same rfl⟩
                    | false =>
                      clear hbb
                      go_wp2_with fail
                      go_meet
                      exact ⟨g, k, x, _, a, b, L2, rfl, HB9.out, Hg.out.1, Hg.out.2, by omega, Hsp.out⟩
                  case rest =>
                    obtain ⟨bd, jd, ⟨xf, xt, xw, ⟨sa, sn, sc⟩⟩, y, a', b', L3, rfl, hbc, hbd, ha', hyn, hsp⟩ := hcut
                    clear hx3 hxl Hsp Hg HB9 hbb x a b L2
                    have c0 : wc.cell? ⟨bd, jd * 4, none⟩ = some (.int .i64 xf) := hsp.cells 0 _ rfl
                    have c1 : wc.cell? ⟨bd, jd * 4 + 1, none⟩ = some (.int .i64 xt) := hsp.cells 1 _ rfl
                    have c2 : wc.cell? ⟨bd, jd * 4 + 2, none⟩ = some (.int .i64 xw) := hsp.cells 2 _ rfl
                    have c3 : wc.cell? ⟨bd, jd * 4 + 3, none⟩ = some (.slice sa sn sc) := hsp.cells 3 _ rfl
                    have hfz := fun i => hsp.frozen i
                    have hzb : bd < wc.heap.size := hsp.blk.choose_spec.lt
                    have Hsp := Lib.hid hsp
                    have Hbc := Lib.hid hbc
                    have Hbd := Lib.hid hbd
                    have Ha' := Lib.hid ha'
                    have Hyn := Lib.hid hyn
                    clear hsp hbc hbd ha' hyn
                    obtain ⟨f2, d2, hf2⟩ : ∃ f2 : Nat, (f : Int).tdiv 2 = f2 ∧ f2 < 6 := ⟨f / 2, by rw [Int.tdiv_eq_ediv_of_nonneg hf0]; omega, by omega⟩
                    have wf2 := IntWalk.i64_in (f2 : Int) (by omega)
                    go_upto_block 6 with fail
                    go_cut [10] (fun _ wd => ∃ l' : List Claim, l'.length = qb.length ∧ sizeL l' ≤ 20000 ∧ RdK wd (some ⟨g, 0, none⟩) l' ∧ Below wr.heap.size wr wd)
                    case first =>

                      have hcs : f2 = 0 ∨ f2 = 1 ∨ f2 = 2 ∨ f2 = 3 ∨ f2 = 4 ∨ f2 = 5 := by omega
                      clear hf2 d2 wf2
                      rcases hcs with rfl | rfl | rfl | rfl | rfl | rfl
                      · go_wp2_with fail
                        go_meet
                        exact (Hsp.out.from_ _).elim fun l' h => ⟨l', h.1, by have := h.2.2; have := Hql.out; omega, h.2.1, Hbc.out.setCell (p := ⟨bd, _, none⟩) Hbd.out _⟩
                      · go_wp2_with fail
                        go_meet
                        exact (Hsp.out.to_ _).elim fun l' h => ⟨l', h.1, by have := h.2.2; have := Hql.out; omega, h.2.1, Hbc.out.setCell (p := ⟨bd, _, none⟩) Hbd.out _⟩
                      · go_wp2_with fail
                        go_meet
                        exact (Hsp.out.to_ _).elim fun l' h => ⟨l', h.1, by have := h.2.2; have := Hql.out; omega, h.2.1, Hbc.out.setCell (p := ⟨bd, _, none⟩) Hbd.out _⟩
                      · go_wp2_with fail
                        go_meet
                        exact (Hsp.out.with_ _).elim fun l' h => ⟨l', h.1, by have := h.2.2; have := Hql.out; omega, h.2.1, Hbc.out.setCell (p := ⟨bd, _, none⟩) Hbd.out _⟩
                      · go_upto_region 32 with fail
                        refine reg7_32_c wr wc (some ⟨g, 0, none⟩) qb bd jd xf xt xw sa sn sc y a' b' L3 Hsp.out Hbc.out Hbd.out Ha'.out Hyn.out _ ?_
                        rintro y161 y162 y163 y164 y165 y166 y167 y168 y169 y170 y171 l' W' q1 q2 q3 q4
                        try (go_wp2_with fail)
                        go_meet
                        exact ⟨l', q1, by have := Hql.out; omega, q3, q4⟩
                      · go_wp2_with fail
                        go_meet
                        exact Hsp.out.nil_.elim fun l' h => ⟨l', h.1, by have := h.2.2; have := Hql.out; omega, h.2.1, Hbc.out.setCell (p := ⟨bd, _, none⟩) Hbd.out _⟩
                    case rest =>
                      obtain ⟨l', hl1, hl2, hrk', hbd'⟩ := hcut
                      have HS10 := Lib.hid (HS8.out.next hbd')
                      have hB10 := HB7.out.trans (hbd'.mono HB7.out.size)
                      have Hrk' := Lib.hid hrk'
                      have Hl1 := Lib.hid hl1
                      have Hl2 := Lib.hid hl2
                      clear c0 c1 c2 c3 hfz hzb Hsp Hbc Hbd Ha' Hyn d2 wf2 hf2 hl1 hl2 hrk' hbd' HS9
                      have g0 : wc.cell? ⟨Bm, 0, none⟩ = some (.string ⟨#[]⟩) := HS10.out.bm.cell 0
                      have g1 : wc.cell? ⟨Bm, 1, none⟩ = some (.int .i64 0) := HS10.out.bm.cell 1
                      have g2 : wc.cell? ⟨Bm, 2, none⟩ = some (.int .i64 12) := HS10.out.bm.cell 2
                      have g3 : wc.cell? ⟨Bm, 3, none⟩ = some (.slice A9 (pairs ss).length c9) := HS10.out.bm.cell 3
                      have k1 : ∀ x : Ext wc, Calls Try.prog 24 #[.agg #[.string ⟨#[]⟩, .int .i64 0, .int .i64 12, .slice A9 (pairs ss).length c9], .slice none 0 0, .int .i64 0, .slice (some ⟨g, 0, none⟩) qb.length cap] x.w fun e w' => e = .returned (.bool true) ∧ Below x.w.heap.size x.w w' := fun x => by
                        have hS := HS10.out.next x.h
                        have := checksG_c 12 ss A9 c9 [] none 0 0 l' (some ⟨g, 0, none⟩) cap x.w hS.pt hS.n (fun h => absurd h (by simp)) (by simp) (by simp) (RdK.keep' x.h Hrk'.out) (by have := Hl2.out; omega)
                        rwa [List.length_nil, Hl1.out] at this
                      have k2 : ∀ x : Ext wc, Calls Try.prog 24 #[.agg #[.string ⟨#[]⟩, .int .i64 0, .int .i64 12, .slice A9 (pairs ss).length c9], .slice none 0 0, .int .i64 0, .slice (some ⟨g, 0, none⟩) k cap] x.w fun e w' => e = .returned (.bool true) ∧ Below x.w.heap.size x.w w' := fun x => by
                        have hS := HS10.out.next x.h
                        have hlt : (l'.take k).length = k := by rw [List.length_take, Hl1.out]; omega
                        have hst := sizeL_append (l'.take k) (l'.drop k)
                        rw [List.take_append_drop] at hst
                        have := checksG_c 12 ss A9 c9 [] none 0 0 (l'.take k) (some ⟨g, 0, none⟩) cap x.w hS.pt hS.n (fun h => absurd h (by simp)) (by simp) (by simp) ((RdK.keep' x.h Hrk'.out).take k) (by have := Hl2.out; omega)
                        rwa [List.length_nil, hlt] at this
                      have hkc : (k : Int) ≤ (cap : Int) := by omega
                      have hec := ext_cell wc
                      have hgz := HS10.out.bm.lt
                      have K1 := Lib.hid k1
                      have K2 := Lib.hid k2
                      have hsz10 := hB10.size
                      clear k1 k2
                      go_wp2_with fail
                      refine wp_region_ext (by kernel_rfl) (by kernel_rfl) ?_
                      repeat (go_big_quiet_step ((first | (go_at_call 24; with_reducible exact ext_call (K1.out _)) | (go_at_call 24; with_reducible exact ext_call (K2.out _)))))
                      refine wpQuiet_nil ?_
                      intro _ hw'
                      obtain ⟨xx, hw''⟩ := hw'
                      subst hw''
                      have hB11 := hB10.trans (xx.h.mono hsz10)
                      clear hec K1 K2 g0 g1 g2 g3 hB10 hgz hsz10
                      generalize xx.w = w12 at hB11 ⊢
                      go_wp2_with fail
                      go_roundw
                      case rel => exact ⟨f + 1, by omega, by go_num, hB11⟩
                      case measure => simp [intOf]; omega
                · obtain rfl : f = 12 := by omega
                  go_wp2_with fail
                  go_roundw
                  case rel => exact ⟨k + 1, by omega, by go_num, hB7⟩
                  case measure => simp [intOf]; omega
            · obtain rfl : k = qb.length := by omega
              go_wp2_with fail
              go_roundw
              case rel => exact ⟨n + 3, by omega, by go_num, HS7.out.hb.trans (hB7.mono HS7.out.hb.size)⟩
              case measure => simp [intOf]; omega

    · have hE0 := hB0.trans (hB8.mono hB0.size)
      have hd : decide ((n : Int) < 8000) = false := decide_eq_false (by omega)
      have hd2 : decide (n < 8000) = false := decide_eq_false hlt
      clear hB8 hp0 hB0 Hpl
      go_wp2_with fail
      have hA1 : Below w.heap.size w (wr.alloc (.cells (([48, 1, 48, 1, 48, 1, 48, 1, 48, 47, 1, 1] : List Int).map (Value.int .i64)).toArray 3)) := hE0.alloc hE0.size _
      refine (moduleG_c 48 [48, 1, 48, 1, 48, 1, 48, 1, 48, 47, 1, 1] _ 12 _ (RdInt.blk (l := [48, 1, 48, 1, 48, 1, 48, 1, 48, 47, 1, 1]) (Blk.new wr 3 _)) (by simp)).mono ?_
      rintro e y1 ⟨A1, c1, rfl, hp1, hcc1, hb1⟩
      have hC1 := hA1.trans (hb1.mono hA1.size)
      clear hA1 hb1
      go_wp2_with fail
      have hD1 := hC1.alloc hC1.size (.cells #[.string ⟨#[]⟩, .int .i64 0, .int .i64 48, .slice A1 (pairs [48, 1, 48, 1, 48, 1, 48, 1, 48, 47, 1, 1]).length c1] 24)
      refine (plansG_c 48 [48, 1, 48, 1, 48, 1, 48, 1, 48, 47, 1, 1] A1 c1 _ (hp1.below ((Below.refl _ _).alloc (Nat.le_refl _) _)) (by simp [pairs]) hcc1).mono ?_
      rintro e z1 ⟨rfl, hb1⟩
      have hE1 := hD1.trans (hb1.mono hD1.size)
      clear hC1 hD1 hb1 hp1
      go_wp2_with fail
      have hA2 : Below w.heap.size w (z1.alloc (.cells (([48, 10, 48, 10, 48, 10, 48, 20] : List Int).map (Value.int .i64)).toArray 3)) := hE1.alloc hE1.size _
      refine (moduleG_c 48 [48, 10, 48, 10, 48, 10, 48, 20] _ 8 _ (RdInt.blk (l := [48, 10, 48, 10, 48, 10, 48, 20]) (Blk.new z1 3 _)) (by simp)).mono ?_
      rintro e y2 ⟨A2, c2, rfl, hp2, hcc2, hb2⟩
      have hC2 := hA2.trans (hb2.mono hA2.size)
      clear hA2 hb2
      go_wp2_with fail
      have hD2 := hC2
      refine (plansG_c 48 [48, 10, 48, 10, 48, 10, 48, 20] A2 c2 _ hp2 (by simp [pairs]) hcc2).mono ?_
      rintro e z2 ⟨rfl, hb2⟩
      have hE2 := hD2.trans (hb2.mono hD2.size)
      clear hC2 hD2 hb2 hp2
      go_wp2_with fail
      have hA3 : Below w.heap.size w (z2.alloc (.cells (([40, 10, 40, 16, 40, 16] : List Int).map (Value.int .i64)).toArray 3)) := hE2.alloc hE2.size _
      refine (moduleG_c 40 [40, 10, 40, 16, 40, 16] _ 6 _ (RdInt.blk (l := [40, 10, 40, 16, 40, 16]) (Blk.new z2 3 _)) (by simp)).mono ?_
      rintro e y3 ⟨A3, c3, rfl, hp3, hcc3, hb3⟩
      have hC3 := hA3.trans (hb3.mono hA3.size)
      clear hA3 hb3
      go_wp2_with fail
      have hD3 := hC3
      refine (plansG_c 40 [40, 10, 40, 16, 40, 16] A3 c3 _ hp3 (by simp [pairs]) hcc3).mono ?_
      rintro e z3 ⟨rfl, hb3⟩
      have hE3 := hD3.trans (hb3.mono hD3.size)
      clear hC3 hD3 hb3 hp3
      go_wp2_with fail
      have hA4 := hE3
      refine (moduleG_c 7 [] none 0 _ (fun h => absurd h (by simp)) (by simp)).mono ?_
      rintro e y4 ⟨A4, c4, rfl, hp4, hcc4, hb4⟩
      have hC4 := hA4.trans (hb4.mono hA4.size)
      clear hA4 hb4
      go_wp2_with fail
      have hD4 := hC4
      refine (plansG_c 7 [] A4 c4 _ hp4 (by simp [pairs]) hcc4).mono ?_
      rintro e z4 ⟨rfl, hb4⟩
      have hE4 := hD4.trans (hb4.mono hD4.size)
      clear hC4 hD4 hb4 hp4
      go_wp2_with fail
      have hA5 := hE4
      refine (moduleG_c 0 [] none 0 _ (fun h => absurd h (by simp)) (by simp)).mono ?_
      rintro e y5 ⟨A5, c5, rfl, hp5, hcc5, hb5⟩
      have hC5 := hA5.trans (hb5.mono hA5.size)
      clear hA5 hb5
      go_wp2_with fail
      have hD5 := hC5
      refine (plansG_c 0 [] A5 c5 _ hp5 (by simp [pairs]) hcc5).mono ?_
      rintro e z5 ⟨rfl, hb5⟩
      have hE5 := hD5.trans (hb5.mono hD5.size)
      clear hC5 hD5 hb5 hp5
      go_wp2_with fail
      have hA6 : Below w.heap.size w (z5.alloc (.cells (([4, 1] : List Int).map (Value.int .i64)).toArray 3)) := hE5.alloc hE5.size _
      refine (moduleG_c 6 [4, 1] _ 2 _ (RdInt.blk (l := [4, 1]) (Blk.new z5 3 _)) (by simp)).mono ?_
      rintro e y6 ⟨A6, c6, rfl, hp6, hcc6, hb6⟩
      have hC6 := hA6.trans (hb6.mono hA6.size)
      clear hA6 hb6
      go_wp2_with fail
      have hD6 := hC6
      refine (plansG_c 6 [4, 1] A6 c6 _ hp6 (by simp [pairs]) hcc6).mono ?_
      rintro e z6 ⟨rfl, hb6⟩
      have hE6 := hD6.trans (hb6.mono hD6.size)
      clear hC6 hD6 hb6 hp6
      go_wp2_with fail
      refine (moduleG_c 7 [] none 0 _ (fun h => absurd h (by simp)) (by simp)).mono ?_
      rintro e y7 ⟨A7, c7, rfl, hp7, hcc7, hb7⟩
      have hC7 := hE6.trans (hb7.mono hE6.size)
      clear hb7
      go_wp2_with fail
      refine (checksG_c 7 [] A7 c7 [] none 0 0 [] none 0 _ hp7 (by simp [pairs]) (fun h => absurd h (by simp)) (by simp) (by simp) (fun h => absurd h (by simp)) (by simp [sizeL])).mono ?_
      rintro e z7 ⟨rfl, hb7⟩
      have hE7 := hC7.trans (hb7.mono hC7.size)
      clear hC7 hb7 hp7
      go_wp2_with fail
      refine (awake_c z7).mono ?_
      rintro e z8 ⟨rfl, hb8⟩
      have hE8 := hE7.trans (hb8.mono hE7.size)
      clear hE7 hb8
      go_wp2_with fail
      go_ret
      exact ⟨rfl, hE8⟩

-- THE ROW
set_option maxRecDepth 100000 in
theorem planSmall_lifted (os : Os) (started : os.Started) (H : Type) (enc : TypeId × Value → H) :
    ReturnsInHanded {} Try.checked os 7 .any (Rows.planSmallSpec.pre6 enc Try.prog Try.f7 Rows.planSmallRow.domain false) (Rows.planSmallSpec.post enc Try.prog Try.f7 false true false false) := by
  refine returnsInHanded_of_change (C := Try.checked) own started (by kernel_rfl) Try.func7
    (ChangeSpec.witness6 (enc := enc) (C := Try.checked) false ⟨#[], #[], []⟩ 8 (by kernel_rfl) (by kernel_rfl) (by kernel_rfl) (by kernel_rfl)) ?_
  intro W base args ds gs before hval0 hW hcnd _
  have hval : ∀ (j : Nat) t v, Try.f7.params[j]? = some t → args[j]? = some v → Value.okWide Try.prog W .any base t v := hval0
  have hW' := hW
  obtain ⟨p, q, hA0, hV, rfl, hfz, hnd⟩ := hW
  have hA : DataW.TrodAll enc Try.prog W 0 (fun _ => true) true Try.f7.params.toList args.toList ds p := hA0
  rw [Try.params7] at hA hval
  obtain ⟨rfl, rfl, rfl⟩ := trodAll_none hA
  clear hA0 hval0
  refine (planSmall_walk W).mono fun e W' ⟨he, hg⟩ => ?_
  subst he
  refine ⟨_, rfl, law_post (tb := 4) laid ?_ ?_ Try.underlying4 rfl hW' ⟨rfl, rfl, rfl⟩ hg⟩
  · rw [Try.params7]; intro t ht; simp at ht
  · kernel_rfl

theorem planSmall_holds : Rows.PlanSmallSaid :=
  OpenClaim.holds_of_wide 7 Try.f7 rfl rfl rfl rfl rfl rfl rfl ⟨rfl, rfl, rfl, rfl, rfl⟩ rfl rfl rfl rfl rfl (by kernel_rfl) Try.func7 (by kernel_rfl)
    (of_decide_eq_true (by kernel_rfl)) (by unfold Func.isWrapper; first | (rw [if_pos (by decide +kernel)]; kernel_rfl) | (rw [if_neg (by decide +kernel)]; exact ⟨rfl, rfl⟩))
    (fun os started H enc _ => planSmall_lifted os started H enc)
#print axioms planSmall_holds
end Go.Proofs.Ytlmbffnmjfbglab
