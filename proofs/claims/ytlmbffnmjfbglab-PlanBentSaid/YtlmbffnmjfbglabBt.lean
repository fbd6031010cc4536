/- PlanBent: a certificate is not accepted any more after one of several changes; of any module and number. -/
import Derived.Test.YtlmbffnmjfbglabB9
set_option linter.unusedSimpArgs false
set_option linter.unusedVariables false
namespace Go.Proofs.Ytlmbffnmjfbglab
open Go.ChangeShapes Go.WideShapes Go.ChangeAt Go.RowKit

section
attribute [-go_sem] run_sliceAt_slice
set_option maxRecDepth 100000 in
set_option maxHeartbeats 4000000 in
theorem bent_walk (name : ByteArray) (mem F : Int) (ps : List Part) (A : Option Addr) (c : Nat) (at_ : Int) (w : World) (h : RdPart w w.heap.size A ps) (hl : ps.length * 8 ≤ 140737488355328) :
    Calls Try.prog 4 #[.agg #[.string name, .int .i64 mem, .int .i64 F, .slice A ps.length c], .int .i64 at_] w fun e w' => e = .returned (.bool true) ∧ Below w.heap.size w w' := by
  have H := Lib.hid h
  clear h
  go_enter Try.func4, Try.ntmps4
  go_wp2_with fail
  refine nameC fun W0 hW0 => ?_
  have hB0 : Below w.heap.size w W0 := by subst hW0; exact (Below.refl _ w).alloc (Nat.le_refl _) _
  have hb0 : Blk W0 w.heap.size 24 #[.string name, .int .i64 mem, .int .i64 F, .slice A ps.length c] := by subst hW0; exact Blk.new w 24 _
  clear hW0
  refine (awake_c W0).mono ?_
  rintro e W1 ⟨rfl, hb1⟩
  have hB1 := hB0.trans (hb1.mono hB0.size)
  replace hb0 := hb0.below hb1 hb0.lt
  clear hb1 hB0
  have q0 : W1.cell? ⟨w.heap.size, 0, none⟩ = some (.string name) := hb0.cell 0
  have q1 : W1.cell? ⟨w.heap.size, 1, none⟩ = some (.int .i64 mem) := hb0.cell 1
  have q2 : W1.cell? ⟨w.heap.size, 2, none⟩ = some (.int .i64 F) := hb0.cell 2
  have q3 : W1.cell? ⟨w.heap.size, 3, none⟩ = some (.slice A ps.length c) := hb0.cell 3
  have hch := choices_c name mem F ps A c W1 (H.out.below hB1) hl
  obtain ⟨N, hN⟩ : ∃ N, N = choicesV F ps := ⟨_, rfl⟩
  rw [← hN] at hch
  have HN := Lib.hid hN
  have Hch := Lib.hid hch
  clear hN hch
  go_wp2_with fail
  refine Hch.out.mono ?_
  rintro e W2 ⟨rfl, hb2⟩
  have hB2 := hB1.trans (hb2.mono hB1.size)
  replace hb0 := hb0.below hb2 hb0.lt
  clear hb2 hB1 Hch q0 q1 q2 q3
  by_cases hneg : N < 0
  · have hd : decide (N < 0) = true := decide_eq_true hneg
    clear HN
    go_wp2_with fail
    go_ret
    exact ⟨rfl, hB2⟩
  have hd : decide (N < 0) = false := decide_eq_false hneg
  obtain ⟨hT, hprod⟩ := choices_prod (F := F) (ps := ps) (by rw [← HN.out]; omega)
  have q0 : W2.cell? ⟨w.heap.size, 0, none⟩ = some (.string name) := hb0.cell 0
  have q1 : W2.cell? ⟨w.heap.size, 1, none⟩ = some (.int .i64 mem) := hb0.cell 1
  have q2 : W2.cell? ⟨w.heap.size, 2, none⟩ = some (.int .i64 F) := hb0.cell 2
  have q3 : W2.cell? ⟨w.heap.size, 3, none⟩ = some (.slice A ps.length c) := hb0.cell 3
  have hpl := plan_c name mem F ps A c W2 (H.out.below hB2) hl
  have hcas := planV_cases hT
  have hpsz := planV_size F ps
  have HT := Lib.hid hT
  clear hprod hT
  generalize planV F ps = pv at *
  obtain ⟨po, pc, pe⟩ := pv
  simp only at hpl hcas hpsz
  have Hpl := Lib.hid hpl
  have Hcas := Lib.hid hcas
  have Hpsz := Lib.hid hpsz
  clear hpl hcas hpsz
  go_wp2_with fail
  refine Hpl.out.mono ?_
  rintro e W3 ⟨Ao, co, Ac, cc, rfl, hro, hrc, hcc, hco, hb3⟩
  have hB3 := hB2.trans (hb3.mono hB2.size)
  replace hb0 := hb0.below hb3 hb0.lt
  clear hb3 hB2 Hpl q0 q1 q2 q3 hro hco
  by_cases h130 : pe = 130
  case neg =>
    have hd3 : (pe != (130 : Int)) = true := by simpa using h130
    obtain rfl : pc = [] := by
      rcases Hcas.out with ⟨os, hv, _, _⟩ | ⟨_, _, h3⟩ | ⟨h1, _⟩
      · injection hv with _ hv; injection hv with hv _
      · exact h3
      · exact absurd h1 h130
    clear Hcas Hpsz h130 HN hrc
    go_wp2_with fail
    go_ret
    exact ⟨rfl, hB3⟩
  subst h130
  have hck : checkV F ps pc = true := by
    rcases Hcas.out with ⟨os, hv, _, _⟩ | ⟨h1, _⟩ | ⟨_, _, h3, _⟩
    · injection hv with _ hv; injection hv with _ hv; omega
    · omega
    · exact h3
  have hrt : rightP ps [] pc = true := by
    simp only [checkV, Bool.and_eq_true] at hck
    exact hck.2.2
  have hps0 : 0 < ps.length := by have := (right_iff.1 hrt).1; simpa using this
  have hlast : 0 ≤ lastP ps ([] : List Int).length := by
    have := (timesV_ok HT.out).len ps[0] (List.getElem_mem _)
    simp only [lastP, List.length_nil, List.getD_eq_getElem?_getD, List.getElem?_eq_getElem hps0, Option.getD_some]
    omega
  have hne : 0 < pc.length := by
    rcases Nat.eq_zero_or_pos pc.length with h0 | h0
    · have : pc = [] := List.eq_nil_of_length_eq_zero h0
      subst this
      rw [right_nil hlast] at hrt
      cases hrt
    · exact h0
  have hlen : pc.length ≤ 16384 := Nat.le_trans (sizeL_len pc) Hpsz.out
  have hrk : RdK W3 Ac pc := hrc.keep fun b ⟨_, o, g2, _⟩ => ⟨fun _ => rfl, (Array.getElem?_eq_some_iff.1 g2).1⟩
  obtain ⟨L, hcv, hrd⟩ := cv_of hrk (fun b h => h)
  obtain ⟨b, o, rfl, _, _⟩ := hrk hne
  obtain ⟨k, hkI, hk⟩ : ∃ k : Nat, at_ % (pc.length : Int) = k ∧ k < pc.length := by
    have h1 := Int.emod_nonneg at_ (show (pc.length : Int) ≠ 0 by omega)
    have h2 := Int.emod_lt_of_pos at_ (show (0 : Int) < (pc.length : Int) by omega)
    exact ⟨(at_ % (pc.length : Int)).toNat, by omega, by omega⟩
  have hpk := pick_c at_ (pc.length : Int) W3 (by omega) (by omega)
  rw [hkI] at hpk
  have hLl := hcv.1
  have Hck := Lib.hid hck
  have Hrt := Lib.hid hrt
  have HLl := Lib.hid hLl
  have Hcv := Lib.hid hcv
  have Hrd := Lib.hid hrd
  have Hrk := Lib.hid hrk
  have Hlast := Lib.hid hlast
  have Hpk := Lib.hid hpk
  clear hck hrt hLl hcv hrd hrk hlast hpk hrc hkI Hcas HN
  go_wp2_with fail
  refine Hpk.out.mono ?_
  rintro e W ⟨rfl, rfl⟩
  clear Hpk
  go_wp2_with fail
  have hcc' : L.length ≤ cc := by rw [HLl.out]; exact hcc
  have hrd' : Reads W3 W3.heap.size 4 (some ⟨b, o, none⟩) L.length (L.flatMap CV.cells) := by rw [HLl.out]; exact Hrd.out
  have hkL : k < L.length := by rw [HLl.out]; exact hk
  have hlenL : L.length ≤ 16384 := by rw [HLl.out]; exact hlen
  rw [← HLl.out]
  refine reg9b_c L b o cc k W3 hkL hcc' hlenL hrd' _ ?_ ?_
  · exact fun d _ _ _ _ h => by cases d <;> exact h
  rintro y32 y33 y34 y35 y36 y37 y38 y39 y40 y41 y42 y43 y44 y45 y46 y47 y48 V W4 hb34 hown
  have hB4 := hB3.trans (hb34.mono hB3.size)
  replace hb0 := hb0.below hb34 hb0.lt
  have hbox := hb0.lt
  have hkc : ∀ b, b < W3.heap.size → (∀ o, W4.cell? ⟨b, o, none⟩ = W3.cell? ⟨b, o, none⟩) ∧ b < W4.heap.size := fun b hb => ⟨fun o => World.cell?_of_block (hb34.block b hb), Nat.lt_of_lt_of_le hb hb34.size⟩
  have hrk4 : RdK W4 (some ⟨b, o, none⟩) pc := RdK.keep' hb34 Hrk.out
  have hcv4 := Hcv.out.keep hkc
  have htw : CVs W4 (fun b => b < W4.heap.size) (L.take (k + 1) ++ L.drop k) (pc.take (k + 1) ++ pc.drop k) := (hcv4.take (k + 1)).append (hcv4.drop k)
  have hown' : W4.ownsRow W3.heap.size 35 4 V (L.length + 1) ((L.take (k + 1) ++ L.drop k).flatMap CV.cells) := by rw [List.drop_eq_getElem_cons hkL]; exact hown
  obtain ⟨A9, c9, rfl, h9c, h9m, hr9⟩ := rdCls_of_own (by simp; omega) hown' htw (fun g hg => (hown'.lt g hg).2)
  have hl9 : (pc.take (k + 1) ++ pc.drop k).length = L.length + 1 := by have := HLl.out; simp; omega
  have hv9 : rightP ps [] (pc.take (k + 1) ++ pc.drop k) = false := by
    have h1 : pc.take (k + 1) ++ pc.drop k = pc.take k ++ pc[k] :: pc[k] :: pc.drop (k + 1) := by
      have e1 : pc.drop k = pc[k] :: pc.drop (k + 1) := List.drop_eq_getElem_cons hk
      have e2 : pc.take (k + 1) = pc.take k ++ [pc[k]] := by rw [List.take_add_one, List.getElem?_eq_getElem hk]; rfl
      rw [e2, e1, List.append_assoc]
      rfl
    rw [h1]
    refine right_twice ?_
    rw [← List.drop_eq_getElem_cons hk, List.take_append_drop]
    exact Hrt.out
  rw [hl9]
  obtain ⟨tw, htwd⟩ : ∃ tw, tw = pc.take (k + 1) ++ pc.drop k := ⟨_, rfl⟩
  rw [← htwd] at hr9 hv9 hl9
  have hcp1 := copy_c (sizeL pc + 1) pc (by omega) (some ⟨b, o, none⟩) cc W4 hrk4 (by have := Hpsz.out; omega)
  rw [← HLl.out] at hcp1
  have Hcp1 := Lib.hid hcp1
  have Hr9 := Lib.hid hr9
  have Hv9 := Lib.hid hv9
  have Hl9 := Lib.hid hl9
  clear hcp1 hr9 hv9 hl9 htwd hown' hown htw hcv4 hkc h9c h9m hb34 hB3 hrd' Hrd
  go_wp2_with fail
  refine Hcp1.out.mono ?_
  rintro e W5 ⟨V10, L10, rfl, hCR1, hb5⟩
  have hB5 := hB4.trans (hb5.mono hB4.size)
  replace hb0 := hb0.below hb5 hb0.lt
  have hrk5 : RdK W5 (some ⟨b, o, none⟩) pc := RdK.keep' hb5 hrk4
  have hr95 : RdK W5 A9 tw := RdK.keep' hb5 Hr9.out
  have hcp2 := copy_c (sizeL pc + 1) pc (by omega) (some ⟨b, o, none⟩) cc W5 hrk5 (by have := Hpsz.out; omega)
  rw [← HLl.out] at hcp2
  have Hrk4 := Lib.hid hrk4
  have Hb5 := Lib.hid hb5
  have Hcp2 := Lib.hid hcp2
  have HCR1 := Lib.hid hCR1
  have Hr95 := Lib.hid hr95
  clear hcp2 hCR1 hr95 Hcp1 hrk4 hb5
  go_wp2_with fail
  refine Hcp2.out.mono ?_
  rintro e W6 ⟨V11, L11, rfl, hCR2, hb6⟩
  have hB6 := hB5.trans (hb6.mono hB5.size)
  replace hb0 := hb0.below hb6 hb0.lt
  have hrk6 : RdK W6 (some ⟨b, o, none⟩) pc := RdK.keep' hb6 hrk5
  have hr96 : RdK W6 A9 tw := RdK.keep' hb6 Hr95.out
  obtain ⟨g10, cap10, cur10, rfl, hg10, hk10, h10c, h10m, h10s⟩ := own_form HCR1.out.own hne
  obtain ⟨g11, cap11, cur11, rfl, hg11, hk11, h11c, h11m, h11s⟩ := own_form hCR2.own hne
  have hk10' := hk10.below hb6 hk10.lt
  have hg1011 : g10 ≠ g11 := by have := hk10.lt; omega
  have hg1110 : g11 ≠ g10 := fun e => hg1011 e.symm
  have hz1 : 0 < cur10.size := by omega
  have hz2 : k * 4 + 3 < cur11.size := by omega
  have hCR16 := HCR1.out.below hb6
  obtain ⟨x0, pr, hpc⟩ : ∃ x0 pr, pc = x0 :: pr := by
    cases hp : pc with
    | nil => rw [hp] at hne; simp at hne
    | cons x0 pr => exact ⟨x0, pr, rfl⟩
  have hx0 : x0.frm = 0 := by
    have h := (right_iff.1 Hrt.out).2.1
    rw [hpc] at h
    exact (okP_cons h).1
  have hL10 : 0 < L10.length := by have := hCR16.cvs.1; omega
  have hL11 : k < L11.length := by have := hCR2.cvs.1; omega
  have hLf : L10[0].f = 0 := by
    have := (hCR16.cvs.2 0 hL10 hne).1
    rw [this]
    simp only [hpc, List.getElem_cons_zero]
    exact hx0
  have hc10 : W6.cell? ⟨g10, 0, none⟩ = some (.int .i64 0) := by
    have h1 := hCR16.own.cells (g := g10) rfl 0 (.int .i64 0) (by have := (CV.get L10 0 hL10).1; rw [hLf] at this; simpa using this)
    rw [add_none] at h1
    simpa using h1
  have hf10 := hk10'.frozen 0
  have hf112 := hk11.frozen (k * 4 + 2)
  have hf113 := hk11.frozen (k * 4 + 3)
  obtain ⟨v2, hc112⟩ : ∃ v, W6.cell? ⟨g11, k * 4 + 2, none⟩ = some v := ⟨_, by rw [hk11.cell, Array.getElem?_eq_getElem (by omega)]⟩
  obtain ⟨v3, hc113⟩ : ∃ v, W6.cell? ⟨g11, k * 4 + 3, none⟩ = some v := ⟨_, by rw [hk11.cell, Array.getElem?_eq_getElem (by omega)]⟩
  have hi0 : (0 : Int) ≤ (k : Int) := by omega
  have hi1 : (k : Int) < (pc.length : Int) := by omega
  have hi2 : (0 : Int) < (pc.length : Int) := by omega
  obtain ⟨W9, hW9⟩ : ∃ W9, W9 = ((W6.setCell ⟨g10, 0, none⟩ (.int .i64 1)).setCell ⟨g11, k * 4 + 2, none⟩ (.int .i64 0)).setCell ⟨g11, k * 4 + 3, none⟩ (.slice none 0 0) := ⟨_, rfl⟩
  have hfar : ∀ b, b ≠ g10 → b ≠ g11 → W9.heap[b]? = W6.heap[b]? := fun b h1 h2 => by
    rw [hW9, Below.heap_setCell _ _ _ _ (by simpa using h2), Below.heap_setCell _ _ _ _ (by simpa using h2), Below.heap_setCell _ _ _ _ (by simpa using h1)]
  have hz9 : W9.heap.size = W6.heap.size := by rw [hW9]; simp [World.setCell]
  have hgs : ∀ (W' : World) (g i : Nat) (v : Value), W'.grownBy (W'.setCell ⟨g, i, none⟩ v) (some g) := fun W' g i v => ⟨rfl, rfl, rfl, by simp [World.setCell], fun k _ hk => Below.heap_setCell W' _ v k (fun e => hk (by rw [e]))⟩
  have hw4 : w.heap.size ≤ W4.heap.size := hB4.size
  have hw5 : W4.heap.size ≤ W5.heap.size := Hb5.out.size
  have hB9 : Below w.heap.size w W9 := by
    rw [hW9]
    exact ((hB6.setCell (p := ⟨g10, 0, none⟩) (by simp; omega) _).setCell (p := ⟨g11, k * 4 + 2, none⟩) (by simp; omega) _).setCell (p := ⟨g11, k * 4 + 3, none⟩) (by simp; omega) _
  have hb9 : Blk W9 w.heap.size 24 #[.string name, .int .i64 mem, .int .i64 F, .slice A ps.length c] := (hfar w.heap.size (by omega) (by omega)).trans hb0
  have hlate : ∃ lt, rightP ps [] lt = false ∧ lt.length = pc.length ∧ RdK W9 (some ⟨g10, 0, none⟩) lt := by
    obtain ⟨f, t, wi, sub⟩ := x0
    refine ⟨.mk 1 t wi sub :: pr, right_late (f := 0) (by decide), by rw [hpc]; rfl, ?_⟩
    have hcv : CVs W9 (fun b => b < W9.heap.size) L10 pc := HCR1.out.cvs.keep fun b ⟨_, q2, o, q3, _⟩ => by
      have hb := (Array.getElem?_eq_some_iff.1 q3).1
      have h1 : b ≠ g10 := fun e => q2 (by rw [e]; rfl)
      have h2 : b ≠ g11 := by omega
      exact ⟨fun _ => World.cell?_of_block ((hfar b h1 h2).trans (hb6.block b hb)), by have := hb6.size; omega⟩
    obtain ⟨e1, e2, e3, e4, e5, e6, e7⟩ := hcv.2 0 hL10 hne
    simp only [hpc, List.getElem_cons_zero, Claim.to, Claim.wth, Claim.sub] at e2 e3 e4 e7
    have hcv' := hcv.set 0 ⟨1, L10[0].t, L10[0].w, L10[0].s⟩ (.mk 1 t wi sub) ⟨rfl, e2, e3, e4, e5, e6, e7⟩
    rw [show pc.set 0 (.mk 1 t wi sub) = .mk 1 t wi sub :: pr by rw [hpc]; rfl] at hcv'
    have hown : W9.ownsRow W4.heap.size 35 4 (.slice (some ⟨g10, 0, none⟩) pc.length cap10) pc.length ((L10.set 0 ⟨1, L10[0].t, L10[0].w, L10[0].s⟩).flatMap CV.cells) := by
      have h1 := (hCR16.own.stored 0 (.int .i64 1)).1
      have h2 := cells_set L10 0 0 hL10 (by omega) (.int .i64 1) ⟨1, L10[0].t, L10[0].w, L10[0].s⟩ (by simp [CV.cells])
      rw [Nat.zero_mul, Nat.zero_add] at h2
      rw [h2] at h1
      rw [hW9]
      exact (h1.kept (hgs _ _ _ _) (.inr (by simp [Value.ownBlock, hg1011]))).kept (hgs _ _ _ _) (.inr (by simp [Value.ownBlock, hg1011]))
    obtain ⟨A', c', e, _, _, hr⟩ := rdCls_of_own (by simp; exact hcv.1.symm) hown hcv' (fun g hg => (hown.lt g hg).2)
    injection e with e _ _
    rw [e]
    exact hr
  have hownC : ∃ ow, rightP ps [] ow = false ∧ ow.length = pc.length ∧ RdK W9 (some ⟨g11, 0, none⟩) ow := by
    have hkk : pc[k] = .mk pc[k].frm pc[k].to pc[k].wth pc[k].sub := by cases pc[k]; rfl
    refine ⟨pc.set k (.mk pc[k].frm pc[k].to 0 []), ?_, by simp, ?_⟩
    · rw [List.set_eq_take_append_cons_drop, if_pos hk]
      exact right_own
    have hcv : CVs W9 (fun b => b < W9.heap.size) L11 pc := hCR2.cvs.keep fun b ⟨q0, q2, o, q3, _⟩ => by
      have hb := (Array.getElem?_eq_some_iff.1 q3).1
      have h1 : b ≠ g11 := fun e => q2 (by rw [e]; rfl)
      have h2 : b ≠ g10 := by have := hk10.lt; omega
      exact ⟨fun _ => World.cell?_of_block (hfar b h2 h1), by omega⟩
    obtain ⟨e1, e2, e3, e4, e5, e6, e7⟩ := hcv.2 k hL11 hk
    have hcv' := hcv.set k ⟨L11[k].f, L11[k].t, 0, ⟨none, 0, 0⟩⟩ (.mk pc[k].frm pc[k].to 0 []) ⟨e1, e2, rfl, rfl, Nat.le_refl _, by simp [maxLen], fun h => by simp [Claim.sub] at h⟩
    have hown : W9.ownsRow W5.heap.size 35 4 (.slice (some ⟨g11, 0, none⟩) pc.length cap11) pc.length ((L11.set k ⟨L11[k].f, L11[k].t, 0, ⟨none, 0, 0⟩⟩).flatMap CV.cells) := by
      have h0 := hCR2.own.kept (hgs W6 g10 0 (.int .i64 1)) (.inr (by simp [Value.ownBlock, hg1110]))
      have h1 := (h0.stored (k * 4 + 2) (.int .i64 0)).1
      have h2 := cells_set L11 k 2 hL11 (by omega) (.int .i64 0) ⟨L11[k].f, L11[k].t, 0, L11[k].s⟩ (by simp [CV.cells])
      rw [h2] at h1
      have h3 := (h1.stored (k * 4 + 3) (.slice none 0 0)).1
      have h4 := cells_set (L11.set k ⟨L11[k].f, L11[k].t, 0, L11[k].s⟩) k 3 (by simpa using hL11) (by omega) (.slice none 0 0) ⟨L11[k].f, L11[k].t, 0, ⟨none, 0, 0⟩⟩ (by simp [CV.cells])
      rw [h4, List.set_set] at h3
      rw [hW9]
      exact h3
    obtain ⟨A', c', e, _, _, hr⟩ := rdCls_of_own (by simp; exact hcv.1.symm) hown hcv' (fun g hg => (hown.lt g hg).2)
    injection e with e _ _
    rw [e]
    exact hr
  obtain ⟨lt, hltv, hltl, hltr⟩ := hlate
  obtain ⟨ow, howv, howl, howr⟩ := hownC
  have hold4 : ∀ b, b < W4.heap.size → (∀ o, W9.cell? ⟨b, o, none⟩ = W4.cell? ⟨b, o, none⟩) ∧ b < W9.heap.size := fun b hb =>
    ⟨fun _ => World.cell?_of_block ((hfar b (by omega) (by omega)).trans ((hb6.block b (by omega)).trans (Hb5.out.block b hb))), by have := hb6.size; omega⟩
  have hpc9 : RdK W9 (some ⟨b, o, none⟩) pc := Hrk4.out.keep hold4
  have htw9 : RdK W9 A9 tw := Hr9.out.keep hold4
  have hp9 : RdPart W9 W9.heap.size A ps := H.out.below hB9
  have hck : ∀ (l : List Claim) (Al : Option Addr) (n cl : Nat) (v : Bool), RdK W9 Al l → l.length = n → n ≤ 20000 → checkV F ps l = v → ∀ y : Ext W9, Calls Try.prog 19 #[.agg #[.string name, .int .i64 mem, .int .i64 F, .slice A ps.length c], .slice Al n cl] y.w fun e w' => e = .returned (.bool v) ∧ Below y.w.heap.size y.w w' := fun l Al n cl v h1 h2 h3 h4 y => by
    have := check_c name mem F ps A c l Al cl y.w (hp9.below y.h) (RdK.keep' y.h h1) hl (by omega)
    rw [h2, h4] at this
    exact this
  have hc1 := hck pc (some ⟨b, o, none⟩) L.length cc true hpc9 HLl.out.symm (by omega) Hck.out
  obtain ⟨A2, hA2⟩ : ∃ A2, A2 = fromA 4 (some ⟨b, o, none⟩) 1 cc := ⟨_, rfl⟩
  have hc2 := hck (pc.drop 1) A2 (L.length - 1) (cc - 1) false (by rw [hA2]; exact RdCls.from_ hpc9 1 cc hcc) (by have := HLl.out; simp; omega) (by omega) (check_no (by rw [hpc]; have h := Hrt.out; rw [hpc] at h; exact right_tail Hlast.out h))
  have hc3 := hck (pc.take (L.length - 1)) (some ⟨b, o, none⟩) (L.length - 1) cc false (RdCls.take hpc9 _) (by have := HLl.out; simp; omega) (by omega) (check_no (by
    have e : pc = pc.take (L.length - 1) ++ [pc[L.length - 1]'(by have := HLl.out; omega)] := by
      have h1 := List.take_append_drop (L.length - 1) pc
      rw [List.drop_eq_getElem_cons (by have := HLl.out; omega), List.drop_of_length_le (by have := HLl.out; omega)] at h1
      exact h1.symm
    have h := Hrt.out
    rw [e] at h
    exact right_init h))
  have hc4 := hck tw A9 (L.length + 1) c9 false htw9 Hl9.out (by omega) (check_no Hv9.out)
  have hc5 := hck lt (some ⟨g10, 0, none⟩) pc.length cap10 false hltr hltl (by omega) (check_no hltv)
  have hc6 := hck ow (some ⟨g11, 0, none⟩) pc.length cap11 false howr howl (by omega) (check_no howv)
  have hc7 := hck [] none 0 0 false (fun h => absurd h (by simp)) rfl (by omega) (check_no (right_nil Hlast.out))
  have hsl2 : ∀ W, (Instr.sliceAt 29 (.slice (some ⟨b, o, none⟩) L.length cc) (some (.int .i64 1)) none none).run Try.prog W = .ok (.slice A2 (L.length - 1) (cc - 1)) W := fun W => by
    have := slice_from29 (some ⟨b, o, none⟩) L.length 1 cc (by omega) hcc' W
    rw [hA2]; simpa using this
  have hsl3 : ∀ W, (Instr.sliceAt 29 (.slice (some ⟨b, o, none⟩) L.length cc) none (some (.int .i64 ((L.length : Int) - 1))) none).run Try.prog W = .ok (.slice (some ⟨b, o, none⟩) (L.length - 1) cc) W := fun W => by
    have := slice_to29 (some ⟨b, o, none⟩) L.length (L.length - 1) cc (by omega) W
    rwa [show ((L.length - 1 : Nat) : Int) = (L.length : Int) - 1 by omega] at this
  have hwr3 := IntWalk.i64_in ((L.length : Int) - 1) (by omega)
  have hec := ext_cell W9
  have q0 : W9.cell? ⟨w.heap.size, 0, none⟩ = some (.string name) := hb9.cell 0
  have q1 : W9.cell? ⟨w.heap.size, 1, none⟩ = some (.int .i64 mem) := hb9.cell 1
  have q2 : W9.cell? ⟨w.heap.size, 2, none⟩ = some (.int .i64 F) := hb9.cell 2
  have q3 : W9.cell? ⟨w.heap.size, 3, none⟩ = some (.slice A ps.length c) := hb9.cell 3
  have hbz := hb9.lt
  have Hc1 := Lib.hid hc1
  have Hc2 := Lib.hid hc2
  have Hc3 := Lib.hid hc3
  have Hc4 := Lib.hid hc4
  have Hc5 := Lib.hid hc5
  have Hc6 := Lib.hid hc6
  have Hc7 := Lib.hid hc7
  have Hsl := Lib.hid (And.intro hsl2 hsl3)
  have Hec := Lib.hid hec
  have Hq := Lib.hid (And.intro q0 (And.intro q1 (And.intro q2 q3)))
  clear hc1 hc2 hc3 hc4 hc5 hc6 hc7 hsl2 hsl3 hec q0 q1 q2 q3 hck hA2
  have HCR2 := Lib.hid hCR2
  have Hrk6 := Lib.hid hrk6
  have Hr96 := Lib.hid hr96
  have Hk10 := Lib.hid hk10
  have Hk11 := Lib.hid hk11
  have HW9 := Lib.hid hW9
  have HB9 := Lib.hid hB9
  have Hb9 := Lib.hid hb9
  have HL1 := Lib.hid (show True from trivial)
  clear hCR2 hrk6 hr96 hk10 hk11 hk10' Hr95 hrk5 hB5 Hcp2 h10s h11s hb6 hW9 hfar hz9 hgs hB9 hb9 hCR16 hpc hx0 hLf hL10 hL11 hw4 hw5 hold4 hpc9 htw9 hp9 hltr hltl hltv howr howl howv HL1
  go_upto_region 13 with (fail)
  rw [← HW9.out]
  clear hf10 hf112 hf113 hc10 hc112 hc113 HW9
  obtain ⟨hsl2, hsl3⟩ := Hsl.out
  obtain ⟨q0, q1, q2, q3⟩ := Hq.out
  have hec := Hec.out
  refine wp_region_ext (by kernel_rfl) (by kernel_rfl) ?_
  repeat (go_big_quiet_step ((go_at_call 19; first | with_reducible exact ext_call (Hc1.out _) | with_reducible exact ext_call (Hc2.out _) | with_reducible exact ext_call (Hc3.out _) | with_reducible exact ext_call (Hc4.out _) | with_reducible exact ext_call (Hc5.out _) | with_reducible exact ext_call (Hc6.out _) | with_reducible exact ext_call (Hc7.out _))))
  refine wpQuiet_nil ?_
  intro _ hw'
  obtain ⟨xx, hw''⟩ := hw'
  subst hw''
  have hBf : Below w.heap.size w xx.w := HB9.out.trans (xx.h.mono HB9.out.size)
  clear hec q0 q1 q2 q3 hsl2 hsl3
  generalize xx.w = w9 at hBf ⊢
  go_wp2_with fail
  go_ret
  exact ⟨rfl, hBf⟩
end

-- THE ROW
set_option maxRecDepth 100000 in
theorem planBent_lifted (os : Os) (started : os.Started) (H : Type) (enc : TypeId × Value → H) :
    ReturnsInHanded {} Try.checked os 4 .any (Rows.planBentSpec.pre6 enc Try.prog Try.f4 Rows.planBentRow.domain false) (Rows.planBentSpec.post enc Try.prog Try.f4 false true false false) := by
  refine returnsInHanded_of_change_sized (C := Try.checked) own started (by kernel_rfl) Try.func4
    (ChangeSpec.witness6 (enc := enc) (C := Try.checked) false ⟨#[], #[.agg #[.string ⟨#[]⟩, .int .i64 0, .int .i64 0, .slice none 0 0], .int .i64 0], []⟩ 8 (by kernel_rfl) (by kernel_rfl) (by kernel_rfl) (by kernel_rfl)) ?_
  intro W base args ds gs before hval0 hW hcnd hsz0 _
  have hval : ∀ (j : Nat) t v, Try.f4.params[j]? = some t → args[j]? = some v → Value.okWide Try.prog W .any base t v := hval0
  have hW' := hW
  obtain ⟨p, q, hA0, hV, rfl, hfz, hnd⟩ := hW
  have hA : DataW.TrodAll enc Try.prog W 0 (fun _ => true) true Try.f4.params.toList args.toList ds p := hA0
  rw [Try.params4] at hA hval
  obtain ⟨v0, vs0, d0, ds0, p0, q0, hargs, rfl, rfl, h0, r0⟩ := trodAll_cons hA
  obtain ⟨v1, vs1, d1, ds1, p1, q1, rfl, rfl, rfl, h1, r1⟩ := trodAll_cons r0
  obtain ⟨rfl, rfl, rfl⟩ := trodAll_nil r1
  obtain rfl : args = #[v0, v1] := by cases args; simp_all
  obtain ⟨name0, mem0, frame0, A0, c0, l0, rfl, km0, kf0, hlc0, hcm0, hR0, hP0⟩ := open_module (hval 0 24 v0 rfl rfl) h0
  obtain ⟨a1, rfl, rfl, rfl, w1⟩ := open_int Try.underlying3 (hval 1 3 v1 rfl rfl) h1
  have hsz := hsz0
  rw [Try.params4] at hsz
  have hz0 := sz_module (hval 0 24 _ rfl rfl) h0 (fun n hn => by simpa using List.all_eq_true.1 hsz n (DataW.weights_mem_each (j := 0) (t := 24) rfl rfl n hn)) rfl
  clear hA0 hval0
  refine (bent_walk name0 mem0 frame0 l0 A0 c0 a1 W hR0 hz0).mono fun e W' ⟨he, hg⟩ => ?_
  subst he
  refine ⟨_, rfl, law_post (tb := 4) laid ?_ ?_ Try.underlying4 rfl hW' ⟨rfl, rfl, rfl⟩ hg⟩
  · rw [Try.params4]; intro t ht; simp at ht; rcases ht with rfl | rfl <;> exact ⟨by kernel_rfl, of_decide_eq_true (by kernel_rfl)⟩
  · kernel_rfl

theorem planBent_holds : Rows.PlanBentSaid :=
  OpenClaim.holds_of_wide 4 Try.f4 rfl rfl rfl rfl rfl rfl rfl ⟨rfl, rfl, rfl, rfl, rfl⟩ rfl rfl rfl rfl rfl (by kernel_rfl) Try.func4 (by kernel_rfl)
    (of_decide_eq_true (by kernel_rfl)) (by unfold Func.isWrapper; first | (rw [if_pos (by decide +kernel)]; kernel_rfl) | (rw [if_neg (by decide +kernel)]; exact ⟨rfl, rfl⟩))
    (fun os started H enc _ => planBent_lifted os started H enc)
#print axioms planBent_holds
end Go.Proofs.Ytlmbffnmjfbglab
