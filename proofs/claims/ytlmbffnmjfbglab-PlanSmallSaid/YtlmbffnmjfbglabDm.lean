/- A function that checks a lent slice of structs. Printed by wip/tools/gen/keptlist.py Parts YtlmbffnmjfbglabDl. -/
import Derived.Test.YtlmbffnmjfbglabDl
set_option linter.unusedSimpArgs false
set_option linter.unusedVariables false
namespace Go.Proofs.Ytlmbffnmjfbglab
open Go.ChangeShapes Go.WideShapes Go.ChangeAt Go.RowKit Go.Deep

theorem slice_to22_ (A : Option Addr) (m n co : Nat) (h : n ≤ co) (W : World) : (Instr.sliceAt 22 (.slice A m co) none (some (.int .i64 n)) none).run Try.prog W = .ok (.slice A n co) W := by
  have h0 : (0 : Int) ≤ (n : Int) := by omega
  have h1 : (n : Int) ≤ (co : Int) := by omega
  simp [go_sem, h0, h1, sliced, map_add_zero]

section
attribute [-go_sem] run_sliceAt_slice
set_option maxRecDepth 100000 in
set_option maxHeartbeats 4000000 in
theorem keptParts_c (l : List (List G)) (V v : Value) (w : World) (hcf : G.cf KS KN (.sl 4) (.row 4 l)) (hV : G.ldW KM w V (.row 4 l)) (h : G.rdW w v (.row 4 l)) :
    Calls Try.prog 61 #[V, v] w fun e w' => e = .returned (.bool true) ∧ Below w.heap.size w w' := by
  simp only [G.cf] at hcf
  obtain ⟨_, hlen, hcR⟩ := hcf
  have hlen : l.length ≤ 925904528626 := hlen
  obtain ⟨g, cap, rfl, hcap, hcm⟩ : ∃ g cap, V = .slice (some ⟨g, 0, none⟩) l.length cap ∧ l.length + 12 ≤ cap ∧ cap ≤ maxLen := by
    have := hV
    simp only [G.ldW, G.ld] at this
    obtain ⟨g, cap, h1, h2, h3, _⟩ := this
    exact ⟨g, cap, h1, h2, h3⟩
  obtain ⟨A, c, rfl⟩ := rd_slice h
  have hne : ((l.length : Int) != (l.length : Int)) = false := by simp
  have hwr := IntWalk.i64_in ((l.length : Int) + 12) (by omega)
  have hsl : ∀ W, (Instr.sliceAt 22 (.slice (some ⟨g, 0, none⟩) l.length cap) none (some (.int .i64 ((l.length : Int) + 12))) none).run Try.prog W = .ok (.slice (some ⟨g, 0, none⟩) (l.length + 12) cap) W := fun W => by
    have := slice_to22_ (some ⟨g, 0, none⟩) l.length (l.length + 12) cap hcap W
    simpa using this
  have H := Lib.hid h
  have HV := Lib.hid hV
  have HC := Lib.hid hcR
  clear h hV hcR
  go_enter Try.func61, Try.ntmps61
  go_wp2_with fail
  go_loopw [6] (fun i wr => ∃ k : Nat, k ≤ l.length + 12 ∧ i = .int .i64 k ∧ Below w.heap.size w wr) (fun i _ => l.length + 12 - (intOf i).toNat)
  case atStart => exact ⟨0, by omega, rfl, Below.refl _ _⟩
  case round =>
    obtain ⟨k, hk, rfl, hBr⟩ := hrel
    have hV2 := G.ldW.next HV.out hBr
    have h2 := G.rdW.next H.out hBr
    simp only [G.ldW, G.ld] at hV2
    simp only [G.rdW, G.rd] at h2
    obtain ⟨g2, cap2, e2, _, _, hg2, hld, hmk⟩ := hV2
    injection e2 with e2 _ e3
    injection e2 with e2
    injection e2 with e2
    subst e2 e3
    obtain ⟨A2, c2, e2, hlc, hlm, hrl⟩ := h2
    injection e2 with e2 _ e3
    subst e2 e3
    have hec := ext_cell wr
    have hi0 : (0 : Int) ≤ (k : Int) := by omega
    by_cases hlt : k < l.length
    · obtain ⟨b, o, rfl, hb, hR⟩ := hrl (by omega)
      have hd := rdR_get hlt (cfR_len HC.out) hR
      have hc := ldR_get hlt (cfR_len HC.out) hld
      obtain ⟨x0, x1, x2, x3, l4, x5, x6, l7, l8, l9, hx, hc4, hc7, hc8, hc9⟩ := cfPart (cfR_get hlt HC.out)
      rw [hx] at hd hc
      obtain ⟨u0_, p0, d0⟩ := rdE_at (j := 0) (by simp) hd
      have d0 : G.rd wr (fun b => b < wr.heap.size) u0_ (.one (.string x0)) := d0
      simp only [G.rd] at d0
      subst d0
      have p0 : wr.cell? ⟨b, o + k * 10, none⟩ = some (.string x0) := p0
      obtain ⟨u1_, p1, d1⟩ := rdE_at (j := 1) (by simp) hd
      have d1 : G.rd wr (fun b => b < wr.heap.size) u1_ (.one (.int .i64 x1)) := d1
      simp only [G.rd] at d1
      subst d1
      have p1 : wr.cell? ⟨b, o + k * 10 + 1, none⟩ = some (.int .i64 x1) := p1
      obtain ⟨u2_, p2, d2⟩ := rdE_at (j := 2) (by simp) hd
      have d2 : G.rd wr (fun b => b < wr.heap.size) u2_ (.one (.int .i64 x2)) := d2
      simp only [G.rd] at d2
      subst d2
      have p2 : wr.cell? ⟨b, o + k * 10 + 2, none⟩ = some (.int .i64 x2) := p2
      obtain ⟨u3_, p3, d3⟩ := rdE_at (j := 3) (by simp) hd
      have d3 : G.rd wr (fun b => b < wr.heap.size) u3_ (.one (.int .i64 x3)) := d3
      simp only [G.rd] at d3
      subst d3
      have p3 : wr.cell? ⟨b, o + k * 10 + 3, none⟩ = some (.int .i64 x3) := p3
      obtain ⟨u4_, p4, d4⟩ := rdE_at (j := 4) (by simp) hd
      have d4 : G.rd wr (fun b => b < wr.heap.size) u4_ (.row 0 l4) := d4
      obtain ⟨A4, c4, rfl⟩ := rd_slice d4
      have p4 : wr.cell? ⟨b, o + k * 10 + 4, none⟩ = some (.slice A4 l4.length c4) := p4
      obtain ⟨u5_, p5, d5⟩ := rdE_at (j := 5) (by simp) hd
      have d5 : G.rd wr (fun b => b < wr.heap.size) u5_ (.one (.int .i64 x5)) := d5
      simp only [G.rd] at d5
      subst d5
      have p5 : wr.cell? ⟨b, o + k * 10 + 5, none⟩ = some (.int .i64 x5) := p5
      obtain ⟨u6_, p6, d6⟩ := rdE_at (j := 6) (by simp) hd
      have d6 : G.rd wr (fun b => b < wr.heap.size) u6_ (.one (.int .i64 x6)) := d6
      simp only [G.rd] at d6
      subst d6
      have p6 : wr.cell? ⟨b, o + k * 10 + 6, none⟩ = some (.int .i64 x6) := p6
      obtain ⟨u7_, p7, d7⟩ := rdE_at (j := 7) (by simp) hd
      have d7 : G.rd wr (fun b => b < wr.heap.size) u7_ (.row 0 l7) := d7
      obtain ⟨A7, c7, rfl⟩ := rd_slice d7
      have p7 : wr.cell? ⟨b, o + k * 10 + 7, none⟩ = some (.slice A7 l7.length c7) := p7
      obtain ⟨u8_, p8, d8⟩ := rdE_at (j := 8) (by simp) hd
      have d8 : G.rd wr (fun b => b < wr.heap.size) u8_ (.row 2 l8) := d8
      obtain ⟨A8, c8, rfl⟩ := rd_slice d8
      have p8 : wr.cell? ⟨b, o + k * 10 + 8, none⟩ = some (.slice A8 l8.length c8) := p8
      obtain ⟨u9_, p9, d9⟩ := rdE_at (j := 9) (by simp) hd
      have d9 : G.rd wr (fun b => b < wr.heap.size) u9_ (.row 3 l9) := d9
      obtain ⟨A9, c9, rfl⟩ := rd_slice d9
      have p9 : wr.cell? ⟨b, o + k * 10 + 9, none⟩ = some (.slice A9 l9.length c9) := p9
      obtain ⟨u0_, q0, D0⟩ := ldE_at (j := 0) (by simp) hc
      have D0 : G.ld KM wr (fun b => b < wr.heap.size) u0_ (.one (.string x0)) := D0
      simp only [G.ld] at D0
      subst D0
      have q0 : wr.cell? ⟨g, k * 10, none⟩ = some (.string x0) := by simpa [KS] using q0
      obtain ⟨u1_, q1, D1⟩ := ldE_at (j := 1) (by simp) hc
      have D1 : G.ld KM wr (fun b => b < wr.heap.size) u1_ (.one (.int .i64 x1)) := D1
      simp only [G.ld] at D1
      subst D1
      have q1 : wr.cell? ⟨g, k * 10 + 1, none⟩ = some (.int .i64 x1) := by simpa [KS] using q1
      obtain ⟨u2_, q2, D2⟩ := ldE_at (j := 2) (by simp) hc
      have D2 : G.ld KM wr (fun b => b < wr.heap.size) u2_ (.one (.int .i64 x2)) := D2
      simp only [G.ld] at D2
      subst D2
      have q2 : wr.cell? ⟨g, k * 10 + 2, none⟩ = some (.int .i64 x2) := by simpa [KS] using q2
      obtain ⟨u3_, q3, D3⟩ := ldE_at (j := 3) (by simp) hc
      have D3 : G.ld KM wr (fun b => b < wr.heap.size) u3_ (.one (.int .i64 x3)) := D3
      simp only [G.ld] at D3
      subst D3
      have q3 : wr.cell? ⟨g, k * 10 + 3, none⟩ = some (.int .i64 x3) := by simpa [KS] using q3
      obtain ⟨u4_, q4, D4⟩ := ldE_at (j := 4) (by simp) hc
      have D4 : G.ld KM wr (fun b => b < wr.heap.size) u4_ (.row 0 l4) := D4
      obtain ⟨G4, C4, rfl⟩ := ld_slice D4
      have q4 : wr.cell? ⟨g, k * 10 + 4, none⟩ = some (.slice (some ⟨G4, 0, none⟩) l4.length C4) := by simpa [KS] using q4
      obtain ⟨u5_, q5, D5⟩ := ldE_at (j := 5) (by simp) hc
      have D5 : G.ld KM wr (fun b => b < wr.heap.size) u5_ (.one (.int .i64 x5)) := D5
      simp only [G.ld] at D5
      subst D5
      have q5 : wr.cell? ⟨g, k * 10 + 5, none⟩ = some (.int .i64 x5) := by simpa [KS] using q5
      obtain ⟨u6_, q6, D6⟩ := ldE_at (j := 6) (by simp) hc
      have D6 : G.ld KM wr (fun b => b < wr.heap.size) u6_ (.one (.int .i64 x6)) := D6
      simp only [G.ld] at D6
      subst D6
      have q6 : wr.cell? ⟨g, k * 10 + 6, none⟩ = some (.int .i64 x6) := by simpa [KS] using q6
      obtain ⟨u7_, q7, D7⟩ := ldE_at (j := 7) (by simp) hc
      have D7 : G.ld KM wr (fun b => b < wr.heap.size) u7_ (.row 0 l7) := D7
      obtain ⟨G7, C7, rfl⟩ := ld_slice D7
      have q7 : wr.cell? ⟨g, k * 10 + 7, none⟩ = some (.slice (some ⟨G7, 0, none⟩) l7.length C7) := by simpa [KS] using q7
      obtain ⟨u8_, q8, D8⟩ := ldE_at (j := 8) (by simp) hc
      have D8 : G.ld KM wr (fun b => b < wr.heap.size) u8_ (.row 2 l8) := D8
      obtain ⟨G8, C8, rfl⟩ := ld_slice D8
      have q8 : wr.cell? ⟨g, k * 10 + 8, none⟩ = some (.slice (some ⟨G8, 0, none⟩) l8.length C8) := by simpa [KS] using q8
      obtain ⟨u9_, q9, D9⟩ := ldE_at (j := 9) (by simp) hc
      have D9 : G.ld KM wr (fun b => b < wr.heap.size) u9_ (.row 3 l9) := D9
      obtain ⟨G9, C9, rfl⟩ := ld_slice D9
      have q9 : wr.cell? ⟨g, k * 10 + 9, none⟩ = some (.slice (some ⟨G9, 0, none⟩) l9.length C9) := by simpa [KS] using q9
      have hi1 : (k : Int) < (l.length : Int) + 12 := by omega
      have hi2 : (k : Int) < (l.length : Int) := by omega
      have t1 : decide ((k : Int) < (l.length : Int)) = true := decide_eq_true hi2
      have t2 : decide ((k : Int) ≥ (l.length : Int)) = false := decide_eq_false (by omega)
      have t3 : decide (k < l.length) = true := decide_eq_true hlt
      have t4 : decide (l.length ≤ k) = false := decide_eq_false (by omega)
      have hcl : ∀ y : Ext wr, Calls Try.prog 84 #[.agg #[.string x0, .int .i64 x1, .int .i64 x2, .int .i64 x3, .slice (some ⟨G4, 0, none⟩) l4.length C4, .int .i64 x5, .int .i64 x6, .slice (some ⟨G7, 0, none⟩) l7.length C7, .slice (some ⟨G8, 0, none⟩) l8.length C8, .slice (some ⟨G9, 0, none⟩) l9.length C9], .agg #[.string x0, .int .i64 x1, .int .i64 x2, .int .i64 x3, .slice A4 l4.length c4, .int .i64 x5, .int .i64 x6, .slice A7 l7.length c7, .slice A8 l8.length c8, .slice A9 l9.length c9]] y.w fun e w' => e = .returned (.bool true) ∧ Below y.w.heap.size y.w w' := fun y =>
        keptPart_c x0 x1 x2 x3 x5 x6 _ _ l4 _ _ l7 _ _ l8 _ _ l9 y.w hc4 (G.ldW.next D4 y.h) (G.rdW.next d4 y.h) hc7 (G.ldW.next D7 y.h) (G.rdW.next d7 y.h) hc8 (G.ldW.next D8 y.h) (G.rdW.next d8 y.h) hc9 (G.ldW.next D9 y.h) (G.rdW.next d9 y.h)
      have Hcl := Lib.hid hcl
      clear hcl hd hc hx hR hrl hld hmk hlt H HV HC hc4 d4 D4 hc7 d7 D7 hc8 d8 D8 hc9 d9 D9
      go_wp2_with fail
      refine wp_region_ext (by kernel_rfl) (by kernel_rfl) ?_
      repeat (go_big_quiet_step ((go_at_call 84; with_reducible exact ext_call (Hcl.out _))))
      refine wpQuiet_nil ?_
      intro _ hw'
      obtain ⟨xx, hw''⟩ := hw'
      subst hw''
      have hB2 := hBr.trans (xx.h.mono hBr.size)
      clear hec Hcl p0 q0 p1 q1 p2 q2 p3 q3 p4 q4 p5 q5 p6 q6 p7 q7 p8 q8 p9 q9
      generalize xx.w = w9 at hB2 ⊢
      go_wp2_with fail
      go_roundw
      case rel => exact ⟨k + 1, by omega, by go_num, hB2⟩
      case measure => simp [intOf]; omega
    · by_cases hlt2 : k < l.length + 12
      · have c0 := hmk (k - l.length) 0 _ (by omega) rfl
        rw [show l.length + (k - l.length) = k by omega] at c0
        have c0 : wr.cell? ⟨g, k * 10, none⟩ = some (.string ⟨#[]⟩) := by simpa [KM] using c0
        have c1 := hmk (k - l.length) 1 _ (by omega) rfl
        rw [show l.length + (k - l.length) = k by omega] at c1
        have c1 : wr.cell? ⟨g, k * 10 + 1, none⟩ = some (.int .i64 (markI (k - l.length))) := by simpa [KM] using c1
        have c2 := hmk (k - l.length) 2 _ (by omega) rfl
        rw [show l.length + (k - l.length) = k by omega] at c2
        have c2 : wr.cell? ⟨g, k * 10 + 2, none⟩ = some (.int .i64 0) := by simpa [KM] using c2
        have c3 := hmk (k - l.length) 3 _ (by omega) rfl
        rw [show l.length + (k - l.length) = k by omega] at c3
        have c3 : wr.cell? ⟨g, k * 10 + 3, none⟩ = some (.int .i64 0) := by simpa [KM] using c3
        have c4 := hmk (k - l.length) 4 _ (by omega) rfl
        rw [show l.length + (k - l.length) = k by omega] at c4
        have c4 : wr.cell? ⟨g, k * 10 + 4, none⟩ = some (.slice none 0 0) := by simpa [KM] using c4
        have c5 := hmk (k - l.length) 5 _ (by omega) rfl
        rw [show l.length + (k - l.length) = k by omega] at c5
        have c5 : wr.cell? ⟨g, k * 10 + 5, none⟩ = some (.int .i64 0) := by simpa [KM] using c5
        have c6 := hmk (k - l.length) 6 _ (by omega) rfl
        rw [show l.length + (k - l.length) = k by omega] at c6
        have c6 : wr.cell? ⟨g, k * 10 + 6, none⟩ = some (.int .i64 0) := by simpa [KM] using c6
        have c7 := hmk (k - l.length) 7 _ (by omega) rfl
        rw [show l.length + (k - l.length) = k by omega] at c7
        have c7 : wr.cell? ⟨g, k * 10 + 7, none⟩ = some (.slice none 0 0) := by simpa [KM] using c7
        have c8 := hmk (k - l.length) 8 _ (by omega) rfl
        rw [show l.length + (k - l.length) = k by omega] at c8
        have c8 : wr.cell? ⟨g, k * 10 + 8, none⟩ = some (.slice none 0 0) := by simpa [KM] using c8
        have c9 := hmk (k - l.length) 9 _ (by omega) rfl
        rw [show l.length + (k - l.length) = k by omega] at c9
        have c9 : wr.cell? ⟨g, k * 10 + 9, none⟩ = some (.slice none 0 0) := by simpa [KM] using c9
        have hi1 : (k : Int) < (l.length : Int) + 12 := by omega
        have t1 : decide ((k : Int) < (l.length : Int)) = false := decide_eq_false (by omega)
        have t2 : decide ((k : Int) ≥ (l.length : Int)) = true := decide_eq_true (by omega)
        have t3 : decide (k < l.length) = false := decide_eq_false hlt
        have t4 : decide (l.length ≤ k) = true := decide_eq_true (by omega)
        have hmark : ∀ y : Ext wr, Calls Try.prog 82 #[.int .i64 1, .int .i64 ((k - l.length : Nat) : Int)] y.w fun e w' => e = .returned (.agg #[.string ⟨#[]⟩, .int .i64 (markI (k - l.length)), .int .i64 0, .int .i64 0, .slice none 0 0, .int .i64 0, .int .i64 0, .slice none 0 0, .slice none 0 0, .slice none 0 0]) ∧ Below y.w.heap.size y.w w' := fun y => markPart_c _ y.w (by omega)
        have hsm : ∀ y : Ext wr, Calls Try.prog 85 #[.agg #[.string ⟨#[]⟩, .int .i64 (markI (k - l.length)), .int .i64 0, .int .i64 0, .slice none 0 0, .int .i64 0, .int .i64 0, .slice none 0 0, .slice none 0 0, .slice none 0 0], .agg #[.string ⟨#[]⟩, .int .i64 (markI (k - l.length)), .int .i64 0, .int .i64 0, .slice none 0 0, .int .i64 0, .int .i64 0, .slice none 0 0, .slice none 0 0, .slice none 0 0]] y.w fun e w' => e = .returned (.bool true) ∧ Below y.w.heap.size y.w w' := fun y =>
          samePartG_c ⟨#[]⟩ (markI (k - l.length)) 0 0 0 0 (.slice none 0 0) (.slice none 0 0) [] (.slice none 0 0) (.slice none 0 0) [] (.slice none 0 0) (.slice none 0 0) [] (.slice none 0 0) (.slice none 0 0) [] y.w (cf_nil _) (rdW_nil _ _) (rdW_nil _ _) (cf_nil _) (rdW_nil _ _) (rdW_nil _ _) (cf_nil _) (rdW_nil _ _) (rdW_nil _ _) (cf_nil _) (rdW_nil _ _) (rdW_nil _ _)
        have hcast : (((k - l.length : Nat) : Nat) : Int) = (k : Int) - (l.length : Int) := by omega
        rw [hcast] at hmark
        have hw1 : IntKind.i64.wrap ((k : Int) - (l.length : Int)) = (k : Int) - (l.length : Int) := IntWalk.i64_in _ (by omega)
        clear hld hmk hrl H HV HC hcast
        generalize markI (k - l.length) = m9 at *
        have Hmark := Lib.hid hmark
        have Hsm := Lib.hid hsm
        clear hmark hsm
        go_wp2_with fail
        refine wp_region_ext (by kernel_rfl) (by kernel_rfl) ?_
        repeat (go_big_quiet_step (first | (go_at_call 82; with_reducible exact ext_call (Hmark.out _)) | (go_at_call 85; with_reducible exact ext_call (Hsm.out _))))
        refine wpQuiet_nil ?_
        intro _ hw'
        obtain ⟨xx, hw''⟩ := hw'
        subst hw''
        have hB2 := hBr.trans (xx.h.mono hBr.size)
        clear hec Hmark Hsm hw1 c0 c1 c2 c3 c4 c5 c6 c7 c8 c9
        generalize xx.w = w9 at hB2 ⊢
        go_wp2_with fail
        go_roundw
        case rel => exact ⟨k + 1, by omega, by go_num, hB2⟩
        case measure => simp [intOf]; omega
      · obtain rfl : k = l.length + 12 := by omega
        clear hld hmk hec hrl
        go_wp2_with fail
        go_ret
        exact ⟨rfl, hBr⟩
end

end Go.Proofs.Ytlmbffnmjfbglab
