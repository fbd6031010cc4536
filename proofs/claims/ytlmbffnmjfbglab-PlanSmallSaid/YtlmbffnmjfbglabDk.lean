/- A function that checks a lent slice of structs. Printed by wip/tools/gen/keptlist.py Procs YtlmbffnmjfbglabDj. -/
import Derived.Test.YtlmbffnmjfbglabDj
set_option linter.unusedSimpArgs false
set_option linter.unusedVariables false
namespace Go.Proofs.Ytlmbffnmjfbglab
open Go.ChangeShapes Go.WideShapes Go.ChangeAt Go.RowKit Go.Deep

theorem ldE_at {mk : Nat → Nat → List Value} {w : World} {Q : Nat → Prop} {b : Nat} : ∀ {e : List G} {o j : Nat} (hj : j < e.length), ldE mk w Q b o e → ∃ v, w.cell? ⟨b, o + j, none⟩ = some v ∧ G.ld mk w Q v e[j] := fun {e o j} hj h => by
  obtain ⟨vs, h1, h2, h3⟩ := ldE_vals h
  exact ⟨vs[j]'(by omega), h2 j _ (List.getElem?_eq_getElem _), h3 j (by omega) hj⟩
theorem rdW_nil (w : World) (t : Nat) : G.rdW w (.slice none 0 0) (.row t []) := by
  simp only [G.rdW, G.rd]
  exact ⟨none, 0, rfl, Nat.le_refl _, Nat.zero_le _, fun h => absurd h (by simp)⟩
theorem cf_nil (t : Nat) : G.cf KS KN (.sl t) (.row t []) := by
  simp only [G.cf]
  exact ⟨trivial, Nat.zero_le _, by simp only [cfR]⟩

theorem slice_to54_ (A : Option Addr) (m n co : Nat) (h : n ≤ co) (W : World) : (Instr.sliceAt 54 (.slice A m co) none (some (.int .i64 n)) none).run Try.prog W = .ok (.slice A n co) W := by
  have h0 : (0 : Int) ≤ (n : Int) := by omega
  have h1 : (n : Int) ≤ (co : Int) := by omega
  simp [go_sem, h0, h1, sliced, map_add_zero]

section
attribute [-go_sem] run_sliceAt_slice
set_option maxRecDepth 100000 in
set_option maxHeartbeats 4000000 in
theorem keptProcs_c (l : List (List G)) (V v : Value) (w : World) (hcf : G.cf KS KN (.sl 3) (.row 3 l)) (hV : G.ldW KM w V (.row 3 l)) (h : G.rdW w v (.row 3 l)) :
    Calls Try.prog 99 #[V, v] w fun e w' => e = .returned (.bool true) ∧ Below w.heap.size w w' := by
  simp only [G.cf] at hcf
  obtain ⟨_, hlen, hcR⟩ := hcf
  have hlen : l.length ≤ 2199023255488 := hlen
  obtain ⟨g, cap, rfl, hcap, hcm⟩ : ∃ g cap, V = .slice (some ⟨g, 0, none⟩) l.length cap ∧ l.length + 12 ≤ cap ∧ cap ≤ maxLen := by
    have := hV
    simp only [G.ldW, G.ld] at this
    obtain ⟨g, cap, h1, h2, h3, _⟩ := this
    exact ⟨g, cap, h1, h2, h3⟩
  obtain ⟨A, c, rfl⟩ := rd_slice h
  have hne : ((l.length : Int) != (l.length : Int)) = false := by simp
  have hwr := IntWalk.i64_in ((l.length : Int) + 12) (by omega)
  have hsl : ∀ W, (Instr.sliceAt 54 (.slice (some ⟨g, 0, none⟩) l.length cap) none (some (.int .i64 ((l.length : Int) + 12))) none).run Try.prog W = .ok (.slice (some ⟨g, 0, none⟩) (l.length + 12) cap) W := fun W => by
    have := slice_to54_ (some ⟨g, 0, none⟩) l.length (l.length + 12) cap hcap W
    simpa using this
  have H := Lib.hid h
  have HV := Lib.hid hV
  have HC := Lib.hid hcR
  clear h hV hcR
  go_enter Try.func99, Try.ntmps99
  go_wp2_with fail
  go_loopw [6] (fun i wr => ∃ k : Nat, k ≤ l.length + 12 ∧ i = .int .i64 k ∧ Below w.heap.size w wr) (fun i _ => l.length + 12 - (intOf i).toNat)
  case atStart => exact ⟨0, by omega, rfl, Below.refl _ _⟩
  case round =>
    obtain ⟨k, hk, rfl, hBr⟩ := hrel
    have hV2 := G.ldW.next HV.out hBr
    have h2 := G.rdW.next H.out hBr
    simp only [G.ldW, G.ld] at hV2
    simp only [G.rdW, G.rd] at h2
    obtain ⟨g2, cap2, e2, _, _, hg2, hld, hmk⟩ := hV2
    injection e2 with e2 _ e3
    injection e2 with e2
    injection e2 with e2
    subst e2 e3
    obtain ⟨A2, c2, e2, hlc, hlm, hrl⟩ := h2
    injection e2 with e2 _ e3
    subst e2 e3
    have hec := ext_cell wr
    have hi0 : (0 : Int) ≤ (k : Int) := by omega
    by_cases hlt : k < l.length
    · obtain ⟨b, o, rfl, hb, hR⟩ := hrl (by omega)
      have hd := rdR_get hlt (cfR_len HC.out) hR
      have hc := ldR_get hlt (cfR_len HC.out) hld
      obtain ⟨x0, x1, x2, x3, l4, hx, hc4⟩ := cfProc (cfR_get hlt HC.out)
      rw [hx] at hd hc
      obtain ⟨u0_, p0, d0⟩ := rdE_at (j := 0) (by simp) hd
      have d0 : G.rd wr (fun b => b < wr.heap.size) u0_ (.one (.string x0)) := d0
      simp only [G.rd] at d0
      subst d0
      have p0 : wr.cell? ⟨b, o + k * 5, none⟩ = some (.string x0) := p0
      obtain ⟨u1_, p1, d1⟩ := rdE_at (j := 1) (by simp) hd
      have d1 : G.rd wr (fun b => b < wr.heap.size) u1_ (.one (.int .i64 x1)) := d1
      simp only [G.rd] at d1
      subst d1
      have p1 : wr.cell? ⟨b, o + k * 5 + 1, none⟩ = some (.int .i64 x1) := p1
      obtain ⟨u2_, p2, d2⟩ := rdE_at (j := 2) (by simp) hd
      have d2 : G.rd wr (fun b => b < wr.heap.size) u2_ (.one (.int .i64 x2)) := d2
      simp only [G.rd] at d2
      subst d2
      have p2 : wr.cell? ⟨b, o + k * 5 + 2, none⟩ = some (.int .i64 x2) := p2
      obtain ⟨u3_, p3, d3⟩ := rdE_at (j := 3) (by simp) hd
      have d3 : G.rd wr (fun b => b < wr.heap.size) u3_ (.one (.int .i64 x3)) := d3
      simp only [G.rd] at d3
      subst d3
      have p3 : wr.cell? ⟨b, o + k * 5 + 3, none⟩ = some (.int .i64 x3) := p3
      obtain ⟨u4_, p4, d4⟩ := rdE_at (j := 4) (by simp) hd
      have d4 : G.rd wr (fun b => b < wr.heap.size) u4_ (.row 1 l4) := d4
      obtain ⟨A4, c4, rfl⟩ := rd_slice d4
      have p4 : wr.cell? ⟨b, o + k * 5 + 4, none⟩ = some (.slice A4 l4.length c4) := p4
      obtain ⟨u0_, q0, D0⟩ := ldE_at (j := 0) (by simp) hc
      have D0 : G.ld KM wr (fun b => b < wr.heap.size) u0_ (.one (.string x0)) := D0
      simp only [G.ld] at D0
      subst D0
      have q0 : wr.cell? ⟨g, k * 5, none⟩ = some (.string x0) := by simpa [KS] using q0
      obtain ⟨u1_, q1, D1⟩ := ldE_at (j := 1) (by simp) hc
      have D1 : G.ld KM wr (fun b => b < wr.heap.size) u1_ (.one (.int .i64 x1)) := D1
      simp only [G.ld] at D1
      subst D1
      have q1 : wr.cell? ⟨g, k * 5 + 1, none⟩ = some (.int .i64 x1) := by simpa [KS] using q1
      obtain ⟨u2_, q2, D2⟩ := ldE_at (j := 2) (by simp) hc
      have D2 : G.ld KM wr (fun b => b < wr.heap.size) u2_ (.one (.int .i64 x2)) := D2
      simp only [G.ld] at D2
      subst D2
      have q2 : wr.cell? ⟨g, k * 5 + 2, none⟩ = some (.int .i64 x2) := by simpa [KS] using q2
      obtain ⟨u3_, q3, D3⟩ := ldE_at (j := 3) (by simp) hc
      have D3 : G.ld KM wr (fun b => b < wr.heap.size) u3_ (.one (.int .i64 x3)) := D3
      simp only [G.ld] at D3
      subst D3
      have q3 : wr.cell? ⟨g, k * 5 + 3, none⟩ = some (.int .i64 x3) := by simpa [KS] using q3
      obtain ⟨u4_, q4, D4⟩ := ldE_at (j := 4) (by simp) hc
      have D4 : G.ld KM wr (fun b => b < wr.heap.size) u4_ (.row 1 l4) := D4
      obtain ⟨G4, C4, rfl⟩ := ld_slice D4
      have q4 : wr.cell? ⟨g, k * 5 + 4, none⟩ = some (.slice (some ⟨G4, 0, none⟩) l4.length C4) := by simpa [KS] using q4
      have hi1 : (k : Int) < (l.length : Int) + 12 := by omega
      have hi2 : (k : Int) < (l.length : Int) := by omega
      have t1 : decide ((k : Int) < (l.length : Int)) = true := decide_eq_true hi2
      have t2 : decide ((k : Int) ≥ (l.length : Int)) = false := decide_eq_false (by omega)
      have t3 : decide (k < l.length) = true := decide_eq_true hlt
      have t4 : decide (l.length ≤ k) = false := decide_eq_false (by omega)
      have hcl : ∀ y : Ext wr, Calls Try.prog 110 #[.agg #[.string x0, .int .i64 x1, .int .i64 x2, .int .i64 x3, .slice (some ⟨G4, 0, none⟩) l4.length C4], .agg #[.string x0, .int .i64 x1, .int .i64 x2, .int .i64 x3, .slice A4 l4.length c4]] y.w fun e w' => e = .returned (.bool true) ∧ Below y.w.heap.size y.w w' := fun y =>
        keptProc_c x0 x1 x2 x3 _ _ l4 y.w hc4 (G.ldW.next D4 y.h) (G.rdW.next d4 y.h)
      have Hcl := Lib.hid hcl
      clear hcl hd hc hx hR hrl hld hmk hlt H HV HC hc4 d4 D4
      go_wp2_with fail
      refine wp_region_ext (by kernel_rfl) (by kernel_rfl) ?_
      repeat (go_big_quiet_step ((go_at_call 110; with_reducible exact ext_call (Hcl.out _))))
      refine wpQuiet_nil ?_
      intro _ hw'
      obtain ⟨xx, hw''⟩ := hw'
      subst hw''
      have hB2 := hBr.trans (xx.h.mono hBr.size)
      clear hec Hcl p0 q0 p1 q1 p2 q2 p3 q3 p4 q4
      generalize xx.w = w9 at hB2 ⊢
      go_wp2_with fail
      go_roundw
      case rel => exact ⟨k + 1, by omega, by go_num, hB2⟩
      case measure => simp [intOf]; omega
    · by_cases hlt2 : k < l.length + 12
      · have c0 := hmk (k - l.length) 0 _ (by omega) rfl
        rw [show l.length + (k - l.length) = k by omega] at c0
        have c0 : wr.cell? ⟨g, k * 5, none⟩ = some (.string ⟨#[]⟩) := by simpa [KM] using c0
        have c1 := hmk (k - l.length) 1 _ (by omega) rfl
        rw [show l.length + (k - l.length) = k by omega] at c1
        have c1 : wr.cell? ⟨g, k * 5 + 1, none⟩ = some (.int .i64 (markI (k - l.length))) := by simpa [KM] using c1
        have c2 := hmk (k - l.length) 2 _ (by omega) rfl
        rw [show l.length + (k - l.length) = k by omega] at c2
        have c2 : wr.cell? ⟨g, k * 5 + 2, none⟩ = some (.int .i64 0) := by simpa [KM] using c2
        have c3 := hmk (k - l.length) 3 _ (by omega) rfl
        rw [show l.length + (k - l.length) = k by omega] at c3
        have c3 : wr.cell? ⟨g, k * 5 + 3, none⟩ = some (.int .i64 0) := by simpa [KM] using c3
        have c4 := hmk (k - l.length) 4 _ (by omega) rfl
        rw [show l.length + (k - l.length) = k by omega] at c4
        have c4 : wr.cell? ⟨g, k * 5 + 4, none⟩ = some (.slice none 0 0) := by simpa [KM] using c4
        have hi1 : (k : Int) < (l.length : Int) + 12 := by omega
        have t1 : decide ((k : Int) < (l.length : Int)) = false := decide_eq_false (by omega)
        have t2 : decide ((k : Int) ≥ (l.length : Int)) = true := decide_eq_true (by omega)
        have t3 : decide (k < l.length) = false := decide_eq_false hlt
        have t4 : decide (l.length ≤ k) = true := decide_eq_true (by omega)
        have hmark : ∀ y : Ext wr, Calls Try.prog 109 #[.int .i64 1, .int .i64 ((k - l.length : Nat) : Int)] y.w fun e w' => e = .returned (.agg #[.string ⟨#[]⟩, .int .i64 (markI (k - l.length)), .int .i64 0, .int .i64 0, .slice none 0 0]) ∧ Below y.w.heap.size y.w w' := fun y => markProc_c _ y.w (by omega)
        have hsm : ∀ y : Ext wr, Calls Try.prog 111 #[.agg #[.string ⟨#[]⟩, .int .i64 (markI (k - l.length)), .int .i64 0, .int .i64 0, .slice none 0 0], .agg #[.string ⟨#[]⟩, .int .i64 (markI (k - l.length)), .int .i64 0, .int .i64 0, .slice none 0 0]] y.w fun e w' => e = .returned (.bool true) ∧ Below y.w.heap.size y.w w' := fun y =>
          sameProcG_c ⟨#[]⟩ (markI (k - l.length)) 0 0 (.slice none 0 0) (.slice none 0 0) [] y.w (cf_nil _) (rdW_nil _ _) (rdW_nil _ _)
        have hcast : (((k - l.length : Nat) : Nat) : Int) = (k : Int) - (l.length : Int) := by omega
        rw [hcast] at hmark
        have hw1 : IntKind.i64.wrap ((k : Int) - (l.length : Int)) = (k : Int) - (l.length : Int) := IntWalk.i64_in _ (by omega)
        clear hld hmk hrl H HV HC hcast
        generalize markI (k - l.length) = m9 at *
        have Hmark := Lib.hid hmark
        have Hsm := Lib.hid hsm
        clear hmark hsm
        go_wp2_with fail
        refine wp_region_ext (by kernel_rfl) (by kernel_rfl) ?_
        repeat (go_big_quiet_step (first | (go_at_call 109; with_reducible exact ext_call (Hmark.out _)) | (go_at_call 111; with_reducible exact ext_call (Hsm.out _))))
        refine wpQuiet_nil ?_
        intro _ hw'
        obtain ⟨xx, hw''⟩ := hw'
        subst hw''
        have hB2 := hBr.trans (xx.h.mono hBr.size)
        clear hec Hmark Hsm hw1 c0 c1 c2 c3 c4
        generalize xx.w = w9 at hB2 ⊢
        go_wp2_with fail
        go_roundw
        case rel => exact ⟨k + 1, by omega, by go_num, hB2⟩
        case measure => simp [intOf]; omega
      · obtain rfl : k = l.length + 12 := by omega
        clear hld hmk hec hrl
        go_wp2_with fail
        go_ret
        exact ⟨rfl, hBr⟩
end

end Go.Proofs.Ytlmbffnmjfbglab
