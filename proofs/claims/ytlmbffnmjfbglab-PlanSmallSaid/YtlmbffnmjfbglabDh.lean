/- A function that compares slices of structs, at one datum read twice. Printed by wip/tools/gen/samelist.py Parts YtlmbffnmjfbglabDg. -/
import Derived.Test.YtlmbffnmjfbglabDg
set_option linter.unusedSimpArgs false
set_option linter.unusedVariables false
namespace Go.Proofs.Ytlmbffnmjfbglab
open Go.ChangeShapes Go.WideShapes Go.ChangeAt Go.RowKit Go.Deep

set_option maxRecDepth 100000 in
set_option maxHeartbeats 4000000 in
theorem samePartsG_c (l : List (List G)) (v v' : Value) (w : World) (hcf : G.cf KS KN (.sl 4) (.row 4 l)) (h : G.rdW w v (.row 4 l)) (h' : G.rdW w v' (.row 4 l)) :
    Calls Try.prog 83 #[v, v'] w fun e w' => e = .returned (.bool true) ∧ Below w.heap.size w w' := by
  simp only [G.cf] at hcf
  obtain ⟨_, hlen, hcR⟩ := hcf
  have hlen : l.length ≤ 925904528626 := hlen
  obtain ⟨A, c, rfl⟩ := rd_slice h
  obtain ⟨A', c', rfl⟩ := rd_slice h'
  have hne : ((l.length : Int) != (l.length : Int)) = false := by simp
  have H := Lib.hid h
  have H' := Lib.hid h'
  have HC := Lib.hid hcR
  clear h h' hcR
  go_enter Try.func83, Try.ntmps83
  go_wp2_with fail
  go_loopw [5] (fun i wr => ∃ k : Nat, k ≤ l.length ∧ i = .int .i64 k ∧ Below w.heap.size w wr) (fun i _ => l.length - (intOf i).toNat)
  case atStart => exact ⟨0, by omega, rfl, Below.refl _ _⟩
  case round =>
    obtain ⟨k, hk, rfl, hBr⟩ := hrel
    by_cases hlt : k < l.length
    · obtain ⟨x0, x1, x2, x3, l4, x5, x6, l7, l8, l9, hx, hc4, hc7, hc8, hc9⟩ := cfPart (cfR_get hlt HC.out)
      have h2 := G.rdW.next H.out hBr
      simp only [G.rdW, G.rd] at h2
      obtain ⟨A2, c2, e2, _, _, hrl⟩ := h2
      injection e2 with e2 _ e3
      subst e2 e3
      obtain ⟨b, o, rfl, hb, hR⟩ := hrl (by omega)
      have hd := rdR_get hlt (cfR_len HC.out) hR
      rw [hx] at hd
      obtain ⟨u0_, q0, d0⟩ := rdE_at (j := 0) (by simp) hd
      have d0 : G.rd wr (fun b => b < wr.heap.size) u0_ (.one (.string x0)) := d0
      simp only [G.rd] at d0
      subst d0
      have q0 : wr.cell? ⟨b, o + k * 10, none⟩ = some (.string x0) := q0
      obtain ⟨u1_, q1, d1⟩ := rdE_at (j := 1) (by simp) hd
      have d1 : G.rd wr (fun b => b < wr.heap.size) u1_ (.one (.int .i64 x1)) := d1
      simp only [G.rd] at d1
      subst d1
      have q1 : wr.cell? ⟨b, o + k * 10 + 1, none⟩ = some (.int .i64 x1) := q1
      obtain ⟨u2_, q2, d2⟩ := rdE_at (j := 2) (by simp) hd
      have d2 : G.rd wr (fun b => b < wr.heap.size) u2_ (.one (.int .i64 x2)) := d2
      simp only [G.rd] at d2
      subst d2
      have q2 : wr.cell? ⟨b, o + k * 10 + 2, none⟩ = some (.int .i64 x2) := q2
      obtain ⟨u3_, q3, d3⟩ := rdE_at (j := 3) (by simp) hd
      have d3 : G.rd wr (fun b => b < wr.heap.size) u3_ (.one (.int .i64 x3)) := d3
      simp only [G.rd] at d3
      subst d3
      have q3 : wr.cell? ⟨b, o + k * 10 + 3, none⟩ = some (.int .i64 x3) := q3
      obtain ⟨u4_, q4, d4⟩ := rdE_at (j := 4) (by simp) hd
      have d4 : G.rd wr (fun b => b < wr.heap.size) u4_ (.row 0 l4) := d4
      obtain ⟨A4, c4, rfl⟩ := rd_slice d4
      have q4 : wr.cell? ⟨b, o + k * 10 + 4, none⟩ = some (.slice A4 l4.length c4) := q4
      obtain ⟨u5_, q5, d5⟩ := rdE_at (j := 5) (by simp) hd
      have d5 : G.rd wr (fun b => b < wr.heap.size) u5_ (.one (.int .i64 x5)) := d5
      simp only [G.rd] at d5
      subst d5
      have q5 : wr.cell? ⟨b, o + k * 10 + 5, none⟩ = some (.int .i64 x5) := q5
      obtain ⟨u6_, q6, d6⟩ := rdE_at (j := 6) (by simp) hd
      have d6 : G.rd wr (fun b => b < wr.heap.size) u6_ (.one (.int .i64 x6)) := d6
      simp only [G.rd] at d6
      subst d6
      have q6 : wr.cell? ⟨b, o + k * 10 + 6, none⟩ = some (.int .i64 x6) := q6
      obtain ⟨u7_, q7, d7⟩ := rdE_at (j := 7) (by simp) hd
      have d7 : G.rd wr (fun b => b < wr.heap.size) u7_ (.row 0 l7) := d7
      obtain ⟨A7, c7, rfl⟩ := rd_slice d7
      have q7 : wr.cell? ⟨b, o + k * 10 + 7, none⟩ = some (.slice A7 l7.length c7) := q7
      obtain ⟨u8_, q8, d8⟩ := rdE_at (j := 8) (by simp) hd
      have d8 : G.rd wr (fun b => b < wr.heap.size) u8_ (.row 2 l8) := d8
      obtain ⟨A8, c8, rfl⟩ := rd_slice d8
      have q8 : wr.cell? ⟨b, o + k * 10 + 8, none⟩ = some (.slice A8 l8.length c8) := q8
      obtain ⟨u9_, q9, d9⟩ := rdE_at (j := 9) (by simp) hd
      have d9 : G.rd wr (fun b => b < wr.heap.size) u9_ (.row 3 l9) := d9
      obtain ⟨A9, c9, rfl⟩ := rd_slice d9
      have q9 : wr.cell? ⟨b, o + k * 10 + 9, none⟩ = some (.slice A9 l9.length c9) := q9
      clear hd hR hrl
      have h2 := G.rdW.next H'.out hBr
      simp only [G.rdW, G.rd] at h2
      obtain ⟨A2, c2, e2, _, _, hrl⟩ := h2
      injection e2 with e2 _ e3
      subst e2 e3
      obtain ⟨b1, o1, rfl, hb1, hR⟩ := hrl (by omega)
      have hd := rdR_get hlt (cfR_len HC.out) hR
      rw [hx] at hd
      obtain ⟨u0_, q0', d0'⟩ := rdE_at (j := 0) (by simp) hd
      have d0' : G.rd wr (fun b => b < wr.heap.size) u0_ (.one (.string x0)) := d0'
      simp only [G.rd] at d0'
      subst d0'
      have q0' : wr.cell? ⟨b1, o1 + k * 10, none⟩ = some (.string x0) := q0'
      obtain ⟨u1_, q1', d1'⟩ := rdE_at (j := 1) (by simp) hd
      have d1' : G.rd wr (fun b => b < wr.heap.size) u1_ (.one (.int .i64 x1)) := d1'
      simp only [G.rd] at d1'
      subst d1'
      have q1' : wr.cell? ⟨b1, o1 + k * 10 + 1, none⟩ = some (.int .i64 x1) := q1'
      obtain ⟨u2_, q2', d2'⟩ := rdE_at (j := 2) (by simp) hd
      have d2' : G.rd wr (fun b => b < wr.heap.size) u2_ (.one (.int .i64 x2)) := d2'
      simp only [G.rd] at d2'
      subst d2'
      have q2' : wr.cell? ⟨b1, o1 + k * 10 + 2, none⟩ = some (.int .i64 x2) := q2'
      obtain ⟨u3_, q3', d3'⟩ := rdE_at (j := 3) (by simp) hd
      have d3' : G.rd wr (fun b => b < wr.heap.size) u3_ (.one (.int .i64 x3)) := d3'
      simp only [G.rd] at d3'
      subst d3'
      have q3' : wr.cell? ⟨b1, o1 + k * 10 + 3, none⟩ = some (.int .i64 x3) := q3'
      obtain ⟨u4_, q4', d4'⟩ := rdE_at (j := 4) (by simp) hd
      have d4' : G.rd wr (fun b => b < wr.heap.size) u4_ (.row 0 l4) := d4'
      obtain ⟨A4', c4', rfl⟩ := rd_slice d4'
      have q4' : wr.cell? ⟨b1, o1 + k * 10 + 4, none⟩ = some (.slice A4' l4.length c4') := q4'
      obtain ⟨u5_, q5', d5'⟩ := rdE_at (j := 5) (by simp) hd
      have d5' : G.rd wr (fun b => b < wr.heap.size) u5_ (.one (.int .i64 x5)) := d5'
      simp only [G.rd] at d5'
      subst d5'
      have q5' : wr.cell? ⟨b1, o1 + k * 10 + 5, none⟩ = some (.int .i64 x5) := q5'
      obtain ⟨u6_, q6', d6'⟩ := rdE_at (j := 6) (by simp) hd
      have d6' : G.rd wr (fun b => b < wr.heap.size) u6_ (.one (.int .i64 x6)) := d6'
      simp only [G.rd] at d6'
      subst d6'
      have q6' : wr.cell? ⟨b1, o1 + k * 10 + 6, none⟩ = some (.int .i64 x6) := q6'
      obtain ⟨u7_, q7', d7'⟩ := rdE_at (j := 7) (by simp) hd
      have d7' : G.rd wr (fun b => b < wr.heap.size) u7_ (.row 0 l7) := d7'
      obtain ⟨A7', c7', rfl⟩ := rd_slice d7'
      have q7' : wr.cell? ⟨b1, o1 + k * 10 + 7, none⟩ = some (.slice A7' l7.length c7') := q7'
      obtain ⟨u8_, q8', d8'⟩ := rdE_at (j := 8) (by simp) hd
      have d8' : G.rd wr (fun b => b < wr.heap.size) u8_ (.row 2 l8) := d8'
      obtain ⟨A8', c8', rfl⟩ := rd_slice d8'
      have q8' : wr.cell? ⟨b1, o1 + k * 10 + 8, none⟩ = some (.slice A8' l8.length c8') := q8'
      obtain ⟨u9_, q9', d9'⟩ := rdE_at (j := 9) (by simp) hd
      have d9' : G.rd wr (fun b => b < wr.heap.size) u9_ (.row 3 l9) := d9'
      obtain ⟨A9', c9', rfl⟩ := rd_slice d9'
      have q9' : wr.cell? ⟨b1, o1 + k * 10 + 9, none⟩ = some (.slice A9' l9.length c9') := q9'
      clear hd hR hrl
      have hi0 : (0 : Int) ≤ (k : Int) := by omega
      have hi2 : (k : Int) < (l.length : Int) := by omega
      have hcl : ∀ y : Ext wr, Calls Try.prog 85 #[.agg #[.string x0, .int .i64 x1, .int .i64 x2, .int .i64 x3, .slice A4 l4.length c4, .int .i64 x5, .int .i64 x6, .slice A7 l7.length c7, .slice A8 l8.length c8, .slice A9 l9.length c9], .agg #[.string x0, .int .i64 x1, .int .i64 x2, .int .i64 x3, .slice A4' l4.length c4', .int .i64 x5, .int .i64 x6, .slice A7' l7.length c7', .slice A8' l8.length c8', .slice A9' l9.length c9']] y.w fun e w' => e = .returned (.bool true) ∧ Below y.w.heap.size y.w w' := fun y =>
        samePartG_c x0 x1 x2 x3 x5 x6 _ _ l4 _ _ l7 _ _ l8 _ _ l9 y.w hc4 (G.rdW.next d4 y.h) (G.rdW.next d4' y.h) hc7 (G.rdW.next d7 y.h) (G.rdW.next d7' y.h) hc8 (G.rdW.next d8 y.h) (G.rdW.next d8' y.h) hc9 (G.rdW.next d9 y.h) (G.rdW.next d9' y.h)
      have Hcl := Lib.hid hcl
      have hec := ext_cell wr
      clear hcl hx hlt H H' HC hc4 d4 d4' hc7 d7 d7' hc8 d8 d8' hc9 d9 d9'
      go_wp2_with fail
      refine wp_region_ext (by kernel_rfl) (by kernel_rfl) ?_
      repeat (go_big_quiet_step ((go_at_call 85; with_reducible exact ext_call (Hcl.out _))))
      refine wpQuiet_nil ?_
      intro _ hw'
      obtain ⟨xx, hw''⟩ := hw'
      subst hw''
      have hB2 := hBr.trans (xx.h.mono hBr.size)
      clear hec Hcl q0 q0' q1 q1' q2 q2' q3 q3' q4 q4' q5 q5' q6 q6' q7 q7' q8 q8' q9 q9'
      generalize xx.w = w9 at hB2 ⊢
      go_wp2_with fail
      go_roundw
      case rel => exact ⟨k + 1, by omega, by go_num, hB2⟩
      case measure => simp [intOf]; omega
    · obtain rfl : k = l.length := by omega
      go_wp2_with fail
      go_ret
      exact ⟨rfl, hBr⟩

end Go.Proofs.Ytlmbffnmjfbglab
