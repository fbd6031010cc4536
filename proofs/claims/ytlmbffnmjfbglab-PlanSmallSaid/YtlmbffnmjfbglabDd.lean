/- Functions that compare flat slices, at one datum read twice. Printed by wip/tools/gen/sameflat.py. -/
import Derived.Test.YtlmbffnmjfbglabDb
set_option linter.unusedSimpArgs false
set_option linter.unusedVariables false
namespace Go.Proofs.Ytlmbffnmjfbglab
open Go.ChangeShapes Go.WideShapes Go.ChangeAt Go.RowKit Go.Deep Op

set_option maxRecDepth 100000 in
set_option maxHeartbeats 4000000 in
theorem sameIntsG_c (l : List (List G)) (v v' : Value) (w : World) (hcf : G.cf KS KN (.sl 0) (.row 0 l)) (h : G.rdW w v (.row 0 l)) (h' : G.rdW w v' (.row 0 l)) :
    Calls Try.prog 30 #[v, v'] w fun e w' => e = .returned (.bool true) ∧ Below w.heap.size w w' := by
  simp only [G.cf] at hcf
  obtain ⟨_, hlen, hcR⟩ := hcf
  have hlen : l.length ≤ 17592186043904 := hlen
  obtain ⟨A, c, rfl⟩ := rd_slice h
  obtain ⟨A', c', rfl⟩ := rd_slice h'
  have hne : ((l.length : Int) != (l.length : Int)) = false := by simp
  have H := Lib.hid h
  have H' := Lib.hid h'
  have HC := Lib.hid hcR
  clear h h' hcR
  go_enter Try.func30, Try.ntmps30
  go_wp2_with fail
  go_loopw [5] (fun i wr => ∃ k : Nat, k ≤ l.length ∧ i = .int .i64 k ∧ Below w.heap.size w wr) (fun i _ => l.length - (intOf i).toNat)
  case atStart => exact ⟨0, by omega, rfl, Below.refl _ _⟩
  case round =>
    obtain ⟨k, hk, rfl, hBr⟩ := hrel
    by_cases hlt : k < l.length
    · obtain ⟨x0, hx⟩ := cfInts (cfR_get hlt HC.out)
      have h2 := G.rdW.next H.out hBr
      simp only [G.rdW, G.rd] at h2
      obtain ⟨A2, c2, e2, _, _, hrl⟩ := h2
      injection e2 with e2 _ e3
      subst e2 e3
      obtain ⟨b, o, rfl, hb, hR⟩ := hrl (by omega)
      have hd := rdR_get hlt (cfR_len HC.out) hR
      rw [hx] at hd
      simp only [rdE, G.rd, exists_eq_right] at hd
      have c0 : wr.cell? ⟨b, o + k, none⟩ = some (.int .i64 x0) := by have := hd.1; simpa [KS] using this
      clear hd hR hrl
      have h2 := G.rdW.next H'.out hBr
      simp only [G.rdW, G.rd] at h2
      obtain ⟨A2, c2, e2, _, _, hrl⟩ := h2
      injection e2 with e2 _ e3
      subst e2 e3
      obtain ⟨b1, o1, rfl, hb1, hR⟩ := hrl (by omega)
      have hd := rdR_get hlt (cfR_len HC.out) hR
      rw [hx] at hd
      simp only [rdE, G.rd, exists_eq_right] at hd
      have d0 : wr.cell? ⟨b1, o1 + k, none⟩ = some (.int .i64 x0) := by have := hd.1; simpa [KS] using this
      clear hd hR hrl
      have hi0 : (0 : Int) ≤ (k : Int) := by omega
      have hi2 : (k : Int) < (l.length : Int) := by omega
      have t5 : (x0 != x0) = false := by simp
      
      clear hx hlt H H' HC
      go_wp2_with fail
      go_quiet (fail)
      go_wp2_with fail
      go_roundw
      case rel => exact ⟨k + 1, by omega, by go_num, below_drewN hBr _⟩
      case measure => simp [intOf]; omega
    · obtain rfl : k = l.length := by omega
      go_wp2_with fail
      go_ret
      exact ⟨rfl, hBr⟩

theorem neq128_same (x0 : ByteArray) (x1 : Int) (x2 : Bool) (x3 : Int) (x4 : Int) (x5 : Int) (W : World) : (binOp .neq 128 (.agg #[.string x0, .int .u8 x1, .bool x2, .int .i64 x3, .int .i64 x4, .int .i64 x5]) (.agg #[.string x0, .int .u8 x1, .bool x2, .int .i64 x3, .int .i64 x4, .int .i64 x5])).run Try.prog W = .ok (.bool false) W := by
  have u3 := Try.underlying3
  have u4 := Try.underlying4
  have u5 := Try.underlying5
  have u9 := Try.underlying9
  have hS : Try.prog.underlying 128 = some (.struct (Try.prog.fieldsOf 128)) := by kernel_rfl
  have hp : Try.prog.stoodInHeld 128 = false := by kernel_rfl
  rw [run_neq_struct, show (10000 : Nat) = 9999 + 1 from rfl, run_equalIn_agg W 9999 128 _ _ hS hp]
  simp only [Program.fieldsOf, Try.underlying128]
  go_simp

set_option maxRecDepth 100000 in
set_option maxHeartbeats 4000000 in
theorem samePortsG_c (l : List (List G)) (v v' : Value) (w : World) (hcf : G.cf KS KN (.sl 2) (.row 2 l)) (h : G.rdW w v (.row 2 l)) (h' : G.rdW w v' (.row 2 l)) :
    Calls Try.prog 100 #[v, v'] w fun e w' => e = .returned (.bool true) ∧ Below w.heap.size w w' := by
  simp only [G.cf] at hcf
  obtain ⟨_, hlen, hcR⟩ := hcf
  have hlen : l.length ≤ 2932031007317 := hlen
  obtain ⟨A, c, rfl⟩ := rd_slice h
  obtain ⟨A', c', rfl⟩ := rd_slice h'
  have hne : ((l.length : Int) != (l.length : Int)) = false := by simp
  have H := Lib.hid h
  have H' := Lib.hid h'
  have HC := Lib.hid hcR
  clear h h' hcR
  go_enter Try.func100, Try.ntmps100
  go_wp2_with fail
  go_loopw [5] (fun i wr => ∃ k : Nat, k ≤ l.length ∧ i = .int .i64 k ∧ Below w.heap.size w wr) (fun i _ => l.length - (intOf i).toNat)
  case atStart => exact ⟨0, by omega, rfl, Below.refl _ _⟩
  case round =>
    obtain ⟨k, hk, rfl, hBr⟩ := hrel
    by_cases hlt : k < l.length
    · obtain ⟨x0, x1, x2, x3, x4, x5, hx⟩ := cfPorts (cfR_get hlt HC.out)
      have h2 := G.rdW.next H.out hBr
      simp only [G.rdW, G.rd] at h2
      obtain ⟨A2, c2, e2, _, _, hrl⟩ := h2
      injection e2 with e2 _ e3
      subst e2 e3
      obtain ⟨b, o, rfl, hb, hR⟩ := hrl (by omega)
      have hd := rdR_get hlt (cfR_len HC.out) hR
      rw [hx] at hd
      simp only [rdE, G.rd, exists_eq_right] at hd
      have c0 : wr.cell? ⟨b, o + (k * 6), none⟩ = some (.string x0) := hd.1
      have c1 : wr.cell? ⟨b, o + (k * 6) + 1, none⟩ = some (.int .u8 x1) := hd.2.1
      have c2 : wr.cell? ⟨b, o + (k * 6) + 2, none⟩ = some (.bool x2) := hd.2.2.1
      have c3 : wr.cell? ⟨b, o + (k * 6) + 3, none⟩ = some (.int .i64 x3) := hd.2.2.2.1
      have c4 : wr.cell? ⟨b, o + (k * 6) + 4, none⟩ = some (.int .i64 x4) := hd.2.2.2.2.1
      have c5 : wr.cell? ⟨b, o + (k * 6) + 5, none⟩ = some (.int .i64 x5) := hd.2.2.2.2.2.1
      clear hd hR hrl
      have h2 := G.rdW.next H'.out hBr
      simp only [G.rdW, G.rd] at h2
      obtain ⟨A2, c2, e2, _, _, hrl⟩ := h2
      injection e2 with e2 _ e3
      subst e2 e3
      obtain ⟨b1, o1, rfl, hb1, hR⟩ := hrl (by omega)
      have hd := rdR_get hlt (cfR_len HC.out) hR
      rw [hx] at hd
      simp only [rdE, G.rd, exists_eq_right] at hd
      have d0 : wr.cell? ⟨b1, o1 + (k * 6), none⟩ = some (.string x0) := hd.1
      have d1 : wr.cell? ⟨b1, o1 + (k * 6) + 1, none⟩ = some (.int .u8 x1) := hd.2.1
      have d2 : wr.cell? ⟨b1, o1 + (k * 6) + 2, none⟩ = some (.bool x2) := hd.2.2.1
      have d3 : wr.cell? ⟨b1, o1 + (k * 6) + 3, none⟩ = some (.int .i64 x3) := hd.2.2.2.1
      have d4 : wr.cell? ⟨b1, o1 + (k * 6) + 4, none⟩ = some (.int .i64 x4) := hd.2.2.2.2.1
      have d5 : wr.cell? ⟨b1, o1 + (k * 6) + 5, none⟩ = some (.int .i64 x5) := hd.2.2.2.2.2.1
      clear hd hR hrl
      have hi0 : (0 : Int) ≤ (k : Int) := by omega
      have hi2 : (k : Int) < (l.length : Int) := by omega
      have heq := fun W => neq128_same x0 x1 x2 x3 x4 x5 W
      have hgd := guard128_
      clear hx hlt H H' HC
      go_wp2_with fail
      go_quiet (fail)
      go_wp2_with fail
      go_roundw
      case rel => exact ⟨k + 1, by omega, by go_num, below_drewN hBr _⟩
      case measure => simp [intOf]; omega
    · obtain rfl : k = l.length := by omega
      go_wp2_with fail
      go_ret
      exact ⟨rfl, hBr⟩

theorem neq158_same (x0 : Int) (x1 : Int) (x2 : Int) (x3 : Int) (W : World) : (binOp .neq 158 (.agg #[.int .u8 x0, .int .i64 x1, .int .i64 x2, .int .i64 x3]) (.agg #[.int .u8 x0, .int .i64 x1, .int .i64 x2, .int .i64 x3])).run Try.prog W = .ok (.bool false) W := by
  have u3 := Try.underlying3
  have u4 := Try.underlying4
  have u5 := Try.underlying5
  have u9 := Try.underlying9
  have hS : Try.prog.underlying 158 = some (.struct (Try.prog.fieldsOf 158)) := by kernel_rfl
  have hp : Try.prog.stoodInHeld 158 = false := by kernel_rfl
  rw [run_neq_struct, show (10000 : Nat) = 9999 + 1 from rfl, run_equalIn_agg W 9999 158 _ _ hS hp]
  simp only [Program.fieldsOf, Try.underlying158]
  go_simp

set_option maxRecDepth 100000 in
set_option maxHeartbeats 4000000 in
theorem sameInssG_c (l : List (List G)) (v v' : Value) (w : World) (hcf : G.cf KS KN (.sl 1) (.row 1 l)) (h : G.rdW w v (.row 1 l)) (h' : G.rdW w v' (.row 1 l)) :
    Calls Try.prog 126 #[v, v'] w fun e w' => e = .returned (.bool true) ∧ Below w.heap.size w w' := by
  simp only [G.cf] at hcf
  obtain ⟨_, hlen, hcR⟩ := hcf
  have hlen : l.length ≤ 4398046510976 := hlen
  obtain ⟨A, c, rfl⟩ := rd_slice h
  obtain ⟨A', c', rfl⟩ := rd_slice h'
  have hne : ((l.length : Int) != (l.length : Int)) = false := by simp
  have H := Lib.hid h
  have H' := Lib.hid h'
  have HC := Lib.hid hcR
  clear h h' hcR
  go_enter Try.func126, Try.ntmps126
  go_wp2_with fail
  go_loopw [5] (fun i wr => ∃ k : Nat, k ≤ l.length ∧ i = .int .i64 k ∧ Below w.heap.size w wr) (fun i _ => l.length - (intOf i).toNat)
  case atStart => exact ⟨0, by omega, rfl, Below.refl _ _⟩
  case round =>
    obtain ⟨k, hk, rfl, hBr⟩ := hrel
    by_cases hlt : k < l.length
    · obtain ⟨x0, x1, x2, x3, hx⟩ := cfInss (cfR_get hlt HC.out)
      have h2 := G.rdW.next H.out hBr
      simp only [G.rdW, G.rd] at h2
      obtain ⟨A2, c2, e2, _, _, hrl⟩ := h2
      injection e2 with e2 _ e3
      subst e2 e3
      obtain ⟨b, o, rfl, hb, hR⟩ := hrl (by omega)
      have hd := rdR_get hlt (cfR_len HC.out) hR
      rw [hx] at hd
      simp only [rdE, G.rd, exists_eq_right] at hd
      have c0 : wr.cell? ⟨b, o + (k * 4), none⟩ = some (.int .u8 x0) := hd.1
      have c1 : wr.cell? ⟨b, o + (k * 4) + 1, none⟩ = some (.int .i64 x1) := hd.2.1
      have c2 : wr.cell? ⟨b, o + (k * 4) + 2, none⟩ = some (.int .i64 x2) := hd.2.2.1
      have c3 : wr.cell? ⟨b, o + (k * 4) + 3, none⟩ = some (.int .i64 x3) := hd.2.2.2.1
      clear hd hR hrl
      have h2 := G.rdW.next H'.out hBr
      simp only [G.rdW, G.rd] at h2
      obtain ⟨A2, c2, e2, _, _, hrl⟩ := h2
      injection e2 with e2 _ e3
      subst e2 e3
      obtain ⟨b1, o1, rfl, hb1, hR⟩ := hrl (by omega)
      have hd := rdR_get hlt (cfR_len HC.out) hR
      rw [hx] at hd
      simp only [rdE, G.rd, exists_eq_right] at hd
      have d0 : wr.cell? ⟨b1, o1 + (k * 4), none⟩ = some (.int .u8 x0) := hd.1
      have d1 : wr.cell? ⟨b1, o1 + (k * 4) + 1, none⟩ = some (.int .i64 x1) := hd.2.1
      have d2 : wr.cell? ⟨b1, o1 + (k * 4) + 2, none⟩ = some (.int .i64 x2) := hd.2.2.1
      have d3 : wr.cell? ⟨b1, o1 + (k * 4) + 3, none⟩ = some (.int .i64 x3) := hd.2.2.2.1
      clear hd hR hrl
      have hi0 : (0 : Int) ≤ (k : Int) := by omega
      have hi2 : (k : Int) < (l.length : Int) := by omega
      have heq := fun W => neq158_same x0 x1 x2 x3 W
      have hgd := guard158_
      clear hx hlt H H' HC
      go_wp2_with fail
      go_quiet (fail)
      go_wp2_with fail
      go_roundw
      case rel => exact ⟨k + 1, by omega, by go_num, below_drewN hBr _⟩
      case measure => simp [intOf]; omega
    · obtain rfl : k = l.length := by omega
      go_wp2_with fail
      go_ret
      exact ⟨rfl, hBr⟩

end Go.Proofs.Ytlmbffnmjfbglab
