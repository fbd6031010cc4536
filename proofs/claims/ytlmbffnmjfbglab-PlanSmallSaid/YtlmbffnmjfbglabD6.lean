/- Functions that check a lent flat slice. Printed by wip/tools/gen/keptflat.py. -/
import Derived.Test.YtlmbffnmjfbglabD5
set_option linter.unusedSimpArgs false
set_option linter.unusedVariables false
namespace Go.Proofs.Ytlmbffnmjfbglab
open Go.ChangeShapes Go.WideShapes Go.ChangeAt Go.RowKit Go.Deep Op

theorem cfInts {x : List G} (h : cfE KS KN (KS 0) x) : ∃ (x0 : Int), x = [.one (.int .i64 x0)] := by
  have hl := cfE_len h
  match x, hl with
  | [g0], _ =>
    simp only [KS, cfE] at h
    obtain ⟨h0, _⟩ := h
    obtain ⟨x0, e0⟩ : ∃ x : Int, g0 = .one (.int .i64 x) := by
      have := cf_flat rfl h0
      cases g0 with
      | one v => simp only [G.cf] at h0; obtain ⟨y, rfl⟩ := h0; exact ⟨y, rfl⟩
      | row _ _ => exact absurd h0 (by simp [G.cf])
    exact ⟨x0, by rw [e0]⟩
theorem slice_to28_ (A : Option Addr) (m n co : Nat) (h : n ≤ co) (W : World) : (Instr.sliceAt 28 (.slice A m co) none (some (.int .i64 n)) none).run Try.prog W = .ok (.slice A n co) W := by
  have h0 : (0 : Int) ≤ (n : Int) := by omega
  have h1 : (n : Int) ≤ (co : Int) := by omega
  simp [go_sem, h0, h1, sliced, map_add_zero]

section
attribute [-go_sem] run_sliceAt_slice
set_option maxRecDepth 100000 in
set_option maxHeartbeats 4000000 in
theorem keptInts_c (l : List (List G)) (V v : Value) (w : World) (hcf : G.cf KS KN (.sl 0) (.row 0 l)) (hV : G.ldW KM w V (.row 0 l)) (h : G.rdW w v (.row 0 l)) :
    Calls Try.prog 53 #[V, v] w fun e w' => e = .returned (.bool true) ∧ Below w.heap.size w w' := by
  simp only [G.cf] at hcf
  obtain ⟨_, hlen, hcR⟩ := hcf
  have hlen : l.length ≤ 17592186043904 := hlen
  obtain ⟨g, cap, rfl, hcap, hcm⟩ : ∃ g cap, V = .slice (some ⟨g, 0, none⟩) l.length cap ∧ l.length + 12 ≤ cap ∧ cap ≤ maxLen := by
    have := hV
    simp only [G.ldW, G.ld] at this
    obtain ⟨g, cap, h1, h2, h3, _⟩ := this
    exact ⟨g, cap, h1, h2, h3⟩
  obtain ⟨A, c, rfl⟩ : ∃ A c, v = .slice A l.length c := by
    have := h
    simp only [G.rdW, G.rd] at this
    obtain ⟨A, c, h1, _⟩ := this
    exact ⟨A, c, h1⟩
  have hne : ((l.length : Int) != (l.length : Int)) = false := by simp
  have hwr := IntWalk.i64_in ((l.length : Int) + 12) (by omega)
  have hsl : ∀ W, (Instr.sliceAt 28 (.slice (some ⟨g, 0, none⟩) l.length cap) none (some (.int .i64 ((l.length : Int) + 12))) none).run Try.prog W = .ok (.slice (some ⟨g, 0, none⟩) (l.length + 12) cap) W := fun W => by
    have := slice_to28_ (some ⟨g, 0, none⟩) l.length (l.length + 12) cap hcap W
    simpa using this
  have H := Lib.hid h
  have HV := Lib.hid hV
  have HC := Lib.hid hcR
  clear h hV hcR
  go_enter Try.func53, Try.ntmps53
  go_wp2_with fail
  go_loopw [6] (fun i wr => ∃ k : Nat, k ≤ l.length + 12 ∧ i = .int .i64 k ∧ Below w.heap.size w wr) (fun i _ => l.length + 12 - (intOf i).toNat)
  case atStart => exact ⟨0, by omega, rfl, Below.refl _ _⟩
  case round =>
    obtain ⟨k, hk, rfl, hBr⟩ := hrel
    have hV2 := G.ldW.next HV.out hBr
    have h2 := G.rdW.next H.out hBr
    simp only [G.ldW, G.ld] at hV2
    simp only [G.rdW, G.rd] at h2
    obtain ⟨g2, cap2, e2, _, _, hg2, hld, hmk⟩ := hV2
    injection e2 with e2 _ e3
    injection e2 with e2
    injection e2 with e2
    subst e2 e3
    obtain ⟨A2, c2, e2, hlc, hlm, hrl⟩ := h2
    injection e2 with e2 _ e3
    subst e2 e3
    have hec := ext_cell wr
    have hi0 : (0 : Int) ≤ (k : Int) := by omega
    by_cases hlt : k < l.length
    · obtain ⟨b, o, rfl, hb, hR⟩ := hrl (by omega)
      have hd := rdR_get hlt (cfR_len HC.out) hR
      have hc := ldR_get hlt (cfR_len HC.out) hld
      obtain ⟨x0, hx⟩ := cfInts (cfR_get hlt HC.out)
      rw [hx] at hd hc
      simp only [rdE, G.rd, exists_eq_right, ldE, G.ld, Nat.zero_add] at hd hc
      have hd : wr.cell? ⟨b, o + (k), none⟩ = some (.int .i64 x0) := by have := hd.1; simpa [KS] using this
      have hc : wr.cell? ⟨g, k, none⟩ = some (.int .i64 x0) := by
        have := hc.1; simpa [KS] using this
      have d0 := hd
      have c0 := hc
      have hi1 : (k : Int) < (l.length : Int) + 12 := by omega
      have hi2 : (k : Int) < (l.length : Int) := by omega
      have t1 : decide ((k : Int) < (l.length : Int)) = true := decide_eq_true hi2
      have t2 : decide ((k : Int) ≥ (l.length : Int)) = false := decide_eq_false (by omega)
      have t3 : decide (k < l.length) = true := decide_eq_true hlt
      have t4 : decide (l.length ≤ k) = false := decide_eq_false (by omega)
      have t5 : (x0 == x0) = true := by simp
      
      clear hd hc hx hR hrl hld hmk hlt H HV HC
      go_wp2_with fail
      go_quiet (fail)
      go_wp2_with fail
      go_roundw
      case rel => exact ⟨k + 1, by omega, by go_num, below_drewN hBr _⟩
      case measure => simp [intOf]; omega
    · by_cases hlt2 : k < l.length + 12
      · have c0 := hmk (k - l.length) 0 _ (by omega) rfl
        rw [show l.length + (k - l.length) = k by omega] at c0
        have c0 : wr.cell? ⟨g, k, none⟩ = some (.int .i64 (markI (k - l.length))) := by simpa [KM] using c0
        have hi1 : (k : Int) < (l.length : Int) + 12 := by omega
        have t1 : decide ((k : Int) < (l.length : Int)) = false := decide_eq_false (by omega)
        have t2 : decide ((k : Int) ≥ (l.length : Int)) = true := decide_eq_true (by omega)
        have t3 : decide (k < l.length) = false := decide_eq_false hlt
        have t4 : decide (l.length ≤ k) = true := decide_eq_true (by omega)
        have hmark : ∀ y : Ext wr, Calls Try.prog 70 #[.int .i64 1, .int .i64 ((k - l.length : Nat) : Int)] y.w fun e w' => e = .returned (.int .i64 (markI (k - l.length))) ∧ Below y.w.heap.size y.w w' := fun y => markInt_c _ y.w (by omega)
        have hcast : (((k - l.length : Nat) : Nat) : Int) = (k : Int) - (l.length : Int) := by omega
        rw [hcast] at hmark
        have hw1 : IntKind.i64.wrap ((k : Int) - (l.length : Int)) = (k : Int) - (l.length : Int) := IntWalk.i64_in _ (by omega)
        clear hld hmk hrl H HV HC hcast
        generalize markI (k - l.length) = m9 at *
        have Hmark := Lib.hid hmark
        clear hmark
        have t5 : (m9 == m9) = true := by simp
        
        go_wp2_with fail
        refine wp_region_ext (by kernel_rfl) (by kernel_rfl) ?_
        repeat (go_big_quiet_step ((go_at_call 70; with_reducible exact ext_call (Hmark.out _))))
        refine wpQuiet_nil ?_
        intro _ hw'
        obtain ⟨xx, hw''⟩ := hw'
        subst hw''
        have hB2 := hBr.trans (xx.h.mono hBr.size)
        clear hec Hmark hw1 c0
        generalize xx.w = w9 at hB2 ⊢
        go_wp2_with fail
        go_roundw
        case rel => exact ⟨k + 1, by omega, by go_num, hB2⟩
        case measure => simp [intOf]; omega
      · obtain rfl : k = l.length + 12 := by omega
        clear hld hmk hec hrl
        go_wp2_with fail
        go_ret
        exact ⟨rfl, hBr⟩
end

theorem cfPorts {x : List G} (h : cfE KS KN (KS 2) x) : ∃ (x0 : ByteArray) (x1 : Int) (x2 : Bool) (x3 : Int) (x4 : Int) (x5 : Int), x = [.one (.string x0), .one (.int .u8 x1), .one (.bool x2), .one (.int .i64 x3), .one (.int .i64 x4), .one (.int .i64 x5)] := by
  have hl := cfE_len h
  match x, hl with
  | [g0, g1, g2, g3, g4, g5], _ =>
    simp only [KS, cfE] at h
    obtain ⟨h0, h1, h2, h3, h4, h5, _⟩ := h
    obtain ⟨x0, e0⟩ : ∃ x : ByteArray, g0 = .one (.string x) := by
      have := cf_flat rfl h0
      cases g0 with
      | one v => simp only [G.cf] at h0; obtain ⟨y, rfl⟩ := h0; exact ⟨y, rfl⟩
      | row _ _ => exact absurd h0 (by simp [G.cf])
    obtain ⟨x1, e1⟩ : ∃ x : Int, g1 = .one (.int .u8 x) := by
      have := cf_flat rfl h1
      cases g1 with
      | one v => simp only [G.cf] at h1; obtain ⟨y, rfl⟩ := h1; exact ⟨y, rfl⟩
      | row _ _ => exact absurd h1 (by simp [G.cf])
    obtain ⟨x2, e2⟩ : ∃ x : Bool, g2 = .one (.bool x) := by
      have := cf_flat rfl h2
      cases g2 with
      | one v => simp only [G.cf] at h2; obtain ⟨y, rfl⟩ := h2; exact ⟨y, rfl⟩
      | row _ _ => exact absurd h2 (by simp [G.cf])
    obtain ⟨x3, e3⟩ : ∃ x : Int, g3 = .one (.int .i64 x) := by
      have := cf_flat rfl h3
      cases g3 with
      | one v => simp only [G.cf] at h3; obtain ⟨y, rfl⟩ := h3; exact ⟨y, rfl⟩
      | row _ _ => exact absurd h3 (by simp [G.cf])
    obtain ⟨x4, e4⟩ : ∃ x : Int, g4 = .one (.int .i64 x) := by
      have := cf_flat rfl h4
      cases g4 with
      | one v => simp only [G.cf] at h4; obtain ⟨y, rfl⟩ := h4; exact ⟨y, rfl⟩
      | row _ _ => exact absurd h4 (by simp [G.cf])
    obtain ⟨x5, e5⟩ : ∃ x : Int, g5 = .one (.int .i64 x) := by
      have := cf_flat rfl h5
      cases g5 with
      | one v => simp only [G.cf] at h5; obtain ⟨y, rfl⟩ := h5; exact ⟨y, rfl⟩
      | row _ _ => exact absurd h5 (by simp [G.cf])
    exact ⟨x0, x1, x2, x3, x4, x5, by rw [e0, e1, e2, e3, e4, e5]⟩
theorem slice_to53_ (A : Option Addr) (m n co : Nat) (h : n ≤ co) (W : World) : (Instr.sliceAt 53 (.slice A m co) none (some (.int .i64 n)) none).run Try.prog W = .ok (.slice A n co) W := by
  have h0 : (0 : Int) ≤ (n : Int) := by omega
  have h1 : (n : Int) ≤ (co : Int) := by omega
  simp [go_sem, h0, h1, sliced, map_add_zero]

theorem eql128_same (x0 : ByteArray) (x1 : Int) (x2 : Bool) (x3 : Int) (x4 : Int) (x5 : Int) (W : World) : (binOp .eql 128 (.agg #[.string x0, .int .u8 x1, .bool x2, .int .i64 x3, .int .i64 x4, .int .i64 x5]) (.agg #[.string x0, .int .u8 x1, .bool x2, .int .i64 x3, .int .i64 x4, .int .i64 x5])).run Try.prog W = .ok (.bool true) W := by
  have u3 := Try.underlying3
  have u4 := Try.underlying4
  have u5 := Try.underlying5
  have u9 := Try.underlying9
  have hS : Try.prog.underlying 128 = some (.struct (Try.prog.fieldsOf 128)) := by kernel_rfl
  have hp : Try.prog.stoodInHeld 128 = false := by kernel_rfl
  rw [run_eql_struct, show (10000 : Nat) = 9999 + 1 from rfl, run_equalIn_agg W 9999 128 _ _ hS hp]
  simp only [Program.fieldsOf, Try.underlying128]
  go_simp
theorem guard128_ : Try.prog.eqGuardType Try.prog.depth 128 = false := by kernel_rfl

section
attribute [-go_sem] run_sliceAt_slice
set_option maxRecDepth 100000 in
set_option maxHeartbeats 4000000 in
theorem keptPorts_c (l : List (List G)) (V v : Value) (w : World) (hcf : G.cf KS KN (.sl 2) (.row 2 l)) (hV : G.ldW KM w V (.row 2 l)) (h : G.rdW w v (.row 2 l)) :
    Calls Try.prog 98 #[V, v] w fun e w' => e = .returned (.bool true) ∧ Below w.heap.size w w' := by
  simp only [G.cf] at hcf
  obtain ⟨_, hlen, hcR⟩ := hcf
  have hlen : l.length ≤ 2932031007317 := hlen
  obtain ⟨g, cap, rfl, hcap, hcm⟩ : ∃ g cap, V = .slice (some ⟨g, 0, none⟩) l.length cap ∧ l.length + 12 ≤ cap ∧ cap ≤ maxLen := by
    have := hV
    simp only [G.ldW, G.ld] at this
    obtain ⟨g, cap, h1, h2, h3, _⟩ := this
    exact ⟨g, cap, h1, h2, h3⟩
  obtain ⟨A, c, rfl⟩ : ∃ A c, v = .slice A l.length c := by
    have := h
    simp only [G.rdW, G.rd] at this
    obtain ⟨A, c, h1, _⟩ := this
    exact ⟨A, c, h1⟩
  have hne : ((l.length : Int) != (l.length : Int)) = false := by simp
  have hwr := IntWalk.i64_in ((l.length : Int) + 12) (by omega)
  have hsl : ∀ W, (Instr.sliceAt 53 (.slice (some ⟨g, 0, none⟩) l.length cap) none (some (.int .i64 ((l.length : Int) + 12))) none).run Try.prog W = .ok (.slice (some ⟨g, 0, none⟩) (l.length + 12) cap) W := fun W => by
    have := slice_to53_ (some ⟨g, 0, none⟩) l.length (l.length + 12) cap hcap W
    simpa using this
  have H := Lib.hid h
  have HV := Lib.hid hV
  have HC := Lib.hid hcR
  clear h hV hcR
  go_enter Try.func98, Try.ntmps98
  go_wp2_with fail
  go_loopw [6] (fun i wr => ∃ k : Nat, k ≤ l.length + 12 ∧ i = .int .i64 k ∧ Below w.heap.size w wr) (fun i _ => l.length + 12 - (intOf i).toNat)
  case atStart => exact ⟨0, by omega, rfl, Below.refl _ _⟩
  case round =>
    obtain ⟨k, hk, rfl, hBr⟩ := hrel
    have hV2 := G.ldW.next HV.out hBr
    have h2 := G.rdW.next H.out hBr
    simp only [G.ldW, G.ld] at hV2
    simp only [G.rdW, G.rd] at h2
    obtain ⟨g2, cap2, e2, _, _, hg2, hld, hmk⟩ := hV2
    injection e2 with e2 _ e3
    injection e2 with e2
    injection e2 with e2
    subst e2 e3
    obtain ⟨A2, c2, e2, hlc, hlm, hrl⟩ := h2
    injection e2 with e2 _ e3
    subst e2 e3
    have hec := ext_cell wr
    have hi0 : (0 : Int) ≤ (k : Int) := by omega
    by_cases hlt : k < l.length
    · obtain ⟨b, o, rfl, hb, hR⟩ := hrl (by omega)
      have hd := rdR_get hlt (cfR_len HC.out) hR
      have hc := ldR_get hlt (cfR_len HC.out) hld
      obtain ⟨x0, x1, x2, x3, x4, x5, hx⟩ := cfPorts (cfR_get hlt HC.out)
      rw [hx] at hd hc
      simp only [rdE, G.rd, exists_eq_right, ldE, G.ld, Nat.zero_add] at hd hc
      have hd : wr.cell? ⟨b, o + (k * 6), none⟩ = some (.string x0) ∧ wr.cell? ⟨b, o + (k * 6) + 1, none⟩ = some (.int .u8 x1) ∧ wr.cell? ⟨b, o + (k * 6) + 2, none⟩ = some (.bool x2) ∧ wr.cell? ⟨b, o + (k * 6) + 3, none⟩ = some (.int .i64 x3) ∧ wr.cell? ⟨b, o + (k * 6) + 4, none⟩ = some (.int .i64 x4) ∧ wr.cell? ⟨b, o + (k * 6) + 5, none⟩ = some (.int .i64 x5) := ⟨hd.1, hd.2.1, hd.2.2.1, hd.2.2.2.1, hd.2.2.2.2.1, hd.2.2.2.2.2.1⟩
      have hc : wr.cell? ⟨g, k * 6, none⟩ = some (.string x0) ∧ wr.cell? ⟨g, k * 6 + 1, none⟩ = some (.int .u8 x1) ∧ wr.cell? ⟨g, k * 6 + 2, none⟩ = some (.bool x2) ∧ wr.cell? ⟨g, k * 6 + 3, none⟩ = some (.int .i64 x3) ∧ wr.cell? ⟨g, k * 6 + 4, none⟩ = some (.int .i64 x4) ∧ wr.cell? ⟨g, k * 6 + 5, none⟩ = some (.int .i64 x5) := by
        exact ⟨hc.1, hc.2.1, hc.2.2.1, hc.2.2.2.1, hc.2.2.2.2.1, hc.2.2.2.2.2.1⟩
      obtain ⟨d0, d1, d2, d3, d4, d5⟩ := hd
      obtain ⟨c0, c1, c2, c3, c4, c5⟩ := hc
      have hi1 : (k : Int) < (l.length : Int) + 12 := by omega
      have hi2 : (k : Int) < (l.length : Int) := by omega
      have t1 : decide ((k : Int) < (l.length : Int)) = true := decide_eq_true hi2
      have t2 : decide ((k : Int) ≥ (l.length : Int)) = false := decide_eq_false (by omega)
      have t3 : decide (k < l.length) = true := decide_eq_true hlt
      have t4 : decide (l.length ≤ k) = false := decide_eq_false (by omega)
      have heq := fun W => eql128_same x0 x1 x2 x3 x4 x5 W
      have hgd := guard128_
      clear hd hc hx hR hrl hld hmk hlt H HV HC
      go_wp2_with fail
      go_quiet (fail)
      go_wp2_with fail
      go_roundw
      case rel => exact ⟨k + 1, by omega, by go_num, below_drewN hBr _⟩
      case measure => simp [intOf]; omega
    · by_cases hlt2 : k < l.length + 12
      · have c0 := hmk (k - l.length) 0 _ (by omega) rfl
        rw [show l.length + (k - l.length) = k by omega] at c0
        have c0 : wr.cell? ⟨g, k * 6, none⟩ = some (.string ⟨#[]⟩) := by simpa [KM] using c0
        have c1 := hmk (k - l.length) 1 _ (by omega) rfl
        rw [show l.length + (k - l.length) = k by omega] at c1
        have c1 : wr.cell? ⟨g, k * 6 + 1, none⟩ = some (.int .u8 0) := by simpa [KM] using c1
        have c2 := hmk (k - l.length) 2 _ (by omega) rfl
        rw [show l.length + (k - l.length) = k by omega] at c2
        have c2 : wr.cell? ⟨g, k * 6 + 2, none⟩ = some (.bool false) := by simpa [KM] using c2
        have c3 := hmk (k - l.length) 3 _ (by omega) rfl
        rw [show l.length + (k - l.length) = k by omega] at c3
        have c3 : wr.cell? ⟨g, k * 6 + 3, none⟩ = some (.int .i64 (markI (k - l.length))) := by simpa [KM] using c3
        have c4 := hmk (k - l.length) 4 _ (by omega) rfl
        rw [show l.length + (k - l.length) = k by omega] at c4
        have c4 : wr.cell? ⟨g, k * 6 + 4, none⟩ = some (.int .i64 0) := by simpa [KM] using c4
        have c5 := hmk (k - l.length) 5 _ (by omega) rfl
        rw [show l.length + (k - l.length) = k by omega] at c5
        have c5 : wr.cell? ⟨g, k * 6 + 5, none⟩ = some (.int .i64 0) := by simpa [KM] using c5
        have hi1 : (k : Int) < (l.length : Int) + 12 := by omega
        have t1 : decide ((k : Int) < (l.length : Int)) = false := decide_eq_false (by omega)
        have t2 : decide ((k : Int) ≥ (l.length : Int)) = true := decide_eq_true (by omega)
        have t3 : decide (k < l.length) = false := decide_eq_false hlt
        have t4 : decide (l.length ≤ k) = true := decide_eq_true (by omega)
        have hmark : ∀ y : Ext wr, Calls Try.prog 107 #[.int .i64 1, .int .i64 ((k - l.length : Nat) : Int)] y.w fun e w' => e = .returned (.agg #[.string ⟨#[]⟩, .int .u8 0, .bool false, .int .i64 (markI (k - l.length)), .int .i64 0, .int .i64 0]) ∧ Below y.w.heap.size y.w w' := fun y => markPort_c _ y.w (by omega)
        have hcast : (((k - l.length : Nat) : Nat) : Int) = (k : Int) - (l.length : Int) := by omega
        rw [hcast] at hmark
        have hw1 : IntKind.i64.wrap ((k : Int) - (l.length : Int)) = (k : Int) - (l.length : Int) := IntWalk.i64_in _ (by omega)
        clear hld hmk hrl H HV HC hcast
        generalize markI (k - l.length) = m9 at *
        have Hmark := Lib.hid hmark
        clear hmark
        have heq := fun W => eql128_same ⟨#[]⟩ 0 false m9 0 0 W
        have hgd := guard128_
        go_wp2_with fail
        refine wp_region_ext (by kernel_rfl) (by kernel_rfl) ?_
        repeat (go_big_quiet_step ((go_at_call 107; with_reducible exact ext_call (Hmark.out _))))
        refine wpQuiet_nil ?_
        intro _ hw'
        obtain ⟨xx, hw''⟩ := hw'
        subst hw''
        have hB2 := hBr.trans (xx.h.mono hBr.size)
        clear hec Hmark hw1 c0 c1 c2 c3 c4 c5
        generalize xx.w = w9 at hB2 ⊢
        go_wp2_with fail
        go_roundw
        case rel => exact ⟨k + 1, by omega, by go_num, hB2⟩
        case measure => simp [intOf]; omega
      · obtain rfl : k = l.length + 12 := by omega
        clear hld hmk hec hrl
        go_wp2_with fail
        go_ret
        exact ⟨rfl, hBr⟩
end

theorem cfInss {x : List G} (h : cfE KS KN (KS 1) x) : ∃ (x0 : Int) (x1 : Int) (x2 : Int) (x3 : Int), x = [.one (.int .u8 x0), .one (.int .i64 x1), .one (.int .i64 x2), .one (.int .i64 x3)] := by
  have hl := cfE_len h
  match x, hl with
  | [g0, g1, g2, g3], _ =>
    simp only [KS, cfE] at h
    obtain ⟨h0, h1, h2, h3, _⟩ := h
    obtain ⟨x0, e0⟩ : ∃ x : Int, g0 = .one (.int .u8 x) := by
      have := cf_flat rfl h0
      cases g0 with
      | one v => simp only [G.cf] at h0; obtain ⟨y, rfl⟩ := h0; exact ⟨y, rfl⟩
      | row _ _ => exact absurd h0 (by simp [G.cf])
    obtain ⟨x1, e1⟩ : ∃ x : Int, g1 = .one (.int .i64 x) := by
      have := cf_flat rfl h1
      cases g1 with
      | one v => simp only [G.cf] at h1; obtain ⟨y, rfl⟩ := h1; exact ⟨y, rfl⟩
      | row _ _ => exact absurd h1 (by simp [G.cf])
    obtain ⟨x2, e2⟩ : ∃ x : Int, g2 = .one (.int .i64 x) := by
      have := cf_flat rfl h2
      cases g2 with
      | one v => simp only [G.cf] at h2; obtain ⟨y, rfl⟩ := h2; exact ⟨y, rfl⟩
      | row _ _ => exact absurd h2 (by simp [G.cf])
    obtain ⟨x3, e3⟩ : ∃ x : Int, g3 = .one (.int .i64 x) := by
      have := cf_flat rfl h3
      cases g3 with
      | one v => simp only [G.cf] at h3; obtain ⟨y, rfl⟩ := h3; exact ⟨y, rfl⟩
      | row _ _ => exact absurd h3 (by simp [G.cf])
    exact ⟨x0, x1, x2, x3, by rw [e0, e1, e2, e3]⟩
theorem slice_to130_ (A : Option Addr) (m n co : Nat) (h : n ≤ co) (W : World) : (Instr.sliceAt 130 (.slice A m co) none (some (.int .i64 n)) none).run Try.prog W = .ok (.slice A n co) W := by
  have h0 : (0 : Int) ≤ (n : Int) := by omega
  have h1 : (n : Int) ≤ (co : Int) := by omega
  simp [go_sem, h0, h1, sliced, map_add_zero]

theorem eql158_same (x0 : Int) (x1 : Int) (x2 : Int) (x3 : Int) (W : World) : (binOp .eql 158 (.agg #[.int .u8 x0, .int .i64 x1, .int .i64 x2, .int .i64 x3]) (.agg #[.int .u8 x0, .int .i64 x1, .int .i64 x2, .int .i64 x3])).run Try.prog W = .ok (.bool true) W := by
  have u3 := Try.underlying3
  have u4 := Try.underlying4
  have u5 := Try.underlying5
  have u9 := Try.underlying9
  have hS : Try.prog.underlying 158 = some (.struct (Try.prog.fieldsOf 158)) := by kernel_rfl
  have hp : Try.prog.stoodInHeld 158 = false := by kernel_rfl
  rw [run_eql_struct, show (10000 : Nat) = 9999 + 1 from rfl, run_equalIn_agg W 9999 158 _ _ hS hp]
  simp only [Program.fieldsOf, Try.underlying158]
  go_simp
theorem guard158_ : Try.prog.eqGuardType Try.prog.depth 158 = false := by kernel_rfl

section
attribute [-go_sem] run_sliceAt_slice
set_option maxRecDepth 100000 in
set_option maxHeartbeats 4000000 in
theorem keptInss_c (l : List (List G)) (V v : Value) (w : World) (hcf : G.cf KS KN (.sl 1) (.row 1 l)) (hV : G.ldW KM w V (.row 1 l)) (h : G.rdW w v (.row 1 l)) :
    Calls Try.prog 125 #[V, v] w fun e w' => e = .returned (.bool true) ∧ Below w.heap.size w w' := by
  simp only [G.cf] at hcf
  obtain ⟨_, hlen, hcR⟩ := hcf
  have hlen : l.length ≤ 4398046510976 := hlen
  obtain ⟨g, cap, rfl, hcap, hcm⟩ : ∃ g cap, V = .slice (some ⟨g, 0, none⟩) l.length cap ∧ l.length + 12 ≤ cap ∧ cap ≤ maxLen := by
    have := hV
    simp only [G.ldW, G.ld] at this
    obtain ⟨g, cap, h1, h2, h3, _⟩ := this
    exact ⟨g, cap, h1, h2, h3⟩
  obtain ⟨A, c, rfl⟩ : ∃ A c, v = .slice A l.length c := by
    have := h
    simp only [G.rdW, G.rd] at this
    obtain ⟨A, c, h1, _⟩ := this
    exact ⟨A, c, h1⟩
  have hne : ((l.length : Int) != (l.length : Int)) = false := by simp
  have hwr := IntWalk.i64_in ((l.length : Int) + 12) (by omega)
  have hsl : ∀ W, (Instr.sliceAt 130 (.slice (some ⟨g, 0, none⟩) l.length cap) none (some (.int .i64 ((l.length : Int) + 12))) none).run Try.prog W = .ok (.slice (some ⟨g, 0, none⟩) (l.length + 12) cap) W := fun W => by
    have := slice_to130_ (some ⟨g, 0, none⟩) l.length (l.length + 12) cap hcap W
    simpa using this
  have H := Lib.hid h
  have HV := Lib.hid hV
  have HC := Lib.hid hcR
  clear h hV hcR
  go_enter Try.func125, Try.ntmps125
  go_wp2_with fail
  go_loopw [6] (fun i wr => ∃ k : Nat, k ≤ l.length + 12 ∧ i = .int .i64 k ∧ Below w.heap.size w wr) (fun i _ => l.length + 12 - (intOf i).toNat)
  case atStart => exact ⟨0, by omega, rfl, Below.refl _ _⟩
  case round =>
    obtain ⟨k, hk, rfl, hBr⟩ := hrel
    have hV2 := G.ldW.next HV.out hBr
    have h2 := G.rdW.next H.out hBr
    simp only [G.ldW, G.ld] at hV2
    simp only [G.rdW, G.rd] at h2
    obtain ⟨g2, cap2, e2, _, _, hg2, hld, hmk⟩ := hV2
    injection e2 with e2 _ e3
    injection e2 with e2
    injection e2 with e2
    subst e2 e3
    obtain ⟨A2, c2, e2, hlc, hlm, hrl⟩ := h2
    injection e2 with e2 _ e3
    subst e2 e3
    have hec := ext_cell wr
    have hi0 : (0 : Int) ≤ (k : Int) := by omega
    by_cases hlt : k < l.length
    · obtain ⟨b, o, rfl, hb, hR⟩ := hrl (by omega)
      have hd := rdR_get hlt (cfR_len HC.out) hR
      have hc := ldR_get hlt (cfR_len HC.out) hld
      obtain ⟨x0, x1, x2, x3, hx⟩ := cfInss (cfR_get hlt HC.out)
      rw [hx] at hd hc
      simp only [rdE, G.rd, exists_eq_right, ldE, G.ld, Nat.zero_add] at hd hc
      have hd : wr.cell? ⟨b, o + (k * 4), none⟩ = some (.int .u8 x0) ∧ wr.cell? ⟨b, o + (k * 4) + 1, none⟩ = some (.int .i64 x1) ∧ wr.cell? ⟨b, o + (k * 4) + 2, none⟩ = some (.int .i64 x2) ∧ wr.cell? ⟨b, o + (k * 4) + 3, none⟩ = some (.int .i64 x3) := ⟨hd.1, hd.2.1, hd.2.2.1, hd.2.2.2.1⟩
      have hc : wr.cell? ⟨g, k * 4, none⟩ = some (.int .u8 x0) ∧ wr.cell? ⟨g, k * 4 + 1, none⟩ = some (.int .i64 x1) ∧ wr.cell? ⟨g, k * 4 + 2, none⟩ = some (.int .i64 x2) ∧ wr.cell? ⟨g, k * 4 + 3, none⟩ = some (.int .i64 x3) := by
        exact ⟨hc.1, hc.2.1, hc.2.2.1, hc.2.2.2.1⟩
      obtain ⟨d0, d1, d2, d3⟩ := hd
      obtain ⟨c0, c1, c2, c3⟩ := hc
      have hi1 : (k : Int) < (l.length : Int) + 12 := by omega
      have hi2 : (k : Int) < (l.length : Int) := by omega
      have t1 : decide ((k : Int) < (l.length : Int)) = true := decide_eq_true hi2
      have t2 : decide ((k : Int) ≥ (l.length : Int)) = false := decide_eq_false (by omega)
      have t3 : decide (k < l.length) = true := decide_eq_true hlt
      have t4 : decide (l.length ≤ k) = false := decide_eq_false (by omega)
      have heq := fun W => eql158_same x0 x1 x2 x3 W
      have hgd := guard158_
      clear hd hc hx hR hrl hld hmk hlt H HV HC
      go_wp2_with fail
      go_quiet (fail)
      go_wp2_with fail
      go_roundw
      case rel => exact ⟨k + 1, by omega, by go_num, below_drewN hBr _⟩
      case measure => simp [intOf]; omega
    · by_cases hlt2 : k < l.length + 12
      · have c0 := hmk (k - l.length) 0 _ (by omega) rfl
        rw [show l.length + (k - l.length) = k by omega] at c0
        have c0 : wr.cell? ⟨g, k * 4, none⟩ = some (.int .u8 0) := by simpa [KM] using c0
        have c1 := hmk (k - l.length) 1 _ (by omega) rfl
        rw [show l.length + (k - l.length) = k by omega] at c1
        have c1 : wr.cell? ⟨g, k * 4 + 1, none⟩ = some (.int .i64 (markI (k - l.length))) := by simpa [KM] using c1
        have c2 := hmk (k - l.length) 2 _ (by omega) rfl
        rw [show l.length + (k - l.length) = k by omega] at c2
        have c2 : wr.cell? ⟨g, k * 4 + 2, none⟩ = some (.int .i64 0) := by simpa [KM] using c2
        have c3 := hmk (k - l.length) 3 _ (by omega) rfl
        rw [show l.length + (k - l.length) = k by omega] at c3
        have c3 : wr.cell? ⟨g, k * 4 + 3, none⟩ = some (.int .i64 0) := by simpa [KM] using c3
        have hi1 : (k : Int) < (l.length : Int) + 12 := by omega
        have t1 : decide ((k : Int) < (l.length : Int)) = false := decide_eq_false (by omega)
        have t2 : decide ((k : Int) ≥ (l.length : Int)) = true := decide_eq_true (by omega)
        have t3 : decide (k < l.length) = false := decide_eq_false hlt
        have t4 : decide (l.length ≤ k) = true := decide_eq_true (by omega)
        have hmark : ∀ y : Ext wr, Calls Try.prog 132 #[.int .i64 1, .int .i64 ((k - l.length : Nat) : Int)] y.w fun e w' => e = .returned (.agg #[.int .u8 0, .int .i64 (markI (k - l.length)), .int .i64 0, .int .i64 0]) ∧ Below y.w.heap.size y.w w' := fun y => markIns_c _ y.w (by omega)
        have hcast : (((k - l.length : Nat) : Nat) : Int) = (k : Int) - (l.length : Int) := by omega
        rw [hcast] at hmark
        have hw1 : IntKind.i64.wrap ((k : Int) - (l.length : Int)) = (k : Int) - (l.length : Int) := IntWalk.i64_in _ (by omega)
        clear hld hmk hrl H HV HC hcast
        generalize markI (k - l.length) = m9 at *
        have Hmark := Lib.hid hmark
        clear hmark
        have heq := fun W => eql158_same 0 m9 0 0 W
        have hgd := guard158_
        go_wp2_with fail
        refine wp_region_ext (by kernel_rfl) (by kernel_rfl) ?_
        repeat (go_big_quiet_step ((go_at_call 132; with_reducible exact ext_call (Hmark.out _))))
        refine wpQuiet_nil ?_
        intro _ hw'
        obtain ⟨xx, hw''⟩ := hw'
        subst hw''
        have hB2 := hBr.trans (xx.h.mono hBr.size)
        clear hec Hmark hw1 c0 c1 c2 c3
        generalize xx.w = w9 at hB2 ⊢
        go_wp2_with fail
        go_roundw
        case rel => exact ⟨k + 1, by omega, by go_num, hB2⟩
        case measure => simp [intOf]; omega
      · obtain rfl : k = l.length + 12 := by omega
        clear hld hmk hec hrl
        go_wp2_with fail
        go_ret
        exact ⟨rfl, hBr⟩
end

end Go.Proofs.Ytlmbffnmjfbglab
