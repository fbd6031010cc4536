/- The contract of KeptRegions. -/
import Derived.Test.YtjgmdchlgabflaaV1
import Derived.Test.YtjgmdchlgabflaaB1
namespace Go.Proofs.Ytjgmdchlgabflaa
open Go.ChangeShapes Go.WideShapes Go.ChangeAt Go.RowKit

theorem eql_reg (r s : Reg) (W : World) : (binOp .eql 42 (.agg #[.int .i64 r.part, .int .i64 r.base, .int .i64 r.size]) (.agg #[.int .i64 s.part, .int .i64 s.base, .int .i64 s.size])).run Try.prog W = .ok (.bool (r.eqB s)) W := by
  have u3 := Try.underlying3
  have hS : Try.prog.underlying 42 = some (.struct (Try.prog.fieldsOf 42)) := by kernel_rfl
  have hp : Try.prog.stoodInHeld 42 = false := by kernel_rfl
  rw [run_eql_struct, show (10000 : Nat) = 9999 + 1 from rfl, run_equalIn_agg W 9999 42 _ _ hS hp]
  simp only [Program.fieldsOf, Try.underlying42]
  go_simp
  by_cases h1 : r.part = s.part <;> by_cases h2 : r.base = s.base <;> by_cases h3 : r.size = s.size <;> simp [h1, h2, h3, Reg.eqB]
theorem eql_same (r : Reg) (W : World) : (binOp .eql 42 (.agg #[.int .i64 r.part, .int .i64 r.base, .int .i64 r.size]) (.agg #[.int .i64 r.part, .int .i64 r.base, .int .i64 r.size])).run Try.prog W = .ok (.bool true) W := by
  rw [eql_reg, Reg.eqB_iff.2 rfl]

set_option maxRecDepth 100000 in
set_option maxHeartbeats 1000000 in
theorem kept_c (v : Value) (l : List Reg) (A : Option Addr) (c : Nat) (w : World) (hv : Lent w v l) (h : RdReg w w.heap.size A l) (hl : l.length ≤ 1000) :
    Calls Try.prog 41 #[v, .slice A l.length c] w fun e w' => e = .returned (.bool true) ∧ Below w.heap.size w w' := by
  obtain ⟨g, cap, rfl, hr⟩ := hv
  have hcap : l.length + 12 ≤ cap := by obtain ⟨_, _, h, _⟩ := hr; simpa using h
  have hcm : cap ≤ 9223372036854775807 := by obtain ⟨_, _, _, h, _⟩ := hr; exact h
  have hgl := hr.lt
  have hne : ((l.length : Int) != (l.length : Int)) = false := by simp
  have hgd := guard_reg
  go_enter Try.func41, Try.ntmps41
  go_wp2
  go_loopw [6] (fun i wr => ∃ k : Nat, k ≤ l.length + 12 ∧ i = .int .i64 k ∧ Below w.heap.size w wr) (fun i _ => l.length + 12 - (intOf i).toNat)
  case atStart => exact ⟨0, by omega, rfl, Below.refl _ _⟩
  case round =>
    obtain ⟨k, hk, rfl, hB⟩ := hrel
    have hr2 := hr.below hB hgl
    have hg2 := hr2.lt
    by_cases hlt : k < l.length
    · obtain ⟨b, o, rfl, hb, hc⟩ := h.keep hB (by omega)
      obtain ⟨c0, c1, c2⟩ := hc k hlt
      obtain ⟨d0, d1, d2⟩ := hr2.cells k (by simp; omega)
      rw [List.getElem_append_left hlt] at d0 d1 d2
      have heq := eql_same l[k]
      clear hc h hr hr2
      generalize l[k] = r at c0 c1 c2 d0 d1 d2 heq
      have hi0 : (0 : Int) ≤ (k : Int) := by omega
      have hi1 : (k : Int) < (l.length : Int) := by omega
      have hi2 : (k : Int) < (l.length : Int) + 12 := by omega
      have t1 : decide (k < l.length) = true := by simp; omega
      have t2 : decide (l.length ≤ k) = false := by simp; omega
      go_wp2
      go_quiet (fail)
      go_wp2
      go_roundw
      case rel => exact ⟨k + 1, by omega, by go_num, below_drewN hB _⟩
      case measure => simp [intOf]; omega
    · by_cases hlt2 : k < l.length + 12
      · obtain ⟨d0, d1, d2⟩ := hr2.cells k (by simp; omega)
        rw [List.getElem_append_right (by omega)] at d0 d1 d2
        simp only [List.getElem_map, List.getElem_range] at d0 d1 d2
        have heq := eql_same (markR (k - l.length))
        have hmark := fun W => markRegion_c (k - l.length) W (by omega)
        have hcast : (((k - l.length : Nat) : Nat) : Int) = (k : Int) - (l.length : Int) := by omega
        rw [hcast] at hmark
        clear h hr hr2 hcast
        generalize markR (k - l.length) = r at d0 d1 d2 heq hmark
        have hi0 : (0 : Int) ≤ (k : Int) := by omega
        have hi2 : (k : Int) < (l.length : Int) + 12 := by omega
        have t1 : decide (k < l.length) = false := by simp; omega
        have t2 : decide (l.length ≤ k) = true := by simp; omega
        have hec := ext_cell wr
        have hw1 : IntKind.i64.wrap ((k : Int) - (l.length : Int)) = (k : Int) - (l.length : Int) := IntWalk.i64_in _ (by omega)
        go_wp2
        refine wp_region_ext (by kernel_rfl) (by kernel_rfl) ?_
        repeat (go_big_quiet_step ((go_at_call 47; exact ext_call (hmark _))))
        trace_state
        refine wpQuiet_nil ?_
        intro _ hw'
        obtain ⟨x, hw''⟩ := hw'
        subst hw''
        have hH := x.h
        generalize x.w = wx at hH ⊢
        clear x
        have hB5 := hB.trans (hH.mono hB.size)
        clear hw1 hmark hH hec
        go_wp2
        go_roundw
        case rel => exact ⟨k + 1, by omega, by go_num, hB5⟩
        case measure => simp [intOf]; omega
      · obtain rfl : k = l.length + 12 := by omega
        go_wp2
        go_ret
        exact ⟨rfl, hB⟩
end Go.Proofs.Ytjgmdchlgabflaa
