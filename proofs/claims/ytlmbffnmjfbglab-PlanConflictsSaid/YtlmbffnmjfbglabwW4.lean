/- starts, first and Meet. -/
import Derived.Test.YtlmbffnmjfbglabwW3
namespace Go.Proofs.Ytlmbffnmjfbglab
open Go.ChangeShapes Go.WideShapes Go.ChangeAt Go.RowKit

/-- the k-th opening of a slot. -/
def Slot.tk (s : Slot) (k : Nat) : Int := s.off + k * s.per
theorem tk_zero (s : Slot) : s.tk 0 = s.off := by simp [Slot.tk]
theorem tk_succ (s : Slot) (k : Nat) : s.tk (k + 1) = s.tk k + s.per := by
  simp only [Slot.tk, Int.natCast_add, Int.add_mul]; omega
theorem tk_bd {s : Slot} (h : s.ok) (k : Nat) (hk : k ≤ 10000000) : 0 ≤ s.tk k ∧ s.tk k ≤ 20000002000 := by
  obtain ⟨h1, h2, h3, h4, h5, h6⟩ := h
  have hp : (k : Int) * s.per ≤ 10000000 * 2000 := Int.mul_le_mul (by omega) h2 (by omega) (by omega)
  have h0 : 0 ≤ (k : Int) * s.per := Int.mul_nonneg (by omega) (by omega)
  unfold Slot.tk
  omega
theorem tk_inv {s : Slot} (h : s.ok) (k : Nat) : ((s.tk k - s.off) / s.per).toNat = k := by
  have h1 := h.1
  have e : s.tk k - s.off = k * s.per := by unfold Slot.tk; omega
  rw [e, Int.mul_ediv_cancel _ (by omega), Int.toNat_natCast]

attribute [local go_sem] Oper.semAt_some

set_option maxRecDepth 100000 in
set_option maxHeartbeats 1000000 in
theorem starts1_seq (s : Slot) (hs : s.ok) (m Bn : Nat) (w : World) (hw : Bn < w.heap.size) (hc : Blk w Bn 77 #[.int .i64 s.off, .int .i64 s.per, .int .i64 s.len]) :
    SeqK Try.prog m 92 #[.pointer (some ⟨Bn, 0, none⟩)] (fun k => #[.int .i64 (s.tk k)]) Bn w := by
  intro l N J Jx W hNB hW hJN hY h0
  have hcW := hc.below hW hw
  have c0 : W.cell? ⟨Bn, 0, none⟩ = some (.int .i64 s.off) := hcW.cell 0
  refine callsIn_of_wp Try.func92 rfl trivial ?_ rfl
  simp only [Try.ntmps92, List.size_toArray, List.length_cons, List.length_nil, Nat.reduceAdd, Nat.reduceSub, Array.replicate_succ, Array.replicate_zero, List.push_toArray, List.append_toArray, List.nil_append, List.cons_append]
  gi_wp2
  gi_loopw [3] (fun t wr => ∃ k : Nat, t = .int .i64 (s.tk k) ∧ J k wr ∧ Blk wr Bn 77 #[.int .i64 s.off, .int .i64 s.per, .int .i64 s.len])
    (fun t wr => N - ((intOf t - s.off) / s.per).toNat)
  case atStart => exact ⟨0, by rw [tk_zero], h0, hcW⟩
  case round =>
    clear c0 hcW hc h0
    obtain ⟨k, rfl, hJ, hcr⟩ := hrel
    have hk := hJN k wr hJ
    obtain ⟨fn, tmps, assign, body, hy, hR⟩ := hY k wr hJ
    have hmu := tk_inv hs k
    have hmu1 := tk_inv hs (k + 1)
    have hsucc := tk_succ s k
    obtain ⟨b0, b1⟩ := tk_bd hs k (by omega)
    have hp1 := hs.1
    have hp2 := hs.2.1
    have Hmu := Lib.hid hmu
    have Hmu1 := Lib.hid hmu1
    have Hs := Lib.hid hsucc
    clear hmu hmu1 hsucc hJN hY
    generalize s.tk k = T at *
    gi_wp2
    refine ⟨fun h => by simp [Fence.wide] at h, hR.mono ?_⟩
    rintro e W3 (⟨rfl, hJ3, hk3⟩ | ⟨rfl, hJx3⟩)
    · have hc3 : Blk W3 Bn 77 #[.int .i64 s.off, .int .i64 s.per, .int .i64 s.len] := hk3.trans hcr
      have c1 : W3.cell? ⟨Bn, 1, none⟩ = some (.int .i64 s.per) := hc3.cell 1
      gi_wp2
      go_roundw
      case rel => exact ⟨k + 1, by rw [Hs.out], hJ3, hc3⟩
      case measure => simp only [intOf]; rw [← Hs.out, Hmu1.out, Hmu.out]; omega
    · gi_wp2
      go_end0
      exact ⟨⟨_, rfl⟩, hJx3⟩

theorem starts_c (s : Slot) (w : World) :
    Calls Try.prog 78 #[.agg #[.int .i64 s.off, .int .i64 s.per, .int .i64 s.len]] w fun e w' => e = .returned (.func (.func 92) #[] #[.pointer (some ⟨w.heap.size, 0, none⟩)]) ∧ w.alloc (.cells #[.int .i64 s.off, .int .i64 s.per, .int .i64 s.len] 77) = w' := by
  go_enter Try.func78, Try.ntmps78
  go_wp2
  go_ret
  exact ⟨rfl, rfl⟩

def firstS (s : Slot) (t : Int) : Int := if t < s.off then s.off else if s.len ≤ (t - s.off) % s.per then t - (t - s.off) % s.per + s.per else t

end Go.Proofs.Ytlmbffnmjfbglab
