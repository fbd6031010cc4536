/- The contract of Next. -/
import Derived.Test.YtlmbffnmjfbglaaO0
import Derived.IntWalk
namespace Go.Proofs.Ytlmbffnmjfbglaa
open Go.ChangeShapes Go.WideShapes Go.ChangeAt Go.RowKit

abbrev NSt := Win × Int × Bool
def startsIn (F : Int) (x : Win) : Bool := nearB x && (decide (0 ≤ x.start) && decide (x.start < F))
def nextAt (F t : Int) (x : Win) : Int := t + (x.start - t) % F
def nextStep (F t : Int) (st : NSt) (x : Win) : NSt := if startsIn F x then (if !st.2.2 || decide (nextAt F t x < st.2.1) then (x, nextAt F t x, true) else st) else st
def nextTo (F t : Int) (tb : List Win) (k : Nat) : NSt := (tb.take k).foldl (nextStep F t) (⟨0, 0, 0⟩, 0, false)
theorem nextTo_succ (F t : Int) (tb : List Win) (k : Nat) (h : k < tb.length) : nextTo F t tb (k + 1) = nextStep F t (nextTo F t tb k) tb[k] := by
  unfold nextTo; rw [List.take_succ_eq_append_getElem h, List.foldl_append]; rfl
def nextV (tb : List Win) (F t : Int) : NSt := if clockB F t then nextTo F t tb tb.length else (⟨0, 0, 0⟩, 0, false)
theorem nextAt_bd {F t : Int} (h1 : 1 ≤ F) (x : Win) : t ≤ nextAt F t x ∧ nextAt F t x < t + F := by
  have := Int.emod_nonneg (x.start - t) (show F ≠ 0 by omega)
  have := Int.emod_lt_of_pos (x.start - t) (show 0 < F by omega)
  unfold nextAt; omega

set_option maxRecDepth 100000 in
set_option maxHeartbeats 1000000 in
theorem next_c (tb : List Win) (A : Option Addr) (c : Nat) (F t : Int) (w : World) (h : RdG Win.tri w w.heap.size A tb) (hl : tb.length ≤ 9223372036854775807) :
    Calls Try.prog 17 #[.slice A tb.length c, .int .i64 F, .int .i64 t] w fun e w' => e = .returned (.tuple #[.agg #[.int .i64 (nextV tb F t).1.part, .int .i64 (nextV tb F t).1.start, .int .i64 (nextV tb F t).1.len], .int .i64 (nextV tb F t).2.1, .bool (nextV tb F t).2.2]) ∧ Below w.heap.size w w' := by
  have hB : Below w.heap.size w (w.alloc (.cells #[.int .i64 0, .int .i64 0, .int .i64 0] 31)) := (Below.refl _ _).alloc (Nat.le_refl _) _
  have hbk := Blk.new w 31 #[.int .i64 0, .int .i64 0, .int .i64 0]
  have hck := fun W => clock_c F t W
  cases hc : clockB F t with
  | false =>
    have hv : nextV tb F t = (⟨0, 0, 0⟩, 0, false) := by simp [nextV, hc]
    rw [hv]
    rw [hc] at hck
    clear hv hc h
    go_enter Try.func17, Try.ntmps17
    go_wp2_with (go_at_call 37; refine (hck _).mono ?_; rintro e w' ⟨rfl, rfl⟩)
    refine bodyPost_ret (v := .tuple #[.agg #[.int .i64 0, .int .i64 0, .int .i64 0], .int .i64 0, .bool false]) ?_ rfl ⟨rfl, hB⟩
    simp [results, Try.f17, go_sem]
  | true =>
    rw [hc] at hck
    obtain ⟨h1, h2, h3, h4⟩ : 1 ≤ F ∧ F ≤ 2000 ∧ 0 ≤ t ∧ t ≤ 1073741824 := of_decide_eq_true hc
    have hF0 : F ≠ 0 := by omega
    have Hv := Lib.hid (show nextV tb F t = nextTo F t tb tb.length by simp [nextV, hc])
    clear hc
    have r0 := Int.emod_nonneg t (show F ≠ 0 by omega)
    have r1 := Int.emod_lt_of_pos t (show 0 < F by omega)
    go_enter Try.func17, Try.ntmps17
    go_wp2_with (go_at_call 37; refine (hck _).mono ?_; rintro e w' ⟨rfl, rfl⟩)
    clear hck
    refine nameW fun W1 hW1 => ?_
    rw [← hW1] at hB hbk
    have hs1 : w.heap.size + 1 ≤ W1.heap.size := by subst hW1; simp
    clear hW1
    go_loopw [7, 8, 19] (fun av ov i wr => ∃ k : Nat, k ≤ tb.length ∧ i = .int .i64 k ∧ av = .int .i64 (nextTo F t tb k).2.1 ∧ ov = .bool (nextTo F t tb k).2.2 ∧ Below w.heap.size w wr ∧ w.heap.size + 1 ≤ wr.heap.size ∧ Blk wr w.heap.size 31 #[.int .i64 (nextTo F t tb k).1.part, .int .i64 (nextTo F t tb k).1.start, .int .i64 (nextTo F t tb k).1.len]) (fun _ _ i _ => tb.length - (intOf i).toNat)
    case atStart => exact ⟨0, Nat.zero_le _, rfl, rfl, rfl, hB, hs1, hbk⟩
    case round =>
      clear hB hbk hs1
      obtain ⟨k, hk, rfl, rfl, rfl, hB, hsr, hbk⟩ := hrel
      by_cases hlt : k < tb.length
      · obtain ⟨b, o, rfl, hb, hcc⟩ := h.keep hB (by omega)
        obtain ⟨c0, c1, c2⟩ := hcc k hlt
        change _ = some (Value.int .i64 tb[k].part) at c0
        change _ = some (Value.int .i64 tb[k].start) at c1
        change _ = some (Value.int .i64 tb[k].len) at c2
        have hsucc := nextTo_succ F t tb k hlt
        have hfar := fun W => far_c tb[k] W
        have hi0 : (0 : Int) ≤ (k : Int) := by omega
        have hi1 : (k : Int) < (tb.length : Int) := by omega
        clear hcc
        generalize tb[k] = x at c0 c1 c2 hsucc hfar
        generalize nextTo F t tb k = st at hbk hsucc ⊢
        have HS := Lib.hid hsucc
        clear hsucc
        obtain ⟨nb1, nb2⟩ := nextAt_bd (t := t) h1 x
        cases hn : nearB x with
        | false =>
          rw [hn] at hfar
          have HS2 := Lib.hid (HS.out.trans (show nextStep F t st x = st by simp [nextStep, startsIn, hn]))
          clear HS hn
          go_wp2_with fail
          refine (hfar _).mono ?_
          rintro e w1 ⟨rfl, hb1⟩
          have hB1 := (hB.alloc hB.size (.cells #[.int .i64 x.part, .int .i64 x.start, .int .i64 x.len] 31)).trans (hb1.mono (by simp; omega))
          have hbk1 := (hbk.alloc (.cells #[.int .i64 x.part, .int .i64 x.start, .int .i64 x.len] 31)).below hb1 (by simp; omega)
          have hs1 : w.heap.size + 1 ≤ w1.heap.size := by have := hb1.size; simp at this; omega
          clear hfar hB hbk hb1
          go_wp2
          go_roundw
          case rel => exact ⟨k + 1, by omega, by go_num, by rw [HS2.out], by rw [HS2.out], hB1, hs1, by rw [HS2.out]; exact hbk1⟩
          case measure => simp [intOf]; omega
        | true =>
          rw [hn] at hfar
          obtain ⟨n1, n2, n3, n4⟩ : nearP x := of_decide_eq_true hn
          have hbx := Blk.new wr 31 #[.int .i64 x.part, .int .i64 x.start, .int .i64 x.len]
          go_wp2_with fail
          refine (hfar _).mono ?_
          rintro e w1 ⟨rfl, hb1⟩
          have hB1 := (hB.alloc hB.size (.cells #[.int .i64 x.part, .int .i64 x.start, .int .i64 x.len] 31)).trans (hb1.mono (by simp; omega))
          have hbk1 := (hbk.alloc (.cells #[.int .i64 x.part, .int .i64 x.start, .int .i64 x.len] 31)).below hb1 (by simp; omega)
          have hbx1 := hbx.below hb1 hbx.lt
          have hs1 : w.heap.size + 1 ≤ w1.heap.size := by have := hb1.size; simp at this; omega
          clear hfar hB hbk hb1 hbx
          have p0 : w1.cell? ⟨wr.heap.size, 0, none⟩ = some (.int .i64 x.part) := hbx1.cell 0
          have p1 : w1.cell? ⟨wr.heap.size, 1, none⟩ = some (.int .i64 x.start) := hbx1.cell 1
          have p2 : w1.cell? ⟨wr.heap.size, 2, none⟩ = some (.int .i64 x.len) := hbx1.cell 2
          by_cases hs : 0 ≤ x.start
          · by_cases hF : x.start < F
            · have hsi : startsIn F x = true := by simp [startsIn, hn, hs, hF]
              have HS3 := Lib.hid (HS.out.trans (show nextStep F t st x = if !st.2.2 || decide (nextAt F t x < st.2.1) then (x, nextAt F t x, true) else st by simp only [nextStep, hsi, if_true]))
              clear HS hn hsi
              have m0 : t.tmod F = t % F := Int.tmod_eq_emod_of_nonneg h3
              have m1 : IntKind.i64.wrap (x.start - t % F) = x.start - t % F := IntWalk.i64_in _ (by omega)
              have m2 : IntKind.i64.wrap (x.start - t % F + F) = x.start - t % F + F := IntWalk.i64_in _ (by omega)
              have m3 : (x.start - t % F + F).tmod F = (x.start - t % F + F) % F := Int.tmod_eq_emod_of_nonneg (by omega)
              have e1 := Int.emod_nonneg (x.start - t) hF0
              have e2 := Int.emod_lt_of_pos (x.start - t) (show 0 < F by omega)
              have m4 : IntKind.i64.wrap (t + (x.start - t) % F) = t + (x.start - t) % F := IntWalk.i64_in _ (by omega)
              have q0 : w1.cell? ⟨w.heap.size, 0, none⟩ = some (.int .i64 st.1.part) := hbk1.cell 0
              have q1 : w1.cell? ⟨w.heap.size, 1, none⟩ = some (.int .i64 st.1.start) := hbk1.cell 1
              have q2 : w1.cell? ⟨w.heap.size, 2, none⟩ = some (.int .i64 st.1.len) := hbk1.cell 2
              have f0 := hbk1.frozen 0
              have f1 := hbk1.frozen 1
              have f2 := hbk1.frozen 2
              clear nb1 nb2
              unfold nextAt at HS3
              cases ho : st.2.2 with
              | false =>
                rw [ho] at HS3
                have HS4 := Lib.hid (HS3.out.trans (show (if !false || decide (t + (x.start - t) % F < st.2.1) then (x, t + (x.start - t) % F, true) else st) = (x, t + (x.start - t) % F, true) by simp))
                clear HS3 ho
                go_wp2
                go_quiet (fail)
                go_wp2
                go_roundw
                case rel =>
                  refine ⟨k + 1, by omega, by go_num, by rw [HS4.out], by rw [HS4.out], ?_, by simpa using hs1, ?_⟩
                  · exact ((((below_drewN hB1 _).setCell (p := ⟨w.heap.size, 0, none⟩) (by simp) _).setCell (p := ⟨w.heap.size, 1, none⟩) (by simp) _).setCell (p := ⟨w.heap.size, 2, none⟩) (by simp) _)
                  · rw [HS4.out]; exact (((hbk1.drewN _).set_ 0 _).set_ 1 _).set_ 2 _
                case measure => simp [intOf]; omega
              | true =>
                rw [ho] at HS3
                by_cases hlt2 : t + (x.start - t) % F < st.2.1
                · have HS4 := Lib.hid (HS3.out.trans (show (if !true || decide (t + (x.start - t) % F < st.2.1) then (x, t + (x.start - t) % F, true) else st) = (x, t + (x.start - t) % F, true) by simp [hlt2]))
                  clear HS3 ho
                  go_wp2
                  go_quiet (fail)
                  go_wp2
                  go_roundw
                  case rel =>
                    refine ⟨k + 1, by omega, by go_num, by rw [HS4.out], by rw [HS4.out], ?_, by simpa using hs1, ?_⟩
                    · exact ((((below_drewN hB1 _).setCell (p := ⟨w.heap.size, 0, none⟩) (by simp) _).setCell (p := ⟨w.heap.size, 1, none⟩) (by simp) _).setCell (p := ⟨w.heap.size, 2, none⟩) (by simp) _)
                    · rw [HS4.out]; exact (((hbk1.drewN _).set_ 0 _).set_ 1 _).set_ 2 _
                  case measure => simp [intOf]; omega
                · have HS4 := Lib.hid (HS3.out.trans (show (if !true || decide (t + (x.start - t) % F < st.2.1) then (x, t + (x.start - t) % F, true) else st) = st by simp [hlt2]))
                  have Ho := Lib.hid ho
                  clear HS3 ho
                  go_wp2
                  go_quiet (fail)
                  go_wp2
                  go_roundw
                  case rel => exact ⟨k + 1, by omega, by go_num, by rw [HS4.out], by rw [HS4.out, Ho.out], below_drewN hB1 _, by simpa using hs1, by rw [HS4.out]; exact hbk1.drewN _⟩
                  case measure => simp [intOf]; omega
            · have hsi : startsIn F x = false := by simp [startsIn, hF]
              have HS2 := Lib.hid (HS.out.trans (show nextStep F t st x = st by simp [nextStep, hsi]))
              clear HS hn hsi
              go_wp2
              go_roundw
              case rel => exact ⟨k + 1, by omega, by go_num, by rw [HS2.out], by rw [HS2.out], hB1, hs1, by rw [HS2.out]; exact hbk1⟩
              case measure => simp [intOf]; omega
          · have hsi : startsIn F x = false := by simp [startsIn, hs]
            have HS2 := Lib.hid (HS.out.trans (show nextStep F t st x = st by simp [nextStep, hsi]))
            clear HS hn hsi
            go_wp2
            go_roundw
            case rel => exact ⟨k + 1, by omega, by go_num, by rw [HS2.out], by rw [HS2.out], hB1, hs1, by rw [HS2.out]; exact hbk1⟩
            case measure => simp [intOf]; omega
      · obtain rfl : k = tb.length := by omega
        have hv := Hv.out
        have Hv2 := Lib.hid hv
        clear hv Hv
        generalize nextTo F t tb tb.length = st at *
        have p0 : wr.cell? ⟨w.heap.size, 0, none⟩ = some (.int .i64 st.1.part) := hbk.cell 0
        have p1 : wr.cell? ⟨w.heap.size, 1, none⟩ = some (.int .i64 st.1.start) := hbk.cell 1
        have p2 : wr.cell? ⟨w.heap.size, 2, none⟩ = some (.int .i64 st.1.len) := hbk.cell 2
        have f0 := hbk.frozen 0
        have f1 := hbk.frozen 1
        have f2 := hbk.frozen 2
        go_wp2
        have k3 := ((hbk.set_ 0 (.int .i64 st.1.part)).set_ 1 (.int .i64 st.1.start)).set_ 2 (.int .i64 st.1.len)
        have g0 := k3.cell 0
        have g1 := k3.cell 1
        have g2 := k3.cell 2
        simp at g0 g1 g2
        refine bodyPost_ret (v := .tuple #[.agg #[.int .i64 st.1.part, .int .i64 st.1.start, .int .i64 st.1.len], .int .i64 st.2.1, .bool st.2.2]) ?_ rfl ⟨by rw [Hv2.out], ((hB.setCell (by simp) _).setCell (by simp) _).setCell (by simp) _⟩
        simp [results, Try.f17, go_sem, g0, g1, g2]
end Go.Proofs.Ytlmbffnmjfbglaa
