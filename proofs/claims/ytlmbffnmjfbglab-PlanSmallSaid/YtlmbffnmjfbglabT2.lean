/- The reference's Plan. -/
import Derived.Test.YtlmbffnmjfbglabT1
set_option linter.unusedSimpArgs false
set_option linter.unusedVariables false
namespace Go.Proofs.Ytlmbffnmjfbglab
open Go.ChangeShapes Go.WideShapes Go.ChangeAt Go.RowKit

/-- Plan's answer in memory. -/
def PlanPost (w : World) (q : List Int × List Claim × Int) (e : Ending) (w' : World) : Prop := ∃ Ao co Ac cc, e = .returned (.tuple #[.slice Ao q.1.length co, .slice Ac q.2.1.length cc, .int .i64 q.2.2]) ∧ RdInt w' w'.heap.size Ao q.1 ∧ RdK w' Ac q.2.1 ∧ Below w.heap.size w w'
set_option maxRecDepth 100000 in
set_option maxHeartbeats 4000000 in
theorem rplan_c (name : ByteArray) (mem F : Int) (ps : List Part) (A : Option Addr) (c : Nat) (w : World) (h : RdPart w w.heap.size A ps) (hl : ps.length * 8 ≤ 140737488355328) :
    Calls Try.prog 26 #[.agg #[.string name, .int .i64 mem, .int .i64 F, .slice A ps.length c]] w (PlanPost w (planV F ps)) := by
  obtain ⟨W1, hW1⟩ : ∃ W1, W1 = w.alloc (.cells #[.string name, .int .i64 mem, .int .i64 F, .slice A ps.length c] 24) := ⟨_, rfl⟩
  have hB : Below w.heap.size w W1 := by rw [hW1]; exact (Below.refl _ w).alloc (Nat.le_refl _) _
  have hb0 : Blk W1 w.heap.size 24 #[.string name, .int .i64 mem, .int .i64 F, .slice A ps.length c] := by rw [hW1]; exact Blk.new w 24 _
  have hti := refTimes_c name mem F ps A c W1 (h.below hB) (by omega)
  have HW1 := Lib.hid hW1
  have H := Lib.hid h
  have HB := Lib.hid hB
  have Hb := Lib.hid hb0
  clear hW1 h hB hb0
  cases hT : timesV F ps with
  | false =>
    rw [hT] at hti
    have Hv := Lib.hid (show planV F ps = ([], [], 2) by simp [planV, hT])
    have Hti := Lib.hid hti
    clear hti hT
    go_enter Try.func26, Try.ntmps26
    go_wp2_with fail
    rw [← HW1.out]
    refine Hti.out.mono ?_
    rintro e W2 ⟨rfl, hb2⟩
    have hB2 := HB.out.trans (hb2.mono HB.out.size)
    clear Hti hb2
    go_wp2_with fail
    go_ret3
    rw [Hv.out]
    exact ⟨none, 0, none, 0, rfl, fun h => absurd h (by simp), fun h => absurd h (by simp), hB2⟩
  | true =>
    rw [hT] at hti
    have Hti := Lib.hid hti
    have HT := Lib.hid hT
    clear hti hT
    go_enter Try.func26, Try.ntmps26
    go_wp2_with fail
    rw [← HW1.out]
    refine Hti.out.mono ?_
    rintro e W2 ⟨rfl, hb2⟩
    have hB2 := HB.out.trans (hb2.mono HB.out.size)
    have hbx := Hb.out.below hb2 Hb.out.lt
    obtain ⟨W3, hW3⟩ : ∃ W3, W3 = W2.alloc (.cells #[.string name, .int .i64 mem, .int .i64 F, .slice A ps.length c, .int .i64 0] 81) := ⟨_, rfl⟩
    have hB23 : Below W2.heap.size W2 W3 := by rw [hW3]; exact (Below.refl _ _).alloc (Nat.le_refl _) _
    have hbs : Blk W3 W2.heap.size 81 #[.string name, .int .i64 mem, .int .i64 F, .slice A ps.length c, .int .i64 (0 : Nat)] := by rw [hW3]; exact Blk.new W2 81 _
    have hB3 := hB2.trans (hB23.mono hB2.size)
    have hp3 : RdPart W3 W2.heap.size A ps := (H.out.below hB2).keep hB23
    have htr := rtry_c name mem F A ps c HT.out ps.length [] none 0 0 W3 W2.heap.size (by simp) (by omega) hbs hp3 (fun h => absurd h (by simp))
    have q0 : W2.cell? ⟨w.heap.size, 0, none⟩ = some (.string name) := hbx.cell 0
    have q1 : W2.cell? ⟨w.heap.size, 1, none⟩ = some (.int .i64 mem) := hbx.cell 1
    have q2 : W2.cell? ⟨w.heap.size, 2, none⟩ = some (.int .i64 F) := hbx.cell 2
    have q3 : W2.cell? ⟨w.heap.size, 3, none⟩ = some (.slice A ps.length c) := hbx.cell 3
    have hwz : w.heap.size ≤ W2.heap.size := hB2.size
    have HB3 := Lib.hid hB3
    have HW3 := Lib.hid hW3
    have Htr := Lib.hid htr
    clear Hti hb2 Hb HB hbx HW1 hB2 hB23 hbs hB3 hp3 htr hW3
    go_wp2_with fail
    rw [← HW3.out]
    refine Htr.out.mono ?_
    rintro e W4 ⟨hgr, ⟨l, t', htr, ht', hbk, A', c', rfl, hc1, hc2, hrd⟩ | ⟨a, Aa, ca, t', htr, ht', hbk, rfl, hra⟩ | ⟨htr, hbk, rfl⟩⟩
    · have hB4 : Below w.heap.size w W4 := ((Gr.of_below (X := fun b => w.heap.size ≤ b) HB3.out).trans (hgr.mono fun k _ x => by have x : k = W2.heap.size := x; omega)).below0 fun k hk x => by omega
      have r4 : W4.cell? ⟨W2.heap.size, 4, none⟩ = some (.int .i64 (t' : Nat)) := hbk.cell 4
      have hdt : decide (((t' : Nat) : Int) > 65536) = false := decide_eq_false (by omega)
      have hdt2 : ¬ 65536 < t' := by omega
      have hrk : RdK W4 A' l := hrd.keep fun b ⟨_, o, g2, _⟩ => ⟨fun _ => rfl, (Array.getElem?_eq_some_iff.1 g2).1⟩
      have hsz := rsize_c (sizeL l + 1) l (by omega) A' c' W4 hrk (by unfold maxLen at hc2; omega)
      have hsl : sizeL l ≤ 65536 := by have := tryR_size ps _ _ _ _ _ htr; omega
      rw [IntWalk.i64_in (sizeL l : Int) (by omega)] at hsz
      have hv : planV F ps = if 16384 < sizeL l then ([], [], 5) else ([], l, 130) := by simp [planV, HT.out, htr]
      have Hv := Lib.hid hv
      have Hsz := Lib.hid hsz
      have Hrk := Lib.hid hrk
      clear htr hgr hbk hrd hrk hv hsz Htr HW3 q0 q1 q2 q3
      go_wp2_with fail
      refine Hsz.out.mono ?_
      rintro e W5 ⟨rfl, hb5⟩
      have hB5 := hB4.trans (hb5.mono hB4.size)
      have hrk5 := RdK.keep' hb5 Hrk.out
      have Hrk5 := Lib.hid hrk5
      clear Hsz hb5 hB4 Hrk r4 hrk5
      by_cases h16 : 16384 < sizeL l
      · have hd16 : decide (((sizeL l : Nat) : Int) > 16384) = true := decide_eq_true (by omega)
        have hv2 := Hv.out
        rw [if_pos h16] at hv2
        have Hv2 := Lib.hid hv2
        clear hv2 Hv hsl
        go_wp2_with fail
        go_ret3
        rw [Hv2.out]
        exact ⟨none, 0, none, 0, rfl, fun h => absurd h (by simp), fun h => absurd h (by simp), hB5⟩
      · have hd16 : decide (((sizeL l : Nat) : Int) > 16384) = false := decide_eq_false (by omega)
        have hv2 := Hv.out
        rw [if_neg h16] at hv2
        have Hv2 := Lib.hid hv2
        clear hv2 Hv hsl
        go_wp2_with fail
        go_ret3
        rw [Hv2.out]
        exact ⟨none, 0, A', c', rfl, fun h => absurd h (by simp), Hrk5.out, hB5⟩
    · have hB4 : Below w.heap.size w W4 := ((Gr.of_below (X := fun b => w.heap.size ≤ b) HB3.out).trans (hgr.mono fun k _ x => by have x : k = W2.heap.size := x; omega)).below0 fun k hk x => by omega
      have r4 : W4.cell? ⟨W2.heap.size, 4, none⟩ = some (.int .i64 (t' : Nat)) := hbk.cell 4
      have hdt : decide (((t' : Nat) : Int) > 65536) = false := decide_eq_false (by omega)
      have hdt2 : ¬ 65536 < t' := by omega
      have Hv := Lib.hid (show planV F ps = (a, [], 0) by simp [planV, HT.out, htr])
      have Hra := Lib.hid hra
      clear htr hgr hbk hra Htr HW3 q0 q1 q2 q3
      go_wp2_with fail
      go_ret3
      rw [Hv.out]
      exact ⟨Aa, ca, none, 0, rfl, Hra.out, fun h => absurd h (by simp), hB4⟩
    · have hB4 : Below w.heap.size w W4 := ((Gr.of_below (X := fun b => w.heap.size ≤ b) HB3.out).trans (hgr.mono fun k _ x => by have x : k = W2.heap.size := x; omega)).below0 fun k hk x => by omega
      have r4 : W4.cell? ⟨W2.heap.size, 4, none⟩ = some (.int .i64 65537) := hbk.cell 4
      have Hv := Lib.hid (show planV F ps = ([], [], 5) by simp [planV, HT.out, htr])
      clear htr hgr hbk Htr HW3 q0 q1 q2 q3
      go_wp2_with fail
      go_ret3
      rw [Hv.out]
      exact ⟨none, 0, none, 0, rfl, fun h => absurd h (by simp), fun h => absurd h (by simp), hB4⟩
end Go.Proofs.Ytlmbffnmjfbglab
