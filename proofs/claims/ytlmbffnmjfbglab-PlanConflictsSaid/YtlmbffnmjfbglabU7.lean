/- Check. -/
import Derived.Test.YtlmbffnmjfbglabU6
set_option linter.unusedSimpArgs false
set_option linter.unusedVariables false
namespace Go.Proofs.Ytlmbffnmjfbglab
open Go.ChangeShapes Go.WideShapes Go.ChangeAt Go.RowKit

/-- what Check returns. -/
def checkV (F : Int) (ps : List Part) (l : List Claim) : Bool := timesV F ps && (decide (IntKind.i64.wrap (sizeL l) ≤ 16384) && rightP ps [] l)

set_option maxRecDepth 100000 in
set_option maxHeartbeats 2000000 in
theorem check_c (name : ByteArray) (mem F : Int) (ps : List Part) (A : Option Addr) (c : Nat) (l : List Claim) (Ac : Option Addr) (cc : Nat) (w : World) (h : RdPart w w.heap.size A ps) (hk : RdK w Ac l) (hl : ps.length * 8 ≤ 140737488355328) (hll : l.length ≤ 9223372036854775807) :
    Calls Try.prog 19 #[.agg #[.string name, .int .i64 mem, .int .i64 F, .slice A ps.length c], .slice Ac l.length cc] w fun e w' => e = .returned (.bool (checkV F ps l)) ∧ Below w.heap.size w w' := by
  obtain ⟨W1, hW1⟩ : ∃ W1, W1 = w.alloc (.cells #[.string name, .int .i64 mem, .int .i64 F, .slice A ps.length c] 24) := ⟨_, rfl⟩
  have hB : Below w.heap.size w W1 := by rw [hW1]; exact (Below.refl _ w).alloc (Nat.le_refl _) _
  have hb0 : Blk W1 w.heap.size 24 #[.string name, .int .i64 mem, .int .i64 F, .slice A ps.length c] := by rw [hW1]; exact Blk.new w 24 _
  have hpt := ptimes_c name mem F ps A c W1 (h.below hB) hl
  rw [ptimes_iff] at hpt
  have hsz : ∀ W', Below W1.heap.size W1 W' → Calls Try.prog 32 #[.slice Ac l.length cc] W' fun e w' => e = .returned (.int .i64 (IntKind.i64.wrap (sizeL l))) ∧ Below W'.heap.size W' w' := fun W' hb => size_c (sizeL l + 1) l (by omega) Ac cc W' (RdK.keep' hb (RdK.keep' hB hk)) hll
  have hzw : w.heap.size < W1.heap.size := hb0.lt
  have Hpt := Lib.hid hpt
  have Hsz := Lib.hid hsz
  have HB := Lib.hid hB
  have Hb0 := Lib.hid hb0
  have H := Lib.hid h
  have HK := Lib.hid hk
  clear hpt hsz hB h hk hb0
  obtain ⟨z, hzz⟩ : ∃ z, z = IntKind.i64.wrap (sizeL l) := ⟨_, rfl⟩
  rw [← hzz] at Hsz
  have Hz := Lib.hid hzz
  clear hzz
  cases ht : timesV F ps with
  | false =>
    have Hv := Lib.hid (show checkV F ps l = false by simp [checkV, ht])
    rw [ht] at Hpt
    clear ht
    go_enter Try.func19, Try.ntmps19
    go_wp2_with fail
    rw [← hW1]
    refine Hpt.out.mono ?_
    rintro e W2 ⟨rfl, hb⟩
    have hB2 := HB.out.trans (hb.mono HB.out.size)
    clear hb
    go_wp2_with fail
    go_ret
    exact ⟨ret_bool Hv.out.symm, hB2⟩
  | true =>
    rw [ht] at Hpt
    have hT := timesV_ok ht
    have hPT : PT ps := ⟨hT.few, fun p hp => ⟨(hT.len p hp).1, (hT.len p hp).2, (hT.per p hp).2.1⟩⟩
    have HPT := Lib.hid hPT
    have Hv := Lib.hid (show checkV F ps l = (decide (z ≤ 16384) && rightP ps [] l) by simp [checkV, ht, Hz.out])
    clear hT hPT ht
    by_cases hz : z ≤ 16384
    · have hzd : decide (z ≤ 16384) = true := decide_eq_true hz
      have Hv2 := Lib.hid (show checkV F ps l = rightP ps [] l by rw [Hv.out, hzd]; rfl)
      clear Hv hz
      go_enter Try.func19, Try.ntmps19
      go_wp2_with fail
      rw [← hW1]
      refine Hpt.out.mono ?_
      rintro e W2 ⟨rfl, hb⟩
      have hc2 := Hsz.out W2 hb
      have HB2 := Lib.hid hb
      clear hb
      go_wp2_with fail
      refine hc2.mono ?_
      rintro e W3 ⟨rfl, hb3⟩
      have hb13 := HB2.out.trans (hb3.mono HB2.out.size)
      have hB3 := HB.out.trans (hb13.mono HB.out.size)
      have hbx := Hb0.out.below hb13 hzw
      have q0 : W3.cell? ⟨w.heap.size, 0, none⟩ = some (.string name) := hbx.cell 0
      have q1 : W3.cell? ⟨w.heap.size, 1, none⟩ = some (.int .i64 mem) := hbx.cell 1
      have q2 : W3.cell? ⟨w.heap.size, 2, none⟩ = some (.int .i64 F) := hbx.cell 2
      have q3 : W3.cell? ⟨w.heap.size, 3, none⟩ = some (.slice A ps.length c) := hbx.cell 3
      have hBa : Below W3.heap.size W3 (W3.alloc (.cells #[.string name, .int .i64 mem, .int .i64 F, .slice A ps.length c, .slice none 0 0, .int .i64 0] 67)) := (Below.refl _ _).alloc (Nat.le_refl _) _
      have hB4 := hB3.trans (hBa.mono hB3.size)
      have hSO : SO (W3.alloc (.cells #[.string name, .int .i64 mem, .int .i64 F, .slice A ps.length c, .slice none 0 0, .int .i64 0] 67)) W3.heap.size name mem F A ps c w.heap.size (.slice none 0 0) [] := by
        refine ⟨Blk.new _ _ _, fun hn => ?_, World.ownsRow_nil _ _ _ _, hB3.size, by simp [Value.ownBlock]⟩
        obtain ⟨b, o, e, hlt, hc⟩ := H.out hn
        exact ⟨b, o, e, hlt, fun i hi j v hv => (hB4.cell (p := ⟨b, o + i * 10 + j, none⟩) hlt).trans (hc i hi j v hv)⟩
      have hrc := right_c W3.heap.size name mem F A ps c w.heap.size HPT.out (sizeL l + 1) l (by omega) _ _ [] Ac cc hSO (by simp) (HK.out.keep fun b hb => ⟨fun _ => World.cell?_of_block (hB4.block b hb), hb⟩) hll
      have HS := Lib.hid hSO
      have H4 := Lib.hid hB4
      clear hc2 hb3 hb13 hbx hSO hB4 hBa hB3
      go_wp2_with fail
      refine hrc.mono ?_
      rintro e W5 ⟨rfl, V5, hRG, _⟩
      have hold := HS.out.old hRG
      have hBf : Below w.heap.size w W5 := H4.out.trans (hold.mono (Nat.le_refl _))
      generalize rightP ps [] l = q at *
      clear hrc hRG hold q0 q1 q2 q3
      go_wp2_with fail
      go_ret
      exact ⟨ret_bool Hv2.out.symm, hBf⟩
    · have hzd : decide (z ≤ 16384) = false := decide_eq_false hz
      have Hv2 := Lib.hid (show checkV F ps l = false by rw [Hv.out, hzd]; rfl)
      clear Hv hz
      go_enter Try.func19, Try.ntmps19
      go_wp2_with fail
      rw [← hW1]
      refine Hpt.out.mono ?_
      rintro e W2 ⟨rfl, hb⟩
      have hc2 := Hsz.out W2 hb
      have HB2 := Lib.hid hb
      clear hb
      go_wp2_with fail
      refine hc2.mono ?_
      rintro e W3 ⟨rfl, hb3⟩
      have hb13 := HB2.out.trans (hb3.mono HB2.out.size)
      have hB3 := HB.out.trans (hb13.mono HB.out.size)
      clear hc2 hb3 hb13
      go_wp2_with fail
      go_ret
      exact ⟨ret_bool Hv2.out.symm, hB3⟩
end Go.Proofs.Ytlmbffnmjfbglab
