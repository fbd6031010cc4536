/- A function that checks a lent struct. Printed by wip/tools/gen/keptstruct.py Proc YtlmbffnmjfbglabDi. -/
import Derived.Test.YtlmbffnmjfbglabDi
set_option linter.unusedSimpArgs false
set_option linter.unusedVariables false
namespace Go.Proofs.Ytlmbffnmjfbglab
open Go.ChangeShapes Go.WideShapes Go.ChangeAt Go.RowKit Go.Deep

set_option maxRecDepth 100000 in
set_option maxHeartbeats 4000000 in
theorem keptProc_c (x0 : ByteArray) (x1 : Int) (x2 : Int) (x3 : Int) (V4 v4 : Value) (l4 : List (List G)) (w : World) (hc4 : G.cf KS KN (.sl 1) (.row 1 l4)) (hV4 : G.ldW KM w V4 (.row 1 l4)) (h4 : G.rdW w v4 (.row 1 l4)) : Calls Try.prog 110 #[.agg #[.string x0, .int .i64 x1, .int .i64 x2, .int .i64 x3, V4], .agg #[.string x0, .int .i64 x1, .int .i64 x2, .int .i64 x3, v4]] w fun e w' => e = .returned (.bool true) ∧ Below w.heap.size w w' := by
  obtain ⟨G4, C4, rfl⟩ := ld_slice hV4
  obtain ⟨A4, c4, rfl⟩ := rd_slice h4
  obtain ⟨W0, hW0⟩ : ∃ W0, W0 = (w.alloc (.cells #[.string x0, .int .i64 x1, .int .i64 x2, .int .i64 x3, .slice (some ⟨G4, 0, none⟩) l4.length C4] 132)).alloc (.cells #[.string x0, .int .i64 x1, .int .i64 x2, .int .i64 x3, .slice A4 l4.length c4] 132) := ⟨_, rfl⟩
  have hB0 : Below w.heap.size w W0 := by rw [hW0]; exact ((Below.refl _ w).alloc (Nat.le_refl _) _).alloc (by simp) _
  have hb0 : Blk W0 w.heap.size 132 #[.string x0, .int .i64 x1, .int .i64 x2, .int .i64 x3, .slice (some ⟨G4, 0, none⟩) l4.length C4] := by rw [hW0]; exact (Blk.new w 132 _).alloc _
  have hr0 : Blk W0 (w.heap.size + 1) 132 #[.string x0, .int .i64 x1, .int .i64 x2, .int .i64 x3, .slice A4 l4.length c4] := by
    rw [hW0]
    have := Blk.new (w.alloc (.cells #[.string x0, .int .i64 x1, .int .i64 x2, .int .i64 x3, .slice (some ⟨G4, 0, none⟩) l4.length C4] 132)) 132 #[.string x0, .int .i64 x1, .int .i64 x2, .int .i64 x3, .slice A4 l4.length c4]
    simpa only [World.size_alloc] using this
  have H4 := Lib.hid h4
  have HV4 := Lib.hid hV4
  have HC4 := Lib.hid hc4
  have HW0 := Lib.hid hW0
  have HB0 := Lib.hid hB0
  have Hb0 := Lib.hid hb0
  have Hr0 := Lib.hid hr0
  have q0 : W0.cell? ⟨w.heap.size, 0, none⟩ = some (.string x0) := hb0.cell 0
  have r0 : W0.cell? ⟨w.heap.size + 1, 0, none⟩ = some (.string x0) := hr0.cell 0
  have q1 : W0.cell? ⟨w.heap.size, 1, none⟩ = some (.int .i64 x1) := hb0.cell 1
  have r1 : W0.cell? ⟨w.heap.size + 1, 1, none⟩ = some (.int .i64 x1) := hr0.cell 1
  have q2 : W0.cell? ⟨w.heap.size, 2, none⟩ = some (.int .i64 x2) := hb0.cell 2
  have r2 : W0.cell? ⟨w.heap.size + 1, 2, none⟩ = some (.int .i64 x2) := hr0.cell 2
  have q3 : W0.cell? ⟨w.heap.size, 3, none⟩ = some (.int .i64 x3) := hb0.cell 3
  have r3 : W0.cell? ⟨w.heap.size + 1, 3, none⟩ = some (.int .i64 x3) := hr0.cell 3
  have q4 : W0.cell? ⟨w.heap.size, 4, none⟩ = some (.slice (some ⟨G4, 0, none⟩) l4.length C4) := hb0.cell 4
  have r4 : W0.cell? ⟨w.heap.size + 1, 4, none⟩ = some (.slice A4 l4.length c4) := hr0.cell 4
  clear hW0 hB0 hb0 hr0 h4 hV4 hc4
  go_enter Try.func110, Try.ntmps110
  go_wp2_with fail
  rw [← HW0.out]
  clear HW0
  go_wp2_with fail
  refine (sameProcG_c x0 x1 x2 x3 _ _ l4 W0 HC4.out (G.ld.rd _ _ (HV4.out.next HB0.out)) (H4.out.next HB0.out)).mono ?_
  rintro e W1 ⟨rfl, hb⟩
  have HB1 := Lib.hid (HB0.out.trans (hb.mono HB0.out.size))
  have Hb1 := Lib.hid (Hb0.out.below hb Hb0.out.lt)
  have Hr1 := Lib.hid (Hr0.out.below hb Hr0.out.lt)
  clear hb HB0 Hb0 Hr0 q0 r0 q1 r1 q2 r2 q3 r3 q4 r4
  have q4 : W1.cell? ⟨w.heap.size, 4, none⟩ = some (.slice (some ⟨G4, 0, none⟩) l4.length C4) := Hb1.out.cell 4
  have r4 : W1.cell? ⟨w.heap.size + 1, 4, none⟩ = some (.slice A4 l4.length c4) := Hr1.out.cell 4
  go_wp2_with fail
  refine (keptInss_c l4 _ _ W1 HC4.out (HV4.out.next HB1.out) (H4.out.next HB1.out)).mono ?_
  rintro e W2 ⟨rfl, hb⟩
  have HB2 := Lib.hid (HB1.out.trans (hb.mono HB1.out.size))
  have Hb2 := Lib.hid (Hb1.out.below hb Hb1.out.lt)
  have Hr2 := Lib.hid (Hr1.out.below hb Hr1.out.lt)
  clear hb HB1 Hb1 Hr1 q4 r4
  go_wp2_with fail
  go_ret
  exact ⟨rfl, HB2.out⟩

end Go.Proofs.Ytlmbffnmjfbglab
