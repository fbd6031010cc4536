/- A function that checks a lent struct. Printed by wip/tools/gen/keptstruct.py Module YtlmbffnmjfbglabDm. -/
import Derived.Test.YtlmbffnmjfbglabDm
set_option linter.unusedSimpArgs false
set_option linter.unusedVariables false
namespace Go.Proofs.Ytlmbffnmjfbglab
open Go.ChangeShapes Go.WideShapes Go.ChangeAt Go.RowKit Go.Deep

set_option maxRecDepth 100000 in
set_option maxHeartbeats 4000000 in
theorem keptModule_c (x0 : ByteArray) (x1 : Int) (x2 : Int) (V3 v3 : Value) (l3 : List (List G)) (w : World) (hc3 : G.cf KS KN (.sl 4) (.row 4 l3)) (hV3 : G.ldW KM w V3 (.row 4 l3)) (h3 : G.rdW w v3 (.row 4 l3)) : Calls Try.prog 34 #[.agg #[.string x0, .int .i64 x1, .int .i64 x2, V3], .agg #[.string x0, .int .i64 x1, .int .i64 x2, v3]] w fun e w' => e = .returned (.bool true) ∧ Below w.heap.size w w' := by
  obtain ⟨G3, C3, rfl⟩ := ld_slice hV3
  obtain ⟨A3, c3, rfl⟩ := rd_slice h3
  obtain ⟨W0, hW0⟩ : ∃ W0, W0 = (w.alloc (.cells #[.string x0, .int .i64 x1, .int .i64 x2, .slice (some ⟨G3, 0, none⟩) l3.length C3] 24)).alloc (.cells #[.string x0, .int .i64 x1, .int .i64 x2, .slice A3 l3.length c3] 24) := ⟨_, rfl⟩
  have hB0 : Below w.heap.size w W0 := by rw [hW0]; exact ((Below.refl _ w).alloc (Nat.le_refl _) _).alloc (by simp) _
  have hb0 : Blk W0 w.heap.size 24 #[.string x0, .int .i64 x1, .int .i64 x2, .slice (some ⟨G3, 0, none⟩) l3.length C3] := by rw [hW0]; exact (Blk.new w 24 _).alloc _
  have hr0 : Blk W0 (w.heap.size + 1) 24 #[.string x0, .int .i64 x1, .int .i64 x2, .slice A3 l3.length c3] := by
    rw [hW0]
    have := Blk.new (w.alloc (.cells #[.string x0, .int .i64 x1, .int .i64 x2, .slice (some ⟨G3, 0, none⟩) l3.length C3] 24)) 24 #[.string x0, .int .i64 x1, .int .i64 x2, .slice A3 l3.length c3]
    simpa only [World.size_alloc] using this
  have H3 := Lib.hid h3
  have HV3 := Lib.hid hV3
  have HC3 := Lib.hid hc3
  have HW0 := Lib.hid hW0
  have HB0 := Lib.hid hB0
  have Hb0 := Lib.hid hb0
  have Hr0 := Lib.hid hr0
  have q0 : W0.cell? ⟨w.heap.size, 0, none⟩ = some (.string x0) := hb0.cell 0
  have r0 : W0.cell? ⟨w.heap.size + 1, 0, none⟩ = some (.string x0) := hr0.cell 0
  have q1 : W0.cell? ⟨w.heap.size, 1, none⟩ = some (.int .i64 x1) := hb0.cell 1
  have r1 : W0.cell? ⟨w.heap.size + 1, 1, none⟩ = some (.int .i64 x1) := hr0.cell 1
  have q2 : W0.cell? ⟨w.heap.size, 2, none⟩ = some (.int .i64 x2) := hb0.cell 2
  have r2 : W0.cell? ⟨w.heap.size + 1, 2, none⟩ = some (.int .i64 x2) := hr0.cell 2
  have q3 : W0.cell? ⟨w.heap.size, 3, none⟩ = some (.slice (some ⟨G3, 0, none⟩) l3.length C3) := hb0.cell 3
  have r3 : W0.cell? ⟨w.heap.size + 1, 3, none⟩ = some (.slice A3 l3.length c3) := hr0.cell 3
  clear hW0 hB0 hb0 hr0 h3 hV3 hc3
  go_enter Try.func34, Try.ntmps34
  go_wp2_with fail
  rw [← HW0.out]
  clear HW0
  go_wp2_with fail
  refine (sameModuleG_c x0 x1 x2 _ _ l3 W0 HC3.out (G.ld.rd _ _ (HV3.out.next HB0.out)) (H3.out.next HB0.out)).mono ?_
  rintro e W1 ⟨rfl, hb⟩
  have HB1 := Lib.hid (HB0.out.trans (hb.mono HB0.out.size))
  have Hb1 := Lib.hid (Hb0.out.below hb Hb0.out.lt)
  have Hr1 := Lib.hid (Hr0.out.below hb Hr0.out.lt)
  clear hb HB0 Hb0 Hr0 q0 r0 q1 r1 q2 r2 q3 r3
  have q3 : W1.cell? ⟨w.heap.size, 3, none⟩ = some (.slice (some ⟨G3, 0, none⟩) l3.length C3) := Hb1.out.cell 3
  have r3 : W1.cell? ⟨w.heap.size + 1, 3, none⟩ = some (.slice A3 l3.length c3) := Hr1.out.cell 3
  go_wp2_with fail
  refine (keptParts_c l3 _ _ W1 HC3.out (HV3.out.next HB1.out) (H3.out.next HB1.out)).mono ?_
  rintro e W2 ⟨rfl, hb⟩
  have HB2 := Lib.hid (HB1.out.trans (hb.mono HB1.out.size))
  have Hb2 := Lib.hid (Hb1.out.below hb Hb1.out.lt)
  have Hr2 := Lib.hid (Hr1.out.below hb Hr1.out.lt)
  clear hb HB1 Hb1 Hr1 q3 r3
  go_wp2_with fail
  go_ret
  exact ⟨rfl, HB2.out⟩

end Go.Proofs.Ytlmbffnmjfbglab
