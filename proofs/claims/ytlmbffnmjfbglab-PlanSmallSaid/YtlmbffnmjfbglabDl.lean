/- A function that checks a lent struct. Printed by wip/tools/gen/keptstruct.py Part YtlmbffnmjfbglabDk. -/
import Derived.Test.YtlmbffnmjfbglabDk
set_option linter.unusedSimpArgs false
set_option linter.unusedVariables false
namespace Go.Proofs.Ytlmbffnmjfbglab
open Go.ChangeShapes Go.WideShapes Go.ChangeAt Go.RowKit Go.Deep

set_option maxRecDepth 100000 in
set_option maxHeartbeats 4000000 in
theorem keptPart_c (x0 : ByteArray) (x1 : Int) (x2 : Int) (x3 : Int) (x5 : Int) (x6 : Int) (V4 v4 : Value) (l4 : List (List G)) (V7 v7 : Value) (l7 : List (List G)) (V8 v8 : Value) (l8 : List (List G)) (V9 v9 : Value) (l9 : List (List G)) (w : World) (hc4 : G.cf KS KN (.sl 0) (.row 0 l4)) (hV4 : G.ldW KM w V4 (.row 0 l4)) (h4 : G.rdW w v4 (.row 0 l4)) (hc7 : G.cf KS KN (.sl 0) (.row 0 l7)) (hV7 : G.ldW KM w V7 (.row 0 l7)) (h7 : G.rdW w v7 (.row 0 l7)) (hc8 : G.cf KS KN (.sl 2) (.row 2 l8)) (hV8 : G.ldW KM w V8 (.row 2 l8)) (h8 : G.rdW w v8 (.row 2 l8)) (hc9 : G.cf KS KN (.sl 3) (.row 3 l9)) (hV9 : G.ldW KM w V9 (.row 3 l9)) (h9 : G.rdW w v9 (.row 3 l9)) : Calls Try.prog 84 #[.agg #[.string x0, .int .i64 x1, .int .i64 x2, .int .i64 x3, V4, .int .i64 x5, .int .i64 x6, V7, V8, V9], .agg #[.string x0, .int .i64 x1, .int .i64 x2, .int .i64 x3, v4, .int .i64 x5, .int .i64 x6, v7, v8, v9]] w fun e w' => e = .returned (.bool true) ∧ Below w.heap.size w w' := by
  obtain ⟨G4, C4, rfl⟩ := ld_slice hV4
  obtain ⟨A4, c4, rfl⟩ := rd_slice h4
  obtain ⟨G7, C7, rfl⟩ := ld_slice hV7
  obtain ⟨A7, c7, rfl⟩ := rd_slice h7
  obtain ⟨G8, C8, rfl⟩ := ld_slice hV8
  obtain ⟨A8, c8, rfl⟩ := rd_slice h8
  obtain ⟨G9, C9, rfl⟩ := ld_slice hV9
  obtain ⟨A9, c9, rfl⟩ := rd_slice h9
  obtain ⟨W0, hW0⟩ : ∃ W0, W0 = (w.alloc (.cells #[.string x0, .int .i64 x1, .int .i64 x2, .int .i64 x3, .slice (some ⟨G4, 0, none⟩) l4.length C4, .int .i64 x5, .int .i64 x6, .slice (some ⟨G7, 0, none⟩) l7.length C7, .slice (some ⟨G8, 0, none⟩) l8.length C8, .slice (some ⟨G9, 0, none⟩) l9.length C9] 56)).alloc (.cells #[.string x0, .int .i64 x1, .int .i64 x2, .int .i64 x3, .slice A4 l4.length c4, .int .i64 x5, .int .i64 x6, .slice A7 l7.length c7, .slice A8 l8.length c8, .slice A9 l9.length c9] 56) := ⟨_, rfl⟩
  have hB0 : Below w.heap.size w W0 := by rw [hW0]; exact ((Below.refl _ w).alloc (Nat.le_refl _) _).alloc (by simp) _
  have hb0 : Blk W0 w.heap.size 56 #[.string x0, .int .i64 x1, .int .i64 x2, .int .i64 x3, .slice (some ⟨G4, 0, none⟩) l4.length C4, .int .i64 x5, .int .i64 x6, .slice (some ⟨G7, 0, none⟩) l7.length C7, .slice (some ⟨G8, 0, none⟩) l8.length C8, .slice (some ⟨G9, 0, none⟩) l9.length C9] := by rw [hW0]; exact (Blk.new w 56 _).alloc _
  have hr0 : Blk W0 (w.heap.size + 1) 56 #[.string x0, .int .i64 x1, .int .i64 x2, .int .i64 x3, .slice A4 l4.length c4, .int .i64 x5, .int .i64 x6, .slice A7 l7.length c7, .slice A8 l8.length c8, .slice A9 l9.length c9] := by
    rw [hW0]
    have := Blk.new (w.alloc (.cells #[.string x0, .int .i64 x1, .int .i64 x2, .int .i64 x3, .slice (some ⟨G4, 0, none⟩) l4.length C4, .int .i64 x5, .int .i64 x6, .slice (some ⟨G7, 0, none⟩) l7.length C7, .slice (some ⟨G8, 0, none⟩) l8.length C8, .slice (some ⟨G9, 0, none⟩) l9.length C9] 56)) 56 #[.string x0, .int .i64 x1, .int .i64 x2, .int .i64 x3, .slice A4 l4.length c4, .int .i64 x5, .int .i64 x6, .slice A7 l7.length c7, .slice A8 l8.length c8, .slice A9 l9.length c9]
    simpa only [World.size_alloc] using this
  have H4 := Lib.hid h4
  have HV4 := Lib.hid hV4
  have HC4 := Lib.hid hc4
  have H7 := Lib.hid h7
  have HV7 := Lib.hid hV7
  have HC7 := Lib.hid hc7
  have H8 := Lib.hid h8
  have HV8 := Lib.hid hV8
  have HC8 := Lib.hid hc8
  have H9 := Lib.hid h9
  have HV9 := Lib.hid hV9
  have HC9 := Lib.hid hc9
  have HW0 := Lib.hid hW0
  have HB0 := Lib.hid hB0
  have Hb0 := Lib.hid hb0
  have Hr0 := Lib.hid hr0
  have q0 : W0.cell? ⟨w.heap.size, 0, none⟩ = some (.string x0) := hb0.cell 0
  have r0 : W0.cell? ⟨w.heap.size + 1, 0, none⟩ = some (.string x0) := hr0.cell 0
  have q1 : W0.cell? ⟨w.heap.size, 1, none⟩ = some (.int .i64 x1) := hb0.cell 1
  have r1 : W0.cell? ⟨w.heap.size + 1, 1, none⟩ = some (.int .i64 x1) := hr0.cell 1
  have q2 : W0.cell? ⟨w.heap.size, 2, none⟩ = some (.int .i64 x2) := hb0.cell 2
  have r2 : W0.cell? ⟨w.heap.size + 1, 2, none⟩ = some (.int .i64 x2) := hr0.cell 2
  have q3 : W0.cell? ⟨w.heap.size, 3, none⟩ = some (.int .i64 x3) := hb0.cell 3
  have r3 : W0.cell? ⟨w.heap.size + 1, 3, none⟩ = some (.int .i64 x3) := hr0.cell 3
  have q4 : W0.cell? ⟨w.heap.size, 4, none⟩ = some (.slice (some ⟨G4, 0, none⟩) l4.length C4) := hb0.cell 4
  have r4 : W0.cell? ⟨w.heap.size + 1, 4, none⟩ = some (.slice A4 l4.length c4) := hr0.cell 4
  have q5 : W0.cell? ⟨w.heap.size, 5, none⟩ = some (.int .i64 x5) := hb0.cell 5
  have r5 : W0.cell? ⟨w.heap.size + 1, 5, none⟩ = some (.int .i64 x5) := hr0.cell 5
  have q6 : W0.cell? ⟨w.heap.size, 6, none⟩ = some (.int .i64 x6) := hb0.cell 6
  have r6 : W0.cell? ⟨w.heap.size + 1, 6, none⟩ = some (.int .i64 x6) := hr0.cell 6
  have q7 : W0.cell? ⟨w.heap.size, 7, none⟩ = some (.slice (some ⟨G7, 0, none⟩) l7.length C7) := hb0.cell 7
  have r7 : W0.cell? ⟨w.heap.size + 1, 7, none⟩ = some (.slice A7 l7.length c7) := hr0.cell 7
  have q8 : W0.cell? ⟨w.heap.size, 8, none⟩ = some (.slice (some ⟨G8, 0, none⟩) l8.length C8) := hb0.cell 8
  have r8 : W0.cell? ⟨w.heap.size + 1, 8, none⟩ = some (.slice A8 l8.length c8) := hr0.cell 8
  have q9 : W0.cell? ⟨w.heap.size, 9, none⟩ = some (.slice (some ⟨G9, 0, none⟩) l9.length C9) := hb0.cell 9
  have r9 : W0.cell? ⟨w.heap.size + 1, 9, none⟩ = some (.slice A9 l9.length c9) := hr0.cell 9
  clear hW0 hB0 hb0 hr0 h4 hV4 hc4 h7 hV7 hc7 h8 hV8 hc8 h9 hV9 hc9
  go_enter Try.func84, Try.ntmps84
  go_wp2_with fail
  rw [← HW0.out]
  clear HW0
  go_wp2_with fail
  refine (samePartG_c x0 x1 x2 x3 x5 x6 _ _ l4 _ _ l7 _ _ l8 _ _ l9 W0 HC4.out (G.ld.rd _ _ (HV4.out.next HB0.out)) (H4.out.next HB0.out) HC7.out (G.ld.rd _ _ (HV7.out.next HB0.out)) (H7.out.next HB0.out) HC8.out (G.ld.rd _ _ (HV8.out.next HB0.out)) (H8.out.next HB0.out) HC9.out (G.ld.rd _ _ (HV9.out.next HB0.out)) (H9.out.next HB0.out)).mono ?_
  rintro e W1 ⟨rfl, hb⟩
  have HB1 := Lib.hid (HB0.out.trans (hb.mono HB0.out.size))
  have Hb1 := Lib.hid (Hb0.out.below hb Hb0.out.lt)
  have Hr1 := Lib.hid (Hr0.out.below hb Hr0.out.lt)
  clear hb HB0 Hb0 Hr0 q0 r0 q1 r1 q2 r2 q3 r3 q4 r4 q5 r5 q6 r6 q7 r7 q8 r8 q9 r9
  have q4 : W1.cell? ⟨w.heap.size, 4, none⟩ = some (.slice (some ⟨G4, 0, none⟩) l4.length C4) := Hb1.out.cell 4
  have r4 : W1.cell? ⟨w.heap.size + 1, 4, none⟩ = some (.slice A4 l4.length c4) := Hr1.out.cell 4
  go_wp2_with fail
  refine (keptInts_c l4 _ _ W1 HC4.out (HV4.out.next HB1.out) (H4.out.next HB1.out)).mono ?_
  rintro e W2 ⟨rfl, hb⟩
  have HB2 := Lib.hid (HB1.out.trans (hb.mono HB1.out.size))
  have Hb2 := Lib.hid (Hb1.out.below hb Hb1.out.lt)
  have Hr2 := Lib.hid (Hr1.out.below hb Hr1.out.lt)
  clear hb HB1 Hb1 Hr1 q4 r4
  have q7 : W2.cell? ⟨w.heap.size, 7, none⟩ = some (.slice (some ⟨G7, 0, none⟩) l7.length C7) := Hb2.out.cell 7
  have r7 : W2.cell? ⟨w.heap.size + 1, 7, none⟩ = some (.slice A7 l7.length c7) := Hr2.out.cell 7
  go_wp2_with fail
  refine (keptInts_c l7 _ _ W2 HC7.out (HV7.out.next HB2.out) (H7.out.next HB2.out)).mono ?_
  rintro e W3 ⟨rfl, hb⟩
  have HB3 := Lib.hid (HB2.out.trans (hb.mono HB2.out.size))
  have Hb3 := Lib.hid (Hb2.out.below hb Hb2.out.lt)
  have Hr3 := Lib.hid (Hr2.out.below hb Hr2.out.lt)
  clear hb HB2 Hb2 Hr2 q7 r7
  have q8 : W3.cell? ⟨w.heap.size, 8, none⟩ = some (.slice (some ⟨G8, 0, none⟩) l8.length C8) := Hb3.out.cell 8
  have r8 : W3.cell? ⟨w.heap.size + 1, 8, none⟩ = some (.slice A8 l8.length c8) := Hr3.out.cell 8
  go_wp2_with fail
  refine (keptPorts_c l8 _ _ W3 HC8.out (HV8.out.next HB3.out) (H8.out.next HB3.out)).mono ?_
  rintro e W4 ⟨rfl, hb⟩
  have HB4 := Lib.hid (HB3.out.trans (hb.mono HB3.out.size))
  have Hb4 := Lib.hid (Hb3.out.below hb Hb3.out.lt)
  have Hr4 := Lib.hid (Hr3.out.below hb Hr3.out.lt)
  clear hb HB3 Hb3 Hr3 q8 r8
  have q9 : W4.cell? ⟨w.heap.size, 9, none⟩ = some (.slice (some ⟨G9, 0, none⟩) l9.length C9) := Hb4.out.cell 9
  have r9 : W4.cell? ⟨w.heap.size + 1, 9, none⟩ = some (.slice A9 l9.length c9) := Hr4.out.cell 9
  go_wp2_with fail
  refine (keptProcs_c l9 _ _ W4 HC9.out (HV9.out.next HB4.out) (H9.out.next HB4.out)).mono ?_
  rintro e W5 ⟨rfl, hb⟩
  have HB5 := Lib.hid (HB4.out.trans (hb.mono HB4.out.size))
  have Hb5 := Lib.hid (Hb4.out.below hb Hb4.out.lt)
  have Hr5 := Lib.hid (Hr4.out.below hb Hr4.out.lt)
  clear hb HB4 Hb4 Hr4 q9 r9
  go_wp2_with fail
  go_ret
  exact ⟨rfl, HB5.out⟩

end Go.Proofs.Ytlmbffnmjfbglab
