/- A function that compares structs, at one datum read twice. Printed by wip/tools/gen/samestruct.py Part YtlmbffnmjfbglabDf. -/
import Derived.Test.YtlmbffnmjfbglabDf
set_option linter.unusedSimpArgs false
set_option linter.unusedVariables false
namespace Go.Proofs.Ytlmbffnmjfbglab
open Go.ChangeShapes Go.WideShapes Go.ChangeAt Go.RowKit Go.Deep

set_option maxRecDepth 100000 in
set_option maxHeartbeats 4000000 in
theorem samePartG_c (x0 : ByteArray) (x1 : Int) (x2 : Int) (x3 : Int) (x5 : Int) (x6 : Int) (v4 v4' : Value) (l4 : List (List G)) (v7 v7' : Value) (l7 : List (List G)) (v8 v8' : Value) (l8 : List (List G)) (v9 v9' : Value) (l9 : List (List G)) (w : World) (hc4 : G.cf KS KN (.sl 0) (.row 0 l4)) (h4 : G.rdW w v4 (.row 0 l4)) (h4' : G.rdW w v4' (.row 0 l4)) (hc7 : G.cf KS KN (.sl 0) (.row 0 l7)) (h7 : G.rdW w v7 (.row 0 l7)) (h7' : G.rdW w v7' (.row 0 l7)) (hc8 : G.cf KS KN (.sl 2) (.row 2 l8)) (h8 : G.rdW w v8 (.row 2 l8)) (h8' : G.rdW w v8' (.row 2 l8)) (hc9 : G.cf KS KN (.sl 3) (.row 3 l9)) (h9 : G.rdW w v9 (.row 3 l9)) (h9' : G.rdW w v9' (.row 3 l9)) : Calls Try.prog 85 #[.agg #[.string x0, .int .i64 x1, .int .i64 x2, .int .i64 x3, v4, .int .i64 x5, .int .i64 x6, v7, v8, v9], .agg #[.string x0, .int .i64 x1, .int .i64 x2, .int .i64 x3, v4', .int .i64 x5, .int .i64 x6, v7', v8', v9']] w fun e w' => e = .returned (.bool true) ∧ Below w.heap.size w w' := by
  obtain ⟨A4, c4, rfl⟩ := rd_slice h4
  obtain ⟨A4', c4', rfl⟩ := rd_slice h4'
  obtain ⟨A7, c7, rfl⟩ := rd_slice h7
  obtain ⟨A7', c7', rfl⟩ := rd_slice h7'
  obtain ⟨A8, c8, rfl⟩ := rd_slice h8
  obtain ⟨A8', c8', rfl⟩ := rd_slice h8'
  obtain ⟨A9, c9, rfl⟩ := rd_slice h9
  obtain ⟨A9', c9', rfl⟩ := rd_slice h9'
  obtain ⟨W0, hW0⟩ : ∃ W0, W0 = (w.alloc (.cells #[.string x0, .int .i64 x1, .int .i64 x2, .int .i64 x3, .slice A4 l4.length c4, .int .i64 x5, .int .i64 x6, .slice A7 l7.length c7, .slice A8 l8.length c8, .slice A9 l9.length c9] 56)).alloc (.cells #[.string x0, .int .i64 x1, .int .i64 x2, .int .i64 x3, .slice A4' l4.length c4', .int .i64 x5, .int .i64 x6, .slice A7' l7.length c7', .slice A8' l8.length c8', .slice A9' l9.length c9'] 56) := ⟨_, rfl⟩
  have hB0 : Below w.heap.size w W0 := by rw [hW0]; exact ((Below.refl _ w).alloc (Nat.le_refl _) _).alloc (by simp) _
  have hb0 : Blk W0 w.heap.size 56 #[.string x0, .int .i64 x1, .int .i64 x2, .int .i64 x3, .slice A4 l4.length c4, .int .i64 x5, .int .i64 x6, .slice A7 l7.length c7, .slice A8 l8.length c8, .slice A9 l9.length c9] := by rw [hW0]; exact (Blk.new w 56 _).alloc _
  have hr0 : Blk W0 (w.heap.size + 1) 56 #[.string x0, .int .i64 x1, .int .i64 x2, .int .i64 x3, .slice A4' l4.length c4', .int .i64 x5, .int .i64 x6, .slice A7' l7.length c7', .slice A8' l8.length c8', .slice A9' l9.length c9'] := by
    rw [hW0]
    have := Blk.new (w.alloc (.cells #[.string x0, .int .i64 x1, .int .i64 x2, .int .i64 x3, .slice A4 l4.length c4, .int .i64 x5, .int .i64 x6, .slice A7 l7.length c7, .slice A8 l8.length c8, .slice A9 l9.length c9] 56)) 56 #[.string x0, .int .i64 x1, .int .i64 x2, .int .i64 x3, .slice A4' l4.length c4', .int .i64 x5, .int .i64 x6, .slice A7' l7.length c7', .slice A8' l8.length c8', .slice A9' l9.length c9']
    simpa only [World.size_alloc] using this
  have e1 : (x1 == x1) = true := by simp
  have e2 : (x2 == x2) = true := by simp
  have e3 : (x3 == x3) = true := by simp
  have e5 : (x5 == x5) = true := by simp
  have e6 : (x6 == x6) = true := by simp
  have e0' : (x0.toList == x0.toList) = true := by simp
  have H4 := Lib.hid h4
  have H4' := Lib.hid h4'
  have HC4 := Lib.hid hc4
  have H7 := Lib.hid h7
  have H7' := Lib.hid h7'
  have HC7 := Lib.hid hc7
  have H8 := Lib.hid h8
  have H8' := Lib.hid h8'
  have HC8 := Lib.hid hc8
  have H9 := Lib.hid h9
  have H9' := Lib.hid h9'
  have HC9 := Lib.hid hc9
  have HW0 := Lib.hid hW0
  have HB0 := Lib.hid hB0
  have Hb0 := Lib.hid hb0
  have Hr0 := Lib.hid hr0
  clear hW0 hB0 hb0 hr0 h4 h4' hc4 h7 h7' hc7 h8 h8' hc8 h9 h9' hc9
  go_enter Try.func85, Try.ntmps85
  go_wp2_with fail
  rw [← HW0.out]
  clear HW0
  refine (sameIntsG_c l4 _ _ W0 HC4.out (H4.out.next HB0.out) (H4'.out.next HB0.out)).mono ?_
  rintro e W1 ⟨rfl, hb⟩
  have HB1 := Lib.hid (HB0.out.trans (hb.mono HB0.out.size))
  have Hb1 := Lib.hid (Hb0.out.below hb Hb0.out.lt)
  have Hr1 := Lib.hid (Hr0.out.below hb Hr0.out.lt)
  clear hb HB0 Hb0 Hr0
  have q5 : W1.cell? ⟨w.heap.size, 5, none⟩ = some (.int .i64 x5) := Hb1.out.cell 5
  have r5 : W1.cell? ⟨w.heap.size + 1, 5, none⟩ = some (.int .i64 x5) := Hr1.out.cell 5
  have q6 : W1.cell? ⟨w.heap.size, 6, none⟩ = some (.int .i64 x6) := Hb1.out.cell 6
  have r6 : W1.cell? ⟨w.heap.size + 1, 6, none⟩ = some (.int .i64 x6) := Hr1.out.cell 6
  have q7 : W1.cell? ⟨w.heap.size, 7, none⟩ = some (.slice A7 l7.length c7) := Hb1.out.cell 7
  have r7 : W1.cell? ⟨w.heap.size + 1, 7, none⟩ = some (.slice A7' l7.length c7') := Hr1.out.cell 7
  go_wp2_with fail
  refine (sameIntsG_c l7 _ _ W1 HC7.out (H7.out.next HB1.out) (H7'.out.next HB1.out)).mono ?_
  rintro e W2 ⟨rfl, hb⟩
  have HB2 := Lib.hid (HB1.out.trans (hb.mono HB1.out.size))
  have Hb2 := Lib.hid (Hb1.out.below hb Hb1.out.lt)
  have Hr2 := Lib.hid (Hr1.out.below hb Hr1.out.lt)
  clear hb HB1 Hb1 Hr1
  have q8 : W2.cell? ⟨w.heap.size, 8, none⟩ = some (.slice A8 l8.length c8) := Hb2.out.cell 8
  have r8 : W2.cell? ⟨w.heap.size + 1, 8, none⟩ = some (.slice A8' l8.length c8') := Hr2.out.cell 8
  go_wp2_with fail
  refine (samePortsG_c l8 _ _ W2 HC8.out (H8.out.next HB2.out) (H8'.out.next HB2.out)).mono ?_
  rintro e W3 ⟨rfl, hb⟩
  have HB3 := Lib.hid (HB2.out.trans (hb.mono HB2.out.size))
  have Hb3 := Lib.hid (Hb2.out.below hb Hb2.out.lt)
  have Hr3 := Lib.hid (Hr2.out.below hb Hr2.out.lt)
  clear hb HB2 Hb2 Hr2
  have q9 : W3.cell? ⟨w.heap.size, 9, none⟩ = some (.slice A9 l9.length c9) := Hb3.out.cell 9
  have r9 : W3.cell? ⟨w.heap.size + 1, 9, none⟩ = some (.slice A9' l9.length c9') := Hr3.out.cell 9
  go_wp2_with fail
  refine (sameProcsG_c l9 _ _ W3 HC9.out (H9.out.next HB3.out) (H9'.out.next HB3.out)).mono ?_
  rintro e W4 ⟨rfl, hb⟩
  have HB4 := Lib.hid (HB3.out.trans (hb.mono HB3.out.size))
  have Hb4 := Lib.hid (Hb3.out.below hb Hb3.out.lt)
  have Hr4 := Lib.hid (Hr3.out.below hb Hr3.out.lt)
  clear hb HB3 Hb3 Hr3
  go_wp2_with fail
  go_ret
  exact ⟨rfl, HB4.out⟩

end Go.Proofs.Ytlmbffnmjfbglab
