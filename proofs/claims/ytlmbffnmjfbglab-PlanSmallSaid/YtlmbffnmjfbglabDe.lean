/- A function that compares structs, at one datum read twice. Printed by wip/tools/gen/samestruct.py Proc YtlmbffnmjfbglabDd. -/
import Derived.Test.YtlmbffnmjfbglabDd
set_option linter.unusedSimpArgs false
set_option linter.unusedVariables false
namespace Go.Proofs.Ytlmbffnmjfbglab
open Go.ChangeShapes Go.WideShapes Go.ChangeAt Go.RowKit Go.Deep

set_option maxRecDepth 100000 in
set_option maxHeartbeats 4000000 in
theorem sameProcG_c (x0 : ByteArray) (x1 : Int) (x2 : Int) (x3 : Int) (v4 v4' : Value) (l4 : List (List G)) (w : World) (hc4 : G.cf KS KN (.sl 1) (.row 1 l4)) (h4 : G.rdW w v4 (.row 1 l4)) (h4' : G.rdW w v4' (.row 1 l4)) : Calls Try.prog 111 #[.agg #[.string x0, .int .i64 x1, .int .i64 x2, .int .i64 x3, v4], .agg #[.string x0, .int .i64 x1, .int .i64 x2, .int .i64 x3, v4']] w fun e w' => e = .returned (.bool true) ∧ Below w.heap.size w w' := by
  obtain ⟨A4, c4, rfl⟩ := rd_slice h4
  obtain ⟨A4', c4', rfl⟩ := rd_slice h4'
  obtain ⟨W0, hW0⟩ : ∃ W0, W0 = (w.alloc (.cells #[.string x0, .int .i64 x1, .int .i64 x2, .int .i64 x3, .slice A4 l4.length c4] 132)).alloc (.cells #[.string x0, .int .i64 x1, .int .i64 x2, .int .i64 x3, .slice A4' l4.length c4'] 132) := ⟨_, rfl⟩
  have hB0 : Below w.heap.size w W0 := by rw [hW0]; exact ((Below.refl _ w).alloc (Nat.le_refl _) _).alloc (by simp) _
  have hb0 : Blk W0 w.heap.size 132 #[.string x0, .int .i64 x1, .int .i64 x2, .int .i64 x3, .slice A4 l4.length c4] := by rw [hW0]; exact (Blk.new w 132 _).alloc _
  have hr0 : Blk W0 (w.heap.size + 1) 132 #[.string x0, .int .i64 x1, .int .i64 x2, .int .i64 x3, .slice A4' l4.length c4'] := by
    rw [hW0]
    have := Blk.new (w.alloc (.cells #[.string x0, .int .i64 x1, .int .i64 x2, .int .i64 x3, .slice A4 l4.length c4] 132)) 132 #[.string x0, .int .i64 x1, .int .i64 x2, .int .i64 x3, .slice A4' l4.length c4']
    simpa only [World.size_alloc] using this
  have e1 : (x1 == x1) = true := by simp
  have e2 : (x2 == x2) = true := by simp
  have e3 : (x3 == x3) = true := by simp
  have e0' : (x0.toList == x0.toList) = true := by simp
  have H4 := Lib.hid h4
  have H4' := Lib.hid h4'
  have HC4 := Lib.hid hc4
  have HW0 := Lib.hid hW0
  have HB0 := Lib.hid hB0
  have Hb0 := Lib.hid hb0
  have Hr0 := Lib.hid hr0
  clear hW0 hB0 hb0 hr0 h4 h4' hc4
  go_enter Try.func111, Try.ntmps111
  go_wp2_with fail
  rw [← HW0.out]
  clear HW0
  refine (sameInssG_c l4 _ _ W0 HC4.out (H4.out.next HB0.out) (H4'.out.next HB0.out)).mono ?_
  rintro e W1 ⟨rfl, hb⟩
  have HB1 := Lib.hid (HB0.out.trans (hb.mono HB0.out.size))
  have Hb1 := Lib.hid (Hb0.out.below hb Hb0.out.lt)
  have Hr1 := Lib.hid (Hr0.out.below hb Hr0.out.lt)
  clear hb HB0 Hb0 Hr0
  go_wp2_with fail
  go_ret
  exact ⟨rfl, HB1.out⟩

end Go.Proofs.Ytlmbffnmjfbglab
