/- A function that compares structs, at one datum read twice. Printed by wip/tools/gen/samestruct.py Module YtlmbffnmjfbglabDh. -/
import Derived.Test.YtlmbffnmjfbglabDh
set_option linter.unusedSimpArgs false
set_option linter.unusedVariables false
namespace Go.Proofs.Ytlmbffnmjfbglab
open Go.ChangeShapes Go.WideShapes Go.ChangeAt Go.RowKit Go.Deep

set_option maxRecDepth 100000 in
set_option maxHeartbeats 4000000 in
theorem sameModuleG_c (x0 : ByteArray) (x1 : Int) (x2 : Int) (v3 v3' : Value) (l3 : List (List G)) (w : World) (hc3 : G.cf KS KN (.sl 4) (.row 4 l3)) (h3 : G.rdW w v3 (.row 4 l3)) (h3' : G.rdW w v3' (.row 4 l3)) : Calls Try.prog 60 #[.agg #[.string x0, .int .i64 x1, .int .i64 x2, v3], .agg #[.string x0, .int .i64 x1, .int .i64 x2, v3']] w fun e w' => e = .returned (.bool true) ∧ Below w.heap.size w w' := by
  obtain ⟨A3, c3, rfl⟩ := rd_slice h3
  obtain ⟨A3', c3', rfl⟩ := rd_slice h3'
  obtain ⟨W0, hW0⟩ : ∃ W0, W0 = (w.alloc (.cells #[.string x0, .int .i64 x1, .int .i64 x2, .slice A3 l3.length c3] 24)).alloc (.cells #[.string x0, .int .i64 x1, .int .i64 x2, .slice A3' l3.length c3'] 24) := ⟨_, rfl⟩
  have hB0 : Below w.heap.size w W0 := by rw [hW0]; exact ((Below.refl _ w).alloc (Nat.le_refl _) _).alloc (by simp) _
  have hb0 : Blk W0 w.heap.size 24 #[.string x0, .int .i64 x1, .int .i64 x2, .slice A3 l3.length c3] := by rw [hW0]; exact (Blk.new w 24 _).alloc _
  have hr0 : Blk W0 (w.heap.size + 1) 24 #[.string x0, .int .i64 x1, .int .i64 x2, .slice A3' l3.length c3'] := by
    rw [hW0]
    have := Blk.new (w.alloc (.cells #[.string x0, .int .i64 x1, .int .i64 x2, .slice A3 l3.length c3] 24)) 24 #[.string x0, .int .i64 x1, .int .i64 x2, .slice A3' l3.length c3']
    simpa only [World.size_alloc] using this
  have e1 : (x1 == x1) = true := by simp
  have e2 : (x2 == x2) = true := by simp
  have e0' : (x0.toList == x0.toList) = true := by simp
  have H3 := Lib.hid h3
  have H3' := Lib.hid h3'
  have HC3 := Lib.hid hc3
  have HW0 := Lib.hid hW0
  have HB0 := Lib.hid hB0
  have Hb0 := Lib.hid hb0
  have Hr0 := Lib.hid hr0
  clear hW0 hB0 hb0 hr0 h3 h3' hc3
  go_enter Try.func60, Try.ntmps60
  go_wp2_with fail
  rw [← HW0.out]
  clear HW0
  refine (samePartsG_c l3 _ _ W0 HC3.out (H3.out.next HB0.out) (H3'.out.next HB0.out)).mono ?_
  rintro e W1 ⟨rfl, hb⟩
  have HB1 := Lib.hid (HB0.out.trans (hb.mono HB0.out.size))
  have Hb1 := Lib.hid (Hb0.out.below hb Hb0.out.lt)
  have Hr1 := Lib.hid (Hr0.out.below hb Hr0.out.lt)
  clear hb HB0 Hb0 Hr0
  go_wp2_with fail
  go_ret
  exact ⟨rfl, HB1.out⟩

end Go.Proofs.Ytlmbffnmjfbglab
