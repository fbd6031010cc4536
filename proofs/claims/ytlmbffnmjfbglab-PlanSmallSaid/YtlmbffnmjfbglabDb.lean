/- Functions that lend a struct. Printed by wip/tools/gen/lentstruct.py Module YtlmbffnmjfbglabDa. -/
import Derived.Test.YtlmbffnmjfbglabDa
set_option linter.unusedSimpArgs false
set_option linter.unusedVariables false
namespace Go.Proofs.Ytlmbffnmjfbglab
open Go.ChangeShapes Go.WideShapes Go.ChangeAt Go.RowKit Go.Deep

set_option maxRecDepth 100000 in
set_option maxHeartbeats 4000000 in
theorem lentModule_c (x0 : ByteArray) (x1 : Int) (x2 : Int) (v3 : Value) (l3 : List (List G)) (w : World) (hc3 : G.cf KS KN (.sl 4) (.row 4 l3)) (h3 : G.rdW w v3 (.row 4 l3)) : Calls Try.prog 33 #[.agg #[.string x0, .int .i64 x1, .int .i64 x2, v3]] w fun e w' => ∃ V3, e = .returned (.agg #[.string x0, .int .i64 x1, .int .i64 x2, V3]) ∧ G.ld KM w' (MadeQ w.heap.size w') V3 (.row 4 l3) ∧ Below w.heap.size w w' := by
  obtain ⟨A3, c3, rfl⟩ := rd_slice h3
  obtain ⟨W1, hW1⟩ : ∃ W1, W1 = (w.alloc (.cells #[.string x0, .int .i64 x1, .int .i64 x2, (.slice A3 l3.length c3)] 24)).alloc (.cells #[.string ⟨#[]⟩, .int .i64 0, .int .i64 0, .slice none 0 0] 24) := ⟨_, rfl⟩
  have hB1 : Below w.heap.size w W1 := by rw [hW1]; exact ((Below.refl _ w).alloc (Nat.le_refl _) _).alloc (by simp) _
  have hb1 : Blk W1 w.heap.size 24 #[.string x0, .int .i64 x1, .int .i64 x2, (.slice A3 l3.length c3)] := by rw [hW1]; exact (Blk.new w 24 _).alloc _
  have hr1 : Blk W1 (w.heap.size + 1) 24 #[.string ⟨#[]⟩, .int .i64 0, .int .i64 0, .slice none 0 0] := by
    rw [hW1]
    have := Blk.new (w.alloc (.cells #[.string x0, .int .i64 x1, .int .i64 x2, (.slice A3 l3.length c3)] 24)) 24 #[.string ⟨#[]⟩, .int .i64 0, .int .i64 0, .slice none 0 0]
    simpa only [World.size_alloc] using this
  have HW1 := Lib.hid hW1
  have HB1 := Lib.hid hB1
  have Hb1 := Lib.hid hb1
  have Hr1 := Lib.hid hr1
  have H3 := Lib.hid h3
  have HC3 := Lib.hid hc3
  clear hW1 hB1 hb1 hr1 h3 hc3
  go_enter Try.func33, Try.ntmps33
  go_wp2_with fail
  rw [← HW1.out]
  clear HW1
  have q3 : W1.cell? ⟨w.heap.size, 3, none⟩ = some ((.slice A3 l3.length c3)) := Hb1.out.cell 3
  go_wp2_with fail
  refine (lentParts_c l3 (.slice A3 l3.length c3) W1 HC3.out (H3.out.next HB1.out)).mono ?_
  rintro e W2 ⟨V', rfl, hld3, hb⟩
  obtain ⟨G3, C3, rfl⟩ := ld_slice hld3
  have hz := Hr1.out.lt
  have HB2 := Lib.hid (HB1.out.trans (hb.mono HB1.out.size))
  have Hb2 := Lib.hid (Hb1.out.below hb Hb1.out.lt)
  have Hr2 := Lib.hid (Hr1.out.below hb Hr1.out.lt)
  have HL3 := Lib.hid (G.ld.keep (Q' := MadeQ (w.heap.size + 2) W2) (fun b ⟨p1, p2⟩ => ⟨fun _ => rfl, by omega, p2⟩) _ _ hld3)
  have f3 := Hb2.out.frozen 3
  clear hb hld3 HB1 Hb1 Hr1 hz q3
  have q0 : W2.cell? ⟨w.heap.size, 0, none⟩ = some (.string x0) := Hb2.out.cell 0
  have q1 : W2.cell? ⟨w.heap.size, 1, none⟩ = some (.int .i64 x1) := Hb2.out.cell 1
  have q2 : W2.cell? ⟨w.heap.size, 2, none⟩ = some (.int .i64 x2) := Hb2.out.cell 2
  have q3 : W2.cell? ⟨w.heap.size, 3, none⟩ = some ((.slice A3 l3.length c3)) := Hb2.out.cell 3
  have p0 : W2.cell? ⟨w.heap.size + 1, 0, none⟩ = some (.string ⟨#[]⟩) := Hr2.out.cell 0
  have p1 : W2.cell? ⟨w.heap.size + 1, 1, none⟩ = some (.int .i64 0) := Hr2.out.cell 1
  have p2 : W2.cell? ⟨w.heap.size + 1, 2, none⟩ = some (.int .i64 0) := Hr2.out.cell 2
  have p3 : W2.cell? ⟨w.heap.size + 1, 3, none⟩ = some (.slice none 0 0) := Hr2.out.cell 3
  have g0 := Hr2.out.frozen 0
  have g1 := Hr2.out.frozen 1
  have g2 := Hr2.out.frozen 2
  have g3 := Hr2.out.frozen 3
  go_wp2_with fail
  obtain ⟨W, hW⟩ : ∃ W, W = (((((W2.setCell ⟨w.heap.size, 3, none⟩ (.slice (some ⟨G3, 0, none⟩) l3.length C3)).setCell ⟨w.heap.size + 1, 0, none⟩ (.string x0)).setCell ⟨w.heap.size + 1, 1, none⟩ (.int .i64 x1)).setCell ⟨w.heap.size + 1, 2, none⟩ (.int .i64 x2)).setCell ⟨w.heap.size + 1, 3, none⟩ ((.slice (some ⟨G3, 0, none⟩) l3.length C3))) := ⟨_, rfl⟩
  have hgr : Gr (fun b => b = w.heap.size ∨ b = w.heap.size + 1) W2 W := by rw [hW]; exact ((((Gr.setCell _ _ _ (by simp)).trans (Gr.setCell _ _ _ (by simp))).trans (Gr.setCell _ _ _ (by simp))).trans (Gr.setCell _ _ _ (by simp))).trans (Gr.setCell _ _ _ (by simp))
  have hr : Blk W (w.heap.size + 1) 24 #[.string x0, .int .i64 x1, .int .i64 x2, (.slice (some ⟨G3, 0, none⟩) l3.length C3)] := by
    rw [hW]
    have s0 : Blk (W2.setCell ⟨w.heap.size, 3, none⟩ (.slice (some ⟨G3, 0, none⟩) l3.length C3)) (w.heap.size + 1) 24 #[.string ⟨#[]⟩, .int .i64 0, .int .i64 0, .slice none 0 0] := Hr2.out.far (p := ⟨w.heap.size, 3, none⟩) (by simp) _
    have s1 : Blk _ (w.heap.size + 1) 24 #[.string x0, .int .i64 0, .int .i64 0, .slice none 0 0] := s0.set_ 0 (.string x0)
    have s2 : Blk _ (w.heap.size + 1) 24 #[.string x0, .int .i64 x1, .int .i64 0, .slice none 0 0] := s1.set_ 1 (.int .i64 x1)
    have s3 : Blk _ (w.heap.size + 1) 24 #[.string x0, .int .i64 x1, .int .i64 x2, .slice none 0 0] := s2.set_ 2 (.int .i64 x2)
    have s4 : Blk _ (w.heap.size + 1) 24 #[.string x0, .int .i64 x1, .int .i64 x2, (.slice (some ⟨G3, 0, none⟩) l3.length C3)] := s3.set_ 3 ((.slice (some ⟨G3, 0, none⟩) l3.length C3))
    exact s4
  rw [← hW]
  clear hW
  have hB : Below w.heap.size w W := ((Gr.of_below (X := fun b => w.heap.size ≤ b) HB2.out).trans (hgr.mono fun k _ x => by rcases x with x | x <;> omega)).below0 fun k hk x => by omega
  have r0 : W.cell? ⟨w.heap.size + 1, 0, none⟩ = some (.string x0) := hr.cell 0
  have r1 : W.cell? ⟨w.heap.size + 1, 1, none⟩ = some (.int .i64 x1) := hr.cell 1
  have r2 : W.cell? ⟨w.heap.size + 1, 2, none⟩ = some (.int .i64 x2) := hr.cell 2
  have r3 : W.cell? ⟨w.heap.size + 1, 3, none⟩ = some ((.slice (some ⟨G3, 0, none⟩) l3.length C3)) := hr.cell 3
  have hk : ∀ b, MadeQ (w.heap.size + 2) W2 b → (∀ o, W.cell? ⟨b, o, none⟩ = W2.cell? ⟨b, o, none⟩) ∧ MadeQ w.heap.size W b := fun b ⟨p1, o, p2, p3⟩ => by
    have e := hgr.block b (Array.getElem?_eq_some_iff.1 p2).1 (by omega)
    exact ⟨fun _ => World.cell?_of_block e, by omega, o, e.trans p2, p3⟩
  refine bodyPost_ret (v := .agg #[.string x0, .int .i64 x1, .int .i64 x2, (.slice (some ⟨G3, 0, none⟩) l3.length C3)]) (by simp [results, Try.results33, go_sem, r0, r1, r2, r3]) rfl ⟨_, rfl, HL3.out.keep hk _ _, hB⟩

end Go.Proofs.Ytlmbffnmjfbglab
