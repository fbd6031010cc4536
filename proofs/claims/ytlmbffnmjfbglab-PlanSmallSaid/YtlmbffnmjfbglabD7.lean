/- Functions that lend a struct. Printed by wip/tools/gen/lentstruct.py Proc YtlmbffnmjfbglabD6. -/
import Derived.Test.YtlmbffnmjfbglabD6
set_option linter.unusedSimpArgs false
set_option linter.unusedVariables false
namespace Go.Proofs.Ytlmbffnmjfbglab
open Go.ChangeShapes Go.WideShapes Go.ChangeAt Go.RowKit Go.Deep
theorem ld_slice {mk : Nat → Nat → List Value} {W : World} {Q : Nat → Prop} {V : Value} {t : Nat} {l : List (List G)} (h : G.ld mk W Q V (.row t l)) : ∃ g c, V = .slice (some ⟨g, 0, none⟩) l.length c := by
  simp only [G.ld] at h
  obtain ⟨g, c, h, _⟩ := h
  exact ⟨g, c, h⟩
theorem rd_slice {W : World} {Q : Nat → Prop} {V : Value} {t : Nat} {l : List (List G)} (h : G.rd W Q V (.row t l)) : ∃ A c, V = .slice A l.length c := by
  simp only [G.rd] at h
  obtain ⟨A, c, h, _⟩ := h
  exact ⟨A, c, h⟩

set_option maxRecDepth 100000 in
set_option maxHeartbeats 4000000 in
theorem lentProc_c (x0 : ByteArray) (x1 : Int) (x2 : Int) (x3 : Int) (v4 : Value) (l4 : List (List G)) (w : World) (hc4 : G.cf KS KN (.sl 1) (.row 1 l4)) (h4 : G.rdW w v4 (.row 1 l4)) : Calls Try.prog 108 #[.agg #[.string x0, .int .i64 x1, .int .i64 x2, .int .i64 x3, v4]] w fun e w' => ∃ V4, e = .returned (.agg #[.string x0, .int .i64 x1, .int .i64 x2, .int .i64 x3, V4]) ∧ G.ld KM w' (MadeQ w.heap.size w') V4 (.row 1 l4) ∧ Below w.heap.size w w' := by
  obtain ⟨A4, c4, rfl⟩ := rd_slice h4
  obtain ⟨W1, hW1⟩ : ∃ W1, W1 = (w.alloc (.cells #[.string x0, .int .i64 x1, .int .i64 x2, .int .i64 x3, (.slice A4 l4.length c4)] 132)).alloc (.cells #[.string ⟨#[]⟩, .int .i64 0, .int .i64 0, .int .i64 0, .slice none 0 0] 132) := ⟨_, rfl⟩
  have hB1 : Below w.heap.size w W1 := by rw [hW1]; exact ((Below.refl _ w).alloc (Nat.le_refl _) _).alloc (by simp) _
  have hb1 : Blk W1 w.heap.size 132 #[.string x0, .int .i64 x1, .int .i64 x2, .int .i64 x3, (.slice A4 l4.length c4)] := by rw [hW1]; exact (Blk.new w 132 _).alloc _
  have hr1 : Blk W1 (w.heap.size + 1) 132 #[.string ⟨#[]⟩, .int .i64 0, .int .i64 0, .int .i64 0, .slice none 0 0] := by
    rw [hW1]
    have := Blk.new (w.alloc (.cells #[.string x0, .int .i64 x1, .int .i64 x2, .int .i64 x3, (.slice A4 l4.length c4)] 132)) 132 #[.string ⟨#[]⟩, .int .i64 0, .int .i64 0, .int .i64 0, .slice none 0 0]
    simpa only [World.size_alloc] using this
  have HW1 := Lib.hid hW1
  have HB1 := Lib.hid hB1
  have Hb1 := Lib.hid hb1
  have Hr1 := Lib.hid hr1
  have H4 := Lib.hid h4
  have HC4 := Lib.hid hc4
  clear hW1 hB1 hb1 hr1 h4 hc4
  go_enter Try.func108, Try.ntmps108
  go_wp2_with fail
  rw [← HW1.out]
  clear HW1
  have q4 : W1.cell? ⟨w.heap.size, 4, none⟩ = some ((.slice A4 l4.length c4)) := Hb1.out.cell 4
  go_wp2_with fail
  refine (lentInss_c l4 (.slice A4 l4.length c4) W1 HC4.out (H4.out.next HB1.out)).mono ?_
  rintro e W2 ⟨V', rfl, hld4, hb⟩
  obtain ⟨G4, C4, rfl⟩ := ld_slice hld4
  have hz := Hr1.out.lt
  have HB2 := Lib.hid (HB1.out.trans (hb.mono HB1.out.size))
  have Hb2 := Lib.hid (Hb1.out.below hb Hb1.out.lt)
  have Hr2 := Lib.hid (Hr1.out.below hb Hr1.out.lt)
  have HL4 := Lib.hid (G.ld.keep (Q' := MadeQ (w.heap.size + 2) W2) (fun b ⟨p1, p2⟩ => ⟨fun _ => rfl, by omega, p2⟩) _ _ hld4)
  have f4 := Hb2.out.frozen 4
  clear hb hld4 HB1 Hb1 Hr1 hz q4
  have q0 : W2.cell? ⟨w.heap.size, 0, none⟩ = some (.string x0) := Hb2.out.cell 0
  have q1 : W2.cell? ⟨w.heap.size, 1, none⟩ = some (.int .i64 x1) := Hb2.out.cell 1
  have q2 : W2.cell? ⟨w.heap.size, 2, none⟩ = some (.int .i64 x2) := Hb2.out.cell 2
  have q3 : W2.cell? ⟨w.heap.size, 3, none⟩ = some (.int .i64 x3) := Hb2.out.cell 3
  have q4 : W2.cell? ⟨w.heap.size, 4, none⟩ = some ((.slice A4 l4.length c4)) := Hb2.out.cell 4
  have p0 : W2.cell? ⟨w.heap.size + 1, 0, none⟩ = some (.string ⟨#[]⟩) := Hr2.out.cell 0
  have p1 : W2.cell? ⟨w.heap.size + 1, 1, none⟩ = some (.int .i64 0) := Hr2.out.cell 1
  have p2 : W2.cell? ⟨w.heap.size + 1, 2, none⟩ = some (.int .i64 0) := Hr2.out.cell 2
  have p3 : W2.cell? ⟨w.heap.size + 1, 3, none⟩ = some (.int .i64 0) := Hr2.out.cell 3
  have p4 : W2.cell? ⟨w.heap.size + 1, 4, none⟩ = some (.slice none 0 0) := Hr2.out.cell 4
  have g0 := Hr2.out.frozen 0
  have g1 := Hr2.out.frozen 1
  have g2 := Hr2.out.frozen 2
  have g3 := Hr2.out.frozen 3
  have g4 := Hr2.out.frozen 4
  go_wp2_with fail
  obtain ⟨W, hW⟩ : ∃ W, W = ((((((W2.setCell ⟨w.heap.size, 4, none⟩ (.slice (some ⟨G4, 0, none⟩) l4.length C4)).setCell ⟨w.heap.size + 1, 0, none⟩ (.string x0)).setCell ⟨w.heap.size + 1, 1, none⟩ (.int .i64 x1)).setCell ⟨w.heap.size + 1, 2, none⟩ (.int .i64 x2)).setCell ⟨w.heap.size + 1, 3, none⟩ (.int .i64 x3)).setCell ⟨w.heap.size + 1, 4, none⟩ ((.slice (some ⟨G4, 0, none⟩) l4.length C4))) := ⟨_, rfl⟩
  have hgr : Gr (fun b => b = w.heap.size ∨ b = w.heap.size + 1) W2 W := by rw [hW]; exact (((((Gr.setCell _ _ _ (by simp)).trans (Gr.setCell _ _ _ (by simp))).trans (Gr.setCell _ _ _ (by simp))).trans (Gr.setCell _ _ _ (by simp))).trans (Gr.setCell _ _ _ (by simp))).trans (Gr.setCell _ _ _ (by simp))
  have hr : Blk W (w.heap.size + 1) 132 #[.string x0, .int .i64 x1, .int .i64 x2, .int .i64 x3, (.slice (some ⟨G4, 0, none⟩) l4.length C4)] := by rw [hW]; exact ((((((Hr2.out.far (p := ⟨w.heap.size, 4, none⟩) (by simp) _).set_ 0 (.string x0)).set_ 1 (.int .i64 x1)).set_ 2 (.int .i64 x2)).set_ 3 (.int .i64 x3)).set_ 4 ((.slice (some ⟨G4, 0, none⟩) l4.length C4)))
  rw [← hW]
  clear hW
  have hB : Below w.heap.size w W := ((Gr.of_below (X := fun b => w.heap.size ≤ b) HB2.out).trans (hgr.mono fun k _ x => by rcases x with x | x <;> omega)).below0 fun k hk x => by omega
  have r0 : W.cell? ⟨w.heap.size + 1, 0, none⟩ = some (.string x0) := hr.cell 0
  have r1 : W.cell? ⟨w.heap.size + 1, 1, none⟩ = some (.int .i64 x1) := hr.cell 1
  have r2 : W.cell? ⟨w.heap.size + 1, 2, none⟩ = some (.int .i64 x2) := hr.cell 2
  have r3 : W.cell? ⟨w.heap.size + 1, 3, none⟩ = some (.int .i64 x3) := hr.cell 3
  have r4 : W.cell? ⟨w.heap.size + 1, 4, none⟩ = some ((.slice (some ⟨G4, 0, none⟩) l4.length C4)) := hr.cell 4
  have hk : ∀ b, MadeQ (w.heap.size + 2) W2 b → (∀ o, W.cell? ⟨b, o, none⟩ = W2.cell? ⟨b, o, none⟩) ∧ MadeQ w.heap.size W b := fun b ⟨p1, o, p2, p3⟩ => by
    have e := hgr.block b (Array.getElem?_eq_some_iff.1 p2).1 (by omega)
    exact ⟨fun _ => World.cell?_of_block e, by omega, o, e.trans p2, p3⟩
  refine bodyPost_ret (v := .agg #[.string x0, .int .i64 x1, .int .i64 x2, .int .i64 x3, (.slice (some ⟨G4, 0, none⟩) l4.length C4)]) (by simp [results, Try.results108, go_sem, r0, r1, r2, r3, r4]) rfl ⟨_, rfl, HL4.out.keep hk _ _, hB⟩

end Go.Proofs.Ytlmbffnmjfbglab
