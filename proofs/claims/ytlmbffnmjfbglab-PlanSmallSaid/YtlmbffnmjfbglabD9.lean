/- Functions that lend a struct. Printed by wip/tools/gen/lentstruct.py Part YtlmbffnmjfbglabD8. -/
import Derived.Test.YtlmbffnmjfbglabD8
set_option linter.unusedSimpArgs false
set_option linter.unusedVariables false
namespace Go.Proofs.Ytlmbffnmjfbglab
open Go.ChangeShapes Go.WideShapes Go.ChangeAt Go.RowKit Go.Deep

set_option maxRecDepth 100000 in
set_option maxHeartbeats 4000000 in
theorem lentPart_c (x0 : ByteArray) (x1 : Int) (x2 : Int) (x3 : Int) (x5 : Int) (x6 : Int) (v4 : Value) (v7 : Value) (v8 : Value) (v9 : Value) (l4 : List (List G)) (l7 : List (List G)) (l8 : List (List G)) (l9 : List (List G)) (w : World) (hc4 : G.cf KS KN (.sl 0) (.row 0 l4)) (h4 : G.rdW w v4 (.row 0 l4)) (hc7 : G.cf KS KN (.sl 0) (.row 0 l7)) (h7 : G.rdW w v7 (.row 0 l7)) (hc8 : G.cf KS KN (.sl 2) (.row 2 l8)) (h8 : G.rdW w v8 (.row 2 l8)) (hc9 : G.cf KS KN (.sl 3) (.row 3 l9)) (h9 : G.rdW w v9 (.row 3 l9)) : Calls Try.prog 81 #[.agg #[.string x0, .int .i64 x1, .int .i64 x2, .int .i64 x3, v4, .int .i64 x5, .int .i64 x6, v7, v8, v9]] w fun e w' => ∃ V4 V7 V8 V9, e = .returned (.agg #[.string x0, .int .i64 x1, .int .i64 x2, .int .i64 x3, V4, .int .i64 x5, .int .i64 x6, V7, V8, V9]) ∧ G.ld KM w' (MadeQ w.heap.size w') V4 (.row 0 l4) ∧ G.ld KM w' (MadeQ w.heap.size w') V7 (.row 0 l7) ∧ G.ld KM w' (MadeQ w.heap.size w') V8 (.row 2 l8) ∧ G.ld KM w' (MadeQ w.heap.size w') V9 (.row 3 l9) ∧ Below w.heap.size w w' := by
  obtain ⟨A4, c4, rfl⟩ := rd_slice h4
  obtain ⟨A7, c7, rfl⟩ := rd_slice h7
  obtain ⟨A8, c8, rfl⟩ := rd_slice h8
  obtain ⟨A9, c9, rfl⟩ := rd_slice h9
  obtain ⟨W1, hW1⟩ : ∃ W1, W1 = (w.alloc (.cells #[.string x0, .int .i64 x1, .int .i64 x2, .int .i64 x3, (.slice A4 l4.length c4), .int .i64 x5, .int .i64 x6, (.slice A7 l7.length c7), (.slice A8 l8.length c8), (.slice A9 l9.length c9)] 56)).alloc (.cells #[.string ⟨#[]⟩, .int .i64 0, .int .i64 0, .int .i64 0, .slice none 0 0, .int .i64 0, .int .i64 0, .slice none 0 0, .slice none 0 0, .slice none 0 0] 56) := ⟨_, rfl⟩
  have hB1 : Below w.heap.size w W1 := by rw [hW1]; exact ((Below.refl _ w).alloc (Nat.le_refl _) _).alloc (by simp) _
  have hb1 : Blk W1 w.heap.size 56 #[.string x0, .int .i64 x1, .int .i64 x2, .int .i64 x3, (.slice A4 l4.length c4), .int .i64 x5, .int .i64 x6, (.slice A7 l7.length c7), (.slice A8 l8.length c8), (.slice A9 l9.length c9)] := by rw [hW1]; exact (Blk.new w 56 _).alloc _
  have hr1 : Blk W1 (w.heap.size + 1) 56 #[.string ⟨#[]⟩, .int .i64 0, .int .i64 0, .int .i64 0, .slice none 0 0, .int .i64 0, .int .i64 0, .slice none 0 0, .slice none 0 0, .slice none 0 0] := by
    rw [hW1]
    have := Blk.new (w.alloc (.cells #[.string x0, .int .i64 x1, .int .i64 x2, .int .i64 x3, (.slice A4 l4.length c4), .int .i64 x5, .int .i64 x6, (.slice A7 l7.length c7), (.slice A8 l8.length c8), (.slice A9 l9.length c9)] 56)) 56 #[.string ⟨#[]⟩, .int .i64 0, .int .i64 0, .int .i64 0, .slice none 0 0, .int .i64 0, .int .i64 0, .slice none 0 0, .slice none 0 0, .slice none 0 0]
    simpa only [World.size_alloc] using this
  have HW1 := Lib.hid hW1
  have HB1 := Lib.hid hB1
  have Hb1 := Lib.hid hb1
  have Hr1 := Lib.hid hr1
  have H4 := Lib.hid h4
  have HC4 := Lib.hid hc4
  have H7 := Lib.hid h7
  have HC7 := Lib.hid hc7
  have H8 := Lib.hid h8
  have HC8 := Lib.hid hc8
  have H9 := Lib.hid h9
  have HC9 := Lib.hid hc9
  clear hW1 hB1 hb1 hr1 h4 hc4 h7 hc7 h8 hc8 h9 hc9
  go_enter Try.func81, Try.ntmps81
  go_wp2_with fail
  rw [← HW1.out]
  clear HW1
  have q4 : W1.cell? ⟨w.heap.size, 4, none⟩ = some ((.slice A4 l4.length c4)) := Hb1.out.cell 4
  go_wp2_with fail
  refine (lentInts_c l4 (.slice A4 l4.length c4) W1 HC4.out (H4.out.next HB1.out)).mono ?_
  rintro e W2 ⟨V', rfl, hld4, hb⟩
  obtain ⟨G4, C4, rfl⟩ := ld_slice hld4
  have hz := Hr1.out.lt
  have HB2 := Lib.hid (HB1.out.trans (hb.mono HB1.out.size))
  have Hb2 := Lib.hid (Hb1.out.below hb Hb1.out.lt)
  have Hr2 := Lib.hid (Hr1.out.below hb Hr1.out.lt)
  have HL4 := Lib.hid (G.ld.keep (Q' := MadeQ (w.heap.size + 2) W2) (fun b ⟨p1, p2⟩ => ⟨fun _ => rfl, by omega, p2⟩) _ _ hld4)
  have f4 := Hb2.out.frozen 4
  clear hb hld4 HB1 Hb1 Hr1 hz q4
  have q7 : W2.cell? ⟨w.heap.size, 7, none⟩ = some ((.slice A7 l7.length c7)) := Hb2.out.cell 7
  have o4 : W2.cell? ⟨w.heap.size, 4, none⟩ = some ((.slice A4 l4.length c4)) := Hb2.out.cell 4
  go_wp2_with fail
  obtain ⟨W3, hW⟩ : ∃ W, W = W2.setCell ⟨w.heap.size, 4, none⟩ (.slice (some ⟨G4, 0, none⟩) l4.length C4) := ⟨_, rfl⟩
  have hgr : Gr (fun b => b = w.heap.size) W2 W3 := by rw [hW]; exact Gr.setCell _ _ _ rfl
  have HB3 := Lib.hid (((Gr.of_below (X := fun b => w.heap.size ≤ b) HB2.out).trans (hgr.mono fun k _ x => by omega)).below0 fun k hk x => by omega)
  have Hb3 : Hid (Blk W3 w.heap.size 56 #[.string x0, .int .i64 x1, .int .i64 x2, .int .i64 x3, (.slice (some ⟨G4, 0, none⟩) l4.length C4), .int .i64 x5, .int .i64 x6, (.slice A7 l7.length c7), (.slice A8 l8.length c8), (.slice A9 l9.length c9)]) := Lib.hid (by rw [hW]; exact Hb2.out.set_ 4 (.slice (some ⟨G4, 0, none⟩) l4.length C4))
  have Hr3 := Lib.hid (Hr2.out.far (p := ⟨w.heap.size, 4, none⟩) (by simp) (.slice (some ⟨G4, 0, none⟩) l4.length C4))
  rw [← hW] at Hr3
  have HL4 := Lib.hid (G.ld.keep (Q' := MadeQ (w.heap.size + 2) W3) (fun b ⟨p1, o, p2, p3⟩ => by
    have e := hgr.block b (Array.getElem?_eq_some_iff.1 p2).1 (by omega)
    exact ⟨fun _ => World.cell?_of_block e, p1, o, e.trans p2, p3⟩) _ _ HL4.out)
  rw [← hW]
  clear hW hgr HB2 Hb2 Hr2 f4 q7 o4
  refine (lentInts_c l7 (.slice A7 l7.length c7) W3 HC7.out (H7.out.next HB3.out)).mono ?_
  rintro e W4 ⟨V', rfl, hld7, hb⟩
  obtain ⟨G7, C7, rfl⟩ := ld_slice hld7
  have hz := Hr3.out.lt
  have HB4 := Lib.hid (HB3.out.trans (hb.mono HB3.out.size))
  have Hb4 := Lib.hid (Hb3.out.below hb Hb3.out.lt)
  have Hr4 := Lib.hid (Hr3.out.below hb Hr3.out.lt)
  have HL7 := Lib.hid (G.ld.keep (Q' := MadeQ (w.heap.size + 2) W4) (fun b ⟨p1, p2⟩ => ⟨fun _ => rfl, by omega, p2⟩) _ _ hld7)
  have HL4 := Lib.hid (G.ld.keep (Q' := MadeQ (w.heap.size + 2) W4) (fun b ⟨p1, o, p2, p3⟩ => by
    have e := hb.block b (Array.getElem?_eq_some_iff.1 p2).1
    exact ⟨fun _ => World.cell?_of_block e, p1, o, e.trans p2, p3⟩) _ _ HL4.out)
  have f7 := Hb4.out.frozen 7
  clear hb hld7 HB3 Hb3 Hr3 hz
  have q8 : W4.cell? ⟨w.heap.size, 8, none⟩ = some ((.slice A8 l8.length c8)) := Hb4.out.cell 8
  have o7 : W4.cell? ⟨w.heap.size, 7, none⟩ = some ((.slice A7 l7.length c7)) := Hb4.out.cell 7
  go_wp2_with fail
  obtain ⟨W5, hW⟩ : ∃ W, W = W4.setCell ⟨w.heap.size, 7, none⟩ (.slice (some ⟨G7, 0, none⟩) l7.length C7) := ⟨_, rfl⟩
  have hgr : Gr (fun b => b = w.heap.size) W4 W5 := by rw [hW]; exact Gr.setCell _ _ _ rfl
  have HB5 := Lib.hid (((Gr.of_below (X := fun b => w.heap.size ≤ b) HB4.out).trans (hgr.mono fun k _ x => by omega)).below0 fun k hk x => by omega)
  have Hb5 : Hid (Blk W5 w.heap.size 56 #[.string x0, .int .i64 x1, .int .i64 x2, .int .i64 x3, (.slice (some ⟨G4, 0, none⟩) l4.length C4), .int .i64 x5, .int .i64 x6, (.slice (some ⟨G7, 0, none⟩) l7.length C7), (.slice A8 l8.length c8), (.slice A9 l9.length c9)]) := Lib.hid (by rw [hW]; exact Hb4.out.set_ 7 (.slice (some ⟨G7, 0, none⟩) l7.length C7))
  have Hr5 := Lib.hid (Hr4.out.far (p := ⟨w.heap.size, 7, none⟩) (by simp) (.slice (some ⟨G7, 0, none⟩) l7.length C7))
  rw [← hW] at Hr5
  have HL4 := Lib.hid (G.ld.keep (Q' := MadeQ (w.heap.size + 2) W5) (fun b ⟨p1, o, p2, p3⟩ => by
    have e := hgr.block b (Array.getElem?_eq_some_iff.1 p2).1 (by omega)
    exact ⟨fun _ => World.cell?_of_block e, p1, o, e.trans p2, p3⟩) _ _ HL4.out)
  have HL7 := Lib.hid (G.ld.keep (Q' := MadeQ (w.heap.size + 2) W5) (fun b ⟨p1, o, p2, p3⟩ => by
    have e := hgr.block b (Array.getElem?_eq_some_iff.1 p2).1 (by omega)
    exact ⟨fun _ => World.cell?_of_block e, p1, o, e.trans p2, p3⟩) _ _ HL7.out)
  rw [← hW]
  clear hW hgr HB4 Hb4 Hr4 f7 q8 o7
  refine (lentPorts_c l8 (.slice A8 l8.length c8) W5 HC8.out (H8.out.next HB5.out)).mono ?_
  rintro e W6 ⟨V', rfl, hld8, hb⟩
  obtain ⟨G8, C8, rfl⟩ := ld_slice hld8
  have hz := Hr5.out.lt
  have HB6 := Lib.hid (HB5.out.trans (hb.mono HB5.out.size))
  have Hb6 := Lib.hid (Hb5.out.below hb Hb5.out.lt)
  have Hr6 := Lib.hid (Hr5.out.below hb Hr5.out.lt)
  have HL8 := Lib.hid (G.ld.keep (Q' := MadeQ (w.heap.size + 2) W6) (fun b ⟨p1, p2⟩ => ⟨fun _ => rfl, by omega, p2⟩) _ _ hld8)
  have HL4 := Lib.hid (G.ld.keep (Q' := MadeQ (w.heap.size + 2) W6) (fun b ⟨p1, o, p2, p3⟩ => by
    have e := hb.block b (Array.getElem?_eq_some_iff.1 p2).1
    exact ⟨fun _ => World.cell?_of_block e, p1, o, e.trans p2, p3⟩) _ _ HL4.out)
  have HL7 := Lib.hid (G.ld.keep (Q' := MadeQ (w.heap.size + 2) W6) (fun b ⟨p1, o, p2, p3⟩ => by
    have e := hb.block b (Array.getElem?_eq_some_iff.1 p2).1
    exact ⟨fun _ => World.cell?_of_block e, p1, o, e.trans p2, p3⟩) _ _ HL7.out)
  have f8 := Hb6.out.frozen 8
  clear hb hld8 HB5 Hb5 Hr5 hz
  have q9 : W6.cell? ⟨w.heap.size, 9, none⟩ = some ((.slice A9 l9.length c9)) := Hb6.out.cell 9
  have o8 : W6.cell? ⟨w.heap.size, 8, none⟩ = some ((.slice A8 l8.length c8)) := Hb6.out.cell 8
  go_wp2_with fail
  obtain ⟨W7, hW⟩ : ∃ W, W = W6.setCell ⟨w.heap.size, 8, none⟩ (.slice (some ⟨G8, 0, none⟩) l8.length C8) := ⟨_, rfl⟩
  have hgr : Gr (fun b => b = w.heap.size) W6 W7 := by rw [hW]; exact Gr.setCell _ _ _ rfl
  have HB7 := Lib.hid (((Gr.of_below (X := fun b => w.heap.size ≤ b) HB6.out).trans (hgr.mono fun k _ x => by omega)).below0 fun k hk x => by omega)
  have Hb7 : Hid (Blk W7 w.heap.size 56 #[.string x0, .int .i64 x1, .int .i64 x2, .int .i64 x3, (.slice (some ⟨G4, 0, none⟩) l4.length C4), .int .i64 x5, .int .i64 x6, (.slice (some ⟨G7, 0, none⟩) l7.length C7), (.slice (some ⟨G8, 0, none⟩) l8.length C8), (.slice A9 l9.length c9)]) := Lib.hid (by rw [hW]; exact Hb6.out.set_ 8 (.slice (some ⟨G8, 0, none⟩) l8.length C8))
  have Hr7 := Lib.hid (Hr6.out.far (p := ⟨w.heap.size, 8, none⟩) (by simp) (.slice (some ⟨G8, 0, none⟩) l8.length C8))
  rw [← hW] at Hr7
  have HL4 := Lib.hid (G.ld.keep (Q' := MadeQ (w.heap.size + 2) W7) (fun b ⟨p1, o, p2, p3⟩ => by
    have e := hgr.block b (Array.getElem?_eq_some_iff.1 p2).1 (by omega)
    exact ⟨fun _ => World.cell?_of_block e, p1, o, e.trans p2, p3⟩) _ _ HL4.out)
  have HL7 := Lib.hid (G.ld.keep (Q' := MadeQ (w.heap.size + 2) W7) (fun b ⟨p1, o, p2, p3⟩ => by
    have e := hgr.block b (Array.getElem?_eq_some_iff.1 p2).1 (by omega)
    exact ⟨fun _ => World.cell?_of_block e, p1, o, e.trans p2, p3⟩) _ _ HL7.out)
  have HL8 := Lib.hid (G.ld.keep (Q' := MadeQ (w.heap.size + 2) W7) (fun b ⟨p1, o, p2, p3⟩ => by
    have e := hgr.block b (Array.getElem?_eq_some_iff.1 p2).1 (by omega)
    exact ⟨fun _ => World.cell?_of_block e, p1, o, e.trans p2, p3⟩) _ _ HL8.out)
  rw [← hW]
  clear hW hgr HB6 Hb6 Hr6 f8 q9 o8
  refine (lentProcs_c l9 (.slice A9 l9.length c9) W7 HC9.out (H9.out.next HB7.out)).mono ?_
  rintro e W8 ⟨V', rfl, hld9, hb⟩
  obtain ⟨G9, C9, rfl⟩ := ld_slice hld9
  have hz := Hr7.out.lt
  have HB8 := Lib.hid (HB7.out.trans (hb.mono HB7.out.size))
  have Hb8 := Lib.hid (Hb7.out.below hb Hb7.out.lt)
  have Hr8 := Lib.hid (Hr7.out.below hb Hr7.out.lt)
  have HL9 := Lib.hid (G.ld.keep (Q' := MadeQ (w.heap.size + 2) W8) (fun b ⟨p1, p2⟩ => ⟨fun _ => rfl, by omega, p2⟩) _ _ hld9)
  have HL4 := Lib.hid (G.ld.keep (Q' := MadeQ (w.heap.size + 2) W8) (fun b ⟨p1, o, p2, p3⟩ => by
    have e := hb.block b (Array.getElem?_eq_some_iff.1 p2).1
    exact ⟨fun _ => World.cell?_of_block e, p1, o, e.trans p2, p3⟩) _ _ HL4.out)
  have HL7 := Lib.hid (G.ld.keep (Q' := MadeQ (w.heap.size + 2) W8) (fun b ⟨p1, o, p2, p3⟩ => by
    have e := hb.block b (Array.getElem?_eq_some_iff.1 p2).1
    exact ⟨fun _ => World.cell?_of_block e, p1, o, e.trans p2, p3⟩) _ _ HL7.out)
  have HL8 := Lib.hid (G.ld.keep (Q' := MadeQ (w.heap.size + 2) W8) (fun b ⟨p1, o, p2, p3⟩ => by
    have e := hb.block b (Array.getElem?_eq_some_iff.1 p2).1
    exact ⟨fun _ => World.cell?_of_block e, p1, o, e.trans p2, p3⟩) _ _ HL8.out)
  have f9 := Hb8.out.frozen 9
  clear hb hld9 HB7 Hb7 Hr7 hz
  have q0 : W8.cell? ⟨w.heap.size, 0, none⟩ = some (.string x0) := Hb8.out.cell 0
  have q1 : W8.cell? ⟨w.heap.size, 1, none⟩ = some (.int .i64 x1) := Hb8.out.cell 1
  have q2 : W8.cell? ⟨w.heap.size, 2, none⟩ = some (.int .i64 x2) := Hb8.out.cell 2
  have q3 : W8.cell? ⟨w.heap.size, 3, none⟩ = some (.int .i64 x3) := Hb8.out.cell 3
  have q4 : W8.cell? ⟨w.heap.size, 4, none⟩ = some ((.slice (some ⟨G4, 0, none⟩) l4.length C4)) := Hb8.out.cell 4
  have q5 : W8.cell? ⟨w.heap.size, 5, none⟩ = some (.int .i64 x5) := Hb8.out.cell 5
  have q6 : W8.cell? ⟨w.heap.size, 6, none⟩ = some (.int .i64 x6) := Hb8.out.cell 6
  have q7 : W8.cell? ⟨w.heap.size, 7, none⟩ = some ((.slice (some ⟨G7, 0, none⟩) l7.length C7)) := Hb8.out.cell 7
  have q8 : W8.cell? ⟨w.heap.size, 8, none⟩ = some ((.slice (some ⟨G8, 0, none⟩) l8.length C8)) := Hb8.out.cell 8
  have q9 : W8.cell? ⟨w.heap.size, 9, none⟩ = some ((.slice A9 l9.length c9)) := Hb8.out.cell 9
  have p0 : W8.cell? ⟨w.heap.size + 1, 0, none⟩ = some (.string ⟨#[]⟩) := Hr8.out.cell 0
  have p1 : W8.cell? ⟨w.heap.size + 1, 1, none⟩ = some (.int .i64 0) := Hr8.out.cell 1
  have p2 : W8.cell? ⟨w.heap.size + 1, 2, none⟩ = some (.int .i64 0) := Hr8.out.cell 2
  have p3 : W8.cell? ⟨w.heap.size + 1, 3, none⟩ = some (.int .i64 0) := Hr8.out.cell 3
  have p4 : W8.cell? ⟨w.heap.size + 1, 4, none⟩ = some (.slice none 0 0) := Hr8.out.cell 4
  have p5 : W8.cell? ⟨w.heap.size + 1, 5, none⟩ = some (.int .i64 0) := Hr8.out.cell 5
  have p6 : W8.cell? ⟨w.heap.size + 1, 6, none⟩ = some (.int .i64 0) := Hr8.out.cell 6
  have p7 : W8.cell? ⟨w.heap.size + 1, 7, none⟩ = some (.slice none 0 0) := Hr8.out.cell 7
  have p8 : W8.cell? ⟨w.heap.size + 1, 8, none⟩ = some (.slice none 0 0) := Hr8.out.cell 8
  have p9 : W8.cell? ⟨w.heap.size + 1, 9, none⟩ = some (.slice none 0 0) := Hr8.out.cell 9
  have g0 := Hr8.out.frozen 0
  have g1 := Hr8.out.frozen 1
  have g2 := Hr8.out.frozen 2
  have g3 := Hr8.out.frozen 3
  have g4 := Hr8.out.frozen 4
  have g5 := Hr8.out.frozen 5
  have g6 := Hr8.out.frozen 6
  have g7 := Hr8.out.frozen 7
  have g8 := Hr8.out.frozen 8
  have g9 := Hr8.out.frozen 9
  go_wp2_with fail
  obtain ⟨W, hW⟩ : ∃ W, W = (((((((((((W8.setCell ⟨w.heap.size, 9, none⟩ (.slice (some ⟨G9, 0, none⟩) l9.length C9)).setCell ⟨w.heap.size + 1, 0, none⟩ (.string x0)).setCell ⟨w.heap.size + 1, 1, none⟩ (.int .i64 x1)).setCell ⟨w.heap.size + 1, 2, none⟩ (.int .i64 x2)).setCell ⟨w.heap.size + 1, 3, none⟩ (.int .i64 x3)).setCell ⟨w.heap.size + 1, 4, none⟩ ((.slice (some ⟨G4, 0, none⟩) l4.length C4))).setCell ⟨w.heap.size + 1, 5, none⟩ (.int .i64 x5)).setCell ⟨w.heap.size + 1, 6, none⟩ (.int .i64 x6)).setCell ⟨w.heap.size + 1, 7, none⟩ ((.slice (some ⟨G7, 0, none⟩) l7.length C7))).setCell ⟨w.heap.size + 1, 8, none⟩ ((.slice (some ⟨G8, 0, none⟩) l8.length C8))).setCell ⟨w.heap.size + 1, 9, none⟩ ((.slice (some ⟨G9, 0, none⟩) l9.length C9))) := ⟨_, rfl⟩
  have hgr : Gr (fun b => b = w.heap.size ∨ b = w.heap.size + 1) W8 W := by rw [hW]; exact ((((((((((Gr.setCell _ _ _ (by simp)).trans (Gr.setCell _ _ _ (by simp))).trans (Gr.setCell _ _ _ (by simp))).trans (Gr.setCell _ _ _ (by simp))).trans (Gr.setCell _ _ _ (by simp))).trans (Gr.setCell _ _ _ (by simp))).trans (Gr.setCell _ _ _ (by simp))).trans (Gr.setCell _ _ _ (by simp))).trans (Gr.setCell _ _ _ (by simp))).trans (Gr.setCell _ _ _ (by simp))).trans (Gr.setCell _ _ _ (by simp))
  have hr : Blk W (w.heap.size + 1) 56 #[.string x0, .int .i64 x1, .int .i64 x2, .int .i64 x3, (.slice (some ⟨G4, 0, none⟩) l4.length C4), .int .i64 x5, .int .i64 x6, (.slice (some ⟨G7, 0, none⟩) l7.length C7), (.slice (some ⟨G8, 0, none⟩) l8.length C8), (.slice (some ⟨G9, 0, none⟩) l9.length C9)] := by
    rw [hW]
    have s0 : Blk (W8.setCell ⟨w.heap.size, 9, none⟩ (.slice (some ⟨G9, 0, none⟩) l9.length C9)) (w.heap.size + 1) 56 #[.string ⟨#[]⟩, .int .i64 0, .int .i64 0, .int .i64 0, .slice none 0 0, .int .i64 0, .int .i64 0, .slice none 0 0, .slice none 0 0, .slice none 0 0] := Hr8.out.far (p := ⟨w.heap.size, 9, none⟩) (by simp) _
    have s1 : Blk _ (w.heap.size + 1) 56 #[.string x0, .int .i64 0, .int .i64 0, .int .i64 0, .slice none 0 0, .int .i64 0, .int .i64 0, .slice none 0 0, .slice none 0 0, .slice none 0 0] := s0.set_ 0 (.string x0)
    have s2 : Blk _ (w.heap.size + 1) 56 #[.string x0, .int .i64 x1, .int .i64 0, .int .i64 0, .slice none 0 0, .int .i64 0, .int .i64 0, .slice none 0 0, .slice none 0 0, .slice none 0 0] := s1.set_ 1 (.int .i64 x1)
    have s3 : Blk _ (w.heap.size + 1) 56 #[.string x0, .int .i64 x1, .int .i64 x2, .int .i64 0, .slice none 0 0, .int .i64 0, .int .i64 0, .slice none 0 0, .slice none 0 0, .slice none 0 0] := s2.set_ 2 (.int .i64 x2)
    have s4 : Blk _ (w.heap.size + 1) 56 #[.string x0, .int .i64 x1, .int .i64 x2, .int .i64 x3, .slice none 0 0, .int .i64 0, .int .i64 0, .slice none 0 0, .slice none 0 0, .slice none 0 0] := s3.set_ 3 (.int .i64 x3)
    have s5 : Blk _ (w.heap.size + 1) 56 #[.string x0, .int .i64 x1, .int .i64 x2, .int .i64 x3, (.slice (some ⟨G4, 0, none⟩) l4.length C4), .int .i64 0, .int .i64 0, .slice none 0 0, .slice none 0 0, .slice none 0 0] := s4.set_ 4 ((.slice (some ⟨G4, 0, none⟩) l4.length C4))
    have s6 : Blk _ (w.heap.size + 1) 56 #[.string x0, .int .i64 x1, .int .i64 x2, .int .i64 x3, (.slice (some ⟨G4, 0, none⟩) l4.length C4), .int .i64 x5, .int .i64 0, .slice none 0 0, .slice none 0 0, .slice none 0 0] := s5.set_ 5 (.int .i64 x5)
    have s7 : Blk _ (w.heap.size + 1) 56 #[.string x0, .int .i64 x1, .int .i64 x2, .int .i64 x3, (.slice (some ⟨G4, 0, none⟩) l4.length C4), .int .i64 x5, .int .i64 x6, .slice none 0 0, .slice none 0 0, .slice none 0 0] := s6.set_ 6 (.int .i64 x6)
    have s8 : Blk _ (w.heap.size + 1) 56 #[.string x0, .int .i64 x1, .int .i64 x2, .int .i64 x3, (.slice (some ⟨G4, 0, none⟩) l4.length C4), .int .i64 x5, .int .i64 x6, (.slice (some ⟨G7, 0, none⟩) l7.length C7), .slice none 0 0, .slice none 0 0] := s7.set_ 7 ((.slice (some ⟨G7, 0, none⟩) l7.length C7))
    have s9 : Blk _ (w.heap.size + 1) 56 #[.string x0, .int .i64 x1, .int .i64 x2, .int .i64 x3, (.slice (some ⟨G4, 0, none⟩) l4.length C4), .int .i64 x5, .int .i64 x6, (.slice (some ⟨G7, 0, none⟩) l7.length C7), (.slice (some ⟨G8, 0, none⟩) l8.length C8), .slice none 0 0] := s8.set_ 8 ((.slice (some ⟨G8, 0, none⟩) l8.length C8))
    have s10 : Blk _ (w.heap.size + 1) 56 #[.string x0, .int .i64 x1, .int .i64 x2, .int .i64 x3, (.slice (some ⟨G4, 0, none⟩) l4.length C4), .int .i64 x5, .int .i64 x6, (.slice (some ⟨G7, 0, none⟩) l7.length C7), (.slice (some ⟨G8, 0, none⟩) l8.length C8), (.slice (some ⟨G9, 0, none⟩) l9.length C9)] := s9.set_ 9 ((.slice (some ⟨G9, 0, none⟩) l9.length C9))
    exact s10
  rw [← hW]
  clear hW
  have hB : Below w.heap.size w W := ((Gr.of_below (X := fun b => w.heap.size ≤ b) HB8.out).trans (hgr.mono fun k _ x => by rcases x with x | x <;> omega)).below0 fun k hk x => by omega
  have r0 : W.cell? ⟨w.heap.size + 1, 0, none⟩ = some (.string x0) := hr.cell 0
  have r1 : W.cell? ⟨w.heap.size + 1, 1, none⟩ = some (.int .i64 x1) := hr.cell 1
  have r2 : W.cell? ⟨w.heap.size + 1, 2, none⟩ = some (.int .i64 x2) := hr.cell 2
  have r3 : W.cell? ⟨w.heap.size + 1, 3, none⟩ = some (.int .i64 x3) := hr.cell 3
  have r4 : W.cell? ⟨w.heap.size + 1, 4, none⟩ = some ((.slice (some ⟨G4, 0, none⟩) l4.length C4)) := hr.cell 4
  have r5 : W.cell? ⟨w.heap.size + 1, 5, none⟩ = some (.int .i64 x5) := hr.cell 5
  have r6 : W.cell? ⟨w.heap.size + 1, 6, none⟩ = some (.int .i64 x6) := hr.cell 6
  have r7 : W.cell? ⟨w.heap.size + 1, 7, none⟩ = some ((.slice (some ⟨G7, 0, none⟩) l7.length C7)) := hr.cell 7
  have r8 : W.cell? ⟨w.heap.size + 1, 8, none⟩ = some ((.slice (some ⟨G8, 0, none⟩) l8.length C8)) := hr.cell 8
  have r9 : W.cell? ⟨w.heap.size + 1, 9, none⟩ = some ((.slice (some ⟨G9, 0, none⟩) l9.length C9)) := hr.cell 9
  have hk : ∀ b, MadeQ (w.heap.size + 2) W8 b → (∀ o, W.cell? ⟨b, o, none⟩ = W8.cell? ⟨b, o, none⟩) ∧ MadeQ w.heap.size W b := fun b ⟨p1, o, p2, p3⟩ => by
    have e := hgr.block b (Array.getElem?_eq_some_iff.1 p2).1 (by omega)
    exact ⟨fun _ => World.cell?_of_block e, by omega, o, e.trans p2, p3⟩
  refine bodyPost_ret (v := .agg #[.string x0, .int .i64 x1, .int .i64 x2, .int .i64 x3, (.slice (some ⟨G4, 0, none⟩) l4.length C4), .int .i64 x5, .int .i64 x6, (.slice (some ⟨G7, 0, none⟩) l7.length C7), (.slice (some ⟨G8, 0, none⟩) l8.length C8), (.slice (some ⟨G9, 0, none⟩) l9.length C9)]) (by simp [results, Try.results81, go_sem, r0, r1, r2, r3, r4, r5, r6, r7, r8, r9]) rfl ⟨_, _, _, _, rfl, HL4.out.keep hk _ _, HL7.out.keep hk _ _, HL8.out.keep hk _ _, HL9.out.keep hk _ _, hB⟩

end Go.Proofs.Ytlmbffnmjfbglab
