/- Texts U3 U4, joined. -/
import Derived.Test.YtknojjlfgjkbiaaGreatDoorM0
import Derived.Test.YtknojjlfgjkbiaaGreatDoorH19
set_option linter.unusedSimpArgs false
set_option linter.unusedVariables false
set_option linter.unusedSectionVars false
/- LentCause, LentCauses. Printed by wip/gen/lk41.py. -/
namespace Go.Proofs.YtknojjlfgjkbiaaGreatDoor
open Go.ChangeShapes Go.WideShapes Go.ChangeAt Go.RowKit Go.Deep
attribute [local go_sem] Oper.semAt_some

theorem Gr.below0 {X : Nat → Prop} {a b : World} (h : Gr X a b) (hx : ∀ k, k < a.heap.size → ¬ X k) : Below a.heap.size a b := ⟨h.os, h.tape, h.output, h.size, fun k hk => h.block k hk (hx k hk)⟩
theorem markCause_c (i : Nat) (w : World) (h1 : i < 12) : Calls Tryz.prog 48 #[.int .i64 1, .int .i64 i] w fun e w' => e = .returned (.agg #[.string (mkT i), .slice none 0 0, .slice none 0 0]) ∧ Below w.heap.size w w' := by
  have hI := fun W => markText_c i W h1
  have hb0 := Blk.new w 29 #[.string ⟨#[]⟩, .slice none 0 0, .slice none 0 0]
  obtain ⟨w1, hw1⟩ : ∃ w1, w1 = w.alloc (.cells #[.string ⟨#[]⟩, .slice none 0 0, .slice none 0 0] 29) := ⟨_, rfl⟩
  have hB1 : Below w.heap.size w w1 := by rw [hw1]; exact (Below.refl _ _).alloc (Nat.le_refl _) _
  rw [← hw1] at hb0
  have HB1 := Lib.hid hB1
  have Hb0 := Lib.hid hb0
  have Hw1 := Lib.hid hw1
  clear hb0 hw1 hB1
  go_enter Tryz.func48, Tryz.ntmps48
  go_wp2_with fail
  rw [← Hw1.out]
  refine (hI w1).mono ?_
  rintro e w2 ⟨rfl, hb2⟩
  have hbb := Hb0.out.below hb2 Hb0.out.lt
  have HB2 := Lib.hid (HB1.out.trans (hb2.mono HB1.out.size))
  have c0 : w2.cell? ⟨w.heap.size, 0, none⟩ = some (.string ⟨#[]⟩) := hbb.cell 0
  have c1 : w2.cell? ⟨w.heap.size, 1, none⟩ = some (.slice none 0 0) := hbb.cell 1
  have c2 : w2.cell? ⟨w.heap.size, 2, none⟩ = some (.slice none 0 0) := hbb.cell 2
  have f0 := hbb.frozen 0
  have f1 := hbb.frozen 1
  have f2 := hbb.frozen 2
  have hB3 := HB2.out
  have s1 := ((hbb.set_ 0 (.string (mkT i))).set_ 1 (.slice none 0 0)).set_ 2 (.slice none 0 0)
  simp at s1
  have r0 := s1.cell 0
  have r1 := s1.cell 1
  have r2 := s1.cell 2
  simp at r0 r1 r2
  clear hb2 hbb s1
  go_wp2_with fail
  refine bodyPost_ret (v := .agg #[.string (mkT i), .slice none 0 0, .slice none 0 0]) (by simp [results, Tryz.results48, go_sem, r0, r1, r2]) rfl ⟨rfl, ?_⟩
  exact ((hB3.setCell (Nat.le_refl _) _).setCell (Nat.le_refl _) _).setCell (Nat.le_refl _) _
theorem ld_slice {mk : Nat → Nat → List Value} {W : World} {Q : Nat → Prop} {V : Value} {t : Nat} {l : List (List G)} (h : G.ld mk W Q V (.row t l)) : ∃ g c, V = .slice (some ⟨g, 0, none⟩) l.length c := by
  simp only [G.ld] at h
  obtain ⟨g, c, h, _⟩ := h
  exact ⟨g, c, h⟩
theorem rd_slice {W : World} {Q : Nat → Prop} {V : Value} {t : Nat} {l : List (List G)} (h : G.rd W Q V (.row t l)) : ∃ A c, V = .slice A l.length c := by
  simp only [G.rd] at h
  obtain ⟨A, c, h, _⟩ := h
  exact ⟨A, c, h⟩

set_option maxRecDepth 100000 in
set_option maxHeartbeats 4000000 in
theorem lentCause_c (x0 : ByteArray) (v1 : Value) (v2 : Value) (l1 : List (List G)) (l2 : List (List G)) (w : World) (hc1 : G.cf GS GN (.sl 1) (.row 1 l1)) (h1 : G.rdW w v1 (.row 1 l1)) (hc2 : G.cf GS GN (.sl 2) (.row 2 l2)) (h2 : G.rdW w v2 (.row 2 l2)) : Calls Tryz.prog 47 #[.agg #[.string x0, v1, v2]] w fun e w' => ∃ V1 V2, e = .returned (.agg #[.string x0, V1, V2]) ∧ G.ld KM w' (MadeQ w.heap.size w') V1 (.row 1 l1) ∧ G.ld KM w' (MadeQ w.heap.size w') V2 (.row 2 l2) ∧ Below w.heap.size w w' := by
  obtain ⟨A1, c1, rfl⟩ := rd_slice h1
  obtain ⟨A2, c2, rfl⟩ := rd_slice h2
  obtain ⟨W1, hW1⟩ : ∃ W1, W1 = (w.alloc (.cells #[.string x0, (.slice A1 l1.length c1), (.slice A2 l2.length c2)] 29)).alloc (.cells #[.string ⟨#[]⟩, .slice none 0 0, .slice none 0 0] 29) := ⟨_, rfl⟩
  have hB1 : Below w.heap.size w W1 := by rw [hW1]; exact ((Below.refl _ w).alloc (Nat.le_refl _) _).alloc (by simp) _
  have hb1 : Blk W1 w.heap.size 29 #[.string x0, (.slice A1 l1.length c1), (.slice A2 l2.length c2)] := by rw [hW1]; exact (Blk.new w 29 _).alloc _
  have hr1 : Blk W1 (w.heap.size + 1) 29 #[.string ⟨#[]⟩, .slice none 0 0, .slice none 0 0] := by
    rw [hW1]
    have := Blk.new (w.alloc (.cells #[.string x0, (.slice A1 l1.length c1), (.slice A2 l2.length c2)] 29)) 29 #[.string ⟨#[]⟩, .slice none 0 0, .slice none 0 0]
    simpa only [World.size_alloc] using this
  have HW1 := Lib.hid hW1
  have HB1 := Lib.hid hB1
  have Hb1 := Lib.hid hb1
  have Hr1 := Lib.hid hr1
  have H1 := Lib.hid h1
  have HC1 := Lib.hid hc1
  have H2 := Lib.hid h2
  have HC2 := Lib.hid hc2
  clear hW1 hB1 hb1 hr1 h1 hc1 h2 hc2
  go_enter Tryz.func47, Tryz.ntmps47
  go_wp2_with fail
  rw [← HW1.out]
  clear HW1
  have q1 : W1.cell? ⟨w.heap.size, 1, none⟩ = some ((.slice A1 l1.length c1)) := Hb1.out.cell 1
  go_wp2_with fail
  refine (lentReports_c l1 (.slice A1 l1.length c1) W1 HC1.out (H1.out.next HB1.out)).mono ?_
  rintro e W2 ⟨V', rfl, hld1, hb⟩
  obtain ⟨G1, C1, rfl⟩ := ld_slice hld1
  have hz := Hr1.out.lt
  have HB2 := Lib.hid (HB1.out.trans (hb.mono HB1.out.size))
  have Hb2 := Lib.hid (Hb1.out.below hb Hb1.out.lt)
  have Hr2 := Lib.hid (Hr1.out.below hb Hr1.out.lt)
  have HL1 := Lib.hid (G.ld.keep (Q' := MadeQ (w.heap.size + 2) W2) (fun b ⟨p1, p2⟩ => ⟨fun _ => rfl, by omega, p2⟩) _ _ hld1)
  have f1 := Hb2.out.frozen 1
  clear hb hld1 HB1 Hb1 Hr1 hz q1
  have q2 : W2.cell? ⟨w.heap.size, 2, none⟩ = some ((.slice A2 l2.length c2)) := Hb2.out.cell 2
  have o1 : W2.cell? ⟨w.heap.size, 1, none⟩ = some ((.slice A1 l1.length c1)) := Hb2.out.cell 1
  go_wp2_with fail
  obtain ⟨W3, hW⟩ : ∃ W, W = W2.setCell ⟨w.heap.size, 1, none⟩ (.slice (some ⟨G1, 0, none⟩) l1.length C1) := ⟨_, rfl⟩
  have hgr : Gr (fun b => b = w.heap.size) W2 W3 := by rw [hW]; exact Gr.setCell _ _ _ rfl
  have HB3 := Lib.hid (((Gr.of_below (X := fun b => w.heap.size ≤ b) HB2.out).trans (hgr.mono fun k _ x => by omega)).below0 fun k hk x => by omega)
  have Hb3 : Hid (Blk W3 w.heap.size 29 #[.string x0, (.slice (some ⟨G1, 0, none⟩) l1.length C1), (.slice A2 l2.length c2)]) := Lib.hid (by rw [hW]; exact Hb2.out.set_ 1 (.slice (some ⟨G1, 0, none⟩) l1.length C1))
  have Hr3 := Lib.hid (Hr2.out.far (p := ⟨w.heap.size, 1, none⟩) (by simp) (.slice (some ⟨G1, 0, none⟩) l1.length C1))
  rw [← hW] at Hr3
  have HL1 := Lib.hid (G.ld.keep (Q' := MadeQ (w.heap.size + 2) W3) (fun b ⟨p1, o, p2, p3⟩ => by
    have e := hgr.block b (Array.getElem?_eq_some_iff.1 p2).1 (by omega)
    exact ⟨fun _ => World.cell?_of_block e, p1, o, e.trans p2, p3⟩) _ _ HL1.out)
  rw [← hW]
  clear hW hgr HB2 Hb2 Hr2 f1 q2 o1
  refine (lentTexts_c l2 (.slice A2 l2.length c2) W3 HC2.out (H2.out.next HB3.out)).mono ?_
  rintro e W4 ⟨V', rfl, hld2, hb⟩
  obtain ⟨G2, C2, rfl⟩ := ld_slice hld2
  have hz := Hr3.out.lt
  have HB4 := Lib.hid (HB3.out.trans (hb.mono HB3.out.size))
  have Hb4 := Lib.hid (Hb3.out.below hb Hb3.out.lt)
  have Hr4 := Lib.hid (Hr3.out.below hb Hr3.out.lt)
  have HL2 := Lib.hid (G.ld.keep (Q' := MadeQ (w.heap.size + 2) W4) (fun b ⟨p1, p2⟩ => ⟨fun _ => rfl, by omega, p2⟩) _ _ hld2)
  have HL1 := Lib.hid (G.ld.keep (Q' := MadeQ (w.heap.size + 2) W4) (fun b ⟨p1, o, p2, p3⟩ => by
    have e := hb.block b (Array.getElem?_eq_some_iff.1 p2).1
    exact ⟨fun _ => World.cell?_of_block e, p1, o, e.trans p2, p3⟩) _ _ HL1.out)
  have f2 := Hb4.out.frozen 2
  clear hb hld2 HB3 Hb3 Hr3 hz
  have q0 : W4.cell? ⟨w.heap.size, 0, none⟩ = some (.string x0) := Hb4.out.cell 0
  have q1 : W4.cell? ⟨w.heap.size, 1, none⟩ = some ((.slice (some ⟨G1, 0, none⟩) l1.length C1)) := Hb4.out.cell 1
  have q2 : W4.cell? ⟨w.heap.size, 2, none⟩ = some ((.slice A2 l2.length c2)) := Hb4.out.cell 2
  have p0 : W4.cell? ⟨w.heap.size + 1, 0, none⟩ = some (.string ⟨#[]⟩) := Hr4.out.cell 0
  have p1 : W4.cell? ⟨w.heap.size + 1, 1, none⟩ = some (.slice none 0 0) := Hr4.out.cell 1
  have p2 : W4.cell? ⟨w.heap.size + 1, 2, none⟩ = some (.slice none 0 0) := Hr4.out.cell 2
  have g0 := Hr4.out.frozen 0
  have g1 := Hr4.out.frozen 1
  have g2 := Hr4.out.frozen 2
  go_wp2_with fail
  obtain ⟨W, hW⟩ : ∃ W, W = ((((W4.setCell ⟨w.heap.size, 2, none⟩ (.slice (some ⟨G2, 0, none⟩) l2.length C2)).setCell ⟨w.heap.size + 1, 0, none⟩ (.string x0)).setCell ⟨w.heap.size + 1, 1, none⟩ ((.slice (some ⟨G1, 0, none⟩) l1.length C1))).setCell ⟨w.heap.size + 1, 2, none⟩ ((.slice (some ⟨G2, 0, none⟩) l2.length C2))) := ⟨_, rfl⟩
  have hgr : Gr (fun b => b = w.heap.size ∨ b = w.heap.size + 1) W4 W := by rw [hW]; exact (((Gr.setCell _ _ _ (by simp)).trans (Gr.setCell _ _ _ (by simp))).trans (Gr.setCell _ _ _ (by simp))).trans (Gr.setCell _ _ _ (by simp))
  have hr : Blk W (w.heap.size + 1) 29 #[.string x0, (.slice (some ⟨G1, 0, none⟩) l1.length C1), (.slice (some ⟨G2, 0, none⟩) l2.length C2)] := by
    rw [hW]
    have s0 : Blk (W4.setCell ⟨w.heap.size, 2, none⟩ (.slice (some ⟨G2, 0, none⟩) l2.length C2)) (w.heap.size + 1) 29 #[.string ⟨#[]⟩, .slice none 0 0, .slice none 0 0] := Hr4.out.far (p := ⟨w.heap.size, 2, none⟩) (by simp) _
    have s1 : Blk _ (w.heap.size + 1) 29 #[.string x0, .slice none 0 0, .slice none 0 0] := s0.set_ 0 (.string x0)
    have s2 : Blk _ (w.heap.size + 1) 29 #[.string x0, (.slice (some ⟨G1, 0, none⟩) l1.length C1), .slice none 0 0] := s1.set_ 1 ((.slice (some ⟨G1, 0, none⟩) l1.length C1))
    have s3 : Blk _ (w.heap.size + 1) 29 #[.string x0, (.slice (some ⟨G1, 0, none⟩) l1.length C1), (.slice (some ⟨G2, 0, none⟩) l2.length C2)] := s2.set_ 2 ((.slice (some ⟨G2, 0, none⟩) l2.length C2))
    exact s3
  rw [← hW]
  clear hW
  have hB : Below w.heap.size w W := ((Gr.of_below (X := fun b => w.heap.size ≤ b) HB4.out).trans (hgr.mono fun k _ x => by rcases x with x | x <;> omega)).below0 fun k hk x => by omega
  have r0 : W.cell? ⟨w.heap.size + 1, 0, none⟩ = some (.string x0) := hr.cell 0
  have r1 : W.cell? ⟨w.heap.size + 1, 1, none⟩ = some ((.slice (some ⟨G1, 0, none⟩) l1.length C1)) := hr.cell 1
  have r2 : W.cell? ⟨w.heap.size + 1, 2, none⟩ = some ((.slice (some ⟨G2, 0, none⟩) l2.length C2)) := hr.cell 2
  have hk : ∀ b, MadeQ (w.heap.size + 2) W4 b → (∀ o, W.cell? ⟨b, o, none⟩ = W4.cell? ⟨b, o, none⟩) ∧ MadeQ w.heap.size W b := fun b ⟨p1, o, p2, p3⟩ => by
    have e := hgr.block b (Array.getElem?_eq_some_iff.1 p2).1 (by omega)
    exact ⟨fun _ => World.cell?_of_block e, by omega, o, e.trans p2, p3⟩
  refine bodyPost_ret (v := .agg #[.string x0, (.slice (some ⟨G1, 0, none⟩) l1.length C1), (.slice (some ⟨G2, 0, none⟩) l2.length C2)]) (by simp [results, Tryz.results47, go_sem, r0, r1, r2]) rfl ⟨_, _, rfl, HL1.out.keep hk _ _, HL2.out.keep hk _ _, hB⟩


theorem cfCause {x : List G} (h : cfE GS GN (GS 0) x) : ∃ (x0 : ByteArray) (l1 : List (List G)) (l2 : List (List G)), x = [.one (.string x0), .row 1 l1, .row 2 l2] ∧ G.cf GS GN (.sl 1) (.row 1 l1) ∧ G.cf GS GN (.sl 2) (.row 2 l2) := by
  have hl := cfE_len h
  match x, hl with
  | [g0, g1, g2], _ =>
    simp only [GS, cfE] at h
    obtain ⟨h0, h1, h2, _⟩ := h
    obtain ⟨x0, e0⟩ : ∃ x : ByteArray, g0 = .one (.string x) := by
      cases g0 with
      | one v => simp only [G.cf] at h0; obtain ⟨y, rfl, _⟩ := h0; exact ⟨y, rfl⟩
      | row _ _ => exact absurd h0 (by simp [G.cf])
    obtain ⟨l1, e1⟩ : ∃ l, g1 = .row 1 l := by
      cases g1 with
      | one v => exact absurd h1 (by simp [G.cf])
      | row t l => have := h1; simp only [G.cf] at this; exact ⟨l, by rw [this.1]⟩
    obtain ⟨l2, e2⟩ : ∃ l, g2 = .row 2 l := by
      cases g2 with
      | one v => exact absurd h2 (by simp [G.cf])
      | row t l => have := h2; simp only [G.cf] at this; exact ⟨l, by rw [this.1]⟩
    subst e0 e1 e2
    exact ⟨x0, l1, l2, rfl, h1, h2⟩

set_option maxRecDepth 100000 in
set_option maxHeartbeats 4000000 in
theorem lentCauses_c (l : List (List G)) (v : Value) (w : World) (hcf : G.cf GS GN (.sl 0) (.row 0 l)) (h : G.rdW w v (.row 0 l)) : Calls Tryz.prog 19 #[v] w (LentGPost w (.row 0 l)) := by
  obtain ⟨i0, hi0, hz0, hz1, hz2⟩ := info_parts info33
  simp only [G.cf] at hcf
  obtain ⟨_, hlen, hcR⟩ := hcf
  have hlen : l.length ≤ 2199023255488 := Nat.le_trans hlen (by decide)
  obtain ⟨A, c, rfl⟩ := rd_slice h
  have hmk : ∀ W, (Instr.makeSlice 22 (.int .i64 0) (.int .i64 ((l.length : Int) + 12))).run Tryz.prog W = .ok (.slice (some ⟨W.heap.size, 0, none⟩) 0 (l.length + 12)) (W.alloc (.cells (madeCells #[.string ⟨#[]⟩, .slice none 0 0, .slice none 0 0] ((l.length + 12) * 3)) 29)) := fun W => by
    have e := run_make_rowN (P := Tryz.prog) 22 29 i0 _ Tryz.underlying22 hi0 hz0 .i64 .i64 0 (l.length + 12) (by omega) (by rw [hz2]; omega) (by omega) W
    rw [hz1] at e
    simpa [Value.cells] using e
  have hwr := IntWalk.i64_in ((l.length : Int) + 12) (by omega)
  obtain ⟨W1, hW1⟩ : ∃ W1, W1 = w.alloc (.cells (madeCells #[.string ⟨#[]⟩, .slice none 0 0, .slice none 0 0] ((l.length + 12) * 3)) 29) := ⟨_, rfl⟩
  have hB1 : Below w.heap.size w W1 := by rw [hW1]; exact (Below.refl _ w).alloc (Nat.le_refl _) _
  have hown1 : W1.ownsRow w.heap.size 29 3 (.slice (some ⟨w.heap.size, 0, none⟩) 0 (l.length + 12)) 0 [] := by rw [hW1]; exact World.ownsRow_made _ _ (l.length + 12) (Nat.le_refl _) (by simp [maxLen]; omega) (by simp [size_madeCells])
  have hGR1 : GR KM 0 3 29 w.heap.size W1 (.slice (some ⟨w.heap.size, 0, none⟩) 0 (l.length + 12)) [] [] 0 := ⟨by simpa using hown1, GVL.nil⟩
  have H := Lib.hid h
  have HC := Lib.hid hcR
  have HW1 := Lib.hid hW1
  have HB1 := Lib.hid hB1
  have HGR1 := Lib.hid hGR1
  clear h hcR hW1 hB1 hGR1 hown1
  go_enter Tryz.func19, Tryz.ntmps19
  go_wp2_with fail
  rw [← HW1.out]
  go_loopw [3, 4] (fun v i wr => ∃ (k : Nat) (L : List (List Value)), k ≤ l.length ∧ i = .int .i64 k ∧ Below w.heap.size w wr ∧ Hid (GR KM 0 3 29 w.heap.size wr v (l.take k) L 0)) (fun _ i _ => l.length - (intOf i).toNat)
  case atStart => exact ⟨0, [], Nat.zero_le _, rfl, HB1.out, HGR1.out⟩
  case round =>
    obtain ⟨k, L, hk, rfl, hBr, hLR⟩ := hrel
    by_cases hlt : k < l.length
    · have h2 := G.rdW.next H.out hBr
      simp only [G.rdW, G.rd] at h2
      obtain ⟨A2, c2', e2, _, _, hrl⟩ := h2
      injection e2 with e2 _ e3
      subst e2 e3
      obtain ⟨b, o, rfl, hb, hR⟩ := hrl (by omega)
      have hd := rdR_get hlt (cfR_len HC.out) hR
      obtain ⟨x0, l1, l2, hx, hc1, hc2⟩ := cfCause (cfR_get hlt HC.out)
      have hi0' : (0 : Int) ≤ (k : Int) := by omega
      have hi1' : (k : Int) < (l.length : Int) := by omega
      have hts : l.take (k + 1) = l.take k ++ [l[k]] := by rw [List.take_add_one, List.getElem?_eq_getElem hlt]; rfl
      have htl : (l.take k).length = k := by simp; omega
      rw [hx] at hd hts
      obtain ⟨u0_, q0, d0⟩ := rdE_at (j := 0) (by simp) hd
      have d0 : G.rd wr (fun b => b < wr.heap.size) u0_ (.one (.string x0)) := d0
      simp only [G.rd] at d0
      subst d0
      have q0 : wr.cell? ⟨b, o + k * 3, none⟩ = some (.string x0) := q0
      obtain ⟨u1_, q1, d1⟩ := rdE_at (j := 1) (by simp) hd
      have d1 : G.rd wr (fun b => b < wr.heap.size) u1_ (.row 1 l1) := d1
      obtain ⟨A1, c1, rfl⟩ := rd_slice d1
      have q1 : wr.cell? ⟨b, o + k * 3 + 1, none⟩ = some (.slice A1 l1.length c1) := q1
      obtain ⟨u2_, q2, d2⟩ := rdE_at (j := 2) (by simp) hd
      have d2 : G.rd wr (fun b => b < wr.heap.size) u2_ (.row 2 l2) := d2
      obtain ⟨A2, c2, rfl⟩ := rd_slice d2
      have q2 : wr.cell? ⟨b, o + k * 3 + 2, none⟩ = some (.slice A2 l2.length c2) := q2
      have hcp := lentCause_c x0 _ _ l1 l2 wr hc1 d1 hc2 d2
      have Hcp := Lib.hid hcp
      have Hts := Lib.hid hts
      have Htl := Lib.hid htl
      clear hcp hts htl hrl hR hd hx hb hc1 d1 hc2 d2
      go_wp2_with fail
      refine Hcp.out.mono ?_
      rintro e W2 ⟨V1, V2, rfl, hl1, hl2, hb2⟩
      obtain ⟨G1, C1, rfl⟩ := ld_slice hl1
      obtain ⟨G2, C2, rfl⟩ := ld_slice hl2
      obtain ⟨X, hX⟩ : ∃ X, X = (W2.alloc (.cells #[.string x0, .slice (some ⟨G1, 0, none⟩) l1.length C1, .slice (some ⟨G2, 0, none⟩) l2.length C2] 29)).alloc (.cells #[.string x0, .slice (some ⟨G1, 0, none⟩) l1.length C1, .slice (some ⟨G2, 0, none⟩) l2.length C2] 29) := ⟨_, rfl⟩
      have hBX : Below W2.heap.size W2 X := by rw [hX]; exact ((Below.refl _ _).alloc (Nat.le_refl _) _).alloc (by simp) _
      have hbT : Blk X (W2.heap.size + 1) 29 #[.string x0, .slice (some ⟨G1, 0, none⟩) l1.length C1, .slice (some ⟨G2, 0, none⟩) l2.length C2] := by
        rw [hX]
        have := Blk.new (W2.alloc (.cells #[.string x0, .slice (some ⟨G1, 0, none⟩) l1.length C1, .slice (some ⟨G2, 0, none⟩) l2.length C2] 29)) 29 #[.string x0, .slice (some ⟨G1, 0, none⟩) l1.length C1, .slice (some ⟨G2, 0, none⟩) l2.length C2]
        simpa only [World.size_alloc] using this
      have hBwX := hb2.trans (hBX.mono hb2.size)
      have hlr := hLR.out.below hBwX
      have hVlt : ∀ b, u3.ownBlock = some b → b < wr.heap.size := fun b hb => (hLR.out.own.lt b hb).2
      have hBr2 := hBr.trans (hBwX.mono hBr.size)
      have hkp : ∀ b, MadeQ wr.heap.size W2 b → (∀ o, X.cell? ⟨b, o, none⟩ = W2.cell? ⟨b, o, none⟩) ∧ (fun b => w.heap.size ≤ b ∧ u3.ownBlock ≠ some b ∧ ∃ o, X.heap[b]? = some o ∧ o.isCells = true) b := fun b ⟨g1, o, g2, g3⟩ => by
        have e := hBX.block b (Array.getElem?_eq_some_iff.1 g2).1
        exact ⟨fun _ => World.cell?_of_block e, by have := hBr.size; omega, fun e2 => by have := hVlt b e2; omega, o, e.trans g2, g3⟩
      have hxy : ∀ j (hj : j < ([.string x0, .slice (some ⟨G1, 0, none⟩) l1.length C1, .slice (some ⟨G2, 0, none⟩) l2.length C2] : List Value).length) (hj' : j < ([.one (.string x0), .row 1 l1, .row 2 l2] : List G).length), G.ld KM X (fun b => w.heap.size ≤ b ∧ u3.ownBlock ≠ some b ∧ ∃ o, X.heap[b]? = some o ∧ o.isCells = true) ([.string x0, .slice (some ⟨G1, 0, none⟩) l1.length C1, .slice (some ⟨G2, 0, none⟩) l2.length C2] : List Value)[j] ([.one (.string x0), .row 1 l1, .row 2 l2] : List G)[j] := fun j hj hj' => by
        match j, hj with
        | 0, _ => exact by simp [G.ld]
        | 1, _ => exact hl1.keep hkp _ _
        | 2, _ => exact hl2.keep hkp _ _
      have hown0 : X.ownsRow w.heap.size 29 3 u3 k L.flatten := by have := hlr.own; rw [Htl.out] at this; simpa using this
      have Hlr := Lib.hid hlr
      have HbT := Lib.hid hbT
      have Hxy := Lib.hid hxy
      have HBX := Lib.hid hBr2
      have Hown0 := Lib.hid hown0
      have HX := Lib.hid hX
      clear hlr hbT hxy hkp hBr2 hLR hl1 hl2 hBwX hBX hb2 q0 q1 q2 hown0 hX
      go_wp2_with (at_builtin; rw [← HX.out]; refine wpList_append_lies _ rfl _ _ 22 rfl w.heap.size 29 i0 _ 3 64 Tryz.underlying22 hi0 hz0 hz1 hz2 rfl (by decide) u3 k _ rfl Hown0.out ⟨W2.heap.size + 1, 0, none⟩ 1 1 [.string x0, .slice (some ⟨G1, 0, none⟩) l1.length C1, .slice (some ⟨G2, 0, none⟩) l2.length C2] rfl rfl (World.news_of_block HbT.out) (by simp [Value.oneCell']) (by omega) (by unfold maxLen; omega) (by omega) HBX.out.size _ rfl ?_)
      intro g cap w3 hown hgrow hg hgl
      have hpush := Hlr.out.push (x := [.string x0, .slice (some ⟨G1, 0, none⟩) l1.length C1, .slice (some ⟨G2, 0, none⟩) l2.length C2]) (y := [.one (.string x0), .row 1 l1, .row 2 l2]) hgrow (by rw [Htl.out]; exact hown) (by rcases hg with hg | hg; exact .inl hg.symm; exact .inr ⟨g, rfl, by omega⟩) rfl rfl Hxy.out
      rw [← Hts.out] at hpush
      have hB5 : Below w.heap.size w w3 := HBX.out.grown hgrow HBX.out.size (fun b hb => (Hlr.out.own.lt b hb).1)
      have HP := Lib.hid hpush
      clear hown hgrow hg hpush Hlr HbT Hxy HBX HX Hown0
      go_wp2_with fail
      go_roundw
      case rel => exact ⟨k + 1, _, by omega, by go_num, hB5, HP.out⟩
      case measure => simp [intOf]; omega
    · obtain rfl : k = l.length := by omega
      have hfin := hLR.out
      rw [List.take_length] at hfin
      have HF := Lib.hid hfin
      have HB := Lib.hid hBr
      clear hLR hfin hBr hlt
      go_wp2_with fail
      go_loopw [3, 6] (fun v i wr => ∃ j : Nat, j ≤ 12 ∧ i = .int .i64 j ∧ Below w.heap.size w wr ∧ Hid (GR KM 0 3 29 w.heap.size wr v l L j)) (fun _ i _ => 12 - (intOf i).toNat)
      case atStart => exact ⟨0, by omega, rfl, HB.out, HF.out⟩
      case round =>
        obtain ⟨k, hj, rfl, hBm, hLR⟩ := hrel
        by_cases hlt : k < 12
        · have hmark := markCause_c k wr (by omega)
          have hdj : decide ((k : Int) < 12) = true := decide_eq_true (by omega)
          have Hmark := Lib.hid hmark
          clear hmark
          go_wp2_with fail
          refine Hmark.out.mono ?_
          rintro e w3 ⟨rfl, hb3⟩
          obtain ⟨X, hX⟩ : ∃ X, X = w3.alloc (.cells #[.string (mkT k), .slice none 0 0, .slice none 0 0] 29) := ⟨_, rfl⟩
          have hBX : Below w3.heap.size w3 X := by rw [hX]; exact (Below.refl _ _).alloc (Nat.le_refl _) _
          have hbT : Blk X w3.heap.size 29 #[.string (mkT k), .slice none 0 0, .slice none 0 0] := by rw [hX]; exact Blk.new w3 29 _
          have hBwX := hb3.trans (hBX.mono hb3.size)
          have hlr := hLR.out.below hBwX
          have hBr2 := hBm.trans (hBwX.mono hBm.size)
          have Hlr := Lib.hid hlr
          have HbT := Lib.hid hbT
          have HBX := Lib.hid hBr2
          have HX := Lib.hid hX
          clear hlr hbT hBr2 hLR hBwX hBX hb3 hX Hmark
          go_wp2_with (at_builtin; rw [← HX.out]; refine wpList_append_lies _ rfl _ _ 22 rfl w.heap.size 29 i0 _ 3 64 Tryz.underlying22 hi0 hz0 hz1 hz2 rfl (by decide) _ (l.length + k) _ rfl Hlr.out.own ⟨w3.heap.size, 0, none⟩ 1 1 (KM 0 k) rfl rfl (World.news_of_block HbT.out) (by simp [KM, Value.oneCell']) (by omega) (by unfold maxLen; omega) (by omega) HBX.out.size X.heap.size rfl ?_)
          intro g cap w4 hown hgrow hg hgl
          have hpush := Hlr.out.mark (V := .slice (some ⟨g, 0, none⟩) (l.length + k + 1) cap) hgrow (by rw [List.flatten_append, List.append_assoc]; exact hown) (by rcases hg with hg | hg; exact .inl hg.symm; exact .inr ⟨g, rfl, by omega⟩)
          have hB5 : Below w.heap.size w w4 := HBX.out.grown hgrow HBX.out.size (fun b hb => (Hlr.out.own.lt b hb).1)
          have HP := Lib.hid hpush
          clear hown hgrow hg hpush Hlr HbT HBX HX
          go_wp2_with fail
          go_roundw
          case rel => exact ⟨k + 1, by omega, by go_num, hB5, HP.out⟩
          case measure => simp [intOf]; omega
        · obtain rfl : k = 12 := by omega
          have hdj : decide (((12 : Nat) : Int) < 12) = false := by decide
          obtain ⟨g, cap, rfl, hld⟩ := hLR.out.fin (by decide) (fun i => rfl)
          have hcap : l.length + 12 ≤ cap := by
            have := hld
            simp only [G.ld] at this
            obtain ⟨g2, c2, e, h1, _⟩ := this
            injection e with _ _ e; omega
          have HF2 := Lib.hid hld
          clear hLR hld
          go_wp2_with fail
          go_ret
          exact ⟨_, rfl, HF2.out, hBm⟩

end Go.Proofs.YtknojjlfgjkbiaaGreatDoor
/- SameReports, SameTexts, SameCause, KeptCause, KeptCauses. Printed by wip/gen/lk41.py. -/
namespace Go.Proofs.YtknojjlfgjkbiaaGreatDoor
open Go.ChangeShapes Go.WideShapes Go.ChangeAt Go.RowKit Go.Deep
attribute [local go_sem] Oper.semAt_some

theorem neq32_same (x0 : ByteArray) (x1 : Int) (W : World) : (binOp .neq 32 (.agg #[.string x0, .int .i64 x1]) (.agg #[.string x0, .int .i64 x1])).run Tryz.prog W = .ok (.bool false) W := by
  have u3 := Tryz.underlying3
  have u4 := Tryz.underlying4
  have u5 := Tryz.underlying5
  have u9 := Tryz.underlying9
  have hS : Tryz.prog.underlying 32 = some (.struct (Tryz.prog.fieldsOf 32)) := by kernel_rfl
  have hp : Tryz.prog.stoodInHeld 32 = false := by kernel_rfl
  rw [run_neq_struct, show (10000 : Nat) = 9999 + 1 from rfl, run_equalIn_agg W 9999 32 _ _ hS hp]
  simp only [Program.fieldsOf, Tryz.underlying32]
  go_simp

set_option maxRecDepth 100000 in
set_option maxHeartbeats 4000000 in
theorem sameReportsG_c (l : List (List G)) (v v' : Value) (w : World) (hcf : G.cf GS GN (.sl 1) (.row 1 l)) (h : G.rdW w v (.row 1 l)) (h' : G.rdW w v' (.row 1 l)) :
    Calls Tryz.prog 17 #[v, v'] w fun e w' => e = .returned (.bool true) ∧ Below w.heap.size w w' := by
  simp only [G.cf] at hcf
  obtain ⟨_, hlen, hcR⟩ := hcf
  have hlen : l.length ≤ 5864062014634 := Nat.le_trans hlen (by decide)
  obtain ⟨A, c, rfl⟩ := rd_slice h
  obtain ⟨A', c', rfl⟩ := rd_slice h'
  have hne : ((l.length : Int) != (l.length : Int)) = false := by simp
  have H := Lib.hid h
  have H' := Lib.hid h'
  have HC := Lib.hid hcR
  clear h h' hcR
  go_enter Tryz.func17, Tryz.ntmps17
  go_wp2_with fail
  go_loopw [5] (fun i wr => ∃ k : Nat, k ≤ l.length ∧ i = .int .i64 k ∧ Below w.heap.size w wr) (fun i _ => l.length - (intOf i).toNat)
  case atStart => exact ⟨0, by omega, rfl, Below.refl _ _⟩
  case round =>
    obtain ⟨k, hk, rfl, hBr⟩ := hrel
    by_cases hlt : k < l.length
    · obtain ⟨x0, x1, hx⟩ := cfReports (cfR_get hlt HC.out)
      have h2 := G.rdW.next H.out hBr
      simp only [G.rdW, G.rd] at h2
      obtain ⟨A2, c2, e2, _, _, hrl⟩ := h2
      injection e2 with e2 _ e3
      subst e2 e3
      obtain ⟨b, o, rfl, hb, hR⟩ := hrl (by omega)
      have hd := rdR_get hlt (cfR_len HC.out) hR
      rw [hx] at hd
      simp only [rdE, G.rd, exists_eq_right] at hd
      have c0 : wr.cell? ⟨b, o + (k * 2), none⟩ = some (.string x0) := hd.1
      have c1 : wr.cell? ⟨b, o + (k * 2) + 1, none⟩ = some (.int .i64 x1) := hd.2.1
      clear hd hR hrl
      have h2 := G.rdW.next H'.out hBr
      simp only [G.rdW, G.rd] at h2
      obtain ⟨A2, c2, e2, _, _, hrl⟩ := h2
      injection e2 with e2 _ e3
      subst e2 e3
      obtain ⟨b1, o1, rfl, hb1, hR⟩ := hrl (by omega)
      have hd := rdR_get hlt (cfR_len HC.out) hR
      rw [hx] at hd
      simp only [rdE, G.rd, exists_eq_right] at hd
      have d0 : wr.cell? ⟨b1, o1 + (k * 2), none⟩ = some (.string x0) := hd.1
      have d1 : wr.cell? ⟨b1, o1 + (k * 2) + 1, none⟩ = some (.int .i64 x1) := hd.2.1
      clear hd hR hrl
      have hi0 : (0 : Int) ≤ (k : Int) := by omega
      have hi2 : (k : Int) < (l.length : Int) := by omega
      have heq := fun W => neq32_same x0 x1 W
      have hgd := guard32_
      clear hx hlt H H' HC
      go_wp2_with fail
      go_quiet (fail)
      go_wp2_with fail
      go_roundw
      case rel => exact ⟨k + 1, by omega, by go_num, below_drewN hBr _⟩
      case measure => simp [intOf]; omega
    · obtain rfl : k = l.length := by omega
      go_wp2_with fail
      go_ret
      exact ⟨rfl, hBr⟩

set_option maxRecDepth 100000 in
set_option maxHeartbeats 4000000 in
theorem sameTextsG_c (l : List (List G)) (v v' : Value) (w : World) (hcf : G.cf GS GN (.sl 2) (.row 2 l)) (h : G.rdW w v (.row 2 l)) (h' : G.rdW w v' (.row 2 l)) :
    Calls Tryz.prog 91 #[v, v'] w fun e w' => e = .returned (.bool true) ∧ Below w.heap.size w w' := by
  simp only [G.cf] at hcf
  obtain ⟨_, hlen, hcR⟩ := hcf
  have hlen : l.length ≤ 8796093021952 := Nat.le_trans hlen (by decide)
  obtain ⟨A, c, rfl⟩ := rd_slice h
  obtain ⟨A', c', rfl⟩ := rd_slice h'
  have hne : ((l.length : Int) != (l.length : Int)) = false := by simp
  have H := Lib.hid h
  have H' := Lib.hid h'
  have HC := Lib.hid hcR
  clear h h' hcR
  go_enter Tryz.func91, Tryz.ntmps91
  go_wp2_with fail
  go_loopw [5] (fun i wr => ∃ k : Nat, k ≤ l.length ∧ i = .int .i64 k ∧ Below w.heap.size w wr) (fun i _ => l.length - (intOf i).toNat)
  case atStart => exact ⟨0, by omega, rfl, Below.refl _ _⟩
  case round =>
    obtain ⟨k, hk, rfl, hBr⟩ := hrel
    by_cases hlt : k < l.length
    · obtain ⟨x0, hx⟩ := cfTexts (cfR_get hlt HC.out)
      have h2 := G.rdW.next H.out hBr
      simp only [G.rdW, G.rd] at h2
      obtain ⟨A2, c2, e2, _, _, hrl⟩ := h2
      injection e2 with e2 _ e3
      subst e2 e3
      obtain ⟨b, o, rfl, hb, hR⟩ := hrl (by omega)
      have hd := rdR_get hlt (cfR_len HC.out) hR
      rw [hx] at hd
      simp only [rdE, G.rd, exists_eq_right] at hd
      have c0 : wr.cell? ⟨b, o + k, none⟩ = some (.string x0) := by have := hd.1; simpa [GS] using this
      clear hd hR hrl
      have h2 := G.rdW.next H'.out hBr
      simp only [G.rdW, G.rd] at h2
      obtain ⟨A2, c2, e2, _, _, hrl⟩ := h2
      injection e2 with e2 _ e3
      subst e2 e3
      obtain ⟨b1, o1, rfl, hb1, hR⟩ := hrl (by omega)
      have hd := rdR_get hlt (cfR_len HC.out) hR
      rw [hx] at hd
      simp only [rdE, G.rd, exists_eq_right] at hd
      have d0 : wr.cell? ⟨b1, o1 + k, none⟩ = some (.string x0) := by have := hd.1; simpa [GS] using this
      clear hd hR hrl
      have hi0 : (0 : Int) ≤ (k : Int) := by omega
      have hi2 : (k : Int) < (l.length : Int) := by omega
      have t5 : (x0.toList == x0.toList) = true := by simp
      
      clear hx hlt H H' HC
      go_wp2_with fail
      go_quiet (fail)
      go_wp2_with fail
      go_roundw
      case rel => exact ⟨k + 1, by omega, by go_num, below_drewN hBr _⟩
      case measure => simp [intOf]; omega
    · obtain rfl : k = l.length := by omega
      go_wp2_with fail
      go_ret
      exact ⟨rfl, hBr⟩


set_option maxRecDepth 100000 in
set_option maxHeartbeats 4000000 in
theorem sameCauseG_c (x0 : ByteArray) (v1 v1' : Value) (l1 : List (List G)) (v2 v2' : Value) (l2 : List (List G)) (w : World) (hc1 : G.cf GS GN (.sl 1) (.row 1 l1)) (h1 : G.rdW w v1 (.row 1 l1)) (h1' : G.rdW w v1' (.row 1 l1)) (hc2 : G.cf GS GN (.sl 2) (.row 2 l2)) (h2 : G.rdW w v2 (.row 2 l2)) (h2' : G.rdW w v2' (.row 2 l2)) : Calls Tryz.prog 59 #[.agg #[.string x0, v1, v2], .agg #[.string x0, v1', v2']] w fun e w' => e = .returned (.bool true) ∧ Below w.heap.size w w' := by
  obtain ⟨A1, c1, rfl⟩ := rd_slice h1
  obtain ⟨A1', c1', rfl⟩ := rd_slice h1'
  obtain ⟨A2, c2, rfl⟩ := rd_slice h2
  obtain ⟨A2', c2', rfl⟩ := rd_slice h2'
  obtain ⟨W0, hW0⟩ : ∃ W0, W0 = (w.alloc (.cells #[.string x0, .slice A1 l1.length c1, .slice A2 l2.length c2] 29)).alloc (.cells #[.string x0, .slice A1' l1.length c1', .slice A2' l2.length c2'] 29) := ⟨_, rfl⟩
  have hB0 : Below w.heap.size w W0 := by rw [hW0]; exact ((Below.refl _ w).alloc (Nat.le_refl _) _).alloc (by simp) _
  have hb0 : Blk W0 w.heap.size 29 #[.string x0, .slice A1 l1.length c1, .slice A2 l2.length c2] := by rw [hW0]; exact (Blk.new w 29 _).alloc _
  have hr0 : Blk W0 (w.heap.size + 1) 29 #[.string x0, .slice A1' l1.length c1', .slice A2' l2.length c2'] := by
    rw [hW0]
    have := Blk.new (w.alloc (.cells #[.string x0, .slice A1 l1.length c1, .slice A2 l2.length c2] 29)) 29 #[.string x0, .slice A1' l1.length c1', .slice A2' l2.length c2']
    simpa only [World.size_alloc] using this
  have e0' : (x0.toList == x0.toList) = true := by simp
  have H1 := Lib.hid h1
  have H1' := Lib.hid h1'
  have HC1 := Lib.hid hc1
  have H2 := Lib.hid h2
  have H2' := Lib.hid h2'
  have HC2 := Lib.hid hc2
  have HW0 := Lib.hid hW0
  have HB0 := Lib.hid hB0
  have Hb0 := Lib.hid hb0
  have Hr0 := Lib.hid hr0
  clear hW0 hB0 hb0 hr0 h1 h1' hc1 h2 h2' hc2
  go_enter Tryz.func59, Tryz.ntmps59
  go_wp2_with fail
  rw [← HW0.out]
  clear HW0
  refine (sameReportsG_c l1 _ _ W0 HC1.out (H1.out.next HB0.out) (H1'.out.next HB0.out)).mono ?_
  rintro e W1 ⟨rfl, hb⟩
  have HB1 := Lib.hid (HB0.out.trans (hb.mono HB0.out.size))
  have Hb1 := Lib.hid (Hb0.out.below hb Hb0.out.lt)
  have Hr1 := Lib.hid (Hr0.out.below hb Hr0.out.lt)
  clear hb HB0 Hb0 Hr0
  have q2 : W1.cell? ⟨w.heap.size, 2, none⟩ = some (.slice A2 l2.length c2) := Hb1.out.cell 2
  have r2 : W1.cell? ⟨w.heap.size + 1, 2, none⟩ = some (.slice A2' l2.length c2') := Hr1.out.cell 2
  go_wp2_with fail
  refine (sameTextsG_c l2 _ _ W1 HC2.out (H2.out.next HB1.out) (H2'.out.next HB1.out)).mono ?_
  rintro e W2 ⟨rfl, hb⟩
  have HB2 := Lib.hid (HB1.out.trans (hb.mono HB1.out.size))
  have Hb2 := Lib.hid (Hb1.out.below hb Hb1.out.lt)
  have Hr2 := Lib.hid (Hr1.out.below hb Hr1.out.lt)
  clear hb HB1 Hb1 Hr1
  go_wp2_with fail
  go_ret
  exact ⟨rfl, HB2.out⟩


set_option maxRecDepth 100000 in
set_option maxHeartbeats 4000000 in
theorem keptCause_c (x0 : ByteArray) (V1 v1 : Value) (l1 : List (List G)) (V2 v2 : Value) (l2 : List (List G)) (w : World) (hc1 : G.cf GS GN (.sl 1) (.row 1 l1)) (hV1 : G.ldW KM w V1 (.row 1 l1)) (h1 : G.rdW w v1 (.row 1 l1)) (hc2 : G.cf GS GN (.sl 2) (.row 2 l2)) (hV2 : G.ldW KM w V2 (.row 2 l2)) (h2 : G.rdW w v2 (.row 2 l2)) : Calls Tryz.prog 58 #[.agg #[.string x0, V1, V2], .agg #[.string x0, v1, v2]] w fun e w' => e = .returned (.bool true) ∧ Below w.heap.size w w' := by
  obtain ⟨G1, C1, rfl⟩ := ld_slice hV1
  obtain ⟨A1, c1, rfl⟩ := rd_slice h1
  obtain ⟨G2, C2, rfl⟩ := ld_slice hV2
  obtain ⟨A2, c2, rfl⟩ := rd_slice h2
  obtain ⟨W0, hW0⟩ : ∃ W0, W0 = (w.alloc (.cells #[.string x0, .slice (some ⟨G1, 0, none⟩) l1.length C1, .slice (some ⟨G2, 0, none⟩) l2.length C2] 29)).alloc (.cells #[.string x0, .slice A1 l1.length c1, .slice A2 l2.length c2] 29) := ⟨_, rfl⟩
  have hB0 : Below w.heap.size w W0 := by rw [hW0]; exact ((Below.refl _ w).alloc (Nat.le_refl _) _).alloc (by simp) _
  have hb0 : Blk W0 w.heap.size 29 #[.string x0, .slice (some ⟨G1, 0, none⟩) l1.length C1, .slice (some ⟨G2, 0, none⟩) l2.length C2] := by rw [hW0]; exact (Blk.new w 29 _).alloc _
  have hr0 : Blk W0 (w.heap.size + 1) 29 #[.string x0, .slice A1 l1.length c1, .slice A2 l2.length c2] := by
    rw [hW0]
    have := Blk.new (w.alloc (.cells #[.string x0, .slice (some ⟨G1, 0, none⟩) l1.length C1, .slice (some ⟨G2, 0, none⟩) l2.length C2] 29)) 29 #[.string x0, .slice A1 l1.length c1, .slice A2 l2.length c2]
    simpa only [World.size_alloc] using this
  have H1 := Lib.hid h1
  have HV1 := Lib.hid hV1
  have HC1 := Lib.hid hc1
  have H2 := Lib.hid h2
  have HV2 := Lib.hid hV2
  have HC2 := Lib.hid hc2
  have HW0 := Lib.hid hW0
  have HB0 := Lib.hid hB0
  have Hb0 := Lib.hid hb0
  have Hr0 := Lib.hid hr0
  have q0 : W0.cell? ⟨w.heap.size, 0, none⟩ = some (.string x0) := hb0.cell 0
  have r0 : W0.cell? ⟨w.heap.size + 1, 0, none⟩ = some (.string x0) := hr0.cell 0
  have q1 : W0.cell? ⟨w.heap.size, 1, none⟩ = some (.slice (some ⟨G1, 0, none⟩) l1.length C1) := hb0.cell 1
  have r1 : W0.cell? ⟨w.heap.size + 1, 1, none⟩ = some (.slice A1 l1.length c1) := hr0.cell 1
  have q2 : W0.cell? ⟨w.heap.size, 2, none⟩ = some (.slice (some ⟨G2, 0, none⟩) l2.length C2) := hb0.cell 2
  have r2 : W0.cell? ⟨w.heap.size + 1, 2, none⟩ = some (.slice A2 l2.length c2) := hr0.cell 2
  clear hW0 hB0 hb0 hr0 h1 hV1 hc1 h2 hV2 hc2
  go_enter Tryz.func58, Tryz.ntmps58
  go_wp2_with fail
  rw [← HW0.out]
  clear HW0
  go_wp2_with fail
  refine (sameCauseG_c x0 _ _ l1 _ _ l2 W0 HC1.out (G.ld.rd _ _ (HV1.out.next HB0.out)) (H1.out.next HB0.out) HC2.out (G.ld.rd _ _ (HV2.out.next HB0.out)) (H2.out.next HB0.out)).mono ?_
  rintro e W1 ⟨rfl, hb⟩
  have HB1 := Lib.hid (HB0.out.trans (hb.mono HB0.out.size))
  have Hb1 := Lib.hid (Hb0.out.below hb Hb0.out.lt)
  have Hr1 := Lib.hid (Hr0.out.below hb Hr0.out.lt)
  clear hb HB0 Hb0 Hr0 q0 r0 q1 r1 q2 r2
  have q1 : W1.cell? ⟨w.heap.size, 1, none⟩ = some (.slice (some ⟨G1, 0, none⟩) l1.length C1) := Hb1.out.cell 1
  have r1 : W1.cell? ⟨w.heap.size + 1, 1, none⟩ = some (.slice A1 l1.length c1) := Hr1.out.cell 1
  go_wp2_with fail
  refine (keptReports_c l1 _ _ W1 HC1.out (HV1.out.next HB1.out) (H1.out.next HB1.out)).mono ?_
  rintro e W2 ⟨rfl, hb⟩
  have HB2 := Lib.hid (HB1.out.trans (hb.mono HB1.out.size))
  have Hb2 := Lib.hid (Hb1.out.below hb Hb1.out.lt)
  have Hr2 := Lib.hid (Hr1.out.below hb Hr1.out.lt)
  clear hb HB1 Hb1 Hr1 q1 r1
  have q2 : W2.cell? ⟨w.heap.size, 2, none⟩ = some (.slice (some ⟨G2, 0, none⟩) l2.length C2) := Hb2.out.cell 2
  have r2 : W2.cell? ⟨w.heap.size + 1, 2, none⟩ = some (.slice A2 l2.length c2) := Hr2.out.cell 2
  go_wp2_with fail
  refine (keptTexts_c l2 _ _ W2 HC2.out (HV2.out.next HB2.out) (H2.out.next HB2.out)).mono ?_
  rintro e W3 ⟨rfl, hb⟩
  have HB3 := Lib.hid (HB2.out.trans (hb.mono HB2.out.size))
  have Hb3 := Lib.hid (Hb2.out.below hb Hb2.out.lt)
  have Hr3 := Lib.hid (Hr2.out.below hb Hr2.out.lt)
  clear hb HB2 Hb2 Hr2 q2 r2
  go_wp2_with fail
  go_ret
  exact ⟨rfl, HB3.out⟩


theorem ldE_at {mk : Nat → Nat → List Value} {w : World} {Q : Nat → Prop} {b : Nat} : ∀ {e : List G} {o j : Nat} (hj : j < e.length), ldE mk w Q b o e → ∃ v, w.cell? ⟨b, o + j, none⟩ = some v ∧ G.ld mk w Q v e[j] := fun {e o j} hj h => by
  obtain ⟨vs, h1, h2, h3⟩ := ldE_vals h
  exact ⟨vs[j]'(by omega), h2 j _ (List.getElem?_eq_getElem _), h3 j (by omega) hj⟩
theorem rdW_nil (w : World) (t : Nat) : G.rdW w (.slice none 0 0) (.row t []) := by
  simp only [G.rdW, G.rd]
  exact ⟨none, 0, rfl, Nat.le_refl _, Nat.zero_le _, fun h => absurd h (by simp)⟩
theorem cf_nil (t : Nat) : G.cf GS GN (.sl t) (.row t []) := by
  simp only [G.cf]
  exact ⟨trivial, Nat.zero_le _, by simp only [cfR]⟩

theorem slice_to22_ (A : Option Addr) (m n co : Nat) (h : n ≤ co) (W : World) : (Instr.sliceAt 22 (.slice A m co) none (some (.int .i64 n)) none).run Tryz.prog W = .ok (.slice A n co) W := by
  have h0 : (0 : Int) ≤ (n : Int) := by omega
  have h1 : (n : Int) ≤ (co : Int) := by omega
  simp [go_sem, h0, h1, sliced, map_add_zero]

section
attribute [-go_sem] run_sliceAt_slice
set_option maxRecDepth 100000 in
set_option maxHeartbeats 4000000 in
theorem keptCauses_c (l : List (List G)) (V v : Value) (w : World) (hcf : G.cf GS GN (.sl 0) (.row 0 l)) (hV : G.ldW KM w V (.row 0 l)) (h : G.rdW w v (.row 0 l)) :
    Calls Tryz.prog 29 #[V, v] w fun e w' => e = .returned (.bool true) ∧ Below w.heap.size w w' := by
  simp only [G.cf] at hcf
  obtain ⟨_, hlen, hcR⟩ := hcf
  have hlen : l.length ≤ 2199023255488 := Nat.le_trans hlen (by decide)
  obtain ⟨g, cap, rfl, hcap, hcm⟩ : ∃ g cap, V = .slice (some ⟨g, 0, none⟩) l.length cap ∧ l.length + 12 ≤ cap ∧ cap ≤ maxLen := by
    have := hV
    simp only [G.ldW, G.ld] at this
    obtain ⟨g, cap, h1, h2, h3, _⟩ := this
    exact ⟨g, cap, h1, h2, h3⟩
  obtain ⟨A, c, rfl⟩ := rd_slice h
  have hne : ((l.length : Int) != (l.length : Int)) = false := by simp
  have hwr := IntWalk.i64_in ((l.length : Int) + 12) (by omega)
  have hsl : ∀ W, (Instr.sliceAt 22 (.slice (some ⟨g, 0, none⟩) l.length cap) none (some (.int .i64 ((l.length : Int) + 12))) none).run Tryz.prog W = .ok (.slice (some ⟨g, 0, none⟩) (l.length + 12) cap) W := fun W => by
    have := slice_to22_ (some ⟨g, 0, none⟩) l.length (l.length + 12) cap hcap W
    simpa using this
  have H := Lib.hid h
  have HV := Lib.hid hV
  have HC := Lib.hid hcR
  clear h hV hcR
  go_enter Tryz.func29, Tryz.ntmps29
  go_wp2_with fail
  go_loopw [6] (fun i wr => ∃ k : Nat, k ≤ l.length + 12 ∧ i = .int .i64 k ∧ Below w.heap.size w wr) (fun i _ => l.length + 12 - (intOf i).toNat)
  case atStart => exact ⟨0, by omega, rfl, Below.refl _ _⟩
  case round =>
    obtain ⟨k, hk, rfl, hBr⟩ := hrel
    have hV2 := G.ldW.next HV.out hBr
    have h2 := G.rdW.next H.out hBr
    simp only [G.ldW, G.ld] at hV2
    simp only [G.rdW, G.rd] at h2
    obtain ⟨g2, cap2, e2, _, _, hg2, hld, hmk⟩ := hV2
    injection e2 with e2 _ e3
    injection e2 with e2
    injection e2 with e2
    subst e2 e3
    obtain ⟨A2, c2, e2, hlc, hlm, hrl⟩ := h2
    injection e2 with e2 _ e3
    subst e2 e3
    have hec := ext_cell wr
    have hi0 : (0 : Int) ≤ (k : Int) := by omega
    by_cases hlt : k < l.length
    · obtain ⟨b, o, rfl, hb, hR⟩ := hrl (by omega)
      have hd := rdR_get hlt (cfR_len HC.out) hR
      have hc := ldR_get hlt (cfR_len HC.out) hld
      obtain ⟨x0, l1, l2, hx, hc1, hc2⟩ := cfCause (cfR_get hlt HC.out)
      rw [hx] at hd hc
      obtain ⟨u0_, p0, d0⟩ := rdE_at (j := 0) (by simp) hd
      have d0 : G.rd wr (fun b => b < wr.heap.size) u0_ (.one (.string x0)) := d0
      simp only [G.rd] at d0
      subst d0
      have p0 : wr.cell? ⟨b, o + k * 3, none⟩ = some (.string x0) := p0
      obtain ⟨u1_, p1, d1⟩ := rdE_at (j := 1) (by simp) hd
      have d1 : G.rd wr (fun b => b < wr.heap.size) u1_ (.row 1 l1) := d1
      obtain ⟨A1, c1, rfl⟩ := rd_slice d1
      have p1 : wr.cell? ⟨b, o + k * 3 + 1, none⟩ = some (.slice A1 l1.length c1) := p1
      obtain ⟨u2_, p2, d2⟩ := rdE_at (j := 2) (by simp) hd
      have d2 : G.rd wr (fun b => b < wr.heap.size) u2_ (.row 2 l2) := d2
      obtain ⟨A2, c2, rfl⟩ := rd_slice d2
      have p2 : wr.cell? ⟨b, o + k * 3 + 2, none⟩ = some (.slice A2 l2.length c2) := p2
      obtain ⟨u0_, q0, D0⟩ := ldE_at (j := 0) (by simp) hc
      have D0 : G.ld KM wr (fun b => b < wr.heap.size) u0_ (.one (.string x0)) := D0
      simp only [G.ld] at D0
      subst D0
      have q0 : wr.cell? ⟨g, k * 3, none⟩ = some (.string x0) := by simpa [GS] using q0
      obtain ⟨u1_, q1, D1⟩ := ldE_at (j := 1) (by simp) hc
      have D1 : G.ld KM wr (fun b => b < wr.heap.size) u1_ (.row 1 l1) := D1
      obtain ⟨G1, C1, rfl⟩ := ld_slice D1
      have q1 : wr.cell? ⟨g, k * 3 + 1, none⟩ = some (.slice (some ⟨G1, 0, none⟩) l1.length C1) := by simpa [GS] using q1
      obtain ⟨u2_, q2, D2⟩ := ldE_at (j := 2) (by simp) hc
      have D2 : G.ld KM wr (fun b => b < wr.heap.size) u2_ (.row 2 l2) := D2
      obtain ⟨G2, C2, rfl⟩ := ld_slice D2
      have q2 : wr.cell? ⟨g, k * 3 + 2, none⟩ = some (.slice (some ⟨G2, 0, none⟩) l2.length C2) := by simpa [GS] using q2
      have hi1 : (k : Int) < (l.length : Int) + 12 := by omega
      have hi2 : (k : Int) < (l.length : Int) := by omega
      have t1 : decide ((k : Int) < (l.length : Int)) = true := decide_eq_true hi2
      have t2 : decide ((k : Int) ≥ (l.length : Int)) = false := decide_eq_false (by omega)
      have t3 : decide (k < l.length) = true := decide_eq_true hlt
      have t4 : decide (l.length ≤ k) = false := decide_eq_false (by omega)
      have hcl : ∀ y : Ext wr, Calls Tryz.prog 58 #[.agg #[.string x0, .slice (some ⟨G1, 0, none⟩) l1.length C1, .slice (some ⟨G2, 0, none⟩) l2.length C2], .agg #[.string x0, .slice A1 l1.length c1, .slice A2 l2.length c2]] y.w fun e w' => e = .returned (.bool true) ∧ Below y.w.heap.size y.w w' := fun y =>
        keptCause_c x0 _ _ l1 _ _ l2 y.w hc1 (G.ldW.next D1 y.h) (G.rdW.next d1 y.h) hc2 (G.ldW.next D2 y.h) (G.rdW.next d2 y.h)
      have Hcl := Lib.hid hcl
      clear hcl hd hc hx hR hrl hld hmk hlt H HV HC hc1 d1 D1 hc2 d2 D2
      go_wp2_with fail
      refine wp_region_ext (by kernel_rfl) (by kernel_rfl) ?_
      repeat (go_big_quiet_step ((go_at_call 58; with_reducible exact ext_call (Hcl.out _))))
      refine wpQuiet_nil ?_
      intro _ hw'
      obtain ⟨xx, hw''⟩ := hw'
      subst hw''
      have hB2 := hBr.trans (xx.h.mono hBr.size)
      clear hec Hcl p0 q0 p1 q1 p2 q2
      generalize xx.w = w9 at hB2 ⊢
      go_wp2_with fail
      go_roundw
      case rel => exact ⟨k + 1, by omega, by go_num, hB2⟩
      case measure => simp [intOf]; omega
    · by_cases hlt2 : k < l.length + 12
      · have c0 := hmk (k - l.length) 0 _ (by omega) rfl
        rw [show l.length + (k - l.length) = k by omega] at c0
        have c0 : wr.cell? ⟨g, k * 3, none⟩ = some (.string (mkT (k - l.length))) := by simpa [KM] using c0
        have c1 := hmk (k - l.length) 1 _ (by omega) rfl
        rw [show l.length + (k - l.length) = k by omega] at c1
        have c1 : wr.cell? ⟨g, k * 3 + 1, none⟩ = some (.slice none 0 0) := by simpa [KM] using c1
        have c2 := hmk (k - l.length) 2 _ (by omega) rfl
        rw [show l.length + (k - l.length) = k by omega] at c2
        have c2 : wr.cell? ⟨g, k * 3 + 2, none⟩ = some (.slice none 0 0) := by simpa [KM] using c2
        have hi1 : (k : Int) < (l.length : Int) + 12 := by omega
        have t1 : decide ((k : Int) < (l.length : Int)) = false := decide_eq_false (by omega)
        have t2 : decide ((k : Int) ≥ (l.length : Int)) = true := decide_eq_true (by omega)
        have t3 : decide (k < l.length) = false := decide_eq_false hlt
        have t4 : decide (l.length ≤ k) = true := decide_eq_true (by omega)
        have hmark : ∀ y : Ext wr, Calls Tryz.prog 48 #[.int .i64 1, .int .i64 ((k - l.length : Nat) : Int)] y.w fun e w' => e = .returned (.agg #[.string (mkT (k - l.length)), .slice none 0 0, .slice none 0 0]) ∧ Below y.w.heap.size y.w w' := fun y => markCause_c _ y.w (by omega)
        have hsm : ∀ y : Ext wr, Calls Tryz.prog 59 #[.agg #[.string (mkT (k - l.length)), .slice none 0 0, .slice none 0 0], .agg #[.string (mkT (k - l.length)), .slice none 0 0, .slice none 0 0]] y.w fun e w' => e = .returned (.bool true) ∧ Below y.w.heap.size y.w w' := fun y =>
          sameCauseG_c (mkT (k - l.length)) (.slice none 0 0) (.slice none 0 0) [] (.slice none 0 0) (.slice none 0 0) [] y.w (cf_nil _) (rdW_nil _ _) (rdW_nil _ _) (cf_nil _) (rdW_nil _ _) (rdW_nil _ _)
        have hcast : (((k - l.length : Nat) : Nat) : Int) = (k : Int) - (l.length : Int) := by omega
        rw [hcast] at hmark
        have hw1 : IntKind.i64.wrap ((k : Int) - (l.length : Int)) = (k : Int) - (l.length : Int) := IntWalk.i64_in _ (by omega)
        clear hld hmk hrl H HV HC hcast
        generalize mkT (k - l.length) = m9 at *
        have Hmark := Lib.hid hmark
        have Hsm := Lib.hid hsm
        clear hmark hsm
        go_wp2_with fail
        refine wp_region_ext (by kernel_rfl) (by kernel_rfl) ?_
        repeat (go_big_quiet_step (first | (go_at_call 48; with_reducible exact ext_call (Hmark.out _)) | (go_at_call 59; with_reducible exact ext_call (Hsm.out _))))
        refine wpQuiet_nil ?_
        intro _ hw'
        obtain ⟨xx, hw''⟩ := hw'
        subst hw''
        have hB2 := hBr.trans (xx.h.mono hBr.size)
        clear hec Hmark Hsm hw1 c0 c1 c2
        generalize xx.w = w9 at hB2 ⊢
        go_wp2_with fail
        go_roundw
        case rel => exact ⟨k + 1, by omega, by go_num, hB2⟩
        case measure => simp [intOf]; omega
      · obtain rfl : k = l.length + 12 := by omega
        clear hld hmk hec hrl
        go_wp2_with fail
        go_ret
        exact ⟨rfl, hBr⟩
end

end Go.Proofs.YtknojjlfgjkbiaaGreatDoor
