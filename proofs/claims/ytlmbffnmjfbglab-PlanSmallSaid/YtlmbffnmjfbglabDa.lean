/- A function that lends a slice of structs. Printed by wip/tools/gen/lentlist.py Parts YtlmbffnmjfbglabD9. -/
import Derived.Test.YtlmbffnmjfbglabD9
set_option linter.unusedSimpArgs false
set_option linter.unusedVariables false
namespace Go.Proofs.Ytlmbffnmjfbglab
open Go.ChangeShapes Go.WideShapes Go.ChangeAt Go.RowKit Go.Deep

theorem cfPart {x : List G} (h : cfE KS KN (KS 4) x) : ∃ (x0 : ByteArray) (x1 : Int) (x2 : Int) (x3 : Int) (l4 : List (List G)) (x5 : Int) (x6 : Int) (l7 : List (List G)) (l8 : List (List G)) (l9 : List (List G)), x = [.one (.string x0), .one (.int .i64 x1), .one (.int .i64 x2), .one (.int .i64 x3), .row 0 l4, .one (.int .i64 x5), .one (.int .i64 x6), .row 0 l7, .row 2 l8, .row 3 l9] ∧ G.cf KS KN (.sl 0) (.row 0 l4) ∧ G.cf KS KN (.sl 0) (.row 0 l7) ∧ G.cf KS KN (.sl 2) (.row 2 l8) ∧ G.cf KS KN (.sl 3) (.row 3 l9) := by
  have hl := cfE_len h
  match x, hl with
  | [g0, g1, g2, g3, g4, g5, g6, g7, g8, g9], _ =>
    simp only [KS, cfE] at h
    obtain ⟨h0, h1, h2, h3, h4, h5, h6, h7, h8, h9, _⟩ := h
    obtain ⟨x0, e0⟩ : ∃ x : ByteArray, g0 = .one (.string x) := by
      cases g0 with
      | one v => simp only [G.cf] at h0; obtain ⟨y, rfl⟩ := h0; exact ⟨y, rfl⟩
      | row _ _ => exact absurd h0 (by simp [G.cf])
    obtain ⟨x1, e1⟩ : ∃ x : Int, g1 = .one (.int .i64 x) := by
      cases g1 with
      | one v => simp only [G.cf] at h1; obtain ⟨y, rfl⟩ := h1; exact ⟨y, rfl⟩
      | row _ _ => exact absurd h1 (by simp [G.cf])
    obtain ⟨x2, e2⟩ : ∃ x : Int, g2 = .one (.int .i64 x) := by
      cases g2 with
      | one v => simp only [G.cf] at h2; obtain ⟨y, rfl⟩ := h2; exact ⟨y, rfl⟩
      | row _ _ => exact absurd h2 (by simp [G.cf])
    obtain ⟨x3, e3⟩ : ∃ x : Int, g3 = .one (.int .i64 x) := by
      cases g3 with
      | one v => simp only [G.cf] at h3; obtain ⟨y, rfl⟩ := h3; exact ⟨y, rfl⟩
      | row _ _ => exact absurd h3 (by simp [G.cf])
    obtain ⟨l4, e4⟩ : ∃ l, g4 = .row 0 l := by
      cases g4 with
      | one v => exact absurd h4 (by simp [G.cf])
      | row t l => have := h4; simp only [G.cf] at this; exact ⟨l, by rw [this.1]⟩
    obtain ⟨x5, e5⟩ : ∃ x : Int, g5 = .one (.int .i64 x) := by
      cases g5 with
      | one v => simp only [G.cf] at h5; obtain ⟨y, rfl⟩ := h5; exact ⟨y, rfl⟩
      | row _ _ => exact absurd h5 (by simp [G.cf])
    obtain ⟨x6, e6⟩ : ∃ x : Int, g6 = .one (.int .i64 x) := by
      cases g6 with
      | one v => simp only [G.cf] at h6; obtain ⟨y, rfl⟩ := h6; exact ⟨y, rfl⟩
      | row _ _ => exact absurd h6 (by simp [G.cf])
    obtain ⟨l7, e7⟩ : ∃ l, g7 = .row 0 l := by
      cases g7 with
      | one v => exact absurd h7 (by simp [G.cf])
      | row t l => have := h7; simp only [G.cf] at this; exact ⟨l, by rw [this.1]⟩
    obtain ⟨l8, e8⟩ : ∃ l, g8 = .row 2 l := by
      cases g8 with
      | one v => exact absurd h8 (by simp [G.cf])
      | row t l => have := h8; simp only [G.cf] at this; exact ⟨l, by rw [this.1]⟩
    obtain ⟨l9, e9⟩ : ∃ l, g9 = .row 3 l := by
      cases g9 with
      | one v => exact absurd h9 (by simp [G.cf])
      | row t l => have := h9; simp only [G.cf] at this; exact ⟨l, by rw [this.1]⟩
    subst e0 e1 e2 e3 e4 e5 e6 e7 e8 e9
    exact ⟨x0, x1, x2, x3, l4, x5, x6, l7, l8, l9, rfl, h4, h7, h8, h9⟩

set_option maxRecDepth 100000 in
set_option maxHeartbeats 4000000 in
theorem lentParts_c (l : List (List G)) (v : Value) (w : World) (hcf : G.cf KS KN (.sl 4) (.row 4 l)) (h : G.rdW w v (.row 4 l)) : Calls Try.prog 59 #[v] w (LentGPost w (.row 4 l)) := by
  obtain ⟨i0, hi0, hz0, hz1, hz2⟩ := info_parts infoZ56
  simp only [G.cf] at hcf
  obtain ⟨_, hlen, hcR⟩ := hcf
  have hlen : l.length ≤ 925904528626 := hlen
  obtain ⟨A, c, rfl⟩ := rd_slice h
  have hmk : ∀ W, (Instr.makeSlice 22 (.int .i64 0) (.int .i64 ((l.length : Int) + 12))).run Try.prog W = .ok (.slice (some ⟨W.heap.size, 0, none⟩) 0 (l.length + 12)) (W.alloc (.cells (madeCells #[.string ⟨#[]⟩, .int .i64 0, .int .i64 0, .int .i64 0, .slice none 0 0, .int .i64 0, .int .i64 0, .slice none 0 0, .slice none 0 0, .slice none 0 0] ((l.length + 12) * 10)) 56)) := fun W => by
    have e := run_make_rowN (P := Try.prog) 22 56 i0 _ Try.underlying22 hi0 hz0 .i64 .i64 0 (l.length + 12) (by omega) (by rw [hz2]; omega) (by omega) W
    rw [hz1] at e
    simpa [Value.cells] using e
  have hwr := IntWalk.i64_in ((l.length : Int) + 12) (by omega)
  obtain ⟨W1, hW1⟩ : ∃ W1, W1 = w.alloc (.cells (madeCells #[.string ⟨#[]⟩, .int .i64 0, .int .i64 0, .int .i64 0, .slice none 0 0, .int .i64 0, .int .i64 0, .slice none 0 0, .slice none 0 0, .slice none 0 0] ((l.length + 12) * 10)) 56) := ⟨_, rfl⟩
  have hB1 : Below w.heap.size w W1 := by rw [hW1]; exact (Below.refl _ w).alloc (Nat.le_refl _) _
  have hown1 : W1.ownsRow w.heap.size 56 10 (.slice (some ⟨w.heap.size, 0, none⟩) 0 (l.length + 12)) 0 [] := by rw [hW1]; exact World.ownsRow_made _ _ (l.length + 12) (Nat.le_refl _) (by simp [maxLen]; omega) (by simp [size_madeCells])
  have hGR1 : GR KM 4 10 56 w.heap.size W1 (.slice (some ⟨w.heap.size, 0, none⟩) 0 (l.length + 12)) [] [] 0 := ⟨by simpa using hown1, GVL.nil⟩
  have H := Lib.hid h
  have HC := Lib.hid hcR
  have HW1 := Lib.hid hW1
  have HB1 := Lib.hid hB1
  have HGR1 := Lib.hid hGR1
  clear h hcR hW1 hB1 hGR1 hown1
  go_enter Try.func59, Try.ntmps59
  go_wp2_with fail
  rw [← HW1.out]
  go_loopw [3, 4] (fun v i wr => ∃ (k : Nat) (L : List (List Value)), k ≤ l.length ∧ i = .int .i64 k ∧ Below w.heap.size w wr ∧ Hid (GR KM 4 10 56 w.heap.size wr v (l.take k) L 0)) (fun _ i _ => l.length - (intOf i).toNat)
  case atStart => exact ⟨0, [], Nat.zero_le _, rfl, HB1.out, HGR1.out⟩
  case round =>
    obtain ⟨k, L, hk, rfl, hBr, hLR⟩ := hrel
    by_cases hlt : k < l.length
    · have h2 := G.rdW.next H.out hBr
      simp only [G.rdW, G.rd] at h2
      obtain ⟨A2, c2', e2, _, _, hrl⟩ := h2
      injection e2 with e2 _ e3
      subst e2 e3
      obtain ⟨b, o, rfl, hb, hR⟩ := hrl (by omega)
      have hd := rdR_get hlt (cfR_len HC.out) hR
      obtain ⟨x0, x1, x2, x3, l4, x5, x6, l7, l8, l9, hx, hc4, hc7, hc8, hc9⟩ := cfPart (cfR_get hlt HC.out)
      have hi0' : (0 : Int) ≤ (k : Int) := by omega
      have hi1' : (k : Int) < (l.length : Int) := by omega
      have hts : l.take (k + 1) = l.take k ++ [l[k]] := by rw [List.take_add_one, List.getElem?_eq_getElem hlt]; rfl
      have htl : (l.take k).length = k := by simp; omega
      rw [hx] at hd hts
      obtain ⟨u0_, q0, d0⟩ := rdE_at (j := 0) (by simp) hd
      have d0 : G.rd wr (fun b => b < wr.heap.size) u0_ (.one (.string x0)) := d0
      simp only [G.rd] at d0
      subst d0
      have q0 : wr.cell? ⟨b, o + k * 10, none⟩ = some (.string x0) := q0
      obtain ⟨u1_, q1, d1⟩ := rdE_at (j := 1) (by simp) hd
      have d1 : G.rd wr (fun b => b < wr.heap.size) u1_ (.one (.int .i64 x1)) := d1
      simp only [G.rd] at d1
      subst d1
      have q1 : wr.cell? ⟨b, o + k * 10 + 1, none⟩ = some (.int .i64 x1) := q1
      obtain ⟨u2_, q2, d2⟩ := rdE_at (j := 2) (by simp) hd
      have d2 : G.rd wr (fun b => b < wr.heap.size) u2_ (.one (.int .i64 x2)) := d2
      simp only [G.rd] at d2
      subst d2
      have q2 : wr.cell? ⟨b, o + k * 10 + 2, none⟩ = some (.int .i64 x2) := q2
      obtain ⟨u3_, q3, d3⟩ := rdE_at (j := 3) (by simp) hd
      have d3 : G.rd wr (fun b => b < wr.heap.size) u3_ (.one (.int .i64 x3)) := d3
      simp only [G.rd] at d3
      subst d3
      have q3 : wr.cell? ⟨b, o + k * 10 + 3, none⟩ = some (.int .i64 x3) := q3
      obtain ⟨u4_, q4, d4⟩ := rdE_at (j := 4) (by simp) hd
      have d4 : G.rd wr (fun b => b < wr.heap.size) u4_ (.row 0 l4) := d4
      obtain ⟨A4, c4, rfl⟩ := rd_slice d4
      have q4 : wr.cell? ⟨b, o + k * 10 + 4, none⟩ = some (.slice A4 l4.length c4) := q4
      obtain ⟨u5_, q5, d5⟩ := rdE_at (j := 5) (by simp) hd
      have d5 : G.rd wr (fun b => b < wr.heap.size) u5_ (.one (.int .i64 x5)) := d5
      simp only [G.rd] at d5
      subst d5
      have q5 : wr.cell? ⟨b, o + k * 10 + 5, none⟩ = some (.int .i64 x5) := q5
      obtain ⟨u6_, q6, d6⟩ := rdE_at (j := 6) (by simp) hd
      have d6 : G.rd wr (fun b => b < wr.heap.size) u6_ (.one (.int .i64 x6)) := d6
      simp only [G.rd] at d6
      subst d6
      have q6 : wr.cell? ⟨b, o + k * 10 + 6, none⟩ = some (.int .i64 x6) := q6
      obtain ⟨u7_, q7, d7⟩ := rdE_at (j := 7) (by simp) hd
      have d7 : G.rd wr (fun b => b < wr.heap.size) u7_ (.row 0 l7) := d7
      obtain ⟨A7, c7, rfl⟩ := rd_slice d7
      have q7 : wr.cell? ⟨b, o + k * 10 + 7, none⟩ = some (.slice A7 l7.length c7) := q7
      obtain ⟨u8_, q8, d8⟩ := rdE_at (j := 8) (by simp) hd
      have d8 : G.rd wr (fun b => b < wr.heap.size) u8_ (.row 2 l8) := d8
      obtain ⟨A8, c8, rfl⟩ := rd_slice d8
      have q8 : wr.cell? ⟨b, o + k * 10 + 8, none⟩ = some (.slice A8 l8.length c8) := q8
      obtain ⟨u9_, q9, d9⟩ := rdE_at (j := 9) (by simp) hd
      have d9 : G.rd wr (fun b => b < wr.heap.size) u9_ (.row 3 l9) := d9
      obtain ⟨A9, c9, rfl⟩ := rd_slice d9
      have q9 : wr.cell? ⟨b, o + k * 10 + 9, none⟩ = some (.slice A9 l9.length c9) := q9
      have hcp := lentPart_c x0 x1 x2 x3 x5 x6 _ _ _ _ l4 l7 l8 l9 wr hc4 d4 hc7 d7 hc8 d8 hc9 d9
      have Hcp := Lib.hid hcp
      have Hts := Lib.hid hts
      have Htl := Lib.hid htl
      clear hcp hts htl hrl hR hd hx hb hc4 d4 hc7 d7 hc8 d8 hc9 d9
      go_wp2_with fail
      refine Hcp.out.mono ?_
      rintro e W2 ⟨V4, V7, V8, V9, rfl, hl4, hl7, hl8, hl9, hb2⟩
      obtain ⟨G4, C4, rfl⟩ := ld_slice hl4
      obtain ⟨G7, C7, rfl⟩ := ld_slice hl7
      obtain ⟨G8, C8, rfl⟩ := ld_slice hl8
      obtain ⟨G9, C9, rfl⟩ := ld_slice hl9
      obtain ⟨X, hX⟩ : ∃ X, X = (W2.alloc (.cells #[.string x0, .int .i64 x1, .int .i64 x2, .int .i64 x3, .slice (some ⟨G4, 0, none⟩) l4.length C4, .int .i64 x5, .int .i64 x6, .slice (some ⟨G7, 0, none⟩) l7.length C7, .slice (some ⟨G8, 0, none⟩) l8.length C8, .slice (some ⟨G9, 0, none⟩) l9.length C9] 56)).alloc (.cells #[.string x0, .int .i64 x1, .int .i64 x2, .int .i64 x3, .slice (some ⟨G4, 0, none⟩) l4.length C4, .int .i64 x5, .int .i64 x6, .slice (some ⟨G7, 0, none⟩) l7.length C7, .slice (some ⟨G8, 0, none⟩) l8.length C8, .slice (some ⟨G9, 0, none⟩) l9.length C9] 56) := ⟨_, rfl⟩
      have hBX : Below W2.heap.size W2 X := by rw [hX]; exact ((Below.refl _ _).alloc (Nat.le_refl _) _).alloc (by simp) _
      have hbT : Blk X (W2.heap.size + 1) 56 #[.string x0, .int .i64 x1, .int .i64 x2, .int .i64 x3, .slice (some ⟨G4, 0, none⟩) l4.length C4, .int .i64 x5, .int .i64 x6, .slice (some ⟨G7, 0, none⟩) l7.length C7, .slice (some ⟨G8, 0, none⟩) l8.length C8, .slice (some ⟨G9, 0, none⟩) l9.length C9] := by
        rw [hX]
        have := Blk.new (W2.alloc (.cells #[.string x0, .int .i64 x1, .int .i64 x2, .int .i64 x3, .slice (some ⟨G4, 0, none⟩) l4.length C4, .int .i64 x5, .int .i64 x6, .slice (some ⟨G7, 0, none⟩) l7.length C7, .slice (some ⟨G8, 0, none⟩) l8.length C8, .slice (some ⟨G9, 0, none⟩) l9.length C9] 56)) 56 #[.string x0, .int .i64 x1, .int .i64 x2, .int .i64 x3, .slice (some ⟨G4, 0, none⟩) l4.length C4, .int .i64 x5, .int .i64 x6, .slice (some ⟨G7, 0, none⟩) l7.length C7, .slice (some ⟨G8, 0, none⟩) l8.length C8, .slice (some ⟨G9, 0, none⟩) l9.length C9]
        simpa only [World.size_alloc] using this
      have hBwX := hb2.trans (hBX.mono hb2.size)
      have hlr := hLR.out.below hBwX
      have hVlt : ∀ b, u3.ownBlock = some b → b < wr.heap.size := fun b hb => (hLR.out.own.lt b hb).2
      have hBr2 := hBr.trans (hBwX.mono hBr.size)
      have hkp : ∀ b, MadeQ wr.heap.size W2 b → (∀ o, X.cell? ⟨b, o, none⟩ = W2.cell? ⟨b, o, none⟩) ∧ (fun b => w.heap.size ≤ b ∧ u3.ownBlock ≠ some b ∧ ∃ o, X.heap[b]? = some o ∧ o.isCells = true) b := fun b ⟨g1, o, g2, g3⟩ => by
        have e := hBX.block b (Array.getElem?_eq_some_iff.1 g2).1
        exact ⟨fun _ => World.cell?_of_block e, by have := hBr.size; omega, fun e2 => by have := hVlt b e2; omega, o, e.trans g2, g3⟩
      have hxy : ∀ j (hj : j < ([.string x0, .int .i64 x1, .int .i64 x2, .int .i64 x3, .slice (some ⟨G4, 0, none⟩) l4.length C4, .int .i64 x5, .int .i64 x6, .slice (some ⟨G7, 0, none⟩) l7.length C7, .slice (some ⟨G8, 0, none⟩) l8.length C8, .slice (some ⟨G9, 0, none⟩) l9.length C9] : List Value).length) (hj' : j < ([.one (.string x0), .one (.int .i64 x1), .one (.int .i64 x2), .one (.int .i64 x3), .row 0 l4, .one (.int .i64 x5), .one (.int .i64 x6), .row 0 l7, .row 2 l8, .row 3 l9] : List G).length), G.ld KM X (fun b => w.heap.size ≤ b ∧ u3.ownBlock ≠ some b ∧ ∃ o, X.heap[b]? = some o ∧ o.isCells = true) ([.string x0, .int .i64 x1, .int .i64 x2, .int .i64 x3, .slice (some ⟨G4, 0, none⟩) l4.length C4, .int .i64 x5, .int .i64 x6, .slice (some ⟨G7, 0, none⟩) l7.length C7, .slice (some ⟨G8, 0, none⟩) l8.length C8, .slice (some ⟨G9, 0, none⟩) l9.length C9] : List Value)[j] ([.one (.string x0), .one (.int .i64 x1), .one (.int .i64 x2), .one (.int .i64 x3), .row 0 l4, .one (.int .i64 x5), .one (.int .i64 x6), .row 0 l7, .row 2 l8, .row 3 l9] : List G)[j] := fun j hj hj' => by
        match j, hj with
        | 0, _ => exact by simp [G.ld]
        | 1, _ => exact by simp [G.ld]
        | 2, _ => exact by simp [G.ld]
        | 3, _ => exact by simp [G.ld]
        | 4, _ => exact hl4.keep hkp _ _
        | 5, _ => exact by simp [G.ld]
        | 6, _ => exact by simp [G.ld]
        | 7, _ => exact hl7.keep hkp _ _
        | 8, _ => exact hl8.keep hkp _ _
        | 9, _ => exact hl9.keep hkp _ _
      have hown0 : X.ownsRow w.heap.size 56 10 u3 k L.flatten := by have := hlr.own; rw [Htl.out] at this; simpa using this
      have Hlr := Lib.hid hlr
      have HbT := Lib.hid hbT
      have Hxy := Lib.hid hxy
      have HBX := Lib.hid hBr2
      have Hown0 := Lib.hid hown0
      have HX := Lib.hid hX
      clear hlr hbT hxy hkp hBr2 hLR hl4 hl7 hl8 hl9 hBwX hBX hb2 q0 q1 q2 q3 q4 q5 q6 q7 q8 q9 hown0 hX
      go_wp2_with (at_builtin; rw [← HX.out]; refine wpList_append_lies _ rfl _ _ 22 rfl w.heap.size 56 i0 _ 10 152 Try.underlying22 hi0 hz0 hz1 hz2 rfl (by decide) u3 k _ rfl Hown0.out ⟨W2.heap.size + 1, 0, none⟩ 1 1 [.string x0, .int .i64 x1, .int .i64 x2, .int .i64 x3, .slice (some ⟨G4, 0, none⟩) l4.length C4, .int .i64 x5, .int .i64 x6, .slice (some ⟨G7, 0, none⟩) l7.length C7, .slice (some ⟨G8, 0, none⟩) l8.length C8, .slice (some ⟨G9, 0, none⟩) l9.length C9] rfl rfl (World.news_of_block HbT.out) (by simp [Value.oneCell']) (by omega) (by unfold maxLen; omega) (by omega) HBX.out.size _ rfl ?_)
      intro g cap w3 hown hgrow hg hgl
      have hpush := Hlr.out.push (x := [.string x0, .int .i64 x1, .int .i64 x2, .int .i64 x3, .slice (some ⟨G4, 0, none⟩) l4.length C4, .int .i64 x5, .int .i64 x6, .slice (some ⟨G7, 0, none⟩) l7.length C7, .slice (some ⟨G8, 0, none⟩) l8.length C8, .slice (some ⟨G9, 0, none⟩) l9.length C9]) (y := [.one (.string x0), .one (.int .i64 x1), .one (.int .i64 x2), .one (.int .i64 x3), .row 0 l4, .one (.int .i64 x5), .one (.int .i64 x6), .row 0 l7, .row 2 l8, .row 3 l9]) hgrow (by rw [Htl.out]; exact hown) (by rcases hg with hg | hg; exact .inl hg.symm; exact .inr ⟨g, rfl, by omega⟩) rfl rfl Hxy.out
      rw [← Hts.out] at hpush
      have hB5 : Below w.heap.size w w3 := HBX.out.grown hgrow HBX.out.size (fun b hb => (Hlr.out.own.lt b hb).1)
      have HP := Lib.hid hpush
      clear hown hgrow hg hpush Hlr HbT Hxy HBX HX Hown0
      go_wp2_with fail
      go_roundw
      case rel => exact ⟨k + 1, _, by omega, by go_num, hB5, HP.out⟩
      case measure => simp [intOf]; omega
    · obtain rfl : k = l.length := by omega
      have hfin := hLR.out
      rw [List.take_length] at hfin
      have HF := Lib.hid hfin
      have HB := Lib.hid hBr
      clear hLR hfin hBr hlt
      go_wp2_with fail
      go_loopw [3, 6] (fun v i wr => ∃ j : Nat, j ≤ 12 ∧ i = .int .i64 j ∧ Below w.heap.size w wr ∧ Hid (GR KM 4 10 56 w.heap.size wr v l L j)) (fun _ i _ => 12 - (intOf i).toNat)
      case atStart => exact ⟨0, by omega, rfl, HB.out, HF.out⟩
      case round =>
        obtain ⟨k, hj, rfl, hBm, hLR⟩ := hrel
        by_cases hlt : k < 12
        · have hmark := markPart_c k wr (by omega)
          have hdj : decide ((k : Int) < 12) = true := decide_eq_true (by omega)
          have Hmark := Lib.hid hmark
          clear hmark
          go_wp2_with fail
          refine Hmark.out.mono ?_
          rintro e w3 ⟨rfl, hb3⟩
          obtain ⟨X, hX⟩ : ∃ X, X = w3.alloc (.cells #[.string ⟨#[]⟩, .int .i64 (markI k), .int .i64 0, .int .i64 0, .slice none 0 0, .int .i64 0, .int .i64 0, .slice none 0 0, .slice none 0 0, .slice none 0 0] 56) := ⟨_, rfl⟩
          have hBX : Below w3.heap.size w3 X := by rw [hX]; exact (Below.refl _ _).alloc (Nat.le_refl _) _
          have hbT : Blk X w3.heap.size 56 #[.string ⟨#[]⟩, .int .i64 (markI k), .int .i64 0, .int .i64 0, .slice none 0 0, .int .i64 0, .int .i64 0, .slice none 0 0, .slice none 0 0, .slice none 0 0] := by rw [hX]; exact Blk.new w3 56 _
          have hBwX := hb3.trans (hBX.mono hb3.size)
          have hlr := hLR.out.below hBwX
          have hBr2 := hBm.trans (hBwX.mono hBm.size)
          have Hlr := Lib.hid hlr
          have HbT := Lib.hid hbT
          have HBX := Lib.hid hBr2
          have HX := Lib.hid hX
          clear hlr hbT hBr2 hLR hBwX hBX hb3 hX Hmark
          go_wp2_with (at_builtin; rw [← HX.out]; refine wpList_append_lies _ rfl _ _ 22 rfl w.heap.size 56 i0 _ 10 152 Try.underlying22 hi0 hz0 hz1 hz2 rfl (by decide) _ (l.length + k) _ rfl Hlr.out.own ⟨w3.heap.size, 0, none⟩ 1 1 (KM 4 k) rfl rfl (World.news_of_block HbT.out) (by simp [KM, Value.oneCell']) (by omega) (by unfold maxLen; omega) (by omega) HBX.out.size X.heap.size rfl ?_)
          intro g cap w4 hown hgrow hg hgl
          have hpush := Hlr.out.mark (V := .slice (some ⟨g, 0, none⟩) (l.length + k + 1) cap) hgrow (by rw [List.flatten_append, List.append_assoc]; exact hown) (by rcases hg with hg | hg; exact .inl hg.symm; exact .inr ⟨g, rfl, by omega⟩)
          have hB5 : Below w.heap.size w w4 := HBX.out.grown hgrow HBX.out.size (fun b hb => (Hlr.out.own.lt b hb).1)
          have HP := Lib.hid hpush
          clear hown hgrow hg hpush Hlr HbT HBX HX
          go_wp2_with fail
          go_roundw
          case rel => exact ⟨k + 1, by omega, by go_num, hB5, HP.out⟩
          case measure => simp [intOf]; omega
        · obtain rfl : k = 12 := by omega
          have hdj : decide (((12 : Nat) : Int) < 12) = false := by decide
          obtain ⟨g, cap, rfl, hld⟩ := hLR.out.fin (by decide) (fun i => rfl)
          have hcap : l.length + 12 ≤ cap := by
            have := hld
            simp only [G.ld] at this
            obtain ⟨g2, c2, e, h1, _⟩ := this
            injection e with _ _ e; omega
          have HF2 := Lib.hid hld
          clear hLR hld
          go_wp2_with fail
          go_ret
          exact ⟨_, rfl, HF2.out, hBm⟩

end Go.Proofs.Ytlmbffnmjfbglab
