/- A region of the search's rounds: the search of the next partition, and its claim. -/
import Derived.Test.YtlmbffnmjfbglabQ2
set_option linter.unusedSimpArgs false
set_option linter.unusedVariables false
namespace Go.Proofs.Ytlmbffnmjfbglab
open Go.ChangeShapes Go.WideShapes Go.ChangeAt Go.RowKit

section
attribute [local go_sem] Oper.semAt_some
variable {w : World} {Bs : Nat} {name : ByteArray} {mem F : Int} {A : Option Addr} {ps : List Part} {c n : Nat} {os : List Int} {t : Nat} {cl : List Claim} {L : List CV} {Ao : Option Addr} {co : Nat}
set_option maxRecDepth 100000 in
set_option maxHeartbeats 4000000 in
theorem reg11_c {l m : Nat} (r : Nat)
    (ih : ∀ (W : World) (Ao : Option Addr) (os : List Int) (co t : Nat), SB W Bs name mem F A ps c Ao os co t → OT W Ao os → os.length + r = ps.length → t ≤ 65536 → Calls Try.prog 37 #[.pointer (some ⟨Bs, 0, none⟩)] W (TryPost W Bs name mem F A ps c os t r))
    (W : World) (VA : Option Addr) (Vc Bn k : Nat) (h3 : RI0 w Bs name mem F A ps c n W os t cl (.slice VA cl.length Vc) L Ao co) (hb : Blk W Bn 65 #[.pointer (some ⟨Bs, 0, none⟩)]) (hbB : Bn ≠ Bs) (hcl : cl.length ≤ 2000) (hn : os.length + r = ps.length) (ht : t ≤ 65536)
    {x0 x3 x5 x6 x7 x8 x9 x10 x11 x12 x13 x14 x15 x16 x17 x18 x19 x20 x21 x22 x23 x24 x25 x26 x27 x28 x29 x30 x31 x32 x33 x34 x35 x36 x37 x38 x39 x40 x41 x42 x43 x44 x45 x46 x47 x48 x49 x50 x51 x52 x53 x54 x55 x56 x57 x58 x59 x60 x61 x62 x63 x64 x65 x66 x67 x68 x69 x70 x71 x72 x73 x74 x75 x76 x77 x78 x79 x80 x81 x82 x83 x84 x85 x86 x87 x88 x89 x90 x91 x92 x93 x94 x95 : Value} (Q : Exit → Act → World → Prop) (hQ : ¬ LetsOut Q) (hP0 : ∀ d v c a w, Q (.panic c) (Act.put a d v) w → Q (.panic c) a w)
    (hN : ∀ W' V' L' Ao' co' sub t' y59 y60 y61 y62 y63 y64 y65 y66 y67 y68, tryR ps r os t = .claims sub t' → KeepsOthers W W' → Blk W' Bn 65 #[.pointer (some ⟨Bs, 0, none⟩)] → RI0 w Bs name mem F A ps c n W' os t' (cl ++ [.mk k k (-1) sub]) V' L' Ao' co' → Q .normal { tmps := List.toArray (x0 :: Value.pointer (some ⟨w.heap.size, 0, none⟩) :: Value.pointer (some ⟨w.heap.size + 1, 0, none⟩) :: x3 :: Value.int .i64 k :: x5 :: x6 :: x7 :: x8 :: x9 :: x10 :: x11 :: x12 :: x13 :: x14 :: x15 :: x16 :: x17 :: x18 :: x19 :: x20 :: x21 :: x22 :: x23 :: x24 :: x25 :: x26 :: x27 :: x28 :: x29 :: x30 :: x31 :: x32 :: x33 :: x34 :: x35 :: x36 :: x37 :: x38 :: x39 :: x40 :: x41 :: x42 :: x43 :: x44 :: x45 :: x46 :: x47 :: x48 :: x49 :: x50 :: x51 :: x52 :: x53 :: x54 :: x55 :: x56 :: x57 :: x58 :: y59 :: y60 :: y61 :: y62 :: y63 :: y64 :: y65 :: y66 :: y67 :: y68 :: x69 :: x70 :: x71 :: x72 :: x73 :: x74 :: x75 :: x76 :: x77 :: x78 :: x79 :: x80 :: x81 :: x82 :: x83 :: x84 :: x85 :: x86 :: x87 :: x88 :: x89 :: x90 :: x91 :: x92 :: x93 :: x94 :: x95 :: []), defers := [] } W')
    (hE : ∀ W' a er A' c' a', a'.defers = [] → tryR ps r os t = .stop a er → KeepsOthers W W' → w.grownBy W' (some Bs) → RdF w.heap.size W' A' a → Q (.panic [{ v := .iface 63 (.agg #[.slice A' a.length c', .int .i64 er]), recovered := false }]) a' W') :
    (reg37 11).wpIn (Fence.wide.inRound l) m Try.prog Q { tmps := List.toArray (x0 :: Value.pointer (some ⟨w.heap.size, 0, none⟩) :: Value.pointer (some ⟨w.heap.size + 1, 0, none⟩) :: x3 :: Value.int .i64 k :: x5 :: x6 :: x7 :: x8 :: x9 :: x10 :: x11 :: x12 :: x13 :: x14 :: x15 :: x16 :: x17 :: x18 :: x19 :: x20 :: x21 :: x22 :: x23 :: x24 :: x25 :: x26 :: x27 :: x28 :: x29 :: x30 :: x31 :: x32 :: x33 :: x34 :: x35 :: x36 :: x37 :: x38 :: x39 :: x40 :: x41 :: x42 :: x43 :: x44 :: x45 :: x46 :: x47 :: x48 :: x49 :: x50 :: x51 :: x52 :: x53 :: x54 :: x55 :: x56 :: x57 :: x58 :: x59 :: x60 :: x61 :: x62 :: x63 :: x64 :: x65 :: x66 :: x67 :: x68 :: x69 :: x70 :: x71 :: x72 :: x73 :: x74 :: x75 :: x76 :: x77 :: x78 :: x79 :: x80 :: x81 :: x82 :: x83 :: x84 :: x85 :: x86 :: x87 :: x88 :: x89 :: x90 :: x91 :: x92 :: x93 :: x94 :: x95 :: []), defers := [] } W := by
  have q0 : W.cell? ⟨w.heap.size, 0, none⟩ = some (.pointer (some ⟨Bs, 0, none⟩)) := h3.b0.cell 0
  have q1 : W.cell? ⟨w.heap.size + 1, 0, none⟩ = some (.slice VA cl.length Vc) := h3.b1.cell 0
  obtain ⟨i0, hi0, hz0, hz1, hz2⟩ := info_parts info35
  refine wpIn_region_roundS (fun W' => W'.cell? ⟨w.heap.size + 1, 0, none⟩ = some (.slice VA cl.length Vc) ∧ W'.cell? ⟨w.heap.size, 0, none⟩ = some (.pointer (some ⟨Bs, 0, none⟩))) 11 (by kernel_rfl) (by kernel_rfl) hQ (by go_keep) (fun hHeld => ?_)
  have h4 := h3.below (W' := W.drew) (Below.refl _ W).drew
  have hko4 : KeepsOthers W W.drew := keeps_below (Below.refl _ W).drew
  have hbn4 : Blk W.drew Bn 65 #[.pointer (some ⟨Bs, 0, none⟩)] := hb.below (Below.refl _ W).drew hb.lt
  have HP := Lib.hid hP0
  have HN := Lib.hid hN
  have HE := Lib.hid hE
  clear h3 hb q0 q1 hN hP0 hE
  revert hko4 hbn4
  generalize W.drew = W4 at *
  intro hko4 hbn4
  refine wpAnyS_take (i := 0) (v := ?_) rfl (by kernel_rfl) (by kernel_rfl) (by kernel_rfl) (by kernel_rfl) (fun c a w => HP.out _ _ c a w) (Or.inl ⟨by rfl, ?_⟩) hHeld ?_
  rotate_left
  · intro w hSw
    obtain ⟨hs1, hs0⟩ := hSw
    go_simp
    first | done | with_reducible rfl
  simp only [Act.put, List.setIfInBounds_toArray, List.set_cons_zero, List.set_cons_succ]
  refine wpAnyS_take (i := 1) (v := ?_) rfl (by kernel_rfl) (by kernel_rfl) (by kernel_rfl) (by kernel_rfl) (fun c a w => HP.out _ _ c a w) (Or.inl ⟨by rfl, ?_⟩) hHeld ?_
  rotate_left
  · intro w hSw
    obtain ⟨hs1, hs0⟩ := hSw
    go_simp
    first | done | with_reducible rfl
  simp only [Act.put, List.setIfInBounds_toArray, List.set_cons_zero, List.set_cons_succ]
  refine wpAnyS_take (i := 2) (v := ?_) rfl (by kernel_rfl) (by kernel_rfl) (by kernel_rfl) (by kernel_rfl) (fun c a w => HP.out _ _ c a w) (Or.inl ⟨by rfl, ?_⟩) hHeld ?_
  rotate_left
  · intro w hSw
    obtain ⟨hs1, hs0⟩ := hSw
    go_simp
    first | done | with_reducible rfl
  simp only [Act.put, List.setIfInBounds_toArray, List.set_cons_zero, List.set_cons_succ]
  refine wpAnyS_take (i := 3) (v := ?_) rfl (by kernel_rfl) (by kernel_rfl) (by kernel_rfl) (by kernel_rfl) (fun c a w => HP.out _ _ c a w) (Or.inl ⟨by rfl, ?_⟩) hHeld ?_
  rotate_left
  · intro w hSw
    obtain ⟨hs1, hs0⟩ := hSw
    go_simp
    first | done | with_reducible rfl
  simp only [Act.put, List.setIfInBounds_toArray, List.set_cons_zero, List.set_cons_succ]
  refine wpAnyS_take (i := 6) (v := ?_) rfl (by kernel_rfl) (by kernel_rfl) (by kernel_rfl) (by kernel_rfl) (fun c a w => HP.out _ _ c a w) (Or.inl ⟨by rfl, ?_⟩) hHeld ?_
  rotate_left
  · intro w hSw
    obtain ⟨hs1, hs0⟩ := hSw
    go_simp
    first | done | with_reducible rfl
  simp only [Act.put, List.setIfInBounds_toArray, List.set_cons_zero, List.set_cons_succ]
  refine wpAnyS_ready (rs := [4, 7]) (by kernel_rfl) (by simp) ?_
  refine AllReadyS.cons rfl (fun K hK => ?_) (AllReadyS.cons rfl (fun K hK => ?_) AllReadyS.nil)
  · go_simp
    refine (ih W4 Ao os co t h4.sb h4.fo hn ht).mono ?_
    rintro e W5 ⟨hgr, hc, hst⟩
    cases hR : tryR ps r os t with
    | stop a er =>
      obtain ⟨A', c', rfl, hri⟩ := hst a er hR
      exact HE.out _ a er A' c' _ rfl hR (hko4.trans (h4.keeps hgr)) (h4.stopped hgr) (hri.mono (by have := h4.size; omega))
    | claims sub t' =>
      obtain ⟨A', c', rfl, hc1, hc2', hrd, Ao5, co5, hsb5, hfo5⟩ := hc sub t' hR
      obtain ⟨h5, hr5, hko45, hbk⟩ := h4.called hgr hsb5 hfo5 hrd
      have hbn5 := hbk Bn _ _ hbB hbn4
      have hko5 := hko4.trans hko45
      have hS6 : W5.cell? ⟨w.heap.size + 1, 0, none⟩ = some (.slice VA cl.length Vc) ∧ W5.cell? ⟨w.heap.size, 0, none⟩ = some (.pointer (some ⟨Bs, 0, none⟩)) := ⟨h5.b1.cell 0, h5.b0.cell 0⟩
      refine hK.out _ _ (fun _ => hS6) ?_
      clear hK hHeld hc hst hko45 hrd hsb5 hfo5 hgr ih HE hko4
      clear hbk hbn4 h4
      try simp only [Act.put, List.setIfInBounds_toArray, List.set_cons_zero, List.set_cons_succ]
      refine wpAnyS_takeT (i := 5) (v := ?_) rfl (by kernel_rfl) (by kernel_rfl) (by kernel_rfl) (by kernel_rfl) (fun c a w => HP.out _ _ c a w) (Or.inl ⟨by rfl, ?_⟩) hS6 ?_
      rotate_left
      · intro w hSw
        (try dsimp only at hSw)
        go_simp
        first | done | with_reducible rfl
      simp only [Act.put, List.setIfInBounds_toArray, List.set_cons_zero, List.set_cons_succ]
      refine wpAnyS_ready (rs := [7]) (by kernel_rfl) (by simp) ?_
      refine AllReadyS.cons rfl (fun K hK => ?_) AllReadyS.nil
      go_simp
      have hb6 : Below W5.heap.size W5 (W5.alloc (.cells #[.int .i64 0, .int .i64 0, .int .i64 0, .slice none 0 0] 35)) := (Below.refl _ W5).alloc (Nat.le_refl _) _
      have hG0 : Blk (W5.alloc (.cells #[.int .i64 0, .int .i64 0, .int .i64 0, .slice none 0 0] 35)) W5.heap.size 35 _ := Blk.new W5 35 #[.int .i64 0, .int .i64 0, .int .i64 0, .slice none 0 0]
      replace h5 := h5.below hb6
      replace hr5 := hr5.below hb6
      replace hbn5 := hbn5.below hb6 hbn5.lt
      replace hko5 := hko5.trans (keeps_below hb6)
      have hS6' : (W5.alloc (.cells #[.int .i64 0, .int .i64 0, .int .i64 0, .slice none 0 0] 35)).cell? ⟨w.heap.size + 1, 0, none⟩ = some (.slice VA cl.length Vc) ∧ (W5.alloc (.cells #[.int .i64 0, .int .i64 0, .int .i64 0, .slice none 0 0] 35)).cell? ⟨w.heap.size, 0, none⟩ = some (.pointer (some ⟨Bs, 0, none⟩)) := ⟨h5.b1.cell 0, h5.b0.cell 0⟩
      refine hK.out _ _ (fun _ => hS6') ?_
      clear hK hS6 hb6
      generalize hG : W5.heap.size = G0 at *
      clear hG
      generalize W5.alloc (.cells #[.int .i64 0, .int .i64 0, .int .i64 0, .slice none 0 0] 35) = W6 at *
      try simp only [Act.put, List.setIfInBounds_toArray, List.set_cons_zero, List.set_cons_succ]
      refine wpAnyS_ready (rs := [8]) (by kernel_rfl) (by simp) ?_
      refine AllReadyS.cons rfl (fun K hK => ?_) AllReadyS.nil
      have hz5 := h5.size
      refine step_append_lies _ (by rfl) (.tmp 59) (.tmp 66) 29 (by rfl) (w.heap.size + 3) 35 i0 _ 4 48 Try.underlying29 hi0 hz0 hz1 hz2 (by rfl) (by decide) (.slice VA cl.length Vc) cl.length _ (by rfl) h5.own ⟨G0, 0, none⟩ 1 1 [.int .i64 0, .int .i64 0, .int .i64 0, .slice none 0 0] (by rfl) (by rfl) (World.news_of_block (cs := #[.int .i64 0, .int .i64 0, .int .i64 0, .slice none 0 0]) (t := 35) (fr := (0, 0)) hG0) (by simp [Value.oneCell']) (by omega) (by unfold maxLen; omega) (by omega) (by omega) _ rfl ?_
      intro g cap w2 hown2 hgrow hg hgl
      have hgB : g ≠ w.heap.size + 1 := fun e => by
        rcases hg with hg | hg
        · have := (h5.ownNe hg).1; omega
        · omega
      have hg0 : g ≠ w.heap.size := fun e => by
        rcases hg with hg | hg
        · have := (h5.ownNe hg).1; omega
        · omega
      have hS7 : w2.cell? ⟨w.heap.size + 1, 0, none⟩ = some (.slice VA cl.length Vc) ∧ w2.cell? ⟨w.heap.size, 0, none⟩ = some (.pointer (some ⟨Bs, 0, none⟩)) := ⟨(World.cell?_of_block (hgrow.block (w.heap.size + 1) (by omega) (fun e => by have := (h5.ownNe e.symm).1; omega))).trans (h5.b1.cell 0), (World.cell?_of_block (hgrow.block w.heap.size (by omega) (fun e => by have := (h5.ownNe e.symm).1; omega))).trans (h5.b0.cell 0)⟩
      have hb7 : Blk w2 (w.heap.size + 1) 29 #[.slice VA cl.length Vc] := (hgrow.block (w.heap.size + 1) (by omega) (fun e => by have := (h5.ownNe e.symm).1; omega)).trans h5.b1
      have fB := hb7.frozen 0
      refine hK.out _ _ (fun _ => hS7) ?_
      clear hK
      have hi0 : (0 : Int) ≤ (cl.length : Int) := by omega
      have hi1 : (cl.length : Int) < (cl.length : Int) + 1 := by omega
      have hLl : (L.flatMap CV.cells).length = cl.length * 4 := by rw [CV.len, h5.cvs.1]
      have hc2 : ∀ j v, ([.int .i64 0, .int .i64 0, .int .i64 0, .slice none 0 0] : List Value)[j]? = some v → w2.cell? ⟨g, cl.length * 4 + j, none⟩ = some v := fun j v hv => by
        have := hown2.cells (g := g) rfl (cl.length * 4 + j) v (by rw [List.getElem?_append_right (by omega), hLl, show cl.length * 4 + j - cl.length * 4 = j by omega]; exact hv)
        rw [add_none] at this
        simpa using this
      have z0 := hc2 0 _ rfl
      have z1 := hc2 1 _ rfl
      have z2 := hc2 2 _ rfl
      have z3 := hc2 3 _ rfl
      have f0 := hown2.frozenAt (cl.length * 4 + 0)
      have f1 := hown2.frozenAt (cl.length * 4 + 1)
      have f2 := hown2.frozenAt (cl.length * 4 + 2)
      have f3 := hown2.frozenAt (cl.length * 4 + 3)
      simp only [Nat.add_zero] at z0 f0
      have nB : (Value.slice VA cl.length Vc).ownBlock ≠ some Bn := fun e => by
        obtain ⟨_, _, cur, hc⟩ := h5.ownNe e
        have h6 := hbn5
        unfold Blk at h6
        rw [hc] at h6; cases h6
      have hgn : Bn ≠ g := by
        rintro rfl
        rcases hg with hg | hg
        · exact nB hg
        · have := hbn5.lt; omega
      have hbn7 : Blk w2 Bn 65 #[.pointer (some ⟨Bs, 0, none⟩)] := (hgrow.block Bn (by have := hbn5.lt; omega) (fun e => nB e.symm)).trans hbn5
      have hko7 : KeepsOthers W w2 := hko5.trans (KeepsOthers.of_grownBy hgrow fun j o hj ho => own_cells h5.own j o hj ho)
      have hbv : Bn ≠ w.heap.size + 1 := by
        rintro rfl
        have h6 := h5.b1
        unfold Blk at h6 hbn5
        rw [h6] at hbn5; cases hbn5
      have HA := Lib.hid (h5.app hgrow hown2 (by simpa using hg) ⟨k, k, -1, ⟨A', sub.length, c'⟩⟩ (.mk k k (-1) sub) ⟨rfl, rfl, rfl, rfl, hc1, hc2', hr5⟩)
      clear hown2 hgrow h5 hc2 nB hbn5 hg hr5 hG0
      simp only [Act.put, List.setIfInBounds_toArray, List.set_cons_zero, List.set_cons_succ]
      refine wpAnyS_takeT (i := 9) (v := ?_) rfl (by kernel_rfl) (by kernel_rfl) (by kernel_rfl) (by kernel_rfl) (fun c a w => HP.out _ _ c a w) (Or.inl ⟨by rfl, ?_⟩) hS7 ?_
      rotate_left
      · intro w hSw
        (try dsimp only at hSw)
        go_simp
        first | done | with_reducible rfl
      simp only [Act.put, List.setIfInBounds_toArray, List.set_cons_zero, List.set_cons_succ]
      obtain ⟨hS7, hS0⟩ := hS7
      refine wpAnyS_ready (rs := [10, 11]) (by kernel_rfl) (by simp) ?_
      refine AllReadyS.cons rfl (fun K hK => ?_) (AllReadyS.cons rfl (fun K hK => ?_) AllReadyS.nil)
      · go_simp
        have hS8 : ((((w2.setCell ⟨g, cl.length * 4, none⟩ (.int .i64 k)).setCell ⟨g, cl.length * 4 + 1, none⟩ (.int .i64 k)).setCell ⟨g, cl.length * 4 + 2, none⟩ (.int .i64 (-1))).setCell ⟨g, cl.length * 4 + 3, none⟩ (.slice A' sub.length c')).cell? ⟨w.heap.size + 1, 0, none⟩ = some (.slice VA cl.length Vc) ∧ ((((w2.setCell ⟨g, cl.length * 4, none⟩ (.int .i64 k)).setCell ⟨g, cl.length * 4 + 1, none⟩ (.int .i64 k)).setCell ⟨g, cl.length * 4 + 2, none⟩ (.int .i64 (-1))).setCell ⟨g, cl.length * 4 + 3, none⟩ (.slice A' sub.length c')).cell? ⟨w.heap.size, 0, none⟩ = some (.pointer (some ⟨Bs, 0, none⟩)) := by
          rw [World.cell?_setCell_far _ _ _ _ hgB, World.cell?_setCell_far _ _ _ _ hgB, World.cell?_setCell_far _ _ _ _ hgB, World.cell?_setCell_far _ _ _ _ hgB, World.cell?_setCell_far _ _ _ _ hg0, World.cell?_setCell_far _ _ _ _ hg0, World.cell?_setCell_far _ _ _ _ hg0, World.cell?_setCell_far _ _ _ _ hg0]
          exact ⟨hS7, hS0⟩
        refine hK.out _ _ (fun _ => hS8) ?_
        clear hK
        refine wpAnyS_ready (rs := [11]) (by kernel_rfl) (by simp) ?_
        refine AllReadyS.cons rfl (fun K hK => ?_) AllReadyS.nil
        go_simp
        refine hK.out _ _ (fun h => absurd h (by decide)) ?_
        refine wpAnyS_done (by kernel_rfl) ?_ _
        refine HN.out _ _ _ _ _ _ _ _ _ _ _ _ _ _ _ _ _ hR ((hko7.trans (st4_keeps _ _ _ ⟨k, k, -1, ⟨A', sub.length, c'⟩⟩)).trans (KeepsOthers.setCell _ _ _)) ?_ HA.out.1
        exact (Gr.setCell (X := fun b => b = w.heap.size + 1) _ _ _ rfl).blk ((st4_gr (X := fun b => b = g) _ _ _ ⟨k, k, -1, ⟨A', sub.length, c'⟩⟩ rfl).blk hbn7 hgn) hbv
      · go_simp
        refine hK.out _ _ (fun h => absurd h (by decide)) ?_
        clear hK
        have fr : ∀ i, (w2.setCell ⟨w.heap.size + 1, 0, none⟩ (.slice (some ⟨g, 0, none⟩) (cl.length + 1) cap)).frozen? ⟨g, i, none⟩ = w2.frozen? ⟨g, i, none⟩ := fun i => World.frozen?_setCell _ _ _ _
        have ce : ∀ i, (w2.setCell ⟨w.heap.size + 1, 0, none⟩ (.slice (some ⟨g, 0, none⟩) (cl.length + 1) cap)).cell? ⟨g, i, none⟩ = w2.cell? ⟨g, i, none⟩ := fun i => World.cell?_setCell_far _ _ _ _ (fun e => hgB e.symm)
        rw [← ce] at z0 z1 z2 z3
        rw [← fr] at f0 f1 f2 f3
        refine wpAnyS_ready (rs := [10]) (by kernel_rfl) (by simp) ?_
        refine AllReadyS.cons rfl (fun K hK => ?_) AllReadyS.nil
        go_simp
        refine hK.out _ _ (fun h => absurd h (by decide)) ?_
        refine wpAnyS_done (by kernel_rfl) ?_ _
        refine HN.out _ _ _ _ _ _ _ _ _ _ _ _ _ _ _ _ _ hR ((hko7.trans (KeepsOthers.setCell _ _ _)).trans (st4_keeps _ _ _ ⟨k, k, -1, ⟨A', sub.length, c'⟩⟩)) ?_ HA.out.2
        exact (st4_gr (X := fun b => b = g) _ _ _ ⟨k, k, -1, ⟨A', sub.length, c'⟩⟩ rfl).blk ((Gr.setCell (X := fun b => b = w.heap.size + 1) _ _ _ rfl).blk hbn7 hbv) hgn
  · go_simp
    have hb6 : Below W4.heap.size W4 (W4.alloc (.cells #[.int .i64 0, .int .i64 0, .int .i64 0, .slice none 0 0] 35)) := (Below.refl _ W4).alloc (Nat.le_refl _) _
    have hG0 : Blk (W4.alloc (.cells #[.int .i64 0, .int .i64 0, .int .i64 0, .slice none 0 0] 35)) W4.heap.size 35 _ := Blk.new W4 35 #[.int .i64 0, .int .i64 0, .int .i64 0, .slice none 0 0]
    have hgB0 : W4.heap.size ≠ Bs := by have := h4.size; have := h4.lt; omega
    replace h4 := h4.below hb6
    replace hbn4 := hbn4.below hb6 hbn4.lt
    replace hko4 := hko4.trans (keeps_below hb6)
    have hS6' : (W4.alloc (.cells #[.int .i64 0, .int .i64 0, .int .i64 0, .slice none 0 0] 35)).cell? ⟨w.heap.size + 1, 0, none⟩ = some (.slice VA cl.length Vc) ∧ (W4.alloc (.cells #[.int .i64 0, .int .i64 0, .int .i64 0, .slice none 0 0] 35)).cell? ⟨w.heap.size, 0, none⟩ = some (.pointer (some ⟨Bs, 0, none⟩)) := ⟨h4.b1.cell 0, h4.b0.cell 0⟩
    refine hK.out _ _ (fun _ => hS6') ?_
    clear hK hHeld hb6
    generalize hG : W4.heap.size = G0 at *
    clear hG
    generalize W4.alloc (.cells #[.int .i64 0, .int .i64 0, .int .i64 0, .slice none 0 0] 35) = W6 at *
    try simp only [Act.put, List.setIfInBounds_toArray, List.set_cons_zero, List.set_cons_succ]
    refine wpAnyS_ready (rs := [4]) (by kernel_rfl) (by simp) ?_
    refine AllReadyS.cons rfl (fun K hK => ?_) AllReadyS.nil
    go_simp
    refine (ih W6 Ao os co t h4.sb h4.fo hn ht).mono ?_
    rintro e W5 ⟨hgr, hc, hst⟩
    cases hR : tryR ps r os t with
    | stop a er =>
      obtain ⟨A', c', rfl, hri⟩ := hst a er hR
      exact HE.out _ a er A' c' _ rfl hR (hko4.trans (h4.keeps hgr)) (h4.stopped hgr) (hri.mono (by have := h4.size; omega))
    | claims sub t' =>
      obtain ⟨A', c', rfl, hc1, hc2', hrd, Ao5, co5, hsb5, hfo5⟩ := hc sub t' hR
      obtain ⟨h5, hr5, hko45, hbk⟩ := h4.called hgr hsb5 hfo5 hrd
      have hbn5 := hbk Bn _ _ hbB hbn4
      have hko5 := hko4.trans hko45
      have hS6 : W5.cell? ⟨w.heap.size + 1, 0, none⟩ = some (.slice VA cl.length Vc) ∧ W5.cell? ⟨w.heap.size, 0, none⟩ = some (.pointer (some ⟨Bs, 0, none⟩)) := ⟨h5.b1.cell 0, h5.b0.cell 0⟩
      refine hK.out _ _ (fun _ => hS6) ?_
      clear hK hc hst hko45 hrd hsb5 hfo5 hgr ih HE hko4
      replace hG0 := hbk G0 _ _ hgB0 hG0
      clear hbk hbn4 h4
      try simp only [Act.put, List.setIfInBounds_toArray, List.set_cons_zero, List.set_cons_succ]
      refine wpAnyS_takeT (i := 5) (v := ?_) rfl (by kernel_rfl) (by kernel_rfl) (by kernel_rfl) (by kernel_rfl) (fun c a w => HP.out _ _ c a w) (Or.inl ⟨by rfl, ?_⟩) hS6 ?_
      rotate_left
      · intro w hSw
        (try dsimp only at hSw)
        go_simp
        first | done | with_reducible rfl
      simp only [Act.put, List.setIfInBounds_toArray, List.set_cons_zero, List.set_cons_succ]
      refine wpAnyS_ready (rs := [8]) (by kernel_rfl) (by simp) ?_
      refine AllReadyS.cons rfl (fun K hK => ?_) AllReadyS.nil
      have hz5 := h5.size
      refine step_append_lies _ (by rfl) (.tmp 59) (.tmp 66) 29 (by rfl) (w.heap.size + 3) 35 i0 _ 4 48 Try.underlying29 hi0 hz0 hz1 hz2 (by rfl) (by decide) (.slice VA cl.length Vc) cl.length _ (by rfl) h5.own ⟨G0, 0, none⟩ 1 1 [.int .i64 0, .int .i64 0, .int .i64 0, .slice none 0 0] (by rfl) (by rfl) (World.news_of_block (cs := #[.int .i64 0, .int .i64 0, .int .i64 0, .slice none 0 0]) (t := 35) (fr := (0, 0)) hG0) (by simp [Value.oneCell']) (by omega) (by unfold maxLen; omega) (by omega) (by omega) _ rfl ?_
      intro g cap w2 hown2 hgrow hg hgl
      have hgB : g ≠ w.heap.size + 1 := fun e => by
        rcases hg with hg | hg
        · have := (h5.ownNe hg).1; omega
        · omega
      have hg0 : g ≠ w.heap.size := fun e => by
        rcases hg with hg | hg
        · have := (h5.ownNe hg).1; omega
        · omega
      have hS7 : w2.cell? ⟨w.heap.size + 1, 0, none⟩ = some (.slice VA cl.length Vc) ∧ w2.cell? ⟨w.heap.size, 0, none⟩ = some (.pointer (some ⟨Bs, 0, none⟩)) := ⟨(World.cell?_of_block (hgrow.block (w.heap.size + 1) (by omega) (fun e => by have := (h5.ownNe e.symm).1; omega))).trans (h5.b1.cell 0), (World.cell?_of_block (hgrow.block w.heap.size (by omega) (fun e => by have := (h5.ownNe e.symm).1; omega))).trans (h5.b0.cell 0)⟩
      have hb7 : Blk w2 (w.heap.size + 1) 29 #[.slice VA cl.length Vc] := (hgrow.block (w.heap.size + 1) (by omega) (fun e => by have := (h5.ownNe e.symm).1; omega)).trans h5.b1
      have fB := hb7.frozen 0
      refine hK.out _ _ (fun _ => hS7) ?_
      clear hK
      have hi0 : (0 : Int) ≤ (cl.length : Int) := by omega
      have hi1 : (cl.length : Int) < (cl.length : Int) + 1 := by omega
      have hLl : (L.flatMap CV.cells).length = cl.length * 4 := by rw [CV.len, h5.cvs.1]
      have hc2 : ∀ j v, ([.int .i64 0, .int .i64 0, .int .i64 0, .slice none 0 0] : List Value)[j]? = some v → w2.cell? ⟨g, cl.length * 4 + j, none⟩ = some v := fun j v hv => by
        have := hown2.cells (g := g) rfl (cl.length * 4 + j) v (by rw [List.getElem?_append_right (by omega), hLl, show cl.length * 4 + j - cl.length * 4 = j by omega]; exact hv)
        rw [add_none] at this
        simpa using this
      have z0 := hc2 0 _ rfl
      have z1 := hc2 1 _ rfl
      have z2 := hc2 2 _ rfl
      have z3 := hc2 3 _ rfl
      have f0 := hown2.frozenAt (cl.length * 4 + 0)
      have f1 := hown2.frozenAt (cl.length * 4 + 1)
      have f2 := hown2.frozenAt (cl.length * 4 + 2)
      have f3 := hown2.frozenAt (cl.length * 4 + 3)
      simp only [Nat.add_zero] at z0 f0
      have nB : (Value.slice VA cl.length Vc).ownBlock ≠ some Bn := fun e => by
        obtain ⟨_, _, cur, hc⟩ := h5.ownNe e
        have h6 := hbn5
        unfold Blk at h6
        rw [hc] at h6; cases h6
      have hgn : Bn ≠ g := by
        rintro rfl
        rcases hg with hg | hg
        · exact nB hg
        · have := hbn5.lt; omega
      have hbn7 : Blk w2 Bn 65 #[.pointer (some ⟨Bs, 0, none⟩)] := (hgrow.block Bn (by have := hbn5.lt; omega) (fun e => nB e.symm)).trans hbn5
      have hko7 : KeepsOthers W w2 := hko5.trans (KeepsOthers.of_grownBy hgrow fun j o hj ho => own_cells h5.own j o hj ho)
      have hbv : Bn ≠ w.heap.size + 1 := by
        rintro rfl
        have h6 := h5.b1
        unfold Blk at h6 hbn5
        rw [h6] at hbn5; cases hbn5
      have HA := Lib.hid (h5.app hgrow hown2 (by simpa using hg) ⟨k, k, -1, ⟨A', sub.length, c'⟩⟩ (.mk k k (-1) sub) ⟨rfl, rfl, rfl, rfl, hc1, hc2', hr5⟩)
      clear hown2 hgrow h5 hc2 nB hbn5 hg hr5 hG0
      simp only [Act.put, List.setIfInBounds_toArray, List.set_cons_zero, List.set_cons_succ]
      refine wpAnyS_takeT (i := 9) (v := ?_) rfl (by kernel_rfl) (by kernel_rfl) (by kernel_rfl) (by kernel_rfl) (fun c a w => HP.out _ _ c a w) (Or.inl ⟨by rfl, ?_⟩) hS7 ?_
      rotate_left
      · intro w hSw
        (try dsimp only at hSw)
        go_simp
        first | done | with_reducible rfl
      simp only [Act.put, List.setIfInBounds_toArray, List.set_cons_zero, List.set_cons_succ]
      obtain ⟨hS7, hS0⟩ := hS7
      refine wpAnyS_ready (rs := [10, 11]) (by kernel_rfl) (by simp) ?_
      refine AllReadyS.cons rfl (fun K hK => ?_) (AllReadyS.cons rfl (fun K hK => ?_) AllReadyS.nil)
      · go_simp
        have hS8 : ((((w2.setCell ⟨g, cl.length * 4, none⟩ (.int .i64 k)).setCell ⟨g, cl.length * 4 + 1, none⟩ (.int .i64 k)).setCell ⟨g, cl.length * 4 + 2, none⟩ (.int .i64 (-1))).setCell ⟨g, cl.length * 4 + 3, none⟩ (.slice A' sub.length c')).cell? ⟨w.heap.size + 1, 0, none⟩ = some (.slice VA cl.length Vc) ∧ ((((w2.setCell ⟨g, cl.length * 4, none⟩ (.int .i64 k)).setCell ⟨g, cl.length * 4 + 1, none⟩ (.int .i64 k)).setCell ⟨g, cl.length * 4 + 2, none⟩ (.int .i64 (-1))).setCell ⟨g, cl.length * 4 + 3, none⟩ (.slice A' sub.length c')).cell? ⟨w.heap.size, 0, none⟩ = some (.pointer (some ⟨Bs, 0, none⟩)) := by
          rw [World.cell?_setCell_far _ _ _ _ hgB, World.cell?_setCell_far _ _ _ _ hgB, World.cell?_setCell_far _ _ _ _ hgB, World.cell?_setCell_far _ _ _ _ hgB, World.cell?_setCell_far _ _ _ _ hg0, World.cell?_setCell_far _ _ _ _ hg0, World.cell?_setCell_far _ _ _ _ hg0, World.cell?_setCell_far _ _ _ _ hg0]
          exact ⟨hS7, hS0⟩
        refine hK.out _ _ (fun _ => hS8) ?_
        clear hK
        refine wpAnyS_ready (rs := [11]) (by kernel_rfl) (by simp) ?_
        refine AllReadyS.cons rfl (fun K hK => ?_) AllReadyS.nil
        go_simp
        refine hK.out _ _ (fun h => absurd h (by decide)) ?_
        refine wpAnyS_done (by kernel_rfl) ?_ _
        refine HN.out _ _ _ _ _ _ _ _ _ _ _ _ _ _ _ _ _ hR ((hko7.trans (st4_keeps _ _ _ ⟨k, k, -1, ⟨A', sub.length, c'⟩⟩)).trans (KeepsOthers.setCell _ _ _)) ?_ HA.out.1
        exact (Gr.setCell (X := fun b => b = w.heap.size + 1) _ _ _ rfl).blk ((st4_gr (X := fun b => b = g) _ _ _ ⟨k, k, -1, ⟨A', sub.length, c'⟩⟩ rfl).blk hbn7 hgn) hbv
      · go_simp
        refine hK.out _ _ (fun h => absurd h (by decide)) ?_
        clear hK
        have fr : ∀ i, (w2.setCell ⟨w.heap.size + 1, 0, none⟩ (.slice (some ⟨g, 0, none⟩) (cl.length + 1) cap)).frozen? ⟨g, i, none⟩ = w2.frozen? ⟨g, i, none⟩ := fun i => World.frozen?_setCell _ _ _ _
        have ce : ∀ i, (w2.setCell ⟨w.heap.size + 1, 0, none⟩ (.slice (some ⟨g, 0, none⟩) (cl.length + 1) cap)).cell? ⟨g, i, none⟩ = w2.cell? ⟨g, i, none⟩ := fun i => World.cell?_setCell_far _ _ _ _ (fun e => hgB e.symm)
        rw [← ce] at z0 z1 z2 z3
        rw [← fr] at f0 f1 f2 f3
        refine wpAnyS_ready (rs := [10]) (by kernel_rfl) (by simp) ?_
        refine AllReadyS.cons rfl (fun K hK => ?_) AllReadyS.nil
        go_simp
        refine hK.out _ _ (fun h => absurd h (by decide)) ?_
        refine wpAnyS_done (by kernel_rfl) ?_ _
        refine HN.out _ _ _ _ _ _ _ _ _ _ _ _ _ _ _ _ _ hR ((hko7.trans (KeepsOthers.setCell _ _ _)).trans (st4_keeps _ _ _ ⟨k, k, -1, ⟨A', sub.length, c'⟩⟩)) ?_ HA.out.2
        exact (st4_gr (X := fun b => b = g) _ _ _ ⟨k, k, -1, ⟨A', sub.length, c'⟩⟩ rfl).blk ((Gr.setCell (X := fun b => b = w.heap.size + 1) _ _ _ rfl).blk hbn7 hbv) hgn
end
end Go.Proofs.Ytlmbffnmjfbglab
