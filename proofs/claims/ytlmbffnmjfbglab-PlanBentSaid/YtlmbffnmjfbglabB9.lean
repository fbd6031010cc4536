/- A region of PlanBent: claims, one of them twice. -/
import Derived.Test.YtlmbffnmjfbglabK1
set_option linter.unusedSimpArgs false
set_option linter.unusedVariables false
namespace Go.Proofs.Ytlmbffnmjfbglab
open Go.ChangeShapes Go.WideShapes Go.ChangeAt Go.RowKit

/-- a region of PlanBent. -/
noncomputable def reg4 (id : Nat) : Code := (Try.f4.body.bind (regAt id)).getD .skip
section
attribute [-go_sem] run_sliceAt_slice
set_option maxRecDepth 100000 in
set_option maxHeartbeats 4000000 in
theorem reg9b_c (L : List CV) (b o cc k : Nat) (W : World) (hk : k < L.length) (hcc : L.length ≤ cc) (hlen : L.length ≤ 16384) (hr : Reads W W.heap.size 4 (some ⟨b, o, none⟩) L.length (L.flatMap CV.cells)) {x0 x1 x2 x3 x4 x5 x7 x9 x10 x11 x12 x13 x14 x15 x16 x17 x18 x19 x20 x21 x22 x23 x24 x25 x26 x27 x28 x29 x30 x31 x32 x33 x34 x35 x36 x37 x38 x39 x40 x41 x42 x43 x44 x45 x46 x47 x48 x49 x50 x51 x52 x53 x54 x55 x56 x57 x58 x59 x60 x61 x62 x63 x64 x65 x66 x67 x68 x69 x70 x71 x72 x73 x74 x75 x76 x77 x78 x79 x80 x81 x82 x83 x84 x85 x86 x87 x88 x89 x90 x91 x92 x93 x94 x95 x96 x97 x98 x99 x100 x101 x102 x103 x104 x105 x106 x107 x108 x109 x110 : Value} (Q : Exit → Act → World → Prop) (hP0 : ∀ d v c a w, Q (.panic c) (Act.put a d v) w → Q (.panic c) a w)
    (hN : ∀ y32 y33 y34 y35 y36 y37 y38 y39 y40 y41 y42 y43 y44 y45 y46 y47 y48 V W', Below W.heap.size W W' → W'.ownsRow W.heap.size 35 4 V (L.length + 1) ((L.take (k + 1) ++ L[k] :: L.drop (k + 1)).flatMap CV.cells) → Q .normal { tmps := List.toArray (x0 :: x1 :: x2 :: x3 :: x4 :: x5 :: Value.slice (some ⟨b, o, none⟩) L.length cc :: x7 :: Value.int .i64 k :: V :: x10 :: x11 :: x12 :: x13 :: x14 :: x15 :: x16 :: x17 :: x18 :: x19 :: x20 :: x21 :: x22 :: x23 :: x24 :: x25 :: x26 :: x27 :: x28 :: x29 :: x30 :: x31 :: y32 :: y33 :: y34 :: y35 :: y36 :: y37 :: y38 :: y39 :: y40 :: y41 :: y42 :: y43 :: y44 :: y45 :: y46 :: y47 :: y48 :: x49 :: x50 :: x51 :: x52 :: x53 :: x54 :: x55 :: x56 :: x57 :: x58 :: x59 :: x60 :: x61 :: x62 :: x63 :: x64 :: x65 :: x66 :: x67 :: x68 :: x69 :: x70 :: x71 :: x72 :: x73 :: x74 :: x75 :: x76 :: x77 :: x78 :: x79 :: x80 :: x81 :: x82 :: x83 :: x84 :: x85 :: x86 :: x87 :: x88 :: x89 :: x90 :: x91 :: x92 :: x93 :: x94 :: x95 :: x96 :: x97 :: x98 :: x99 :: x100 :: x101 :: x102 :: x103 :: x104 :: x105 :: x106 :: x107 :: x108 :: x109 :: x110 :: []), defers := [] } W') :
    (reg4 9).wp Try.prog Q { tmps := List.toArray (x0 :: x1 :: x2 :: x3 :: x4 :: x5 :: Value.slice (some ⟨b, o, none⟩) L.length cc :: x7 :: Value.int .i64 k :: x9 :: x10 :: x11 :: x12 :: x13 :: x14 :: x15 :: x16 :: x17 :: x18 :: x19 :: x20 :: x21 :: x22 :: x23 :: x24 :: x25 :: x26 :: x27 :: x28 :: x29 :: x30 :: x31 :: x32 :: x33 :: x34 :: x35 :: x36 :: x37 :: x38 :: x39 :: x40 :: x41 :: x42 :: x43 :: x44 :: x45 :: x46 :: x47 :: x48 :: x49 :: x50 :: x51 :: x52 :: x53 :: x54 :: x55 :: x56 :: x57 :: x58 :: x59 :: x60 :: x61 :: x62 :: x63 :: x64 :: x65 :: x66 :: x67 :: x68 :: x69 :: x70 :: x71 :: x72 :: x73 :: x74 :: x75 :: x76 :: x77 :: x78 :: x79 :: x80 :: x81 :: x82 :: x83 :: x84 :: x85 :: x86 :: x87 :: x88 :: x89 :: x90 :: x91 :: x92 :: x93 :: x94 :: x95 :: x96 :: x97 :: x98 :: x99 :: x100 :: x101 :: x102 :: x103 :: x104 :: x105 :: x106 :: x107 :: x108 :: x109 :: x110 :: []), defers := [] } W := by
  obtain ⟨i0, hi0, hz0, hz1, hz2⟩ := info_parts info35
  have hr1 : Reads W W.heap.size 4 (some ⟨b, o, none⟩) (k + 1) ((L.take (k + 1)).flatMap CV.cells) := by rw [← cells_take]; exact hr.first (by omega)
  obtain ⟨A9, hA9⟩ : ∃ A9, A9 = fromA 4 (some ⟨b, o, none⟩) (k + 1) cc := ⟨_, rfl⟩
  have hr2 : Reads W W.heap.size 4 A9 (L.length - (k + 1)) ((L.drop (k + 1)).flatMap CV.cells) := by rw [hA9, ← cells_drop]; exact hr.cut (by omega) hcc
  have hsl1 : ∀ W, (Instr.sliceAt 29 (.slice (some ⟨b, o, none⟩) L.length cc) none (some (.int .i64 ((k : Int) + 1))) none).run Try.prog W = .ok (.slice (some ⟨b, o, none⟩) (k + 1) cc) W := fun W => by have := slice_to29 (some ⟨b, o, none⟩) L.length (k + 1) cc (by omega) W; simpa using this
  have hsl2 : ∀ W, (Instr.sliceAt 29 (.slice (some ⟨b, o, none⟩) L.length cc) (some (.int .i64 ((k : Int) + 1))) none none).run Try.prog W = .ok (.slice A9 (L.length - (k + 1)) (cc - (k + 1))) W := fun W => by have := slice_from29 (some ⟨b, o, none⟩) L.length (k + 1) cc (by omega) hcc W; rw [hA9]; simpa using this
  have hwr := IntWalk.i64_in ((k : Int) + 1) (by omega)
  have hi0' : (0 : Int) ≤ (k : Int) := by omega
  have hi1' : (k : Int) < (L.length : Int) := by omega
  obtain ⟨ad, e, hbl, hcell⟩ := hr.2 (by omega)
  injection e with e
  subst e
  obtain ⟨g0, g1, g2, g3⟩ := CV.get L k hk
  have q0 := hcell _ _ g0
  have q1 := hcell _ _ g1
  have q2 := hcell _ _ g2
  have q3 := hcell _ _ g3
  rw [add_none] at q0 q1 q2 q3
  rw [← Nat.add_assoc] at q1 q2 q3
  clear g0 g1 g2 g3 hcell hr hA9
  have hbl' : b < W.heap.size := hbl
  clear hbl
  obtain ⟨f0, t0, w0, a0, n0, c0, hL⟩ : ∃ f0 t0 w0 a0 n0 c0, L[k] = ⟨f0, t0, w0, ⟨a0, n0, c0⟩⟩ := ⟨_, _, _, _, _, _, rfl⟩
  rw [hL] at q0 q1 q2 q3 hN
  simp only at q0 q1 q2 q3
  refine wp_region_S (fun W' => W'.cell? ⟨b, o + k * 4, none⟩ = some (.int .i64 f0) ∧ W'.cell? ⟨b, o + k * 4 + 1, none⟩ = some (.int .i64 t0) ∧ W'.cell? ⟨b, o + k * 4 + 2, none⟩ = some (.int .i64 w0) ∧ W'.cell? ⟨b, o + k * 4 + 3, none⟩ = some (.slice a0 n0 c0)) 17 (by kernel_rfl) ⟨q0, q1, q2, q3⟩ (fun hHeld => ?_)
  have hWW : ∀ W', Below W.drew.heap.size W.drew W' → Below W.heap.size W W' := fun W' hb => ((Below.refl _ W).drew).trans hb
  have hS4 : ∀ W', Below W.drew.heap.size W.drew W' → (fun W' => W'.cell? ⟨b, o + k * 4, none⟩ = some (.int .i64 f0) ∧ W'.cell? ⟨b, o + k * 4 + 1, none⟩ = some (.int .i64 t0) ∧ W'.cell? ⟨b, o + k * 4 + 2, none⟩ = some (.int .i64 w0) ∧ W'.cell? ⟨b, o + k * 4 + 3, none⟩ = some (.slice a0 n0 c0)) W' := fun W' hb => ⟨(hb.cell (p := ⟨b, _, none⟩) hbl').trans q0, (hb.cell (p := ⟨b, _, none⟩) hbl').trans q1, (hb.cell (p := ⟨b, _, none⟩) hbl').trans q2, (hb.cell (p := ⟨b, _, none⟩) hbl').trans q3⟩
  have HS := Lib.hid hS4
  have HW := Lib.hid hWW
  have HP := Lib.hid hP0
  have HN := Lib.hid hN
  have HR1 : Hid (Reads W.drew W.drew.heap.size 4 (some ⟨b, o, none⟩) (k + 1) ((L.take (k + 1)).flatMap CV.cells)) := Lib.hid hr1
  have HR2 : Hid (Reads W.drew W.drew.heap.size 4 A9 (L.length - (k + 1)) ((L.drop (k + 1)).flatMap CV.cells)) := Lib.hid hr2
  obtain ⟨B0, hB0⟩ : ∃ B0, W.drew.heap.size = B0 := ⟨_, rfl⟩
  have HB0 := Lib.hid hB0
  clear hS4 hWW hP0 hN hr1 hr2 q0 q1 q2 q3 hbl' hL hB0
  rw [show W.heap.size = W.drew.heap.size from rfl] at HN HW
  generalize W.drew = W4 at *
  have hbc : Below W4.heap.size W4 W4 := Below.refl _ _
  refine wpAnyS_take (i := 1) (v := ?_) rfl (by kernel_rfl) (by kernel_rfl) (by kernel_rfl) (by kernel_rfl) (fun c a w => HP.out _ _ c a w) (Or.inl ⟨by rfl, ?_⟩) hHeld ?_
  rotate_left
  · intro w hSw
    obtain ⟨hs0, hs1, hs2, hs3⟩ := hSw
    go_simp
    first | done | with_reducible rfl
  simp only [Act.put, List.setIfInBounds_toArray, List.set_cons_zero, List.set_cons_succ]
  refine wpAnyS_take (i := 2) (v := ?_) rfl (by kernel_rfl) (by kernel_rfl) (by kernel_rfl) (by kernel_rfl) (fun c a w => HP.out _ _ c a w) (Or.inl ⟨by rfl, ?_⟩) hHeld ?_
  rotate_left
  · intro w hSw
    obtain ⟨hs0, hs1, hs2, hs3⟩ := hSw
    go_simp
    first | done | with_reducible rfl
  simp only [Act.put, List.setIfInBounds_toArray, List.set_cons_zero, List.set_cons_succ]
  refine wpAnyS_take (i := 3) (v := ?_) rfl (by kernel_rfl) (by kernel_rfl) (by kernel_rfl) (by kernel_rfl) (fun c a w => HP.out _ _ c a w) (Or.inl ⟨by rfl, ?_⟩) hHeld ?_
  rotate_left
  · intro w hSw
    obtain ⟨hs0, hs1, hs2, hs3⟩ := hSw
    go_simp
    first | done | with_reducible rfl
  simp only [Act.put, List.setIfInBounds_toArray, List.set_cons_zero, List.set_cons_succ]
  refine wpAnyS_take (i := 4) (v := ?_) rfl (by kernel_rfl) (by kernel_rfl) (by kernel_rfl) (by kernel_rfl) (fun c a w => HP.out _ _ c a w) (Or.inl ⟨by rfl, ?_⟩) hHeld ?_
  rotate_left
  · intro w hSw
    obtain ⟨hs0, hs1, hs2, hs3⟩ := hSw
    go_simp
    first | done | with_reducible rfl
  simp only [Act.put, List.setIfInBounds_toArray, List.set_cons_zero, List.set_cons_succ]
  refine wpAnyS_take (i := 6) (v := ?_) rfl (by kernel_rfl) (by kernel_rfl) (by kernel_rfl) (by kernel_rfl) (fun c a w => HP.out _ _ c a w) (Or.inl ⟨by rfl, ?_⟩) hHeld ?_
  rotate_left
  · intro w hSw
    obtain ⟨hs0, hs1, hs2, hs3⟩ := hSw
    go_simp
    first | done | with_reducible rfl
  simp only [Act.put, List.setIfInBounds_toArray, List.set_cons_zero, List.set_cons_succ]
  refine wpAnyS_take (i := 7) (v := ?_) rfl (by kernel_rfl) (by kernel_rfl) (by kernel_rfl) (by kernel_rfl) (fun c a w => HP.out _ _ c a w) (Or.inl ⟨by rfl, ?_⟩) hHeld ?_
  rotate_left
  · intro w hSw
    obtain ⟨hs0, hs1, hs2, hs3⟩ := hSw
    go_simp
    first | done | with_reducible rfl
  simp only [Act.put, List.setIfInBounds_toArray, List.set_cons_zero, List.set_cons_succ]
  refine wpAnyS_take (i := 8) (v := ?_) rfl (by kernel_rfl) (by kernel_rfl) (by kernel_rfl) (by kernel_rfl) (fun c a w => HP.out _ _ c a w) (Or.inl ⟨by rfl, ?_⟩) hHeld ?_
  rotate_left
  · intro w hSw
    obtain ⟨hs0, hs1, hs2, hs3⟩ := hSw
    go_simp
    first | done | with_reducible rfl
  simp only [Act.put, List.setIfInBounds_toArray, List.set_cons_zero, List.set_cons_succ]
  refine wpAnyS_take (i := 9) (v := ?_) rfl (by kernel_rfl) (by kernel_rfl) (by kernel_rfl) (by kernel_rfl) (fun c a w => HP.out _ _ c a w) (Or.inl ⟨by rfl, ?_⟩) hHeld ?_
  rotate_left
  · intro w hSw
    obtain ⟨hs0, hs1, hs2, hs3⟩ := hSw
    go_simp
    first | done | with_reducible rfl
  simp only [Act.put, List.setIfInBounds_toArray, List.set_cons_zero, List.set_cons_succ]
  refine wpAnyS_take (i := 12) (v := ?_) rfl (by kernel_rfl) (by kernel_rfl) (by kernel_rfl) (by kernel_rfl) (fun c a w => HP.out _ _ c a w) (Or.inl ⟨by rfl, ?_⟩) hHeld ?_
  rotate_left
  · intro w hSw
    obtain ⟨hs0, hs1, hs2, hs3⟩ := hSw
    go_simp
    first | done | with_reducible rfl
  simp only [Act.put, List.setIfInBounds_toArray, List.set_cons_zero, List.set_cons_succ]
  refine wpAnyS_take (i := 13) (v := ?_) rfl (by kernel_rfl) (by kernel_rfl) (by kernel_rfl) (by kernel_rfl) (fun c a w => HP.out _ _ c a w) (Or.inl ⟨by rfl, ?_⟩) hHeld ?_
  rotate_left
  · intro w hSw
    obtain ⟨hs0, hs1, hs2, hs3⟩ := hSw
    go_simp
    first | done | with_reducible rfl
  simp only [Act.put, List.setIfInBounds_toArray, List.set_cons_zero, List.set_cons_succ]
  refine wpAnyS_take (i := 14) (v := ?_) rfl (by kernel_rfl) (by kernel_rfl) (by kernel_rfl) (by kernel_rfl) (fun c a w => HP.out _ _ c a w) (Or.inl ⟨by rfl, ?_⟩) hHeld ?_
  rotate_left
  · intro w hSw
    obtain ⟨hs0, hs1, hs2, hs3⟩ := hSw
    go_simp
    first | done | with_reducible rfl
  simp only [Act.put, List.setIfInBounds_toArray, List.set_cons_zero, List.set_cons_succ]
  refine wpAnyS_take (i := 15) (v := ?_) rfl (by kernel_rfl) (by kernel_rfl) (by kernel_rfl) (by kernel_rfl) (fun c a w => HP.out _ _ c a w) (Or.inl ⟨by rfl, ?_⟩) hHeld ?_
  rotate_left
  · intro w hSw
    obtain ⟨hs0, hs1, hs2, hs3⟩ := hSw
    go_simp
    first | done | with_reducible rfl
  simp only [Act.put, List.setIfInBounds_toArray, List.set_cons_zero, List.set_cons_succ]
  refine wpAnyS_ready (rs := [0, 10]) (by kernel_rfl) (by simp) ?_
  refine AllReadyS.cons rfl (fun K hK => ?_) (AllReadyS.cons rfl (fun K hK => ?_) AllReadyS.nil)
  · -- empty first
    go_simp
    have hx : Below W4.heap.size W4 (W4.alloc (.cells #[] 35)) := (Below.refl _ _).alloc (Nat.le_refl _) _
    have hown : (W4.alloc (.cells #[] 35)).ownsRow B0 35 4 (.slice (some ⟨W4.heap.size, 0, none⟩) 0 0) 0 [] := World.ownsRow_made W4 #[] 0 (by have := hbc.size; have := HB0.out; omega) (by simp [maxLen]) (by simp)
    have hEz : W4.heap.size < (W4.alloc (.cells #[] 35)).heap.size := by simp
    have hEB : B0 ≤ W4.heap.size := by have := hbc.size; have := HB0.out; omega
    replace hbc := hbc.trans (hx.mono hbc.size)
    refine hK.out _ _ (fun _ => HS.out _ hbc) ?_
    clear hK hx
    generalize hE : W4.heap.size = E at hown hEz hEB ⊢
    clear hE
    generalize W4.alloc (.cells #[] 35) = W5 at *
    try simp only [Act.put, List.setIfInBounds_toArray, List.set_cons_zero, List.set_cons_succ]
    refine wpAnyS_ready (rs := [5, 10]) (by kernel_rfl) (by simp) ?_
    refine AllReadyS.cons rfl (fun K hK => ?_) (AllReadyS.cons rfl (fun K hK => ?_) AllReadyS.nil)
    · -- then the append
      refine step_append_any _ (by rfl) (.tmp 32) (.tmp 36) 29 (by rfl) B0 35 i0 _ 4 48 Try.underlying29 hi0 hz0 hz1 hz2 (by rfl) (by decide) (.slice (some ⟨E, 0, none⟩) 0 0) 0 [] (by rfl) hown W5.heap.size (some ⟨b, o, none⟩) (k + 1) cc ((L.take (k + 1)).flatMap CV.cells) (by rfl) ((HR1.out.below hbc).more hbc.size) (cells_one _) (by unfold maxLen; omega) (by omega) (by have := hbc.size; have := HB0.out; omega) ?_
      intro v W6 hown3 hgr3 hat3
      replace hown : W6.ownsRow B0 35 4 v (k + 1) ((L.take (k + 1)).flatMap CV.cells) := by simpa using hown3
      replace hbc : Below W4.heap.size W4 W6 := hbc.grown hgr3 hbc.size (fun k hk => by simp [Value.ownBlock] at hk; have := HB0.out; omega)
      refine hK.out _ _ (fun _ => HS.out _ hbc) ?_
      clear hK hown3 hgr3 hat3 hEB
      try simp only [Act.put, List.setIfInBounds_toArray, List.set_cons_zero, List.set_cons_succ]
      refine wpAnyS_ready (rs := [10]) (by kernel_rfl) (by simp) ?_
      refine AllReadyS.cons rfl (fun K hK => ?_) AllReadyS.nil
      go_simp
      have hx : Below W6.heap.size W6 (W6.alloc (.cells #[.int .i64 f0, .int .i64 t0, .int .i64 w0, .slice a0 n0 c0] 35)) := (Below.refl _ _).alloc (Nat.le_refl _) _
      have hG0 : Blk (W6.alloc (.cells #[.int .i64 f0, .int .i64 t0, .int .i64 w0, .slice a0 n0 c0] 35)) W6.heap.size 35 #[.int .i64 f0, .int .i64 t0, .int .i64 w0, .slice a0 n0 c0] := Blk.new W6 35 #[.int .i64 f0, .int .i64 t0, .int .i64 w0, .slice a0 n0 c0]
      replace hbc := hbc.trans (hx.mono hbc.size)
      replace hown := hown.kept (below_grown (row := none) hx) (by cases v.ownBlock <;> simp)
      refine hK.out _ _ (fun _ => HS.out _ hbc) ?_
      clear hK hx
      generalize hGz : W6.heap.size = G0 at hG0 ⊢
      clear hGz
      generalize W6.alloc (.cells #[.int .i64 f0, .int .i64 t0, .int .i64 w0, .slice a0 n0 c0] 35) = W7 at *
      try simp only [Act.put, List.setIfInBounds_toArray, List.set_cons_zero, List.set_cons_succ]
      refine wpAnyS_ready (rs := [11]) (by kernel_rfl) (by simp) ?_
      refine AllReadyS.cons rfl (fun K hK => ?_) AllReadyS.nil
      refine step_append_lies _ (by rfl) (.tmp 37) (.tmp 42) 29 (by rfl) B0 35 i0 _ 4 48 Try.underlying29 hi0 hz0 hz1 hz2 (by rfl) (by decide) v (k + 1) _ (by rfl) hown ⟨G0, 0, none⟩ 1 1 [.int .i64 f0, .int .i64 t0, .int .i64 w0, .slice a0 n0 c0] (by rfl) (by rfl) (World.news_of_block (cs := #[.int .i64 f0, .int .i64 t0, .int .i64 w0, .slice a0 n0 c0]) (t := 35) (fr := (0, 0)) hG0) (by simp [Value.oneCell']) (by omega) (by unfold maxLen; omega) (by omega) (by have := hbc.size; have := HB0.out; omega) _ rfl ?_
      intro g cap w2 hown2 hgrow hg hgl
      replace hbc : Below W4.heap.size W4 w2 := hbc.grown hgrow hbc.size (fun k hk => by have := (hown.lt k hk).1; have := HB0.out; omega)
      refine hK.out _ _ (fun _ => HS.out _ hbc) ?_
      clear hK hown hgrow hg hG0
      try simp only [Act.put, List.setIfInBounds_toArray, List.set_cons_zero, List.set_cons_succ]
      refine wpAnyS_ready (rs := [16]) (by kernel_rfl) (by simp) ?_
      refine AllReadyS.cons rfl (fun K hK => ?_) AllReadyS.nil
      refine step_append_any _ (by rfl) (.tmp 43) (.tmp 47) 29 (by rfl) B0 35 i0 _ 4 48 Try.underlying29 hi0 hz0 hz1 hz2 (by rfl) (by decide) (.slice (some ⟨g, 0, none⟩) (k + 1 + 1) cap) (k + 1 + 1) _ (by rfl) hown2 w2.heap.size A9 (L.length - (k + 1)) (cc - (k + 1)) ((L.drop (k + 1)).flatMap CV.cells) (by rfl) ((HR2.out.below hbc).more hbc.size) (cells_one _) (by unfold maxLen; omega) (by omega) (by have := hbc.size; have := HB0.out; omega) ?_
      intro V w3 hown3 hgr3 hat3
      have hbc3 : Below W4.heap.size W4 w3 := hbc.grown hgr3 hbc.size (fun k hk => by have := (hown2.lt k hk).1; have := HB0.out; omega)
      refine hK.out _ _ (fun _ => HS.out _ hbc3) ?_
      have hs9 := HS.out _ hbc3
      have hfin : w3.ownsRow B0 35 4 V (L.length + 1) ((L.take (k + 1) ++ ⟨f0, t0, w0, ⟨a0, n0, c0⟩⟩ :: L.drop (k + 1)).flatMap CV.cells) := by
        have e1 : k + 1 + 1 + (L.length - (k + 1)) = L.length + 1 := by omega
        rw [e1] at hown3
        rw [List.flatMap_append, List.flatMap_cons, ← List.append_assoc]
        exact hown3
      clear hK hown2 hown3 hgr3 hat3 hbc
      try simp only [Act.put, List.setIfInBounds_toArray, List.set_cons_zero, List.set_cons_succ]
      refine wpAnyS_ready (rs := [17]) (by kernel_rfl) (by simp) ?_
      refine AllReadyS.cons rfl (fun K hK => ?_) AllReadyS.nil
      go_simp
      refine hK.out _ _ (fun h => absurd h (by decide)) ?_
      refine wpAnyS_done (by kernel_rfl) ?_ _
      clear hK hs9
      exact HN.out _ _ _ _ _ _ _ _ _ _ _ _ _ _ _ _ _ V w3 (HW.out _ hbc3) (HB0.out ▸ hfin)
    · -- then the one claim
      go_simp
      have hx : Below W5.heap.size W5 (W5.alloc (.cells #[.int .i64 f0, .int .i64 t0, .int .i64 w0, .slice a0 n0 c0] 35)) := (Below.refl _ _).alloc (Nat.le_refl _) _
      have hG0 : Blk (W5.alloc (.cells #[.int .i64 f0, .int .i64 t0, .int .i64 w0, .slice a0 n0 c0] 35)) W5.heap.size 35 #[.int .i64 f0, .int .i64 t0, .int .i64 w0, .slice a0 n0 c0] := Blk.new W5 35 #[.int .i64 f0, .int .i64 t0, .int .i64 w0, .slice a0 n0 c0]
      replace hbc := hbc.trans (hx.mono hbc.size)
      replace hown := hown.kept (below_grown (row := none) hx) (.inr (by simp [Value.ownBlock]))
      have hEG : W5.heap.size ≠ E := Nat.ne_of_gt hEz
      refine hK.out _ _ (fun _ => HS.out _ hbc) ?_
      clear hK hx
      generalize hGz : W5.heap.size = G0 at hG0 hEG ⊢
      clear hGz
      generalize W5.alloc (.cells #[.int .i64 f0, .int .i64 t0, .int .i64 w0, .slice a0 n0 c0] 35) = W6 at *
      try simp only [Act.put, List.setIfInBounds_toArray, List.set_cons_zero, List.set_cons_succ]
      refine wpAnyS_ready (rs := [5]) (by kernel_rfl) (by simp) ?_
      refine AllReadyS.cons rfl (fun K hK => ?_) AllReadyS.nil
      refine step_append_any _ (by rfl) (.tmp 32) (.tmp 36) 29 (by rfl) B0 35 i0 _ 4 48 Try.underlying29 hi0 hz0 hz1 hz2 (by rfl) (by decide) (.slice (some ⟨E, 0, none⟩) 0 0) 0 [] (by rfl) hown W6.heap.size (some ⟨b, o, none⟩) (k + 1) cc ((L.take (k + 1)).flatMap CV.cells) (by rfl) ((HR1.out.below hbc).more hbc.size) (cells_one _) (by unfold maxLen; omega) (by omega) (by have := hbc.size; have := HB0.out; omega) ?_
      intro v W7 hown3 hgr3 hat3
      replace hown : W7.ownsRow B0 35 4 v (k + 1) ((L.take (k + 1)).flatMap CV.cells) := by simpa using hown3
      replace hbc : Below W4.heap.size W4 W7 := hbc.grown hgr3 hbc.size (fun k hk => by simp [Value.ownBlock] at hk; have := HB0.out; omega)
      replace hG0 := hG0.grown hgr3 (by simp [Value.ownBlock]; exact hEG)
      refine hK.out _ _ (fun _ => HS.out _ hbc) ?_
      clear hK hown3 hgr3 hat3 hEB hEG
      try simp only [Act.put, List.setIfInBounds_toArray, List.set_cons_zero, List.set_cons_succ]
      refine wpAnyS_ready (rs := [11]) (by kernel_rfl) (by simp) ?_
      refine AllReadyS.cons rfl (fun K hK => ?_) AllReadyS.nil
      refine step_append_lies _ (by rfl) (.tmp 37) (.tmp 42) 29 (by rfl) B0 35 i0 _ 4 48 Try.underlying29 hi0 hz0 hz1 hz2 (by rfl) (by decide) v (k + 1) _ (by rfl) hown ⟨G0, 0, none⟩ 1 1 [.int .i64 f0, .int .i64 t0, .int .i64 w0, .slice a0 n0 c0] (by rfl) (by rfl) (World.news_of_block (cs := #[.int .i64 f0, .int .i64 t0, .int .i64 w0, .slice a0 n0 c0]) (t := 35) (fr := (0, 0)) hG0) (by simp [Value.oneCell']) (by omega) (by unfold maxLen; omega) (by omega) (by have := hbc.size; have := HB0.out; omega) _ rfl ?_
      intro g cap w2 hown2 hgrow hg hgl
      replace hbc : Below W4.heap.size W4 w2 := hbc.grown hgrow hbc.size (fun k hk => by have := (hown.lt k hk).1; have := HB0.out; omega)
      refine hK.out _ _ (fun _ => HS.out _ hbc) ?_
      clear hK hown hgrow hg hG0
      try simp only [Act.put, List.setIfInBounds_toArray, List.set_cons_zero, List.set_cons_succ]
      refine wpAnyS_ready (rs := [16]) (by kernel_rfl) (by simp) ?_
      refine AllReadyS.cons rfl (fun K hK => ?_) AllReadyS.nil
      refine step_append_any _ (by rfl) (.tmp 43) (.tmp 47) 29 (by rfl) B0 35 i0 _ 4 48 Try.underlying29 hi0 hz0 hz1 hz2 (by rfl) (by decide) (.slice (some ⟨g, 0, none⟩) (k + 1 + 1) cap) (k + 1 + 1) _ (by rfl) hown2 w2.heap.size A9 (L.length - (k + 1)) (cc - (k + 1)) ((L.drop (k + 1)).flatMap CV.cells) (by rfl) ((HR2.out.below hbc).more hbc.size) (cells_one _) (by unfold maxLen; omega) (by omega) (by have := hbc.size; have := HB0.out; omega) ?_
      intro V w3 hown3 hgr3 hat3
      have hbc3 : Below W4.heap.size W4 w3 := hbc.grown hgr3 hbc.size (fun k hk => by have := (hown2.lt k hk).1; have := HB0.out; omega)
      refine hK.out _ _ (fun _ => HS.out _ hbc3) ?_
      have hs9 := HS.out _ hbc3
      have hfin : w3.ownsRow B0 35 4 V (L.length + 1) ((L.take (k + 1) ++ ⟨f0, t0, w0, ⟨a0, n0, c0⟩⟩ :: L.drop (k + 1)).flatMap CV.cells) := by
        have e1 : k + 1 + 1 + (L.length - (k + 1)) = L.length + 1 := by omega
        rw [e1] at hown3
        rw [List.flatMap_append, List.flatMap_cons, ← List.append_assoc]
        exact hown3
      clear hK hown2 hown3 hgr3 hat3 hbc
      try simp only [Act.put, List.setIfInBounds_toArray, List.set_cons_zero, List.set_cons_succ]
      refine wpAnyS_ready (rs := [17]) (by kernel_rfl) (by simp) ?_
      refine AllReadyS.cons rfl (fun K hK => ?_) AllReadyS.nil
      go_simp
      refine hK.out _ _ (fun h => absurd h (by decide)) ?_
      refine wpAnyS_done (by kernel_rfl) ?_ _
      clear hK hs9
      exact HN.out _ _ _ _ _ _ _ _ _ _ _ _ _ _ _ _ _ V w3 (HW.out _ hbc3) (HB0.out ▸ hfin)
  · -- the one claim first
    go_simp
    have hx : Below W4.heap.size W4 (W4.alloc (.cells #[.int .i64 f0, .int .i64 t0, .int .i64 w0, .slice a0 n0 c0] 35)) := (Below.refl _ _).alloc (Nat.le_refl _) _
    have hG0 : Blk (W4.alloc (.cells #[.int .i64 f0, .int .i64 t0, .int .i64 w0, .slice a0 n0 c0] 35)) W4.heap.size 35 #[.int .i64 f0, .int .i64 t0, .int .i64 w0, .slice a0 n0 c0] := Blk.new W4 35 #[.int .i64 f0, .int .i64 t0, .int .i64 w0, .slice a0 n0 c0]
    replace hbc := hbc.trans (hx.mono hbc.size)
    refine hK.out _ _ (fun _ => HS.out _ hbc) ?_
    clear hK hx
    generalize hGz : W4.heap.size = G0 at hG0 ⊢
    clear hGz
    generalize W4.alloc (.cells #[.int .i64 f0, .int .i64 t0, .int .i64 w0, .slice a0 n0 c0] 35) = W5 at *
    try simp only [Act.put, List.setIfInBounds_toArray, List.set_cons_zero, List.set_cons_succ]
    refine wpAnyS_ready (rs := [0]) (by kernel_rfl) (by simp) ?_
    refine AllReadyS.cons rfl (fun K hK => ?_) AllReadyS.nil
    go_simp
    have hx : Below W5.heap.size W5 (W5.alloc (.cells #[] 35)) := (Below.refl _ _).alloc (Nat.le_refl _) _
    have hown : (W5.alloc (.cells #[] 35)).ownsRow B0 35 4 (.slice (some ⟨W5.heap.size, 0, none⟩) 0 0) 0 [] := World.ownsRow_made W5 #[] 0 (by have := hbc.size; have := HB0.out; omega) (by simp [maxLen]) (by simp)
    have hEz : W5.heap.size < (W5.alloc (.cells #[] 35)).heap.size := by simp
    have hEB : B0 ≤ W5.heap.size := by have := hbc.size; have := HB0.out; omega
    replace hbc := hbc.trans (hx.mono hbc.size)
    have hEG : G0 ≠ W5.heap.size := Nat.ne_of_lt hG0.lt
    replace hG0 := hG0.below hx hG0.lt
    refine hK.out _ _ (fun _ => HS.out _ hbc) ?_
    clear hK hx
    generalize hE : W5.heap.size = E at hown hEz hEB hEG ⊢
    clear hE
    generalize W5.alloc (.cells #[] 35) = W6 at *
    try simp only [Act.put, List.setIfInBounds_toArray, List.set_cons_zero, List.set_cons_succ]
    refine wpAnyS_ready (rs := [5]) (by kernel_rfl) (by simp) ?_
    refine AllReadyS.cons rfl (fun K hK => ?_) AllReadyS.nil
    refine step_append_any _ (by rfl) (.tmp 32) (.tmp 36) 29 (by rfl) B0 35 i0 _ 4 48 Try.underlying29 hi0 hz0 hz1 hz2 (by rfl) (by decide) (.slice (some ⟨E, 0, none⟩) 0 0) 0 [] (by rfl) hown W6.heap.size (some ⟨b, o, none⟩) (k + 1) cc ((L.take (k + 1)).flatMap CV.cells) (by rfl) ((HR1.out.below hbc).more hbc.size) (cells_one _) (by unfold maxLen; omega) (by omega) (by have := hbc.size; have := HB0.out; omega) ?_
    intro v W7 hown3 hgr3 hat3
    replace hown : W7.ownsRow B0 35 4 v (k + 1) ((L.take (k + 1)).flatMap CV.cells) := by simpa using hown3
    replace hbc : Below W4.heap.size W4 W7 := hbc.grown hgr3 hbc.size (fun k hk => by simp [Value.ownBlock] at hk; have := HB0.out; omega)
    replace hG0 := hG0.grown hgr3 (by simp [Value.ownBlock]; exact hEG)
    refine hK.out _ _ (fun _ => HS.out _ hbc) ?_
    clear hK hown3 hgr3 hat3 hEB hEG
    try simp only [Act.put, List.setIfInBounds_toArray, List.set_cons_zero, List.set_cons_succ]
    refine wpAnyS_ready (rs := [11]) (by kernel_rfl) (by simp) ?_
    refine AllReadyS.cons rfl (fun K hK => ?_) AllReadyS.nil
    refine step_append_lies _ (by rfl) (.tmp 37) (.tmp 42) 29 (by rfl) B0 35 i0 _ 4 48 Try.underlying29 hi0 hz0 hz1 hz2 (by rfl) (by decide) v (k + 1) _ (by rfl) hown ⟨G0, 0, none⟩ 1 1 [.int .i64 f0, .int .i64 t0, .int .i64 w0, .slice a0 n0 c0] (by rfl) (by rfl) (World.news_of_block (cs := #[.int .i64 f0, .int .i64 t0, .int .i64 w0, .slice a0 n0 c0]) (t := 35) (fr := (0, 0)) hG0) (by simp [Value.oneCell']) (by omega) (by unfold maxLen; omega) (by omega) (by have := hbc.size; have := HB0.out; omega) _ rfl ?_
    intro g cap w2 hown2 hgrow hg hgl
    replace hbc : Below W4.heap.size W4 w2 := hbc.grown hgrow hbc.size (fun k hk => by have := (hown.lt k hk).1; have := HB0.out; omega)
    refine hK.out _ _ (fun _ => HS.out _ hbc) ?_
    clear hK hown hgrow hg hG0
    try simp only [Act.put, List.setIfInBounds_toArray, List.set_cons_zero, List.set_cons_succ]
    refine wpAnyS_ready (rs := [16]) (by kernel_rfl) (by simp) ?_
    refine AllReadyS.cons rfl (fun K hK => ?_) AllReadyS.nil
    refine step_append_any _ (by rfl) (.tmp 43) (.tmp 47) 29 (by rfl) B0 35 i0 _ 4 48 Try.underlying29 hi0 hz0 hz1 hz2 (by rfl) (by decide) (.slice (some ⟨g, 0, none⟩) (k + 1 + 1) cap) (k + 1 + 1) _ (by rfl) hown2 w2.heap.size A9 (L.length - (k + 1)) (cc - (k + 1)) ((L.drop (k + 1)).flatMap CV.cells) (by rfl) ((HR2.out.below hbc).more hbc.size) (cells_one _) (by unfold maxLen; omega) (by omega) (by have := hbc.size; have := HB0.out; omega) ?_
    intro V w3 hown3 hgr3 hat3
    have hbc3 : Below W4.heap.size W4 w3 := hbc.grown hgr3 hbc.size (fun k hk => by have := (hown2.lt k hk).1; have := HB0.out; omega)
    refine hK.out _ _ (fun _ => HS.out _ hbc3) ?_
    have hs9 := HS.out _ hbc3
    have hfin : w3.ownsRow B0 35 4 V (L.length + 1) ((L.take (k + 1) ++ ⟨f0, t0, w0, ⟨a0, n0, c0⟩⟩ :: L.drop (k + 1)).flatMap CV.cells) := by
      have e1 : k + 1 + 1 + (L.length - (k + 1)) = L.length + 1 := by omega
      rw [e1] at hown3
      rw [List.flatMap_append, List.flatMap_cons, ← List.append_assoc]
      exact hown3
    clear hK hown2 hown3 hgr3 hat3 hbc
    try simp only [Act.put, List.setIfInBounds_toArray, List.set_cons_zero, List.set_cons_succ]
    refine wpAnyS_ready (rs := [17]) (by kernel_rfl) (by simp) ?_
    refine AllReadyS.cons rfl (fun K hK => ?_) AllReadyS.nil
    go_simp
    refine hK.out _ _ (fun h => absurd h (by decide)) ?_
    refine wpAnyS_done (by kernel_rfl) ?_ _
    clear hK hs9
    exact HN.out _ _ _ _ _ _ _ _ _ _ _ _ _ _ _ _ _ V w3 (HW.out _ hbc3) (HB0.out ▸ hfin)
end
end Go.Proofs.Ytlmbffnmjfbglab
