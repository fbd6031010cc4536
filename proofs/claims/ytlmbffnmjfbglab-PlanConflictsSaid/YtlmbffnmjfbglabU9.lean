/- A region of PlanConflicts: the slots of the first partitions, with one offset more. -/
import Derived.Test.YtlmbffnmjfbglabU8
import Derived.Test.YtlmbffnmjfbglabQ2
set_option linter.unusedSimpArgs false
set_option linter.unusedVariables false
namespace Go.Proofs.Ytlmbffnmjfbglab
open Go.ChangeShapes Go.WideShapes Go.ChangeAt Go.RowKit

/-- a region of PlanConflicts. -/
noncomputable def reg5 (id : Nat) : Code := (Try.f5.body.bind (regAt id)).getD .skip
theorem RdPart.take {W : World} {B : Nat} {A : Option Addr} {ps : List Part} {n : Nat} (h : RdPart W B A ps) : RdPart W B A (ps.take n) := fun hn => by
  obtain ⟨b, o, e, hb, hc⟩ := h (by simp at hn; omega)
  refine ⟨b, o, e, hb, fun i hi j v hv => hc i (by simp at hi; omega) j v ?_⟩
  simpa using hv
set_option maxRecDepth 100000 in
set_option maxHeartbeats 4000000 in
theorem reg9_c {name : ByteArray} {mem F : Int} {ps : List Part} {A : Option Addr} {c : Nat} {os : List Int} {Ao : Option Addr} {co : Nat} {x : Int} {w : World} (Bp : Nat) (W : World) (hB : Below w.heap.size w W) (h : RdPart w w.heap.size A ps) (ho : RdInt w w.heap.size Ao os) (hlt : os.length < ps.length) (hl : ps.length * 8 ≤ 140737488355328)
    (hbp : Blk W Bp 24 #[.string name, .int .i64 mem, .int .i64 F, .slice A (os.length + 1) c]) {x0 x3 x4 x5 x6 x7 x8 x9 x11 x12 x13 x14 x15 x16 x17 x18 x19 x20 x21 x22 x23 x24 x25 x26 x27 x28 x29 x30 x31 x32 x33 x34 x35 x36 x37 x38 x39 x40 x41 x42 x43 x44 x45 x46 x47 x48 x49 x50 x51 x52 x53 x54 x55 x56 x57 x58 x59 x60 x61 x62 x63 x64 x65 x66 x67 x68 x69 x70 x71 x72 x73 x74 x75 x76 x77 x78 x79 x80 x81 x82 x83 x84 x85 x86 x87 x88 x89 x90 x91 x92 x93 x94 x95 x96 x97 x98 x99 x100 x101 x102 x103 : Value} (Q : Exit → Act → World → Prop) (hP0 : ∀ d v c a w, Q (.panic c) (Act.put a d v) w → Q (.panic c) a w)
    (hN : ∀ y45 y46 y47 y48 y49 y50 y51 y52 y53 y54 y55 As cs W', Below w.heap.size w W' → Below W.heap.size W W' → RdG Slot.tri W' W'.heap.size As (slotsV F (ps.take (os.length + 1)) (os ++ [x])).1 → Q .normal { tmps := List.toArray (x0 :: Value.slice Ao os.length co :: Value.int .i64 x :: x3 :: x4 :: x5 :: x6 :: x7 :: x8 :: x9 :: Value.pointer (some ⟨Bp, 0, none⟩) :: Value.slice As (slotsV F (ps.take (os.length + 1)) (os ++ [x])).1.length cs :: Value.int .i64 (slotsV F (ps.take (os.length + 1)) (os ++ [x])).2 :: x13 :: x14 :: x15 :: x16 :: x17 :: x18 :: x19 :: x20 :: x21 :: x22 :: x23 :: x24 :: x25 :: x26 :: x27 :: x28 :: x29 :: x30 :: x31 :: x32 :: x33 :: x34 :: x35 :: x36 :: x37 :: x38 :: x39 :: x40 :: x41 :: x42 :: x43 :: x44 :: y45 :: y46 :: y47 :: y48 :: y49 :: y50 :: y51 :: y52 :: y53 :: y54 :: y55 :: x56 :: x57 :: x58 :: x59 :: x60 :: x61 :: x62 :: x63 :: x64 :: x65 :: x66 :: x67 :: x68 :: x69 :: x70 :: x71 :: x72 :: x73 :: x74 :: x75 :: x76 :: x77 :: x78 :: x79 :: x80 :: x81 :: x82 :: x83 :: x84 :: x85 :: x86 :: x87 :: x88 :: x89 :: x90 :: x91 :: x92 :: x93 :: x94 :: x95 :: x96 :: x97 :: x98 :: x99 :: x100 :: x101 :: x102 :: x103 :: []), defers := [] } W') :
    (reg5 9).wp Try.prog Q { tmps := List.toArray (x0 :: Value.slice Ao os.length co :: Value.int .i64 x :: x3 :: x4 :: x5 :: x6 :: x7 :: x8 :: x9 :: Value.pointer (some ⟨Bp, 0, none⟩) :: x11 :: x12 :: x13 :: x14 :: x15 :: x16 :: x17 :: x18 :: x19 :: x20 :: x21 :: x22 :: x23 :: x24 :: x25 :: x26 :: x27 :: x28 :: x29 :: x30 :: x31 :: x32 :: x33 :: x34 :: x35 :: x36 :: x37 :: x38 :: x39 :: x40 :: x41 :: x42 :: x43 :: x44 :: x45 :: x46 :: x47 :: x48 :: x49 :: x50 :: x51 :: x52 :: x53 :: x54 :: x55 :: x56 :: x57 :: x58 :: x59 :: x60 :: x61 :: x62 :: x63 :: x64 :: x65 :: x66 :: x67 :: x68 :: x69 :: x70 :: x71 :: x72 :: x73 :: x74 :: x75 :: x76 :: x77 :: x78 :: x79 :: x80 :: x81 :: x82 :: x83 :: x84 :: x85 :: x86 :: x87 :: x88 :: x89 :: x90 :: x91 :: x92 :: x93 :: x94 :: x95 :: x96 :: x97 :: x98 :: x99 :: x100 :: x101 :: x102 :: x103 :: []), defers := [] } W := by
  obtain ⟨i0, hi0, hz0, hz1, hz2⟩ := info_parts info3
  have q0 : W.cell? ⟨Bp, 0, none⟩ = some (.string name) := hbp.cell 0
  have q1 : W.cell? ⟨Bp, 1, none⟩ = some (.int .i64 mem) := hbp.cell 1
  have q2 : W.cell? ⟨Bp, 2, none⟩ = some (.int .i64 F) := hbp.cell 2
  have q3 : W.cell? ⟨Bp, 3, none⟩ = some (.slice A (os.length + 1) c) := hbp.cell 3
  have hpz : Bp < W.heap.size := hbp.lt
  refine wp_region_S (fun W' => W'.cell? ⟨Bp, 0, none⟩ = some (.string name) ∧ W'.cell? ⟨Bp, 1, none⟩ = some (.int .i64 mem) ∧ W'.cell? ⟨Bp, 2, none⟩ = some (.int .i64 F) ∧ W'.cell? ⟨Bp, 3, none⟩ = some (.slice A (os.length + 1) c)) 12 (by kernel_rfl) ⟨q0, q1, q2, q3⟩ (fun hHeld => ?_)
  have hB4 : Below w.heap.size w W.drew := hB.drew
  have hWW : ∀ W', Below W.drew.heap.size W.drew W' → Below W.heap.size W W' := fun W' hb => ((Below.refl _ W).drew).trans hb
  have hS4 : ∀ W', Below W.drew.heap.size W.drew W' → (fun W' => W'.cell? ⟨Bp, 0, none⟩ = some (.string name) ∧ W'.cell? ⟨Bp, 1, none⟩ = some (.int .i64 mem) ∧ W'.cell? ⟨Bp, 2, none⟩ = some (.int .i64 F) ∧ W'.cell? ⟨Bp, 3, none⟩ = some (.slice A (os.length + 1) c)) W' := fun W' hb => ⟨(hb.cell (p := ⟨Bp, 0, none⟩) hpz).trans q0, (hb.cell (p := ⟨Bp, 1, none⟩) hpz).trans q1, (hb.cell (p := ⟨Bp, 2, none⟩) hpz).trans q2, (hb.cell (p := ⟨Bp, 3, none⟩) hpz).trans q3⟩
  have HS := Lib.hid hS4
  have HW := Lib.hid hWW
  have HP := Lib.hid hP0
  have HN := Lib.hid hN
  have H := Lib.hid h
  have HO := Lib.hid ho
  clear hS4 hWW hP0 hN h ho q0 q1 q2 q3 hB hbp hpz
  generalize W.drew = W4 at *
  have hbc : Below W4.heap.size W4 W4 := Below.refl _ _
  obtain ⟨B0, hB0⟩ : ∃ B0, W4.heap.size = B0 := ⟨_, rfl⟩
  have HB0 := Lib.hid hB0
  clear hB0
  refine wpAnyS_take (i := 0) (v := ?_) rfl (by kernel_rfl) (by kernel_rfl) (by kernel_rfl) (by kernel_rfl) (fun c a w => HP.out _ _ c a w) (Or.inl ⟨by rfl, ?_⟩) hHeld ?_
  rotate_left
  · intro w hSw
    obtain ⟨hs0, hs1, hs2, hs3⟩ := hSw
    go_simp
    first | done | with_reducible rfl
  simp only [Act.put, List.setIfInBounds_toArray, List.set_cons_zero, List.set_cons_succ]
  refine wpAnyS_take (i := 2) (v := ?_) rfl (by kernel_rfl) (by kernel_rfl) (by kernel_rfl) (by kernel_rfl) (fun c a w => HP.out _ _ c a w) (Or.inl ⟨by rfl, ?_⟩) hHeld ?_
  rotate_left
  · intro w hSw
    obtain ⟨hs0, hs1, hs2, hs3⟩ := hSw
    go_simp
    first | done | with_reducible rfl
  simp only [Act.put, List.setIfInBounds_toArray, List.set_cons_zero, List.set_cons_succ]
  refine wpAnyS_take (i := 4) (v := ?_) rfl (by kernel_rfl) (by kernel_rfl) (by kernel_rfl) (by kernel_rfl) (fun c a w => HP.out _ _ c a w) (Or.inl ⟨by rfl, ?_⟩) hHeld ?_
  rotate_left
  · intro w hSw
    obtain ⟨hs0, hs1, hs2, hs3⟩ := hSw
    go_simp
    first | done | with_reducible rfl
  simp only [Act.put, List.setIfInBounds_toArray, List.set_cons_zero, List.set_cons_succ]
  refine wpAnyS_ready (rs := [1, 5]) (by kernel_rfl) (by simp) ?_
  refine AllReadyS.cons rfl (fun K hK => ?_) (AllReadyS.cons rfl (fun K hK => ?_) AllReadyS.nil)
  · -- 1 first
    go_simp
    have hx : Below W4.heap.size W4 (W4.alloc (.cells #[] 3)) := (Below.refl _ _).alloc (Nat.le_refl _) _
    have hown : (W4.alloc (.cells #[] 3)).ownsRow B0 3 1 (.slice (some ⟨W4.heap.size, 0, none⟩) 0 0) 0 [] := World.ownsRow_made W4 #[] 0 (by have := hbc.size; have := HB0.out; omega) (by simp [maxLen]) (by simp)
    have hEz : W4.heap.size < (W4.alloc (.cells #[] 3)).heap.size := by simp
    have hEB : B0 ≤ W4.heap.size := by have := hbc.size; have := HB0.out; omega
    replace hbc := hbc.trans (hx.mono hbc.size)
    refine hK.out _ _ (fun _ => HS.out _ hbc) ?_
    clear hK hx
    generalize hE : W4.heap.size = E at hown hEz hEB ⊢
    clear hE
    generalize W4.alloc (.cells #[] 3) = W5 at *
    try simp only [Act.put, List.setIfInBounds_toArray, List.set_cons_zero, List.set_cons_succ]
    refine wpAnyS_ready (rs := [3, 5]) (by kernel_rfl) (by simp) ?_
    refine AllReadyS.cons rfl (fun K hK => ?_) (AllReadyS.cons rfl (fun K hK => ?_) AllReadyS.nil)
    · -- 1 3 5
      refine step_append_any _ (by rfl) (.tmp 47) (.tmp 48) 28 (by rfl) B0 3 i0 _ 1 8 Try.underlying28 hi0 hz0 hz1 hz2 (by rfl) (by decide) (.slice (some ⟨E, 0, none⟩) 0 0) 0 [] (by rfl) hown W5.heap.size Ao os.length co (os.map (Value.int .i64)) (by rfl) (rdInt_reads (HO.out.below (hB4.trans (hbc.mono hB4.size)))) (ints_one os) (by unfold maxLen; omega) (by omega) (by have := hbc.size; have := HB0.out; omega) ?_
      intro v W6 hown3 hgr3 hat3
      replace hown : W6.ownsRow B0 3 1 v os.length (os.map (Value.int .i64)) := by simpa using hown3
      replace hbc : Below W4.heap.size W4 W6 := hbc.grown hgr3 hbc.size (fun k hk => by simp [Value.ownBlock] at hk; have := HB0.out; omega)
      refine hK.out _ _ (fun _ => HS.out _ hbc) ?_
      clear hK hown3 hgr3 hat3 hEB
      try simp only [Act.put, List.setIfInBounds_toArray, List.set_cons_zero, List.set_cons_succ]
      refine wpAnyS_ready (rs := [5]) (by kernel_rfl) (by simp) ?_
      refine AllReadyS.cons rfl (fun K hK => ?_) AllReadyS.nil
      go_simp
      have hx : Below W6.heap.size W6 (W6.alloc (.cells #[.int .i64 x] 3)) := (Below.refl _ _).alloc (Nat.le_refl _) _
      have hG0 : Blk (W6.alloc (.cells #[.int .i64 x] 3)) W6.heap.size 3 #[.int .i64 x] := Blk.new W6 3 #[.int .i64 x]
      replace hbc := hbc.trans (hx.mono hbc.size)
      replace hown := hown.kept (below_grown (row := none) hx) (by cases v.ownBlock <;> simp)
      refine hK.out _ _ (fun _ => HS.out _ hbc) ?_
      clear hK hx
      generalize hGz : W6.heap.size = G0 at hG0 ⊢
      clear hGz
      generalize W6.alloc (.cells #[.int .i64 x] 3) = W7 at *
      try simp only [Act.put, List.setIfInBounds_toArray, List.set_cons_zero, List.set_cons_succ]
      refine wpAnyS_ready (rs := [6]) (by kernel_rfl) (by simp) ?_
      refine AllReadyS.cons rfl (fun K hK => ?_) AllReadyS.nil
      refine step_append_lies _ (by rfl) (.tmp 49) (.tmp 51) 28 (by rfl) B0 3 i0 _ 1 8 Try.underlying28 hi0 hz0 hz1 hz2 (by rfl) (by decide) v os.length _ (by rfl) hown ⟨G0, 0, none⟩ 1 1 [.int .i64 x] (by rfl) (by rfl) (World.news_of_block (cs := #[.int .i64 x]) (t := 3) (fr := (0, 0)) hG0) (by simp [Value.oneCell']) (by omega) (by unfold maxLen; omega) (by omega) (by have := hbc.size; have := HB0.out; omega) _ rfl ?_
      intro g cap w2 hown2 hgrow hg hgl
      replace hbc : Below W4.heap.size W4 w2 := hbc.grown hgrow hbc.size (fun k hk => by have := (hown.lt k hk).1; have := HB0.out; omega)
      refine hK.out _ _ (fun _ => HS.out _ hbc) ?_
      clear hK
      have hri : RdInt w2 w2.heap.size (some ⟨g, 0, none⟩) (os ++ [x]) := by
        obtain ⟨A2, c2, e, hr⟩ := RdInt.of_own (n := os.length + 1) (l := os ++ [x]) (by simp) (by simpa using hown2)
        injection e with e
        subst e
        exact hr
      have hB2 := hB4.trans (hbc.mono hB4.size)
      have hsl := slots_c name mem F (ps.take (os.length + 1)) A c (os ++ [x]) (some ⟨g, 0, none⟩) cap w2 ((RdPart.take H.out).below hB2) hri (by simp; omega) (by simp; omega)
      rw [show (os ++ [x]).length = os.length + 1 by simp, show (ps.take (os.length + 1)).length = os.length + 1 by simp; omega] at hsl
      have Hsl := Lib.hid hsl
      have hs7 := HS.out _ hbc
      clear hown hown2 hgrow hg hG0 hri hsl
      try simp only [Act.put, List.setIfInBounds_toArray, List.set_cons_zero, List.set_cons_succ]
      refine wpAnyS_ready (rs := [7]) (by kernel_rfl) (by simp) ?_
      refine AllReadyS.cons rfl (fun K hK => ?_) AllReadyS.nil
      go_simp
      refine Hsl.out.mono ?_
      rintro e w3 ⟨As, cs, rfl, hrd, hb3⟩
      dsimp only
      replace hbc := hbc.trans (hb3.mono hbc.size)
      have hWF := HW.out _ hbc
      replace hB2 := hB2.trans (hb3.mono hB2.size)
      refine hK.out _ _ (fun _ => HS.out _ hbc) ?_
      have hs8 := HS.out _ hbc
      clear hK Hsl hs7 hb3 hbc HS hB4
      try simp only [Act.put, List.setIfInBounds_toArray, List.set_cons_zero, List.set_cons_succ]
      refine wpAnyS_takeT (i := 8) (v := ?_) rfl (by kernel_rfl) (by kernel_rfl) (by kernel_rfl) (by kernel_rfl) (fun c a w => HP.out _ _ c a w) (Or.inl ⟨by rfl, ?_⟩) hs8 ?_
      rotate_left
      · intro w hSw
        (try dsimp only at hSw)
        go_simp
        first | done | with_reducible rfl
      simp only [Act.put, List.setIfInBounds_toArray, List.set_cons_zero, List.set_cons_succ]
      refine wpAnyS_takeT (i := 9) (v := ?_) rfl (by kernel_rfl) (by kernel_rfl) (by kernel_rfl) (by kernel_rfl) (fun c a w => HP.out _ _ c a w) (Or.inl ⟨by rfl, ?_⟩) hs8 ?_
      rotate_left
      · intro w hSw
        (try dsimp only at hSw)
        go_simp
        first | done | with_reducible rfl
      simp only [Act.put, List.setIfInBounds_toArray, List.set_cons_zero, List.set_cons_succ]
      refine wpAnyS_takeT (i := 10) (v := ?_) rfl (by kernel_rfl) (by kernel_rfl) (by kernel_rfl) (by kernel_rfl) (fun c a w => HP.out _ _ c a w) (Or.inl ⟨by rfl, ?_⟩) hs8 ?_
      rotate_left
      · intro w hSw
        (try dsimp only at hSw)
        go_simp
        first | done | with_reducible rfl
      simp only [Act.put, List.setIfInBounds_toArray, List.set_cons_zero, List.set_cons_succ]
      refine wpAnyS_takeT (i := 11) (v := ?_) rfl (by kernel_rfl) (by kernel_rfl) (by kernel_rfl) (by kernel_rfl) (fun c a w => HP.out _ _ c a w) (Or.inl ⟨by rfl, ?_⟩) hs8 ?_
      rotate_left
      · intro w hSw
        (try dsimp only at hSw)
        go_simp
        first | done | with_reducible rfl
      simp only [Act.put, List.setIfInBounds_toArray, List.set_cons_zero, List.set_cons_succ]
      refine wpAnyS_ready (rs := [12]) (by kernel_rfl) (by simp) ?_
      refine AllReadyS.cons rfl (fun K hK => ?_) AllReadyS.nil
      go_simp
      refine hK.out _ _ (fun h => absurd h (by decide)) ?_
      refine wpAnyS_done (by kernel_rfl) ?_ _
      clear hK hs8
      exact HN.out _ _ _ _ _ _ _ _ _ _ _ As cs w3 hB2 hWF hrd
    · -- 1 5 3
      go_simp
      have hx : Below W5.heap.size W5 (W5.alloc (.cells #[.int .i64 x] 3)) := (Below.refl _ _).alloc (Nat.le_refl _) _
      have hG0 : Blk (W5.alloc (.cells #[.int .i64 x] 3)) W5.heap.size 3 #[.int .i64 x] := Blk.new W5 3 #[.int .i64 x]
      replace hbc := hbc.trans (hx.mono hbc.size)
      replace hown := hown.kept (below_grown (row := none) hx) (.inr (by simp [Value.ownBlock]))
      have hEG : W5.heap.size ≠ E := Nat.ne_of_gt hEz
      refine hK.out _ _ (fun _ => HS.out _ hbc) ?_
      clear hK hx
      generalize hGz : W5.heap.size = G0 at hG0 hEG ⊢
      clear hGz
      generalize W5.alloc (.cells #[.int .i64 x] 3) = W6 at *
      try simp only [Act.put, List.setIfInBounds_toArray, List.set_cons_zero, List.set_cons_succ]
      refine wpAnyS_ready (rs := [3]) (by kernel_rfl) (by simp) ?_
      refine AllReadyS.cons rfl (fun K hK => ?_) AllReadyS.nil
      refine step_append_any _ (by rfl) (.tmp 47) (.tmp 48) 28 (by rfl) B0 3 i0 _ 1 8 Try.underlying28 hi0 hz0 hz1 hz2 (by rfl) (by decide) (.slice (some ⟨E, 0, none⟩) 0 0) 0 [] (by rfl) hown W6.heap.size Ao os.length co (os.map (Value.int .i64)) (by rfl) (rdInt_reads (HO.out.below (hB4.trans (hbc.mono hB4.size)))) (ints_one os) (by unfold maxLen; omega) (by omega) (by have := hbc.size; have := HB0.out; omega) ?_
      intro v W7 hown3 hgr3 hat3
      replace hown : W7.ownsRow B0 3 1 v os.length (os.map (Value.int .i64)) := by simpa using hown3
      replace hbc : Below W4.heap.size W4 W7 := hbc.grown hgr3 hbc.size (fun k hk => by simp [Value.ownBlock] at hk; have := HB0.out; omega)
      replace hG0 := hG0.grown hgr3 (by simp [Value.ownBlock]; exact hEG)
      refine hK.out _ _ (fun _ => HS.out _ hbc) ?_
      clear hK hown3 hgr3 hat3 hEB hEG
      try simp only [Act.put, List.setIfInBounds_toArray, List.set_cons_zero, List.set_cons_succ]
      refine wpAnyS_ready (rs := [6]) (by kernel_rfl) (by simp) ?_
      refine AllReadyS.cons rfl (fun K hK => ?_) AllReadyS.nil
      refine step_append_lies _ (by rfl) (.tmp 49) (.tmp 51) 28 (by rfl) B0 3 i0 _ 1 8 Try.underlying28 hi0 hz0 hz1 hz2 (by rfl) (by decide) v os.length _ (by rfl) hown ⟨G0, 0, none⟩ 1 1 [.int .i64 x] (by rfl) (by rfl) (World.news_of_block (cs := #[.int .i64 x]) (t := 3) (fr := (0, 0)) hG0) (by simp [Value.oneCell']) (by omega) (by unfold maxLen; omega) (by omega) (by have := hbc.size; have := HB0.out; omega) _ rfl ?_
      intro g cap w2 hown2 hgrow hg hgl
      replace hbc : Below W4.heap.size W4 w2 := hbc.grown hgrow hbc.size (fun k hk => by have := (hown.lt k hk).1; have := HB0.out; omega)
      refine hK.out _ _ (fun _ => HS.out _ hbc) ?_
      clear hK
      have hri : RdInt w2 w2.heap.size (some ⟨g, 0, none⟩) (os ++ [x]) := by
        obtain ⟨A2, c2, e, hr⟩ := RdInt.of_own (n := os.length + 1) (l := os ++ [x]) (by simp) (by simpa using hown2)
        injection e with e
        subst e
        exact hr
      have hB2 := hB4.trans (hbc.mono hB4.size)
      have hsl := slots_c name mem F (ps.take (os.length + 1)) A c (os ++ [x]) (some ⟨g, 0, none⟩) cap w2 ((RdPart.take H.out).below hB2) hri (by simp; omega) (by simp; omega)
      rw [show (os ++ [x]).length = os.length + 1 by simp, show (ps.take (os.length + 1)).length = os.length + 1 by simp; omega] at hsl
      have Hsl := Lib.hid hsl
      have hs7 := HS.out _ hbc
      clear hown hown2 hgrow hg hG0 hri hsl
      try simp only [Act.put, List.setIfInBounds_toArray, List.set_cons_zero, List.set_cons_succ]
      refine wpAnyS_ready (rs := [7]) (by kernel_rfl) (by simp) ?_
      refine AllReadyS.cons rfl (fun K hK => ?_) AllReadyS.nil
      go_simp
      refine Hsl.out.mono ?_
      rintro e w3 ⟨As, cs, rfl, hrd, hb3⟩
      dsimp only
      replace hbc := hbc.trans (hb3.mono hbc.size)
      have hWF := HW.out _ hbc
      replace hB2 := hB2.trans (hb3.mono hB2.size)
      refine hK.out _ _ (fun _ => HS.out _ hbc) ?_
      have hs8 := HS.out _ hbc
      clear hK Hsl hs7 hb3 hbc HS hB4
      try simp only [Act.put, List.setIfInBounds_toArray, List.set_cons_zero, List.set_cons_succ]
      refine wpAnyS_takeT (i := 8) (v := ?_) rfl (by kernel_rfl) (by kernel_rfl) (by kernel_rfl) (by kernel_rfl) (fun c a w => HP.out _ _ c a w) (Or.inl ⟨by rfl, ?_⟩) hs8 ?_
      rotate_left
      · intro w hSw
        (try dsimp only at hSw)
        go_simp
        first | done | with_reducible rfl
      simp only [Act.put, List.setIfInBounds_toArray, List.set_cons_zero, List.set_cons_succ]
      refine wpAnyS_takeT (i := 9) (v := ?_) rfl (by kernel_rfl) (by kernel_rfl) (by kernel_rfl) (by kernel_rfl) (fun c a w => HP.out _ _ c a w) (Or.inl ⟨by rfl, ?_⟩) hs8 ?_
      rotate_left
      · intro w hSw
        (try dsimp only at hSw)
        go_simp
        first | done | with_reducible rfl
      simp only [Act.put, List.setIfInBounds_toArray, List.set_cons_zero, List.set_cons_succ]
      refine wpAnyS_takeT (i := 10) (v := ?_) rfl (by kernel_rfl) (by kernel_rfl) (by kernel_rfl) (by kernel_rfl) (fun c a w => HP.out _ _ c a w) (Or.inl ⟨by rfl, ?_⟩) hs8 ?_
      rotate_left
      · intro w hSw
        (try dsimp only at hSw)
        go_simp
        first | done | with_reducible rfl
      simp only [Act.put, List.setIfInBounds_toArray, List.set_cons_zero, List.set_cons_succ]
      refine wpAnyS_takeT (i := 11) (v := ?_) rfl (by kernel_rfl) (by kernel_rfl) (by kernel_rfl) (by kernel_rfl) (fun c a w => HP.out _ _ c a w) (Or.inl ⟨by rfl, ?_⟩) hs8 ?_
      rotate_left
      · intro w hSw
        (try dsimp only at hSw)
        go_simp
        first | done | with_reducible rfl
      simp only [Act.put, List.setIfInBounds_toArray, List.set_cons_zero, List.set_cons_succ]
      refine wpAnyS_ready (rs := [12]) (by kernel_rfl) (by simp) ?_
      refine AllReadyS.cons rfl (fun K hK => ?_) AllReadyS.nil
      go_simp
      refine hK.out _ _ (fun h => absurd h (by decide)) ?_
      refine wpAnyS_done (by kernel_rfl) ?_ _
      clear hK hs8
      exact HN.out _ _ _ _ _ _ _ _ _ _ _ As cs w3 hB2 hWF hrd
  · -- 5 1 3
    go_simp
    have hx : Below W4.heap.size W4 (W4.alloc (.cells #[.int .i64 x] 3)) := (Below.refl _ _).alloc (Nat.le_refl _) _
    have hG0 : Blk (W4.alloc (.cells #[.int .i64 x] 3)) W4.heap.size 3 #[.int .i64 x] := Blk.new W4 3 #[.int .i64 x]
    replace hbc := hbc.trans (hx.mono hbc.size)
    refine hK.out _ _ (fun _ => HS.out _ hbc) ?_
    clear hK hx
    generalize hGz : W4.heap.size = G0 at hG0 ⊢
    clear hGz
    generalize W4.alloc (.cells #[.int .i64 x] 3) = W5 at *
    try simp only [Act.put, List.setIfInBounds_toArray, List.set_cons_zero, List.set_cons_succ]
    refine wpAnyS_ready (rs := [1]) (by kernel_rfl) (by simp) ?_
    refine AllReadyS.cons rfl (fun K hK => ?_) AllReadyS.nil
    go_simp
    have hx : Below W5.heap.size W5 (W5.alloc (.cells #[] 3)) := (Below.refl _ _).alloc (Nat.le_refl _) _
    have hown : (W5.alloc (.cells #[] 3)).ownsRow B0 3 1 (.slice (some ⟨W5.heap.size, 0, none⟩) 0 0) 0 [] := World.ownsRow_made W5 #[] 0 (by have := hbc.size; have := HB0.out; omega) (by simp [maxLen]) (by simp)
    have hEz : W5.heap.size < (W5.alloc (.cells #[] 3)).heap.size := by simp
    have hEB : B0 ≤ W5.heap.size := by have := hbc.size; have := HB0.out; omega
    replace hbc := hbc.trans (hx.mono hbc.size)
    have hEG : G0 ≠ W5.heap.size := Nat.ne_of_lt hG0.lt
    replace hG0 := hG0.below hx hG0.lt
    refine hK.out _ _ (fun _ => HS.out _ hbc) ?_
    clear hK hx
    generalize hE : W5.heap.size = E at hown hEz hEB hEG ⊢
    clear hE
    generalize W5.alloc (.cells #[] 3) = W6 at *
    try simp only [Act.put, List.setIfInBounds_toArray, List.set_cons_zero, List.set_cons_succ]
    refine wpAnyS_ready (rs := [3]) (by kernel_rfl) (by simp) ?_
    refine AllReadyS.cons rfl (fun K hK => ?_) AllReadyS.nil
    refine step_append_any _ (by rfl) (.tmp 47) (.tmp 48) 28 (by rfl) B0 3 i0 _ 1 8 Try.underlying28 hi0 hz0 hz1 hz2 (by rfl) (by decide) (.slice (some ⟨E, 0, none⟩) 0 0) 0 [] (by rfl) hown W6.heap.size Ao os.length co (os.map (Value.int .i64)) (by rfl) (rdInt_reads (HO.out.below (hB4.trans (hbc.mono hB4.size)))) (ints_one os) (by unfold maxLen; omega) (by omega) (by have := hbc.size; have := HB0.out; omega) ?_
    intro v W7 hown3 hgr3 hat3
    replace hown : W7.ownsRow B0 3 1 v os.length (os.map (Value.int .i64)) := by simpa using hown3
    replace hbc : Below W4.heap.size W4 W7 := hbc.grown hgr3 hbc.size (fun k hk => by simp [Value.ownBlock] at hk; have := HB0.out; omega)
    replace hG0 := hG0.grown hgr3 (by simp [Value.ownBlock]; exact hEG)
    refine hK.out _ _ (fun _ => HS.out _ hbc) ?_
    clear hK hown3 hgr3 hat3 hEB hEG
    try simp only [Act.put, List.setIfInBounds_toArray, List.set_cons_zero, List.set_cons_succ]
    refine wpAnyS_ready (rs := [6]) (by kernel_rfl) (by simp) ?_
    refine AllReadyS.cons rfl (fun K hK => ?_) AllReadyS.nil
    refine step_append_lies _ (by rfl) (.tmp 49) (.tmp 51) 28 (by rfl) B0 3 i0 _ 1 8 Try.underlying28 hi0 hz0 hz1 hz2 (by rfl) (by decide) v os.length _ (by rfl) hown ⟨G0, 0, none⟩ 1 1 [.int .i64 x] (by rfl) (by rfl) (World.news_of_block (cs := #[.int .i64 x]) (t := 3) (fr := (0, 0)) hG0) (by simp [Value.oneCell']) (by omega) (by unfold maxLen; omega) (by omega) (by have := hbc.size; have := HB0.out; omega) _ rfl ?_
    intro g cap w2 hown2 hgrow hg hgl
    replace hbc : Below W4.heap.size W4 w2 := hbc.grown hgrow hbc.size (fun k hk => by have := (hown.lt k hk).1; have := HB0.out; omega)
    refine hK.out _ _ (fun _ => HS.out _ hbc) ?_
    clear hK
    have hri : RdInt w2 w2.heap.size (some ⟨g, 0, none⟩) (os ++ [x]) := by
      obtain ⟨A2, c2, e, hr⟩ := RdInt.of_own (n := os.length + 1) (l := os ++ [x]) (by simp) (by simpa using hown2)
      injection e with e
      subst e
      exact hr
    have hB2 := hB4.trans (hbc.mono hB4.size)
    have hsl := slots_c name mem F (ps.take (os.length + 1)) A c (os ++ [x]) (some ⟨g, 0, none⟩) cap w2 ((RdPart.take H.out).below hB2) hri (by simp; omega) (by simp; omega)
    rw [show (os ++ [x]).length = os.length + 1 by simp, show (ps.take (os.length + 1)).length = os.length + 1 by simp; omega] at hsl
    have Hsl := Lib.hid hsl
    have hs7 := HS.out _ hbc
    clear hown hown2 hgrow hg hG0 hri hsl
    try simp only [Act.put, List.setIfInBounds_toArray, List.set_cons_zero, List.set_cons_succ]
    refine wpAnyS_ready (rs := [7]) (by kernel_rfl) (by simp) ?_
    refine AllReadyS.cons rfl (fun K hK => ?_) AllReadyS.nil
    go_simp
    refine Hsl.out.mono ?_
    rintro e w3 ⟨As, cs, rfl, hrd, hb3⟩
    dsimp only
    replace hbc := hbc.trans (hb3.mono hbc.size)
    have hWF := HW.out _ hbc
    replace hB2 := hB2.trans (hb3.mono hB2.size)
    refine hK.out _ _ (fun _ => HS.out _ hbc) ?_
    have hs8 := HS.out _ hbc
    clear hK Hsl hs7 hb3 hbc HS hB4
    try simp only [Act.put, List.setIfInBounds_toArray, List.set_cons_zero, List.set_cons_succ]
    refine wpAnyS_takeT (i := 8) (v := ?_) rfl (by kernel_rfl) (by kernel_rfl) (by kernel_rfl) (by kernel_rfl) (fun c a w => HP.out _ _ c a w) (Or.inl ⟨by rfl, ?_⟩) hs8 ?_
    rotate_left
    · intro w hSw
      (try dsimp only at hSw)
      go_simp
      first | done | with_reducible rfl
    simp only [Act.put, List.setIfInBounds_toArray, List.set_cons_zero, List.set_cons_succ]
    refine wpAnyS_takeT (i := 9) (v := ?_) rfl (by kernel_rfl) (by kernel_rfl) (by kernel_rfl) (by kernel_rfl) (fun c a w => HP.out _ _ c a w) (Or.inl ⟨by rfl, ?_⟩) hs8 ?_
    rotate_left
    · intro w hSw
      (try dsimp only at hSw)
      go_simp
      first | done | with_reducible rfl
    simp only [Act.put, List.setIfInBounds_toArray, List.set_cons_zero, List.set_cons_succ]
    refine wpAnyS_takeT (i := 10) (v := ?_) rfl (by kernel_rfl) (by kernel_rfl) (by kernel_rfl) (by kernel_rfl) (fun c a w => HP.out _ _ c a w) (Or.inl ⟨by rfl, ?_⟩) hs8 ?_
    rotate_left
    · intro w hSw
      (try dsimp only at hSw)
      go_simp
      first | done | with_reducible rfl
    simp only [Act.put, List.setIfInBounds_toArray, List.set_cons_zero, List.set_cons_succ]
    refine wpAnyS_takeT (i := 11) (v := ?_) rfl (by kernel_rfl) (by kernel_rfl) (by kernel_rfl) (by kernel_rfl) (fun c a w => HP.out _ _ c a w) (Or.inl ⟨by rfl, ?_⟩) hs8 ?_
    rotate_left
    · intro w hSw
      (try dsimp only at hSw)
      go_simp
      first | done | with_reducible rfl
    simp only [Act.put, List.setIfInBounds_toArray, List.set_cons_zero, List.set_cons_succ]
    refine wpAnyS_ready (rs := [12]) (by kernel_rfl) (by simp) ?_
    refine AllReadyS.cons rfl (fun K hK => ?_) AllReadyS.nil
    go_simp
    refine hK.out _ _ (fun h => absurd h (by decide)) ?_
    refine wpAnyS_done (by kernel_rfl) ?_ _
    clear hK hs8
    exact HN.out _ _ _ _ _ _ _ _ _ _ _ As cs w3 hB2 hWF hrd
end Go.Proofs.Ytlmbffnmjfbglab
