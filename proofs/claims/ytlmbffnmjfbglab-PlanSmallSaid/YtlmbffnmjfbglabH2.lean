/- A region of the reference's right: the claims below a claim. -/
import Derived.Test.YtlmbffnmjfbglabH1
set_option linter.unusedSimpArgs false
set_option linter.unusedVariables false
namespace Go.Proofs.Ytlmbffnmjfbglab
open Go.ChangeShapes Go.WideShapes Go.ChangeAt Go.RowKit

/-- a region of the reference's right. -/
noncomputable def reg75 (id : Nat) : Code := (Try.f75.body.bind (regAt id)).getD .skip
set_option maxRecDepth 100000 in
set_option maxHeartbeats 4000000 in
theorem reg75_13_c (name : ByteArray) (mem F : Int) (ps : List Part) (A : Option Addr) (c : Nat) (os : List Int) (Ao : Option Addr) (co : Nat) (f wi : Int) (sub : List Claim) (As : Option Addr) (cs : Nat) (Bp Bc : Nat) (r : Bool) (W : World) (hlen : os.length ≤ 16384) (hr : Reads W W.heap.size 1 Ao os.length (os.map (Value.int .i64)))
    (hb2 : Blk W Bp 24 #[.string name, .int .i64 mem, .int .i64 F, .slice A ps.length c]) (hbc0 : Blk W Bc 35 #[.int .i64 f, .int .i64 f, .int .i64 wi, .slice As sub.length cs])
    (hcall : ∀ W' A' c', Below W.heap.size W W' → RdInt W' W'.heap.size A' (os ++ [f]) → Calls Try.prog 75 #[.agg #[.string name, .int .i64 mem, .int .i64 F, .slice A ps.length c], .slice A' (os.length + 1) c', .slice As sub.length cs] W' fun e w' => e = .returned (.bool r) ∧ Below W'.heap.size W' w')
    {x0 x2 x4 x5 x6 x7 x8 x9 x11 x12 x13 x14 x15 x16 x17 x18 x19 x20 x21 x22 x23 x24 x25 x26 x27 x28 x29 x30 x31 x32 x33 x34 x35 x36 x37 x38 x39 x40 x41 x42 x43 x44 x45 x46 x47 x48 x49 x50 x51 x52 x53 x54 x55 x56 x57 x58 x59 x60 x61 x62 x63 x64 x65 x66 x67 x68 x69 x70 x71 x72 x73 x74 x75 x76 x77 x78 x79 x80 x81 x82 x83 x84 x85 x86 x87 x88 x89 x90 x91 x92 x93 x94 x95 x96 x97 x98 x99 x100 x101 x102 x103 x104 x105 x106 x107 x108 x109 x110 x111 x112 x113 x114 x115 x116 x117 x118 x119 x120 : Value} (Q : Exit → Act → World → Prop) (hP0 : ∀ d v c a w, Q (.panic c) (Act.put a d v) w → Q (.panic c) a w)
    (hN : ∀ y59 y60 y61 y62 y63 y64 y65 y66 y67 y68 y69 y70 y71 y72 y73 y74 y75 y76 W', Below W.heap.size W W' → Q .normal { tmps := List.toArray (x0 :: Value.slice Ao os.length co :: x2 :: Value.pointer (some ⟨Bp, 0, none⟩) :: x4 :: x5 :: x6 :: x7 :: x8 :: x9 :: Value.pointer (some ⟨Bc, 0, none⟩) :: x11 :: x12 :: x13 :: x14 :: x15 :: x16 :: x17 :: x18 :: x19 :: x20 :: x21 :: x22 :: x23 :: x24 :: x25 :: x26 :: x27 :: x28 :: x29 :: x30 :: x31 :: x32 :: x33 :: x34 :: x35 :: x36 :: x37 :: x38 :: x39 :: x40 :: x41 :: x42 :: x43 :: x44 :: x45 :: x46 :: x47 :: x48 :: x49 :: x50 :: x51 :: x52 :: x53 :: x54 :: x55 :: x56 :: x57 :: x58 :: y59 :: y60 :: y61 :: y62 :: y63 :: y64 :: y65 :: y66 :: y67 :: y68 :: y69 :: y70 :: y71 :: y72 :: y73 :: y74 :: y75 :: y76 :: Value.bool (!r) :: x78 :: x79 :: x80 :: x81 :: x82 :: x83 :: x84 :: x85 :: x86 :: x87 :: x88 :: x89 :: x90 :: x91 :: x92 :: x93 :: x94 :: x95 :: x96 :: x97 :: x98 :: x99 :: x100 :: x101 :: x102 :: x103 :: x104 :: x105 :: x106 :: x107 :: x108 :: x109 :: x110 :: x111 :: x112 :: x113 :: x114 :: x115 :: x116 :: x117 :: x118 :: x119 :: x120 :: []), defers := [] } W') :
    (reg75 13).wp Try.prog Q { tmps := List.toArray (x0 :: Value.slice Ao os.length co :: x2 :: Value.pointer (some ⟨Bp, 0, none⟩) :: x4 :: x5 :: x6 :: x7 :: x8 :: x9 :: Value.pointer (some ⟨Bc, 0, none⟩) :: x11 :: x12 :: x13 :: x14 :: x15 :: x16 :: x17 :: x18 :: x19 :: x20 :: x21 :: x22 :: x23 :: x24 :: x25 :: x26 :: x27 :: x28 :: x29 :: x30 :: x31 :: x32 :: x33 :: x34 :: x35 :: x36 :: x37 :: x38 :: x39 :: x40 :: x41 :: x42 :: x43 :: x44 :: x45 :: x46 :: x47 :: x48 :: x49 :: x50 :: x51 :: x52 :: x53 :: x54 :: x55 :: x56 :: x57 :: x58 :: x59 :: x60 :: x61 :: x62 :: x63 :: x64 :: x65 :: x66 :: x67 :: x68 :: x69 :: x70 :: x71 :: x72 :: x73 :: x74 :: x75 :: x76 :: x77 :: x78 :: x79 :: x80 :: x81 :: x82 :: x83 :: x84 :: x85 :: x86 :: x87 :: x88 :: x89 :: x90 :: x91 :: x92 :: x93 :: x94 :: x95 :: x96 :: x97 :: x98 :: x99 :: x100 :: x101 :: x102 :: x103 :: x104 :: x105 :: x106 :: x107 :: x108 :: x109 :: x110 :: x111 :: x112 :: x113 :: x114 :: x115 :: x116 :: x117 :: x118 :: x119 :: x120 :: []), defers := [] } W := by
  obtain ⟨i0, hi0, hz0, hz1, hz2⟩ := info_parts info3
  have hff : (f != f) = false := by simp
  refine wp_region_S (fun W' => W'.cell? ⟨Bp, 0, none⟩ = some (.string name) ∧ W'.cell? ⟨Bp, 1, none⟩ = some (.int .i64 mem) ∧ W'.cell? ⟨Bp, 2, none⟩ = some (.int .i64 F) ∧ W'.cell? ⟨Bp, 3, none⟩ = some (.slice A ps.length c) ∧ W'.cell? ⟨Bc, 0, none⟩ = some (.int .i64 f) ∧ W'.cell? ⟨Bc, 1, none⟩ = some (.int .i64 f) ∧ W'.cell? ⟨Bc, 2, none⟩ = some (.int .i64 wi) ∧ W'.cell? ⟨Bc, 3, none⟩ = some (.slice As sub.length cs)) 18 (by kernel_rfl) ⟨hb2.cell 0, hb2.cell 1, hb2.cell 2, hb2.cell 3, hbc0.cell 0, hbc0.cell 1, hbc0.cell 2, hbc0.cell 3⟩ (fun hHeld => ?_)
  have hWW : ∀ W', Below W.drew.heap.size W.drew W' → Below W.heap.size W W' := fun W' hb => ((Below.refl _ W).drew).trans hb
  have hS4 : ∀ W', Below W.drew.heap.size W.drew W' → (fun W' => W'.cell? ⟨Bp, 0, none⟩ = some (.string name) ∧ W'.cell? ⟨Bp, 1, none⟩ = some (.int .i64 mem) ∧ W'.cell? ⟨Bp, 2, none⟩ = some (.int .i64 F) ∧ W'.cell? ⟨Bp, 3, none⟩ = some (.slice A ps.length c) ∧ W'.cell? ⟨Bc, 0, none⟩ = some (.int .i64 f) ∧ W'.cell? ⟨Bc, 1, none⟩ = some (.int .i64 f) ∧ W'.cell? ⟨Bc, 2, none⟩ = some (.int .i64 wi) ∧ W'.cell? ⟨Bc, 3, none⟩ = some (.slice As sub.length cs)) W' := fun W' hb => by
    have h1 := hb2.drew.below hb hb2.lt
    have h2 := hbc0.drew.below hb hbc0.lt
    exact ⟨h1.cell 0, h1.cell 1, h1.cell 2, h1.cell 3, h2.cell 0, h2.cell 1, h2.cell 2, h2.cell 3⟩
  have hC : ∀ W' A' c', Below W.drew.heap.size W.drew W' → _ := fun W' A' c' hb => hcall W' A' c' (hWW W' hb)
  have HS := Lib.hid hS4
  have HW := Lib.hid hWW
  have HP := Lib.hid hP0
  have HN := Lib.hid hN
  have HC := Lib.hid hC
  have HR1 : Hid (Reads W.drew W.drew.heap.size 1 Ao os.length (os.map (Value.int .i64))) := Lib.hid hr
  obtain ⟨B0, hB0⟩ : ∃ B0, W.drew.heap.size = B0 := ⟨_, rfl⟩
  have HB0 := Lib.hid hB0
  clear hWW hS4 hP0 hN hr hB0 hb2 hbc0 hcall hC
  rw [show W.heap.size = W.drew.heap.size from rfl] at HN HW
  generalize W.drew = W4 at *
  have hbc : Below W4.heap.size W4 W4 := Below.refl _ _
  refine wpAnyS_take (i := 0) (v := ?_) rfl (by kernel_rfl) (by kernel_rfl) (by kernel_rfl) (by kernel_rfl) (fun c a w => HP.out _ _ c a w) (Or.inl ⟨by rfl, ?_⟩) hHeld ?_
  rotate_left
  · intro w hSw
    obtain ⟨hs0, hs1, hs2, hs3, hs4, hs5, hs6, hs7⟩ := hSw
    go_simp
    first | done | with_reducible rfl
  simp only [Act.put, List.setIfInBounds_toArray, List.set_cons_zero, List.set_cons_succ]
  refine wpAnyS_take (i := 1) (v := ?_) rfl (by kernel_rfl) (by kernel_rfl) (by kernel_rfl) (by kernel_rfl) (fun c a w => HP.out _ _ c a w) (Or.inl ⟨by rfl, ?_⟩) hHeld ?_
  rotate_left
  · intro w hSw
    obtain ⟨hs0, hs1, hs2, hs3, hs4, hs5, hs6, hs7⟩ := hSw
    go_simp
    first | done | with_reducible rfl
  simp only [Act.put, List.setIfInBounds_toArray, List.set_cons_zero, List.set_cons_succ]
  refine wpAnyS_take (i := 2) (v := ?_) rfl (by kernel_rfl) (by kernel_rfl) (by kernel_rfl) (by kernel_rfl) (fun c a w => HP.out _ _ c a w) (Or.inl ⟨by rfl, ?_⟩) hHeld ?_
  rotate_left
  · intro w hSw
    obtain ⟨hs0, hs1, hs2, hs3, hs4, hs5, hs6, hs7⟩ := hSw
    go_simp
    first | done | with_reducible rfl
  simp only [Act.put, List.setIfInBounds_toArray, List.set_cons_zero, List.set_cons_succ]
  refine wpAnyS_take (i := 3) (v := ?_) rfl (by kernel_rfl) (by kernel_rfl) (by kernel_rfl) (by kernel_rfl) (fun c a w => HP.out _ _ c a w) (Or.inl ⟨by rfl, ?_⟩) hHeld ?_
  rotate_left
  · intro w hSw
    obtain ⟨hs0, hs1, hs2, hs3, hs4, hs5, hs6, hs7⟩ := hSw
    go_simp
    first | done | with_reducible rfl
  simp only [Act.put, List.setIfInBounds_toArray, List.set_cons_zero, List.set_cons_succ]
  refine wpAnyS_take (i := 4) (v := ?_) rfl (by kernel_rfl) (by kernel_rfl) (by kernel_rfl) (by kernel_rfl) (fun c a w => HP.out _ _ c a w) (Or.inl ⟨by rfl, ?_⟩) hHeld ?_
  rotate_left
  · intro w hSw
    obtain ⟨hs0, hs1, hs2, hs3, hs4, hs5, hs6, hs7⟩ := hSw
    go_simp
    first | done | with_reducible rfl
  simp only [Act.put, List.setIfInBounds_toArray, List.set_cons_zero, List.set_cons_succ]
  refine wpAnyS_take (i := 5) (v := ?_) rfl (by kernel_rfl) (by kernel_rfl) (by kernel_rfl) (by kernel_rfl) (fun c a w => HP.out _ _ c a w) (Or.inl ⟨by rfl, ?_⟩) hHeld ?_
  rotate_left
  · intro w hSw
    obtain ⟨hs0, hs1, hs2, hs3, hs4, hs5, hs6, hs7⟩ := hSw
    go_simp
    first | done | with_reducible rfl
  simp only [Act.put, List.setIfInBounds_toArray, List.set_cons_zero, List.set_cons_succ]
  refine wpAnyS_take (i := 6) (v := ?_) rfl (by kernel_rfl) (by kernel_rfl) (by kernel_rfl) (by kernel_rfl) (fun c a w => HP.out _ _ c a w) (Or.inl ⟨by kernel_rfl, ?_⟩) hHeld ?_
  rotate_left
  · intro w hSw
    obtain ⟨hs0, hs1, hs2, hs3, hs4, hs5, hs6, hs7⟩ := hSw
    go_simp
    first | done | with_reducible rfl
  simp only [Act.put, List.setIfInBounds_toArray, List.set_cons_zero, List.set_cons_succ]
  refine wpAnyS_take (i := 8) (v := ?_) rfl (by kernel_rfl) (by kernel_rfl) (by kernel_rfl) (by kernel_rfl) (fun c a w => HP.out _ _ c a w) (Or.inl ⟨by kernel_rfl, ?_⟩) hHeld ?_
  rotate_left
  · intro w hSw
    obtain ⟨hs0, hs1, hs2, hs3, hs4, hs5, hs6, hs7⟩ := hSw
    go_simp
    first | done | with_reducible rfl
  simp only [Act.put, List.setIfInBounds_toArray, List.set_cons_zero, List.set_cons_succ]
  refine wpAnyS_take (i := 10) (v := ?_) rfl (by kernel_rfl) (by kernel_rfl) (by kernel_rfl) (by kernel_rfl) (fun c a w => HP.out _ _ c a w) (Or.inl ⟨by kernel_rfl, ?_⟩) hHeld ?_
  rotate_left
  · intro w hSw
    obtain ⟨hs0, hs1, hs2, hs3, hs4, hs5, hs6, hs7⟩ := hSw
    go_simp
    first | done | with_reducible rfl
  simp only [Act.put, List.setIfInBounds_toArray, List.set_cons_zero, List.set_cons_succ]
  refine wpAnyS_take (i := 11) (v := ?_) rfl (by kernel_rfl) (by kernel_rfl) (by kernel_rfl) (by kernel_rfl) (fun c a w => HP.out _ _ c a w) (Or.inl ⟨by kernel_rfl, ?_⟩) hHeld ?_
  rotate_left
  · intro w hSw
    obtain ⟨hs0, hs1, hs2, hs3, hs4, hs5, hs6, hs7⟩ := hSw
    go_simp
    first | done | with_reducible rfl
  simp only [Act.put, List.setIfInBounds_toArray, List.set_cons_zero, List.set_cons_succ]
  refine wpAnyS_take (i := 14) (v := ?_) rfl (by kernel_rfl) (by kernel_rfl) (by kernel_rfl) (by kernel_rfl) (fun c a w => HP.out _ _ c a w) (Or.inl ⟨by kernel_rfl, ?_⟩) hHeld ?_
  rotate_left
  · intro w hSw
    obtain ⟨hs0, hs1, hs2, hs3, hs4, hs5, hs6, hs7⟩ := hSw
    go_simp
    first | done | with_reducible rfl
  simp only [Act.put, List.setIfInBounds_toArray, List.set_cons_zero, List.set_cons_succ]
  refine wpAnyS_take (i := 15) (v := ?_) rfl (by kernel_rfl) (by kernel_rfl) (by kernel_rfl) (by kernel_rfl) (fun c a w => HP.out _ _ c a w) (Or.inl ⟨by kernel_rfl, ?_⟩) hHeld ?_
  rotate_left
  · intro w hSw
    obtain ⟨hs0, hs1, hs2, hs3, hs4, hs5, hs6, hs7⟩ := hSw
    go_simp
    first | done | with_reducible rfl
  simp only [Act.put, List.setIfInBounds_toArray, List.set_cons_zero, List.set_cons_succ]
  refine wpAnyS_ready (rs := [7, 12]) (by kernel_rfl) (by simp) ?_
  refine AllReadyS.cons rfl (fun K hK => ?_) (AllReadyS.cons rfl (fun K hK => ?_) AllReadyS.nil)
  · -- empty first
    rw [if_pos (by kernel_rfl)]
    go_simp
    have hx : Below W4.heap.size W4 (W4.alloc (.cells #[] 3)) := (Below.refl _ _).alloc (Nat.le_refl _) _
    have hown : (W4.alloc (.cells #[] 3)).ownsRow B0 3 1 (.slice (some ⟨W4.heap.size, 0, none⟩) 0 0) 0 [] := World.ownsRow_made W4 #[] 0 (by have := hbc.size; have := HB0.out; omega) (by simp [maxLen]) (by simp)
    have hEz : W4.heap.size < (W4.alloc (.cells #[] 3)).heap.size := by simp
    have hEB : B0 ≤ W4.heap.size := by have := hbc.size; have := HB0.out; omega
    replace hbc := hbc.trans (hx.mono hbc.size)
    refine hK.out _ _ (fun _ => HS.out _ hbc) ?_
    clear hK hx
    generalize hE : W4.heap.size = E at hown hEz hEB ⊢
    clear hE
    generalize W4.alloc (.cells #[] 3) = W5 at *
    try simp only [Act.put, List.setIfInBounds_toArray, List.set_cons_zero, List.set_cons_succ]
    refine wpAnyS_ready (rs := [9, 12]) (by kernel_rfl) (by simp) ?_
    refine AllReadyS.cons rfl (fun K hK => ?_) (AllReadyS.cons rfl (fun K hK => ?_) AllReadyS.nil)
    · -- then the append
      rw [if_pos (by kernel_rfl)]
      refine wp_append_any W5 (.tmp 66) (.tmp 67) 28 rfl B0 3 i0 _ 1 8 Try.underlying28 hi0 hz0 hz1 hz2 (by rfl) (by decide) (.slice (some ⟨E, 0, none⟩) 0 0) 0 [] (by rfl) hown W5.heap.size Ao os.length co (os.map (Value.int .i64)) (by rfl) ((HR1.out.below hbc).more hbc.size) (ints_one _) (by unfold maxLen; omega) (by omega) (by have := hbc.size; have := HB0.out; omega) ?_
      intro v W6 hown3 hgr3 hat3
      replace hown : W6.ownsRow B0 3 1 v os.length (os.map (Value.int .i64)) := by simpa using hown3
      replace hbc : Below W4.heap.size W4 W6 := hbc.grown hgr3 hbc.size (fun k hk => by simp [Value.ownBlock] at hk; have := HB0.out; omega)
      refine hK.out _ _ (fun _ => HS.out _ hbc) ?_
      clear hK hown3 hgr3 hat3 hEB
      try simp only [Act.put, List.setIfInBounds_toArray, List.set_cons_zero, List.set_cons_succ]
      refine wpAnyS_ready (rs := [12]) (by kernel_rfl) (by simp) ?_
      refine AllReadyS.cons rfl (fun K hK => ?_) AllReadyS.nil
      rw [if_pos (by kernel_rfl)]
      go_simp
      have hx : Below W6.heap.size W6 (W6.alloc (.cells #[.int .i64 f] 3)) := (Below.refl _ _).alloc (Nat.le_refl _) _
      have hG0 : Blk (W6.alloc (.cells #[.int .i64 f] 3)) W6.heap.size 3 #[.int .i64 f] := Blk.new W6 3 #[.int .i64 f]
      replace hbc := hbc.trans (hx.mono hbc.size)
      replace hown := hown.kept (below_grown (row := none) hx) (by cases v.ownBlock <;> simp)
      refine hK.out _ _ (fun _ => HS.out _ hbc) ?_
      clear hK hx
      generalize hGz : W6.heap.size = G0 at hG0 ⊢
      clear hGz
      generalize W6.alloc (.cells #[.int .i64 f] 3) = W7 at *
      try simp only [Act.put, List.setIfInBounds_toArray, List.set_cons_zero, List.set_cons_succ]
      refine wpAnyS_ready (rs := [13]) (by kernel_rfl) (by simp) ?_
      refine AllReadyS.cons rfl (fun K hK => ?_) AllReadyS.nil
      rw [if_pos (by kernel_rfl)]
      refine wp_append_lies W7 (.tmp 68) (.tmp 71) 28 rfl B0 3 i0 _ 1 8 Try.underlying28 hi0 hz0 hz1 hz2 (by rfl) (by decide) v os.length _ (by rfl) hown ⟨G0, 0, none⟩ 1 1 [.int .i64 f] (by rfl) (by rfl) (World.news_of_block (cs := #[.int .i64 f]) (t := 3) (fr := (0, 0)) hG0) (by simp [Value.oneCell']) (by omega) (by unfold maxLen; omega) (by omega) (by have := hbc.size; have := HB0.out; omega) _ rfl ?_
      intro g cap w2 hown2 hgrow hg hgl
      replace hbc : Below W4.heap.size W4 w2 := hbc.grown hgrow hbc.size (fun k hk => by have := (hown.lt k hk).1; have := HB0.out; omega)
      refine hK.out _ _ (fun _ => HS.out _ hbc) ?_
      have hri : RdInt w2 w2.heap.size (some ⟨g, 0, none⟩) (os ++ [f]) := by
        obtain ⟨A2, c2, e, hr⟩ := RdInt.of_own (n := os.length + 1) (l := os ++ [f]) (by simp) (by simpa using hown2)
        injection e with e
        subst e
        exact hr
      have hcl := HC.out w2 (some ⟨g, 0, none⟩) cap hbc hri
      have Hcl := Lib.hid hcl
      have hs7 := HS.out _ hbc
      clear hK hown hown2 hgrow hg hG0 hri hcl
      try simp only [Act.put, List.setIfInBounds_toArray, List.set_cons_zero, List.set_cons_succ]
      refine wpAnyS_ready (rs := [16]) (by kernel_rfl) (by simp) ?_
      refine AllReadyS.cons rfl (fun K hK => ?_) AllReadyS.nil
      rw [if_pos (by kernel_rfl)]
      go_simp
      refine Hcl.out.mono ?_
      rintro e w3 ⟨rfl, hb3⟩
      dsimp only
      replace hbc := hbc.trans (hb3.mono hbc.size)
      refine hK.out _ _ (fun _ => HS.out _ hbc) ?_
      have hs8 := HS.out _ hbc
      clear hK Hcl hs7 hb3
      try simp only [Act.put, List.setIfInBounds_toArray, List.set_cons_zero, List.set_cons_succ]
      refine wpAnyS_takeT (i := 17) (v := ?_) rfl (by kernel_rfl) (by kernel_rfl) (by kernel_rfl) (by kernel_rfl) (fun c a w => HP.out _ _ c a w) (Or.inl ⟨by kernel_rfl, ?_⟩) hs8 ?_
      rotate_left
      · intro w hSw
        (try dsimp only at hSw)
        go_simp
        first | done | with_reducible rfl
      simp only [Act.put, List.setIfInBounds_toArray, List.set_cons_zero, List.set_cons_succ]
      refine wpAnyS_ready (rs := [18]) (by kernel_rfl) (by simp) ?_
      refine AllReadyS.cons rfl (fun K hK => ?_) AllReadyS.nil
      go_simp
      refine hK.out _ _ (fun h => absurd h (by decide)) ?_
      refine wpAnyS_done (by kernel_rfl) ?_ _
      clear hK hs8
      exact HN.out _ _ _ _ _ _ _ _ _ _ _ _ _ _ _ _ _ _ w3 (HW.out _ hbc)
    · -- then the one offset
      rw [if_pos (by kernel_rfl)]
      go_simp
      have hx : Below W5.heap.size W5 (W5.alloc (.cells #[.int .i64 f] 3)) := (Below.refl _ _).alloc (Nat.le_refl _) _
      have hG0 : Blk (W5.alloc (.cells #[.int .i64 f] 3)) W5.heap.size 3 #[.int .i64 f] := Blk.new W5 3 #[.int .i64 f]
      replace hbc := hbc.trans (hx.mono hbc.size)
      replace hown := hown.kept (below_grown (row := none) hx) (.inr (by simp [Value.ownBlock]))
      have hEG : W5.heap.size ≠ E := Nat.ne_of_gt hEz
      refine hK.out _ _ (fun _ => HS.out _ hbc) ?_
      clear hK hx
      generalize hGz : W5.heap.size = G0 at hG0 hEG ⊢
      clear hGz
      generalize W5.alloc (.cells #[.int .i64 f] 3) = W6 at *
      try simp only [Act.put, List.setIfInBounds_toArray, List.set_cons_zero, List.set_cons_succ]
      refine wpAnyS_ready (rs := [9]) (by kernel_rfl) (by simp) ?_
      refine AllReadyS.cons rfl (fun K hK => ?_) AllReadyS.nil
      rw [if_pos (by kernel_rfl)]
      refine wp_append_any W6 (.tmp 66) (.tmp 67) 28 rfl B0 3 i0 _ 1 8 Try.underlying28 hi0 hz0 hz1 hz2 (by rfl) (by decide) (.slice (some ⟨E, 0, none⟩) 0 0) 0 [] (by rfl) hown W6.heap.size Ao os.length co (os.map (Value.int .i64)) (by rfl) ((HR1.out.below hbc).more hbc.size) (ints_one _) (by unfold maxLen; omega) (by omega) (by have := hbc.size; have := HB0.out; omega) ?_
      intro v W7 hown3 hgr3 hat3
      replace hown : W7.ownsRow B0 3 1 v os.length (os.map (Value.int .i64)) := by simpa using hown3
      replace hbc : Below W4.heap.size W4 W7 := hbc.grown hgr3 hbc.size (fun k hk => by simp [Value.ownBlock] at hk; have := HB0.out; omega)
      replace hG0 := hG0.grown hgr3 (by simp [Value.ownBlock]; exact hEG)
      refine hK.out _ _ (fun _ => HS.out _ hbc) ?_
      clear hK hown3 hgr3 hat3 hEB hEG
      try simp only [Act.put, List.setIfInBounds_toArray, List.set_cons_zero, List.set_cons_succ]
      refine wpAnyS_ready (rs := [13]) (by kernel_rfl) (by simp) ?_
      refine AllReadyS.cons rfl (fun K hK => ?_) AllReadyS.nil
      rw [if_pos (by kernel_rfl)]
      refine wp_append_lies W7 (.tmp 68) (.tmp 71) 28 rfl B0 3 i0 _ 1 8 Try.underlying28 hi0 hz0 hz1 hz2 (by rfl) (by decide) v os.length _ (by rfl) hown ⟨G0, 0, none⟩ 1 1 [.int .i64 f] (by rfl) (by rfl) (World.news_of_block (cs := #[.int .i64 f]) (t := 3) (fr := (0, 0)) hG0) (by simp [Value.oneCell']) (by omega) (by unfold maxLen; omega) (by omega) (by have := hbc.size; have := HB0.out; omega) _ rfl ?_
      intro g cap w2 hown2 hgrow hg hgl
      replace hbc : Below W4.heap.size W4 w2 := hbc.grown hgrow hbc.size (fun k hk => by have := (hown.lt k hk).1; have := HB0.out; omega)
      refine hK.out _ _ (fun _ => HS.out _ hbc) ?_
      have hri : RdInt w2 w2.heap.size (some ⟨g, 0, none⟩) (os ++ [f]) := by
        obtain ⟨A2, c2, e, hr⟩ := RdInt.of_own (n := os.length + 1) (l := os ++ [f]) (by simp) (by simpa using hown2)
        injection e with e
        subst e
        exact hr
      have hcl := HC.out w2 (some ⟨g, 0, none⟩) cap hbc hri
      have Hcl := Lib.hid hcl
      have hs7 := HS.out _ hbc
      clear hK hown hown2 hgrow hg hG0 hri hcl
      try simp only [Act.put, List.setIfInBounds_toArray, List.set_cons_zero, List.set_cons_succ]
      refine wpAnyS_ready (rs := [16]) (by kernel_rfl) (by simp) ?_
      refine AllReadyS.cons rfl (fun K hK => ?_) AllReadyS.nil
      rw [if_pos (by kernel_rfl)]
      go_simp
      refine Hcl.out.mono ?_
      rintro e w3 ⟨rfl, hb3⟩
      dsimp only
      replace hbc := hbc.trans (hb3.mono hbc.size)
      refine hK.out _ _ (fun _ => HS.out _ hbc) ?_
      have hs8 := HS.out _ hbc
      clear hK Hcl hs7 hb3
      try simp only [Act.put, List.setIfInBounds_toArray, List.set_cons_zero, List.set_cons_succ]
      refine wpAnyS_takeT (i := 17) (v := ?_) rfl (by kernel_rfl) (by kernel_rfl) (by kernel_rfl) (by kernel_rfl) (fun c a w => HP.out _ _ c a w) (Or.inl ⟨by kernel_rfl, ?_⟩) hs8 ?_
      rotate_left
      · intro w hSw
        (try dsimp only at hSw)
        go_simp
        first | done | with_reducible rfl
      simp only [Act.put, List.setIfInBounds_toArray, List.set_cons_zero, List.set_cons_succ]
      refine wpAnyS_ready (rs := [18]) (by kernel_rfl) (by simp) ?_
      refine AllReadyS.cons rfl (fun K hK => ?_) AllReadyS.nil
      go_simp
      refine hK.out _ _ (fun h => absurd h (by decide)) ?_
      refine wpAnyS_done (by kernel_rfl) ?_ _
      clear hK hs8
      exact HN.out _ _ _ _ _ _ _ _ _ _ _ _ _ _ _ _ _ _ w3 (HW.out _ hbc)
  · -- the one offset first
    rw [if_pos (by kernel_rfl)]
    go_simp
    have hx : Below W4.heap.size W4 (W4.alloc (.cells #[.int .i64 f] 3)) := (Below.refl _ _).alloc (Nat.le_refl _) _
    have hG0 : Blk (W4.alloc (.cells #[.int .i64 f] 3)) W4.heap.size 3 #[.int .i64 f] := Blk.new W4 3 #[.int .i64 f]
    replace hbc := hbc.trans (hx.mono hbc.size)
    refine hK.out _ _ (fun _ => HS.out _ hbc) ?_
    clear hK hx
    generalize hGz : W4.heap.size = G0 at hG0 ⊢
    clear hGz
    generalize W4.alloc (.cells #[.int .i64 f] 3) = W5 at *
    try simp only [Act.put, List.setIfInBounds_toArray, List.set_cons_zero, List.set_cons_succ]
    refine wpAnyS_ready (rs := [7]) (by kernel_rfl) (by simp) ?_
    refine AllReadyS.cons rfl (fun K hK => ?_) AllReadyS.nil
    rw [if_pos (by kernel_rfl)]
    go_simp
    have hx : Below W5.heap.size W5 (W5.alloc (.cells #[] 3)) := (Below.refl _ _).alloc (Nat.le_refl _) _
    have hown : (W5.alloc (.cells #[] 3)).ownsRow B0 3 1 (.slice (some ⟨W5.heap.size, 0, none⟩) 0 0) 0 [] := World.ownsRow_made W5 #[] 0 (by have := hbc.size; have := HB0.out; omega) (by simp [maxLen]) (by simp)
    have hEz : W5.heap.size < (W5.alloc (.cells #[] 3)).heap.size := by simp
    have hEB : B0 ≤ W5.heap.size := by have := hbc.size; have := HB0.out; omega
    replace hbc := hbc.trans (hx.mono hbc.size)
    have hEG : G0 ≠ W5.heap.size := Nat.ne_of_lt hG0.lt
    replace hG0 := hG0.below hx hG0.lt
    refine hK.out _ _ (fun _ => HS.out _ hbc) ?_
    clear hK hx
    generalize hE : W5.heap.size = E at hown hEz hEB hEG ⊢
    clear hE
    generalize W5.alloc (.cells #[] 3) = W6 at *
    try simp only [Act.put, List.setIfInBounds_toArray, List.set_cons_zero, List.set_cons_succ]
    refine wpAnyS_ready (rs := [9]) (by kernel_rfl) (by simp) ?_
    refine AllReadyS.cons rfl (fun K hK => ?_) AllReadyS.nil
    rw [if_pos (by kernel_rfl)]
    refine wp_append_any W6 (.tmp 66) (.tmp 67) 28 rfl B0 3 i0 _ 1 8 Try.underlying28 hi0 hz0 hz1 hz2 (by rfl) (by decide) (.slice (some ⟨E, 0, none⟩) 0 0) 0 [] (by rfl) hown W6.heap.size Ao os.length co (os.map (Value.int .i64)) (by rfl) ((HR1.out.below hbc).more hbc.size) (ints_one _) (by unfold maxLen; omega) (by omega) (by have := hbc.size; have := HB0.out; omega) ?_
    intro v W7 hown3 hgr3 hat3
    replace hown : W7.ownsRow B0 3 1 v os.length (os.map (Value.int .i64)) := by simpa using hown3
    replace hbc : Below W4.heap.size W4 W7 := hbc.grown hgr3 hbc.size (fun k hk => by simp [Value.ownBlock] at hk; have := HB0.out; omega)
    replace hG0 := hG0.grown hgr3 (by simp [Value.ownBlock]; exact hEG)
    refine hK.out _ _ (fun _ => HS.out _ hbc) ?_
    clear hK hown3 hgr3 hat3 hEB hEG
    try simp only [Act.put, List.setIfInBounds_toArray, List.set_cons_zero, List.set_cons_succ]
    refine wpAnyS_ready (rs := [13]) (by kernel_rfl) (by simp) ?_
    refine AllReadyS.cons rfl (fun K hK => ?_) AllReadyS.nil
    rw [if_pos (by kernel_rfl)]
    refine wp_append_lies W7 (.tmp 68) (.tmp 71) 28 rfl B0 3 i0 _ 1 8 Try.underlying28 hi0 hz0 hz1 hz2 (by rfl) (by decide) v os.length _ (by rfl) hown ⟨G0, 0, none⟩ 1 1 [.int .i64 f] (by rfl) (by rfl) (World.news_of_block (cs := #[.int .i64 f]) (t := 3) (fr := (0, 0)) hG0) (by simp [Value.oneCell']) (by omega) (by unfold maxLen; omega) (by omega) (by have := hbc.size; have := HB0.out; omega) _ rfl ?_
    intro g cap w2 hown2 hgrow hg hgl
    replace hbc : Below W4.heap.size W4 w2 := hbc.grown hgrow hbc.size (fun k hk => by have := (hown.lt k hk).1; have := HB0.out; omega)
    refine hK.out _ _ (fun _ => HS.out _ hbc) ?_
    have hri : RdInt w2 w2.heap.size (some ⟨g, 0, none⟩) (os ++ [f]) := by
      obtain ⟨A2, c2, e, hr⟩ := RdInt.of_own (n := os.length + 1) (l := os ++ [f]) (by simp) (by simpa using hown2)
      injection e with e
      subst e
      exact hr
    have hcl := HC.out w2 (some ⟨g, 0, none⟩) cap hbc hri
    have Hcl := Lib.hid hcl
    have hs7 := HS.out _ hbc
    clear hK hown hown2 hgrow hg hG0 hri hcl
    try simp only [Act.put, List.setIfInBounds_toArray, List.set_cons_zero, List.set_cons_succ]
    refine wpAnyS_ready (rs := [16]) (by kernel_rfl) (by simp) ?_
    refine AllReadyS.cons rfl (fun K hK => ?_) AllReadyS.nil
    rw [if_pos (by kernel_rfl)]
    go_simp
    refine Hcl.out.mono ?_
    rintro e w3 ⟨rfl, hb3⟩
    dsimp only
    replace hbc := hbc.trans (hb3.mono hbc.size)
    refine hK.out _ _ (fun _ => HS.out _ hbc) ?_
    have hs8 := HS.out _ hbc
    clear hK Hcl hs7 hb3
    try simp only [Act.put, List.setIfInBounds_toArray, List.set_cons_zero, List.set_cons_succ]
    refine wpAnyS_takeT (i := 17) (v := ?_) rfl (by kernel_rfl) (by kernel_rfl) (by kernel_rfl) (by kernel_rfl) (fun c a w => HP.out _ _ c a w) (Or.inl ⟨by kernel_rfl, ?_⟩) hs8 ?_
    rotate_left
    · intro w hSw
      (try dsimp only at hSw)
      go_simp
      first | done | with_reducible rfl
    simp only [Act.put, List.setIfInBounds_toArray, List.set_cons_zero, List.set_cons_succ]
    refine wpAnyS_ready (rs := [18]) (by kernel_rfl) (by simp) ?_
    refine AllReadyS.cons rfl (fun K hK => ?_) AllReadyS.nil
    go_simp
    refine hK.out _ _ (fun h => absurd h (by decide)) ?_
    refine wpAnyS_done (by kernel_rfl) ?_ _
    clear hK hs8
    exact HN.out _ _ _ _ _ _ _ _ _ _ _ _ _ _ _ _ _ _ w3 (HW.out _ hbc)

end Go.Proofs.Ytlmbffnmjfbglab
