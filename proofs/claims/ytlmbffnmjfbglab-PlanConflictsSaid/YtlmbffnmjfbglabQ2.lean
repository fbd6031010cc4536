/- Regions of the search's rounds: an offset appended, and cut off again. -/
import Derived.Test.YtlmbffnmjfbglabQ1
import Derived.Test.YtlmbffnmjfbglabPC
set_option linter.unusedSimpArgs false
set_option linter.unusedVariables false
namespace Go.Proofs.Ytlmbffnmjfbglab
open Go.ChangeShapes Go.WideShapes Go.ChangeAt Go.RowKit

theorem add_zero_addr (a : Addr) : a.add 0 = a := by
  unfold Addr.add; split <;> simp_all
theorem map_add_zero (A : Option Addr) : A.map (fun x => x.add 0) = A := by
  cases A with
  | none => rfl
  | some a => simp [add_zero_addr]
theorem slice3_full (A : Option Addr) (n co : Nat) (h : n ≤ co) (W : World) : (Instr.sliceAt 28 (.slice A n co) none (some (.int .i64 n)) (some (.int .i64 n))).run Try.prog W = .ok (.slice A n n) W := by
  have h0 : (0 : Int) ≤ (n : Int) := by omega
  have h1 : (n : Int) ≤ (co : Int) := by omega
  simp [go_sem, h0, h1, sliced, map_add_zero]
theorem slice_to (A : Option Addr) (m n co : Nat) (h : n ≤ co) (W : World) : (Instr.sliceAt 28 (.slice A m co) none (some (.int .i64 n)) none).run Try.prog W = .ok (.slice A n co) W := by
  have h0 : (0 : Int) ≤ (n : Int) := by omega
  have h1 : (n : Int) ≤ (co : Int) := by omega
  simp [go_sem, h0, h1, sliced, map_add_zero]

section
attribute [local go_sem] Oper.semAt_some
attribute [-go_sem] run_sliceAt_slice
variable {w : World} {Bs : Nat} {name : ByteArray} {mem F : Int} {A : Option Addr} {ps : List Part} {c n : Nat} {os : List Int} {t : Int} {cl : List Claim} {L : List CV} {Ao : Option Addr} {co : Nat}
set_option maxRecDepth 100000 in
set_option maxHeartbeats 4000000 in
theorem reg10_c {l m : Nat} (W : World) (Bn k : Nat) {V : Value} (h3 : RI0 w Bs name mem F A ps c os.length W os t cl V L Ao co) (hb : Blk W Bn 65 #[.pointer (some ⟨Bs, 0, none⟩)]) (hbB : Bn ≠ Bs) (hos : os.length ≤ 6)
    {x0 x2 x5 x6 x7 x8 x9 x10 x11 x12 x13 x14 x15 x16 x17 x18 x19 x20 x21 x22 x23 x24 x25 x26 x27 x28 x29 x30 x31 x32 x33 x34 x35 x36 x37 x38 x39 x40 x41 x42 x43 x44 x45 x46 x47 x48 x49 x50 x51 x52 x53 x54 x55 x56 x57 x58 x59 x60 x61 x62 x63 x64 x65 x66 x67 x68 x69 x70 x71 x72 x73 x74 x75 x76 x77 x78 x79 x80 x81 x82 x83 x84 x85 x86 x87 x88 x89 x90 x91 x92 x93 x94 x95 : Value} (Q : Exit → Act → World → Prop) (hQ : ¬ LetsOut Q) (hP0 : ∀ d v c a w, Q (.panic c) (Act.put a d v) w → Q (.panic c) a w)
    (hN : ∀ W' Ao' co' y46 y47 y48 y49 y50 y51 y52 y53 y54 y55 y56 y57 y58, KeepsOthers W W' → Blk W' Bn 65 #[.pointer (some ⟨Bs, 0, none⟩)] → RI0 w Bs name mem F A ps c os.length W' (os ++ [(k : Int)]) t cl V L Ao' co' → Q .normal { tmps := List.toArray (x0 :: Value.pointer (some ⟨w.heap.size, 0, none⟩) :: x2 :: Value.pointer (some ⟨w.heap.size + 2, 0, none⟩) :: Value.int .i64 k :: x5 :: x6 :: x7 :: x8 :: x9 :: x10 :: x11 :: x12 :: x13 :: x14 :: x15 :: x16 :: x17 :: x18 :: x19 :: x20 :: x21 :: x22 :: x23 :: x24 :: x25 :: x26 :: x27 :: x28 :: x29 :: x30 :: x31 :: x32 :: x33 :: x34 :: x35 :: x36 :: x37 :: x38 :: x39 :: x40 :: x41 :: x42 :: x43 :: x44 :: x45 :: y46 :: y47 :: y48 :: y49 :: y50 :: y51 :: y52 :: y53 :: y54 :: y55 :: y56 :: y57 :: y58 :: x59 :: x60 :: x61 :: x62 :: x63 :: x64 :: x65 :: x66 :: x67 :: x68 :: x69 :: x70 :: x71 :: x72 :: x73 :: x74 :: x75 :: x76 :: x77 :: x78 :: x79 :: x80 :: x81 :: x82 :: x83 :: x84 :: x85 :: x86 :: x87 :: x88 :: x89 :: x90 :: x91 :: x92 :: x93 :: x94 :: x95 :: []), defers := [] } W') :
    (reg37 10).wpIn (Fence.wide.inRound l) m Try.prog Q { tmps := List.toArray (x0 :: Value.pointer (some ⟨w.heap.size, 0, none⟩) :: x2 :: Value.pointer (some ⟨w.heap.size + 2, 0, none⟩) :: Value.int .i64 k :: x5 :: x6 :: x7 :: x8 :: x9 :: x10 :: x11 :: x12 :: x13 :: x14 :: x15 :: x16 :: x17 :: x18 :: x19 :: x20 :: x21 :: x22 :: x23 :: x24 :: x25 :: x26 :: x27 :: x28 :: x29 :: x30 :: x31 :: x32 :: x33 :: x34 :: x35 :: x36 :: x37 :: x38 :: x39 :: x40 :: x41 :: x42 :: x43 :: x44 :: x45 :: x46 :: x47 :: x48 :: x49 :: x50 :: x51 :: x52 :: x53 :: x54 :: x55 :: x56 :: x57 :: x58 :: x59 :: x60 :: x61 :: x62 :: x63 :: x64 :: x65 :: x66 :: x67 :: x68 :: x69 :: x70 :: x71 :: x72 :: x73 :: x74 :: x75 :: x76 :: x77 :: x78 :: x79 :: x80 :: x81 :: x82 :: x83 :: x84 :: x85 :: x86 :: x87 :: x88 :: x89 :: x90 :: x91 :: x92 :: x93 :: x94 :: x95 :: []), defers := [] } W := by
  have q0 : W.cell? ⟨w.heap.size, 0, none⟩ = some (.pointer (some ⟨Bs, 0, none⟩)) := h3.b0.cell 0
  have q2 : W.cell? ⟨w.heap.size + 2, 0, none⟩ = some (.int .i64 os.length) := h3.b2.cell 0
  obtain ⟨_, _, _, _, q4, _⟩ := h3.sb.cells
  obtain ⟨i0, hi0, hz0, hz1, hz2⟩ := info_parts info3
  have hlb := h3.sb.blk.lt
  refine wpIn_region_roundS (fun W' => W'.cell? ⟨w.heap.size, 0, none⟩ = some (.pointer (some ⟨Bs, 0, none⟩)) ∧ W'.cell? ⟨w.heap.size + 2, 0, none⟩ = some (.int .i64 os.length) ∧ W'.cell? ⟨Bs, 4, none⟩ = some (.slice Ao os.length co)) 13 (by kernel_rfl) (by kernel_rfl) hQ (by go_keep) (fun hHeld => ?_)
  have h4 := h3.below (W' := W.drew) (Below.refl _ W).drew
  have hko4 : KeepsOthers W W.drew := keeps_below (Below.refl _ W).drew
  have hbn4 : Blk W.drew Bn 65 #[.pointer (some ⟨Bs, 0, none⟩)] := hb.below (Below.refl _ W).drew hb.lt
  have HP := Lib.hid hP0
  have HN := Lib.hid hN
  have hsl := fun W => slice3_full Ao os.length co h3.sb.cap W
  clear h3 hb q0 q2 q4 hN hP0
  revert hko4 hbn4 hlb
  generalize W.drew = W4 at *
  intro hlb hko4 hbn4
  refine wpAnyS_take (i := 0) (v := ?_) rfl (by kernel_rfl) (by kernel_rfl) (by kernel_rfl) (by kernel_rfl) (fun c a w => HP.out _ _ c a w) (Or.inl ⟨by rfl, ?_⟩) hHeld ?_
  rotate_left
  · intro w hSw
    obtain ⟨hs0, hs2, hs4⟩ := hSw
    go_simp
    first | done | with_reducible rfl
  simp only [Act.put, List.setIfInBounds_toArray, List.set_cons_zero, List.set_cons_succ]
  refine wpAnyS_take (i := 1) (v := ?_) rfl (by kernel_rfl) (by kernel_rfl) (by kernel_rfl) (by kernel_rfl) (fun c a w => HP.out _ _ c a w) (Or.inl ⟨by rfl, ?_⟩) hHeld ?_
  rotate_left
  · intro w hSw
    obtain ⟨hs0, hs2, hs4⟩ := hSw
    go_simp
    first | done | with_reducible rfl
  simp only [Act.put, List.setIfInBounds_toArray, List.set_cons_zero, List.set_cons_succ]
  refine wpAnyS_take (i := 2) (v := ?_) rfl (by kernel_rfl) (by kernel_rfl) (by kernel_rfl) (by kernel_rfl) (fun c a w => HP.out _ _ c a w) (Or.inl ⟨by rfl, ?_⟩) hHeld ?_
  rotate_left
  · intro w hSw
    obtain ⟨hs0, hs2, hs4⟩ := hSw
    go_simp
    first | done | with_reducible rfl
  simp only [Act.put, List.setIfInBounds_toArray, List.set_cons_zero, List.set_cons_succ]
  refine wpAnyS_take (i := 3) (v := ?_) rfl (by kernel_rfl) (by kernel_rfl) (by kernel_rfl) (by kernel_rfl) (fun c a w => HP.out _ _ c a w) (Or.inl ⟨by rfl, ?_⟩) hHeld ?_
  rotate_left
  · intro w hSw
    obtain ⟨hs0, hs2, hs4⟩ := hSw
    go_simp
    first | done | with_reducible rfl
  simp only [Act.put, List.setIfInBounds_toArray, List.set_cons_zero, List.set_cons_succ]
  refine wpAnyS_take (i := 4) (v := ?_) rfl (by kernel_rfl) (by kernel_rfl) (by kernel_rfl) (by kernel_rfl) (fun c a w => HP.out _ _ c a w) (Or.inl ⟨by rfl, ?_⟩) hHeld ?_
  rotate_left
  · intro w hSw
    obtain ⟨hs0, hs2, hs4⟩ := hSw
    go_simp
    first | done | with_reducible rfl
  simp only [Act.put, List.setIfInBounds_toArray, List.set_cons_zero, List.set_cons_succ]
  refine wpAnyS_take (i := 5) (v := ?_) rfl (by kernel_rfl) (by kernel_rfl) (by kernel_rfl) (by kernel_rfl) (fun c a w => HP.out _ _ c a w) (Or.inl ⟨by rfl, ?_⟩) hHeld ?_
  rotate_left
  · intro w hSw
    obtain ⟨hs0, hs2, hs4⟩ := hSw
    go_simp
    first | done | with_reducible rfl
  simp only [Act.put, List.setIfInBounds_toArray, List.set_cons_zero, List.set_cons_succ]
  refine wpAnyS_take (i := 6) (v := ?_) rfl (by kernel_rfl) (by kernel_rfl) (by kernel_rfl) (by kernel_rfl) (fun c a w => HP.out _ _ c a w) (Or.inl ⟨by rfl, ?_⟩) hHeld ?_
  rotate_left
  · intro w hSw
    obtain ⟨hs0, hs2, hs4⟩ := hSw
    go_simp
    first | done | with_reducible rfl
  simp only [Act.put, List.setIfInBounds_toArray, List.set_cons_zero, List.set_cons_succ]
  refine wpAnyS_take (i := 7) (v := ?_) rfl (by kernel_rfl) (by kernel_rfl) (by kernel_rfl) (by kernel_rfl) (fun c a w => HP.out _ _ c a w) (Or.inl ⟨by rfl, ?_⟩) hHeld ?_
  rotate_left
  · intro w hSw
    obtain ⟨hs0, hs2, hs4⟩ := hSw
    go_simp
    first | done | with_reducible rfl
  simp only [Act.put, List.setIfInBounds_toArray, List.set_cons_zero, List.set_cons_succ]
  refine wpAnyS_take (i := 8) (v := ?_) rfl (by kernel_rfl) (by kernel_rfl) (by kernel_rfl) (by kernel_rfl) (fun c a w => HP.out _ _ c a w) (Or.inl ⟨by rfl, ?_⟩) hHeld ?_
  rotate_left
  · intro w hSw
    obtain ⟨hs0, hs2, hs4⟩ := hSw
    go_simp
    first | done | with_reducible rfl
  simp only [Act.put, List.setIfInBounds_toArray, List.set_cons_zero, List.set_cons_succ]
  refine wpAnyS_ready (rs := [9]) (by kernel_rfl) (by simp) ?_
  refine AllReadyS.cons rfl (fun K hK => ?_) AllReadyS.nil
  go_simp
  have hS5 : (W4.alloc (.cells #[.int .i64 k] 3)).cell? ⟨w.heap.size, 0, none⟩ = some (.pointer (some ⟨Bs, 0, none⟩)) ∧ (W4.alloc (.cells #[.int .i64 k] 3)).cell? ⟨w.heap.size + 2, 0, none⟩ = some (.int .i64 os.length) ∧ (W4.alloc (.cells #[.int .i64 k] 3)).cell? ⟨Bs, 4, none⟩ = some (.slice Ao os.length co) := by go_keep
  refine hK.out _ _ (fun _ => hS5) ?_
  clear hK hHeld
  refine wpAnyS_ready (rs := [10]) (by kernel_rfl) (by simp) ?_
  refine AllReadyS.cons rfl (fun K hK => ?_) AllReadyS.nil
  have h5 := h4.below (W' := W4.alloc (.cells #[.int .i64 k] 3)) ((Below.refl _ W4).alloc (Nat.le_refl _) _)
  have hof := h5.sb.of
  refine step_append_new _ (by rfl) (.tmp 53) (.tmp 55) 28 (by rfl) 3 i0 _ 1 8 Try.underlying28 hi0 hz0 hz1 hz2 (by rfl) (by decide) Ao os.length os.length (os.map (Value.int .i64)) (by rfl) (fun e => ?_) (by simp) (fun b e j u hj => ?_) ⟨W4.heap.size, 0, none⟩ 1 1 [.int .i64 k] (by rfl) (by rfl) (World.news_of_block (cs := #[.int .i64 k]) (t := 3) (fr := (0, 0)) (heap_alloc_new W4 _)) (by simp [Value.oneCell']) (by omega) (by unfold maxLen; omega) (by omega) (by omega) ?_
  · rcases Nat.eq_zero_or_pos os.length with h0 | h0
    · exact ⟨h0, h0⟩
    · obtain ⟨b, o, e2, _⟩ := hof h0
      rw [e] at e2; cases e2
  · subst e
    have hj2 : j < os.length := by
      rcases Nat.lt_or_ge j os.length with h | h
      · exact h
      · rw [List.getElem?_eq_none (by simpa using h)] at hj; cases hj
    obtain ⟨b', o, e2, _, hc⟩ := hof (by omega)
    injection e2 with e2
    subst e2
    have := hc j hj2
    rw [List.getElem?_map, List.getElem?_eq_getElem hj2] at hj
    injection hj with hj
    subst hj
    rw [Addr.add_lit]
    exact this
  intro g cap w2 hown2 hgrow
  have hoff := h5.off k hgrow hown2
  have hlb5 := h5.sb.blk.lt
  have hS7 : w2.cell? ⟨w.heap.size, 0, none⟩ = some (.pointer (some ⟨Bs, 0, none⟩)) ∧ w2.cell? ⟨w.heap.size + 2, 0, none⟩ = some (.int .i64 os.length) ∧ w2.cell? ⟨Bs, 4, none⟩ = some (.slice Ao os.length co) :=
    have hz5 := h5.size
    ⟨(World.cell?_of_block (hgrow.block _ (by simp at hz5 ⊢; omega) (by simp))).trans hS5.1, (World.cell?_of_block (hgrow.block _ (by simp at hz5 ⊢; omega) (by simp))).trans hS5.2.1, (World.cell?_of_block (hgrow.block _ hlb5 (by simp))).trans hS5.2.2⟩
  refine hK.out _ _ (fun _ => hS7) ?_
  clear hK
  have f4 : w2.frozen? ⟨Bs, 4, none⟩ = false := (h5.sb.blk.grown hgrow (by simp)).frozen 4
  have HO := Lib.hid hoff
  clear hoff h5 h4 hown2 hgrow hof hS5
  simp only [Act.put, List.setIfInBounds_toArray, List.set_cons_zero, List.set_cons_succ]
  refine wpAnyS_take (i := 11) (v := ?_) rfl (by kernel_rfl) (by kernel_rfl) (by kernel_rfl) (by kernel_rfl) (fun c a w => HP.out _ _ c a w) (Or.inl ⟨by rfl, ?_⟩) hS7 ?_
  rotate_left
  · intro w hSw
    obtain ⟨hs0, hs2, hs4⟩ := hSw
    go_simp
    first | done | with_reducible rfl
  simp only [Act.put, List.setIfInBounds_toArray, List.set_cons_zero, List.set_cons_succ]
  refine wpAnyS_take (i := 12) (v := ?_) rfl (by kernel_rfl) (by kernel_rfl) (by kernel_rfl) (by kernel_rfl) (fun c a w => HP.out _ _ c a w) (Or.inl ⟨by rfl, ?_⟩) hS7 ?_
  rotate_left
  · intro w hSw
    obtain ⟨hs0, hs2, hs4⟩ := hSw
    go_simp
    first | done | with_reducible rfl
  simp only [Act.put, List.setIfInBounds_toArray, List.set_cons_zero, List.set_cons_succ]
  obtain ⟨_, _, q4⟩ := hS7
  refine wpAnyS_ready (rs := [13]) (by kernel_rfl) (by simp) ?_
  refine AllReadyS.cons rfl (fun K hK => ?_) AllReadyS.nil
  go_simp
  refine hK.out _ _ (fun h => absurd h (by decide)) ?_
  refine wpAnyS_done (by kernel_rfl) ?_ _
  obtain ⟨o1, o2, o3⟩ := HO.out
  exact HN.out _ _ _ _ _ _ _ _ _ _ _ _ _ _ _ _ (((hko4.trans (KeepsOthers.alloc _ _))).trans o2) (o3 _ _ _ hbB (hbn4.alloc _)) o1
set_option maxRecDepth 100000 in
set_option maxHeartbeats 4000000 in
theorem reg12_c {l m : Nat} (W : World) (Bn : Nat) (k : Int) {V : Value} (h3 : RI0 w Bs name mem F A ps c os.length W (os ++ [k]) t cl V L Ao co) (hb : Blk W Bn 65 #[.pointer (some ⟨Bs, 0, none⟩)]) (hbB : Bn ≠ Bs)
    {x0 x2 x4 x5 x6 x7 x8 x9 x10 x11 x12 x13 x14 x15 x16 x17 x18 x19 x20 x21 x22 x23 x24 x25 x26 x27 x28 x29 x30 x31 x32 x33 x34 x35 x36 x37 x38 x39 x40 x41 x42 x43 x44 x45 x46 x47 x48 x49 x50 x51 x52 x53 x54 x55 x56 x57 x58 x59 x60 x61 x62 x63 x64 x65 x66 x67 x68 x69 x70 x71 x72 x73 x74 x75 x76 x77 x78 x79 x80 x81 x82 x83 x84 x85 x86 x87 x88 x89 x90 x91 x92 x93 x94 x95 : Value} (Q : Exit → Act → World → Prop) (hQ : ¬ LetsOut Q) (hP0 : ∀ d v c a w, Q (.panic c) (Act.put a d v) w → Q (.panic c) a w)
    (hN : ∀ a' W', KeepsOthers W W' → Blk W' Bn 65 #[.pointer (some ⟨Bs, 0, none⟩)] → RI0 w Bs name mem F A ps c os.length W' os t cl V L Ao co → Q .normal a' W') :
    (reg37 12).wpIn (Fence.wide.inRound l) m Try.prog Q { tmps := List.toArray (x0 :: Value.pointer (some ⟨w.heap.size, 0, none⟩) :: x2 :: Value.pointer (some ⟨w.heap.size + 2, 0, none⟩) :: x4 :: x5 :: x6 :: x7 :: x8 :: x9 :: x10 :: x11 :: x12 :: x13 :: x14 :: x15 :: x16 :: x17 :: x18 :: x19 :: x20 :: x21 :: x22 :: x23 :: x24 :: x25 :: x26 :: x27 :: x28 :: x29 :: x30 :: x31 :: x32 :: x33 :: x34 :: x35 :: x36 :: x37 :: x38 :: x39 :: x40 :: x41 :: x42 :: x43 :: x44 :: x45 :: x46 :: x47 :: x48 :: x49 :: x50 :: x51 :: x52 :: x53 :: x54 :: x55 :: x56 :: x57 :: x58 :: x59 :: x60 :: x61 :: x62 :: x63 :: x64 :: x65 :: x66 :: x67 :: x68 :: x69 :: x70 :: x71 :: x72 :: x73 :: x74 :: x75 :: x76 :: x77 :: x78 :: x79 :: x80 :: x81 :: x82 :: x83 :: x84 :: x85 :: x86 :: x87 :: x88 :: x89 :: x90 :: x91 :: x92 :: x93 :: x94 :: x95 :: []), defers := [] } W := by
  have q0 : W.cell? ⟨w.heap.size, 0, none⟩ = some (.pointer (some ⟨Bs, 0, none⟩)) := h3.b0.cell 0
  have q2 : W.cell? ⟨w.heap.size + 2, 0, none⟩ = some (.int .i64 os.length) := h3.b2.cell 0
  obtain ⟨_, _, _, _, q4, _⟩ := h3.sb.cells
  have hlb := h3.sb.blk.lt
  have hcap := h3.sb.cap
  simp only [List.length_append, List.length_cons, List.length_nil, Nat.zero_add] at q4 hcap
  refine wpIn_region_roundS (fun W' => W'.cell? ⟨w.heap.size, 0, none⟩ = some (.pointer (some ⟨Bs, 0, none⟩)) ∧ W'.cell? ⟨w.heap.size + 2, 0, none⟩ = some (.int .i64 os.length) ∧ W'.cell? ⟨Bs, 4, none⟩ = some (.slice Ao (os.length + 1) co)) 9 (by kernel_rfl) (by kernel_rfl) hQ (by go_keep) (fun hHeld => ?_)
  have h4 := h3.below (W' := W.drew) (Below.refl _ W).drew
  have hko4 : KeepsOthers W W.drew := keeps_below (Below.refl _ W).drew
  have hbn4 : Blk W.drew Bn 65 #[.pointer (some ⟨Bs, 0, none⟩)] := hb.below (Below.refl _ W).drew hb.lt
  have hfz := h4.sb.blk.frozen 4
  have HP := Lib.hid hP0
  have HN := Lib.hid hN
  have hsl := fun W => slice_to Ao (os.length + 1) os.length co (by omega) W
  clear h3 hb q0 q2 q4 hN hP0 hcap
  revert hko4 hbn4 hlb hfz
  generalize W.drew = W4 at *
  intro hlb hko4 hbn4 hfz
  refine wpAnyS_take (i := 0) (v := ?_) rfl (by kernel_rfl) (by kernel_rfl) (by kernel_rfl) (by kernel_rfl) (fun c a w => HP.out _ _ c a w) (Or.inl ⟨by rfl, ?_⟩) hHeld ?_
  rotate_left
  · intro w hSw
    obtain ⟨hs0, hs2, hs4⟩ := hSw
    go_simp
    first | done | with_reducible rfl
  simp only [Act.put, List.setIfInBounds_toArray, List.set_cons_zero, List.set_cons_succ]
  refine wpAnyS_take (i := 1) (v := ?_) rfl (by kernel_rfl) (by kernel_rfl) (by kernel_rfl) (by kernel_rfl) (fun c a w => HP.out _ _ c a w) (Or.inl ⟨by rfl, ?_⟩) hHeld ?_
  rotate_left
  · intro w hSw
    obtain ⟨hs0, hs2, hs4⟩ := hSw
    go_simp
    first | done | with_reducible rfl
  simp only [Act.put, List.setIfInBounds_toArray, List.set_cons_zero, List.set_cons_succ]
  refine wpAnyS_take (i := 2) (v := ?_) rfl (by kernel_rfl) (by kernel_rfl) (by kernel_rfl) (by kernel_rfl) (fun c a w => HP.out _ _ c a w) (Or.inl ⟨by rfl, ?_⟩) hHeld ?_
  rotate_left
  · intro w hSw
    obtain ⟨hs0, hs2, hs4⟩ := hSw
    go_simp
    first | done | with_reducible rfl
  simp only [Act.put, List.setIfInBounds_toArray, List.set_cons_zero, List.set_cons_succ]
  refine wpAnyS_take (i := 3) (v := ?_) rfl (by kernel_rfl) (by kernel_rfl) (by kernel_rfl) (by kernel_rfl) (fun c a w => HP.out _ _ c a w) (Or.inl ⟨by rfl, ?_⟩) hHeld ?_
  rotate_left
  · intro w hSw
    obtain ⟨hs0, hs2, hs4⟩ := hSw
    go_simp
    first | done | with_reducible rfl
  simp only [Act.put, List.setIfInBounds_toArray, List.set_cons_zero, List.set_cons_succ]
  refine wpAnyS_take (i := 4) (v := ?_) rfl (by kernel_rfl) (by kernel_rfl) (by kernel_rfl) (by kernel_rfl) (fun c a w => HP.out _ _ c a w) (Or.inl ⟨by rfl, ?_⟩) hHeld ?_
  rotate_left
  · intro w hSw
    obtain ⟨hs0, hs2, hs4⟩ := hSw
    go_simp
    first | done | with_reducible rfl
  simp only [Act.put, List.setIfInBounds_toArray, List.set_cons_zero, List.set_cons_succ]
  refine wpAnyS_take (i := 5) (v := ?_) rfl (by kernel_rfl) (by kernel_rfl) (by kernel_rfl) (by kernel_rfl) (fun c a w => HP.out _ _ c a w) (Or.inl ⟨by rfl, ?_⟩) hHeld ?_
  rotate_left
  · intro w hSw
    obtain ⟨hs0, hs2, hs4⟩ := hSw
    go_simp
    first | done | with_reducible rfl
  simp only [Act.put, List.setIfInBounds_toArray, List.set_cons_zero, List.set_cons_succ]
  refine wpAnyS_take (i := 6) (v := ?_) rfl (by kernel_rfl) (by kernel_rfl) (by kernel_rfl) (by kernel_rfl) (fun c a w => HP.out _ _ c a w) (Or.inl ⟨by rfl, ?_⟩) hHeld ?_
  rotate_left
  · intro w hSw
    obtain ⟨hs0, hs2, hs4⟩ := hSw
    go_simp
    first | done | with_reducible rfl
  simp only [Act.put, List.setIfInBounds_toArray, List.set_cons_zero, List.set_cons_succ]
  refine wpAnyS_take (i := 7) (v := ?_) rfl (by kernel_rfl) (by kernel_rfl) (by kernel_rfl) (by kernel_rfl) (fun c a w => HP.out _ _ c a w) (Or.inl ⟨by rfl, ?_⟩) hHeld ?_
  rotate_left
  · intro w hSw
    obtain ⟨hs0, hs2, hs4⟩ := hSw
    go_simp
    first | done | with_reducible rfl
  simp only [Act.put, List.setIfInBounds_toArray, List.set_cons_zero, List.set_cons_succ]
  refine wpAnyS_take (i := 8) (v := ?_) rfl (by kernel_rfl) (by kernel_rfl) (by kernel_rfl) (by kernel_rfl) (fun c a w => HP.out _ _ c a w) (Or.inl ⟨by rfl, ?_⟩) hHeld ?_
  rotate_left
  · intro w hSw
    obtain ⟨hs0, hs2, hs4⟩ := hSw
    go_simp
    first | done | with_reducible rfl
  simp only [Act.put, List.setIfInBounds_toArray, List.set_cons_zero, List.set_cons_succ]
  obtain ⟨_, _, q4⟩ := hHeld
  refine wpAnyS_ready (rs := [9]) (by kernel_rfl) (by simp) ?_
  refine AllReadyS.cons rfl (fun K hK => ?_) AllReadyS.nil
  go_simp
  refine hK.out _ _ (fun h => absurd h (by decide)) ?_
  refine wpAnyS_done (by kernel_rfl) ?_ _
  obtain ⟨o1, o3⟩ := h4.cut (.slice Ao os.length co) rfl
  exact HN.out _ _ (hko4.trans (KeepsOthers.setCell _ _ _)) (o3 _ _ _ hbB hbn4) o1
end
end Go.Proofs.Ytlmbffnmjfbglab
