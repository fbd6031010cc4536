/- Regions of PlanLess: a module and offsets without one partition. -/
import Derived.Test.YtlmbffnmjfbglabK1
set_option linter.unusedSimpArgs false
set_option linter.unusedVariables false
namespace Go.Proofs.Ytlmbffnmjfbglab
open Go.ChangeShapes Go.WideShapes Go.ChangeAt Go.RowKit

/-- a region of PlanLess. -/
noncomputable def reg8 (id : Nat) : Code := (Try.f8.body.bind (regAt id)).getD .skip
theorem slice_from28 (A : Option Addr) (n k co : Nat) (h : k ≤ n) (hc : n ≤ co) (W : World) : (Instr.sliceAt 28 (.slice A n co) (some (.int .i64 k)) none none).run Try.prog W = .ok (.slice (fromA 1 A k co) (n - k) (co - k)) W := by
  have h0 : (0 : Int) ≤ (k : Int) := by omega
  have h1 : (k : Int) ≤ (n : Int) := by omega
  have h2 : (n : Int) ≤ (co : Int) := by omega
  have h3 : (co - k = 0) ↔ co = k := by omega
  simp [go_sem, h0, h1, h2, sliced, fromA, h3]
theorem slice_to22' (A : Option Addr) (m n co : Nat) (h : n ≤ co) (W : World) : (Instr.sliceAt 22 (.slice A m co) none (some (.int .i64 n)) none).run Try.prog W = .ok (.slice A n co) W := by
  have h0 : (0 : Int) ≤ (n : Int) := by omega
  have h1 : (n : Int) ≤ (co : Int) := by omega
  simp [go_sem, h0, h1, sliced, map_add_zero]
theorem slice_from22 (A : Option Addr) (n k co : Nat) (h : k ≤ n) (hc : n ≤ co) (W : World) : (Instr.sliceAt 22 (.slice A n co) (some (.int .i64 k)) none none).run Try.prog W = .ok (.slice (fromA 10 A k co) (n - k) (co - k)) W := by
  have h0 : (0 : Int) ≤ (k : Int) := by omega
  have h1 : (k : Int) ≤ (n : Int) := by omega
  have h2 : (n : Int) ≤ (co : Int) := by omega
  have h3 : (co - k = 0) ↔ co = k := by omega
  simp [go_sem, h0, h1, h2, sliced, fromA, h3]
theorem Part.cells_len (p : Part) : p.cells.length = 10 := rfl
theorem parts_len (l : List Part) : (l.flatMap Part.cells).length = l.length * 10 := by
  induction l with
  | nil => rfl
  | cons x l ih => rw [List.flatMap_cons, List.length_append, ih, Part.cells_len, List.length_cons]; omega
theorem parts_get : ∀ (l : List Part) (i : Nat) (hi : i < l.length) (j : Nat), j < 10 → (l.flatMap Part.cells)[i * 10 + j]? = l[i].cells[j]?
  | [], i, hi, _, _ => by simp at hi
  | x :: l, 0, _, j, hj => by
    rw [List.flatMap_cons, Nat.zero_mul, Nat.zero_add, List.getElem?_append_left (by rw [Part.cells_len]; exact hj)]
    rfl
  | x :: l, i + 1, hi, j, hj => by
    rw [List.flatMap_cons, List.getElem?_append_right (by rw [Part.cells_len]; omega), Part.cells_len, show (i + 1) * 10 + j - 10 = i * 10 + j by omega]
    exact parts_get l i (by simpa using hi) j hj
theorem rdPart_reads {w : World} {B : Nat} {A : Option Addr} {l : List Part} (h : RdPart w B A l) : Reads w B 10 A l.length (l.flatMap Part.cells) :=
  ⟨parts_len l, fun hn => by
    obtain ⟨b, o, rfl, hb, hc⟩ := h hn
    refine ⟨_, rfl, hb, fun j u hu => ?_⟩
    have hj : j < l.length * 10 := by rw [← parts_len]; exact (List.getElem?_eq_some_iff.1 hu).1
    obtain ⟨i, r, hr, rfl⟩ : ∃ i r, r < 10 ∧ j = i * 10 + r := ⟨j / 10, j % 10, by omega, by omega⟩
    rw [parts_get l i (by omega) r hr] at hu
    rw [add_none, ← Nat.add_assoc]
    exact hc i (by omega) r u hu⟩
theorem parts_one (l : List Part) : ∀ u ∈ l.flatMap Part.cells, u.oneCell' = true := fun u hu => by
  obtain ⟨x, _, hx⟩ := List.mem_flatMap.1 hu
  simp only [Part.cells, List.mem_cons, List.not_mem_nil, or_false] at hx
  rcases hx with rfl | rfl | rfl | rfl | rfl | rfl | rfl | rfl | rfl | rfl <;> rfl
theorem rdPart_own {w : World} {base : Nat} {v : Value} {l : List Part} (h : w.ownsRow base 56 10 v l.length (l.flatMap Part.cells)) : ∃ A c, v = .slice A l.length c ∧ l.length ≤ c ∧ c ≤ maxLen ∧ RdPart w w.heap.size A l := by
  rcases h.2 with ⟨rfl, h0⟩ | ⟨g, cap, cur, rfl, hb, hg, h1, h2, _⟩
  · exact ⟨none, 0, by rw [h0], by omega, by simp [maxLen], fun hn => by omega⟩
  · refine ⟨_, cap, rfl, h1, h2, fun hn => ⟨g, 0, rfl, (Array.getElem?_eq_some_iff.1 hg).1, fun i hi j v hv => ?_⟩⟩
    have hj : j < 10 := by have := (List.getElem?_eq_some_iff.1 hv).1; rw [Part.cells_len] at this; exact this
    have := h.cells (g := g) rfl (i * 10 + j) v (by rw [parts_get l i hi j hj]; exact hv)
    rw [add_none] at this
    rw [Nat.zero_add]
    simpa using this
theorem parts_take (l : List Part) (k : Nat) : (l.flatMap Part.cells).take (k * 10) = (l.take k).flatMap Part.cells := by
  induction l generalizing k with
  | nil => simp
  | cons x L ih =>
    match k with
    | 0 => simp
    | n + 1 =>
      rw [List.take_succ_cons, List.flatMap_cons, List.flatMap_cons, ← ih n, List.take_append, Part.cells_len, show (n + 1) * 10 - 10 = n * 10 by omega, List.take_of_length_le (by rw [Part.cells_len]; omega)]
theorem parts_drop (l : List Part) (k : Nat) : (l.flatMap Part.cells).drop (k * 10) = (l.drop k).flatMap Part.cells := by
  induction l generalizing k with
  | nil => simp
  | cons x L ih =>
    match k with
    | 0 => simp
    | n + 1 =>
      rw [List.drop_succ_cons, List.flatMap_cons, ← ih n, List.drop_append, Part.cells_len, show (n + 1) * 10 - 10 = n * 10 by omega, List.drop_of_length_le (by rw [Part.cells_len]; omega)]
      rfl
theorem own_slice {w : World} {base size n : Nat} {e : TypeId} {v : Value} {xs : List Value} (h : w.ownsRow base e size v n xs) : ∃ A c, v = .slice A n c := by
  rcases h.2 with ⟨rfl, rfl⟩ | ⟨g, cap, _, rfl, _⟩
  · exact ⟨none, 0, rfl⟩
  · exact ⟨_, cap, rfl⟩
theorem info56 : (Try.prog.info? 56).map (fun i => (i.zero, i.size, i.bytes)) = some (some (.agg #[.string ⟨#[]⟩, .int .i64 0, .int .i64 0, .int .i64 0, .slice none 0 0, .int .i64 0, .int .i64 0, .slice none 0 0, .slice none 0 0, .slice none 0 0]), 10, 152) := by kernel_rfl

section
attribute [-go_sem] run_sliceAt_slice
set_option maxRecDepth 100000 in
set_option maxHeartbeats 4000000 in
theorem reg8_11_c (os : List Int) (Ao : Option Addr) (co k : Nat) (W : World) (hk : k < os.length) (hco : os.length ≤ co) (hlen : os.length ≤ 16384) (hr : Reads W W.heap.size 1 Ao os.length (os.map (Value.int .i64))) {x0 x1 x2 x3 x4 x6 x7 x9 x10 x11 x12 x13 x14 x15 x16 x17 x18 x19 x20 x21 x22 x23 x24 x25 x26 x27 x28 x29 x30 x31 x32 x33 x34 x35 x36 x37 x38 x39 x40 x41 x42 x43 x44 x45 x46 x47 x48 x49 x50 x51 x52 x53 x54 x55 x56 x57 x58 x59 x60 x61 x62 x63 x64 x65 x66 x67 x68 x69 x70 x71 x72 x73 x74 x75 x76 x77 x78 x79 x80 x81 x82 x83 x84 x85 x86 x87 x88 x89 x90 x91 x92 x93 x94 x95 x96 x97 x98 x99 x100 x101 x102 x103 x104 x105 x106 x107 x108 x109 x110 x111 x112 x113 : Value} (Q : Exit → Act → World → Prop) (hP0 : ∀ d v c a w, Q (.panic c) (Act.put a d v) w → Q (.panic c) a w)
    (hN : ∀ y55 y56 y57 y58 y59 y60 y61 y62 y63 y64 V W', Below W.heap.size W W' → W'.ownsRow W.heap.size 3 1 V (os.length - 1) ((os.eraseIdx k).map (Value.int .i64)) → Q .normal { tmps := List.toArray (x0 :: x1 :: x2 :: x3 :: x4 :: Value.slice Ao os.length co :: x6 :: x7 :: Value.int .i64 k :: x9 :: V :: x11 :: x12 :: x13 :: x14 :: x15 :: x16 :: x17 :: x18 :: x19 :: x20 :: x21 :: x22 :: x23 :: x24 :: x25 :: x26 :: x27 :: x28 :: x29 :: x30 :: x31 :: x32 :: x33 :: x34 :: x35 :: x36 :: x37 :: x38 :: x39 :: x40 :: x41 :: x42 :: x43 :: x44 :: x45 :: x46 :: x47 :: x48 :: x49 :: x50 :: x51 :: x52 :: x53 :: x54 :: y55 :: y56 :: y57 :: y58 :: y59 :: y60 :: y61 :: y62 :: y63 :: y64 :: x65 :: x66 :: x67 :: x68 :: x69 :: x70 :: x71 :: x72 :: x73 :: x74 :: x75 :: x76 :: x77 :: x78 :: x79 :: x80 :: x81 :: x82 :: x83 :: x84 :: x85 :: x86 :: x87 :: x88 :: x89 :: x90 :: x91 :: x92 :: x93 :: x94 :: x95 :: x96 :: x97 :: x98 :: x99 :: x100 :: x101 :: x102 :: x103 :: x104 :: x105 :: x106 :: x107 :: x108 :: x109 :: x110 :: x111 :: x112 :: x113 :: []), defers := [] } W') :
    (reg8 11).wp Try.prog Q { tmps := List.toArray (x0 :: x1 :: x2 :: x3 :: x4 :: Value.slice Ao os.length co :: x6 :: x7 :: Value.int .i64 k :: x9 :: x10 :: x11 :: x12 :: x13 :: x14 :: x15 :: x16 :: x17 :: x18 :: x19 :: x20 :: x21 :: x22 :: x23 :: x24 :: x25 :: x26 :: x27 :: x28 :: x29 :: x30 :: x31 :: x32 :: x33 :: x34 :: x35 :: x36 :: x37 :: x38 :: x39 :: x40 :: x41 :: x42 :: x43 :: x44 :: x45 :: x46 :: x47 :: x48 :: x49 :: x50 :: x51 :: x52 :: x53 :: x54 :: x55 :: x56 :: x57 :: x58 :: x59 :: x60 :: x61 :: x62 :: x63 :: x64 :: x65 :: x66 :: x67 :: x68 :: x69 :: x70 :: x71 :: x72 :: x73 :: x74 :: x75 :: x76 :: x77 :: x78 :: x79 :: x80 :: x81 :: x82 :: x83 :: x84 :: x85 :: x86 :: x87 :: x88 :: x89 :: x90 :: x91 :: x92 :: x93 :: x94 :: x95 :: x96 :: x97 :: x98 :: x99 :: x100 :: x101 :: x102 :: x103 :: x104 :: x105 :: x106 :: x107 :: x108 :: x109 :: x110 :: x111 :: x112 :: x113 :: []), defers := [] } W := by
  obtain ⟨i0, hi0, hz0, hz1, hz2⟩ := info_parts info3
  have hr1 : Reads W W.heap.size 1 Ao k ((os.take k).map (Value.int .i64)) := by have := hr.first (k := k) (by omega); rw [Nat.mul_one, ← List.map_take] at this; exact this
  obtain ⟨A9, hA9⟩ : ∃ A9, A9 = fromA 1 Ao (k + 1) co := ⟨_, rfl⟩
  have hr2 : Reads W W.heap.size 1 A9 (os.length - (k + 1)) ((os.drop (k + 1)).map (Value.int .i64)) := by have := hr.cut (k := k + 1) (by omega) hco; rw [Nat.mul_one, ← List.map_drop] at this; rw [hA9]; unfold fromA; rw [Nat.mul_one]; exact this
  have hsl1 : ∀ W, (Instr.sliceAt 28 (.slice Ao os.length co) none (some (.int .i64 (k : Int))) none).run Try.prog W = .ok (.slice Ao k co) W := fun W => slice_to Ao os.length k co (by omega) W
  have hsl2 : ∀ W, (Instr.sliceAt 28 (.slice Ao os.length co) (some (.int .i64 ((k : Int) + 1))) none none).run Try.prog W = .ok (.slice A9 (os.length - (k + 1)) (co - (k + 1))) W := fun W => by have := slice_from28 Ao os.length (k + 1) co (by omega) hco W; rw [hA9]; simpa using this
  have hwr := IntWalk.i64_in ((k : Int) + 1) (by omega)
  refine wp_region_S (fun _ => True) 10 (by kernel_rfl) trivial (fun hHeld => ?_)
  have hWW : ∀ W', Below W.drew.heap.size W.drew W' → Below W.heap.size W W' := fun W' hb => ((Below.refl _ W).drew).trans hb
  have HS : Hid (∀ W', Below W.drew.heap.size W.drew W' → True) := Lib.hid fun _ _ => trivial
  have HW := Lib.hid hWW
  have HP := Lib.hid hP0
  have HN := Lib.hid hN
  have HR1 : Hid (Reads W.drew W.drew.heap.size 1 Ao k ((os.take k).map (Value.int .i64))) := Lib.hid hr1
  have HR2 : Hid (Reads W.drew W.drew.heap.size 1 A9 (os.length - (k + 1)) ((os.drop (k + 1)).map (Value.int .i64))) := Lib.hid hr2
  obtain ⟨B0, hB0⟩ : ∃ B0, W.drew.heap.size = B0 := ⟨_, rfl⟩
  have HB0 := Lib.hid hB0
  clear hWW hP0 hN hr1 hr2 hr hB0 hA9
  rw [show W.heap.size = W.drew.heap.size from rfl] at HN HW
  generalize W.drew = W4 at *
  have hbc : Below W4.heap.size W4 W4 := Below.refl _ _
  refine wpAnyS_take (i := 1) (v := ?_) rfl (by kernel_rfl) (by kernel_rfl) (by kernel_rfl) (by kernel_rfl) (fun c a w => HP.out _ _ c a w) (Or.inl ⟨by rfl, ?_⟩) hHeld ?_
  rotate_left
  · intro w hSw
    (try dsimp only at hSw)
    go_simp
    first | done | with_reducible rfl
  simp only [Act.put, List.setIfInBounds_toArray, List.set_cons_zero, List.set_cons_succ]
  refine wpAnyS_take (i := 2) (v := ?_) rfl (by kernel_rfl) (by kernel_rfl) (by kernel_rfl) (by kernel_rfl) (fun c a w => HP.out _ _ c a w) (Or.inl ⟨by rfl, ?_⟩) hHeld ?_
  rotate_left
  · intro w hSw
    (try dsimp only at hSw)
    go_simp
    first | done | with_reducible rfl
  simp only [Act.put, List.setIfInBounds_toArray, List.set_cons_zero, List.set_cons_succ]
  refine wpAnyS_take (i := 3) (v := ?_) rfl (by kernel_rfl) (by kernel_rfl) (by kernel_rfl) (by kernel_rfl) (fun c a w => HP.out _ _ c a w) (Or.inl ⟨by rfl, ?_⟩) hHeld ?_
  rotate_left
  · intro w hSw
    (try dsimp only at hSw)
    go_simp
    first | done | with_reducible rfl
  simp only [Act.put, List.setIfInBounds_toArray, List.set_cons_zero, List.set_cons_succ]
  refine wpAnyS_take (i := 5) (v := ?_) rfl (by kernel_rfl) (by kernel_rfl) (by kernel_rfl) (by kernel_rfl) (fun c a w => HP.out _ _ c a w) (Or.inl ⟨by rfl, ?_⟩) hHeld ?_
  rotate_left
  · intro w hSw
    (try dsimp only at hSw)
    go_simp
    first | done | with_reducible rfl
  simp only [Act.put, List.setIfInBounds_toArray, List.set_cons_zero, List.set_cons_succ]
  refine wpAnyS_take (i := 6) (v := ?_) rfl (by kernel_rfl) (by kernel_rfl) (by kernel_rfl) (by kernel_rfl) (fun c a w => HP.out _ _ c a w) (Or.inl ⟨by rfl, ?_⟩) hHeld ?_
  rotate_left
  · intro w hSw
    (try dsimp only at hSw)
    go_simp
    first | done | with_reducible rfl
  simp only [Act.put, List.setIfInBounds_toArray, List.set_cons_zero, List.set_cons_succ]
  refine wpAnyS_take (i := 7) (v := ?_) rfl (by kernel_rfl) (by kernel_rfl) (by kernel_rfl) (by kernel_rfl) (fun c a w => HP.out _ _ c a w) (Or.inl ⟨by rfl, ?_⟩) hHeld ?_
  rotate_left
  · intro w hSw
    (try dsimp only at hSw)
    go_simp
    first | done | with_reducible rfl
  simp only [Act.put, List.setIfInBounds_toArray, List.set_cons_zero, List.set_cons_succ]
  refine wpAnyS_take (i := 8) (v := ?_) rfl (by kernel_rfl) (by kernel_rfl) (by kernel_rfl) (by kernel_rfl) (fun c a w => HP.out _ _ c a w) (Or.inl ⟨by rfl, ?_⟩) hHeld ?_
  rotate_left
  · intro w hSw
    (try dsimp only at hSw)
    go_simp
    first | done | with_reducible rfl
  simp only [Act.put, List.setIfInBounds_toArray, List.set_cons_zero, List.set_cons_succ]
  refine wpAnyS_ready (rs := [0]) (by kernel_rfl) (by simp) ?_
  refine AllReadyS.cons rfl (fun K hK => ?_) AllReadyS.nil
  go_simp
  have hx : Below W4.heap.size W4 (W4.alloc (.cells #[] 3)) := (Below.refl _ _).alloc (Nat.le_refl _) _
  have hown : (W4.alloc (.cells #[] 3)).ownsRow B0 3 1 (.slice (some ⟨W4.heap.size, 0, none⟩) 0 0) 0 [] := World.ownsRow_made W4 #[] 0 (by have := hbc.size; have := HB0.out; omega) (by simp [maxLen]) (by simp)
  have hEB : B0 ≤ W4.heap.size := by have := hbc.size; have := HB0.out; omega
  replace hbc := hbc.trans (hx.mono hbc.size)
  have hsN := HS.out _ hbc
  refine hK.out _ _ (fun _ => hsN) ?_
  clear hK hx
  generalize hE : W4.heap.size = E at hown hEB ⊢
  clear hE
  generalize W4.alloc (.cells #[] 3) = W5 at *
  try simp only [Act.put, List.setIfInBounds_toArray, List.set_cons_zero, List.set_cons_succ]
  refine wpAnyS_ready (rs := [4]) (by kernel_rfl) (by simp) ?_
  refine AllReadyS.cons rfl (fun K hK => ?_) AllReadyS.nil
  refine step_append_any _ (by rfl) (.tmp 55) (.tmp 58) 28 (by rfl) B0 3 i0 _ 1 8 Try.underlying28 hi0 hz0 hz1 hz2 (by rfl) (by decide) (.slice (some ⟨E, 0, none⟩) 0 0) 0 [] (by rfl) hown W5.heap.size Ao k co ((os.take k).map (Value.int .i64)) (by rfl) ((HR1.out.below hbc).more hbc.size) (ints_one _) (by unfold maxLen; omega) (by omega) (by have := hbc.size; have := HB0.out; omega) ?_
  intro v W6 hown3 hgr3 hat3
  replace hown : W6.ownsRow B0 3 1 v (k) ((os.take k).map (Value.int .i64)) := by simpa using hown3
  replace hbc : Below W4.heap.size W4 W6 := hbc.grown hgr3 hbc.size (fun k hk => by simp [Value.ownBlock] at hk; have := HB0.out; omega)
  refine hK.out _ _ (fun _ => HS.out _ hbc) ?_
  clear hK hown3 hgr3 hat3 hEB hsN
  try simp only [Act.put, List.setIfInBounds_toArray, List.set_cons_zero, List.set_cons_succ]
  refine wpAnyS_ready (rs := [9]) (by kernel_rfl) (by simp) ?_
  refine AllReadyS.cons rfl (fun K hK => ?_) AllReadyS.nil
  refine step_append_any _ (by rfl) (.tmp 59) (.tmp 63) 28 (by rfl) B0 3 i0 _ 1 8 Try.underlying28 hi0 hz0 hz1 hz2 (by rfl) (by decide) v (k) _ (by rfl) hown W6.heap.size A9 (os.length - (k + 1)) (co - (k + 1)) ((os.drop (k + 1)).map (Value.int .i64)) (by rfl) ((HR2.out.below hbc).more hbc.size) (ints_one _) (by unfold maxLen; omega) (by omega) (by have := hbc.size; have := HB0.out; omega) ?_
  intro V W7 hown3 hgr3 hat3
  have hbc3 : Below W4.heap.size W4 W7 := hbc.grown hgr3 hbc.size (fun k hk => by have := (hown.lt k hk).1; have := HB0.out; omega)
  have hsN := HS.out _ hbc3
  refine hK.out _ _ (fun _ => hsN) ?_
  have hfin : W7.ownsRow B0 3 1 V (os.length - 1) ((os.eraseIdx k).map (Value.int .i64)) := by
    have e1 : k + (os.length - (k + 1)) = os.length - 1 := by omega
    rw [e1] at hown3
    simpa [List.eraseIdx_eq_take_drop_succ] using hown3
  clear hK hown hown3 hgr3 hat3 hbc
  try simp only [Act.put, List.setIfInBounds_toArray, List.set_cons_zero, List.set_cons_succ]
  refine wpAnyS_ready (rs := [10]) (by kernel_rfl) (by simp) ?_
  refine AllReadyS.cons rfl (fun K hK => ?_) AllReadyS.nil
  go_simp
  refine hK.out _ _ (fun h => absurd h (by decide)) ?_
  refine wpAnyS_done (by kernel_rfl) ?_ _
  clear hK
  exact HN.out _ _ _ _ _ _ _ _ _ _ V W7 (HW.out _ hbc3) (HB0.out ▸ hfin)
set_option maxRecDepth 100000 in
set_option maxHeartbeats 4000000 in
theorem reg8_10_c (ps : List Part) (A : Option Addr) (c k B2 B9 : Nat) {cs2 cs9 : Array Value} (W : World) (hk : k < ps.length) (hc : ps.length ≤ c) (hlen : ps.length ≤ 6) (hr : Reads W W.heap.size 10 A ps.length (ps.flatMap Part.cells)) (hb2 : Blk W B2 24 cs2) (hq2 : cs2[3]? = some (.slice A ps.length c)) (hb9 : Blk W B9 24 cs9) (hq9 : cs9[3]? = some (.slice A ps.length c)) {x0 x1 x3 x4 x5 x6 x7 x10 x11 x12 x13 x14 x15 x16 x17 x18 x19 x20 x21 x22 x23 x24 x25 x26 x27 x28 x29 x30 x31 x32 x33 x34 x35 x36 x37 x38 x39 x40 x41 x42 x43 x44 x45 x46 x47 x48 x49 x50 x51 x52 x53 x54 x55 x56 x57 x58 x59 x60 x61 x62 x63 x64 x65 x66 x67 x68 x69 x70 x71 x72 x73 x74 x75 x76 x77 x78 x79 x80 x81 x82 x83 x84 x85 x86 x87 x88 x89 x90 x91 x92 x93 x94 x95 x96 x97 x98 x99 x100 x101 x102 x103 x104 x105 x106 x107 x108 x109 x110 x111 x112 x113 : Value} (Q : Exit → Act → World → Prop) (hP0 : ∀ d v c a w, Q (.panic c) (Act.put a d v) w → Q (.panic c) a w)
    (hN : ∀ y42 y43 y44 y45 y46 y47 y48 y49 y50 y51 y52 y53 y54 V W', Below W.heap.size W W' → W'.ownsRow W.heap.size 56 10 V (ps.length - 1) ((ps.eraseIdx k).flatMap Part.cells) → Q .normal { tmps := List.toArray (x0 :: x1 :: Value.pointer (some ⟨B2, 0, none⟩) :: x3 :: x4 :: x5 :: x6 :: x7 :: Value.int .i64 k :: Value.pointer (some ⟨B9, 0, none⟩) :: x10 :: x11 :: x12 :: x13 :: x14 :: x15 :: x16 :: x17 :: x18 :: x19 :: x20 :: x21 :: x22 :: x23 :: x24 :: x25 :: x26 :: x27 :: x28 :: x29 :: x30 :: x31 :: x32 :: x33 :: x34 :: x35 :: x36 :: x37 :: x38 :: x39 :: x40 :: x41 :: y42 :: y43 :: y44 :: y45 :: y46 :: y47 :: y48 :: y49 :: y50 :: y51 :: y52 :: y53 :: y54 :: x55 :: x56 :: x57 :: x58 :: x59 :: x60 :: x61 :: x62 :: x63 :: x64 :: x65 :: x66 :: x67 :: x68 :: x69 :: x70 :: x71 :: x72 :: x73 :: x74 :: x75 :: x76 :: x77 :: x78 :: x79 :: x80 :: x81 :: x82 :: x83 :: x84 :: x85 :: x86 :: x87 :: x88 :: x89 :: x90 :: x91 :: x92 :: x93 :: x94 :: x95 :: x96 :: x97 :: x98 :: x99 :: x100 :: x101 :: x102 :: x103 :: x104 :: x105 :: x106 :: x107 :: x108 :: x109 :: x110 :: x111 :: x112 :: x113 :: []), defers := [] } (W'.setCell ⟨B9, 3, none⟩ V)) :
    (reg8 10).wp Try.prog Q { tmps := List.toArray (x0 :: x1 :: Value.pointer (some ⟨B2, 0, none⟩) :: x3 :: x4 :: x5 :: x6 :: x7 :: Value.int .i64 k :: Value.pointer (some ⟨B9, 0, none⟩) :: x10 :: x11 :: x12 :: x13 :: x14 :: x15 :: x16 :: x17 :: x18 :: x19 :: x20 :: x21 :: x22 :: x23 :: x24 :: x25 :: x26 :: x27 :: x28 :: x29 :: x30 :: x31 :: x32 :: x33 :: x34 :: x35 :: x36 :: x37 :: x38 :: x39 :: x40 :: x41 :: x42 :: x43 :: x44 :: x45 :: x46 :: x47 :: x48 :: x49 :: x50 :: x51 :: x52 :: x53 :: x54 :: x55 :: x56 :: x57 :: x58 :: x59 :: x60 :: x61 :: x62 :: x63 :: x64 :: x65 :: x66 :: x67 :: x68 :: x69 :: x70 :: x71 :: x72 :: x73 :: x74 :: x75 :: x76 :: x77 :: x78 :: x79 :: x80 :: x81 :: x82 :: x83 :: x84 :: x85 :: x86 :: x87 :: x88 :: x89 :: x90 :: x91 :: x92 :: x93 :: x94 :: x95 :: x96 :: x97 :: x98 :: x99 :: x100 :: x101 :: x102 :: x103 :: x104 :: x105 :: x106 :: x107 :: x108 :: x109 :: x110 :: x111 :: x112 :: x113 :: []), defers := [] } W := by
  obtain ⟨i0, hi0, hz0, hz1, hz2⟩ := info_parts info56
  have hr1 : Reads W W.heap.size 10 A k ((ps.take k).flatMap Part.cells) := by rw [← parts_take]; exact hr.first (by omega)
  obtain ⟨A9, hA9⟩ : ∃ A9, A9 = fromA 10 A (k + 1) c := ⟨_, rfl⟩
  have hr2 : Reads W W.heap.size 10 A9 (ps.length - (k + 1)) ((ps.drop (k + 1)).flatMap Part.cells) := by rw [hA9, ← parts_drop]; exact hr.cut (by omega) hc
  have hsl1 : ∀ W, (Instr.sliceAt 22 (.slice A ps.length c) none (some (.int .i64 (k : Int))) none).run Try.prog W = .ok (.slice A k c) W := fun W => slice_to22' A ps.length k c (by omega) W
  have hsl2 : ∀ W, (Instr.sliceAt 22 (.slice A ps.length c) (some (.int .i64 ((k : Int) + 1))) none none).run Try.prog W = .ok (.slice A9 (ps.length - (k + 1)) (c - (k + 1))) W := fun W => by have := slice_from22 A ps.length (k + 1) c (by omega) hc W; rw [hA9]; simpa using this
  have hwr := IntWalk.i64_in ((k : Int) + 1) (by omega)
  refine wp_region_S (fun W' => W'.cell? ⟨B2, 3, none⟩ = some (.slice A ps.length c) ∧ W'.cell? ⟨B9, 3, none⟩ = some (.slice A ps.length c) ∧ W'.frozen? ⟨B9, 3, none⟩ = false) 13 (by kernel_rfl) ⟨(hb2.cell 3).trans hq2, (hb9.cell 3).trans hq9, hb9.frozen 3⟩ (fun hHeld => ?_)
  have hWW : ∀ W', Below W.drew.heap.size W.drew W' → Below W.heap.size W W' := fun W' hb => ((Below.refl _ W).drew).trans hb
  have hS4 : ∀ W', Below W.drew.heap.size W.drew W' → (fun W' => W'.cell? ⟨B2, 3, none⟩ = some (.slice A ps.length c) ∧ W'.cell? ⟨B9, 3, none⟩ = some (.slice A ps.length c) ∧ W'.frozen? ⟨B9, 3, none⟩ = false) W' := fun W' hb => ⟨((hb2.drew.below hb hb2.lt).cell 3).trans hq2, ((hb9.drew.below hb hb9.lt).cell 3).trans hq9, (hb9.drew.below hb hb9.lt).frozen 3⟩
  have HS := Lib.hid hS4
  have HW := Lib.hid hWW
  have HP := Lib.hid hP0
  have HN := Lib.hid hN
  have HR1 : Hid (Reads W.drew W.drew.heap.size 10 A k ((ps.take k).flatMap Part.cells)) := Lib.hid hr1
  have HR2 : Hid (Reads W.drew W.drew.heap.size 10 A9 (ps.length - (k + 1)) ((ps.drop (k + 1)).flatMap Part.cells)) := Lib.hid hr2
  obtain ⟨B0, hB0⟩ : ∃ B0, W.drew.heap.size = B0 := ⟨_, rfl⟩
  have HB0 := Lib.hid hB0
  clear hWW hS4 hP0 hN hr1 hr2 hr hB0 hA9 hb2 hb9 hq2 hq9
  rw [show W.heap.size = W.drew.heap.size from rfl] at HN HW
  generalize W.drew = W4 at *
  have hbc : Below W4.heap.size W4 W4 := Below.refl _ _
  refine wpAnyS_take (i := 1) (v := ?_) rfl (by kernel_rfl) (by kernel_rfl) (by kernel_rfl) (by kernel_rfl) (fun c a w => HP.out _ _ c a w) (Or.inl ⟨by rfl, ?_⟩) hHeld ?_
  rotate_left
  · intro w hSw
    obtain ⟨hs0, hs1, hs2⟩ := hSw
    go_simp
    first | done | with_reducible rfl
  simp only [Act.put, List.setIfInBounds_toArray, List.set_cons_zero, List.set_cons_succ]
  refine wpAnyS_take (i := 2) (v := ?_) rfl (by kernel_rfl) (by kernel_rfl) (by kernel_rfl) (by kernel_rfl) (fun c a w => HP.out _ _ c a w) (Or.inl ⟨by rfl, ?_⟩) hHeld ?_
  rotate_left
  · intro w hSw
    obtain ⟨hs0, hs1, hs2⟩ := hSw
    go_simp
    first | done | with_reducible rfl
  simp only [Act.put, List.setIfInBounds_toArray, List.set_cons_zero, List.set_cons_succ]
  refine wpAnyS_take (i := 3) (v := ?_) rfl (by kernel_rfl) (by kernel_rfl) (by kernel_rfl) (by kernel_rfl) (fun c a w => HP.out _ _ c a w) (Or.inl ⟨by rfl, ?_⟩) hHeld ?_
  rotate_left
  · intro w hSw
    obtain ⟨hs0, hs1, hs2⟩ := hSw
    go_simp
    first | done | with_reducible rfl
  simp only [Act.put, List.setIfInBounds_toArray, List.set_cons_zero, List.set_cons_succ]
  refine wpAnyS_take (i := 4) (v := ?_) rfl (by kernel_rfl) (by kernel_rfl) (by kernel_rfl) (by kernel_rfl) (fun c a w => HP.out _ _ c a w) (Or.inl ⟨by rfl, ?_⟩) hHeld ?_
  rotate_left
  · intro w hSw
    obtain ⟨hs0, hs1, hs2⟩ := hSw
    go_simp
    first | done | with_reducible rfl
  simp only [Act.put, List.setIfInBounds_toArray, List.set_cons_zero, List.set_cons_succ]
  refine wpAnyS_take (i := 6) (v := ?_) rfl (by kernel_rfl) (by kernel_rfl) (by kernel_rfl) (by kernel_rfl) (fun c a w => HP.out _ _ c a w) (Or.inl ⟨by rfl, ?_⟩) hHeld ?_
  rotate_left
  · intro w hSw
    obtain ⟨hs0, hs1, hs2⟩ := hSw
    go_simp
    first | done | with_reducible rfl
  simp only [Act.put, List.setIfInBounds_toArray, List.set_cons_zero, List.set_cons_succ]
  refine wpAnyS_take (i := 7) (v := ?_) rfl (by kernel_rfl) (by kernel_rfl) (by kernel_rfl) (by kernel_rfl) (fun c a w => HP.out _ _ c a w) (Or.inl ⟨by rfl, ?_⟩) hHeld ?_
  rotate_left
  · intro w hSw
    obtain ⟨hs0, hs1, hs2⟩ := hSw
    go_simp
    first | done | with_reducible rfl
  simp only [Act.put, List.setIfInBounds_toArray, List.set_cons_zero, List.set_cons_succ]
  refine wpAnyS_take (i := 8) (v := ?_) rfl (by kernel_rfl) (by kernel_rfl) (by kernel_rfl) (by kernel_rfl) (fun c a w => HP.out _ _ c a w) (Or.inl ⟨by rfl, ?_⟩) hHeld ?_
  rotate_left
  · intro w hSw
    obtain ⟨hs0, hs1, hs2⟩ := hSw
    go_simp
    first | done | with_reducible rfl
  simp only [Act.put, List.setIfInBounds_toArray, List.set_cons_zero, List.set_cons_succ]
  refine wpAnyS_take (i := 9) (v := ?_) rfl (by kernel_rfl) (by kernel_rfl) (by kernel_rfl) (by kernel_rfl) (fun c a w => HP.out _ _ c a w) (Or.inl ⟨by rfl, ?_⟩) hHeld ?_
  rotate_left
  · intro w hSw
    obtain ⟨hs0, hs1, hs2⟩ := hSw
    go_simp
    first | done | with_reducible rfl
  simp only [Act.put, List.setIfInBounds_toArray, List.set_cons_zero, List.set_cons_succ]
  refine wpAnyS_take (i := 10) (v := ?_) rfl (by kernel_rfl) (by kernel_rfl) (by kernel_rfl) (by kernel_rfl) (fun c a w => HP.out _ _ c a w) (Or.inl ⟨by rfl, ?_⟩) hHeld ?_
  rotate_left
  · intro w hSw
    obtain ⟨hs0, hs1, hs2⟩ := hSw
    go_simp
    first | done | with_reducible rfl
  simp only [Act.put, List.setIfInBounds_toArray, List.set_cons_zero, List.set_cons_succ]
  refine wpAnyS_ready (rs := [0]) (by kernel_rfl) (by simp) ?_
  refine AllReadyS.cons rfl (fun K hK => ?_) AllReadyS.nil
  go_simp
  have hx : Below W4.heap.size W4 (W4.alloc (.cells #[] 56)) := (Below.refl _ _).alloc (Nat.le_refl _) _
  have hown : (W4.alloc (.cells #[] 56)).ownsRow B0 56 10 (.slice (some ⟨W4.heap.size, 0, none⟩) 0 0) 0 [] := World.ownsRow_made W4 #[] 0 (by have := hbc.size; have := HB0.out; omega) (by simp [maxLen]) (by simp)
  have hEB : B0 ≤ W4.heap.size := by have := hbc.size; have := HB0.out; omega
  replace hbc := hbc.trans (hx.mono hbc.size)
  have hsN := HS.out _ hbc
  refine hK.out _ _ (fun _ => hsN) ?_
  clear hK hx
  generalize hE : W4.heap.size = E at hown hEB ⊢
  clear hE
  generalize W4.alloc (.cells #[] 56) = W5 at *
  try simp only [Act.put, List.setIfInBounds_toArray, List.set_cons_zero, List.set_cons_succ]
  refine wpAnyS_ready (rs := [5]) (by kernel_rfl) (by simp) ?_
  refine AllReadyS.cons rfl (fun K hK => ?_) AllReadyS.nil
  refine step_append_any _ (by rfl) (.tmp 42) (.tmp 46) 22 (by rfl) B0 56 i0 _ 10 152 Try.underlying22 hi0 hz0 hz1 hz2 (by rfl) (by decide) (.slice (some ⟨E, 0, none⟩) 0 0) 0 [] (by rfl) hown W5.heap.size A k c ((ps.take k).flatMap Part.cells) (by rfl) ((HR1.out.below hbc).more hbc.size) (parts_one _) (by unfold maxLen; omega) (by omega) (by have := hbc.size; have := HB0.out; omega) ?_
  intro v W6 hown3 hgr3 hat3
  replace hown : W6.ownsRow B0 56 10 v (k) ((ps.take k).flatMap Part.cells) := by simpa using hown3
  replace hbc : Below W4.heap.size W4 W6 := hbc.grown hgr3 hbc.size (fun k hk => by simp [Value.ownBlock] at hk; have := HB0.out; omega)
  refine hK.out _ _ (fun _ => HS.out _ hbc) ?_
  clear hK hown3 hgr3 hat3 hEB hsN
  try simp only [Act.put, List.setIfInBounds_toArray, List.set_cons_zero, List.set_cons_succ]
  refine wpAnyS_ready (rs := [11]) (by kernel_rfl) (by simp) ?_
  refine AllReadyS.cons rfl (fun K hK => ?_) AllReadyS.nil
  refine step_append_any _ (by rfl) (.tmp 47) (.tmp 52) 22 (by rfl) B0 56 i0 _ 10 152 Try.underlying22 hi0 hz0 hz1 hz2 (by rfl) (by decide) v (k) _ (by rfl) hown W6.heap.size A9 (ps.length - (k + 1)) (c - (k + 1)) ((ps.drop (k + 1)).flatMap Part.cells) (by rfl) ((HR2.out.below hbc).more hbc.size) (parts_one _) (by unfold maxLen; omega) (by omega) (by have := hbc.size; have := HB0.out; omega) ?_
  intro V W7 hown3 hgr3 hat3
  have hbc3 : Below W4.heap.size W4 W7 := hbc.grown hgr3 hbc.size (fun k hk => by have := (hown.lt k hk).1; have := HB0.out; omega)
  have hsN := HS.out _ hbc3
  refine hK.out _ _ (fun _ => hsN) ?_
  have hfin : W7.ownsRow B0 56 10 V (ps.length - 1) ((ps.eraseIdx k).flatMap Part.cells) := by
    have e1 : k + (ps.length - (k + 1)) = ps.length - 1 := by omega
    rw [e1] at hown3
    simpa [List.eraseIdx_eq_take_drop_succ] using hown3
  clear hK hown hown3 hgr3 hat3 hbc
  try simp only [Act.put, List.setIfInBounds_toArray, List.set_cons_zero, List.set_cons_succ]
  obtain ⟨A3, c3, rfl⟩ := own_slice hfin
  refine wpAnyS_ready (rs := [12]) (by kernel_rfl) (by simp) ?_
  refine AllReadyS.cons rfl (fun K hK => ?_) AllReadyS.nil
  go_simp
  refine hK.out _ _ (fun _ => hsN) ?_
  clear hK
  try simp only [Act.put, List.setIfInBounds_toArray, List.set_cons_zero, List.set_cons_succ]
  refine wpAnyS_ready (rs := [13]) (by kernel_rfl) (by simp) ?_
  refine AllReadyS.cons rfl (fun K hK => ?_) AllReadyS.nil
  obtain ⟨hs0, hs1, hs2⟩ := hsN
  go_simp
  refine hK.out _ _ (fun h => absurd h (by decide)) ?_
  refine wpAnyS_done (by kernel_rfl) ?_ _
  clear hK
  exact HN.out _ _ _ _ _ _ _ _ _ _ _ _ _ _ W7 (HW.out _ hbc3) (HB0.out ▸ hfin)
end
end Go.Proofs.Ytlmbffnmjfbglab
