/- PlanConflicts: Conflict names the first partition whose slot meets the slot of the offset, and none exactly if the offsets remain without a conflict; of any module, offsets and offset. -/
import Derived.Test.YtlmbffnmjfbglabU9
import Derived.Test.YtlmbffnmjfbglabSz
set_option linter.unusedSimpArgs false
set_option linter.unusedVariables false
namespace Go.Proofs.Ytlmbffnmjfbglab
open Go.ChangeShapes Go.WideShapes Go.ChangeAt Go.RowKit

theorem timesV_take {F : Int} {ps : List Part} {n : Nat} (h : timesV F ps = true) : timesV F (ps.take n) = true := by
  simp only [timesV, Bool.and_eq_true, decide_eq_true_iff, Bool.not_eq_true', List.any_eq_false] at h ⊢
  obtain ⟨h1, h2, h3, h4⟩ := h
  exact ⟨h1, h2, by simp; omega, fun p hp => h4 p (List.mem_of_mem_take hp)⟩
theorem zip_at {ps : List Part} {os : List Int} {x : Int} (hn : os.length < ps.length) (k : Nat) (hk : k < (zipS (os ++ [x]) (ps.take (os.length + 1))).length) :
    (zipS (os ++ [x]) (ps.take (os.length + 1)))[k] = pslot ps k ((os ++ [x]).getD k 0) ∧ k < os.length + 1 ∧ k < ps.length := by
  have hk2 : k < os.length + 1 := by simp [zipS] at hk; omega
  refine ⟨?_, hk2, by omega⟩
  rw [zipS_get _ _ k hk (by simp; omega) (by simp; omega)]
  have h1 : k < (os ++ [x]).length := by simp; omega
  simp [pslot, List.getD_eq_getElem?_getD, List.getElem?_eq_getElem h1, List.getElem?_eq_getElem (show k < ps.length by omega)]
theorem slots_ok {F : Int} {ps : List Part} {os : List Int} {x : Int} (hn : os.length < ps.length) (ht : timesV F ps = true) :
    prefixOk F ps (os ++ [x]) = decide ((slotsV F (ps.take (os.length + 1)) (os ++ [x])).2 = 0) := by
  have hlen : (zipS (os ++ [x]) (ps.take (os.length + 1))).length = os.length + 1 := by simp [zipS]; omega
  have hT := timesV_ok ht
  have key : ∀ k (hk : k < (zipS (os ++ [x]) (ps.take (os.length + 1))).length), validS (zipS (os ++ [x]) (ps.take (os.length + 1)))[k] = offOk ps (os ++ [x]) k := fun k hk => by
    obtain ⟨e, h1, h2⟩ := zip_at hn k hk
    rw [e]
    have hp := hT.per ps[k] (List.getElem_mem _)
    have hl := hT.len ps[k] (List.getElem_mem _)
    have hlp : lastP ps k = ps[k].period - ps[k].length := by simp [lastP, h2]
    rw [Bool.eq_iff_iff]
    simp only [validS, Slot.ok, pslot, offOk, hlp, decide_eq_true_eq, Bool.and_eq_true, List.getD_eq_getElem?_getD, List.getElem?_eq_getElem h2, Option.getD_some]
    omega
  unfold slotsV
  rw [timesV_take ht]
  have hl2 : (os ++ [x]).length = (ps.take (os.length + 1)).length := by simp; omega
  simp only [Bool.true_and, hl2, decide_true, if_true]
  unfold prefixOk
  rw [ht, decide_eq_true (show (os ++ [x]).length ≤ ps.length by simp; omega)]
  simp only [Bool.true_and]
  by_cases ha : (zipS (os ++ [x]) (ps.take (os.length + 1))).any (fun s => !validS s) = true
  · rw [if_pos ha]
    obtain ⟨s, hs, hv⟩ := List.any_eq_true.1 ha
    obtain ⟨k, hk, rfl⟩ := List.getElem_of_mem hs
    rw [key k hk] at hv
    rw [show (List.range (os ++ [x]).length).all (fun k => offOk ps (os ++ [x]) k) = false from List.all_eq_false.2 ⟨k, by simp; omega, by simpa using hv⟩]
    rfl
  · rw [if_neg ha]
    rw [show (List.range (os ++ [x]).length).all (fun k => offOk ps (os ++ [x]) k) = true from List.all_eq_true.2 fun k hk => by
      simp at hk
      have hk2 : k < (zipS (os ++ [x]) (ps.take (os.length + 1))).length := by omega
      rw [← key k hk2]
      rw [Bool.not_eq_true, List.any_eq_false] at ha
      simpa using ha _ (List.getElem_mem hk2)]
    rfl
theorem slots_list {F : Int} {ps : List Part} {os : List Int} (h : (slotsV F ps os).2 = 0) : (slotsV F ps os).1 = zipS os ps := by
  unfold slotsV at h ⊢
  split
  · rename_i h1
    rw [if_pos h1] at h
    split
    · rename_i h2
      rw [if_pos h2] at h
      simp at h
    · rfl
  · rename_i h1
    rw [if_neg h1] at h
    simp at h
theorem clash_zip {ps : List Part} {os : List Int} {x : Int} (hn : os.length < ps.length) (k : Nat) (hk : k < os.length) (h1 : k < (zipS (os ++ [x]) (ps.take (os.length + 1))).length) (h2 : os.length < (zipS (os ++ [x]) (ps.take (os.length + 1))).length) :
    disjB (zipS (os ++ [x]) (ps.take (os.length + 1)))[k] (zipS (os ++ [x]) (ps.take (os.length + 1)))[os.length] = !clashP ps os k x := by
  rw [(zip_at hn k h1).1, (zip_at hn os.length h2).1]
  unfold clashP
  rw [Bool.not_not]
  congr 1
  · simp [List.getD_eq_getElem?_getD, List.getElem?_append_left hk]
  · simp [List.getD_eq_getElem?_getD]
theorem slice_to22 (A : Option Addr) (m n co : Nat) (h : n ≤ co) (W : World) : (Instr.sliceAt 22 (.slice A m co) none (some (.int .i64 n)) none).run Try.prog W = .ok (.slice A n co) W := by
  have h0 : (0 : Int) ≤ (n : Int) := by omega
  have h1 : (n : Int) ≤ (co : Int) := by omega
  simp [go_sem, h0, h1, sliced, map_add_zero]

section
attribute [-go_sem] run_sliceAt_slice
set_option maxRecDepth 100000 in
set_option maxHeartbeats 4000000 in
theorem conflicts_walk (name : ByteArray) (mem F : Int) (ps : List Part) (A : Option Addr) (c : Nat) (os : List Int) (Ao : Option Addr) (co : Nat) (x : Int) (w : World) (h : RdPart w w.heap.size A ps) (ho : RdInt w w.heap.size Ao os) (hc : ps.length ≤ c) (hco : os.length ≤ co) (hl : ps.length * 8 ≤ 140737488355328) (hlo : os.length * 8 ≤ 140737488351232) :
    Calls Try.prog 5 #[.agg #[.string name, .int .i64 mem, .int .i64 F, .slice A ps.length c], .slice Ao os.length co, .int .i64 x] w fun e w' => e = .returned (.bool true) ∧ Below w.heap.size w w' := by
  have H := Lib.hid h
  have HO := Lib.hid ho
  clear h ho
  go_enter Try.func5, Try.ntmps5
  go_wp2_with fail
  refine nameC fun W0 hW0 => ?_
  have hB0 : Below w.heap.size w W0 := by subst hW0; exact (Below.refl _ w).alloc (Nat.le_refl _) _
  have hb0 : Blk W0 w.heap.size 24 #[.string name, .int .i64 mem, .int .i64 F, .slice A ps.length c] := by subst hW0; exact Blk.new w 24 _
  clear hW0
  refine (awake_c W0).mono ?_
  rintro e W1 ⟨rfl, hb1⟩
  have hB1 := hB0.trans (hb1.mono hB0.size)
  replace hb0 := hb0.below hb1 hb0.lt
  clear hb1 hB0
  have q0 : W1.cell? ⟨w.heap.size, 0, none⟩ = some (.string name) := hb0.cell 0
  have q1 : W1.cell? ⟨w.heap.size, 1, none⟩ = some (.int .i64 mem) := hb0.cell 1
  have q2 : W1.cell? ⟨w.heap.size, 2, none⟩ = some (.int .i64 F) := hb0.cell 2
  have q3 : W1.cell? ⟨w.heap.size, 3, none⟩ = some (.slice A ps.length c) := hb0.cell 3
  have hcf := conflict_c name mem F ps A c os Ao co x W1 (H.out.below hB1) (HO.out.below hB1) hco hl hlo
  obtain ⟨y, hy⟩ : ∃ y, y = conflV F ps os x := ⟨_, rfl⟩
  rw [← hy] at hcf
  have Hy := Lib.hid hy
  have Hcf := Lib.hid hcf
  clear hcf hy
  go_wp2_with fail
  refine Hcf.out.mono ?_
  rintro e W2 ⟨rfl, hb2⟩
  have hB2 := hB1.trans (hb2.mono hB1.size)
  replace hb0 := hb0.below hb2 hb0.lt
  clear hb2 hB1 Hcf q0 q1 q2 q3
  have q0 : W2.cell? ⟨w.heap.size, 0, none⟩ = some (.string name) := hb0.cell 0
  have q1 : W2.cell? ⟨w.heap.size, 1, none⟩ = some (.int .i64 mem) := hb0.cell 1
  have q2 : W2.cell? ⟨w.heap.size, 2, none⟩ = some (.int .i64 F) := hb0.cell 2
  have q3 : W2.cell? ⟨w.heap.size, 3, none⟩ = some (.slice A ps.length c) := hb0.cell 3
  by_cases hn : os.length < ps.length
  · have hd : decide ((os.length : Int) ≥ (ps.length : Int)) = false := decide_eq_false (by omega)
    have hd0 : ¬ ps.length ≤ os.length := by omega
    have hwr := IntWalk.i64_in ((os.length : Int) + 1) (by omega)
    have hsl := fun W => slice_to22 A ps.length (os.length + 1) c (by omega) W
    have hsl2 : ∀ W, (Instr.sliceAt 22 (.slice A ps.length c) none (some (.int .i64 ((os.length : Int) + 1))) none).run Try.prog W = .ok (.slice A (os.length + 1) c) W := fun W => by have := hsl W; simpa using this
    have Hn := Lib.hid hn
    clear hn hsl
    have q3a : (W2.alloc (.cells #[.string name, .int .i64 mem, .int .i64 F, .slice A ps.length c] 24)).cell? ⟨w.heap.size, 3, none⟩ = some (.slice A ps.length c) := (hb0.alloc _).cell 3
    have hbp : Blk (W2.alloc (.cells #[.string name, .int .i64 mem, .int .i64 F, .slice A (os.length + 1) c] 24)) W2.heap.size 24 #[.string name, .int .i64 mem, .int .i64 F, .slice A (os.length + 1) c] := Blk.new W2 24 _
    have hBp : Below w.heap.size w (W2.alloc (.cells #[.string name, .int .i64 mem, .int .i64 F, .slice A (os.length + 1) c] 24)) := hB2.alloc hB2.size _
    have hbb : Blk (W2.alloc (.cells #[.string name, .int .i64 mem, .int .i64 F, .slice A (os.length + 1) c] 24)) w.heap.size 24 #[.string name, .int .i64 mem, .int .i64 F, .slice A ps.length c] := hb0.alloc _
    go_wp2_with fail
    refine nameW fun W3 hW3 => ?_
    rw [← hW3] at hbp hBp hbb
    clear hW3 hb0 hB2 q0 q1 q2 q3 q3a
    generalize W2.heap.size = Bp at *
    refine reg9_c Bp W3 hBp H.out HO.out Hn.out hl hbp _ ?_ ?_
    · exact fun d _ _ _ _ h => by cases d <;> exact h
    clear hbp
    rintro y45 y46 y47 y48 y49 y50 y51 y52 y53 y54 y55 As cs W4 hB4 hb34 hrd
    replace hbb := hbb.below hb34 hbb.lt
    clear hb34 hBp
    have q0 : W4.cell? ⟨w.heap.size, 0, none⟩ = some (.string name) := hbb.cell 0
    have q1 : W4.cell? ⟨w.heap.size, 1, none⟩ = some (.int .i64 mem) := hbb.cell 1
    have q2 : W4.cell? ⟨w.heap.size, 2, none⟩ = some (.int .i64 F) := hbb.cell 2
    have q3 : W4.cell? ⟨w.heap.size, 3, none⟩ = some (.slice A ps.length c) := hbb.cell 3
    have Hrd := Lib.hid hrd
    clear hrd
    have hmk := fun W => run_make_ints ps.length hl W
    have hlen1 : (slotsV F (ps.take (os.length + 1)) (os ++ [x])).2 = 0 → (slotsV F (ps.take (os.length + 1)) (os ++ [x])).1 = zipS (os ++ [x]) (ps.take (os.length + 1)) := slots_list
    have HL := Lib.hid hlen1
    have hok := fun ht => slots_ok (F := F) (x := x) Hn.out ht
    have HOk := Lib.hid hok
    clear hlen1 hok
    generalize slotsV F (ps.take (os.length + 1)) (os ++ [x]) = sv at *
    obtain ⟨S1, e1⟩ := sv
    simp only at HL HOk Hrd ⊢
    go_wp2_with fail
    refine wp_region_S (fun W' => W'.cell? ⟨w.heap.size, 0, none⟩ = some (.string name) ∧ W'.cell? ⟨w.heap.size, 1, none⟩ = some (.int .i64 mem) ∧ W'.cell? ⟨w.heap.size, 2, none⟩ = some (.int .i64 F) ∧ W'.cell? ⟨w.heap.size, 3, none⟩ = some (.slice A ps.length c)) 10 (by kernel_rfl) ⟨q0, q1, q2, q3⟩ (fun hHeld => ?_)
    replace hB4 := hB4.drew
    replace hbb := hbb.drew
    have hrd0 : RdG Slot.tri W4.drew W4.drew.heap.size As S1 := Hrd.out.below (Below.refl _ W4).drew
    clear q0 q1 q2 q3 Hrd
    generalize W4.drew = W5 at *
    refine wpAnyS_take (i := 0) (v := ?_) rfl (by kernel_rfl) (by kernel_rfl) (by kernel_rfl) (by kernel_rfl) (fun _ _ _ h => h) (Or.inl ⟨by rfl, ?_⟩) hHeld ?_
    rotate_left
    · intro w hSw
      obtain ⟨hs0, hs1, hs2, hs3⟩ := hSw
      go_simp
      first | done | with_reducible rfl
    simp only [Act.put, List.setIfInBounds_toArray, List.set_cons_zero, List.set_cons_succ]
    refine wpAnyS_take (i := 1) (v := ?_) rfl (by kernel_rfl) (by kernel_rfl) (by kernel_rfl) (by kernel_rfl) (fun _ _ _ h => h) (Or.inl ⟨by rfl, ?_⟩) hHeld ?_
    rotate_left
    · intro w hSw
      obtain ⟨hs0, hs1, hs2, hs3⟩ := hSw
      go_simp
      first | done | with_reducible rfl
    simp only [Act.put, List.setIfInBounds_toArray, List.set_cons_zero, List.set_cons_succ]
    refine wpAnyS_take (i := 2) (v := ?_) rfl (by kernel_rfl) (by kernel_rfl) (by kernel_rfl) (by kernel_rfl) (fun _ _ _ h => h) (Or.inl ⟨by rfl, ?_⟩) hHeld ?_
    rotate_left
    · intro w hSw
      obtain ⟨hs0, hs1, hs2, hs3⟩ := hSw
      go_simp
      first | done | with_reducible rfl
    simp only [Act.put, List.setIfInBounds_toArray, List.set_cons_zero, List.set_cons_succ]
    refine wpAnyS_take (i := 3) (v := ?_) rfl (by kernel_rfl) (by kernel_rfl) (by kernel_rfl) (by kernel_rfl) (fun _ _ _ h => h) (Or.inl ⟨by rfl, ?_⟩) hHeld ?_
    rotate_left
    · intro w hSw
      obtain ⟨hs0, hs1, hs2, hs3⟩ := hSw
      go_simp
      first | done | with_reducible rfl
    simp only [Act.put, List.setIfInBounds_toArray, List.set_cons_zero, List.set_cons_succ]
    refine wpAnyS_ready (rs := [4]) (by kernel_rfl) (by simp) ?_
    refine AllReadyS.cons rfl (fun K hK => ?_) AllReadyS.nil
    go_simp
    have hx : Below W5.heap.size W5 (W5.alloc (.cells (madeCells #[.int .i64 0] ps.length) 3)) := (Below.refl _ _).alloc (Nat.le_refl _) _
    have hz0 : Blk (W5.alloc (.cells (madeCells #[.int .i64 0] ps.length) 3)) W5.heap.size 3 _ := make_zero ps.length W5
    have hri := RdInt.blk hz0
    replace hB4 := hB4.trans (hx.mono hB4.size)
    replace hbb := hbb.below hx hbb.lt
    replace hrd0 := hrd0.below hx
    have hH6 : (fun W' => W'.cell? ⟨w.heap.size, 0, none⟩ = some (.string name) ∧ W'.cell? ⟨w.heap.size, 1, none⟩ = some (.int .i64 mem) ∧ W'.cell? ⟨w.heap.size, 2, none⟩ = some (.int .i64 F) ∧ W'.cell? ⟨w.heap.size, 3, none⟩ = some (.slice A ps.length c)) (W5.alloc (.cells (madeCells #[.int .i64 0] ps.length) 3)) := ⟨hbb.cell 0, hbb.cell 1, hbb.cell 2, hbb.cell 3⟩
    refine hK.out _ _ (fun _ => hH6) ?_
    clear hK hx hz0 hHeld hmk
    generalize W5.alloc (.cells (madeCells #[.int .i64 0] ps.length) 3) = W6 at *
    have hs2 := slots_c name mem F ps A c (List.replicate ps.length 0) (some ⟨W5.heap.size, 0, none⟩) ps.length W6 (H.out.below hB4) hri (by omega) (by simp; omega)
    rw [List.length_replicate] at hs2
    have hpt : timesV F ps = decide ((slotsV F ps (List.replicate ps.length 0)).2 = 0) := (ptimes_iff F ps).symm
    have HPt := Lib.hid hpt
    clear hpt hri
    generalize slotsV F ps (List.replicate ps.length 0) = sv2 at *
    obtain ⟨S2, e2⟩ := sv2
    simp only at HPt
    have Hs2 := Lib.hid hs2
    clear hs2
    try simp only [Act.put, List.setIfInBounds_toArray, List.set_cons_zero, List.set_cons_succ]
    refine wpAnyS_ready (rs := [5]) (by kernel_rfl) (by simp) ?_
    refine AllReadyS.cons rfl (fun K hK => ?_) AllReadyS.nil
    go_simp
    refine Hs2.out.mono ?_
    rintro e W7 ⟨A2, c2, rfl, _, hb7⟩
    dsimp only
    replace hB4 := hB4.trans (hb7.mono hB4.size)
    replace hbb := hbb.below hb7 hbb.lt
    replace hrd0 := hrd0.below hb7
    have hH7 : (fun W' => W'.cell? ⟨w.heap.size, 0, none⟩ = some (.string name) ∧ W'.cell? ⟨w.heap.size, 1, none⟩ = some (.int .i64 mem) ∧ W'.cell? ⟨w.heap.size, 2, none⟩ = some (.int .i64 F) ∧ W'.cell? ⟨w.heap.size, 3, none⟩ = some (.slice A ps.length c)) W7 := ⟨hbb.cell 0, hbb.cell 1, hbb.cell 2, hbb.cell 3⟩
    refine hK.out _ _ (fun _ => hH7) ?_
    clear hK hH6 Hs2 hb7
    try simp only [Act.put, List.setIfInBounds_toArray, List.set_cons_zero, List.set_cons_succ]
    refine wpAnyS_takeT (i := 6) (v := ?_) rfl (by kernel_rfl) (by kernel_rfl) (by kernel_rfl) (by kernel_rfl) (fun _ _ _ h => h) (Or.inl ⟨by rfl, ?_⟩) hH7 ?_
    rotate_left
    · intro w hSw
      (try dsimp only at hSw)
      go_simp
      first | done | with_reducible rfl
    simp only [Act.put, List.setIfInBounds_toArray, List.set_cons_zero, List.set_cons_succ]
    refine wpAnyS_takeT (i := 7) (v := ?_) rfl (by kernel_rfl) (by kernel_rfl) (by kernel_rfl) (by kernel_rfl) (fun _ _ _ h => h) (Or.inl ⟨by rfl, ?_⟩) hH7 ?_
    rotate_left
    · intro w hSw
      (try dsimp only at hSw)
      go_simp
      first | done | with_reducible rfl
    simp only [Act.put, List.setIfInBounds_toArray, List.set_cons_zero, List.set_cons_succ]
    refine wpAnyS_takeT (i := 8) (v := ?_) rfl (by kernel_rfl) (by kernel_rfl) (by kernel_rfl) (by kernel_rfl) (fun _ _ _ h => h) (Or.inl ⟨by rfl, ?_⟩) hH7 ?_
    rotate_left
    · intro w hSw
      (try dsimp only at hSw)
      go_simp
      first | done | with_reducible rfl
    simp only [Act.put, List.setIfInBounds_toArray, List.set_cons_zero, List.set_cons_succ]
    refine wpAnyS_takeT (i := 9) (v := ?_) rfl (by kernel_rfl) (by kernel_rfl) (by kernel_rfl) (by kernel_rfl) (fun _ _ _ h => h) (Or.inl ⟨by rfl, ?_⟩) hH7 ?_
    rotate_left
    · intro w hSw
      (try dsimp only at hSw)
      go_simp
      first | done | with_reducible rfl
    simp only [Act.put, List.setIfInBounds_toArray, List.set_cons_zero, List.set_cons_succ]
    refine wpAnyS_ready (rs := [10]) (by kernel_rfl) (by simp) ?_
    refine AllReadyS.cons rfl (fun K hK => ?_) AllReadyS.nil
    go_simp
    refine hK.out _ _ (fun h => absurd h (by decide)) ?_
    refine wpAnyS_done (by kernel_rfl) ?_ _
    clear hK hH7 hbb
    have HB := Lib.hid hB4
    have Hrd := Lib.hid hrd0
    clear hB4 hrd0
    by_cases he1 : e1 = 0
    · by_cases he2 : e2 = 0
      · subst he1 he2
        have ht : timesV F ps = true := by rw [HPt.out]; rfl
        have hpx : prefixOk F ps (os ++ [x]) = true := by rw [HOk.out ht]; rfl
        have hyc : y = conflP ps os x := by rw [Hy.out]; simp [conflV, hpx]
        have hS1 : S1 = zipS (os ++ [x]) (ps.take (os.length + 1)) := HL.out rfl
        subst hS1
        have hlen : (zipS (os ++ [x]) (ps.take (os.length + 1))).length = os.length + 1 := by have := Hn.out; simp [zipS]; omega
        have Hlen := Lib.hid hlen
        have Hyc := Lib.hid hyc
        have hcz := fun k hk h1 h2 => clash_zip (ps := ps) (os := os) (x := x) Hn.out k hk h1 h2
        have Hcz := Lib.hid hcz
        rw [hlen]
        clear ht hpx hyc hlen hcz HL HOk HPt Hy
        generalize zipS (os ++ [x]) (ps.take (os.length + 1)) = Z at *
        go_wp2_with fail
        go_loopw [15] (fun i wr => ∃ k : Nat, k ≤ os.length ∧ i = .int .i64 k ∧ Below W7.heap.size W7 wr ∧ Hid (∀ j, j < k → clashP ps os j x = false)) (fun i _ => os.length - (intOf i).toNat)
        case atStart => exact ⟨0, Nat.zero_le _, rfl, Below.refl _ _, fun j h => absurd h (by omega)⟩
        case round =>
          obtain ⟨k, hk, rfl, hBr, hall⟩ := hrel
          by_cases hlt : k < os.length
          · have hZ := Hlen.out
            obtain ⟨b, o, rfl, hb, hcc⟩ := (Hrd.out.below hBr) (by omega)
            have hkZ : k < Z.length := by omega
            have hnZ : os.length < Z.length := by omega
            obtain ⟨c0, c1, c2⟩ := hcc k hkZ
            obtain ⟨d0, d1, d2⟩ := hcc os.length hnZ
            have hz := Hcz.out k hlt hkZ hnZ
            clear hcc
            generalize Z[k]'hkZ = z at c0 c1 c2 hz
            generalize Z[os.length]'hnZ = u at d0 d1 d2 hz
            change _ = some (Value.int .i64 z.off) at c0
            change _ = some (Value.int .i64 z.per) at c1
            change _ = some (Value.int .i64 z.len) at c2
            change _ = some (Value.int .i64 u.off) at d0
            change _ = some (Value.int .i64 u.per) at d1
            change _ = some (Value.int .i64 u.len) at d2
            have hcl : ∀ y : Ext wr, Calls Try.prog 22 #[.agg #[.int .i64 z.off, .int .i64 z.per, .int .i64 z.len], .agg #[.int .i64 u.off, .int .i64 u.per, .int .i64 u.len]] y.w fun e w' => e = .returned (.bool (!clashP ps os k x)) ∧ Below y.w.heap.size y.w w' := fun y => by
              have := disj_c z u y.w
              rwa [hz] at this
            have hec := ext_cell wr
            have hi0 : (0 : Int) ≤ (k : Int) := by omega
            have hi1 : (k : Int) < (os.length : Int) + 1 := by omega
            have hi2 : (0 : Int) ≤ (os.length : Int) := by omega
            have hi3 : (os.length : Int) < (os.length : Int) + 1 := by omega
            have hnx : clashP ps os k x = false → (∀ j, j < k + 1 → clashP ps os j x = false) := fun hq j hj => by
              by_cases e : j = k
              · subst e; exact hq
              · exact hall.out j (by omega)
            have hhit : clashP ps os k x = true → y = k := fun hq => by
              rw [Hyc.out]
              unfold conflP
              exact idxI_hit (l := List.range os.length) (k := k) (by simpa using hlt) (by simpa using hq) (fun j hj hjk => by simpa using hall.out j hjk)
            have HNx := Lib.hid hnx
            have HHit := Lib.hid hhit
            clear hz hall hnx hhit hZ hkZ hnZ
            generalize z.off = a0 at *
            generalize z.per = a1 at *
            generalize z.len = a2 at *
            generalize u.off = a3 at *
            generalize u.per = a4 at *
            generalize u.len = a5 at *
            generalize clashP ps os k x = q at *
            go_wp2_with fail
            refine wp_region_ext (by kernel_rfl) (by kernel_rfl) ?_
            repeat (go_big_quiet_step ((go_at_call 22; with_reducible exact ext_call (hcl _))))
            refine wpQuiet_nil ?_
            intro _ hw'
            obtain ⟨xx, hw''⟩ := hw'
            subst hw''
            have hB2 : Below W7.heap.size W7 xx.w := hBr.trans (xx.h.mono hBr.size)
            clear hec hcl c0 c1 c2 d0 d1 d2 hBr
            generalize xx.w = w3 at hB2 ⊢
            cases q with
            | true =>
              have hy := HHit.out rfl
              have hfin : Below w.heap.size w w3 := HB.out.trans (hB2.mono HB.out.size)
              clear HNx HHit Hyc hB2
              subst hy
              go_wp2_with fail
              go_ret
              exact ⟨rfl, hfin⟩
            | false =>
              have Hnext := Lib.hid (HNx.out rfl)
              clear HNx HHit
              go_wp2_with fail
              go_roundw
              case rel => exact ⟨k + 1, by omega, by go_num, hB2, Hnext⟩
              case measure => simp [intOf]; omega
          · have hy : y = -1 := by
              rw [Hyc.out]
              unfold conflP
              exact idxI_miss fun j hj => by simp at hj; simpa using hall.out j (by omega)
            have hfin : Below w.heap.size w wr := HB.out.trans (hBr.mono HB.out.size)
            clear hall Hyc
            subst hy
            go_wp2_with fail
            go_ret
            exact ⟨rfl, hfin⟩
      · have hne : (e2 != 0) = true := by simpa using he2
        have ht : timesV F ps = false := by rw [HPt.out]; exact decide_eq_false he2
        have hy1 : y = -1 := by rw [Hy.out]; simp [conflV, prefixOk, ht]
        subst hy1 he1
        clear he2 ht Hy HL HOk HPt
        go_wp2_with fail
        go_ret
        exact ⟨rfl, HB.out⟩
    · have hne : (e1 != 0) = true := by simpa using he1
      have hy1 : y = -1 := by
        rw [Hy.out]
        unfold conflV
        rw [if_neg]
        intro hp
        have ht : timesV F ps = true := by simp only [prefixOk, Bool.and_eq_true] at hp; exact hp.2.1
        rw [HOk.out ht] at hp
        exact he1 (of_decide_eq_true hp)
      subst hy1
      clear he1 Hy HL HOk HPt
      go_wp2_with fail
      go_ret
      exact ⟨rfl, HB.out⟩
  · have hd : decide ((os.length : Int) ≥ (ps.length : Int)) = true := decide_eq_true (by omega)
    have hd0 : ps.length ≤ os.length := by omega
    have hy : y = -1 := by
      rw [Hy.out]
      unfold conflV
      rw [if_neg]
      intro hp
      simp only [prefixOk, Bool.and_eq_true, decide_eq_true_eq, List.length_append, List.length_cons, List.length_nil] at hp
      omega
    subst hy
    clear hn Hy
    go_wp2_with fail
    go_ret
    exact ⟨rfl, hB2⟩
end

-- THE ROW
set_option maxRecDepth 100000 in
theorem planConflicts_lifted (os : Os) (started : os.Started) (H : Type) (enc : TypeId × Value → H) :
    ReturnsInHanded {} Try.checked os 5 .any (Rows.planConflictsSpec.pre6 enc Try.prog Try.f5 Rows.planConflictsRow.domain false) (Rows.planConflictsSpec.post enc Try.prog Try.f5 false true false false) := by
  refine returnsInHanded_of_change_sized (C := Try.checked) own started (by kernel_rfl) Try.func5
    (ChangeSpec.witness6 (enc := enc) (C := Try.checked) false ⟨#[], #[.agg #[.string ⟨#[]⟩, .int .i64 0, .int .i64 0, .slice none 0 0], .slice none 0 0, .int .i64 0], []⟩ 8 (by kernel_rfl) (by kernel_rfl) (by kernel_rfl) (by kernel_rfl)) ?_
  intro W base args ds gs before hval0 hW hcnd hsz0 _
  have hval : ∀ (j : Nat) t v, Try.f5.params[j]? = some t → args[j]? = some v → Value.okWide Try.prog W .any base t v := hval0
  have hW' := hW
  obtain ⟨p, q, hA0, hV, rfl, hfz, hnd⟩ := hW
  have hA : DataW.TrodAll enc Try.prog W 0 (fun _ => true) true Try.f5.params.toList args.toList ds p := hA0
  rw [Try.params5] at hA hval
  obtain ⟨v0, vs0, d0, ds0, p0, q0, hargs, rfl, rfl, h0, r0⟩ := trodAll_cons hA
  obtain ⟨v1, vs1, d1, ds1, p1, q1, rfl, rfl, rfl, h1, r1⟩ := trodAll_cons r0
  obtain ⟨v2, vs2, d2, ds2, p2, q2, rfl, rfl, rfl, h2, r2⟩ := trodAll_cons r1
  obtain ⟨rfl, rfl, rfl⟩ := trodAll_nil r2
  obtain rfl : args = #[v0, v1, v2] := by cases args; simp_all
  obtain ⟨name0, mem0, frame0, A0, c0, l0, rfl, km0, kf0, hlc0, hcm0, hR0, hP0⟩ := open_module (hval 0 24 v0 rfl rfl) h0
  obtain ⟨A1, c1, l1, rfl, hlc1, hcm1, hR1, hP1⟩ := open_ints1 (hval 1 28 v1 rfl rfl) h1
  obtain ⟨a2, rfl, rfl, rfl, w2⟩ := open_int Try.underlying3 (hval 2 3 v2 rfl rfl) h2
  have hsz := hsz0
  rw [Try.params5] at hsz
  have hz0 := sz_module (hval 0 24 _ rfl rfl) h0 (fun n hn => by simpa using List.all_eq_true.1 hsz n (DataW.weights_mem_each (j := 0) (t := 24) rfl rfl n hn)) rfl
  have hz1 := sz_ints h1 (fun n hn => by simpa using List.all_eq_true.1 hsz n (DataW.weights_mem_each (j := 1) (t := 28) rfl rfl n hn))
  clear hA0 hval0
  refine (conflicts_walk name0 mem0 frame0 l0 A0 c0 l1 A1 c1 a2 W hR0 hR1 hlc0 hlc1 hz0 hz1).mono fun e W' ⟨he, hg⟩ => ?_
  subst he
  refine ⟨_, rfl, law_post (tb := 4) laid ?_ ?_ Try.underlying4 rfl hW' ⟨rfl, rfl, rfl⟩ hg⟩
  · rw [Try.params5]; intro t ht; simp at ht; rcases ht with rfl | rfl | rfl <;> exact ⟨by kernel_rfl, of_decide_eq_true (by kernel_rfl)⟩
  · kernel_rfl

theorem planConflicts_holds : Rows.PlanConflictsSaid :=
  OpenClaim.holds_of_wide 5 Try.f5 rfl rfl rfl rfl rfl rfl rfl ⟨rfl, rfl, rfl, rfl, rfl⟩ rfl rfl rfl rfl rfl (by kernel_rfl) Try.func5 (by kernel_rfl)
    (of_decide_eq_true (by kernel_rfl)) (by unfold Func.isWrapper; first | (rw [if_pos (by decide +kernel)]; kernel_rfl) | (rw [if_neg (by decide +kernel)]; exact ⟨rfl, rfl⟩))
    (fun os started H enc _ => planConflicts_lifted os started H enc)
#print axioms planConflicts_holds
end Go.Proofs.Ytlmbffnmjfbglab
