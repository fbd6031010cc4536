/- Texts Ch Cx Co M6 M7 M8, joined. -/
import Derived.Test.YtlmbffnmjfbglabG6
import Derived.Test.YtlmbffnmjfbglabG7
import Derived.Test.YtlmbffnmjfbglabG1
import Derived.Test.YtlmbffnmjfbglabG8
set_option linter.unusedSimpArgs false
set_option linter.unusedVariables false
/- The number of choices. -/
namespace Go.Proofs.Ytlmbffnmjfbglab
open Go.ChangeShapes Go.WideShapes Go.ChangeAt Go.RowKit

def chV : List Part → Int → Int
  | [], n => n
  | p :: r, n => if 20000 < n * (p.period - p.length + 1) then -1 else chV r (n * (p.period - p.length + 1))
/-- how many choices of offsets there are, or -1. -/
def choicesV (F : Int) (ps : List Part) : Int := if timesV F ps = true then chV ps 1 else -1

set_option maxRecDepth 100000 in
set_option maxHeartbeats 4000000 in
theorem choices_c (name : ByteArray) (mem F : Int) (ps : List Part) (A : Option Addr) (c : Nat) (w : World) (h : RdPart w w.heap.size A ps) (hl : ps.length * 8 ≤ 140737488355328) :
    Calls Try.prog 15 #[.agg #[.string name, .int .i64 mem, .int .i64 F, .slice A ps.length c]] w fun e w' => e = .returned (.int .i64 (choicesV F ps)) ∧ Below w.heap.size w w' := by
  have H := Lib.hid h
  clear h
  have hB1 : Below w.heap.size w (w.alloc (.cells #[.string name, .int .i64 mem, .int .i64 F, .slice A ps.length c] 24)) := (Below.refl _ w).alloc (Nat.le_refl _) _
  have hb1 := Blk.new w 24 #[.string name, .int .i64 mem, .int .i64 F, .slice A ps.length c]
  go_enter Try.func15, Try.ntmps15
  go_wp2_with fail
  generalize w.alloc (.cells #[.string name, .int .i64 mem, .int .i64 F, .slice A ps.length c] 24) = W1 at *
  have hmk := fun W => run_make_ints ps.length hl W
  refine wp_region_S (fun W' => W'.cell? ⟨w.heap.size, 0, none⟩ = some (.string name) ∧ W'.cell? ⟨w.heap.size, 1, none⟩ = some (.int .i64 mem) ∧ W'.cell? ⟨w.heap.size, 2, none⟩ = some (.int .i64 F) ∧ W'.cell? ⟨w.heap.size, 3, none⟩ = some (.slice A ps.length c)) 10 (by kernel_rfl) ⟨hb1.cell 0, hb1.cell 1, hb1.cell 2, hb1.cell 3⟩ (fun hHeld => ?_)
  replace hB1 := hB1.drew
  replace hb1 := hb1.drew
  generalize W1.drew = W5 at *
  refine wpAnyS_take (i := 0) (v := ?_) rfl (by kernel_rfl) (by kernel_rfl) (by kernel_rfl) (by kernel_rfl) (fun _ _ _ h => h) (Or.inl ⟨by rfl, ?_⟩) hHeld ?_
  rotate_left
  · intro w hSw
    obtain ⟨hs0, hs1, hs2, hs3⟩ := hSw
    go_simp
    first | done | with_reducible rfl
  simp only [Act.put, List.setIfInBounds_toArray, List.set_cons_zero, List.set_cons_succ]
  refine wpAnyS_take (i := 1) (v := ?_) rfl (by kernel_rfl) (by kernel_rfl) (by kernel_rfl) (by kernel_rfl) (fun _ _ _ h => h) (Or.inl ⟨by rfl, ?_⟩) hHeld ?_
  rotate_left
  · intro w hSw
    obtain ⟨hs0, hs1, hs2, hs3⟩ := hSw
    go_simp
    first | done | with_reducible rfl
  simp only [Act.put, List.setIfInBounds_toArray, List.set_cons_zero, List.set_cons_succ]
  refine wpAnyS_take (i := 2) (v := ?_) rfl (by kernel_rfl) (by kernel_rfl) (by kernel_rfl) (by kernel_rfl) (fun _ _ _ h => h) (Or.inl ⟨by rfl, ?_⟩) hHeld ?_
  rotate_left
  · intro w hSw
    obtain ⟨hs0, hs1, hs2, hs3⟩ := hSw
    go_simp
    first | done | with_reducible rfl
  simp only [Act.put, List.setIfInBounds_toArray, List.set_cons_zero, List.set_cons_succ]
  refine wpAnyS_take (i := 3) (v := ?_) rfl (by kernel_rfl) (by kernel_rfl) (by kernel_rfl) (by kernel_rfl) (fun _ _ _ h => h) (Or.inl ⟨by rfl, ?_⟩) hHeld ?_
  rotate_left
  · intro w hSw
    obtain ⟨hs0, hs1, hs2, hs3⟩ := hSw
    go_simp
    first | done | with_reducible rfl
  simp only [Act.put, List.setIfInBounds_toArray, List.set_cons_zero, List.set_cons_succ]
  refine wpAnyS_ready (rs := [4]) (by kernel_rfl) (by simp) ?_
  refine AllReadyS.cons rfl (fun K hK => ?_) AllReadyS.nil
  go_simp
  have hx : Below W5.heap.size W5 (W5.alloc (.cells (madeCells #[.int .i64 0] ps.length) 3)) := (Below.refl _ _).alloc (Nat.le_refl _) _
  have hz0 : Blk (W5.alloc (.cells (madeCells #[.int .i64 0] ps.length) 3)) W5.heap.size 3 _ := make_zero ps.length W5
  have hri := RdInt.blk hz0
  replace hB1 := hB1.trans (hx.mono hB1.size)
  replace hb1 := hb1.below hx hb1.lt
  have hH6 : (fun W' => W'.cell? ⟨w.heap.size, 0, none⟩ = some (.string name) ∧ W'.cell? ⟨w.heap.size, 1, none⟩ = some (.int .i64 mem) ∧ W'.cell? ⟨w.heap.size, 2, none⟩ = some (.int .i64 F) ∧ W'.cell? ⟨w.heap.size, 3, none⟩ = some (.slice A ps.length c)) (W5.alloc (.cells (madeCells #[.int .i64 0] ps.length) 3)) := ⟨hb1.cell 0, hb1.cell 1, hb1.cell 2, hb1.cell 3⟩
  refine hK.out _ _ (fun _ => hH6) ?_
  clear hK hx hz0 hHeld hmk
  generalize W5.alloc (.cells (madeCells #[.int .i64 0] ps.length) 3) = W6 at *
  have hs2 := slots_c name mem F ps A c (List.replicate ps.length 0) (some ⟨W5.heap.size, 0, none⟩) ps.length W6 (H.out.below hB1) hri (by omega) (by simp; omega)
  rw [List.length_replicate] at hs2
  have hpt : timesV F ps = decide ((slotsV F ps (List.replicate ps.length 0)).2 = 0) := (ptimes_iff F ps).symm
  have HPt := Lib.hid hpt
  clear hpt hri
  generalize slotsV F ps (List.replicate ps.length 0) = sv2 at *
  obtain ⟨S2, e2⟩ := sv2
  simp only at HPt
  have Hs2 := Lib.hid hs2
  clear hs2
  try simp only [Act.put, List.setIfInBounds_toArray, List.set_cons_zero, List.set_cons_succ]
  refine wpAnyS_ready (rs := [5]) (by kernel_rfl) (by simp) ?_
  refine AllReadyS.cons rfl (fun K hK => ?_) AllReadyS.nil
  go_simp
  refine Hs2.out.mono ?_
  rintro e W7 ⟨A2, c2, rfl, _, hb7⟩
  dsimp only
  replace hB1 := hB1.trans (hb7.mono hB1.size)
  replace hb1 := hb1.below hb7 hb1.lt
  have hH7 : (fun W' => W'.cell? ⟨w.heap.size, 0, none⟩ = some (.string name) ∧ W'.cell? ⟨w.heap.size, 1, none⟩ = some (.int .i64 mem) ∧ W'.cell? ⟨w.heap.size, 2, none⟩ = some (.int .i64 F) ∧ W'.cell? ⟨w.heap.size, 3, none⟩ = some (.slice A ps.length c)) W7 := ⟨hb1.cell 0, hb1.cell 1, hb1.cell 2, hb1.cell 3⟩
  refine hK.out _ _ (fun _ => hH7) ?_
  clear hK hH6 Hs2 hb7
  try simp only [Act.put, List.setIfInBounds_toArray, List.set_cons_zero, List.set_cons_succ]
  refine wpAnyS_takeT (i := 6) (v := ?_) rfl (by kernel_rfl) (by kernel_rfl) (by kernel_rfl) (by kernel_rfl) (fun _ _ _ h => h) (Or.inl ⟨by rfl, ?_⟩) hH7 ?_
  rotate_left
  · intro w hSw
    (try dsimp only at hSw)
    go_simp
    first | done | with_reducible rfl
  simp only [Act.put, List.setIfInBounds_toArray, List.set_cons_zero, List.set_cons_succ]
  refine wpAnyS_takeT (i := 7) (v := ?_) rfl (by kernel_rfl) (by kernel_rfl) (by kernel_rfl) (by kernel_rfl) (fun _ _ _ h => h) (Or.inl ⟨by rfl, ?_⟩) hH7 ?_
  rotate_left
  · intro w hSw
    (try dsimp only at hSw)
    go_simp
    first | done | with_reducible rfl
  simp only [Act.put, List.setIfInBounds_toArray, List.set_cons_zero, List.set_cons_succ]
  refine wpAnyS_takeT (i := 8) (v := ?_) rfl (by kernel_rfl) (by kernel_rfl) (by kernel_rfl) (by kernel_rfl) (fun _ _ _ h => h) (Or.inl ⟨by rfl, ?_⟩) hH7 ?_
  rotate_left
  · intro w hSw
    (try dsimp only at hSw)
    go_simp
    first | done | with_reducible rfl
  simp only [Act.put, List.setIfInBounds_toArray, List.set_cons_zero, List.set_cons_succ]
  refine wpAnyS_takeT (i := 9) (v := ?_) rfl (by kernel_rfl) (by kernel_rfl) (by kernel_rfl) (by kernel_rfl) (fun _ _ _ h => h) (Or.inl ⟨by rfl, ?_⟩) hH7 ?_
  rotate_left
  · intro w hSw
    (try dsimp only at hSw)
    go_simp
    first | done | with_reducible rfl
  simp only [Act.put, List.setIfInBounds_toArray, List.set_cons_zero, List.set_cons_succ]
  refine wpAnyS_ready (rs := [10]) (by kernel_rfl) (by simp) ?_
  refine AllReadyS.cons rfl (fun K hK => ?_) AllReadyS.nil
  go_simp
  refine hK.out _ _ (fun h => absurd h (by decide)) ?_
  refine wpAnyS_done (by kernel_rfl) ?_ _
  clear hK hH7
  by_cases he2 : e2 = 0
  · subst he2
    have ht : timesV F ps = true := by rw [HPt.out]; rfl
    have hT := timesV_ok ht
    have HT := Lib.hid hT
    have Hv := Lib.hid (show choicesV F ps = chV ps 1 by rw [choicesV, if_pos ht])
    have HB := Lib.hid hB1
    have Hb := Lib.hid hb1
    clear ht hT HPt hB1 hb1
    go_wp2_with fail
    go_loopw [5, 6] (fun n i wr => ∃ (k : Nat) (x : Int), k ≤ ps.length ∧ i = .int .i64 k ∧ n = .int .i64 x ∧ 0 ≤ x ∧ x ≤ 20000 ∧ Below W7.heap.size W7 wr ∧ Hid (chV ps 1 = chV (ps.drop k) x)) (fun _ i _ => ps.length - (intOf i).toNat)
    case atStart => exact ⟨0, 1, Nat.zero_le _, rfl, rfl, by omega, by omega, Below.refl _ _, rfl⟩
    case round =>
      obtain ⟨k, x, hk, rfl, rfl, hx0, hx1, hBr, hch⟩ := hrel
      have hbr := Hb.out.below hBr Hb.out.lt
      have r3 : wr.cell? ⟨w.heap.size, 3, none⟩ = some (.slice A ps.length c) := hbr.cell 3
      by_cases hlt : k < ps.length
      · have hBw := HB.out.trans (hBr.mono HB.out.size)
        obtain ⟨b, o, rfl, hb, hcc⟩ := (H.out.below hBw) (by omega)
        have c1 : wr.cell? ⟨b, o + k * 10 + 1, none⟩ = some (.int .i64 ps[k].period) := hcc k hlt 1 _ rfl
        have c2 : wr.cell? ⟨b, o + k * 10 + 2, none⟩ = some (.int .i64 ps[k].length) := hcc k hlt 2 _ rfl
        have hi0 : (0 : Int) ≤ (k : Int) := by omega
        have hi1 : (k : Int) < (ps.length : Int) := by omega
        have hp := HT.out.per ps[k] (List.getElem_mem _)
        have hq := HT.out.len ps[k] (List.getElem_mem _)
        have hch2 : chV ps 1 = if 20000 < x * (ps[k].period - ps[k].length + 1) then -1 else chV (ps.drop (k + 1)) (x * (ps[k].period - ps[k].length + 1)) := by
          rw [hch.out, List.drop_eq_getElem_cons hlt, chV]
        have m1 := IntWalk.i64_in (ps[k].period - ps[k].length) (by omega)
        have m2 := IntWalk.i64_in (ps[k].period - ps[k].length + 1) (by omega)
        have hmul : 0 ≤ x * (ps[k].period - ps[k].length + 1) ∧ x * (ps[k].period - ps[k].length + 1) ≤ 20000 * 2000 := ⟨Int.mul_nonneg hx0 (by omega), Int.mul_le_mul hx1 (by omega) (by omega) (by omega)⟩
        have m3 := IntWalk.i64_in (x * (ps[k].period - ps[k].length + 1)) (by omega)
        have Hch2 := Lib.hid hch2
        clear hcc hch hch2 hp hq hbr hBw
        generalize ps[k].period = P at *
        generalize ps[k].length = L at *
        generalize hM : x * (P - L + 1) = M at *
        go_wp2_with fail
        go_quiet (fail)
        by_cases hgt : 20000 < M
        · have hd : decide (M > 20000) = true := decide_eq_true hgt
          have Hf := Lib.hid (Hv.out.trans (Hch2.out.trans (if_pos hgt)))
          have hB9 := below_drewN (HB.out.trans (hBr.mono HB.out.size)) nq
          clear hM m1 m2 m3
          go_wp2_with fail
          go_ret
          exact ⟨ret_int Hf.out.symm, hB9⟩
        · have hd : decide (M > 20000) = false := decide_eq_false hgt
          have hd2 : ¬ 20000 < M := hgt
          have Hf := Lib.hid (Hch2.out.trans (if_neg hgt))
          have hB9 := below_drewN hBr nq
          clear hM m1 m2 m3
          go_wp2_with fail
          go_roundw
          case rel => exact ⟨k + 1, M, by omega, by go_num, rfl, by omega, by omega, hB9, Hf.out⟩
          case measure => simp [intOf]; omega
      · obtain rfl : k = ps.length := by omega
        have Hf := Lib.hid (show choicesV F ps = x by rw [Hv.out, hch.out, List.drop_length, chV])
        have hB9 := HB.out.trans (hBr.mono HB.out.size)
        clear hch hbr
        go_wp2_with fail
        go_ret
        exact ⟨ret_int Hf.out.symm, hB9⟩
  · have hne : (e2 != 0) = true := by simpa using he2
    have Hv := Lib.hid (show choicesV F ps = -1 by rw [choicesV, if_neg]; rw [HPt.out]; simpa using he2)
    clear he2 HPt hb1
    go_wp2_with fail
    go_ret
    exact ⟨ret_int Hv.out.symm, hB1⟩
end Go.Proofs.Ytlmbffnmjfbglab
/- clash; choice. -/
namespace Go.Proofs.Ytlmbffnmjfbglab
open Go.ChangeShapes Go.WideShapes Go.ChangeAt Go.RowKit

set_option maxRecDepth 100000 in
set_option maxHeartbeats 2000000 in
theorem clashT_c (name : ByteArray) (mem F : Int) (ps : List Part) (A : Option Addr) (c : Nat) (os : List Int) (Ao : Option Addr) (co : Nat) (w : World) (h : RdPart w w.heap.size A ps) (ho : RdInt w w.heap.size Ao os) (hl : ps.length ≤ 9223372036854775807) (hlo : os.length ≤ 9223372036854775807) :
    Calls Try.prog 29 #[.agg #[.string name, .int .i64 mem, .int .i64 F, .slice A ps.length c], .slice Ao os.length co] w fun e w' => ∃ q, TableV F ps os q ∧ e = .returned (.bool (decide (q.2 = 120))) ∧ Below w.heap.size w w' := by
  have H := Lib.hid h
  have HO := Lib.hid ho
  clear h ho
  go_enter Try.func29, Try.ntmps29
  go_wp2_with fail
  refine nameC fun W1 hW1 => ?_
  have hB1 : Below w.heap.size w W1 := by subst hW1; exact (Below.refl _ w).alloc (Nat.le_refl _) _
  clear hW1
  refine (table_c name mem F ps A c os Ao co W1 (H.out.below hB1) (HO.out.below hB1) hl hlo).mono ?_
  rintro e W2 ⟨A2, c2, q, rfl, hq, _, hb⟩
  have hB2 := hB1.trans (hb.mono hB1.size)
  have HQ := Lib.hid hq
  clear hq hb hB1
  have hd : (q.2 == (120 : Int)) = decide (q.2 = 120) := rfl
  go_wp2_with fail
  go_ret
  exact ⟨q, HQ.out, rfl, hB2⟩

/-- d digits of a choice's number, from the last partition on. -/
def stepsC (ps : List Part) (n : Int) : Nat → Int × List Int
  | 0 => (n, [])
  | d + 1 => ((stepsC ps n d).1 / ((ps.getD (ps.length - 1 - d) default).period - (ps.getD (ps.length - 1 - d) default).length + 1), (stepsC ps n d).1 % ((ps.getD (ps.length - 1 - d) default).period - (ps.getD (ps.length - 1 - d) default).length + 1) :: (stepsC ps n d).2)
/-- the choice with a number. -/
def choiceV (ps : List Part) (n : Int) : List Int := (stepsC ps n ps.length).2
theorem stepsC_len (ps : List Part) (n : Int) : ∀ d, (stepsC ps n d).2.length = d
  | 0 => rfl
  | d + 1 => by simp [stepsC, stepsC_len ps n d]

set_option maxRecDepth 100000 in
set_option maxHeartbeats 4000000 in
theorem choice_c (name : ByteArray) (mem F : Int) (ps : List Part) (A : Option Addr) (c : Nat) (n : Int) (w : World) (h : RdPart w w.heap.size A ps) (hT : timesV F ps = true) (hn : 0 ≤ n ∧ n ≤ 20000) :
    Calls Try.prog 28 #[.agg #[.string name, .int .i64 mem, .int .i64 F, .slice A ps.length c], .int .i64 n] w fun e w' => ∃ B cc, e = .returned (.slice (some ⟨B, 0, none⟩) ps.length cc) ∧ ps.length ≤ cc ∧ w.heap.size ≤ B ∧ RdInt w' w'.heap.size (some ⟨B, 0, none⟩) (choiceV ps n) ∧ Below w.heap.size w w' := by
  have hTT := timesV_ok hT
  have hfew := hTT.few
  have HT := Lib.hid hTT
  have H := Lib.hid h
  clear h hT hTT
  have hmk := fun W => run_make_ints ps.length (by omega) W
  have hwr := IntWalk.i64_in ((ps.length : Int) - 1) (by omega)
  have hB1 : Below w.heap.size w ((w.alloc (.cells #[.string name, .int .i64 mem, .int .i64 F, .slice A ps.length c] 24)).alloc (.cells (madeCells #[.int .i64 0] ps.length) 3)) := ((Below.refl _ w).alloc (Nat.le_refl _) _).alloc (by simp) _
  have hb1 : Blk ((w.alloc (.cells #[.string name, .int .i64 mem, .int .i64 F, .slice A ps.length c] 24)).alloc (.cells (madeCells #[.int .i64 0] ps.length) 3)) w.heap.size 24 #[.string name, .int .i64 mem, .int .i64 F, .slice A ps.length c] := (Blk.new w 24 _).alloc _
  have hb2 : Blk ((w.alloc (.cells #[.string name, .int .i64 mem, .int .i64 F, .slice A ps.length c] 24)).alloc (.cells (madeCells #[.int .i64 0] ps.length) 3)) (w.heap.size + 1) 3 ((List.replicate ps.length (0 : Int)).map (Value.int .i64)).toArray := by
    have := make_zero ps.length (w.alloc (.cells #[.string name, .int .i64 mem, .int .i64 F, .slice A ps.length c] 24))
    simpa only [World.size_alloc] using this
  have hq3 : ((w.alloc (.cells #[.string name, .int .i64 mem, .int .i64 F, .slice A ps.length c] 24)).alloc (.cells (madeCells #[.int .i64 0] ps.length) 3)).cell? ⟨w.heap.size, 3, none⟩ = some (.slice A ps.length c) := hb1.cell 3
  go_enter Try.func28, Try.ntmps28
  go_wp2_with fail
  generalize (w.alloc (.cells #[.string name, .int .i64 mem, .int .i64 F, .slice A ps.length c] 24)).alloc (.cells (madeCells #[.int .i64 0] ps.length) 3) = W1 at *
  have Hb1 := Lib.hid hb1
  have HB1 := Lib.hid hB1
  have hz : ∀ d, d ≤ ps.length → 0 ≤ (stepsC ps n d).1 ∧ (stepsC ps n d).1 ≤ 20000 := by
    intro d
    induction d with
    | zero => intro _; exact hn
    | succ d ihd =>
      intro hd
      obtain ⟨a1, a2⟩ := ihd (by omega)
      have hl := HT.out.len (ps[ps.length - 1 - d]'(by omega)) (List.getElem_mem _)
      simp only [stepsC, List.getD_eq_getElem?_getD, List.getElem?_eq_getElem (show ps.length - 1 - d < ps.length by omega), Option.getD_some]
      refine ⟨Int.ediv_nonneg a1 (by omega), Int.le_trans (Int.ediv_le_self _ a1) a2⟩
  have Hz := Lib.hid hz
  have hb2' : Blk W1 (w.heap.size + 1) 3 ((List.replicate (ps.length - 0) (0 : Int) ++ (stepsC ps n 0).2).map (Value.int .i64)).toArray := by simpa [stepsC] using hb2
  clear hz hb1 hB1 hq3 hb2 hmk
  go_loopw [1, 6] (fun v i wr => ∃ d : Nat, d ≤ ps.length ∧ i = .int .i64 ((ps.length : Int) - 1 - d) ∧ v = .int .i64 (stepsC ps n d).1 ∧ Hid (Gr (fun b => b = w.heap.size + 1) W1 wr) ∧ Hid (Blk wr (w.heap.size + 1) 3 ((List.replicate (ps.length - d) (0 : Int) ++ (stepsC ps n d).2).map (Value.int .i64)).toArray)) (fun _ i _ => (intOf i + 1).toNat)
  case atStart => exact ⟨0, Nat.zero_le _, by simp, rfl, Gr.refl _ _, hb2'⟩
  case round =>
    obtain ⟨d, hd, rfl, rfl, hGr, hbl⟩ := hrel
    by_cases hlt : d < ps.length
    · obtain ⟨j, hj⟩ : ∃ j, j + d + 1 = ps.length := ⟨ps.length - 1 - d, by omega⟩
      have hjl : j < ps.length := by omega
      have hij : ((ps.length : Int) - 1 - d) = (j : Int) := by omega
      have hjn : ps.length - 1 - d = j := by omega
      have hst : stepsC ps n (d + 1) = ((stepsC ps n d).1 / (ps[j].period - ps[j].length + 1), (stepsC ps n d).1 % (ps[j].period - ps[j].length + 1) :: (stepsC ps n d).2) := by
        simp only [stepsC, hjn, List.getD_eq_getElem?_getD, List.getElem?_eq_getElem hjl, Option.getD_some]
      obtain ⟨hx0, hx1⟩ := Hz.out d hd
      have hp := HT.out.per ps[j] (List.getElem_mem _)
      have hq := HT.out.len ps[j] (List.getElem_mem _)
      have hbb : Blk wr w.heap.size 24 #[.string name, .int .i64 mem, .int .i64 F, .slice A ps.length c] := hGr.out.blk Hb1.out (by simp)
      have r3 : wr.cell? ⟨w.heap.size, 3, none⟩ = some (.slice A ps.length c) := hbb.cell 3
      have hBw : Below w.heap.size w wr := ((Gr.of_below (X := fun b => w.heap.size ≤ b) HB1.out).trans (hGr.out.mono fun k _ x => by omega)).below0 fun k hk x => by omega
      obtain ⟨b, o, rfl, hb, hcc⟩ := (H.out.below hBw) (by omega)
      have c1 : wr.cell? ⟨b, o + j * 10 + 1, none⟩ = some (.int .i64 ps[j].period) := hcc j hjl 1 _ rfl
      have c2 : wr.cell? ⟨b, o + j * 10 + 2, none⟩ = some (.int .i64 ps[j].length) := hcc j hjl 2 _ rfl
      have hi0 : (0 : Int) ≤ (j : Int) := by omega
      have hi1 : (j : Int) < (ps.length : Int) := by omega
      have m1 := IntWalk.i64_in (ps[j].period - ps[j].length) (by omega)
      have m2 := IntWalk.i64_in (ps[j].period - ps[j].length + 1) (by omega)
      have hK : 1 ≤ ps[j].period - ps[j].length + 1 := by omega
      have hK2 : ps[j].period - ps[j].length + 1 ≤ 2000 := by omega
      have hlen2 : (stepsC ps n d).2.length = d := stepsC_len ps n d
      have hcell : ∃ v, wr.cell? ⟨w.heap.size + 1, j, none⟩ = some v := by
        rw [hbl.out.cell]
        exact ⟨_, Array.getElem?_eq_getElem (by simp; omega)⟩
      obtain ⟨v0, hcell⟩ := hcell
      have hfz := hbl.out.frozen j
      rw [hij]
      have Hst := Lib.hid hst
      have Hbl := hbl
      have Hlen2 := Lib.hid hlen2
      have Hjd := Lib.hid hj
      clear hcc hst hp hq hbb hBw hbl hlen2 hij hjn hj
      generalize ps[j].period = P at *
      generalize ps[j].length = Ln at *
      generalize (stepsC ps n d).1 = x at *
      have hdec : decide ((j : Int) ≥ 0) = true := decide_eq_true hi0
      have hk0 : ((P - Ln + 1) == 0) = false := by simp; omega
      have hk1 : ¬ (P - Ln + 1) = 0 := by omega
      have hmod : x.tmod (P - Ln + 1) = x % (P - Ln + 1) := Int.tmod_eq_emod_of_nonneg hx0
      have hdiv : x.tdiv (P - Ln + 1) = x / (P - Ln + 1) := Int.tdiv_eq_ediv_of_nonneg hx0
      generalize hKK : P - Ln + 1 = K at *
      have w1 := IntWalk.i64_in (x % K) (by have h1 := Int.emod_nonneg x hk1; have h2 := Int.emod_lt_of_pos x (show 0 < K by omega); omega)
      have w2 : wrap64 (x / K) = x / K := by
        have h1 := Int.ediv_nonneg hx0 (show 0 ≤ K by omega)
        have h2 := Int.ediv_le_self K hx0
        unfold wrap64
        omega
      have hm : ((j : Int) - 1 + 1).toNat < ((j : Int) + 1).toNat := by omega
      go_wp2_with fail
      go_quiet (fail)
      go_wp2_with fail
      have hjd := Hjd.out
      have harr : ((List.replicate (ps.length - d) (0 : Int) ++ (stepsC ps n d).2).map (Value.int .i64)).toArray.setIfInBounds j (.int .i64 (x % K)) = ((List.replicate (ps.length - (d + 1)) (0 : Int) ++ (stepsC ps n (d + 1)).2).map (Value.int .i64)).toArray := by
        rw [Hst.out, show ps.length - d = j + 1 by omega, show ps.length - (d + 1) = j by omega, List.replicate_succ']
        simp [List.set_append]
      refine ⟨⟨d + 1, by omega, by congr 1; omega, by rw [w2, Hst.out], (hGr.out.trans (Gr.of_below (below_drewN (Below.refl _ _) nq))).trans (Gr.setCell _ _ _ rfl), ?_⟩, ?_⟩
      · have := (Hbl.out.drewN nq).set_ j (.int .i64 (x % K))
        rw [harr] at this
        exact this
      · exact hm
    · obtain rfl : d = ps.length := by omega
      rw [show ((ps.length : Int) - 1 - (ps.length : Int)) = -1 by omega]
      have hBw : Below w.heap.size w wr := ((Gr.of_below (X := fun b => w.heap.size ≤ b) HB1.out).trans (hGr.out.mono fun k _ x => by omega)).below0 fun k hk x => by omega
      have hri : RdInt wr wr.heap.size (some ⟨w.heap.size + 1, 0, none⟩) (choiceV ps n) := by
        have hb := hbl.out
        rw [Nat.sub_self, List.replicate_zero, List.nil_append] at hb
        exact RdInt.blk hb
      have HR := Lib.hid hri
      clear hri hbl hlt
      go_wp2_with fail
      go_ret
      exact ⟨w.heap.size + 1, ps.length, rfl, Nat.le_refl _, by omega, HR.out, hBw⟩
end Go.Proofs.Ytlmbffnmjfbglab
/- Copies of claims: CopyClaims, CopyClaim. -/
namespace Go.Proofs.Ytlmbffnmjfbglab
open Go.ChangeShapes Go.WideShapes Go.ChangeAt Go.RowKit

section
variable {B : Nat} {W W' : World} {V : Value} {cl : List Claim} {L : List CV}
/-- blocks below B may change. -/
theorem CR.old (h : CR B W V cl L) (hg : Gr (fun b => b < B) W W') : CR B W' V cl L := by
  refine ⟨⟨h.own.1, ?_⟩, h.cvs.keep fun b ⟨q1, q2, o, q3, q4⟩ => ?_⟩
  · rcases h.own.2 with hn | ⟨g, cap, cur, e, hb, hgg, rest⟩
    · exact .inl hn
    · exact .inr ⟨g, cap, cur, e, hb, (hg.block g (Array.getElem?_eq_some_iff.1 hgg).1 (by omega)).trans hgg, rest⟩
  · have e := hg.block b (Array.getElem?_eq_some_iff.1 q3).1 (by omega)
    exact ⟨fun _ => World.cell?_of_block e, q1, q2, o, e.trans q3, q4⟩
theorem CR.mono {B' : Nat} (h : CR B W V cl L) (hb : B' ≤ B) : CR B' W V cl L :=
  ⟨⟨h.own.1, h.own.2.imp id fun ⟨g, cap, cur, e, hg, r⟩ => ⟨g, cap, cur, e, Nat.le_trans hb hg, r⟩⟩, h.cvs.keep fun b ⟨q1, q2, q3⟩ => ⟨fun _ => rfl, by omega, q2, q3⟩⟩
/-- all its arrays lie from B on. -/
theorem CR.made (h : CR B W V cl L) : ∃ A c, V = .slice A cl.length c ∧ cl.length ≤ c ∧ c ≤ maxLen ∧ RdCls W (fun b => B ≤ b ∧ ∃ o, W.heap[b]? = some o ∧ o.isCells = true) A cl := by
  refine rdCls_of_own h.cvs.1.symm h.own (h.cvs.keep fun b ⟨q1, _, q3⟩ => ⟨fun _ => rfl, q1, q3⟩) fun g hg => ?_
  rcases h.own.2 with ⟨rfl, _⟩ | ⟨g', cap, cur, rfl, hb, hgg, _⟩
  · simp [Value.ownBlock] at hg
  · simp only [Value.ownBlock] at hg
    injection hg with hg
    subst hg
    exact ⟨hb, _, hgg, rfl⟩
end
/-- a copy. -/
def CopyPost (w : World) (l : List Claim) (e : Ending) (w' : World) : Prop := ∃ V L, e = .returned V ∧ CR w.heap.size w' V l L ∧ Below w.heap.size w w'

set_option maxRecDepth 100000 in
set_option maxHeartbeats 2000000 in
theorem copy1_c (f t wi : Int) (sub : List Claim) (A : Option Addr) (c : Nat) (w : World)
    (ih : ∀ W, Below w.heap.size w W → Calls Try.prog 18 #[.slice A sub.length c] W (CopyPost W sub)) :
    Calls Try.prog 38 #[.agg #[.int .i64 f, .int .i64 t, .int .i64 wi, .slice A sub.length c]] w fun e w' => ∃ V L, e = .returned (.agg #[.int .i64 f, .int .i64 t, .int .i64 wi, V]) ∧ CR w.heap.size w' V sub L ∧ Below w.heap.size w w' := by
  have hB : Below w.heap.size w ((w.alloc (.cells #[.int .i64 f, .int .i64 t, .int .i64 wi, .slice A sub.length c] 35)).alloc (.cells #[.int .i64 0, .int .i64 0, .int .i64 0, .slice none 0 0] 35)) := ((Below.refl _ w).alloc (Nat.le_refl _) _).alloc (by simp) _
  have hb0 : Blk ((w.alloc (.cells #[.int .i64 f, .int .i64 t, .int .i64 wi, .slice A sub.length c] 35)).alloc (.cells #[.int .i64 0, .int .i64 0, .int .i64 0, .slice none 0 0] 35)) w.heap.size 35 #[.int .i64 f, .int .i64 t, .int .i64 wi, .slice A sub.length c] := (Blk.new w 35 _).alloc _
  have hb1 : Blk ((w.alloc (.cells #[.int .i64 f, .int .i64 t, .int .i64 wi, .slice A sub.length c] 35)).alloc (.cells #[.int .i64 0, .int .i64 0, .int .i64 0, .slice none 0 0] 35)) (w.heap.size + 1) 35 #[.int .i64 0, .int .i64 0, .int .i64 0, .slice none 0 0] := by
    have := Blk.new (w.alloc (.cells #[.int .i64 f, .int .i64 t, .int .i64 wi, .slice A sub.length c] 35)) 35 #[.int .i64 0, .int .i64 0, .int .i64 0, .slice none 0 0]
    simpa only [World.size_alloc] using this
  have hih := ih _ hB
  clear ih
  go_enter Try.func38, Try.ntmps38
  go_wp2_with fail
  generalize (w.alloc (.cells #[.int .i64 f, .int .i64 t, .int .i64 wi, .slice A sub.length c] 35)).alloc (.cells #[.int .i64 0, .int .i64 0, .int .i64 0, .slice none 0 0] 35) = W1 at *
  refine hih.mono ?_
  rintro e W2 ⟨V, L, rfl, hCR, hb2⟩
  have hz := hb1.lt
  replace hb0 := hb0.below hb2 hb0.lt
  replace hb1 := hb1.below hb2 hb1.lt
  have hB2 := hB.trans (hb2.mono hB.size)
  clear hih hb2 hB
  have q0 : W2.cell? ⟨w.heap.size, 0, none⟩ = some (.int .i64 f) := hb0.cell 0
  have q1 : W2.cell? ⟨w.heap.size, 1, none⟩ = some (.int .i64 t) := hb0.cell 1
  have q2 : W2.cell? ⟨w.heap.size, 2, none⟩ = some (.int .i64 wi) := hb0.cell 2
  have q3 : W2.cell? ⟨w.heap.size, 3, none⟩ = some (.slice A sub.length c) := hb0.cell 3
  have p0 : W2.cell? ⟨w.heap.size + 1, 0, none⟩ = some (.int .i64 0) := hb1.cell 0
  have p1 : W2.cell? ⟨w.heap.size + 1, 1, none⟩ = some (.int .i64 0) := hb1.cell 1
  have p2 : W2.cell? ⟨w.heap.size + 1, 2, none⟩ = some (.int .i64 0) := hb1.cell 2
  have p3 : W2.cell? ⟨w.heap.size + 1, 3, none⟩ = some (.slice none 0 0) := hb1.cell 3
  have f3 := hb0.frozen 3
  have g0 := hb1.frozen 0
  have g1 := hb1.frozen 1
  have g2 := hb1.frozen 2
  have g3 := hb1.frozen 3
  obtain ⟨A', c', rfl, _⟩ := hCR.made
  have HC := Lib.hid hCR
  have HB := Lib.hid hB2
  have Hb0 := Lib.hid hb0
  have Hb1 := Lib.hid hb1
  have Hz := Lib.hid hz
  clear hCR hB2 hb0 hb1 hz
  go_wp2_with fail
  have hgr : Gr (fun b => b = w.heap.size ∨ b = w.heap.size + 1) W2 (((((W2.setCell ⟨w.heap.size, 3, none⟩ (.slice A' sub.length c')).setCell ⟨w.heap.size + 1, 0, none⟩ (.int .i64 f)).setCell ⟨w.heap.size + 1, 1, none⟩ (.int .i64 t)).setCell ⟨w.heap.size + 1, 2, none⟩ (.int .i64 wi)).setCell ⟨w.heap.size + 1, 3, none⟩ (.slice A' sub.length c')) :=
    ((((Gr.setCell _ _ _ (by simp)).trans (Gr.setCell _ _ _ (by simp))).trans (Gr.setCell _ _ _ (by simp))).trans (Gr.setCell _ _ _ (by simp))).trans (Gr.setCell _ _ _ (by simp))
  have hr : Blk (((((W2.setCell ⟨w.heap.size, 3, none⟩ (.slice A' sub.length c')).setCell ⟨w.heap.size + 1, 0, none⟩ (.int .i64 f)).setCell ⟨w.heap.size + 1, 1, none⟩ (.int .i64 t)).setCell ⟨w.heap.size + 1, 2, none⟩ (.int .i64 wi)).setCell ⟨w.heap.size + 1, 3, none⟩ (.slice A' sub.length c')) (w.heap.size + 1) 35 #[.int .i64 f, .int .i64 t, .int .i64 wi, .slice A' sub.length c'] :=
    (((((Hb1.out.far (p := ⟨w.heap.size, 3, none⟩) (by simp) _).set_ 0 (.int .i64 f)).set_ 1 (.int .i64 t)).set_ 2 (.int .i64 wi)).set_ 3 (.slice A' sub.length c'))
  generalize ((((W2.setCell ⟨w.heap.size, 3, none⟩ (.slice A' sub.length c')).setCell ⟨w.heap.size + 1, 0, none⟩ (.int .i64 f)).setCell ⟨w.heap.size + 1, 1, none⟩ (.int .i64 t)).setCell ⟨w.heap.size + 1, 2, none⟩ (.int .i64 wi)).setCell ⟨w.heap.size + 1, 3, none⟩ (.slice A' sub.length c') = W3 at *
  have r0 : W3.cell? ⟨w.heap.size + 1, 0, none⟩ = some (.int .i64 f) := hr.cell 0
  have r1 : W3.cell? ⟨w.heap.size + 1, 1, none⟩ = some (.int .i64 t) := hr.cell 1
  have r2 : W3.cell? ⟨w.heap.size + 1, 2, none⟩ = some (.int .i64 wi) := hr.cell 2
  have r3 : W3.cell? ⟨w.heap.size + 1, 3, none⟩ = some (.slice A' sub.length c') := hr.cell 3
  have hz := Hz.out
  refine bodyPost_ret (v := .agg #[.int .i64 f, .int .i64 t, .int .i64 wi, .slice A' sub.length c']) (by simp [results, Try.results38, go_sem, r0, r1, r2, r3]) rfl ⟨_, L, rfl, (HC.out.old (hgr.mono fun k _ x => by rcases x with x | x <;> omega)).mono (by omega), ((Gr.of_below (X := fun b => w.heap.size ≤ b) HB.out).trans (hgr.mono fun k _ x => by rcases x with x | x <;> omega)).below0 fun k hk x => by omega⟩

set_option maxRecDepth 100000 in
set_option maxHeartbeats 4000000 in
theorem copy_c : ∀ (N : Nat) (l : List Claim), sizeL l < N → ∀ (A : Option Addr) (c : Nat) (w : World), RdK w A l → sizeL l ≤ 1000000 → Calls Try.prog 18 #[.slice A l.length c] w (CopyPost w l) := by
  intro N
  induction N with
  | zero => intro l hl; omega
  | succ N ih =>
    intro l hl A c w h hszl
    have hlen : l.length ≤ 1000000 := Nat.le_trans (sizeL_len l) hszl
    obtain ⟨i0, hi0, hz0, hz1, hz2⟩ := info_parts info35
    have IH := Lib.hid ih
    have H := Lib.hid h
    have HN := Lib.hid hl
    clear ih h hl
    go_enter Try.func18, Try.ntmps18
    go_wp2_with fail
    go_loopw [3, 4] (fun v i wr => ∃ (k : Nat) (L : List CV), k ≤ l.length ∧ i = .int .i64 k ∧ Below w.heap.size w wr ∧ Hid (CR w.heap.size wr v (l.take k) L)) (fun _ i _ => l.length - (intOf i).toNat)
    case atStart => exact ⟨0, [], Nat.zero_le _, rfl, Below.refl _ _, CR.nil _ _⟩
    case round =>
      obtain ⟨k, L, hk, rfl, hBr, hCR⟩ := hrel
      by_cases hlt : k < l.length
      · obtain ⟨b, o, rfl, hb, hrl⟩ := RdK.keep' hBr H.out (by omega)
        obtain ⟨c0, c1, c2, As, cs, c3, hs1, hs2, hsr⟩ := (RdL.at_ l o k hlt hrl).open'
        have hi0' : (0 : Int) ≤ (k : Int) := by omega
        have hi1' : (k : Int) < (l.length : Int) := by omega
        have hsz := sizeL_mem hlt
        rw [Claim.subN_sub] at hsz
        have hts : l.take (k + 1) = l.take k ++ [l[k]] := by rw [List.take_add_one, List.getElem?_eq_getElem hlt]; rfl
        have htl : (l.take k).length = k := by simp; omega
        have hsubN : sizeL l[k].sub < N := by have := HN.out; omega
        have hsl : l[k].sub.length ≤ sizeL l[k].sub := sizeL_len _
        cases hcx : l[k] with
        | mk f t wi sub =>
        rw [hcx] at c0 c1 c2 c3 hs1 hsr hsz hts hsubN hsl
        simp only [Claim.frm, Claim.to, Claim.wth, Claim.sub] at c0 c1 c2 c3 hs1 hsr hsz hsubN hsl
        have hcp := copy1_c f t wi sub As cs wr (fun W hW => IH.out sub hsubN As cs W (RdK.keep' hW hsr) (by omega))
        have Hcp := Lib.hid hcp
        have Hts := Lib.hid hts
        have Htl := Lib.hid htl
        clear hcp hts htl hrl hsr hcx hsz hsubN hb
        go_wp2_with fail
        refine Hcp.out.mono ?_
        rintro e W2 ⟨V', L', rfl, hCR2, hb2⟩
        obtain ⟨A', c', rfl, hc1, hc2, hrd⟩ := hCR2.made
        obtain ⟨X, hX⟩ : ∃ X, X = (W2.alloc (.cells #[.int .i64 f, .int .i64 t, .int .i64 wi, .slice A' sub.length c'] 35)).alloc (.cells #[.int .i64 f, .int .i64 t, .int .i64 wi, .slice A' sub.length c'] 35) := ⟨_, rfl⟩
        have hBX : Below W2.heap.size W2 X := by rw [hX]; exact ((Below.refl _ _).alloc (Nat.le_refl _) _).alloc (by simp) _
        have hbT : Blk X (W2.heap.size + 1) 35 #[.int .i64 f, .int .i64 t, .int .i64 wi, .slice A' sub.length c'] := by
          rw [hX]
          have := Blk.new (W2.alloc (.cells #[.int .i64 f, .int .i64 t, .int .i64 wi, .slice A' sub.length c'] 35)) 35 #[.int .i64 f, .int .i64 t, .int .i64 wi, .slice A' sub.length c']
          simpa only [World.size_alloc] using this
        have hBwX := hb2.trans (hBX.mono hb2.size)
        have hcr := hCR.out.below hBwX
        have hVlt : ∀ b, u3.ownBlock = some b → b < wr.heap.size := fun b hb => (hCR.out.own.lt b hb).2
        have hBr2 := hBr.trans (hBwX.mono hBr.size)
        have hrdX : RdCls X (fun b => w.heap.size ≤ b ∧ u3.ownBlock ≠ some b ∧ ∃ o, X.heap[b]? = some o ∧ o.isCells = true) A' sub := hrd.keep fun b ⟨g1, o, g2, g3⟩ => by
          have e := hBX.block b (Array.getElem?_eq_some_iff.1 g2).1
          exact ⟨fun _ => World.cell?_of_block e, by have := hBr.size; omega, fun e2 => by have := hVlt b e2; omega, o, e.trans g2, g3⟩
        have Hcr := Lib.hid hcr
        have HbT := Lib.hid hbT
        have HrX := Lib.hid hrdX
        have HBX := Lib.hid hBr2
        clear hcr hbT hrdX hBr2 hCR hCR2 hrd hBwX hBX hb2 c0 c1 c2 c3
        go_wp2_with (at_builtin; rw [← hX]; refine wpList_append_lies _ rfl _ _ 29 rfl w.heap.size 35 i0 _ 4 48 Try.underlying29 hi0 hz0 hz1 hz2 rfl (by decide) u3 (l.take k).length _ rfl Hcr.out.own ⟨W2.heap.size + 1, 0, none⟩ 1 1 (CV.cells ⟨f, t, wi, ⟨A', sub.length, c'⟩⟩) rfl rfl (World.news_of_block HbT.out) (by simp [CV.cells, Value.oneCell']) (by omega) (by rw [Htl.out]; unfold maxLen; omega) (by rw [Htl.out]; omega) HBX.out.size _ rfl ?_)
        intro g cap w3 hown hgrow hg hgl
        rw [← hX] at hgrow
        have hg' : u3.ownBlock = some g ∨ g = X.heap.size := by rw [hX]; simpa using hg
        have hpush := Hcr.out.push hgrow ⟨f, t, wi, ⟨A', sub.length, c'⟩⟩ (.mk f t wi sub) (g := g) (cap := cap) (by rw [Htl.out]; exact hown) hg' ⟨rfl, rfl, rfl, rfl, hc1, hc2, HrX.out⟩
        rw [← Hts.out] at hpush
        have hB5 : Below w.heap.size w w3 := HBX.out.grown hgrow HBX.out.size (fun b hb => (Hcr.out.own.lt b hb).1)
        rw [Htl.out] at hpush
        have HP := Lib.hid hpush
        clear hown hgrow hg hg' hpush Hcr HbT HrX HBX hX
        go_wp2_with fail
        go_roundw
        case rel => exact ⟨k + 1, _, by omega, by go_num, hB5, HP.out⟩
        case measure => simp [intOf]; omega
      · obtain rfl : k = l.length := by omega
        have hfin := hCR.out
        rw [List.take_length] at hfin
        have HF := Lib.hid hfin
        clear hCR hfin
        go_wp2_with fail
        go_ret
        exact ⟨_, L, rfl, HF.out, hBr⟩
end Go.Proofs.Ytlmbffnmjfbglab
/- Numbers and their digits. -/
namespace Go.Proofs.Ytlmbffnmjfbglab

/-- the product of radices. -/
def prodK : List Int → Int
  | [] => 1
  | k :: r => k * prodK r
/-- the digits of a number, the first the most significant. -/
def digK : List Int → Int → List Int
  | [], _ => []
  | _ :: r, n => (n / prodK r) :: digK r (n % prodK r)
/-- the number of digits. -/
def valK : List Int → List Int → Int
  | _ :: r, x :: xs => x * prodK r + valK r xs
  | _, _ => 0
/-- digits in range. -/
def inK : List Int → List Int → Prop
  | [], [] => True
  | k :: r, x :: xs => 0 ≤ x ∧ x < k ∧ inK r xs
  | _, _ => False
theorem prodK_pos : ∀ {ks : List Int}, (∀ k ∈ ks, 1 ≤ k) → 1 ≤ prodK ks
  | [], _ => Int.le_refl _
  | k :: r, h => by
    have h1 := h k (by simp)
    have h2 := prodK_pos (ks := r) fun x hx => h x (by simp [hx])
    have := Int.mul_le_mul h1 h2 (by omega) (by omega)
    simpa [prodK] using this
theorem valK_range : ∀ {ks xs : List Int}, (∀ k ∈ ks, 1 ≤ k) → inK ks xs → 0 ≤ valK ks xs ∧ valK ks xs < prodK ks
  | [], [], _, _ => by simp [valK, prodK]
  | k :: r, x :: xs, h, hi => by
    obtain ⟨h1, h2, h3⟩ := hi
    have hp := prodK_pos (ks := r) fun y hy => h y (by simp [hy])
    obtain ⟨v1, v2⟩ := valK_range (fun y hy => h y (by simp [hy])) h3
    simp only [valK, prodK]
    have a1 : 0 ≤ x * prodK r := Int.mul_nonneg h1 (by omega)
    have a2 : (x + 1) * prodK r ≤ k * prodK r := Int.mul_le_mul_of_nonneg_right (by omega) (by omega)
    rw [Int.add_mul, Int.one_mul] at a2
    omega
theorem dig_val : ∀ {ks xs : List Int}, (∀ k ∈ ks, 1 ≤ k) → inK ks xs → digK ks (valK ks xs) = xs
  | [], [], _, _ => rfl
  | k :: r, x :: xs, h, hi => by
    obtain ⟨h1, h2, h3⟩ := hi
    have hp := prodK_pos (ks := r) fun y hy => h y (by simp [hy])
    obtain ⟨v1, v2⟩ := valK_range (fun y hy => h y (by simp [hy])) h3
    have e1 : (x * prodK r + valK r xs) / prodK r = x := by
      rw [Int.add_comm, Int.add_mul_ediv_right _ _ (by omega), Int.ediv_eq_zero_of_lt v1 v2, Int.zero_add]
    have e2 : (x * prodK r + valK r xs) % prodK r = valK r xs := by
      rw [Int.add_comm, Int.add_mul_emod_self_right, Int.emod_eq_of_lt v1 v2]
    simp only [digK, valK]
    rw [e1, e2, dig_val (fun y hy => h y (by simp [hy])) h3]
theorem dig_in : ∀ {ks : List Int} {n : Int}, (∀ k ∈ ks, 1 ≤ k) → 0 ≤ n → n < prodK ks → inK ks (digK ks n)
  | [], _, _, _, _ => trivial
  | k :: r, n, h, h0, h1 => by
    have hp := prodK_pos (ks := r) fun y hy => h y (by simp [hy])
    simp only [digK, inK]
    refine ⟨Int.ediv_nonneg h0 (by omega), Int.ediv_lt_of_lt_mul (by omega) (by simpa [prodK] using h1), dig_in (fun y hy => h y (by simp [hy])) (Int.emod_nonneg _ (by omega)) (Int.emod_lt_of_pos _ (by omega))⟩
theorem val_dig : ∀ {ks : List Int} {n : Int}, (∀ k ∈ ks, 1 ≤ k) → 0 ≤ n → n < prodK ks → valK ks (digK ks n) = n
  | [], n, _, h0, h1 => by simp only [prodK] at h1; simp only [valK]; omega
  | k :: r, n, h, h0, h1 => by
    have hp := prodK_pos (ks := r) fun y hy => h y (by simp [hy])
    simp only [digK, valK]
    rw [val_dig (fun y hy => h y (by simp [hy])) (Int.emod_nonneg _ (by omega)) (Int.emod_lt_of_pos _ (by omega))]
    have := Int.mul_ediv_add_emod n (prodK r)
    rw [Int.mul_comm] at this
    exact this
/-- the order of numbers is that of their digits. -/
theorem val_lt : ∀ {ks xs ys : List Int} (k : Nat), (∀ k ∈ ks, 1 ≤ k) → inK ks xs → inK ks ys → xs.take k = ys.take k → xs.getD k 0 < ys.getD k 0 → valK ks xs < valK ks ys
  | [], [], [], k, _, _, _, _, h => by simp at h
  | a :: r, x :: xs, y :: ys, 0, h, hx, hy, _, hlt => by
    obtain ⟨h1, h2, h3⟩ := hx
    obtain ⟨g1, g2, g3⟩ := hy
    have hp := prodK_pos (ks := r) fun y hy => h y (by simp [hy])
    obtain ⟨v1, v2⟩ := valK_range (fun y hy => h y (by simp [hy])) h3
    obtain ⟨u1, u2⟩ := valK_range (fun y hy => h y (by simp [hy])) g3
    simp at hlt
    have a2 : (x + 1) * prodK r ≤ y * prodK r := Int.mul_le_mul_of_nonneg_right (by omega) (by omega)
    rw [Int.add_mul, Int.one_mul] at a2
    simp only [valK]
    omega
  | a :: r, x :: xs, y :: ys, k + 1, h, hx, hy, ht, hlt => by
    simp only [List.take_succ_cons, List.cons.injEq] at ht
    obtain ⟨rfl, ht⟩ := ht
    have := val_lt k (fun y hy => h y (by simp [hy])) hx.2.2 hy.2.2 ht (by simpa using hlt)
    simp only [valK]
    omega
end Go.Proofs.Ytlmbffnmjfbglab
/- The choices, in their order. -/
namespace Go.Proofs.Ytlmbffnmjfbglab

/-- how many offsets each partition has. -/
def radix (ps : List Part) : List Int := ps.map fun p => p.period - p.length + 1
theorem radix_pos {F : Int} {ps : List Part} (hT : timesV F ps = true) : ∀ k ∈ radix ps, 1 ≤ k := fun k hk => by
  obtain ⟨p, hp, rfl⟩ := List.mem_map.1 hk
  have := (timesV_ok hT).len p hp
  omega
theorem radix_get {ps : List Part} {k : Nat} (hk : k < ps.length) : (radix ps)[k]? = some (lastP ps k + 1) := by
  simp [radix, lastP, hk]
theorem emod_mul_div (n M K : Int) (hM : 1 ≤ M) (hK : 1 ≤ K) : n % (K * M) / M = n / M % K := by
  have e1 := Int.mul_ediv_add_emod n M
  have e2 := Int.mul_ediv_add_emod (n / M) K
  have s1 := Int.emod_nonneg n (show M ≠ 0 by omega)
  have s2 := Int.emod_lt_of_pos n (show 0 < M by omega)
  have t1 := Int.emod_nonneg (n / M) (show K ≠ 0 by omega)
  have t2 := Int.emod_lt_of_pos (n / M) (show 0 < K by omega)
  have hn : n = (M * (n / M % K) + n % M) + (n / M / K) * (K * M) := by
    have e3 : M * (n / M) = M * (K * (n / M / K) + n / M % K) := by rw [e2]
    rw [Int.mul_add] at e3
    have e4 : M * (K * (n / M / K)) = n / M / K * (K * M) := by
      rw [← Int.mul_assoc, Int.mul_comm M K, Int.mul_comm]
    omega
  have b1 : 0 ≤ M * (n / M % K) := Int.mul_nonneg (by omega) t1
  have b2 : M * (n / M % K + 1) ≤ M * K := Int.mul_le_mul_of_nonneg_left (by omega) (by omega)
  rw [Int.mul_add, Int.mul_one, Int.mul_comm M K] at b2
  have hm : n % (K * M) = M * (n / M % K) + n % M := by
    conv => lhs; rw [hn]
    rw [Int.add_mul_emod_self_right, Int.emod_eq_of_lt (by omega) (by omega)]
  rw [hm, Int.add_comm, Int.add_mul_ediv_left _ _ (by omega), Int.ediv_eq_zero_of_lt s1 s2, Int.zero_add]
theorem steps_dig {F : Int} {ps : List Part} (hT : timesV F ps = true) (n : Int) (hn : 0 ≤ n) : ∀ d, d ≤ ps.length → stepsC ps n d = (n / prodK ((radix ps).drop (ps.length - d)), digK ((radix ps).drop (ps.length - d)) (n % prodK ((radix ps).drop (ps.length - d))))
  | 0, _ => by
    have : (radix ps).drop (ps.length - 0) = [] := by simp [radix]
    rw [this]
    simp [stepsC, prodK, digK]
  | d + 1, hd => by
    have ih := steps_dig hT n hn d (by omega)
    have hj : ps.length - 1 - d < ps.length := by omega
    have hdr : (radix ps).drop (ps.length - (d + 1)) = (lastP ps (ps.length - 1 - d) + 1) :: (radix ps).drop (ps.length - d) := by
      have hlt : ps.length - (d + 1) < (radix ps).length := by simp [radix]; omega
      rw [List.drop_eq_getElem_cons hlt, show ps.length - (d + 1) + 1 = ps.length - d by omega]
      congr 1
      have := radix_get (ps := ps) hj
      rw [show ps.length - 1 - d = ps.length - (d + 1) by omega, List.getElem?_eq_getElem hlt] at this
      injection this with this
      rw [this, show ps.length - 1 - d = ps.length - (d + 1) by omega]
    have hr : (ps.getD (ps.length - 1 - d) default).period - (ps.getD (ps.length - 1 - d) default).length + 1 = lastP ps (ps.length - 1 - d) + 1 := rfl
    have hpos : ∀ k ∈ (radix ps).drop (ps.length - d), 1 ≤ k := fun k hk => radix_pos hT k (List.mem_of_mem_drop hk)
    have hM := prodK_pos hpos
    have hK : 1 ≤ lastP ps (ps.length - 1 - d) + 1 := radix_pos hT _ (List.mem_of_getElem? (radix_get hj))
    simp only [stepsC, hr]
    rw [ih, hdr]
    simp only [prodK, digK]
    generalize prodK ((radix ps).drop (ps.length - d)) = M at *
    generalize lastP ps (ps.length - 1 - d) + 1 = K at *
    rw [emod_mul_div n M K hM hK, Int.emod_emod_of_dvd n (Int.dvd_mul_left K M)]
    congr 1
    rw [Int.ediv_ediv_of_nonneg (by omega), Int.mul_comm]
theorem choice_dig {F : Int} {ps : List Part} (hT : timesV F ps = true) {n : Int} (h0 : 0 ≤ n) (h1 : n < prodK (radix ps)) : choiceV ps n = digK (radix ps) n := by
  unfold choiceV
  rw [steps_dig hT n h0 ps.length (Nat.le_refl _), Nat.sub_self, List.drop_zero, Int.emod_eq_of_lt h0 h1]
theorem chV_prod : ∀ (l : List Part) (n : Int), 0 ≤ chV l n → chV l n = n * prodK (radix l)
  | [], n, _ => by simp [chV, radix, prodK]
  | p :: r, n, h => by
    rw [chV] at h ⊢
    split at h
    · omega
    · rename_i hg
      rw [if_neg hg, chV_prod r _ h]
      simp only [radix, List.map_cons, prodK, Int.mul_assoc]
theorem choices_prod {F : Int} {ps : List Part} (h : 0 ≤ choicesV F ps) : timesV F ps = true ∧ choicesV F ps = prodK (radix ps) := by
  unfold choicesV at h ⊢
  split at h
  · rename_i ht
    rw [if_pos ht]
    exact ⟨ht, by rw [chV_prod ps 1 h, Int.one_mul]⟩
  · omega
end Go.Proofs.Ytlmbffnmjfbglab
/- Plan decides: the plain law. -/
namespace Go.Proofs.Ytlmbffnmjfbglab

theorem inK_get : ∀ {ks xs : List Int}, inK ks xs ↔ xs.length = ks.length ∧ ∀ k, k < ks.length → 0 ≤ xs.getD k 0 ∧ xs.getD k 0 < ks.getD k 0
  | [], [] => by simp [inK]
  | [], x :: xs => by simp [inK]
  | k :: r, [] => by simp [inK]
  | k :: r, x :: xs => by
    rw [inK, inK_get (ks := r) (xs := xs)]
    constructor
    · rintro ⟨h1, h2, h3, h4⟩
      refine ⟨by simpa using h3, fun i hi => ?_⟩
      match i with
      | 0 => exact ⟨by simpa using h1, by simpa using h2⟩
      | i + 1 => simpa using h4 i (by simpa using hi)
    · rintro ⟨h3, h4⟩
      refine ⟨by simpa using (h4 0 (by simp)).1, by simpa using (h4 0 (by simp)).2, by simpa using h3, fun i hi => ?_⟩
      simpa using h4 (i + 1) (by simpa using hi)
theorem radix_len (ps : List Part) : (radix ps).length = ps.length := by simp [radix]
theorem radix_getD {ps : List Part} {k : Nat} (hk : k < ps.length) : (radix ps).getD k 0 = lastP ps k + 1 := by
  rw [List.getD_eq_getElem?_getD, radix_get hk]; rfl
/-- possible offsets. -/
def Possible (ps : List Part) (xs : List Int) : Prop := xs.length = ps.length ∧ ∀ k, k < ps.length → 0 ≤ xs.getD k 0 ∧ xs.getD k 0 ≤ lastP ps k
theorem possible_in {ps : List Part} {xs : List Int} : Possible ps xs ↔ inK (radix ps) xs := by
  rw [inK_get, radix_len]
  constructor
  · rintro ⟨h1, h2⟩
    exact ⟨h1, fun k hk => by rw [radix_getD hk]; have := h2 k hk; omega⟩
  · rintro ⟨h1, h2⟩
    exact ⟨h1, fun k hk => by have := h2 k hk; rw [radix_getD hk] at this; omega⟩
theorem IsPlan.possible {ps : List Part} {xs : List Int} (h : IsPlan ps xs) : Possible ps xs := ⟨h.1, fun k hk => ⟨(h.2 k hk).1, (h.2 k hk).2.1⟩⟩
/-- each choice is possible. -/
theorem choice_possible {F : Int} {ps : List Part} {n : Int} (h0 : 0 ≤ n) (h1 : n < choicesV F ps) : Possible ps (choiceV ps n) := by
  obtain ⟨hT, hN⟩ := choices_prod (F := F) (ps := ps) (by omega)
  rw [possible_in, choice_dig hT h0 (by omega)]
  exact dig_in (radix_pos hT) h0 (by omega)
/-- each possible offsets are a choice. -/
theorem choice_of {F : Int} {ps : List Part} (hN : 0 ≤ choicesV F ps) {xs : List Int} (hx : Possible ps xs) : ∃ n, 0 ≤ n ∧ n < choicesV F ps ∧ choiceV ps n = xs ∧ valK (radix ps) xs = n := by
  obtain ⟨hT, hp⟩ := choices_prod hN
  have hi := possible_in.1 hx
  obtain ⟨v0, v1⟩ := valK_range (radix_pos hT) hi
  exact ⟨_, v0, by omega, by rw [choice_dig hT v0 v1, dig_val (radix_pos hT) hi], rfl⟩
/-- the first choice that is a plan is the least plan. -/
theorem first_choice {F : Int} {ps : List Part} {i : Int} (h0 : 0 ≤ i) (h1 : i < choicesV F ps) (hpl : IsPlan ps (choiceV ps i)) (hmin : ∀ j, 0 ≤ j → j < i → ¬ IsPlan ps (choiceV ps j)) {os : List Int} (ho : IsPlan ps os) (hl : ∀ xs, IsPlan ps xs → LexLe os xs) : os = choiceV ps i := by
  obtain ⟨hT, hp⟩ := choices_prod (F := F) (ps := ps) (by omega)
  rcases hl _ hpl with h | ⟨k, hk, ht, hlt⟩
  · exact h
  · exfalso
    obtain ⟨n, n0, n1, n2, n3⟩ := choice_of (F := F) (by omega) ho.possible
    have := val_lt k (radix_pos hT) (possible_in.1 ho.possible) (possible_in.1 hpl.possible) ht hlt
    rw [n3] at this
    rw [choice_dig hT h0 (by omega), val_dig (radix_pos hT) h0 (by omega)] at this
    exact hmin n n0 this (n2 ▸ ho)
/-- Plan's answer, told by the choices: an answer that the search is too long says nothing. -/
theorem decides {F : Int} {ps : List Part} (hN : 0 ≤ choicesV F ps) :
    ((planV F ps).2.2 = 5 ∧ (planV F ps).1 = [] ∧ (planV F ps).2.1 = []) ∨
    ((∀ i, 0 ≤ i → i < choicesV F ps → IsPlan ps (choiceV ps i) → (∀ j, 0 ≤ j → j < i → ¬ IsPlan ps (choiceV ps j)) → planV F ps = (choiceV ps i, [], 0) ∧ fitsV F ps (choiceV ps i) = true) ∧
      ((∀ i, 0 ≤ i → i < choicesV F ps → ¬ IsPlan ps (choiceV ps i)) → (planV F ps).2.2 = 130 ∧ (planV F ps).1 = [] ∧ checkV F ps (planV F ps).2.1 = true)) := by
  obtain ⟨hT, _⟩ := choices_prod hN
  rcases planV_cases hT with ⟨os, hv, ho, hl⟩ | h | ⟨h1, h2, h3, h4⟩
  · right
    refine ⟨fun i h0 h1 hpl hmin => ?_, fun hno => ?_⟩
    · rw [← first_choice h0 h1 hpl hmin ho hl]
      exact ⟨hv, (fits_iff hT os).2 ho⟩
    · exfalso
      obtain ⟨n, n0, n1, n2, _⟩ := choice_of hN ho.possible
      exact hno n n0 n1 (n2 ▸ ho)
  · exact .inl h
  · right
    exact ⟨fun i h0 h1 hpl _ => absurd hpl (h4 _), fun _ => ⟨h1, h2, h3⟩⟩
theorem chV_bd : ∀ (ps : List Part) (n : Int), n ≤ 20000 → chV ps n ≤ 20000
  | [], n, h => h
  | p :: r, n, h => by
    unfold chV
    split
    · omega
    · exact chV_bd r _ (by omega)
theorem choices_bd {F : Int} {ps : List Part} (_h : 0 ≤ choicesV F ps) : choicesV F ps ≤ 20000 := by
  unfold choicesV
  split
  · exact chV_bd ps 1 (by omega)
  · omega
theorem planV_len (F : Int) (ps : List Part) : (planV F ps).2.1.length ≤ 16384 := by
  unfold planV
  split
  · split
    · simp
    · rename_i cl t _
      split
      · simp
      · have := sizeL_len cl
        simp only
        omega
  · simp
end Go.Proofs.Ytlmbffnmjfbglab
