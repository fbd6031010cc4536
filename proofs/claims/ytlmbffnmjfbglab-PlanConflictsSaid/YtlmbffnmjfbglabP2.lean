/- The contract of plan's times. -/
import Derived.Test.YtlmbffnmjfbglabP1
import Derived.Test.YtlmbffnmjfbglabwFi
namespace Go.Proofs.Ytlmbffnmjfbglab
open Go.ChangeShapes Go.WideShapes Go.ChangeAt Go.RowKit

theorem RdInt.blk {W : World} {B : Nat} {l : List Int} (h : Blk W B 3 (l.map (Value.int .i64)).toArray) : RdInt W W.heap.size (some ⟨B, 0, none⟩) l := fun _ =>
  ⟨B, 0, rfl, h.lt, fun i hi => by rw [h.cell]; simp [hi]⟩
theorem make_zero (n : Nat) (w : World) : Blk (w.alloc (.cells (madeCells #[Value.int .i64 0] n) 3)) w.heap.size 3 ((List.replicate n (0 : Int)).map (Value.int .i64)).toArray := by
  have e : madeCells #[Value.int .i64 0] n = ((List.replicate n (0 : Int)).map (Value.int .i64)).toArray := by
    refine Array.ext (by simp [madeCells]) fun i h1 h2 => ?_
    simp [madeCells, Nat.mod_one]
  rw [← e]
  exact Blk.new _ _ _
theorem run_make_ints (n : Nat) (hn : n * 8 ≤ 140737488355328) (W : World) : (Instr.makeSlice 28 (.int .i64 (n : Int)) (.int .i64 (n : Int))).run Try.prog W = .ok (.slice (some ⟨W.heap.size, 0, none⟩) n n) (W.alloc (.cells (madeCells #[.int .i64 0] n) 3)) := by
  obtain ⟨i0, hi0, hz0, hz1, hz2⟩ := info_parts info3
  have e := run_make_rowN (P := Try.prog) 28 3 i0 _ Try.underlying28 hi0 hz0 .i64 .i64 n n (by omega) (by rw [hz2]; omega) (by omega) W
  rw [hz1] at e
  simpa [Value.cells] using e

/-- the times of a module are valid. -/
def ptimes (F : Int) (ps : List Part) : Bool := decide ((slotsV F ps (List.replicate ps.length 0)).2 = 0)

set_option maxRecDepth 100000 in
set_option maxHeartbeats 1000000 in
theorem ptimes_c (name : ByteArray) (mem F : Int) (ps : List Part) (A : Option Addr) (c : Nat) (w : World) (h : RdPart w w.heap.size A ps) (hl : ps.length * 8 ≤ 140737488355328) :
    Calls Try.prog 35 #[.agg #[.string name, .int .i64 mem, .int .i64 F, .slice A ps.length c]] w fun e w' => e = .returned (.bool (ptimes F ps)) ∧ Below w.heap.size w w' := by
  have hB : Below w.heap.size w (w.alloc (.cells #[.string name, .int .i64 mem, .int .i64 F, .slice A ps.length c] 24)) := (Below.refl _ w).alloc (Nat.le_refl _) _
  have hblk := Blk.new w 24 #[.string name, .int .i64 mem, .int .i64 F, .slice A ps.length c]
  have hmk := fun W => run_make_ints ps.length hl W
  go_enter Try.func35, Try.ntmps35
  go_wp2_with fail
  have hp1 : RdPart (w.alloc (.cells #[.string name, .int .i64 mem, .int .i64 F, .slice A ps.length c] 24)) (w.alloc (.cells #[.string name, .int .i64 mem, .int .i64 F, .slice A ps.length c] 24)).heap.size A ps := h.below hB
  refine nameW fun W1 hW1 => ?_
  rw [← hW1] at hB hblk hp1
  clear hW1 h
  have q0 : W1.cell? ⟨w.heap.size, 0, none⟩ = some (.string name) := hblk.cell 0
  have q1 : W1.cell? ⟨w.heap.size, 1, none⟩ = some (.int .i64 mem) := hblk.cell 1
  have q2 : W1.cell? ⟨w.heap.size, 2, none⟩ = some (.int .i64 F) := hblk.cell 2
  have q3 : W1.cell? ⟨w.heap.size, 3, none⟩ = some (.slice A ps.length c) := hblk.cell 3
  have hB2 : Below W1.heap.size W1 (W1.alloc (.cells (madeCells #[.int .i64 0] ps.length) 3)).drew := ((Below.refl _ W1).alloc (Nat.le_refl _) _).drew
  have hsl := slots_c name mem F ps A c (List.replicate ps.length 0) (some ⟨W1.heap.size, 0, none⟩) ps.length (W1.alloc (.cells (madeCells #[.int .i64 0] ps.length) 3)).drew (hp1.below hB2) (RdInt.blk (show Blk (W1.alloc (.cells (madeCells #[.int .i64 0] ps.length) 3)).drew W1.heap.size 3 _ from make_zero _ W1)) (by omega) (by simp; omega)
  rw [List.length_replicate] at hsl
  have Hk := Lib.hid (fun w' (hb : Below (W1.alloc (.cells (madeCells #[.int .i64 0] ps.length) 3)).drew.heap.size (W1.alloc (.cells (madeCells #[.int .i64 0] ps.length) 3)).drew w') => hblk.below (hB2.trans (hb.mono hB2.size)) hblk.lt)
  have Hb := Lib.hid (fun w' (hb : Below (W1.alloc (.cells (madeCells #[.int .i64 0] ps.length) 3)).drew.heap.size (W1.alloc (.cells (madeCells #[.int .i64 0] ps.length) 3)).drew w') => hB.trans ((hB2.trans (hb.mono hB2.size)).mono hB.size))
  have Hpt := Lib.hid (show ptimes F ps = decide ((slotsV F ps (List.replicate ps.length 0)).2 = 0) from rfl)
  generalize slotsV F ps (List.replicate ps.length 0) = sv at *
  obtain ⟨s1, s2⟩ := sv
  simp only at *
  clear hp1 hB2
  go_region_held3 (fun w' => w'.cell? ⟨w.heap.size, 0, none⟩ = some (.string name) ∧ w'.cell? ⟨w.heap.size, 1, none⟩ = some (.int .i64 mem) ∧ w'.cell? ⟨w.heap.size, 2, none⟩ = some (.int .i64 F) ∧ w'.cell? ⟨w.heap.size, 3, none⟩ = some (.slice A ps.length c)) (go_keep) (first | ((go_at_call 21; (with_reducible refine hsl.mono ?_); rintro e w' ⟨A1, c1, rfl, hr, hb⟩; have k0 := (Hk.out w' hb).cell 0; have k1 := (Hk.out w' hb).cell 1; have k2 := (Hk.out w' hb).cell 2; have k3 := (Hk.out w' hb).cell 3; have hBf := Hb.out w' hb; simp at k0 k1 k2 k3)))
  clear Hk Hb hmk hsl q0 q1 q2 q3 k0 k1 k2 k3 hr hb
  by_cases h0 : s2 = 0
  · subst h0
    go_wp2
    go_ret
    exact ⟨ret_bool (by rw [Hpt.out]; simp), hBf⟩
  · have t1 : (s2 == 0) = false := by simpa using h0
    have Hf := Lib.hid (show ptimes F ps = false by rw [Hpt.out, decide_eq_false h0])
    clear Hpt h0
    go_wp2
    go_ret
    exact ⟨ret_bool Hf.out.symm, hBf⟩

/-- what valid times say. -/
structure TimesOk (F : Int) (ps : List Part) : Prop where
  frame : 1 ≤ F ∧ F ≤ 2000
  few : ps.length ≤ 6
  per : ∀ p ∈ ps, 1 ≤ p.period ∧ p.period ≤ 2000 ∧ F % p.period = 0
  len : ∀ p ∈ ps, 1 ≤ p.length ∧ p.length ≤ p.period
theorem timesV_ok {F : Int} {ps : List Part} (h : timesV F ps = true) : TimesOk F ps := by
  simp only [timesV, Bool.and_eq_true, decide_eq_true_iff, Bool.not_eq_true', List.any_eq_false] at h
  obtain ⟨h1, h2, h3, h4⟩ := h
  have key : ∀ p ∈ ps, 1 ≤ p.period ∧ F % p.period = 0 ∧ 1 ≤ p.length ∧ p.length ≤ p.period := fun p hp => by
    have := h4 p hp
    simp only [timeBad, Bool.or_eq_true, decide_eq_true_iff, not_or, Decidable.not_not] at this
    omega
  refine ⟨⟨h1, h2⟩, h3, fun p hp => ?_, fun p hp => (key p hp).2.2⟩
  obtain ⟨a, b, _, _⟩ := key p hp
  refine ⟨a, ?_, b⟩
  have e := Int.mul_ediv_add_emod F p.period
  rw [b] at e
  rcases Int.lt_or_le (F / p.period) 1 with g | g
  · have : p.period * (F / p.period) ≤ 0 := Int.mul_nonpos_of_nonneg_of_nonpos (by omega) (by omega)
    omega
  · have := Int.mul_le_mul_of_nonneg_left g (show 0 ≤ p.period by omega)
    omega
theorem zip_zero {ps : List Part} (k : Nat) (h : k < (zipS (List.replicate ps.length 0) ps).length) : (zipS (List.replicate ps.length 0) ps)[k] = pslot ps k 0 := by
  have hk : k < ps.length := by simpa [zipS] using h
  rw [zipS_get _ _ k h (by simpa using hk) hk]
  simp [pslot, hk]
/-- plan's times are the times of the module. -/
theorem ptimes_iff (F : Int) (ps : List Part) : ptimes F ps = timesV F ps := by
  unfold ptimes slotsV
  cases ht : timesV F ps with
  | false => simp
  | true =>
    have hT := timesV_ok ht
    simp only [Bool.true_and, List.length_replicate, decide_true, if_true]
    rw [if_neg]
    · simp
    · rw [Bool.not_eq_true, List.any_eq_false]
      intro s hs
      obtain ⟨k, hk, rfl⟩ := List.getElem_of_mem hs
      have hkp : k < ps.length := by simpa [zipS] using hk
      rw [zip_zero k hk]
      have h1 := hT.per ps[k] (List.getElem_mem _)
      have h2 := hT.len ps[k] (List.getElem_mem _)
      simp [validS, Slot.ok, pslot, hkp]
      omega
end Go.Proofs.Ytlmbffnmjfbglab
