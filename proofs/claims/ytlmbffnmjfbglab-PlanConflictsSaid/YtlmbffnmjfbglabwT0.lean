/- The windows of slots, in plain numbers. -/
import Derived.Test.YtlmbffnmjfbglabwG2
import Derived.Test.YtlmbffnmjfbglabwW5
namespace Go.Proofs.Ytlmbffnmjfbglab

def cntS (F : Int) (s : Slot) : Nat := (F / s.per).toNat
def winsS (i : Nat) (s : Slot) (j : Nat) : List Win := (List.range j).map fun k => ⟨i, s.tk k, s.len⟩
theorem winsS_succ (i : Nat) (s : Slot) (j : Nat) : winsS i s (j + 1) = winsS i s j ++ [⟨i, s.tk j, s.len⟩] := by simp [winsS, List.range_succ]
theorem winsS_len (i : Nat) (s : Slot) (j : Nat) : (winsS i s j).length = j := by simp [winsS]
def winsTo (F : Int) (sl : List Slot) (k : Nat) : List Win := (List.range k).flatMap fun i => winsS i (sl.getD i default) (cntS F (sl.getD i default))
theorem winsTo_zero (F : Int) (sl : List Slot) : winsTo F sl 0 = [] := rfl
theorem winsTo_succ (F : Int) (sl : List Slot) (k : Nat) (h : k < sl.length) : winsTo F sl (k + 1) = winsTo F sl k ++ winsS k sl[k] (cntS F sl[k]) := by
  simp [winsTo, List.range_succ, h]
def winsOf (F : Int) (sl : List Slot) : List Win := winsTo F sl sl.length

theorem cnt_bd {F : Int} {s : Slot} (h : s.ok) (hF : F ≤ 2000) : cntS F s ≤ 2000 := by
  have h1 := h.1
  unfold cntS
  rcases Int.lt_or_le F 0 with c | c
  · have : F / s.per ≤ 0 := by
      have := Int.ediv_le_ediv (c := s.per) (by omega) (show F ≤ 0 by omega)
      simpa using this
    omega
  · have := Int.ediv_le_self s.per c
    omega
theorem winsTo_len {F : Int} {sl : List Slot} (hs : ∀ s ∈ sl, s.ok) (hF : F ≤ 2000) (k : Nat) (hk : k ≤ sl.length) : (winsTo F sl k).length ≤ 2000 * k := by
  induction k with
  | zero => simp [winsTo_zero]
  | succ k ih =>
    rw [winsTo_succ F sl k (by omega), List.length_append, winsS_len]
    have := ih (by omega)
    have := cnt_bd (hs sl[k] (List.getElem_mem _)) hF
    omega
theorem tk_lt_iff {F : Int} {s : Slot} (h : s.ok) (hF : 1 ≤ F) (hd : F % s.per = 0) (j : Nat) : s.tk j < F ↔ j < cntS F s := by
  obtain ⟨h1, h2, h3, h4, h5, h6⟩ := h
  have e := Int.mul_ediv_add_emod F s.per
  rw [hd] at e
  have hq : 0 ≤ F / s.per := Int.ediv_nonneg (by omega) (by omega)
  obtain ⟨c, hc⟩ := Int.eq_ofNat_of_zero_le hq
  unfold cntS
  rw [hc, Int.toNat_natCast]
  rw [hc] at e
  unfold Slot.tk
  constructor
  · intro hlt
    rcases Nat.lt_or_ge j c with g | g
    · exact g
    · have : s.per * (c : Int) ≤ s.per * j := Int.mul_le_mul_of_nonneg_left (by omega) (by omega)
      rw [Int.mul_comm s.per (j : Int)] at this
      omega
  · intro hlt
    have : s.per * ((j : Int) + 1) ≤ s.per * c := Int.mul_le_mul_of_nonneg_left (by omega) (by omega)
    rw [Int.mul_add, Int.mul_comm s.per (j : Int)] at this
    omega

/-- what a table is, of slots that do not clash. -/
structure TableOk (F : Int) (sl : List Slot) (l : List Win) : Prop where
  perm : l.Perm (winsOf F sl)
  sorted : ∀ i j (_ : i < j) (hj : j < l.length), l[i].start ≤ l[j].start
def NoClash (sl : List Slot) : Prop := ∀ i k (h : k < i) (hi : i < sl.length), apartB sl[k] sl[i] = true
/-- what Table returns. -/
def TableV (F : Int) (ps : List Part) (os : List Int) (q : List Win × Int) : Prop :=
  ((slotsV F ps os).2 ≠ 0 ∧ q = ([], (slotsV F ps os).2)) ∨
  ((slotsV F ps os).2 = 0 ∧ ¬ NoClash (slotsV F ps os).1 ∧ q = ([], 120)) ∨
  ((slotsV F ps os).2 = 0 ∧ NoClash (slotsV F ps os).1 ∧ q.2 = 0 ∧ TableOk F (slotsV F ps os).1 q.1)

/-- what is known of slots that Slots has returned. -/
structure SlotsOk (F : Int) (ps : List Part) (os : List Int) (sl : List Slot) : Prop where
  frame : 1 ≤ F ∧ F ≤ 2000
  len : sl.length = ps.length
  olen : os.length = ps.length
  few : sl.length ≤ 6
  ok : ∀ s ∈ sl, s.ok
  div : ∀ s ∈ sl, F % s.per = 0
  zip : sl = zipS os ps
theorem slotsV_ok {F : Int} {ps : List Part} {os : List Int} (h : (slotsV F ps os).2 = 0) : SlotsOk F ps os (slotsV F ps os).1 := by
  unfold slotsV at h ⊢
  by_cases h1 : (timesV F ps && decide (os.length = ps.length)) = true
  · rw [if_pos h1] at h ⊢
    by_cases h2 : (zipS os ps).any (fun s => !validS s) = true
    · rw [if_pos h2] at h; simp at h
    · rw [if_neg h2]
      simp only [Bool.and_eq_true, decide_eq_true_iff, timesV, Bool.not_eq_true'] at h1
      obtain ⟨⟨a1, a2, a3, a4⟩, a5⟩ := h1
      have hl := zipS_len os ps a5
      refine ⟨⟨a1, a2⟩, hl, a5, by simp only [hl]; exact a3, fun s hs => ?_, fun s hs => ?_, rfl⟩
      · simp only [List.any_eq_true, not_exists, not_and, Bool.not_eq_true', Bool.not_eq_false] at h2
        exact ok_of (h2 s hs)
      · obtain ⟨k, hk, rfl⟩ := List.getElem_of_mem hs
        change k < (zipS os ps).length at hk
        change F % ((zipS os ps)[k]).per = 0
        rw [zipS_get os ps k hk (by omega) (by omega)]
        rw [List.any_eq_false] at a4
        have := a4 ps[k] (List.getElem_mem _)
        simp only [timeBad, Bool.or_eq_true, decide_eq_true_iff, not_or, Decidable.not_not] at this
        exact this.2.1
  · rw [if_neg h1] at h; simp at h
end Go.Proofs.Ytlmbffnmjfbglab
