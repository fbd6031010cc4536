/- The reference's table in plain numbers; the windows of each partition; what Fits says. -/
import Derived.Test.YtlmbffnmjfbglaaX4
namespace Go.Proofs.Ytlmbffnmjfbglaa

/-- a slot opens at a time. -/
def startB (s : Slot) (t : Int) : Bool := decide (s.off ≤ t) && decide ((t - s.off) % s.per = 0)
/-- the windows that begin at a time, of the first k slots. -/
def refAt (sl : List Slot) (t : Int) : Nat → List Win
  | 0 => []
  | k + 1 => refAt sl t k ++ if startB (sl.getD k default) t then [⟨k, t, (sl.getD k default).len⟩] else []
theorem refAt_succ (sl : List Slot) (t : Int) (k : Nat) (h : k < sl.length) : refAt sl t (k + 1) = refAt sl t k ++ if startB sl[k] t then [⟨k, t, sl[k].len⟩] else [] := by
  simp [refAt, h]
/-- the reference's table up to a time. -/
def refTo (sl : List Slot) : Nat → List Win
  | 0 => []
  | t + 1 => refTo sl t ++ refAt sl t sl.length

theorem start_iff {s : Slot} (h : s.ok) (t : Int) : startB s t = true ↔ ∃ j : Nat, t = s.tk j := by
  have h1 := h.1
  simp only [startB, Bool.and_eq_true, decide_eq_true_iff]
  unfold Slot.tk
  constructor
  · rintro ⟨a1, a2⟩
    have e := Int.mul_ediv_add_emod (t - s.off) s.per
    have q : 0 ≤ (t - s.off) / s.per := Int.ediv_nonneg (by omega) (by omega)
    refine ⟨((t - s.off) / s.per).toNat, ?_⟩
    rw [Int.toNat_of_nonneg q, Int.mul_comm]
    omega
  · rintro ⟨j, rfl⟩
    have := Int.mul_nonneg (show (0 : Int) ≤ (j : Int) by omega) (show 0 ≤ s.per by omega)
    refine ⟨by omega, ?_⟩
    have e : s.off + j * s.per - s.off = j * s.per := by omega
    rw [e, Int.mul_emod_left]
theorem refAt_mem (sl : List Slot) (t : Int) (k : Nat) (hk : k ≤ sl.length) (x : Win) : x ∈ refAt sl t k ↔ ∃ i, ∃ h : i < sl.length, i < k ∧ startB sl[i] t = true ∧ x = ⟨i, t, sl[i].len⟩ := by
  induction k with
  | zero => simp [refAt]
  | succ k ih =>
    rw [refAt_succ sl t k (by omega), List.mem_append, ih (by omega)]
    constructor
    · rintro (⟨i, h, hik, r⟩ | h)
      · exact ⟨i, h, by omega, r⟩
      · split at h
        · rename_i hs
          exact ⟨k, by omega, by omega, hs, by simpa using h⟩
        · simp at h
    · rintro ⟨i, h, hik, hs, rfl⟩
      by_cases c : i = k
      · subst c
        right
        rw [if_pos hs]; simp
      · exact .inl ⟨i, h, by omega, hs, rfl⟩
theorem refAt_nodup (sl : List Slot) (t : Int) (k : Nat) (hk : k ≤ sl.length) : (refAt sl t k).Nodup := by
  induction k with
  | zero => simp [refAt]
  | succ k ih =>
    rw [refAt_succ sl t k (by omega), List.nodup_append]
    refine ⟨ih (by omega), by split <;> simp, fun a ha b hb e => ?_⟩
    subst e
    obtain ⟨i, _, hik, _, e⟩ := (refAt_mem sl t k (by omega) a).1 ha
    split at hb
    · rw [List.mem_singleton] at hb
      rw [e] at hb
      injection hb with e1 _ _
      omega
    · simp at hb
theorem refAt_len (sl : List Slot) (t : Int) (k : Nat) (hk : k ≤ sl.length) : (refAt sl t k).length ≤ k := by
  induction k with
  | zero => simp [refAt]
  | succ k ih =>
    rw [refAt_succ sl t k (by omega), List.length_append]
    have := ih (by omega)
    split <;> simp <;> omega
theorem refTo_mem (sl : List Slot) (n : Nat) (x : Win) : x ∈ refTo sl n ↔ ∃ t : Nat, t < n ∧ x ∈ refAt sl t sl.length := by
  induction n with
  | zero => simp [refTo]
  | succ n ih =>
    rw [refTo, List.mem_append, ih]
    constructor
    · rintro (⟨t, h, r⟩ | h)
      · exact ⟨t, by omega, r⟩
      · exact ⟨n, by omega, h⟩
    · rintro ⟨t, h, r⟩
      by_cases c : t = n
      · subst c; exact .inr r
      · exact .inl ⟨t, by omega, r⟩
theorem refTo_nodup (sl : List Slot) (n : Nat) : (refTo sl n).Nodup := by
  induction n with
  | zero => simp [refTo]
  | succ n ih =>
    rw [refTo, List.nodup_append]
    refine ⟨ih, refAt_nodup sl n _ (Nat.le_refl _), fun a ha b hb e => ?_⟩
    subst e
    obtain ⟨t, ht, h1⟩ := (refTo_mem sl n a).1 ha
    obtain ⟨_, _, _, _, e1⟩ := (refAt_mem sl t _ (Nat.le_refl _) a).1 h1
    obtain ⟨_, _, _, _, e2⟩ := (refAt_mem sl n _ (Nat.le_refl _) a).1 hb
    rw [e1] at e2
    injection e2 with _ e3 _
    omega
theorem refTo_ord (sl : List Slot) (n : Nat) : Ord (refTo sl n) := by
  induction n with
  | zero => simp [refTo, Ord]
  | succ n ih =>
    unfold Ord at ih ⊢
    rw [refTo, List.pairwise_append]
    refine ⟨ih, ?_, fun a ha b hb => ?_⟩
    · rw [List.pairwise_iff_getElem]
      intro i j hi hj _
      obtain ⟨_, _, _, _, e1⟩ := (refAt_mem sl n _ (Nat.le_refl _) _).1 (List.getElem_mem hi)
      obtain ⟨_, _, _, _, e2⟩ := (refAt_mem sl n _ (Nat.le_refl _) _).1 (List.getElem_mem hj)
      rw [e1, e2]; exact Int.le_refl _
    · obtain ⟨t, ht, h1⟩ := (refTo_mem sl n a).1 ha
      obtain ⟨_, _, _, _, e1⟩ := (refAt_mem sl t _ (Nat.le_refl _) a).1 h1
      obtain ⟨_, _, _, _, e2⟩ := (refAt_mem sl n _ (Nat.le_refl _) b).1 hb
      rw [e1, e2]; simp only; omega
theorem refTo_len (sl : List Slot) (n : Nat) : (refTo sl n).length ≤ n * sl.length := by
  induction n with
  | zero => simp [refTo]
  | succ n ih =>
    rw [refTo, List.length_append, Nat.add_mul]
    have := refAt_len sl n sl.length (Nat.le_refl _)
    omega
section
variable {F : Int} {ps : List Part} {os : List Int} {sl : List Slot} {l : List Win}
theorem ref_ok (hS : SlotsOk F ps os sl) : TableOk F sl (refTo sl F.toNat) := by
  refine ⟨(List.perm_ext_iff_of_nodup (refTo_nodup _ _) (winsTo_nodup hS.ok _ (Nat.le_refl _))).2 fun x => ?_, fun i j hij hj => List.pairwise_iff_getElem.1 (refTo_ord sl F.toNat) i j (by omega) hj hij⟩
  rw [refTo_mem]
  change _ ↔ x ∈ winsTo F sl sl.length
  rw [winsTo_mem F sl sl.length (Nat.le_refl _)]
  have hF := hS.frame
  constructor
  · rintro ⟨t, ht, h⟩
    obtain ⟨i, hi, _, hs, rfl⟩ := (refAt_mem sl t _ (Nat.le_refl _) x).1 h
    have ho := hS.ok _ (List.getElem_mem hi)
    have hd := hS.div _ (List.getElem_mem hi)
    obtain ⟨j, hj⟩ := (start_iff ho t).1 hs
    exact ⟨i, hi, hi, j, (tk_lt_iff ho hF.1 hd j).1 (by omega), by rw [hj]⟩
  · rintro ⟨i, hi, _, j, hj, rfl⟩
    have ho := hS.ok _ (List.getElem_mem hi)
    have hd := hS.div _ (List.getElem_mem hi)
    have h1 := (tk_lt_iff ho hF.1 hd j).2 hj
    have h0 : 0 ≤ sl[i].tk j := by
      have := Int.mul_nonneg (show (0 : Int) ≤ (j : Int) by omega) (show 0 ≤ sl[i].per by have := ho.1; omega)
      have := ho.2.2.2.2.1
      unfold Slot.tk; omega
    refine ⟨(sl[i].tk j).toNat, by omega, (refAt_mem sl _ _ (Nat.le_refl _) _).2 ⟨i, hi, hi, ?_, ?_⟩⟩
    · rw [Int.toNat_of_nonneg h0]; exact (start_iff ho _).2 ⟨j, rfl⟩
    · rw [Int.toNat_of_nonneg h0]
end
/-- what Table returns, as a function. -/
def clashB (sl : List Slot) : Bool := !decide (∀ i, i < sl.length → ∀ k, k < i → apartB (sl.getD k default) (sl.getD i default) = true)
theorem clash_iff (sl : List Slot) : clashB sl = false ↔ NoClash sl := by
  simp only [clashB, Bool.not_eq_false', decide_eq_true_iff]
  constructor
  · intro h i k hk hi
    have := h i hi k hk
    simpa [hi, show k < sl.length by omega] using this
  · intro h i hi k hk
    have := h i k hk hi
    simpa [hi, show k < sl.length by omega] using this
def tableF (F : Int) (ps : List Part) (os : List Int) : List Win × Int :=
  if (slotsV F ps os).2 ≠ 0 then ([], (slotsV F ps os).2) else if clashB (slotsV F ps os).1 then ([], 120) else (refTo (slotsV F ps os).1 F.toNat, 0)
theorem tableF_ok (F : Int) (ps : List Part) (os : List Int) : TableV F ps os (tableF F ps os) := by
  unfold tableF
  by_cases h : (slotsV F ps os).2 = 0
  · rw [if_neg (fun k => k h)]
    cases hc : clashB (slotsV F ps os).1 with
    | true =>
      simp only [if_true]
      refine .inr (.inl ⟨h, fun hn => ?_, rfl⟩)
      rw [(clash_iff _).2 hn] at hc; cases hc
    | false =>
      simp only [Bool.false_eq_true, if_false]
      exact .inr (.inr ⟨h, (clash_iff _).1 hc, rfl, ref_ok (slotsV_ok h)⟩)
  · rw [if_pos h]; exact .inl ⟨h, rfl⟩
theorem tableV_eq {F : Int} {ps : List Part} {os : List Int} {q : List Win × Int} (h : TableV F ps os q) : q = tableF F ps os := tableV_unique h (tableF_ok F ps os)
theorem tableF_len (F : Int) (ps : List Part) (os : List Int) : (tableF F ps os).1.length ≤ 12000 := by
  unfold tableF
  split
  · simp
  · rename_i h
    split
    · simp
    · have hS := slotsV_ok (F := F) (ps := ps) (os := os) (Decidable.not_not.1 h)
      have h1 := refTo_len (slotsV F ps os).1 F.toNat
      have h2 := hS.few
      have h3 := hS.frame
      have h4 : F.toNat * (slotsV F ps os).1.length ≤ 2000 * 6 := Nat.mul_le_mul (by omega) h2
      simp only
      omega
end Go.Proofs.Ytlmbffnmjfbglaa
