/- Tables in plain numbers: their windows do not overlap; who owns a time; what begins next. -/
import Derived.Test.YtlmbffnmjfbglaaQ1
import Derived.Test.YtlmbffnmjfbglaaX1
namespace Go.Proofs.Ytlmbffnmjfbglaa

theorem winsTo_mem (F : Int) (sl : List Slot) (k : Nat) (hk : k ≤ sl.length) (x : Win) : x ∈ winsTo F sl k ↔ ∃ i, ∃ h : i < sl.length, i < k ∧ ∃ j, j < cntS F sl[i] ∧ x = ⟨i, sl[i].tk j, sl[i].len⟩ := by
  induction k with
  | zero => simp [winsTo_zero]
  | succ k ih =>
    rw [winsTo_succ F sl k (by omega), List.mem_append, ih (by omega)]
    constructor
    · rintro (⟨i, h, hik, j, hj, e⟩ | h)
      · exact ⟨i, h, by omega, j, hj, e⟩
      · simp only [winsS, List.mem_map, List.mem_range] at h
        obtain ⟨j, hj, e⟩ := h
        exact ⟨k, by omega, by omega, j, hj, e.symm⟩
    · rintro ⟨i, h, hik, j, hj, e⟩
      by_cases c : i = k
      · subst c
        right
        simp only [winsS, List.mem_map, List.mem_range]
        exact ⟨j, hj, e.symm⟩
      · exact .inl ⟨i, h, by omega, j, hj, e⟩

section
variable {F : Int} {ps : List Part} {os : List Int} {sl : List Slot} {l : List Win}
theorem tab_mem (hT : TableOk F sl l) (x : Win) : x ∈ l ↔ ∃ i, ∃ h : i < sl.length, ∃ j, j < cntS F sl[i] ∧ x = ⟨i, sl[i].tk j, sl[i].len⟩ := by
  rw [hT.perm.mem_iff]
  unfold winsOf
  rw [winsTo_mem F sl sl.length (Nat.le_refl _)]
  exact ⟨fun ⟨i, h, _, r⟩ => ⟨i, h, r⟩, fun ⟨i, h, r⟩ => ⟨i, h, h, r⟩⟩
theorem tab_in (hS : SlotsOk F ps os sl) (hT : TableOk F sl l) {x : Win} (hx : x ∈ l) : 0 ≤ x.start ∧ x.start < F ∧ 1 ≤ x.len ∧ x.len ≤ 2000 ∧ startsIn F x = true := by
  obtain ⟨i, h, j, hj, rfl⟩ := (tab_mem hT x).1 hx
  have ho := hS.ok sl[i] (List.getElem_mem _)
  have hlt := (tk_lt_iff ho hS.frame.1 (hS.div _ (List.getElem_mem _)) j).2 hj
  have h0 : 0 ≤ sl[i].tk j := by
    unfold Slot.tk
    have := Int.mul_nonneg (show (0 : Int) ≤ (j : Int) by omega) (show 0 ≤ sl[i].per by have := ho.1; omega)
    have := ho.2.2.2.2.1
    omega
  obtain ⟨a1, a2, a3, a4, a5, a6⟩ := ho
  have hF := hS.frame
  refine ⟨h0, hlt, a3, by simp only; omega, ?_⟩
  simp only [startsIn, Bool.and_eq_true, decide_eq_true_iff]
  refine ⟨decide_eq_true ⟨?_, ?_, ?_, ?_⟩, h0, hlt⟩ <;> simp only <;> omega
theorem tab_one (hS : SlotsOk F ps os sl) (hN : NoClash sl) (hT : TableOk F sl l) {x y : Win} (hx : x ∈ l) (hy : y ∈ l) {u : Int} (h1 : x.start ≤ u) (h2 : u < x.start + x.len) (h3 : y.start ≤ u) (h4 : u < y.start + y.len) : x = y := by
  obtain ⟨i, hi, j, hj, rfl⟩ := (tab_mem hT x).1 hx
  obtain ⟨i', hi', j', hj', rfl⟩ := (tab_mem hT y).1 hy
  simp only at h1 h2 h3 h4
  have ho := hS.ok sl[i] (List.getElem_mem _)
  have ho' := hS.ok sl[i'] (List.getElem_mem _)
  have o1 : openS sl[i] u := (open_iff ho u).2 ⟨j, h1, h2⟩
  have o2 : openS sl[i'] u := (open_iff ho' u).2 ⟨j', h3, h4⟩
  rcases Nat.lt_trichotomy i i' with c | c | c
  · exact absurd ⟨o1, o2⟩ (apart_true ho ho' (hN i' i c hi') u)
  · subst c
    have e : j = j' := by
      obtain ⟨a1, a2, a3, a4, a5, a6⟩ := ho
      rcases Nat.lt_trichotomy j j' with c | c | c
      · have : ((j : Int) + 1) * sl[i].per ≤ j' * sl[i].per := Int.mul_le_mul_of_nonneg_right (by omega) (by omega)
        rw [Int.add_mul] at this
        unfold Slot.tk at h1 h2 h3 h4; omega
      · exact c
      · have : ((j' : Int) + 1) * sl[i].per ≤ j * sl[i].per := Int.mul_le_mul_of_nonneg_right (by omega) (by omega)
        rw [Int.add_mul] at this
        unfold Slot.tk at h1 h2 h3 h4; omega
    subst e; rfl
  · exact absurd ⟨o2, o1⟩ (apart_true ho' ho (hN i i' c hi) u)
theorem tab_some (hS : SlotsOk F ps os sl) (hT : TableOk F sl l) (h : 0 < sl.length) : ∃ x, x ∈ l := by
  have ho := hS.ok sl[0] (List.getElem_mem _)
  have hd := hS.div sl[0] (List.getElem_mem _)
  have hlt : sl[0].tk 0 < F := by
    have e := Int.mul_ediv_add_emod F sl[0].per
    rw [hd] at e
    have hF := hS.frame.1
    obtain ⟨a1, a2, a3, a4, a5, a6⟩ := ho
    have hq : 1 ≤ F / sl[0].per := by
      rcases Int.lt_or_le (F / sl[0].per) 1 with c | c
      · have : sl[0].per * (F / sl[0].per) ≤ 0 := Int.mul_nonpos_of_nonneg_of_nonpos (by omega) (by omega)
        omega
      · exact c
    have : sl[0].per * 1 ≤ sl[0].per * (F / sl[0].per) := Int.mul_le_mul_of_nonneg_left hq (by omega)
    rw [tk_zero]; omega
  exact ⟨_, (tab_mem hT _).2 ⟨0, h, 0, (tk_lt_iff ho hS.frame.1 hd 0).1 hlt, rfl⟩⟩
theorem tab_owner (hS : SlotsOk F ps os sl) (hN : NoClash sl) (hT : TableOk F sl l) {x : Win} (hx : x ∈ l) {t : Int} (h0 : 0 ≤ t) (h1 : t ≤ 1073741824) (h2 : x.start ≤ t % F) (h3 : t % F < x.start + x.len) : ownerV l F t = (x.part, true) := by
  have hc : clockB F t = true := decide_eq_true ⟨hS.frame.1, hS.frame.2, h0, h1⟩
  unfold ownerV
  rw [hc]
  simp only [if_true]
  have hnx := (tab_in hS hT hx).2.2.2.2
  have hp : ownP (t % F) x = true := by
    simp only [startsIn, Bool.and_eq_true] at hnx
    simp [ownP, hnx.1, h2, h3]
  cases hf : l.find? (ownP (t % F)) with
  | none =>
    rw [List.find?_eq_none] at hf
    exact absurd hp (hf x hx)
  | some y =>
    have hy := List.mem_of_find?_eq_some hf
    have hpy := List.find?_some hf
    simp only [ownP, Bool.and_eq_true, decide_eq_true_iff] at hpy
    have := tab_one hS hN hT hx hy h2 h3 hpy.2.1 hpy.2.2
    subst this; rfl
end

theorem nextAt_shift (F t : Int) (x : Win) : nextAt F (t + F) x = nextAt F t x + F := by
  unfold nextAt
  have e : x.start - (t + F) = x.start - t + F * (-1) := by omega
  rw [e, Int.add_mul_emod_self_left]; omega
theorem nextTo_shift (F t : Int) (tb : List Win) (k : Nat) (hk : k ≤ tb.length) : nextTo F (t + F) tb k = ((nextTo F t tb k).1, (if (nextTo F t tb k).2.2 then (nextTo F t tb k).2.1 + F else 0), (nextTo F t tb k).2.2) := by
  induction k with
  | zero => rfl
  | succ k ih =>
    have hz : (nextTo F t tb k).2.2 = false → (nextTo F t tb k).2.1 = 0 := fun h => by
      rcases nextTo_is F t tb k (by omega) with ⟨e, _⟩ | ⟨h1, _⟩
      · rw [e]
      · rw [h] at h1; cases h1
    rw [nextTo_succ F (t + F) tb k (by omega), nextTo_succ F t tb k (by omega), ih (by omega)]
    generalize nextTo F t tb k = st at *
    obtain ⟨s1, s2, s3⟩ := st
    simp only at hz
    unfold nextStep
    rw [nextAt_shift]
    cases hs : startsIn F tb[k] with
    | false => simp only [Bool.false_eq_true, if_false]
    | true =>
      simp only [if_true]
      cases s3 with
      | false => simp
      | true =>
        simp only [Bool.not_true, Bool.false_or, if_true]
        by_cases c : nextAt F t tb[k] < s2
        · have c2 : nextAt F t tb[k] + F < s2 + F := by omega
          simp [c, c2]
        · have c2 : ¬ nextAt F t tb[k] + F < s2 + F := by omega
          simp [c, c2]

/-- what WindowNext asks. -/
structure NextOk (F t : Int) (l : List Win) (x : Win) (u : Int) : Prop where
  here : nextTo F t l l.length = (x, u, true)
  again : nextTo F (t + F) l l.length = (x, u + F, true)
  ge : t ≤ u
  lt : u < t + F
  own : ownerV l F u = (x.part, true)
  at_ : u % F = x.start
  none_ : ∀ v, t ≤ v → v < u → ∀ j (h : j < l.length), l[j].start ≠ v % F
theorem tab_next {F : Int} {ps : List Part} {os : List Int} {sl : List Slot} {l : List Win} (hS : SlotsOk F ps os sl) (hN : NoClash sl) (hT : TableOk F sl l) (hne : 0 < sl.length) {t : Int} (h0 : 0 ≤ t) (h1 : t ≤ 536870912) : ∃ x u, NextOk F t l x u := by
  obtain ⟨z, hz⟩ := tab_some hS hT hne
  have hF := hS.frame
  have hsh := nextTo_shift F t l l.length (Nat.le_refl _)
  rcases nextTo_is F t l l.length (Nat.le_refl _) with ⟨_, h⟩ | ⟨h2, i, hi, _, h3, h4, h5, h6, h7⟩
  · obtain ⟨j, hj, rfl⟩ := List.getElem_of_mem hz
    have := h j hj hj
    rw [(tab_in hS hT hz).2.2.2.2] at this; cases this
  · have hx := List.getElem_mem hi
    obtain ⟨b1, b2⟩ := nextAt_bd (t := t) hF.1 l[i]
    have hin := tab_in hS hT hx
    have hnb : nearB l[i] = true := by simp only [startsIn, Bool.and_eq_true] at h3; exact h3.1
    have hat := (at_iff (u := nextAt F t l[i]) hF.1 hnb b1 b2).2 ⟨h3, rfl⟩
    have here : nextTo F t l l.length = (l[i], nextAt F t l[i], true) := Prod.ext h4 (Prod.ext h5 h2)
    refine ⟨l[i], nextAt F t l[i], here, ?_, b1, b2, tab_owner hS hN hT hx (by omega) (by omega) (by omega) (by omega), hat.symm, fun v hv1 hv2 j hj e => ?_⟩
    · rw [hsh, here]; rfl
    · have hxj := List.getElem_mem hj
      have hsj := (tab_in hS hT hxj).2.2.2.2
      have hnj : nearB l[j] = true := by simp only [startsIn, Bool.and_eq_true] at hsj; exact hsj.1
      have := ((at_iff (u := v) hF.1 hnj hv1 (by omega)).1 e).2
      have h8 := h6 j hj hj hsj
      rw [h5] at h8
      omega
end Go.Proofs.Ytlmbffnmjfbglaa
