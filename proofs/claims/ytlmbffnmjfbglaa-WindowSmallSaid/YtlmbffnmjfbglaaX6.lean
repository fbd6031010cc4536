/- The windows of each partition in a table; what Fits says of a table, of the program and of the reference. -/
import Derived.Test.YtlmbffnmjfbglaaX5
namespace Go.Proofs.Ytlmbffnmjfbglaa

def partB (i : Nat) (x : Win) : Bool := x.part == (i : Int)
theorem filter_winsS (i k : Nat) (s : Slot) (j : Nat) : (winsS k s j).filter (partB i) = if k = i then winsS k s j else [] := by
  by_cases h : k = i
  · rw [if_pos h, List.filter_eq_self]
    intro x hx
    simp only [winsS, List.mem_map] at hx
    obtain ⟨_, _, rfl⟩ := hx
    simp [partB, h]
  · rw [if_neg h, List.filter_eq_nil_iff]
    intro x hx
    simp only [winsS, List.mem_map] at hx
    obtain ⟨_, _, rfl⟩ := hx
    simp [partB]; omega
theorem filter_winsTo (F : Int) (sl : List Slot) (i : Nat) (hi : i < sl.length) (k : Nat) (hk : k ≤ sl.length) : (winsTo F sl k).filter (partB i) = if i < k then winsS i sl[i] (cntS F sl[i]) else [] := by
  induction k with
  | zero => simp [winsTo_zero]
  | succ k ih =>
    rw [winsTo_succ F sl k (by omega), List.filter_append, ih (by omega), filter_winsS]
    by_cases e : k = i
    · subst e; simp
    · rw [if_neg e]
      by_cases c : i < k
      · rw [if_pos c, if_pos (by omega)]; simp
      · rw [if_neg c, if_neg (by omega)]; simp
theorem winsS_ord (i : Nat) (s : Slot) (h : s.ok) (j : Nat) : Ord (winsS i s j) := by
  refine ord_of fun a b hab hb => ?_
  simp only [winsS, List.getElem_map, List.getElem_range]
  unfold Slot.tk
  have := Int.mul_le_mul_of_nonneg_right (show (a : Int) ≤ b by omega) (show 0 ≤ s.per by have := h.1; omega)
  omega
theorem filter_at {α : Type} (p : α → Bool) (l : List α) (j : Nat) (hj : j < l.length) (h : p l[j] = true) : (l.filter p)[((l.take j).filter p).length]? = some l[j] := by
  have e : l.filter p = (l.take j).filter p ++ l[j] :: (l.drop (j + 1)).filter p := by
    rw [← List.filter_cons_of_pos h, ← List.drop_eq_getElem_cons hj, ← List.filter_append, List.take_append_drop]
  rw [e, List.getElem?_append_right (Nat.le_refl _)]
  simp
section
variable {F : Int} {ps : List Part} {os : List Int} {sl : List Slot} {l : List Win}
theorem tab_filter (hS : SlotsOk F ps os sl) (hN : NoClash sl) (hT : TableOk F sl l) (i : Nat) (hi : i < sl.length) : l.filter (partB i) = winsS i sl[i] (cntS F sl[i]) := by
  refine ord_unique _ _ ?_ ((ord_of hT.sorted).filter _) (winsS_ord i _ (hS.ok _ (List.getElem_mem hi)) _) ((tab_dist hS hN hT).filter _)
  have := hT.perm.filter (partB i)
  rw [show (winsOf F sl).filter (partB i) = winsS i sl[i] (cntS F sl[i]) by unfold winsOf; rw [filter_winsTo F sl i hi _ (Nat.le_refl _), if_pos hi]] at this
  exact this
/-- how many of the first j windows are of partition i. -/
def ofP (i : Nat) (l : List Win) (j : Nat) : Nat := ((l.take j).filter (partB i)).length
theorem ofP_zero (i : Nat) (l : List Win) : ofP i l 0 = 0 := by simp [ofP]
theorem ofP_succ (i : Nat) (l : List Win) (j : Nat) (h : j < l.length) : ofP i l (j + 1) = ofP i l j + if partB i l[j] then 1 else 0 := by
  unfold ofP
  rw [List.take_succ_eq_append_getElem h, List.filter_append, List.length_append]
  cases hb : partB i l[j] <;> simp [hb]
theorem tab_of (hS : SlotsOk F ps os sl) (hN : NoClash sl) (hT : TableOk F sl l) (i : Nat) (hi : i < sl.length) (j : Nat) (hj : j < l.length) (h : partB i l[j] = true) : ofP i l j < cntS F sl[i] ∧ l[j].start = sl[i].tk (ofP i l j) ∧ l[j].len = sl[i].len := by
  have h1 := filter_at (partB i) l j hj h
  rw [tab_filter hS hN hT i hi] at h1
  change (winsS i sl[i] (cntS F sl[i]))[ofP i l j]? = some l[j] at h1
  rw [List.getElem?_eq_some_iff] at h1
  obtain ⟨hlt, h2⟩ := h1
  have hlt' : ofP i l j < cntS F sl[i] := by simpa [winsS] using hlt
  refine ⟨hlt', ?_, ?_⟩ <;> (rw [← h2]; simp [winsS])
theorem tab_all (hS : SlotsOk F ps os sl) (hN : NoClash sl) (hT : TableOk F sl l) (i : Nat) (hi : i < sl.length) : ofP i l l.length = cntS F sl[i] := by
  unfold ofP
  rw [List.take_length, tab_filter hS hN hT i hi, winsS_len]
theorem tab_len (hT : TableOk F sl l) : l.length = (winsTo F sl sl.length).length := hT.perm.length_eq
theorem winsTo_len_succ (F : Int) (sl : List Slot) (k : Nat) (h : k < sl.length) : (winsTo F sl (k + 1)).length = (winsTo F sl k).length + cntS F sl[k] := by
  rw [winsTo_succ F sl k h, List.length_append, winsS_len]
theorem cnt_pos (hS : SlotsOk F ps os sl) {s : Slot} (hs : s ∈ sl) : 1 ≤ cntS F s ∧ (cntS F s : Int) = F / s.per := by
  have h := hS.ok s hs
  have hd := hS.div s hs
  have e := Int.mul_ediv_add_emod F s.per
  rw [hd] at e
  have hF := hS.frame.1
  obtain ⟨a1, a2, a3, a4, a5, a6⟩ := h
  have hq : 1 ≤ F / s.per := by
    rcases Int.lt_or_le (F / s.per) 1 with c | c
    · have : s.per * (F / s.per) ≤ 0 := Int.mul_nonpos_of_nonneg_of_nonpos (by omega) (by omega)
      omega
    · exact c
  unfold cntS
  omega
end

/-- the offsets that a table shows. -/
def offTo (tb : List Win) : Nat → Option (List Int)
  | 0 => some []
  | n + 1 => match offTo tb n, tb.find? (partB n) with
    | some l, some x => some (l ++ [x.start])
    | _, _ => none
def fitsV (F : Int) (ps : List Part) (tb : List Win) : Bool := match offTo tb ps.length with
  | none => false
  | some os => decide ((tableF F ps os).2 = 0) && sameWin (tableF F ps os).1 tb
theorem offTo_len {tb : List Win} : ∀ {n : Nat} {os : List Int}, offTo tb n = some os → os.length = n
  | 0, os, h => by simp only [offTo] at h; injection h with h; subst h; rfl
  | n + 1, os, h => by
    simp only [offTo] at h
    split at h
    · rename_i l x h1 h2
      injection h with h
      subst h
      simp [offTo_len h1]
    · cases h
theorem offTo_mono {tb : List Win} {m : Nat} (h : offTo tb m = none) : ∀ n, m ≤ n → offTo tb n = none
  | 0, hn => by obtain rfl : m = 0 := by omega
                exact h
  | n + 1, hn => by
    by_cases e : m = n + 1
    · rw [← e]; exact h
    · simp only [offTo]; rw [offTo_mono h n (by omega)]
theorem offTo_some {tb : List Win} {n : Nat} {os : List Int} (h : offTo tb n = some os) (i : Nat) (hi : i < n) : ∃ x, tb.find? (partB i) = some x ∧ os[i]? = some x.start := by
  induction n generalizing os with
  | zero => omega
  | succ n ih =>
    simp only [offTo] at h
    split at h
    · rename_i l x h1 h2
      injection h with h
      subst h
      have hl := offTo_len h1
      by_cases e : i = n
      · subst e
        refine ⟨x, h2, ?_⟩
        rw [List.getElem?_append_right (by omega), hl]; simp
      · obtain ⟨y, h3, h4⟩ := ih h1 (by omega)
        refine ⟨y, h3, ?_⟩
        rw [List.getElem?_append_left (by omega)]; exact h4
    · cases h
theorem len_le_of_sub {α : Type} [DecidableEq α] : ∀ (l m : List α), l.Nodup → (∀ x ∈ l, x ∈ m) → l.length ≤ m.length
  | [], m, _, _ => by simp
  | x :: l, m, hd, hs => by
    have hd' := List.nodup_cons.1 hd
    have hx := hs x (by simp)
    have h1 := len_le_of_sub l (m.erase x) hd'.2 fun y hy => (List.mem_erase_of_ne (fun e => hd'.1 (by rw [← e]; exact hy))).2 (hs y (by simp [hy]))
    rw [List.length_erase_of_mem hx] at h1
    have := List.length_pos_of_mem hx
    simp only [List.length_cons]
    omega
theorem offTo_le {tb : List Win} {n : Nat} {os : List Int} (h : offTo tb n = some os) : n ≤ tb.length := by
  have h1 := len_le_of_sub ((List.range n).map fun i : Nat => (i : Int)) (tb.map Win.part) (by
    unfold List.Nodup
    rw [List.pairwise_map]
    exact List.Pairwise.imp (fun {a b} hab e => hab (by omega)) (List.nodup_range (n := n))) (fun x hx => by
    simp only [List.mem_map, List.mem_range] at hx ⊢
    obtain ⟨i, hi, rfl⟩ := hx
    obtain ⟨y, hy, _⟩ := offTo_some h i hi
    have h2 := List.find?_some hy
    exact ⟨y, List.mem_of_find?_eq_some hy, by simpa [partB] using h2⟩)
  simpa using h1
/-- the reference's offsets: -1 for a partition without a window. -/
def refOff (tb : List Win) (i : Nat) : Int := match tb.find? (partB i) with | some x => x.start | none => -1
theorem refOff_some {tb : List Win} {n : Nat} {os : List Int} (h : offTo tb n = some os) : (List.range n).map (refOff tb) = os := by
  refine List.ext_getElem (by simp [offTo_len h]) fun i h1 h2 => ?_
  have hi : i < n := by simpa using h1
  obtain ⟨x, h3, h4⟩ := offTo_some h i hi
  simp only [List.getElem_map, List.getElem_range, refOff, h3]
  rw [List.getElem?_eq_getElem h2] at h4
  injection h4 with h4
  exact h4.symm
theorem refOff_none {tb : List Win} : ∀ {n : Nat}, offTo tb n = none → ∃ i, i < n ∧ refOff tb i = -1
  | 0, h => by simp [offTo] at h
  | n + 1, h => by
    simp only [offTo] at h
    cases h1 : offTo tb n with
    | none =>
      obtain ⟨i, hi, hr⟩ := refOff_none h1
      exact ⟨i, by omega, hr⟩
    | some os =>
      cases h2 : tb.find? (partB n) with
      | none => exact ⟨n, by omega, by simp [refOff, h2]⟩
      | some x => rw [h1, h2] at h; cases h
theorem slotsV_neg {F : Int} {ps : List Part} {os : List Int} {i : Nat} (hl : os.length = ps.length) (hi : i < os.length) (h : os[i] = -1) : (slotsV F ps os).2 = 2 := by
  unfold slotsV
  split
  · have : (zipS os ps).any (fun s => !validS s) = true := by
      rw [List.any_eq_true]
      have hz : i < (zipS os ps).length := by rw [zipS_len os ps hl]; omega
      refine ⟨(zipS os ps)[i], List.getElem_mem _, ?_⟩
      rw [zipS_get os ps i hz hi (by omega), h]
      simp [validS, Slot.ok]
    rw [if_pos this]
  · rfl
/-- what the reference's Fits says. -/
def refFitsV (F : Int) (ps : List Part) (tb : List Win) : Bool := decide ((tableF F ps ((List.range ps.length).map (refOff tb))).2 = 0) && sameWin (tableF F ps ((List.range ps.length).map (refOff tb))).1 tb
theorem refFits_eq (F : Int) (ps : List Part) (tb : List Win) : refFitsV F ps tb = fitsV F ps tb := by
  unfold refFitsV fitsV
  cases h : offTo tb ps.length with
  | some os => rw [refOff_some h]
  | none =>
    obtain ⟨i, hi, hr⟩ := refOff_none h
    have h2 := slotsV_neg (F := F) (ps := ps) (os := (List.range ps.length).map (refOff tb)) (i := i) (by simp) (by simpa using hi) (by simpa using hr)
    have h3 : (tableF F ps ((List.range ps.length).map (refOff tb))).2 = 2 := by
      unfold tableF
      rw [h2]; rfl
    rw [h3]; rfl
theorem fits_table {F : Int} {ps : List Part} {os : List Int} {sl : List Slot} {l : List Win} (hs0 : (slotsV F ps os).2 = 0) (e : (slotsV F ps os).1 = sl) (hN : NoClash sl) (hT : TableOk F sl l) : fitsV F ps l = true := by
  subst e
  have hS := slotsV_ok hs0
  have hl := hS.len
  have hol := hS.olen
  have key : ∀ n, n ≤ ps.length → offTo l n = some (os.take n) := by
    intro n hn
    induction n with
    | zero => simp [offTo]
    | succ n ih =>
      have hi : n < (slotsV F ps os).1.length := by omega
      have hf := tab_filter hS hN hT n hi
      have hc := (cnt_pos hS (List.getElem_mem hi)).1
      have hh : l.find? (partB n) = some ⟨n, ((slotsV F ps os).1[n]).tk 0, ((slotsV F ps os).1[n]).len⟩ := by
        rw [← List.head?_filter, hf]
        obtain ⟨c, hc'⟩ : ∃ c, cntS F (slotsV F ps os).1[n] = c + 1 := ⟨cntS F (slotsV F ps os).1[n] - 1, by omega⟩
        rw [hc', winsS, List.range_succ_eq_map]; simp
      simp only [offTo]
      rw [ih (by omega), hh]
      simp only [tk_zero]
      have hz : ((slotsV F ps os).1[n]).off = os[n] := by
        have e2 := hS.zip
        have : (slotsV F ps os).1[n] = (zipS os ps)[n]'(by rw [← e2]; exact hi) := by simp only [← e2]
        rw [this, zipS_get os ps n (by rw [← e2]; exact hi) (by omega) (by omega)]
      rw [hz, List.take_succ_eq_append_getElem (by omega)]
  have h1 := key ps.length (Nat.le_refl _)
  rw [List.take_of_length_le (by omega)] at h1
  unfold fitsV
  rw [h1]
  show (decide ((tableF F ps os).2 = 0) && sameWin (tableF F ps os).1 l) = true
  have h2 : tableF F ps os = (l, 0) := (tableV_eq (.inr (.inr ⟨hs0, hN, rfl, hT⟩) : TableV F ps os (l, 0))).symm
  rw [h2]
  have h3 : sameWin l l = true := sameWin_iff.2 rfl
  simp [h3]
end Go.Proofs.Ytlmbffnmjfbglaa
