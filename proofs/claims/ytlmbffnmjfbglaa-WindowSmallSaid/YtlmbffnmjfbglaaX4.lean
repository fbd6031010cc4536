/- Tables in plain numbers, further: no window twice; who owns each tick, and how many ticks each partition owns. -/
import Derived.Test.YtlmbffnmjfbglaaX2
namespace Go.Proofs.Ytlmbffnmjfbglaa

theorem winsS_nodup (i : Nat) (s : Slot) (h : s.ok) (j : Nat) : (winsS i s j).Nodup := by
  unfold winsS
  unfold List.Nodup
  rw [List.pairwise_map]
  refine List.Pairwise.imp (fun {a b} hab e => ?_) (List.nodup_range (n := j))
  injection e with _ e2 _
  unfold Slot.tk at e2
  have hm : (a : Int) * s.per = b * s.per := by omega
  have h1 := h.1
  have := Int.eq_of_mul_eq_mul_right (show s.per ≠ 0 by omega) hm
  exact hab (by omega)
theorem winsTo_nodup {F : Int} {sl : List Slot} (hs : ∀ s ∈ sl, s.ok) (k : Nat) (hk : k ≤ sl.length) : (winsTo F sl k).Nodup := by
  induction k with
  | zero => simp [winsTo_zero]
  | succ k ih =>
    rw [winsTo_succ F sl k (by omega), List.nodup_append]
    refine ⟨ih (by omega), winsS_nodup k _ (hs _ (List.getElem_mem _)) _, fun a ha b hb e => ?_⟩
    subst e
    obtain ⟨i, hi, hik, j, _, e⟩ := (winsTo_mem F sl k (by omega) a).1 ha
    simp only [winsS, List.mem_map, List.mem_range] at hb
    obtain ⟨j', _, e'⟩ := hb
    rw [e] at e'
    injection e' with e1 _ _
    omega
theorem nodup_inj {α : Type} {l : List α} (h : l.Nodup) {i j : Nat} (hi : i < l.length) (hj : j < l.length) (e : l[i] = l[j]) : i = j := by
  have hp := List.pairwise_iff_getElem.1 h
  rcases Nat.lt_trichotomy i j with c | c | c
  · exact absurd e (hp i j hi hj c)
  · exact c
  · exact absurd e.symm (hp j i hj hi c)
section
variable {F : Int} {ps : List Part} {os : List Int} {sl : List Slot} {l : List Win}
theorem tab_nodup (hS : SlotsOk F ps os sl) (hT : TableOk F sl l) : l.Nodup := hT.perm.nodup_iff.2 (winsTo_nodup hS.ok _ (Nat.le_refl _))
theorem tab_lt (hS : SlotsOk F ps os sl) (hN : NoClash sl) (hT : TableOk F sl l) (i j : Nat) (hij : i < j) (hj : j < l.length) : l[i].start + l[i].len ≤ l[j].start := by
  have h1 := hT.sorted i j hij hj
  have hi := tab_in hS hT (List.getElem_mem (show i < l.length by omega))
  have hjn := tab_in hS hT (List.getElem_mem hj)
  rcases Int.lt_or_le l[j].start (l[i].start + l[i].len) with c | c
  · have e := tab_one hS hN hT (List.getElem_mem (show i < l.length by omega)) (List.getElem_mem hj) (u := l[j].start) h1 c (Int.le_refl _) (by omega)
    exact absurd (nodup_inj (tab_nodup hS hT) (by omega) hj e) (by omega)
  · exact c
theorem tab_dist (hS : SlotsOk F ps os sl) (hN : NoClash sl) (hT : TableOk F sl l) : Dist l := List.pairwise_iff_getElem.2 fun i j hi hj hij e => by
  have := tab_lt hS hN hT i j hij hj
  have := (tab_in hS hT (List.getElem_mem hi)).2.2.1
  omega
theorem tab_unique (hS : SlotsOk F ps os sl) (hN : NoClash sl) {l' : List Win} (hT : TableOk F sl l) (hT' : TableOk F sl l') : l = l' :=
  ord_unique l l' (hT.perm.trans hT'.perm.symm) (ord_of hT.sorted) (ord_of hT'.sorted) (tab_dist hS hN hT)
end
theorem tableV_unique {F : Int} {ps : List Part} {os : List Int} {q r : List Win × Int} (h : TableV F ps os q) (k : TableV F ps os r) : q = r := by
  rcases h with ⟨h1, rfl⟩ | ⟨h1, h2, rfl⟩ | ⟨h1, h2, h3, h4⟩
  · rcases k with ⟨_, rfl⟩ | ⟨k1, _⟩ | ⟨k1, _⟩
    · rfl
    · exact absurd k1 h1
    · exact absurd k1 h1
  · rcases k with ⟨k1, _⟩ | ⟨_, _, rfl⟩ | ⟨_, k2, _⟩
    · exact absurd h1 k1
    · rfl
    · exact absurd k2 h2
  · rcases k with ⟨k1, _⟩ | ⟨_, k2, _⟩ | ⟨_, _, k3, k4⟩
    · exact absurd h1 k1
    · exact absurd h2 k2
    · exact Prod.ext (tab_unique (slotsV_ok h1) h2 h4 k4) (by rw [h3, k3])

/-- a window is open at a time of the frame. -/
def inW (t : Int) (x : Win) : Bool := decide (x.start ≤ t) && decide (t < x.start + x.len)
/-- how many of the first k windows are open, and whose the last of them is. -/
def cntStep (t : Int) (st : Int × Int) (x : Win) : Int × Int := if inW t x then (st.1 + 1, x.part) else st
def cntTo (t : Int) (tb : List Win) (k : Nat) : Int × Int := (tb.take k).foldl (cntStep t) (0, 0)
theorem cntTo_succ (t : Int) (tb : List Win) (k : Nat) (h : k < tb.length) : cntTo t tb (k + 1) = cntStep t (cntTo t tb k) tb[k] := by
  unfold cntTo; rw [List.take_succ_eq_append_getElem h, List.foldl_append]; rfl
theorem cntTo_bd (t : Int) (tb : List Win) (k : Nat) (hk : k ≤ tb.length) : 0 ≤ (cntTo t tb k).1 ∧ (cntTo t tb k).1 ≤ k := by
  induction k with
  | zero => simp [cntTo]
  | succ k ih =>
    have := ih (by omega)
    rw [cntTo_succ t tb k (by omega)]
    unfold cntStep
    split
    · simp only; omega
    · omega

/-- how many of the first n ticks a slot is open. -/
def opn (s : Slot) (n : Int) : Int := n / s.per * s.len + max 0 (min (n % s.per - s.off) s.len)
theorem open_mod {s : Slot} (h : s.ok) {t : Int} (_h0 : 0 ≤ t) : openS s t ↔ s.off ≤ t % s.per ∧ t % s.per < s.off + s.len := by
  have h' := h
  obtain ⟨h1, h2, h3, h4, h5, h6⟩ := h
  have e := Int.mul_ediv_add_emod t s.per
  have e0 := Int.emod_nonneg t (show s.per ≠ 0 by omega)
  have e1 := Int.emod_lt_of_pos t (show 0 < s.per by omega)
  rw [open_iff h']
  unfold Slot.tk
  constructor
  · rintro ⟨k, a1, a2⟩
    have hd : t % s.per = t - k * s.per := by
      have : t = (t - k * s.per) + s.per * k := by rw [Int.mul_comm s.per]; omega
      rw [this, Int.add_mul_emod_self_left, Int.emod_eq_of_lt (by omega) (by omega), Int.mul_comm s.per]
      omega
    omega
  · rintro ⟨a1, a2⟩
    have q : 0 ≤ t / s.per := Int.ediv_nonneg (by omega) (by omega)
    refine ⟨(t / s.per).toNat, ?_⟩
    rw [Int.toNat_of_nonneg q, Int.mul_comm]
    omega
theorem opn_succ {s : Slot} (h : s.ok) {t : Int} (h0 : 0 ≤ t) : opn s (t + 1) = opn s t + if openS s t then 1 else 0 := by
  have hm := open_mod h h0
  obtain ⟨h1, h2, h3, h4, h5, h6⟩ := h
  have e := Int.mul_ediv_add_emod t s.per
  have e0 := Int.emod_nonneg t (show s.per ≠ 0 by omega)
  have e1 := Int.emod_lt_of_pos t (show 0 < s.per by omega)
  unfold opn
  by_cases c : t % s.per + 1 < s.per
  · have d1 : (t + 1) % s.per = t % s.per + 1 := by
      have : t + 1 = (t % s.per + 1) + s.per * (t / s.per) := by omega
      rw [this, Int.add_mul_emod_self_left, Int.emod_eq_of_lt (by omega) c]
    have d2 : (t + 1) / s.per = t / s.per := by
      have : t + 1 = (t % s.per + 1) + s.per * (t / s.per) := by omega
      rw [this, Int.add_mul_ediv_left _ _ (by omega), Int.ediv_eq_zero_of_lt (by omega) c]
      omega
    rw [d1, d2]
    by_cases o : openS s t
    · rw [if_pos o]; have := hm.1 o; omega
    · rw [if_neg o]
      have : ¬ (s.off ≤ t % s.per ∧ t % s.per < s.off + s.len) := fun k => o (hm.2 k)
      omega
  · have d0 : t % s.per = s.per - 1 := by omega
    have d3 : t + 1 = 0 + s.per * (t / s.per + 1) := by rw [Int.mul_add]; omega
    have d1 : (t + 1) % s.per = 0 := by rw [d3, Int.add_mul_emod_self_left]; simp
    have d2 : (t + 1) / s.per = t / s.per + 1 := by rw [d3, Int.add_mul_ediv_left _ _ (by omega)]; simp
    rw [d1, d2, Int.add_mul]
    by_cases o : openS s t
    · rw [if_pos o]; have := hm.1 o; omega
    · rw [if_neg o]
      have : ¬ (s.off ≤ t % s.per ∧ t % s.per < s.off + s.len) := fun k => o (hm.2 k)
      omega
theorem opn_zero {s : Slot} (h : s.ok) : opn s 0 = 0 := by
  have h5 := h.2.2.2.2.1
  have h3 := h.2.2.1
  simp [opn]; omega
theorem opn_frame {s : Slot} (h : s.ok) {F : Int} (hd : F % s.per = 0) : opn s F = F / s.per * s.len := by
  have h5 := h.2.2.2.2.1
  have h3 := h.2.2.1
  unfold opn
  rw [hd]; omega
theorem opn_bd {s : Slot} (h : s.ok) (t : Nat) : 0 ≤ opn s t ∧ opn s t ≤ t := by
  induction t with
  | zero => rw [show ((0 : Nat) : Int) = 0 from rfl, opn_zero h]; omega
  | succ t ih =>
    rw [Int.natCast_add, show ((1 : Nat) : Int) = 1 from rfl, opn_succ h (by omega)]
    split <;> omega

section
variable {F : Int} {ps : List Part} {os : List Int} {sl : List Slot} {l : List Win}
/-- who owns a tick of the frame. -/
structure TickOf (l : List Win) (sl : List Slot) (F t : Int) (i : Nat) : Prop where
  lt : i < sl.length
  cnt : cntTo t l l.length = (1, (i : Int))
  own : ownerV l F t = ((i : Int), true)
  is_ : ∀ k (h : k < sl.length), openS sl[k] t ↔ k = i
structure TickNone (l : List Win) (sl : List Slot) (F t : Int) : Prop where
  cnt : cntTo t l l.length = (0, 0)
  own : ownerV l F t = (0, false)
  is_ : ∀ k (h : k < sl.length), ¬ openS sl[k] t
theorem cnt_none {t : Int} (k : Nat) (hk : k ≤ l.length) (h : ∀ j (h : j < l.length), j < k → inW t l[j] = false) : cntTo t l k = (0, 0) := by
  induction k with
  | zero => rfl
  | succ k ih =>
    rw [cntTo_succ t l k (by omega), ih (by omega) fun j hj hjk => h j hj (by omega)]
    simp [cntStep, h k (by omega) (by omega)]
theorem cnt_one {t : Int} {i : Nat} (hi : i < l.length) (hin : inW t l[i] = true) (h : ∀ j (h : j < l.length), j ≠ i → inW t l[j] = false) (k : Nat) (hk : k ≤ l.length) : cntTo t l k = if i < k then (1, l[i].part) else (0, 0) := by
  induction k with
  | zero => rfl
  | succ k ih =>
    rw [cntTo_succ t l k (by omega), ih (by omega)]
    unfold cntStep
    by_cases e : k = i
    · subst e
      simp [hin]
    · rw [h k (by omega) e]
      by_cases c : i < k
      · simp [c, show i < k + 1 by omega]
      · simp [c, show ¬ i < k + 1 by omega]
theorem tick (hS : SlotsOk F ps os sl) (hN : NoClash sl) (hT : TableOk F sl l) {t : Int} (h0 : 0 ≤ t) (h1 : t < F) : (∃ i, TickOf l sl F t i) ∨ TickNone l sl F t := by
  have hF := hS.frame
  have hm : t % F = t := Int.emod_eq_of_lt h0 h1
  by_cases hex : ∃ i, ∃ h : i < sl.length, openS sl[i] t
  · obtain ⟨i, hi, ho⟩ := hex
    left
    have hok := hS.ok _ (List.getElem_mem hi)
    have hdv := hS.div _ (List.getElem_mem hi)
    obtain ⟨j, j1, j2⟩ := (open_iff hok t).1 ho
    have hjc : j < cntS F sl[i] := (tk_lt_iff hok hF.1 hdv j).1 (by omega)
    have hx : (⟨i, sl[i].tk j, sl[i].len⟩ : Win) ∈ l := (tab_mem hT _).2 ⟨i, hi, j, hjc, rfl⟩
    obtain ⟨n, hn, he⟩ := List.getElem_of_mem hx
    have hin : inW t l[n] = true := by rw [he]; simp [inW, j1, j2]
    have hno : ∀ j (h : j < l.length), j ≠ n → inW t l[j] = false := fun j hj hjn => by
      cases hh : inW t l[j] with
      | false => rfl
      | true =>
        simp only [inW, Bool.and_eq_true, decide_eq_true_iff] at hh hin
        have e := tab_one hS hN hT (List.getElem_mem hj) (List.getElem_mem hn) hh.1 hh.2 hin.1 hin.2
        exact absurd (nodup_inj (tab_nodup hS hT) hj hn e) hjn
    refine ⟨i, hi, ?_, ?_, fun k hk => ⟨fun hok' => ?_, fun e => by subst e; exact ho⟩⟩
    · rw [cnt_one hn hin hno l.length (Nat.le_refl _), if_pos hn, he]
    · exact tab_owner hS hN hT hx h0 (by omega) (by rw [hm]; exact j1) (by rw [hm]; exact j2)
    · have hokk := hS.ok _ (List.getElem_mem hk)
      rcases Nat.lt_trichotomy k i with c | c | c
      · exact absurd ⟨hok', ho⟩ (apart_true hokk hok (hN i k c hi) t)
      · exact c
      · exact absurd ⟨ho, hok'⟩ (apart_true hok hokk (hN k i c hk) t)
  · right
    have hno : ∀ j (h : j < l.length), inW t l[j] = false := fun j hj => by
      cases hh : inW t l[j] with
      | false => rfl
      | true =>
        simp only [inW, Bool.and_eq_true, decide_eq_true_iff] at hh
        obtain ⟨i, hi, k, hk, e⟩ := (tab_mem hT _).1 (List.getElem_mem hj)
        rw [e] at hh
        exact absurd ⟨i, hi, (open_iff (hS.ok _ (List.getElem_mem hi)) t).2 ⟨k, hh.1, hh.2⟩⟩ hex
    refine ⟨cnt_none l.length (Nat.le_refl _) fun j hj _ => hno j hj, ?_, fun k hk ho => hex ⟨k, hk, ho⟩⟩
    unfold ownerV
    split
    · rw [hm]
      have : l.find? (ownP t) = none := by
        rw [List.find?_eq_none]
        intro x hx hp
        obtain ⟨j, hj, rfl⟩ := List.getElem_of_mem hx
        have := hno j hj
        simp only [ownP, Bool.and_eq_true, decide_eq_true_iff] at hp
        simp [inW, hp.2.1, hp.2.2] at this
      rw [this]
    · rfl
/-- how many ticks each partition has owned. -/
def ownedTo (sl : List Slot) (t : Int) : List Int := sl.map fun s => opn s t
theorem ownedTo_len (sl : List Slot) (t : Int) : (ownedTo sl t).length = sl.length := by simp [ownedTo]
theorem ownedTo_get (sl : List Slot) (t : Int) (i : Nat) (h : i < (ownedTo sl t).length) : (ownedTo sl t)[i] = opn (sl[i]'(by simpa [ownedTo] using h)) t := by simp [ownedTo]
theorem ownedTo_of (hS : SlotsOk F ps os sl) {t : Int} (h0 : 0 ≤ t) {i : Nat} (h : TickOf l sl F t i) : ownedTo sl (t + 1) = (ownedTo sl t).set i (opn (sl[i]'h.lt) t + 1) := by
  refine List.ext_getElem (by simp [ownedTo]) fun k hk hk2 => ?_
  have hks : k < sl.length := by simpa [ownedTo] using hk
  rw [ownedTo_get, opn_succ (hS.ok _ (List.getElem_mem _)) h0, List.getElem_set]
  by_cases e : i = k
  · subst e
    rw [if_pos ((h.is_ i hks).2 rfl)]; simp
  · rw [if_neg (fun o => e ((h.is_ k hks).1 o).symm), if_neg e, ownedTo_get]; simp
theorem ownedTo_none (hS : SlotsOk F ps os sl) {t : Int} (h0 : 0 ≤ t) (h : TickNone l sl F t) : ownedTo sl (t + 1) = ownedTo sl t := by
  refine List.ext_getElem (by simp [ownedTo]) fun k hk hk2 => ?_
  have hks : k < sl.length := by simpa [ownedTo] using hk
  rw [ownedTo_get, ownedTo_get, opn_succ (hS.ok _ (List.getElem_mem _)) h0, if_neg (h.is_ k hks)]; simp
theorem ownedTo_zero (hS : SlotsOk F ps os sl) : ownedTo sl 0 = List.replicate sl.length 0 := by
  refine List.ext_getElem (by simp [ownedTo]) fun k hk hk2 => ?_
  have hks : k < sl.length := by simpa [ownedTo] using hk
  rw [ownedTo_get, opn_zero (hS.ok _ (List.getElem_mem hks))]; simp
end
end Go.Proofs.Ytlmbffnmjfbglaa
