/- Plans without one partition; plans whose times are multiplied; how much of a frame a plan takes. -/
import Derived.Test.YtlmbffnmjfbglabG8
import Derived.Test.YtlmbffnmjfbglabG2
set_option linter.unusedSimpArgs false
set_option linter.unusedVariables false
namespace Go.Proofs.Ytlmbffnmjfbglab

theorem isPlan_iff {ps : List Part} {xs : List Int} : IsPlan ps xs ↔ xs.length = ps.length ∧ (∀ k, k < ps.length → 0 ≤ xs.getD k 0 ∧ xs.getD k 0 ≤ lastP ps k) ∧ ∀ j k, j < k → k < ps.length → disjB (pslot ps j (xs.getD j 0)) (pslot ps k (xs.getD k 0)) = true := by
  have hcl : ∀ k, k < ps.length → xs.length = ps.length → ∀ j, j < k → (clashP ps (xs.take k) j (xs.getD k 0) = false ↔ disjB (pslot ps j (xs.getD j 0)) (pslot ps k (xs.getD k 0)) = true) := by
    intro k hk hx j hj
    have htl : (xs.take k).length = k := by simp; omega
    have hgj : (xs.take k).getD j 0 = xs.getD j 0 := by simp [List.getD_eq_getElem?_getD, List.getElem?_take, hj]
    unfold clashP
    rw [htl, hgj]
    cases disjB (pslot ps j (xs.getD j 0)) (pslot ps k (xs.getD k 0)) <;> simp
  constructor
  · rintro ⟨h1, h2⟩
    exact ⟨h1, fun k hk => ⟨(h2 k hk).1, (h2 k hk).2.1⟩, fun j k hj hk => (hcl k hk h1 j hj).1 ((h2 k hk).2.2 j hj)⟩
  · rintro ⟨h1, h2, h3⟩
    exact ⟨h1, fun k hk => ⟨(h2 k hk).1, (h2 k hk).2, fun j hj => (hcl k hk h1 j hj).2 (h3 j k hj hk)⟩⟩
theorem getD_erase {α : Type} (l : List α) (k i : Nat) (d : α) : (l.eraseIdx k).getD i d = l.getD (if i < k then i else i + 1) d := by
  simp only [List.getD_eq_getElem?_getD, List.getElem?_eraseIdx]
  split <;> rfl
/-- a plan without one of its partitions. -/
theorem isPlan_erase {ps : List Part} {xs : List Int} {k : Nat} (h : IsPlan ps xs) (hk : k < ps.length) : IsPlan (ps.eraseIdx k) (xs.eraseIdx k) := by
  rw [isPlan_iff] at h ⊢
  obtain ⟨h1, h2, h3⟩ := h
  have hl : (ps.eraseIdx k).length = ps.length - 1 := List.length_eraseIdx_of_lt hk
  refine ⟨by rw [hl, List.length_eraseIdx_of_lt (by omega)]; omega, fun i hi => ?_, fun i j hi hj => ?_⟩
  · rw [getD_erase]
    unfold lastP
    rw [getD_erase]
    exact h2 _ (by split <;> omega)
  · unfold pslot
    rw [getD_erase, getD_erase, getD_erase, getD_erase]
    exact h3 _ _ (by split <;> split <;> omega) (by split <;> omega)
theorem timesV_of {F : Int} {ps : List Part} (h : TimesOk F ps) : timesV F ps = true := by
  simp only [timesV, Bool.and_eq_true, decide_eq_true_iff, Bool.not_eq_true', List.any_eq_false]
  refine ⟨h.frame.1, h.frame.2, h.few, fun p hp => ?_⟩
  have a := h.per p hp
  have b := h.len p hp
  simp only [timeBad, Bool.or_eq_true, decide_eq_true_iff, not_or, Decidable.not_not]
  omega
theorem timesV_erase {F : Int} {ps : List Part} (k : Nat) (h : timesV F ps = true) : timesV F (ps.eraseIdx k) = true := by
  have hT := timesV_ok h
  exact timesV_of ⟨hT.frame, Nat.le_trans (List.length_eraseIdx_le _ _) hT.few, fun p hp => hT.per p (List.mem_of_mem_eraseIdx hp), fun p hp => hT.len p (List.mem_of_mem_eraseIdx hp)⟩
theorem plan_ok {F : Int} {ps : List Part} (hT : timesV F ps = true) (h : (planV F ps).2.2 = 0) : planV F ps = ((planV F ps).1, [], 0) ∧ IsPlan ps (planV F ps).1 ∧ ∀ xs, IsPlan ps xs → LexLe (planV F ps).1 xs := by
  rcases planV_cases hT with ⟨os, hv, h1, h2⟩ | ⟨h1, _⟩ | ⟨h1, _⟩
  · rw [hv]; exact ⟨rfl, h1, h2⟩
  · omega
  · omega
/-- what PlanLess asks. -/
theorem less_law {F : Int} {ps : List Part} (hT : timesV F ps = true) (h : (planV F ps).2.2 = 0) {k : Nat} (hk : k < ps.length) :
    fitsV F (ps.eraseIdx k) ((planV F ps).1.eraseIdx k) = true ∧
    ((planV F (ps.eraseIdx k)).2.2 = 5 ∨ ((planV F (ps.eraseIdx k)).2.2 = 0 ∧ fitsV F (ps.eraseIdx k) (planV F (ps.eraseIdx k)).1 = true ∧ (planV F (ps.eraseIdx k)).1.length = ((planV F ps).1.eraseIdx k).length ∧ LexLe (planV F (ps.eraseIdx k)).1 ((planV F ps).1.eraseIdx k))) := by
  obtain ⟨_, hp, _⟩ := plan_ok hT h
  have hT' := timesV_erase k hT
  have hq := isPlan_erase hp hk
  refine ⟨(fits_iff hT' _).2 hq, ?_⟩
  rcases planV_cases hT' with ⟨os, hv, h1, h2⟩ | ⟨h1, _⟩ | ⟨_, _, _, h4⟩
  · right
    rw [hv]
    exact ⟨rfl, (fits_iff hT' _).2 h1, h1.1.trans hq.1.symm, h2 _ hq⟩
  · exact .inl h1
  · exact absurd hq (h4 _)

def Slot.scale (a : Slot) (f : Int) : Slot := ⟨f * a.off, f * a.per, f * a.len⟩
theorem open_scale {a : Slot} {f : Int} (ha : a.ok) (hf : 1 ≤ f) (u : Int) : openS (a.scale f) u ↔ openS a (u / f) := by
  have e := Int.mul_ediv_add_emod u f
  have r0 := Int.emod_nonneg u (show f ≠ 0 by omega)
  have r1 := Int.emod_lt_of_pos u (show 0 < f by omega)
  generalize u / f = v at *
  generalize u % f = r at *
  obtain ⟨a1, a2, a3, a4, a5, a6⟩ := ha
  have d := Int.mul_ediv_add_emod (v - a.off) a.per
  have d0 := Int.emod_nonneg (v - a.off) (show a.per ≠ 0 by omega)
  have d1 := Int.emod_lt_of_pos (v - a.off) (show 0 < a.per by omega)
  have key : (u - f * a.off) % (f * a.per) = f * ((v - a.off) % a.per) + r := by
    have e2 : u - f * a.off = (f * ((v - a.off) % a.per) + r) + f * a.per * ((v - a.off) / a.per) := by
      have : f * (v - a.off) = f * (a.per * ((v - a.off) / a.per) + (v - a.off) % a.per) := by rw [d]
      rw [Int.mul_sub, Int.mul_add, ← Int.mul_assoc] at this
      omega
    have b0 : 0 ≤ f * ((v - a.off) % a.per) := Int.mul_nonneg (by omega) d0
    have b1 : f * ((v - a.off) % a.per + 1) ≤ f * a.per := Int.mul_le_mul_of_nonneg_left (by omega) (by omega)
    rw [Int.mul_add] at b1
    rw [e2, Int.add_mul_emod_self_left, Int.emod_eq_of_lt (by omega) (by omega)]
  unfold openS Slot.scale
  simp only
  rw [key]
  constructor
  · rintro ⟨h1, h2⟩
    refine ⟨?_, ?_⟩
    · rcases Int.lt_or_le v a.off with c | c
      · have : f * (v + 1) ≤ f * a.off := Int.mul_le_mul_of_nonneg_left (by omega) (by omega)
        rw [Int.mul_add] at this; omega
      · exact c
    · rcases Int.lt_or_le ((v - a.off) % a.per) a.len with c | c
      · exact c
      · have : f * a.len ≤ f * ((v - a.off) % a.per) := Int.mul_le_mul_of_nonneg_left c (by omega)
        omega
  · rintro ⟨h1, h2⟩
    have c1 : f * a.off ≤ f * v := Int.mul_le_mul_of_nonneg_left h1 (by omega)
    have c2 : f * ((v - a.off) % a.per + 1) ≤ f * a.len := Int.mul_le_mul_of_nonneg_left (by omega) (by omega)
    rw [Int.mul_add] at c2
    exact ⟨by omega, by omega⟩
theorem meetV_scale {a b : Slot} {f : Int} {q : Int × Bool} (ha : a.ok) (hb : b.ok) (hf : 1 ≤ f) (hx : (a.scale f).ok) (hy : (b.scale f).ok) (h : MeetV a b q) : MeetV (a.scale f) (b.scale f) (f * q.1, q.2) := by
  rcases h with ⟨rfl, h⟩ | ⟨h1, _, _, hM⟩
  · rw [show validS a = true from decide_eq_true ha, show validS b = true from decide_eq_true hb] at h
    simp only [Bool.true_eq_false, false_or] at h
    refine .inl ⟨by simp, .inr (.inr fun t ht => h (t / f) ⟨(open_scale ha hf t).1 ht.1, (open_scale hb hf t).1 ht.2⟩)⟩
  · refine .inr ⟨h1, hx, hy, Int.mul_nonneg (by omega) hM.nonneg, ?_, fun t ht hbo => ?_⟩
    · have e : f * q.1 / f = q.1 := Int.mul_ediv_cancel_left _ (by omega)
      exact ⟨(open_scale ha hf _).2 (by rw [e]; exact hM.both.1), (open_scale hb hf _).2 (by rw [e]; exact hM.both.2)⟩
    · refine hM.least (t / f) ?_ ⟨(open_scale ha hf t).1 hbo.1, (open_scale hb hf t).1 hbo.2⟩
      have e := Int.mul_ediv_add_emod t f
      have r0 := Int.emod_nonneg t (show f ≠ 0 by omega)
      rcases Int.lt_or_le (t / f) q.1 with c | c
      · exact c
      · have : f * q.1 ≤ f * (t / f) := Int.mul_le_mul_of_nonneg_left c (by omega)
        simp only at ht; omega
theorem disj_scale {a b : Slot} {f : Int} (ha : a.ok) (hb : b.ok) (hf : 1 ≤ f) (hx : (a.scale f).ok) (hy : (b.scale f).ok) : disjB (a.scale f) (b.scale f) = disjB a b := by
  obtain ⟨q, hq⟩ := meet_ex a b
  rw [← disj_q hq, ← disj_q (meetV_scale ha hb hf hx hy hq)]
  simp [validS, ha, hb, hx, hy]
/-- how many of the first n ticks a slot is open. -/
def opn (s : Slot) (n : Int) : Int := n / s.per * s.len + max 0 (min (n % s.per - s.off) s.len)
theorem open_mod {s : Slot} (h : s.ok) {t : Int} (_h0 : 0 ≤ t) : openS s t ↔ s.off ≤ t % s.per ∧ t % s.per < s.off + s.len := by
  have h' := h
  obtain ⟨h1, h2, h3, h4, h5, h6⟩ := h
  have e := Int.mul_ediv_add_emod t s.per
  have e0 := Int.emod_nonneg t (show s.per ≠ 0 by omega)
  have e1 := Int.emod_lt_of_pos t (show 0 < s.per by omega)
  rw [open_iff h']
  unfold Slot.tk
  constructor
  · rintro ⟨k, a1, a2⟩
    have hd : t % s.per = t - k * s.per := by
      have : t = (t - k * s.per) + s.per * k := by rw [Int.mul_comm s.per]; omega
      rw [this, Int.add_mul_emod_self_left, Int.emod_eq_of_lt (by omega) (by omega), Int.mul_comm s.per]
      omega
    omega
  · rintro ⟨a1, a2⟩
    have q : 0 ≤ t / s.per := Int.ediv_nonneg (by omega) (by omega)
    refine ⟨(t / s.per).toNat, ?_⟩
    rw [Int.toNat_of_nonneg q, Int.mul_comm]
    omega
theorem opn_succ {s : Slot} (h : s.ok) {t : Int} (h0 : 0 ≤ t) : opn s (t + 1) = opn s t + if openS s t then 1 else 0 := by
  have hm := open_mod h h0
  obtain ⟨h1, h2, h3, h4, h5, h6⟩ := h
  have e := Int.mul_ediv_add_emod t s.per
  have e0 := Int.emod_nonneg t (show s.per ≠ 0 by omega)
  have e1 := Int.emod_lt_of_pos t (show 0 < s.per by omega)
  unfold opn
  by_cases c : t % s.per + 1 < s.per
  · have d1 : (t + 1) % s.per = t % s.per + 1 := by
      have : t + 1 = (t % s.per + 1) + s.per * (t / s.per) := by omega
      rw [this, Int.add_mul_emod_self_left, Int.emod_eq_of_lt (by omega) c]
    have d2 : (t + 1) / s.per = t / s.per := by
      have : t + 1 = (t % s.per + 1) + s.per * (t / s.per) := by omega
      rw [this, Int.add_mul_ediv_left _ _ (by omega), Int.ediv_eq_zero_of_lt (by omega) c]
      omega
    rw [d1, d2]
    by_cases o : openS s t
    · rw [if_pos o]; have := hm.1 o; omega
    · rw [if_neg o]
      have : ¬ (s.off ≤ t % s.per ∧ t % s.per < s.off + s.len) := fun k => o (hm.2 k)
      omega
  · have d0 : t % s.per = s.per - 1 := by omega
    have d3 : t + 1 = 0 + s.per * (t / s.per + 1) := by rw [Int.mul_add]; omega
    have d1 : (t + 1) % s.per = 0 := by rw [d3, Int.add_mul_emod_self_left]; simp
    have d2 : (t + 1) / s.per = t / s.per + 1 := by rw [d3, Int.add_mul_ediv_left _ _ (by omega)]; simp
    rw [d1, d2, Int.add_mul]
    by_cases o : openS s t
    · rw [if_pos o]; have := hm.1 o; omega
    · rw [if_neg o]
      have : ¬ (s.off ≤ t % s.per ∧ t % s.per < s.off + s.len) := fun k => o (hm.2 k)
      omega
theorem opn_zero {s : Slot} (h : s.ok) : opn s 0 = 0 := by
  have h5 := h.2.2.2.2.1
  have h3 := h.2.2.1
  simp [opn]; omega
theorem opn_frame {s : Slot} (h : s.ok) {F : Int} (hd : F % s.per = 0) : opn s F = F / s.per * s.len := by
  have h5 := h.2.2.2.2.1
  have h3 := h.2.2.1
  unfold opn
  rw [hd]; omega

/-- a partition's times, multiplied. -/
def scaleP (f : Int) (p : Part) : Part := ⟨ByteArray.empty, f * p.period, f * p.length, 0, ⟨none, 0, 0⟩, 0, 0, ⟨none, 0, 0⟩, ⟨none, 0, 0⟩, ⟨none, 0, 0⟩⟩
theorem timesV_scale {F f : Int} {ps : List Part} (hT : timesV F ps = true) (hf : 1 ≤ f) (hF : f * F ≤ 2000) : timesV (f * F) (ps.map (scaleP f)) = true := by
  have h := timesV_ok hT
  have hm : ∀ x y : Int, x ≤ y → f * x ≤ f * y := fun x y hxy => Int.mul_le_mul_of_nonneg_left hxy (by omega)
  have h1 := hm 1 F h.frame.1
  refine timesV_of ⟨⟨by omega, hF⟩, by simpa using h.few, fun p hp => ?_, fun p hp => ?_⟩ <;> (obtain ⟨q, hq, rfl⟩ := List.mem_map.1 hp)
  · obtain ⟨a, b, c⟩ := h.per q hq
    simp only [scaleP]
    have e := Int.mul_ediv_add_emod F q.period
    have d : q.period ≤ F := by
      rcases Int.lt_or_le (F / q.period) 1 with g | g
      · have : q.period * (F / q.period) ≤ 0 := Int.mul_nonpos_of_nonneg_of_nonpos (by omega) (by omega)
        have := h.frame.1
        omega
      · have : q.period * 1 ≤ q.period * (F / q.period) := Int.mul_le_mul_of_nonneg_left g (by omega)
        omega
    have h2 := hm _ _ a
    have h3 := hm _ _ d
    refine ⟨by omega, by omega, ?_⟩
    rw [Int.mul_emod_mul_of_pos _ _ (by omega), c, Int.mul_zero]
  · obtain ⟨a, b⟩ := h.len q hq
    simp only [scaleP]
    have h2 := hm _ _ a
    have h3 := hm _ _ b
    omega
theorem map_getD {ps : List Part} {f : Int} {k : Nat} (hk : k < ps.length) : (ps.map (scaleP f)).getD k default = scaleP f (ps.getD k default) := by
  simp [List.getD_eq_getElem?_getD, hk]
theorem lastP_scale {ps : List Part} {f : Int} {k : Nat} (hk : k < ps.length) : lastP (ps.map (scaleP f)) k = f * lastP ps k := by
  unfold lastP
  rw [map_getD hk, Int.mul_sub]
  rfl
theorem pslot_scale {ps : List Part} {f o : Int} {k : Nat} (hk : k < ps.length) : pslot (ps.map (scaleP f)) k (f * o) = (pslot ps k o).scale f := by
  unfold pslot
  rw [map_getD hk]
  rfl
theorem getD_scale {xs : List Int} {f : Int} {k : Nat} (hk : k < xs.length) : (xs.map (f * ·)).getD k 0 = f * xs.getD k 0 := by
  simp [List.getD_eq_getElem?_getD, hk]
theorem slot_ok {F : Int} {ps : List Part} (hT : timesV F ps = true) {xs : List Int} (hx : xs.length = ps.length) (hok : ∀ k, k < ps.length → 0 ≤ xs.getD k 0 ∧ xs.getD k 0 ≤ lastP ps k) {k : Nat} (hk : k < ps.length) : (pslot ps k (xs.getD k 0)).ok := ok_of ((slots_valid hT hx hok).2 k hk)
/-- a plan whose times are multiplied. -/
theorem isPlan_scale {F f : Int} {ps : List Part} {xs : List Int} (hT : timesV F ps = true) (hf : 1 ≤ f) (hF : f * F ≤ 2000) (h : IsPlan ps xs) : IsPlan (ps.map (scaleP f)) (xs.map (f * ·)) := by
  have hT' := timesV_scale hT hf hF
  rw [isPlan_iff] at h
  obtain ⟨h1, h2, h3⟩ := h
  have h2' : ∀ k, k < (ps.map (scaleP f)).length → 0 ≤ (xs.map (f * ·)).getD k 0 ∧ (xs.map (f * ·)).getD k 0 ≤ lastP (ps.map (scaleP f)) k := fun k hk => by
    rw [List.length_map] at hk
    rw [getD_scale (by omega), lastP_scale hk]
    exact ⟨Int.mul_nonneg (by omega) (h2 k hk).1, Int.mul_le_mul_of_nonneg_left (h2 k hk).2 (by omega)⟩
  have h1' : (xs.map (f * ·)).length = (ps.map (scaleP f)).length := by simp [h1]
  rw [isPlan_iff]
  refine ⟨h1', h2', fun j k hj hk => ?_⟩
  have oj := slot_ok hT' h1' h2' (k := j) (by omega)
  have ok := slot_ok hT' h1' h2' (k := k) hk
  rw [List.length_map] at hk
  rw [getD_scale (by omega), pslot_scale (by omega)] at oj ok ⊢
  rw [getD_scale (by omega), pslot_scale (by omega)]
  rw [disj_scale (slot_ok hT h1 h2 (by omega)) (slot_ok hT h1 h2 hk) hf oj ok]
  exact h3 j k hj hk

/-- how many slots are open. -/
def openN (sl : List Slot) (t : Int) : Int := (sl.map fun s => if openS s t then 1 else 0).sum
theorem openN_none {sl : List Slot} {t : Int} (h : ∀ s ∈ sl, ¬ openS s t) : openN sl t = 0 := by
  induction sl with
  | nil => rfl
  | cons a r ih =>
    have := ih fun s hs => h s (List.mem_cons_of_mem _ hs)
    unfold openN at this ⊢
    rw [List.map_cons, List.sum_cons, this, if_neg (h a (List.mem_cons_self ..))]
    rfl
theorem openN_le {sl : List Slot} (hp : sl.Pairwise fun a b => ∀ t, ¬ bothS a b t) (t : Int) : openN sl t ≤ 1 := by
  induction sl with
  | nil => simp [openN]
  | cons a r ih =>
    obtain ⟨h1, h2⟩ := List.pairwise_cons.1 hp
    have ih := ih h2
    by_cases ha : openS a t
    · have := openN_none (sl := r) (t := t) fun s hs hso => h1 s hs t ⟨ha, hso⟩
      unfold openN at this ⊢
      rw [List.map_cons, List.sum_cons, this, if_pos ha]
      omega
    · unfold openN at ih ⊢
      rw [List.map_cons, List.sum_cons, if_neg ha]
      omega
theorem opn_sum {sl : List Slot} (hok : ∀ s ∈ sl, s.ok) {t : Int} (h0 : 0 ≤ t) : (sl.map fun s => opn s (t + 1)).sum = (sl.map fun s => opn s t).sum + openN sl t := by
  induction sl with
  | nil => simp [openN]
  | cons a r ih =>
    have ih := ih fun s hs => hok s (List.mem_cons_of_mem _ hs)
    unfold openN at ih ⊢
    simp only [List.map_cons, List.sum_cons]
    rw [ih, opn_succ (hok a (List.mem_cons_self ..)) h0]
    omega
theorem opn_sum_le {sl : List Slot} (hok : ∀ s ∈ sl, s.ok) (hp : sl.Pairwise fun a b => ∀ t, ¬ bothS a b t) (t : Nat) : (sl.map fun s => opn s t).sum ≤ t := by
  induction t with
  | zero =>
    have : ∀ l : List Slot, (∀ s ∈ l, s.ok) → (l.map fun s => opn s ((0 : Nat) : Int)).sum = 0 := by
      intro l
      induction l with
      | nil => intro _; rfl
      | cons a r ih =>
        intro h
        rw [List.map_cons, List.sum_cons, ih fun s hs => h s (List.mem_cons_of_mem _ hs)]
        have := opn_zero (h a (List.mem_cons_self ..))
        simpa using this
    rw [this sl hok]
    omega
  | succ t ih =>
    have e := opn_sum hok (t := (t : Int)) (by omega)
    have := openN_le hp (t : Int)
    rw [Int.natCast_add, show ((1 : Nat) : Int) = 1 from rfl, e]
    omega
/-- how many ticks of a frame the partitions want. -/
def loadV (F : Int) (ps : List Part) : Int := (ps.map fun p => p.length * (F / p.period)).sum
theorem load_le {F : Int} {ps : List Part} {xs : List Int} (hT : timesV F ps = true) (h : IsPlan ps xs) : loadV F ps ≤ F := by
  rw [isPlan_iff] at h
  obtain ⟨h1, h2, h3⟩ := h
  have hF := (timesV_ok hT).frame
  have hz : ∀ k (hk : k < (zipS xs ps).length), (zipS xs ps)[k] = pslot ps k (xs.getD k 0) ∧ k < ps.length := fun k hk => zip_slot h1 k hk
  have hzl : (zipS xs ps).length = ps.length := by simp [zipS, h1]
  have hok : ∀ s ∈ zipS xs ps, s.ok := fun s hs => by
    obtain ⟨k, hk, rfl⟩ := List.getElem_of_mem hs
    rw [(hz k hk).1]
    exact slot_ok hT h1 h2 (hz k hk).2
  have hpw : (zipS xs ps).Pairwise fun a b => ∀ t, ¬ bothS a b t := List.pairwise_iff_getElem.2 fun i j hi hj hij => by
    rw [(hz i hi).1, (hz j hj).1]
    exact (disj_iff (slot_ok hT h1 h2 (hz i hi).2) (slot_ok hT h1 h2 (hz j hj).2)).1 (h3 i j hij (hz j hj).2)
  have hs := opn_sum_le hok hpw F.toNat
  rw [Int.toNat_of_nonneg (by omega)] at hs
  have e : ((zipS xs ps).map fun s => opn s F) = ps.map fun p => p.length * (F / p.period) := by
    refine List.ext_getElem (by simp [hzl]) fun k hk1 hk2 => ?_
    have hk : k < ps.length := by simpa using hk2
    have hkz : k < (zipS xs ps).length := by omega
    rw [List.getElem_map, List.getElem_map, (hz k hkz).1]
    have hp := (timesV_ok hT).per ps[k] (List.getElem_mem _)
    have hpp : (pslot ps k (xs.getD k 0)).per = ps[k].period ∧ (pslot ps k (xs.getD k 0)).len = ps[k].length := by simp [pslot, List.getD_eq_getElem?_getD, hk]
    rw [opn_frame (slot_ok hT h1 h2 hk) (by rw [hpp.1]; exact hp.2.2), hpp.1, hpp.2, Int.mul_comm]
  rw [e] at hs
  exact hs
theorem load_scale {F f : Int} (hf : 1 ≤ f) (ps : List Part) : loadV (f * F) (ps.map (scaleP f)) = f * loadV F ps := by
  unfold loadV
  induction ps with
  | nil => simp
  | cons p r ih =>
    simp only [List.map_cons, List.sum_cons]
    rw [ih, Int.mul_add]
    simp only [scaleP]
    rw [Int.mul_ediv_mul_of_pos _ _ (by omega), Int.mul_assoc]
/-- what PlanScaled asks. -/
theorem scaled_law {F f : Int} {ps : List Part} (hT : timesV F ps = true) (hf : 1 ≤ f) (hF : f * F ≤ 2000) :
    (planV F ps).2.2 = 5 ∨
    ((planV F ps).2.2 = 0 ∧ fitsV (f * F) (ps.map (scaleP f)) ((planV F ps).1.map (f * ·)) = true ∧ loadV F ps ≤ F) ∨
    ((planV F ps).2.2 = 130 ∧ (planV (f * F) (ps.map (scaleP f))).2.2 ≠ 2 ∧ (loadV F ps ≤ F ∨ (planV (f * F) (ps.map (scaleP f))).2.2 ≠ 0) ∧ ((planV (f * F) (ps.map (scaleP f))).2.2 = 130 → checkV (f * F) (ps.map (scaleP f)) (planV (f * F) (ps.map (scaleP f))).2.1 = true)) := by
  have hT' := timesV_scale hT hf hF
  rcases planV_cases hT with ⟨os, hv, h1, h2⟩ | ⟨h1, _⟩ | ⟨h1, _⟩
  · right; left
    rw [hv]
    exact ⟨rfl, (fits_iff hT' _).2 (isPlan_scale hT hf hF h1), load_le hT h1⟩
  · exact .inl h1
  · right; right
    refine ⟨h1, ?_⟩
    rcases planV_cases hT' with ⟨os, hv, a1, _⟩ | ⟨a1, _⟩ | ⟨a1, _, a3, _⟩
    · rw [hv]
      refine ⟨by simp, .inl ?_, fun h => by simp at h⟩
      have := load_le hT' a1
      rw [load_scale hf] at this
      exact Int.le_of_mul_le_mul_left this (by omega)
    · rw [a1]; exact ⟨by decide, .inr (by decide), fun h => by simp at h⟩
    · rw [a1]; exact ⟨by decide, .inr (by decide), fun _ => a3⟩
end Go.Proofs.Ytlmbffnmjfbglab
