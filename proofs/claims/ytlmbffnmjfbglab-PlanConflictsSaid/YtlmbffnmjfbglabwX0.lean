/- Slots in plain numbers: when two slots are open together. -/
import Derived.Test.YtlmbffnmjfbglabwW5
namespace Go.Proofs.Ytlmbffnmjfbglab

def openS (s : Slot) (t : Int) : Prop := s.off ≤ t ∧ (t - s.off) % s.per < s.len
instance (s : Slot) (t : Int) : Decidable (openS s t) := by unfold openS; infer_instance
def bothS (a b : Slot) (t : Int) : Prop := openS a t ∧ openS b t
instance (a b : Slot) (t : Int) : Decidable (bothS a b t) := by unfold bothS; infer_instance

theorem emod_add_small {x p e : Int} (hp : 0 < p) (he : 0 ≤ e) (h : x % p + e < p) : (x + e) % p = x % p + e := by
  have h1 := Int.mul_ediv_add_emod x p
  have h0 := Int.emod_nonneg x (show p ≠ 0 by omega)
  have h2 : x + e = (x % p + e) + p * (x / p) := by omega
  rw [h2, Int.add_mul_emod_self_left, Int.emod_eq_of_lt (by omega) h]

theorem open_iff {s : Slot} (h : s.ok) (t : Int) : openS s t ↔ ∃ k : Nat, s.tk k ≤ t ∧ t < s.tk k + s.len := by
  obtain ⟨h1, h2, h3, h4, h5, h6⟩ := h
  constructor
  · rintro ⟨a1, a2⟩
    refine ⟨((t - s.off) / s.per).toNat, ?_⟩
    have e := Int.mul_ediv_add_emod (t - s.off) s.per
    have q : 0 ≤ (t - s.off) / s.per := Int.ediv_nonneg (by omega) (by omega)
    have e0 := Int.emod_nonneg (t - s.off) (show s.per ≠ 0 by omega)
    unfold Slot.tk
    rw [Int.toNat_of_nonneg q, Int.mul_comm]
    omega
  · rintro ⟨k, a1, a2⟩
    unfold Slot.tk at a1 a2
    have hk : 0 ≤ (k : Int) * s.per := Int.mul_nonneg (by omega) (by omega)
    refine ⟨by omega, ?_⟩
    have e : t - s.off = (t - s.off - k * s.per) + s.per * k := by rw [Int.mul_comm s.per]; omega
    rw [e, Int.add_mul_emod_self_left, Int.emod_eq_of_lt (by omega) (by omega)]
    omega

theorem first_spec {s : Slot} (h : s.ok) (t : Int) : t ≤ firstS s t ∧ openS s (firstS s t) ∧ ∀ u, t ≤ u → u < firstS s t → ¬ openS s u := by
  obtain ⟨h1, h2, h3, h4, h5, h6⟩ := h
  unfold firstS
  have e0 := Int.emod_nonneg (t - s.off) (show s.per ≠ 0 by omega)
  have e1 := Int.emod_lt_of_pos (t - s.off) (show 0 < s.per by omega)
  by_cases c : t < s.off
  · rw [if_pos c]
    refine ⟨by omega, ⟨by omega, ?_⟩, fun u _ hu ho => by have := ho.1; omega⟩
    rw [Int.sub_self, Int.zero_emod]; omega
  · rw [if_neg c]
    by_cases r : s.len ≤ (t - s.off) % s.per
    · rw [if_pos r]
      refine ⟨by omega, ⟨by omega, ?_⟩, fun u hu1 hu2 ho => ?_⟩
      · have e := Int.mul_ediv_add_emod (t - s.off) s.per
        have : t - (t - s.off) % s.per + s.per - s.off = 0 + s.per * ((t - s.off) / s.per + 1) := by rw [Int.mul_add]; omega
        rw [this, Int.add_mul_emod_self_left, Int.zero_emod]; omega
      · have := emod_add_small (x := t - s.off) (p := s.per) (e := u - t) (by omega) (by omega) (by omega)
        rw [show t - s.off + (u - t) = u - s.off from by omega] at this
        have h' := ho.2
        omega
    · rw [if_neg r]
      exact ⟨Int.le_refl _, ⟨by omega, by omega⟩, fun u hu1 hu2 _ => by omega⟩

theorem hit_iff {a b : Slot} (hb : b.ok) (k : Nat) : hitB a b k = true ↔ ∃ t, a.tk k ≤ t ∧ t < a.tk k + a.len ∧ openS b t := by
  obtain ⟨f1, f2, f3⟩ := first_spec hb (a.tk k)
  unfold hitB
  rw [decide_eq_true_iff]
  constructor
  · intro h; exact ⟨_, f1, h, f2⟩
  · rintro ⟨t, h1, h2, h3⟩
    rcases Int.lt_or_le (firstS b (a.tk k)) (a.tk k + a.len) with h | h
    · exact h
    · exact absurd h3 (f3 t h1 (by omega))

theorem bezout (a b : Nat) : ∃ x y : Int, (Nat.gcd a b : Int) = a * x + b * y := by
  induction a, b using Nat.gcd.induction with
  | H0 n => exact ⟨0, 1, by simp⟩
  | H1 m n hm ih =>
    obtain ⟨x, y, h⟩ := ih
    rw [Nat.gcd_rec, h]
    refine ⟨y - (n / m : Nat) * x, x, ?_⟩
    have e : ((n % m : Nat) : Int) = n - m * (n / m : Nat) := by
      have := Nat.div_add_mod n m
      have h2 : ((m * (n / m) + n % m : Nat) : Int) = n := by rw [this]
      rw [Int.natCast_add, Int.natCast_mul] at h2
      omega
    rw [e, Int.sub_mul, Int.mul_sub, Int.mul_assoc]
    omega

theorem combine (p q : Int) (hp : 1 ≤ p) (hq : 1 ≤ q) (m : Int) : ∃ i j : Nat, (i : Int) * p - j * q = (Nat.gcd p.toNat q.toNat : Nat) * m := by
  obtain ⟨x, y, h⟩ := bezout p.toNat q.toNat
  rw [Int.toNat_of_nonneg (by omega), Int.toNat_of_nonneg (by omega)] at h
  generalize ((Nat.gcd p.toNat q.toNat : Nat) : Int) = g at *
  obtain ⟨n, hn⟩ : ∃ n : Nat, (n : Int) = (x * m).natAbs + (y * m).natAbs := ⟨(x * m).natAbs + (y * m).natAbs, by simp⟩
  have hi : 0 ≤ x * m + n * q := by
    have : (n : Int) * 1 ≤ n * q := Int.mul_le_mul_of_nonneg_left hq (by omega)
    omega
  have hj : 0 ≤ n * p - y * m := by
    have : (n : Int) * 1 ≤ n * p := Int.mul_le_mul_of_nonneg_left hp (by omega)
    omega
  refine ⟨(x * m + n * q).toNat, (n * p - y * m).toNat, ?_⟩
  rw [Int.toNat_of_nonneg hi, Int.toNat_of_nonneg hj, h]
  rw [Int.add_mul, Int.sub_mul, Int.add_mul]
  have e1 : x * m * p = p * x * m := by rw [Int.mul_comm (x * m), ← Int.mul_assoc]
  have e2 : y * m * q = q * y * m := by rw [Int.mul_comm (y * m), ← Int.mul_assoc]
  have e3 : (n : Int) * q * p = n * p * q := by rw [Int.mul_assoc, Int.mul_comm q p, ← Int.mul_assoc]
  omega

theorem apart_false {a b : Slot} (ha : a.ok) (hb : b.ok) (h : apartB a b = false) : ∃ t, bothS a b t := by
  have hg := g_pos (b := b) ha
  have e := Int.mul_ediv_add_emod (b.off - a.off) (Slot.g a b)
  have d0 : 0 ≤ Slot.d a b := Int.emod_nonneg _ (by omega)
  have d1 : Slot.d a b < Slot.g a b := Int.emod_lt_of_pos _ (by omega)
  have hd : (b.off - a.off) % Slot.g a b = Slot.d a b := rfl
  rw [hd] at e
  have hc : Slot.d a b < a.len ∨ Slot.g a b < Slot.d a b + b.len := by
    simp only [apartB, Bool.and_eq_false_iff, decide_eq_false_iff_not] at h
    omega
  have hal := ha.2.2.1
  have hbl := hb.2.2.1
  rcases hc with hc | hc
  · obtain ⟨i, j, hij⟩ := combine a.per b.per ha.1 hb.1 ((b.off - a.off) / Slot.g a b)
    change (i : Int) * a.per - j * b.per = Slot.g a b * _ at hij
    refine ⟨a.tk i + Slot.d a b, (open_iff ha _).2 ⟨i, by omega, by omega⟩, (open_iff hb _).2 ⟨j, ?_, ?_⟩⟩ <;> (unfold Slot.tk; omega)
  · obtain ⟨i, j, hij⟩ := combine a.per b.per ha.1 hb.1 ((b.off - a.off) / Slot.g a b + 1)
    change (i : Int) * a.per - j * b.per = Slot.g a b * _ at hij
    rw [Int.mul_add] at hij
    refine ⟨a.tk i, (open_iff ha _).2 ⟨i, by omega, by omega⟩, (open_iff hb _).2 ⟨j, ?_, ?_⟩⟩ <;> (unfold Slot.tk; omega)

theorem apart_true {a b : Slot} (ha : a.ok) (hb : b.ok) (h : apartB a b = true) (t : Int) : ¬ bothS a b t := by
  rintro ⟨hta, htb⟩
  have hg := g_pos (b := b) ha
  simp only [apartB, Bool.and_eq_true, decide_eq_true_iff] at h
  obtain ⟨h1, h2⟩ := h
  obtain ⟨i, i1, i2⟩ := (open_iff ha t).1 hta
  obtain ⟨j, j1, j2⟩ := (open_iff hb t).1 htb
  have ga : (Slot.g a b) ∣ a.per := by
    have := Nat.gcd_dvd_left a.per.toNat b.per.toNat
    have := Int.natCast_dvd_natCast.2 this
    rwa [Int.toNat_of_nonneg (by have := ha.1; omega)] at this
  have gb : (Slot.g a b) ∣ b.per := by
    have := Nat.gcd_dvd_right a.per.toNat b.per.toNat
    have := Int.natCast_dvd_natCast.2 this
    rwa [Int.toNat_of_nonneg (by have := hb.1; omega)] at this
  obtain ⟨u, hu⟩ := ga
  obtain ⟨v, hv⟩ := gb
  unfold Slot.tk at i1 i2 j1 j2
  have hd : (b.off - a.off) % Slot.g a b = Slot.d a b := rfl
  generalize Slot.g a b = g at *
  generalize Slot.d a b = d at *
  -- the difference of the places in the two windows
  obtain ⟨x, hx⟩ : ∃ x, x = t - (a.off + i * a.per) := ⟨_, rfl⟩
  obtain ⟨y, hy⟩ : ∃ y, y = t - (b.off + j * b.per) := ⟨_, rfl⟩
  have e : b.off - a.off = (x - y) + g * (i * u - j * v) := by
    rw [Int.mul_sub]
    have e1 : (i : Int) * a.per = g * (i * u) := by rw [hu, ← Int.mul_assoc, ← Int.mul_assoc, Int.mul_comm (i : Int) g]
    have e2 : (j : Int) * b.per = g * (j * v) := by rw [hv, ← Int.mul_assoc, ← Int.mul_assoc, Int.mul_comm (j : Int) g]
    omega
  rw [e, Int.add_mul_emod_self_left] at hd
  rcases Int.lt_or_le x y with c | c
  · have e2 : (x - y) % g = x - y + g := by
      have : x - y = (x - y + g) + g * (-1) := by omega
      rw [this, Int.add_mul_emod_self_left, Int.emod_eq_of_lt (by omega) (by omega)]
      omega
    omega
  · rcases Int.lt_or_le (x - y) g with c2 | c2
    · rw [Int.emod_eq_of_lt (by omega) c2] at hd; omega
    · have := Int.emod_lt_of_pos (x - y) (show 0 < g by omega)
      omega

theorem both_shift {a b : Slot} {t P : Int} (h : bothS a b t) (ha : a.per ∣ P) (hb : b.per ∣ P) (h1 : a.off ≤ t - P) (h2 : b.off ≤ t - P) : bothS a b (t - P) := by
  obtain ⟨⟨a1, a2⟩, b1, b2⟩ := h
  obtain ⟨u, rfl⟩ := ha
  obtain ⟨v, hv⟩ := hb
  refine ⟨⟨h1, ?_⟩, h2, ?_⟩
  · have : t - a.per * u - a.off = t - a.off + a.per * (-u) := by rw [Int.mul_neg]; omega
    rwa [this, Int.add_mul_emod_self_left]
  · have : t - a.per * u - b.off = t - b.off + b.per * (-v) := by rw [Int.mul_neg, hv]; omega
    rwa [this, Int.add_mul_emod_self_left]

/-- the first common time of two slots that meet. -/
structure MeetAt (a b : Slot) (T : Int) : Prop where
  nonneg : 0 ≤ T
  both : bothS a b T
  least : ∀ t, t < T → ¬ bothS a b t

theorem MeetAt.unique {a b : Slot} {T U : Int} (h : MeetAt a b T) (k : MeetAt a b U) : T = U := by
  rcases Int.lt_or_le T U with c | c
  · exact absurd h.both (k.least T c)
  · rcases Int.lt_or_le U T with c' | c'
    · exact absurd k.both (h.least U c')
    · omega

theorem MeetAt.lt {a b : Slot} {T P : Int} (h : MeetAt a b T) (ha : a.ok) (hb : b.ok) (hP : 0 < P) (hpa : a.per ∣ P) (hpb : b.per ∣ P) : T < P + a.off + b.off := by
  obtain ⟨_, _, _, _, a5, _⟩ := ha
  obtain ⟨_, _, _, _, b5, _⟩ := hb
  rcases Int.lt_or_le T (P + a.off + b.off) with c | c
  · exact c
  · exact absurd (both_shift h.both hpa hpb (by omega) (by omega)) (h.least _ (by omega))

/-- two valid slots that are not apart: their first common time, as the program finds it. -/
theorem meets {a b : Slot} (ha : a.ok) (hb : b.ok) (h : apartB a b = false) : ∃ K : Nat, hitB a b K = true ∧ (∀ k, k < K → hitB a b k = false) ∧ K < 5000000 ∧ MeetAt a b (firstS b (a.tk K)) := by
  obtain ⟨t, ht⟩ := apart_false ha hb h
  obtain ⟨k0, hk1, hk2⟩ := (open_iff ha t).1 ht.1
  have hex : ∃ k, hitB a b k = true := ⟨k0, (hit_iff hb k0).2 ⟨t, hk1, hk2, ht.2⟩⟩
  have key : ∀ n k, k ≤ n → hitB a b k = true → ∃ K, hitB a b K = true ∧ ∀ j, j < K → hitB a b j = false := by
    intro n
    induction n with
    | zero => intro k hk h; exact ⟨k, h, fun j hj => absurd hj (by omega)⟩
    | succ n ih =>
      intro k hk h
      by_cases hj : ∃ j, j < k ∧ hitB a b j = true
      · obtain ⟨j, hj, hh⟩ := hj
        exact ih j (by omega) hh
      · exact ⟨k, h, fun j hjk => by
          cases hh : hitB a b j with
          | false => rfl
          | true => exact absurd ⟨j, hjk, hh⟩ hj⟩
  obtain ⟨k, hk⟩ := hex
  obtain ⟨K, hK, hm⟩ := key k k (Nat.le_refl _) hk
  obtain ⟨f1, f2, f3⟩ := first_spec hb (a.tk K)
  have hlt : firstS b (a.tk K) < a.tk K + a.len := of_decide_eq_true hK
  obtain ⟨a1, a2, a3, a4, a5, a6⟩ := ha
  have hKp : (K : Int) * 1 ≤ K * a.per := Int.mul_le_mul_of_nonneg_left a1 (by omega)
  have hM : MeetAt a b (firstS b (a.tk K)) := by
    have htk : a.tk K = a.off + K * a.per := rfl
    refine ⟨by omega, ⟨(open_iff ⟨a1, a2, a3, a4, a5, a6⟩ _).2 ⟨K, f1, hlt⟩, f2⟩, fun u hu hbu => ?_⟩
    obtain ⟨j, j1, j2⟩ := (open_iff ⟨a1, a2, a3, a4, a5, a6⟩ u).1 hbu.1
    have hj : hitB a b j = true := (hit_iff hb j).2 ⟨u, j1, j2, hbu.2⟩
    rcases Nat.lt_trichotomy j K with c | c | c
    · rw [hm j c] at hj; cases hj
    · subst c; exact f3 u j1 hu hbu.2
    · have : a.tk K + a.per ≤ a.tk j := by
        have : ((K : Int) + 1) * a.per ≤ j * a.per := Int.mul_le_mul_of_nonneg_right (by omega) (by omega)
        rw [Int.add_mul] at this
        unfold Slot.tk; omega
      omega
  refine ⟨K, hK, hm, ?_, hM⟩
  have hb' := hb
  obtain ⟨b1, b2, b3, b4, b5, b6⟩ := hb
  have hl := hM.lt ⟨a1, a2, a3, a4, a5, a6⟩ hb' (Int.mul_pos (by omega) (by omega)) (Int.dvd_mul_right a.per b.per) (Int.dvd_mul_left a.per b.per)
  have hpp : a.per * b.per ≤ 2000 * 2000 := Int.mul_le_mul a2 b2 (by omega) (by omega)
  unfold Slot.tk at f1 hl
  omega

/-- Meet, in plain words. -/
def MeetV (a b : Slot) (q : Int × Bool) : Prop := (q = (0, false) ∧ (validS a = false ∨ validS b = false ∨ ∀ t, ¬ bothS a b t)) ∨ (q.2 = true ∧ a.ok ∧ b.ok ∧ MeetAt a b q.1)
theorem MeetV.unique {a b : Slot} {q r : Int × Bool} (h : MeetV a b q) (k : MeetV a b r) : q = r := by
  rcases h with ⟨rfl, h⟩ | ⟨h1, h2, h3, h4⟩
  · rcases k with ⟨rfl, _⟩ | ⟨k1, k2, k3, k4⟩
    · rfl
    · rw [show validS a = true from decide_eq_true k2, show validS b = true from decide_eq_true k3] at h
      simp only [Bool.true_eq_false, false_or] at h
      exact absurd k4.both (h _)
  · rcases k with ⟨rfl, h⟩ | ⟨k1, k2, k3, k4⟩
    · rw [show validS a = true from decide_eq_true h2, show validS b = true from decide_eq_true h3] at h
      simp only [Bool.true_eq_false, false_or] at h
      exact absurd h4.both (h _)
    · exact Prod.ext (h4.unique k4) (by rw [h1, k1])
theorem disj_iff {a b : Slot} (ha : a.ok) (hb : b.ok) : disjB a b = true ↔ ∀ t, ¬ bothS a b t := by
  have e : disjB a b = apartB a b := by simp [disjB, validS, ha, hb]
  rw [e]
  constructor
  · exact fun h => apart_true ha hb h
  · intro h
    cases hh : apartB a b with
    | true => rfl
    | false => obtain ⟨t, ht⟩ := apart_false ha hb hh; exact absurd ht (h t)
end Go.Proofs.Ytlmbffnmjfbglab
