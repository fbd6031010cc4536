/- Slots turned: the two changed round, moved, scaled. -/
import Derived.Test.YtlmbffnmjfbglaaR0
namespace Go.Proofs.Ytlmbffnmjfbglaa

theorem bothS_comm {a b : Slot} (t : Int) : bothS a b t ↔ bothS b a t := ⟨fun h => ⟨h.2, h.1⟩, fun h => ⟨h.2, h.1⟩⟩
theorem meetV_comm {a b : Slot} {q : Int × Bool} (h : MeetV a b q) : MeetV b a q := by
  rcases h with ⟨e, h⟩ | ⟨h1, ha, hb, hM⟩
  · refine .inl ⟨e, ?_⟩
    rcases h with h | h | h
    · exact .inr (.inl h)
    · exact .inl h
    · exact .inr (.inr fun t ht => h t ((bothS_comm t).1 ht))
  · exact .inr ⟨h1, hb, ha, hM.nonneg, (bothS_comm _).1 hM.both, fun t ht hb => hM.least t ht ((bothS_comm t).1 hb)⟩
theorem disjB_comm (a b : Slot) : disjB b a = disjB a b := by
  obtain ⟨q, hq⟩ := meet_ex a b
  rw [← disj_q hq, ← disj_q (meetV_comm hq), Bool.and_comm (validS b)]

def Slot.move (a : Slot) (k : Int) : Slot := ⟨a.off + k, a.per, a.len⟩
theorem open_move (a : Slot) (k t : Int) : openS (a.move k) t ↔ openS a (t - k) := by
  unfold openS Slot.move
  simp only
  rw [show t - (a.off + k) = t - k - a.off by omega]
  constructor <;> rintro ⟨h1, h2⟩ <;> exact ⟨by omega, h2⟩
theorem disj_move {a b : Slot} {k : Int} (ha : a.ok) (hb : b.ok) (hx : (a.move k).ok) (hy : (b.move k).ok) : disjB (a.move k) (b.move k) = disjB a b := by
  rw [Bool.eq_iff_iff, disj_iff hx hy, disj_iff ha hb]
  constructor
  · intro h t ht
    exact h (t + k) ⟨(open_move a k _).2 (by rw [Int.add_sub_cancel]; exact ht.1), (open_move b k _).2 (by rw [Int.add_sub_cancel]; exact ht.2)⟩
  · intro h t ht
    exact h (t - k) ⟨(open_move a k t).1 ht.1, (open_move b k t).1 ht.2⟩

def Slot.scale (a : Slot) (f : Int) : Slot := ⟨f * a.off, f * a.per, f * a.len⟩
theorem open_scale {a : Slot} {f : Int} (ha : a.ok) (hf : 1 ≤ f) (u : Int) : openS (a.scale f) u ↔ openS a (u / f) := by
  have e := Int.mul_ediv_add_emod u f
  have r0 := Int.emod_nonneg u (show f ≠ 0 by omega)
  have r1 := Int.emod_lt_of_pos u (show 0 < f by omega)
  generalize u / f = v at *
  generalize u % f = r at *
  obtain ⟨a1, a2, a3, a4, a5, a6⟩ := ha
  have d := Int.mul_ediv_add_emod (v - a.off) a.per
  have d0 := Int.emod_nonneg (v - a.off) (show a.per ≠ 0 by omega)
  have d1 := Int.emod_lt_of_pos (v - a.off) (show 0 < a.per by omega)
  have key : (u - f * a.off) % (f * a.per) = f * ((v - a.off) % a.per) + r := by
    have e2 : u - f * a.off = (f * ((v - a.off) % a.per) + r) + f * a.per * ((v - a.off) / a.per) := by
      have : f * (v - a.off) = f * (a.per * ((v - a.off) / a.per) + (v - a.off) % a.per) := by rw [d]
      rw [Int.mul_sub, Int.mul_add, ← Int.mul_assoc] at this
      omega
    have b0 : 0 ≤ f * ((v - a.off) % a.per) := Int.mul_nonneg (by omega) d0
    have b1 : f * ((v - a.off) % a.per + 1) ≤ f * a.per := Int.mul_le_mul_of_nonneg_left (by omega) (by omega)
    rw [Int.mul_add] at b1
    rw [e2, Int.add_mul_emod_self_left, Int.emod_eq_of_lt (by omega) (by omega)]
  unfold openS Slot.scale
  simp only
  rw [key]
  constructor
  · rintro ⟨h1, h2⟩
    refine ⟨?_, ?_⟩
    · rcases Int.lt_or_le v a.off with c | c
      · have : f * (v + 1) ≤ f * a.off := Int.mul_le_mul_of_nonneg_left (by omega) (by omega)
        rw [Int.mul_add] at this; omega
      · exact c
    · rcases Int.lt_or_le ((v - a.off) % a.per) a.len with c | c
      · exact c
      · have : f * a.len ≤ f * ((v - a.off) % a.per) := Int.mul_le_mul_of_nonneg_left c (by omega)
        omega
  · rintro ⟨h1, h2⟩
    have c1 : f * a.off ≤ f * v := Int.mul_le_mul_of_nonneg_left h1 (by omega)
    have c2 : f * ((v - a.off) % a.per + 1) ≤ f * a.len := Int.mul_le_mul_of_nonneg_left (by omega) (by omega)
    rw [Int.mul_add] at c2
    exact ⟨by omega, by omega⟩
theorem meetV_scale {a b : Slot} {f : Int} {q : Int × Bool} (ha : a.ok) (hb : b.ok) (hf : 1 ≤ f) (hx : (a.scale f).ok) (hy : (b.scale f).ok) (h : MeetV a b q) : MeetV (a.scale f) (b.scale f) (f * q.1, q.2) := by
  rcases h with ⟨rfl, h⟩ | ⟨h1, _, _, hM⟩
  · rw [show validS a = true from decide_eq_true ha, show validS b = true from decide_eq_true hb] at h
    simp only [Bool.true_eq_false, false_or] at h
    refine .inl ⟨by simp, .inr (.inr fun t ht => h (t / f) ⟨(open_scale ha hf t).1 ht.1, (open_scale hb hf t).1 ht.2⟩)⟩
  · refine .inr ⟨h1, hx, hy, Int.mul_nonneg (by omega) hM.nonneg, ?_, fun t ht hbo => ?_⟩
    · have e : f * q.1 / f = q.1 := Int.mul_ediv_cancel_left _ (by omega)
      exact ⟨(open_scale ha hf _).2 (by rw [e]; exact hM.both.1), (open_scale hb hf _).2 (by rw [e]; exact hM.both.2)⟩
    · refine hM.least (t / f) ?_ ⟨(open_scale ha hf t).1 hbo.1, (open_scale hb hf t).1 hbo.2⟩
      have e := Int.mul_ediv_add_emod t f
      have r0 := Int.emod_nonneg t (show f ≠ 0 by omega)
      rcases Int.lt_or_le (t / f) q.1 with c | c
      · exact c
      · have : f * q.1 ≤ f * (t / f) := Int.mul_le_mul_of_nonneg_left c (by omega)
        simp only at ht; omega
theorem disj_scale {a b : Slot} {f : Int} (ha : a.ok) (hb : b.ok) (hf : 1 ≤ f) (hx : (a.scale f).ok) (hy : (b.scale f).ok) : disjB (a.scale f) (b.scale f) = disjB a b := by
  obtain ⟨q, hq⟩ := meet_ex a b
  rw [← disj_q hq, ← disj_q (meetV_scale ha hb hf hx hy hq)]
  simp [validS, ha, hb, hx, hy]
end Go.Proofs.Ytlmbffnmjfbglaa
