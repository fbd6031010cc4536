/- Claims in memory as their cells' values; Pick; slices of claims. -/
import Derived.Test.YtlmbffnmjfbglabG9
set_option linter.unusedSimpArgs false
set_option linter.unusedVariables false
namespace Go.Proofs.Ytlmbffnmjfbglab
open Go.ChangeShapes Go.WideShapes Go.ChangeAt Go.RowKit

/-- claims in memory, as their cells' values. -/
theorem cv_of {w : World} {Q : Nat → Prop} {A : Option Addr} {l : List Claim} (h : RdCls w Q A l) (hQ : ∀ b, Q b → b < w.heap.size) : ∃ L : List CV, CVs w Q L l ∧ Reads w w.heap.size 4 A l.length (L.flatMap CV.cells) := by
  by_cases hn : 0 < l.length
  · obtain ⟨b, o, rfl, hq, hl⟩ := h hn
    have hex : ∀ i, i < l.length → ∃ x : CV, ∀ hi : i < l.length, (w.cell? ⟨b, o + i * 4, none⟩ = some (.int .i64 x.f) ∧ w.cell? ⟨b, o + i * 4 + 1, none⟩ = some (.int .i64 x.t) ∧ w.cell? ⟨b, o + i * 4 + 2, none⟩ = some (.int .i64 x.w) ∧ w.cell? ⟨b, o + i * 4 + 3, none⟩ = some (.slice x.s.a x.s.n x.s.c)) ∧
        x.f = l[i].frm ∧ x.t = l[i].to ∧ x.w = l[i].wth ∧ x.s.n = l[i].sub.length ∧ x.s.n ≤ x.s.c ∧ x.s.c ≤ maxLen ∧ RdCls w Q x.s.a l[i].sub := by
      intro i hi
      have hx := RdL.at_ l o i hi hl
      cases hc : l[i] with
      | mk f t wi sub =>
        rw [hc] at hx
        simp only [RdC] at hx
        obtain ⟨c0, c1, c2, A', c', c3, h1, h2, h3⟩ := hx
        refine ⟨⟨f, t, wi, ⟨A', sub.length, c'⟩⟩, fun _ => ?_⟩
        rw [hc]
        exact ⟨⟨c0, c1, c2, c3⟩, rfl, rfl, rfl, rfl, h1, h2, h3⟩
    obtain ⟨L, hL, hp⟩ := list_of l.length _ hex
    refine ⟨L, ⟨hL, fun i hi hi' => (hp i hi hi').2⟩, by rw [CV.len, hL], fun _ => ⟨_, rfl, hQ b hq, fun j u hu => ?_⟩⟩
    have hj : j < L.length * 4 := by rw [← CV.len]; exact (List.getElem?_eq_some_iff.1 hu).1
    obtain ⟨i, r, hr, rfl⟩ : ∃ i r, r < 4 ∧ j = i * 4 + r := ⟨j / 4, j % 4, by omega, by omega⟩
    have hi : i < L.length := by omega
    obtain ⟨q0, q1, q2, q3⟩ := CV.get L i hi
    obtain ⟨⟨c0, c1, c2, c3⟩, _⟩ := hp i hi (by omega)
    rw [add_none, ← Nat.add_assoc]
    match r, hr, hu with
    | 0, _, hu => exact c0.trans (q0.symm.trans hu)
    | 1, _, hu => exact c1.trans (q1.symm.trans hu)
    | 2, _, hu => exact c2.trans (q2.symm.trans hu)
    | 3, _, hu => exact c3.trans (q3.symm.trans hu)
  · have : l = [] := List.eq_nil_of_length_eq_zero (by omega)
    subst this
    exact ⟨[], CVs.nil, Reads.none_⟩
section
variable {w : World} {Q : Nat → Prop} {L L' : List CV} {l l' : List Claim}
theorem CVs.take (h : CVs w Q L l) (n : Nat) : CVs w Q (L.take n) (l.take n) := by
  refine ⟨by simp [h.1], fun i hi hi' => ?_⟩
  rw [List.getElem_take, List.getElem_take]
  exact h.2 i (by simp at hi; omega) (by simp at hi'; omega)
theorem CVs.drop (h : CVs w Q L l) (n : Nat) : CVs w Q (L.drop n) (l.drop n) := by
  refine ⟨by simp [h.1], fun i hi hi' => ?_⟩
  rw [List.getElem_drop, List.getElem_drop]
  exact h.2 (n + i) (by simp at hi; omega) (by simp at hi'; omega)
theorem CVs.append (h : CVs w Q L l) (h' : CVs w Q L' l') : CVs w Q (L ++ L') (l ++ l') := by
  refine ⟨by simp [h.1, h'.1], fun i hi hi' => ?_⟩
  have e := h.1
  by_cases c : i < L.length
  · rw [List.getElem_append_left c, List.getElem_append_left (by omega)]
    exact h.2 i c (by omega)
  · rw [List.getElem_append_right (by omega), List.getElem_append_right (by omega)]
    have := h'.2 (i - L.length) (by simp at hi; omega) (by simp at hi'; omega)
    simpa only [e] using this
end
theorem cells_one (L : List CV) : ∀ u ∈ L.flatMap CV.cells, u.oneCell' = true := fun u hu => by
  obtain ⟨x, _, hx⟩ := List.mem_flatMap.1 hu
  simp only [CV.cells, List.mem_cons, List.not_mem_nil, or_false] at hx
  rcases hx with rfl | rfl | rfl | rfl <;> rfl
theorem cells_take (L : List CV) (n : Nat) : (L.flatMap CV.cells).take (n * 4) = (L.take n).flatMap CV.cells := by
  induction L generalizing n with
  | nil => simp
  | cons x L ih =>
    match n with
    | 0 => simp
    | n + 1 =>
      rw [List.take_succ_cons, List.flatMap_cons, List.flatMap_cons, ← ih n]
      have hc : (CV.cells x).length = 4 := rfl
      rw [List.take_append, hc, show (n + 1) * 4 - 4 = n * 4 by omega, List.take_of_length_le (by omega)]
theorem cells_drop (L : List CV) (n : Nat) : (L.flatMap CV.cells).drop (n * 4) = (L.drop n).flatMap CV.cells := by
  induction L generalizing n with
  | nil => simp
  | cons x L ih =>
    match n with
    | 0 => simp
    | n + 1 =>
      rw [List.drop_succ_cons, List.flatMap_cons, ← ih n]
      have hc : (CV.cells x).length = 4 := rfl
      rw [List.drop_append, hc, show (n + 1) * 4 - 4 = n * 4 by omega, List.drop_of_length_le (by omega)]
      rfl
/-- the first n elements of a slice. -/
theorem Reads.first {w : World} {B size n : Nat} {A : Option Addr} {xs : List Value} (h : Reads w B size A n xs) {k : Nat} (hk : k ≤ n) : Reads w B size A k (xs.take (k * size)) := by
  refine ⟨by rw [List.length_take, h.1]; exact Nat.min_eq_left (Nat.mul_le_mul_right _ hk), fun hn => ?_⟩
  obtain ⟨ad, rfl, hb, hcell⟩ := h.2 (by omega)
  refine ⟨ad, rfl, hb, fun j u hu => hcell j u ?_⟩
  rw [List.getElem?_take] at hu
  split at hu
  · exact hu
  · cases hu

/-- s[:n] and s[k:] of claims. -/
theorem slice_to29 (A : Option Addr) (m n co : Nat) (h : n ≤ co) (W : World) : (Instr.sliceAt 29 (.slice A m co) none (some (.int .i64 n)) none).run Try.prog W = .ok (.slice A n co) W := by
  have h0 : (0 : Int) ≤ (n : Int) := by omega
  have h1 : (n : Int) ≤ (co : Int) := by omega
  simp [go_sem, h0, h1, sliced, map_add_zero]
def fromA (size : Nat) (A : Option Addr) (k cap : Nat) : Option Addr := if cap = k then A else A.map (·.add (k * size))
theorem slice_from29 (A : Option Addr) (n k co : Nat) (h : k ≤ n) (hc : n ≤ co) (W : World) : (Instr.sliceAt 29 (.slice A n co) (some (.int .i64 k)) none none).run Try.prog W = .ok (.slice (fromA 4 A k co) (n - k) (co - k)) W := by
  have h0 : (0 : Int) ≤ (k : Int) := by omega
  have h1 : (k : Int) ≤ (n : Int) := by omega
  have h2 : (n : Int) ≤ (co : Int) := by omega
  simp [go_sem, h0, h1, h2, sliced, fromA]
section
variable {w : World} {Q : Nat → Prop} {A : Option Addr} {l : List Claim} {L : List CV}
theorem RdCls.take (h : RdCls w Q A l) (n : Nat) : RdCls w Q A (l.take n) := fun hn => by
  obtain ⟨b, o, e, hq, hl⟩ := h (by simp at hn; omega)
  refine ⟨b, o, e, hq, RdL.of_ _ _ fun i hi => ?_⟩
  rw [List.getElem_take]
  exact RdL.at_ l o i (by simp at hi; omega) hl
theorem RdCls.from_ (h : RdCls w Q A l) (k cap : Nat) (hc : l.length ≤ cap) : RdCls w Q (fromA 4 A k cap) (l.drop k) := fun hn => by
  obtain ⟨b, o, rfl, hq, hl⟩ := h (by simp at hn; omega)
  simp at hn
  refine ⟨b, o + k * 4, by unfold fromA; rw [if_neg (by omega)]; simp [add_none], hq, RdL.of_ _ _ fun i hi => ?_⟩
  rw [List.getElem_drop]
  have := RdL.at_ l o (k + i) (by simp at hi; omega) hl
  rw [show o + k * 4 + i * 4 = o + (k + i) * 4 by omega]
  exact this
theorem CVs.set (h : CVs w Q L l) (i : Nat) (x : CV) (y : Claim) (hx : x.f = y.frm ∧ x.t = y.to ∧ x.w = y.wth ∧ x.s.n = y.sub.length ∧ x.s.n ≤ x.s.c ∧ x.s.c ≤ maxLen ∧ RdCls w Q x.s.a y.sub) : CVs w Q (L.set i x) (l.set i y) :=
  ⟨by simp [h.1], fun j hj hj' => by
    by_cases e : i = j
    · subst e; simpa using hx
    · rw [List.getElem_set_ne e, List.getElem_set_ne e]
      exact h.2 j (by simpa using hj) (by simpa using hj')⟩
end
theorem cells_set : ∀ (L : List CV) (i r : Nat) (hi : i < L.length) (_ : r < 4) (v : Value) (x : CV) (_ : CV.cells x = (CV.cells L[i]).set r v), (L.flatMap CV.cells).set (i * 4 + r) v = (L.set i x).flatMap CV.cells
  | [], _, _, hi, _, _, _, _ => by simp at hi
  | y :: L, 0, r, _, hr, v, x, hx => by
    have hc : (CV.cells y).length = 4 := rfl
    rw [List.flatMap_cons, List.set_cons_zero, List.flatMap_cons, hx, Nat.zero_mul, Nat.zero_add, List.set_append_left _ _ (by omega)]
    rfl
  | y :: L, i + 1, r, hi, hr, v, x, hx => by
    have hc : (CV.cells y).length = 4 := rfl
    rw [List.flatMap_cons, List.set_cons_succ, List.flatMap_cons, List.set_append_right _ _ (by omega), hc, show (i + 1) * 4 + r - 4 = i * 4 + r by omega, cells_set L i r (by simpa using hi) hr v x (by simpa using hx)]
theorem own_form {w : World} {base size n : Nat} {e : TypeId} {v : Value} {xs : List Value} (h : w.ownsRow base e size v n xs) (hn : 0 < n) : ∃ g cap cur, v = .slice (some ⟨g, 0, none⟩) n cap ∧ base ≤ g ∧ Blk w g e cur ∧ n ≤ cap ∧ cap ≤ maxLen ∧ cur.size = cap * size := by
  rcases h.2 with ⟨_, h0⟩ | ⟨g, cap, cur, hv, hb, hg, h1, h2, h3, _⟩
  · omega
  · exact ⟨g, cap, cur, hv, hb, hg, h1, h2, h3⟩
theorem planV_size (F : Int) (ps : List Part) : sizeL (planV F ps).2.1 ≤ 16384 := by
  unfold planV
  split
  · split
    · simp [sizeL]
    · rename_i cl t _
      split
      · simp [sizeL]
      · simp only
        omega
  · simp [sizeL]
end Go.Proofs.Ytlmbffnmjfbglab
