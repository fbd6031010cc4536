/- Rows of single cells, and the plain law of a layout: the regions lie apart, translation and ownership are inverse. -/
import Derived.Test.YtjgmdchlgabflaaV0
import Derived.Test.YtjgmdchlgabflaaB0
import Derived.Test.YtjgmdchlgabflaaC1
namespace Go.Proofs.Ytjgmdchlgabflaa
open Go.ChangeShapes Go.WideShapes Go.ChangeAt Go.RowKit

/-- Block g holds n cells of type t: f 0, f 1, .. -/
def Cells (w : World) (g : Nat) (t : TypeId) (n : Nat) (f : Nat → Value) : Prop := ∃ cs, Blk w g t cs ∧ cs.size = n ∧ ∀ i, i < n → cs[i]? = some (f i)
section
variable {w w' : World} {g n B : Nat} {t : TypeId} {f : Nat → Value}
theorem Cells.lt (h : Cells w g t n f) : g < w.heap.size := by obtain ⟨cs, hb, _⟩ := h; exact hb.lt
theorem Cells.cell (h : Cells w g t n f) (i : Nat) (hi : i < n) : w.cell? ⟨g, i, none⟩ = some (f i) := by
  obtain ⟨cs, hb, _, hc⟩ := h; rw [hb.cell]; exact hc i hi
theorem Cells.isSome (h : Cells w g t n f) (i : Nat) (hi : i < n) : (w.cell? ⟨g, i, none⟩).isSome = true := by rw [h.cell i hi]; rfl
theorem Cells.frozen (h : Cells w g t n f) (i : Nat) : w.frozen? ⟨g, i, none⟩ = false := by obtain ⟨cs, hb, _⟩ := h; exact hb.frozen i
theorem Cells.below (h : Cells w g t n f) (hb : Below B w w') (hg : g < B) : Cells w' g t n f := by obtain ⟨cs, h1, r⟩ := h; exact ⟨cs, h1.below hb hg, r⟩
theorem Cells.drewN (h : Cells w g t n f) (k : Nat) : Cells (w.drewN k) g t n f := by obtain ⟨cs, h1, r⟩ := h; exact ⟨cs, h1.drewN k, r⟩
theorem Cells.congr {f' : Nat → Value} (h : Cells w g t n f) (he : ∀ i, i < n → f i = f' i) : Cells w g t n f' := by
  obtain ⟨cs, h1, h2, h3⟩ := h; exact ⟨cs, h1, h2, fun i hi => by rw [h3 i hi, he i hi]⟩
theorem Cells.set (h : Cells w g t n f) (i : Nat) (v : Value) : Cells (w.setCell ⟨g, i, none⟩ v) g t n (fun j => if j = i then v else f j) := by
  obtain ⟨cs, h1, h2, h3⟩ := h
  refine ⟨_, h1.set_ i v, by simpa using h2, fun j hj => ?_⟩
  simp only [Array.getElem?_setIfInBounds]
  by_cases e : i = j
  · subst e; rw [if_pos rfl, if_pos (by omega), if_pos rfl]
  · rw [if_neg e, if_neg (fun h => e h.symm)]; exact h3 j hj
theorem Cells.far (h : Cells w g t n f) {p : Addr} (hp : g ≠ p.block) (u : Value) : Cells (w.setCell p u) g t n f := by obtain ⟨cs, h1, r⟩ := h; exact ⟨cs, h1.far hp u, r⟩
theorem Cells.made (w : World) (t : TypeId) (n : Nat) (z : Value) : Cells (w.alloc (.cells (madeCells #[z] n) t)) w.heap.size t n (fun _ => z) :=
  ⟨_, Blk.new w t _, size_madeCells _ _, fun i hi => by simp [madeCells, hi, Nat.mod_one]⟩
end

/-- what Layout gives for a module that fits. -/
structure Laid (rs : List Reg) (mem : Int) : Prop where
  len : rs.length ≤ 6
  mem0 : 0 ≤ mem
  mem1 : mem ≤ 4096
  reg : ∀ j (h : j < rs.length), rs[j].part = j ∧ 0 ≤ rs[j].base ∧ rs[j].base % 8 = 0 ∧ 0 ≤ rs[j].size ∧ rs[j].size ≤ 4096 ∧ rs[j].base + rs[j].size ≤ mem
  apart : ∀ i j (hi : i < rs.length) (hj : j < rs.length), i < j → rs[i].base + rs[i].size ≤ rs[j].base

theorem layTo_mono (ms : List Int) (hm : ∀ m ∈ ms, 0 ≤ m ∧ m ≤ 4096) (i j : Nat) (hij : i ≤ j) (hj : j ≤ ms.length) : (layTo ms i).2 ≤ (layTo ms j).2 := by
  induction j with
  | zero => obtain rfl : i = 0 := by omega
            exact Int.le_refl _
  | succ j ih =>
    by_cases e : i = j + 1
    · subst e; exact Int.le_refl _
    · have h1 := ih (by omega) (by omega)
      have h2 := hm ms[j] (List.getElem_mem _)
      have h3 := layTo_bd ms hm j (by omega)
      rw [layTo_succ ms j (by omega)]
      simp only [layStep]
      omega

theorem laid_of {mem : Int} {ms : List Int} {rs : List Reg} {e : Int} (h : layV mem ms = (rs, e)) :
    (e ≠ 0 ∧ rs = []) ∨ (e = 0 ∧ rs.length = ms.length ∧ Laid rs mem ∧ ∀ j (h : j < rs.length) (h' : j < ms.length), rs[j].size = ms[j]) := by
  unfold layV at h
  by_cases hc : (sizeB mem && decide (ms.length ≤ 6) && ms.all sizeB) = true
  · rw [if_pos hc] at h
    simp only [Bool.and_eq_true, decide_eq_true_eq, List.all_eq_true, sizeB] at hc
    obtain ⟨⟨hm0, h6⟩, hall⟩ := hc
    by_cases h2 : mem < (layTo ms ms.length).2
    · rw [if_pos h2] at h; injection h with h h'; subst h h'; exact Or.inl ⟨by decide, rfl⟩
    · rw [if_neg h2] at h; injection h with h h'; subst h h'
      refine Or.inr ⟨rfl, layTo_len ms _ (Nat.le_refl _), ?_, ?_⟩
      · have hget := layTo_get ms ms.length (Nat.le_refl _)
        have hlen := layTo_len ms ms.length (Nat.le_refl _)
        have hend : ∀ j (hj : j < ms.length), ((layTo ms j).2 + 8 - 1) / 8 * 8 + ms[j] = (layTo ms (j + 1)).2 := fun j hj => by rw [layTo_succ ms j hj]; rfl
        refine ⟨by omega, hm0.1, hm0.2, fun j hj => ?_, fun i j hi hj hij => ?_⟩
        · obtain ⟨hj', e⟩ := hget j hj
          have h3 := layTo_bd ms hall j (by omega)
          have h4 := hall ms[j] (List.getElem_mem _)
          have h5 := hend j hj'
          have h6 := layTo_mono ms hall (j + 1) ms.length (by omega) (Nat.le_refl _)
          rw [e]
          refine ⟨rfl, ?_, ?_, h4.1, h4.2, ?_⟩ <;> dsimp only <;> omega
        · obtain ⟨hi', e⟩ := hget i hi
          obtain ⟨hj', e'⟩ := hget j hj
          have h5 := hend i hi'
          have h6 := layTo_mono ms hall (i + 1) j (by omega) (by omega)
          rw [e, e']
          simp only
          omega
      · intro j h h'
        obtain ⟨_, e⟩ := layTo_get ms ms.length (Nat.le_refl _) j h
        rw [e]
  · rw [if_neg hc] at h; injection h with h h'; subst h h'; exact Or.inl ⟨by decide, rfl⟩

section
variable {rs : List Reg} {mem : Int}
theorem Laid.valid (h : Laid rs mem) : validV rs mem = true := by
  unfold validV
  simp only [Bool.and_eq_true, decide_eq_true_eq]
  refine ⟨⟨⟨?_, h.len⟩, okL_of fun j hj => ?_⟩, ?_⟩
  · simp [sizeB, h.mem0, h.mem1]
  · obtain ⟨a, b, c, d, e, f⟩ := h.reg j hj
    have := h.mem1
    simp only [okR, sizeB, Bool.and_eq_true, decide_eq_true_eq, beq_iff_eq]
    refine ⟨⟨⟨⟨a, ?_⟩, c⟩, d, e⟩, f⟩
    omega
  · unfold apartL
    rw [List.pairwise_iff_getElem]
    intro i j hi hj hij
    simp only [apartR, decide_eq_true_eq]
    exact Or.inr (Or.inr (Or.inl (h.apart i j hi hj hij)))
theorem Laid.part (h : Laid rs mem) {k : Nat} (hk : k < rs.length) : rs.find? (fun r => r.part == (k : Int)) = some rs[k] :=
  find_at hk (by simp [(h.reg k hk).1]) fun j hj hjk => by
    have := (h.reg j hj).1
    simp only [this, beq_eq_false_iff_ne, ne_eq]; omega
theorem Laid.trans (h : Laid rs mem) {k : Nat} (hk : k < rs.length) (a : Int) : transV rs k a = if a < 0 ∨ rs[k].size ≤ a then (0, 110) else (rs[k].base + a, 0) := by
  unfold transV
  rw [h.part hk]
  obtain ⟨_, b, _, d, e, f⟩ := h.reg k hk
  have := h.mem1
  simp only
  by_cases ha : a < 0 ∨ rs[k].size ≤ a
  · rw [if_pos ha, if_pos ha]
  · rw [if_neg ha, if_neg ha]
    refine Prod.ext ?_ rfl
    exact IntWalk.wrap64_in (rs[k].base + a) (by omega)
theorem Laid.past (h : Laid rs mem) (a : Int) : transV rs rs.length a = (0, 6) := by
  unfold transV
  have : rs.find? (fun r => r.part == (rs.length : Int)) = none := by
    rw [List.find?_eq_none]
    intro r hr
    obtain ⟨j, hj, rfl⟩ := List.getElem_of_mem hr
    have := (h.reg j hj).1
    simp only [this, beq_iff_eq]; omega
  rw [this]
theorem Laid.has (h : Laid rs mem) {k : Nat} (hk : k < rs.length) (a : Int) : rs[k].has a = true ↔ rs[k].base ≤ a ∧ a < rs[k].base + rs[k].size := by
  obtain ⟨_, b, _, d, e, f⟩ := h.reg k hk
  have := h.mem1
  have hw : wrap64 (rs[k].base + rs[k].size) = rs[k].base + rs[k].size := IntWalk.wrap64_in (rs[k].base + rs[k].size) (by omega)
  simp [Reg.has, hw]
theorem Laid.own (h : Laid rs mem) {k : Nat} (hk : k < rs.length) {a : Int} (h0 : 0 ≤ a) (h1 : a < rs[k].size) : ownV rs (rs[k].base + a) = ((k : Int), a, true) := by
  unfold ownV
  obtain ⟨q, b, _, d, e, f⟩ := h.reg k hk
  have := h.mem1
  rw [find_at hk ((h.has hk _).2 ⟨by omega, by omega⟩) fun j hj hjk => by
    have := h.apart j k hj hk hjk
    by_cases hh : rs[j].has (rs[k].base + a) = true
    · have := (h.has hj _).1 hh; omega
    · simpa using hh]
  simp only [q]
  have hw : wrap64 (rs[k].base + a - rs[k].base) = a := by rw [show rs[k].base + a - rs[k].base = a by omega]; exact IntWalk.wrap64_in a (by omega)
  rw [hw]
/-- an address that no region holds has no owner. -/
theorem Laid.free (h : Laid rs mem) {k : Nat} {a : Int} (h0 : ∀ j (hj : j < rs.length), j < k → rs[j].base + rs[j].size ≤ a) (h1 : ∀ j (hj : j < rs.length), k ≤ j → a < rs[j].base) : (ownV rs a).2.2 = false := by
  unfold ownV
  have : rs.find? (fun r => r.has a) = none := by
    rw [List.find?_eq_none]
    intro r hr
    obtain ⟨j, hj, rfl⟩ := List.getElem_of_mem hr
    rw [h.has hj]
    by_cases e : j < k
    · have := h0 j hj e; omega
    · have := h1 j hj (by omega); omega
  rw [this]
end
end Go.Proofs.Ytjgmdchlgabflaa
