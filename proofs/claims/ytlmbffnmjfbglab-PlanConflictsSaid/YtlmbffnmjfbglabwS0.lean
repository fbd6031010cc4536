/- slices.SortFunc at windows: what the row holds behind it. -/
import Derived.Test.YtlmbffnmjfbglabwG0
import Derived.Test.YtlmbffnmjfbglabwSort
namespace Go.Proofs.Ytlmbffnmjfbglab
open Go.ChangeShapes Go.WideShapes Go.ChangeAt Go.RowKit Go.Sort

/-- Block g is a row of capacity cap whose first elements are the windows l. -/
def Row (w : World) (g cap : Nat) (l : List Win) : Prop := ∃ cur, w.heap[g]? = some (.cells cur 107 (0, 0)) ∧ l.length ≤ cap ∧ cap ≤ maxLen ∧ cur.size = cap * 3 ∧ ∀ i (h : i < l.length), cur[i * 3]? = some (.int .i64 l[i].part) ∧ cur[i * 3 + 1]? = some (.int .i64 l[i].start) ∧ cur[i * 3 + 2]? = some (.int .i64 l[i].len)

theorem flat_get (l : List Win) (t : Nat) (ht : t < l.length * 3) : (flatK (cellsG Win.tri) 3 l.toArray)[t]! = ((cellsG Win.tri) l[t / 3])[t % 3]'(by simp [cellsG]; omega) := by
  rw [get_flatK (cellsG Win.tri) 3 l.toArray t (by simpa using ht)]
  have h1 : t / 3 < l.length := by omega
  rw [show (l.toArray)[t / 3]! = l[t / 3] from by simp [h1]]
  rw [getElem!_pos]

theorem row_holds {w : World} {g cap : Nat} {l : List Win} (h : Row w g cap l) : HoldsK (cellsG Win.tri) 3 w g 0 l.toArray := by
  obtain ⟨cur, hh, hlc, hcm, hsz, hc⟩ := h
  intro t ht
  simp at ht
  have hB : Blk w g 107 cur := hh
  rw [Nat.zero_add, hB.cell, hB.frozen]
  refine ⟨?_, rfl⟩
  have h1 : t / 3 < l.length := by omega
  obtain ⟨c0, c1, c2⟩ := hc (t / 3) h1
  rw [id, flat_get l t ht]
  have h3 : t % 3 = 0 ∨ t % 3 = 1 ∨ t % 3 = 2 := by omega
  rcases h3 with e | e | e
  · have : t = t / 3 * 3 := by omega
    simp only [e, cellsG, Win.tri, List.getElem_cons_zero]
    rw [← c0]; congr 1
  · have : t = t / 3 * 3 + 1 := by omega
    simp only [e, cellsG, Win.tri, List.getElem_cons_succ, List.getElem_cons_zero]
    rw [← c1]; congr 1
  · have : t = t / 3 * 3 + 2 := by omega
    simp only [e, cellsG, Win.tri, List.getElem_cons_succ, List.getElem_cons_zero]
    rw [← c2]; congr 1

theorem row_sorted {w : World} {g cap : Nat} {l : List Win} (h : Row w g cap l) (n : Nat) (d : Array Win) (hd : d.size = l.length) (os : Array Obj) : Row (sortWorldK (cellsG Win.tri) 3 w g 0 n d os) g cap d.toList ∧ w.grownBy (sortWorldK (cellsG Win.tri) 3 w g 0 n d os) (some g) := by
  obtain ⟨cur, hh, hlc, hcm, hsz, hc⟩ := h
  have hg : g < w.heap.size := Blk.lt (t := 107) hh
  have hW : (sortWorldK (cellsG Win.tri) 3 w g 0 n d os).heap = (w.heap.modify g (onCells (putCells id 0 (flatK (cellsG Win.tri) 3 d)))) ++ os := rfl
  refine ⟨⟨putCells id 0 (flatK (cellsG Win.tri) 3 d) cur, ?_, by simpa [hd] using hlc, hcm, ?_, ?_⟩, ⟨rfl, rfl, rfl, ?_, ?_⟩⟩
  · rw [hW, Array.getElem?_append_left (by simpa using hg), Array.getElem?_modify]
    simp [hh, onCells]
  · simp [putCells, hsz]
  · intro i hi
    have hi' : i < d.size := by simpa using hi
    have key : ∀ t, t < d.size * 3 → (putCells id 0 (flatK (cellsG Win.tri) 3 d) cur)[t]? = some ((flatK (cellsG Win.tri) 3 d)[t]!) := by
      intro t ht
      have htc : t < cur.size := by rw [hsz]; have : d.size ≤ cap := by omega
                                    exact Nat.lt_of_lt_of_le ht (Nat.mul_le_mul_right 3 this)
      simp [putCells, htc, ht]
    have hfg := fun t (ht : t < d.size * 3) => flat_get d.toList t (by simpa using ht)
    rw [key _ (by omega), key _ (by omega), key _ (by omega)]
    have e0 := hfg (i * 3) (by omega)
    have e1 := hfg (i * 3 + 1) (by omega)
    have e2 := hfg (i * 3 + 2) (by omega)
    simp only [Array.toArray_toList] at e0 e1 e2
    rw [e0, e1, e2]
    have d0 : i * 3 / 3 = i := by omega
    have d1 : (i * 3 + 1) / 3 = i := by omega
    have d2 : (i * 3 + 2) / 3 = i := by omega
    have m0 : i * 3 % 3 = 0 := by omega
    have m1 : (i * 3 + 1) % 3 = 1 := by omega
    have m2 : (i * 3 + 2) % 3 = 2 := by omega
    simp only [d0, d1, d2, m0, m1, m2, cellsG, Win.tri, List.getElem_cons_zero, List.getElem_cons_succ]
    exact ⟨trivial, trivial, trivial⟩
  · rw [hW]; simp
  · intro k hk hne
    rw [hW, Array.getElem?_append_left (by simpa using hk), Array.getElem?_modify]
    rw [if_neg (fun e => hne (by rw [e]))]
end Go.Proofs.Ytlmbffnmjfbglab
