/- Rows of rows of numbers, opened. -/
import Derived.Test.YtjgmdchlgabflaaC0
import Derived.Deep.Matrix
namespace Go.Proofs.Ytjgmdchlgabflaa
open Go.ChangeShapes Go.WideShapes Go.ChangeAt Go.RowKit

def RdInts (w : World) (B : Nat) (A : Option Addr) (l : List Int) : Prop := 0 < l.length → ∃ b o, A = some ⟨b, o, none⟩ ∧ b < B ∧ ∀ j (hj : j < l.length), w.cell? ⟨b, o + j, none⟩ = some (.int .i64 l[j])
def RdRows (w : World) (B : Nat) (A : Option Addr) (l : List (List Int)) : Prop := 0 < l.length → ∃ b o, A = some ⟨b, o, none⟩ ∧ b < B ∧ ∀ i (h : i < l.length), ∃ A' c', w.cell? ⟨b, o + i, none⟩ = some (.slice A' l[i].length c') ∧ RdInts w B A' l[i]
theorem RdInts.keep {w w' : World} {B : Nat} {A : Option Addr} {l : List Int} (h : RdInts w B A l) (hb : Below B w w') : RdInts w' B A l := fun hn => by
  obtain ⟨b, o, e, hB, hc⟩ := h hn
  exact ⟨b, o, e, hB, fun j hj => (hb.cell (p := ⟨b, _, none⟩) hB).trans (hc j hj)⟩
theorem RdRows.keep {w w' : World} {B : Nat} {A : Option Addr} {l : List (List Int)} (h : RdRows w B A l) (hb : Below B w w') : RdRows w' B A l := fun hn => by
  obtain ⟨b, o, e, hB, hc⟩ := h hn
  refine ⟨b, o, e, hB, fun i hi => ?_⟩
  obtain ⟨A', c', h1, h2⟩ := hc i hi
  exact ⟨A', c', (hb.cell (p := ⟨b, _, none⟩) hB).trans h1, h2.keep hb⟩

set_option maxRecDepth 100000 in
theorem open_rows {H : Type} {enc : TypeId × Value → H} {W : World} {r : Reach} {b0 : Nat} {v : Value} {d : DataW H} {p : List MemPlace} (hok : Value.okWide Try.prog W r b0 58 v) (h : DataW.Trod enc Try.prog W 0 (fun _ => true) true 58 v d p) :
    ∃ (A : Option Addr) (c : Nat) (l : List (List Int)), v = .slice A l.length c ∧ l.length ≤ c ∧ c ≤ maxLen ∧ RdRows W W.heap.size A l ∧ ∀ x ∈ l, ∀ y ∈ x, IntOk y := by
  obtain ⟨a, len, cap, rfl⟩ := okWide_slice Try.underlying58 hok
  obtain ⟨fuel, hf⟩ := h
  rcases Go.Deep.open_int_rows (base := 0) (held := true) Try.underlying58 Try.underlying34 Try.underlying3 (by kernel_rfl) (by kernel_rfl) hf with ⟨hcs, _⟩ | ⟨a', len', cap', AA, L, C, Z, hcs, _, hl, hm, _, hi⟩
  · simp [Value.cells] at hcs
    obtain ⟨rfl, rfl, rfl⟩ := hcs
    exact ⟨none, 0, [], rfl, Nat.le_refl _, by simp [maxLen], fun h => absurd h (by simp), fun x hx => by simp at hx⟩
  · simp [Value.cells] at hcs
    obtain ⟨rfl, rfl, rfl⟩ := hcs
    have hrow : ∀ i, i < len → ((Z i).take (L i)).length = L i := fun i hil => by
      obtain ⟨_, h1, _, h2, _⟩ := hi i (by omega)
      rw [List.length_take]; omega
    refine ⟨some a', cap, (List.range len).map fun i => (Z i).take (L i), by simp, by simpa using hl, hm, fun hn => ?_, fun x hx => ?_⟩
    · have hn' : 0 < len := by simpa using hn
      obtain ⟨hc0, _⟩ := hi 0 (by omega)
      have ea := addr_of_cell hc0
      have hadd : a' = ⟨a'.block, a'.off, none⟩ := by
        have h0 : a'.add 0 = a' := by unfold Addr.add; simp
        rw [h0] at ea; exact ea
      refine ⟨a'.block, a'.off, congrArg some hadd, ?_, fun i hi' => ?_⟩
      · have := World.block_lt_of_cell? W _ hc0
        have h0 : a'.add 0 = a' := by unfold Addr.add; simp
        rw [h0] at this; exact this
      · have hil : i < len := by simpa using hi'
        obtain ⟨g0, g1, g2, g3, g4, g5, g6⟩ := hi i (by omega)
        simp only [List.getElem_map, List.getElem_range]
        rw [hrow i hil]
        refine ⟨AA i, C i, ?_, fun hn2 => ?_⟩
        · rw [hadd, add_none] at g0; exact g0
        · rw [hrow i hil] at hn2
          cases hA : AA i with
          | none => have := g5 hA; omega
          | some q =>
            obtain ⟨_, hq⟩ := g6 q hA
            have hq0 := hq 0 (by omega)
            have h0 : q.add 0 = q := by unfold Addr.add; simp
            have eq := addr_of_cell hq0
            rw [h0] at eq hq0
            refine ⟨q.block, q.off, by rw [← eq], World.block_lt_of_cell? W _ hq0, fun j hj => ?_⟩
            rw [hrow i hil] at hj
            have hqj := hq j (by omega)
            rw [eq, add_none] at hqj
            rw [List.getElem_take]
            have hz : (Z i).getD j 0 = (Z i)[j]'(by omega) := by simp [List.getD, show j < (Z i).length by omega]
            rw [hz] at hqj
            exact hqj
    · obtain ⟨i, hi', rfl⟩ := List.mem_map.1 hx
      have hil : i < len := by simpa using hi'
      obtain ⟨_, _, _, _, g4, _⟩ := hi i (by omega)
      exact fun y hy => intOk_of (g4 y (List.mem_of_mem_take hy))
end Go.Proofs.Ytjgmdchlgabflaa
