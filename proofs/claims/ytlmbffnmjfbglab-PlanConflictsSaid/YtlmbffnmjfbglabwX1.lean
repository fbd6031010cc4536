/- Meet and Table in plain words, joined with the walks; tables are unique. -/
import Derived.Test.YtlmbffnmjfbglabwX0
import Derived.Test.YtlmbffnmjfbglabwT1
import Derived.Test.YtlmbffnmjfbglabwM0
import Derived.Test.YtlmbffnmjfbglabwE0
namespace Go.Proofs.Ytlmbffnmjfbglab
open Go.ChangeShapes Go.WideShapes Go.ChangeAt Go.RowKit

theorem meet_ex (a b : Slot) : ∃ q, MeetV a b q := by
  by_cases ha : a.ok
  · by_cases hb : b.ok
    · cases hd : apartB a b with
      | true => exact ⟨(0, false), .inl ⟨rfl, .inr (.inr (apart_true ha hb hd))⟩⟩
      | false =>
        obtain ⟨K, _, _, _, hM⟩ := meets ha hb hd
        exact ⟨(_, true), .inr ⟨rfl, ha, hb, hM⟩⟩
    · exact ⟨(0, false), .inl ⟨rfl, .inr (.inl (decide_eq_false hb))⟩⟩
  · exact ⟨(0, false), .inl ⟨rfl, .inl (decide_eq_false ha)⟩⟩

/-- the windows are in order. -/
def Ord (l : List Win) : Prop := l.Pairwise fun x y => x.start ≤ y.start
def Dist (l : List Win) : Prop := l.Pairwise fun x y => x.start ≠ y.start
theorem ord_of {l : List Win} (h : ∀ i j (_ : i < j) (hj : j < l.length), l[i].start ≤ l[j].start) : Ord l :=
  List.pairwise_iff_getElem.2 fun i j _ hj hij => h i j hij hj
theorem dist_perm {l m : List Win} (h : l.Perm m) (hd : Dist l) : Dist m := h.pairwise hd (fun h e => h e.symm)
theorem ord_unique : ∀ (l m : List Win), l.Perm m → Ord l → Ord m → Dist l → l = m
  | [], m, h, _, _, _ => (List.nil_perm.1 h).symm
  | x :: l, [], h, _, _, _ => by have := h.length_eq; simp at this
  | x :: l, y :: m, h, hl, hm, hd => by
    have hl' := List.pairwise_cons.1 hl
    have hm' := List.pairwise_cons.1 hm
    have hd' := List.pairwise_cons.1 hd
    have e : x = y := by
      have hy : y ∈ x :: l := h.mem_iff.2 (by simp)
      have hx : x ∈ y :: m := h.mem_iff.1 (by simp)
      rcases List.mem_cons.1 hy with e | hy
      · exact e.symm
      · rcases List.mem_cons.1 hx with e | hx
        · exact e
        · exact absurd (Int.le_antisymm (hl'.1 y hy) (hm'.1 x hx)) (hd'.1 y hy)
    subst e
    rw [ord_unique l m (List.perm_cons x |>.1 h) hl'.2 hm'.2 hd'.2]

def awakeWins : List Win := [⟨0, 0, 1⟩, ⟨1, 1, 1⟩, ⟨0, 4, 1⟩, ⟨1, 7, 1⟩, ⟨0, 8, 1⟩]
def awakeParts : List Part := pairs [4, 1, 6, 1]
theorem awake_wins : winsOf 12 [⟨0, 4, 1⟩, ⟨1, 6, 1⟩] = [⟨0, 0, 1⟩, ⟨0, 4, 1⟩, ⟨0, 8, 1⟩, ⟨1, 1, 1⟩, ⟨1, 7, 1⟩] := by kernel_rfl
end Go.Proofs.Ytlmbffnmjfbglab
