/- Meet and Table in plain words, joined with the walks; tables are unique. -/
import Derived.Test.YtlmbffnmjfbglaaX0
import Derived.Test.YtlmbffnmjfbglaaT1
import Derived.Test.YtlmbffnmjfbglaaO1
import Derived.Test.YtlmbffnmjfbglaaM0
import Derived.Test.YtlmbffnmjfbglaaE0
namespace Go.Proofs.Ytlmbffnmjfbglaa
open Go.ChangeShapes Go.WideShapes Go.ChangeAt Go.RowKit

theorem meet_c (a b : Slot) (q : Int × Bool) (hq : MeetV a b q) (w : World) :
    Calls Try.prog 21 #[.agg #[.int .i64 a.off, .int .i64 a.per, .int .i64 a.len], .agg #[.int .i64 b.off, .int .i64 b.per, .int .i64 b.len]] w fun e w' => e = .returned (.tuple #[.int .i64 q.1, .bool q.2]) ∧ Below w.heap.size w w' := by
  rcases hq with ⟨rfl, h⟩ | ⟨h1, ha, hb, hM⟩
  · refine meet_no a b w ?_
    by_cases ha : a.ok
    · by_cases hb : b.ok
      · rcases h with h | h | h
        · exact .inl h
        · exact .inr (.inl h)
        · exact .inr (.inr ((disj_iff ha hb).2 h))
      · exact .inr (.inl (decide_eq_false hb))
    · exact .inl (decide_eq_false ha)
  · have hd : apartB a b = false := by
      cases hh : apartB a b with
      | false => rfl
      | true => exact absurd hM.both (apart_true ha hb hh _)
    obtain ⟨K, hK, hKm, hKB, hM'⟩ := meets ha hb hd
    obtain ⟨q1, q2⟩ := q
    simp only at *
    subst h1
    rw [hM.unique hM']
    exact meet_yes a b K w ha hb hd hK hKm hKB

theorem meet_ex (a b : Slot) : ∃ q, MeetV a b q := by
  by_cases ha : a.ok
  · by_cases hb : b.ok
    · cases hd : apartB a b with
      | true => exact ⟨(0, false), .inl ⟨rfl, .inr (.inr (apart_true ha hb hd))⟩⟩
      | false =>
        obtain ⟨K, _, _, _, hM⟩ := meets ha hb hd
        exact ⟨(_, true), .inr ⟨rfl, ha, hb, hM⟩⟩
    · exact ⟨(0, false), .inl ⟨rfl, .inr (.inl (decide_eq_false hb))⟩⟩
  · exact ⟨(0, false), .inl ⟨rfl, .inl (decide_eq_false ha)⟩⟩

/-- the windows are in order. -/
def Ord (l : List Win) : Prop := l.Pairwise fun x y => x.start ≤ y.start
def Dist (l : List Win) : Prop := l.Pairwise fun x y => x.start ≠ y.start
theorem ord_of {l : List Win} (h : ∀ i j (_ : i < j) (hj : j < l.length), l[i].start ≤ l[j].start) : Ord l :=
  List.pairwise_iff_getElem.2 fun i j _ hj hij => h i j hij hj
theorem dist_perm {l m : List Win} (h : l.Perm m) (hd : Dist l) : Dist m := h.pairwise hd (fun h e => h e.symm)
theorem ord_unique : ∀ (l m : List Win), l.Perm m → Ord l → Ord m → Dist l → l = m
  | [], m, h, _, _, _ => (List.nil_perm.1 h).symm
  | x :: l, [], h, _, _, _ => by have := h.length_eq; simp at this
  | x :: l, y :: m, h, hl, hm, hd => by
    have hl' := List.pairwise_cons.1 hl
    have hm' := List.pairwise_cons.1 hm
    have hd' := List.pairwise_cons.1 hd
    have e : x = y := by
      have hy : y ∈ x :: l := h.mem_iff.2 (by simp)
      have hx : x ∈ y :: m := h.mem_iff.1 (by simp)
      rcases List.mem_cons.1 hy with e | hy
      · exact e.symm
      · rcases List.mem_cons.1 hx with e | hx
        · exact e
        · exact absurd (Int.le_antisymm (hl'.1 y hy) (hm'.1 x hx)) (hd'.1 y hy)
    subst e
    rw [ord_unique l m (List.perm_cons x |>.1 h) hl'.2 hm'.2 hd'.2]

def awakeWins : List Win := [⟨0, 0, 1⟩, ⟨1, 1, 1⟩, ⟨0, 4, 1⟩, ⟨1, 7, 1⟩, ⟨0, 8, 1⟩]
def awakeParts : List Part := pairs [4, 1, 6, 1]
theorem awake_slots : slotsV 12 awakeParts [0, 1] = ([⟨0, 4, 1⟩, ⟨1, 6, 1⟩], 0) := by kernel_rfl
theorem awake_clash : NoClash [⟨0, 4, 1⟩, ⟨1, 6, 1⟩] := by
  intro i k h hi
  simp only [List.length_cons, List.length_nil] at hi
  obtain rfl : i = 1 := by omega
  obtain rfl : k = 0 := by omega
  kernel_rfl
theorem awake_wins : winsOf 12 [⟨0, 4, 1⟩, ⟨1, 6, 1⟩] = [⟨0, 0, 1⟩, ⟨0, 4, 1⟩, ⟨0, 8, 1⟩, ⟨1, 1, 1⟩, ⟨1, 7, 1⟩] := by kernel_rfl
theorem awake_table (q : List Win × Int) (h : TableV 12 awakeParts [0, 1] q) : q = (awakeWins, 0) := by
  unfold TableV at h
  rw [awake_slots] at h
  rcases h with ⟨h, _⟩ | ⟨_, h, _⟩ | ⟨_, _, h1, h2, h3⟩
  · exact absurd rfl h
  · exact absurd awake_clash h
  · rw [awake_wins] at h2
    refine Prod.ext ?_ h1
    refine ord_unique _ _ (h2.trans ?_) (ord_of h3) ?_ (dist_perm h2.symm ?_)
    · decide
    · show Ord awakeWins; unfold Ord; decide
    · unfold Dist; decide
theorem awake_next : nextV awakeWins 12 9 = (⟨0, 0, 1⟩, 12, true) := by kernel_rfl
theorem awake_owner : ownerV awakeWins 12 19 = (1, true) := by kernel_rfl
theorem awake_meet1 : MeetV ⟨0, 4, 1⟩ ⟨2, 6, 1⟩ (8, true) := .inr ⟨rfl, by decide, by decide, by decide, by decide, fun t h => by
  rintro ⟨⟨a1, a2⟩, b1, b2⟩
  simp only at *
  omega⟩
theorem awake_meet2 : MeetV ⟨0, 4, 2⟩ ⟨1, 6, 1⟩ (1, true) := .inr ⟨rfl, by decide, by decide, by decide, by decide, fun t h => by
  rintro ⟨⟨a1, a2⟩, b1, b2⟩
  simp only at *
  omega⟩
theorem awake_d1 : disjB ⟨0, 4, 1⟩ ⟨1, 6, 1⟩ = true := by kernel_rfl
theorem awake_d2 : disjB ⟨0, 4, 2⟩ ⟨1, 6, 1⟩ = false := by kernel_rfl
end Go.Proofs.Ytlmbffnmjfbglaa
