/- The contracts of mark, markWindow, LentWindows and KeptWindows. -/
import Derived.Test.YtlmbffnmjfbglabwS2
import Derived.Test.YtlmbffnmjfbglabwE0
import Derived.Test.YtlmbffnmjfbglabwT1
import Derived.Test.YtlmbffnmjfbglabwB1
import Derived.IntWalk
namespace Go.Proofs.Ytlmbffnmjfbglab
open Go.ChangeShapes Go.WideShapes Go.ChangeAt Go.RowKit

theorem rd_flat {w : World} {B b o : Nat} {l : List Win} (h : RdG Win.tri w B (some ⟨b, o, none⟩) l) (hn : 0 < l.length) : ∀ j u, (l.flatMap (cellsG Win.tri))[j]? = some u → w.cell? ((⟨b, o, none⟩ : Addr).add j) = some u := by
  obtain ⟨b', o', e, _, hc⟩ := h hn
  injection e with e
  injection e with e1 e2
  subst e1 e2
  intro j u hu
  have hj : j < l.length * 3 := by
    have := (List.getElem?_eq_some_iff.1 hu).1
    rwa [cellsG_length] at this
  have hi : j / 3 < l.length := by omega
  obtain ⟨q0, q1, q2⟩ := cellsG_get (f := Win.tri) l (j / 3) hi
  obtain ⟨c0, c1, c2⟩ := hc (j / 3) hi
  have ea : ∀ k, (⟨b, o, none⟩ : Addr).add k = ⟨b, o + k, none⟩ := fun k => by unfold Addr.add; split <;> simp_all
  rw [ea]
  have h3 : j = j / 3 * 3 ∨ j = j / 3 * 3 + 1 ∨ j = j / 3 * 3 + 2 := by omega
  rcases h3 with e | e | e
  · rw [e, q0] at hu; rw [e, c0]; exact hu
  · rw [e, q1] at hu; rw [e, ← Nat.add_assoc, c1]; exact hu
  · rw [e, q2] at hu; rw [e, ← Nat.add_assoc, c2]; exact hu

theorem mark_c (i : Int) (w : World) (h0 : 0 ≤ i) (h1 : i ≤ 1000000) : Calls Try.prog 70 #[.int .i64 1, .int .i64 i] w fun e w' => e = .returned (.int .i64 (8000024 + i)) ∧ w = w' := by
  go_enter Try.func70, Try.ntmps70
  go_wp2
  go_ret
  exact ⟨rfl, rfl⟩
def markR (i : Nat) : Win := ⟨0, 8000024 + i, 0⟩
/-- a copy of l with twelve marks behind it. -/
def Lent (w : World) (v : Value) (l : List Win) : Prop := ∃ g cap, v = .slice (some ⟨g, 0, none⟩) l.length cap ∧ Row w g cap (l ++ (List.range 12).map markR)
theorem Lent.below {w w' : World} {v : Value} {l : List Win} (h : Lent w v l) (hb : Below w.heap.size w w') : Lent w' v l := by
  obtain ⟨g, cap, rfl, hr⟩ := h
  exact ⟨g, cap, rfl, hr.below hb hr.lt⟩
def LentPost (w : World) (l : List Win) (e : Ending) (w' : World) : Prop := ∃ v, e = .returned v ∧ Lent w' v l ∧ Below w.heap.size w w'

theorem rdReg_reads {w : World} {B : Nat} {A : Option Addr} {l : List Win} (h : RdG Win.tri w B A l) : Reads w B 3 A l.length (l.flatMap (cellsG Win.tri)) :=
  ⟨cellsG_length l, fun hn => by
    obtain ⟨b, o, rfl, hb, hc⟩ := h hn
    exact ⟨_, rfl, hb, rd_flat (B := B) (fun _ => ⟨b, o, rfl, hb, hc⟩) hn⟩⟩
theorem cells3_one (l : List Win) : ∀ u ∈ l.flatMap (cellsG Win.tri), u.oneCell' = true := fun u hu => by
  obtain ⟨r, _, hr⟩ := List.mem_flatMap.1 hu; simp [cellsG] at hr; rcases hr with rfl | rfl | rfl <;> rfl

def lentTo (l : List Win) (k : Nat) : List Value := (l ++ (List.range k).map markR).flatMap (cellsG Win.tri)
theorem lentTo_zero (l : List Win) : lentTo l 0 = l.flatMap (cellsG Win.tri) := by simp [lentTo]
theorem lentTo_succ (l : List Win) (k : Nat) : lentTo l (k + 1) = lentTo l k ++ [.int .i64 (markR k).part, .int .i64 (markR k).start, .int .i64 (markR k).len] := by
  unfold lentTo
  rw [List.range_succ, List.map_append, ← List.append_assoc, List.flatMap_append (xs := l ++ _)]; rfl

end Go.Proofs.Ytlmbffnmjfbglab
