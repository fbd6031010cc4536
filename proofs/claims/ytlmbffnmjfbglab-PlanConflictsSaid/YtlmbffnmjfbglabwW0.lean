/- Slots: Valid of the program and of the reference. -/
import Derived.Test.YtlmbffnmjfbglabwA0
namespace Go.Proofs.Ytlmbffnmjfbglab
open Go.ChangeShapes Go.WideShapes Go.ChangeAt Go.RowKit

structure Slot where
  off : Int
  per : Int
  len : Int
deriving DecidableEq
def Slot.val (s : Slot) : Value := .agg #[.int .i64 s.off, .int .i64 s.per, .int .i64 s.len]
def Slot.ok (s : Slot) : Prop := 1 ≤ s.per ∧ s.per ≤ 2000 ∧ 1 ≤ s.len ∧ s.len ≤ s.per ∧ 0 ≤ s.off ∧ s.off ≤ s.per - s.len
instance (s : Slot) : Decidable s.ok := by unfold Slot.ok; infer_instance
def validS (s : Slot) : Bool := decide s.ok

theorem valid_c (s : Slot) (w : World) : Calls Try.prog 46 #[.agg #[.int .i64 s.off, .int .i64 s.per, .int .i64 s.len]] w fun e w' => e = .returned (.bool (validS s)) ∧ Below w.heap.size w w' := by
  have hb : Below w.heap.size w (w.alloc (.cells #[.int .i64 s.off, .int .i64 s.per, .int .i64 s.len] 46)) := (Below.refl _ w).alloc (Nat.le_refl _) _
  by_cases h : s.ok
  · have hv : validS s = true := by simp [validS, h]
    obtain ⟨h1, h2, h3, h4, h5, h6⟩ := h
    obtain ⟨o, p, l⟩ := s
    simp only at *
    rw [hv]; clear hv
    go_enter Try.func46, Try.ntmps46
    go_wp2
    go_ret
    exact ⟨rfl, hb⟩
  · have hv : validS s = false := by simp [validS, h]
    obtain ⟨o, p, l⟩ := s
    simp only [Slot.ok] at *
    rw [hv]; clear hv
    by_cases h1 : 1 ≤ p
    · by_cases h2 : p ≤ 2000
      · by_cases h3 : 1 ≤ l
        · by_cases h4 : l ≤ p
          · by_cases h5 : 0 ≤ o
            · have h6 : ¬ o ≤ p - l := by omega
              clear h
              go_enter Try.func46, Try.ntmps46
              go_wp2
              go_ret
              exact ⟨rfl, hb⟩
            · clear h
              go_enter Try.func46, Try.ntmps46
              go_wp2
              go_ret
              exact ⟨rfl, hb⟩
          · clear h
            go_enter Try.func46, Try.ntmps46
            go_wp2
            go_ret
            exact ⟨rfl, hb⟩
        · clear h
          go_enter Try.func46, Try.ntmps46
          go_wp2
          go_ret
          exact ⟨rfl, hb⟩
      · clear h
        go_enter Try.func46, Try.ntmps46
        go_wp2
        go_ret
        exact ⟨rfl, hb⟩
    · clear h
      go_enter Try.func46, Try.ntmps46
      go_wp2
      go_ret
      exact ⟨rfl, hb⟩
end Go.Proofs.Ytlmbffnmjfbglab
