/- The table of this program's types under a module. -/
import Derived.Test.YtlmbffnmjfbglabD2
set_option linter.unusedSimpArgs false
set_option linter.unusedVariables false
namespace Go.Proofs.Ytlmbffnmjfbglab
open Go.ChangeShapes Go.WideShapes Go.ChangeAt Go.RowKit Go.Deep

/-- kinds of slices: 0 []int, 1 []Ins, 2 []Port, 3 []Proc, 4 []Part. -/
def KS : Nat → List K
  | 0 => [.int]
  | 1 => [.byte, .int, .int, .int]
  | 2 => [.str, .byte, .bool, .int, .int, .int]
  | 3 => [.str, .int, .int, .int, .sl 1]
  | 4 => [.str, .int, .int, .int, .sl 0, .int, .int, .sl 0, .sl 2, .sl 3]
  | _ => []
/-- bytes of one element. -/
def KB : Nat → Nat
  | 0 => 8
  | 1 => 32
  | 2 => 48
  | 3 => 64
  | _ => 152
/-- no array of kind t has more elements. -/
def KN (t : Nat) : Nat := reachBytes / KB t
/-- the type of a kind. -/
def KT : K → TypeId
  | .int => 3
  | .byte => 5
  | .bool => 4
  | .str => 9
  | .sl 0 => 28
  | .sl 1 => 130
  | .sl 2 => 53
  | .sl 3 => 54
  | .sl _ => 22
/-- an element's mark. -/
def KM : Nat → Nat → List Value
  | 0, i => [.int .i64 (markI i)]
  | 1, i => [.int .u8 0, .int .i64 (markI i), .int .i64 0, .int .i64 0]
  | 2, i => [.string ⟨#[]⟩, .int .u8 0, .bool false, .int .i64 (markI i), .int .i64 0, .int .i64 0]
  | 3, i => [.string ⟨#[]⟩, .int .i64 (markI i), .int .i64 0, .int .i64 0, .slice none 0 0]
  | _, i => [.string ⟨#[]⟩, .int .i64 (markI i), .int .i64 0, .int .i64 0, .slice none 0 0, .int .i64 0, .int .i64 0, .slice none 0 0, .slice none 0 0, .slice none 0 0]
theorem lt_KN {b t : Nat} (hb : KB t = b) (h : 0 < b) : reachBytes < (KN t + 1) * b := by
  unfold KN
  rw [hb, Nat.mul_comm]
  exact Nat.lt_mul_div_succ reachBytes h
set_option maxRecDepth 100000 in
theorem tabK : Tab Try.prog KS KN KT 5 := by
  refine ⟨Try.underlying3, Try.underlying5, Try.underlying4, Try.underlying9, fun t ht => ?_⟩
  have hone : ∀ (e : TypeId) (fs : Array Field), Try.prog.underlying e = some (.struct fs) → oneCellFields Try.prog (Try.prog.fieldsOf e) = true → oneCellFields Try.prog fs = true := fun e fs h h2 => by
    have e2 : Try.prog.fieldsOf e = fs := by simp [Program.fieldsOf, h]
    rw [e2] at h2; exact h2
  match t, ht with
  | 0, _ => exact ⟨by decide, 3, Try.underlying28, by rw [show Try.prog.bytesOf 3 = 8 by kernel_rfl]; exact lt_KN rfl (by decide), by simp [KS, K.known], .inr ⟨.int, rfl, rfl, by kernel_rfl⟩⟩
  | 1, _ => exact ⟨by decide, 158, Try.underlying130, by rw [show Try.prog.bytesOf 158 = 32 by kernel_rfl]; exact lt_KN rfl (by decide), by simp [KS, K.known], .inl ⟨_, Try.underlying158, hone 158 _ Try.underlying158 (by kernel_rfl), by kernel_rfl, rfl⟩⟩
  | 2, _ => exact ⟨by decide, 128, Try.underlying53, by rw [show Try.prog.bytesOf 128 = 48 by kernel_rfl]; exact lt_KN rfl (by decide), by simp [KS, K.known], .inl ⟨_, Try.underlying128, hone 128 _ Try.underlying128 (by kernel_rfl), by kernel_rfl, rfl⟩⟩
  | 3, _ => exact ⟨by decide, 132, Try.underlying54, by rw [show Try.prog.bytesOf 132 = 64 by kernel_rfl]; exact lt_KN rfl (by decide), by simp [KS, K.known], .inl ⟨_, Try.underlying132, hone 132 _ Try.underlying132 (by kernel_rfl), by kernel_rfl, rfl⟩⟩
  | 4, _ => exact ⟨by decide, 56, Try.underlying22, by rw [show Try.prog.bytesOf 56 = 152 by kernel_rfl]; exact lt_KN rfl (by decide), by simp [KS, K.known], .inl ⟨_, Try.underlying56, hone 56 _ Try.underlying56 (by kernel_rfl), by kernel_rfl, rfl⟩⟩
theorem KM_len {t : Nat} (h : t < 5) (i : Nat) : (KM t i).length = (KS t).length := by
  match t, h with
  | 0, _ => rfl
  | 1, _ => rfl
  | 2, _ => rfl
  | 3, _ => rfl
  | 4, _ => rfl
end Go.Proofs.Ytlmbffnmjfbglab
