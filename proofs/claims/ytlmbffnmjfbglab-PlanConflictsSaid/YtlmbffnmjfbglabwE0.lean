/- Equality of windows and of slots; the contracts of SameWindows, SameSlots, slices.Equal and slot. -/
import Derived.Test.YtlmbffnmjfbglabwG0
namespace Go.Proofs.Ytlmbffnmjfbglab
open Go.ChangeShapes Go.WideShapes Go.ChangeAt Go.RowKit

def Win.eqB (r s : Win) : Bool := r.part == s.part && r.start == s.start && r.len == s.len
theorem Win.eqB_iff {r s : Win} : r.eqB s = true ↔ r = s := by
  cases r; cases s; simp [Win.eqB, and_assoc]
def sameWin : List Win → List Win → Bool
  | [], [] => true
  | r :: l, s :: m => r.eqB s && sameWin l m
  | _, _ => false
theorem sameWin_iff {l m : List Win} : sameWin l m = true ↔ l = m := by
  induction l generalizing m with
  | nil => cases m <;> simp [sameWin]
  | cons r l ih => cases m <;> simp [sameWin, ih, Win.eqB_iff]
theorem sameWin_no {l m : List Win} {k : Nat} {hk : k < l.length} {hk' : k < m.length} (h : l[k].eqB m[k] = false) : sameWin l m = false := by
  cases e : sameWin l m with
  | false => rfl
  | true => rw [sameWin_iff] at e; subst e; rw [Win.eqB_iff.2 rfl] at h; cases h
theorem sameWin_yes {l m : List Win} (hlm : l.length = m.length) (h : ∀ j (h : j < l.length) (h' : j < m.length), l[j].eqB m[j] = true) : sameWin l m = true := by
  rw [sameWin_iff]
  exact List.ext_getElem hlm fun i h1 h2 => Win.eqB_iff.1 (h i h1 h2)

def Slot.eqB (r s : Slot) : Bool := r.off == s.off && r.per == s.per && r.len == s.len
theorem Slot.eqB_iff {r s : Slot} : r.eqB s = true ↔ r = s := by
  cases r; cases s; simp [Slot.eqB, and_assoc]
def sameSlot : List Slot → List Slot → Bool
  | [], [] => true
  | r :: l, s :: m => r.eqB s && sameSlot l m
  | _, _ => false
theorem sameSlot_iff {l m : List Slot} : sameSlot l m = true ↔ l = m := by
  induction l generalizing m with
  | nil => cases m <;> simp [sameSlot]
  | cons r l ih => cases m <;> simp [sameSlot, ih, Slot.eqB_iff]
theorem sameSlot_no {l m : List Slot} {k : Nat} {hk : k < l.length} {hk' : k < m.length} (h : l[k].eqB m[k] = false) : sameSlot l m = false := by
  cases e : sameSlot l m with
  | false => rfl
  | true => rw [sameSlot_iff] at e; subst e; rw [Slot.eqB_iff.2 rfl] at h; cases h
theorem sameSlot_yes {l m : List Slot} (hlm : l.length = m.length) (h : ∀ j (h : j < l.length) (h' : j < m.length), l[j].eqB m[j] = true) : sameSlot l m = true := by
  rw [sameSlot_iff]
  exact List.ext_getElem hlm fun i h1 h2 => Slot.eqB_iff.1 (h i h1 h2)

end Go.Proofs.Ytlmbffnmjfbglab
