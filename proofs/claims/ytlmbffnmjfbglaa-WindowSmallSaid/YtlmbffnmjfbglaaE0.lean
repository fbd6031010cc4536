/- Equality of windows and of slots; the contracts of SameWindows, SameSlots, slices.Equal and slot. -/
import Derived.Test.YtlmbffnmjfbglaaG0
namespace Go.Proofs.Ytlmbffnmjfbglaa
open Go.ChangeShapes Go.WideShapes Go.ChangeAt Go.RowKit

def Win.eqB (r s : Win) : Bool := r.part == s.part && r.start == s.start && r.len == s.len
theorem Win.eqB_iff {r s : Win} : r.eqB s = true ↔ r = s := by
  cases r; cases s; simp [Win.eqB, and_assoc]
theorem neq_Win (r s : Win) (W : World) : (binOp .neq 31 (.agg #[.int .i64 r.part, .int .i64 r.start, .int .i64 r.len]) (.agg #[.int .i64 s.part, .int .i64 s.start, .int .i64 s.len])).run Try.prog W = .ok (.bool (!r.eqB s)) W := by
  have u3 := Try.underlying3
  have hS : Try.prog.underlying 31 = some (.struct (Try.prog.fieldsOf 31)) := by kernel_rfl
  have hp : Try.prog.stoodInHeld 31 = false := by kernel_rfl
  rw [run_neq_struct, show (10000 : Nat) = 9999 + 1 from rfl, run_equalIn_agg W 9999 31 _ _ hS hp]
  simp only [Program.fieldsOf, Try.underlying31]
  go_simp
  by_cases h1 : r.part = s.part <;> by_cases h2 : r.start = s.start <;> by_cases h3 : r.len = s.len <;> simp [h1, h2, h3, Win.eqB]
theorem eql_Win (r s : Win) (W : World) : (binOp .eql 31 (.agg #[.int .i64 r.part, .int .i64 r.start, .int .i64 r.len]) (.agg #[.int .i64 s.part, .int .i64 s.start, .int .i64 s.len])).run Try.prog W = .ok (.bool (r.eqB s)) W := by
  have u3 := Try.underlying3
  have hS : Try.prog.underlying 31 = some (.struct (Try.prog.fieldsOf 31)) := by kernel_rfl
  have hp : Try.prog.stoodInHeld 31 = false := by kernel_rfl
  rw [run_eql_struct, show (10000 : Nat) = 9999 + 1 from rfl, run_equalIn_agg W 9999 31 _ _ hS hp]
  simp only [Program.fieldsOf, Try.underlying31]
  go_simp
  by_cases h1 : r.part = s.part <;> by_cases h2 : r.start = s.start <;> by_cases h3 : r.len = s.len <;> simp [h1, h2, h3, Win.eqB]
theorem guard_Win : Try.prog.eqGuardType Try.prog.depth 31 = false := by kernel_rfl

def sameWin : List Win → List Win → Bool
  | [], [] => true
  | r :: l, s :: m => r.eqB s && sameWin l m
  | _, _ => false
theorem sameWin_iff {l m : List Win} : sameWin l m = true ↔ l = m := by
  induction l generalizing m with
  | nil => cases m <;> simp [sameWin]
  | cons r l ih => cases m <;> simp [sameWin, ih, Win.eqB_iff]
theorem sameWin_no {l m : List Win} {k : Nat} {hk : k < l.length} {hk' : k < m.length} (h : l[k].eqB m[k] = false) : sameWin l m = false := by
  cases e : sameWin l m with
  | false => rfl
  | true => rw [sameWin_iff] at e; subst e; rw [Win.eqB_iff.2 rfl] at h; cases h
theorem sameWin_yes {l m : List Win} (hlm : l.length = m.length) (h : ∀ j (h : j < l.length) (h' : j < m.length), l[j].eqB m[j] = true) : sameWin l m = true := by
  rw [sameWin_iff]
  exact List.ext_getElem hlm fun i h1 h2 => Win.eqB_iff.1 (h i h1 h2)

theorem sameWin_c (l m : List Win) (A A' : Option Addr) (c c' : Nat) (w : World) (h : RdG Win.tri w w.heap.size A l) (h' : RdG Win.tri w w.heap.size A' m) (hl : l.length ≤ 9223372036854775807) (hm : m.length ≤ 9223372036854775807) :
    Calls Try.prog 32 #[.slice A l.length c, .slice A' m.length c'] w fun e w' => e = .returned (.bool (sameWin l m)) ∧ Below w.heap.size w w' := by
  by_cases hlm : l.length = m.length
  · have hne : ((l.length : Int) != (m.length : Int)) = false := by simp [hlm]
    have Hlm := Lib.hid hlm
    clear hlm
    go_enter Try.func32, Try.ntmps32
    go_wp2
    go_loopw [5] (fun i wr => ∃ k : Nat, k ≤ l.length ∧ i = .int .i64 k ∧ Below w.heap.size w wr ∧ Hid (∀ j (h : j < l.length) (h' : j < m.length), j < k → l[j].eqB m[j] = true)) (fun i _ => l.length - (intOf i).toNat)
    case atStart => exact ⟨0, Nat.zero_le _, rfl, Below.refl _ _, fun j _ _ h => absurd h (by omega)⟩
    case round =>
      obtain ⟨k, hk, rfl, hB, hall⟩ := hrel
      by_cases hlt : k < l.length
      · have hltm : k < m.length := by have := Hlm.out; omega
        obtain ⟨b, o, rfl, hb, hc⟩ := h.keep hB (by omega)
        obtain ⟨c0, c1, c2⟩ := hc k hlt
        obtain ⟨b', o', rfl, hb', hc'⟩ := h'.keep hB (by omega)
        obtain ⟨d0, d1, d2⟩ := hc' k hltm
        change _ = some (Value.int .i64 l[k].part) at c0
        change _ = some (Value.int .i64 l[k].start) at c1
        change _ = some (Value.int .i64 l[k].len) at c2
        change _ = some (Value.int .i64 m[k].part) at d0
        change _ = some (Value.int .i64 m[k].start) at d1
        change _ = some (Value.int .i64 m[k].len) at d2
        clear hc h hc' h'
        have hi0 : (0 : Int) ≤ (k : Int) := by omega
        have hi1 : (k : Int) < (l.length : Int) := by omega
        have hi2 : (k : Int) < (m.length : Int) := by omega
        have hneq := fun W => neq_Win l[k] m[k] W
        have hgd := guard_Win
        cases hq : l[k].eqB m[k] with
        | true =>
          have Hnext : Hid (∀ j (h : j < l.length) (h' : j < m.length), j < k + 1 → l[j].eqB m[j] = true) := fun j hj hj' hjk => by
            by_cases e : j = k
            · subst e; exact hq
            · exact hall.out j hj hj' (by omega)
          clear hall
          rw [hq] at hneq
          generalize l[k] = r at c0 c1 c2 hneq
          generalize m[k] = s at d0 d1 d2 hneq
          clear hq
          go_wp2
          go_quiet (fail)
          go_wp2
          go_roundw
          case rel => exact ⟨k + 1, by omega, by go_num, below_drewN hB _, Hnext⟩
          case measure => simp [intOf]; omega
        | false =>
          have Hno := Lib.hid (sameWin_no hq)
          clear hall
          rw [hq] at hneq
          generalize l[k] = r at c0 c1 c2 hneq
          generalize m[k] = s at d0 d1 d2 hneq
          clear hq
          go_wp2
          go_quiet (fail)
          go_wp2
          go_ret
          exact ⟨ret_bool Hno.out.symm, below_drewN hB _⟩
      · have Hyes := Lib.hid (sameWin_yes Hlm.out fun j hj hj' => hall.out j hj hj' (by omega))
        clear hall
        go_wp2
        go_ret
        exact ⟨ret_bool Hyes.out.symm, hB⟩
  · have hne : ((l.length : Int) != (m.length : Int)) = true := by simp; omega
    have Hno : Hid (sameWin l m = false) := by
      cases e : sameWin l m with
      | false => rfl
      | true => rw [sameWin_iff] at e; subst e; exact absurd rfl hlm
    go_enter Try.func32, Try.ntmps32
    go_wp2
    go_ret
    exact ⟨ret_bool Hno.out.symm, Below.refl _ _⟩

theorem equalWin_c (l m : List Win) (A A' : Option Addr) (c c' : Nat) (w : World) (h : RdG Win.tri w w.heap.size A l) (h' : RdG Win.tri w w.heap.size A' m) (hl : l.length ≤ 9223372036854775807) (hm : m.length ≤ 9223372036854775807) :
    Calls Try.prog 54 #[.slice A l.length c, .slice A' m.length c'] w fun e w' => e = .returned (.bool (sameWin l m)) ∧ Below w.heap.size w w' := by
  by_cases hlm : l.length = m.length
  · have hne : ((l.length : Int) != (m.length : Int)) = false := by simp [hlm]
    have Hlm := Lib.hid hlm
    clear hlm
    go_enter Try.func54, Try.ntmps54
    go_wp2
    go_loopw [13] (fun i wr => ∃ k : Nat, k ≤ l.length ∧ i = .int .i64 k ∧ Below w.heap.size w wr ∧ Hid (∀ j (h : j < l.length) (h' : j < m.length), j < k → l[j].eqB m[j] = true)) (fun i _ => l.length - (intOf i).toNat)
    case atStart => exact ⟨0, Nat.zero_le _, rfl, Below.refl _ _, fun j _ _ h => absurd h (by omega)⟩
    case round =>
      obtain ⟨k, hk, rfl, hB, hall⟩ := hrel
      by_cases hlt : k < l.length
      · have hltm : k < m.length := by have := Hlm.out; omega
        obtain ⟨b, o, rfl, hb, hc⟩ := h.keep hB (by omega)
        obtain ⟨c0, c1, c2⟩ := hc k hlt
        obtain ⟨b', o', rfl, hb', hc'⟩ := h'.keep hB (by omega)
        obtain ⟨d0, d1, d2⟩ := hc' k hltm
        change _ = some (Value.int .i64 l[k].part) at c0
        change _ = some (Value.int .i64 l[k].start) at c1
        change _ = some (Value.int .i64 l[k].len) at c2
        change _ = some (Value.int .i64 m[k].part) at d0
        change _ = some (Value.int .i64 m[k].start) at d1
        change _ = some (Value.int .i64 m[k].len) at d2
        clear hc h hc' h'
        have hi0 : (0 : Int) ≤ (k : Int) := by omega
        have hi1 : (k : Int) < (l.length : Int) := by omega
        have hi2 : (k : Int) < (m.length : Int) := by omega
        have hneq := fun W => neq_Win l[k] m[k] W
        have hgd := guard_Win
        cases hq : l[k].eqB m[k] with
        | true =>
          have Hnext : Hid (∀ j (h : j < l.length) (h' : j < m.length), j < k + 1 → l[j].eqB m[j] = true) := fun j hj hj' hjk => by
            by_cases e : j = k
            · subst e; exact hq
            · exact hall.out j hj hj' (by omega)
          clear hall
          rw [hq] at hneq
          generalize l[k] = r at c0 c1 c2 hneq
          generalize m[k] = s at d0 d1 d2 hneq
          clear hq
          go_wp2
          go_quiet (fail)
          go_wp2
          go_roundw
          case rel => exact ⟨k + 1, by omega, by go_num, below_drewN hB _, Hnext⟩
          case measure => simp [intOf]; omega
        | false =>
          have Hno := Lib.hid (sameWin_no hq)
          clear hall
          rw [hq] at hneq
          generalize l[k] = r at c0 c1 c2 hneq
          generalize m[k] = s at d0 d1 d2 hneq
          clear hq
          go_wp2
          go_quiet (fail)
          go_wp2
          go_ret
          exact ⟨ret_bool Hno.out.symm, below_drewN hB _⟩
      · have Hyes := Lib.hid (sameWin_yes Hlm.out fun j hj hj' => hall.out j hj hj' (by omega))
        clear hall
        go_wp2
        go_ret
        exact ⟨ret_bool Hyes.out.symm, hB⟩
  · have hne : ((l.length : Int) != (m.length : Int)) = true := by simp; omega
    have Hno : Hid (sameWin l m = false) := by
      cases e : sameWin l m with
      | false => rfl
      | true => rw [sameWin_iff] at e; subst e; exact absurd rfl hlm
    go_enter Try.func54, Try.ntmps54
    go_wp2
    go_ret
    exact ⟨ret_bool Hno.out.symm, Below.refl _ _⟩

def Slot.eqB (r s : Slot) : Bool := r.off == s.off && r.per == s.per && r.len == s.len
theorem Slot.eqB_iff {r s : Slot} : r.eqB s = true ↔ r = s := by
  cases r; cases s; simp [Slot.eqB, and_assoc]
theorem neq_Slot (r s : Slot) (W : World) : (binOp .neq 23 (.agg #[.int .i64 r.off, .int .i64 r.per, .int .i64 r.len]) (.agg #[.int .i64 s.off, .int .i64 s.per, .int .i64 s.len])).run Try.prog W = .ok (.bool (!r.eqB s)) W := by
  have u3 := Try.underlying3
  have hS : Try.prog.underlying 23 = some (.struct (Try.prog.fieldsOf 23)) := by kernel_rfl
  have hp : Try.prog.stoodInHeld 23 = false := by kernel_rfl
  rw [run_neq_struct, show (10000 : Nat) = 9999 + 1 from rfl, run_equalIn_agg W 9999 23 _ _ hS hp]
  simp only [Program.fieldsOf, Try.underlying23]
  go_simp
  by_cases h1 : r.off = s.off <;> by_cases h2 : r.per = s.per <;> by_cases h3 : r.len = s.len <;> simp [h1, h2, h3, Slot.eqB]
theorem eql_Slot (r s : Slot) (W : World) : (binOp .eql 23 (.agg #[.int .i64 r.off, .int .i64 r.per, .int .i64 r.len]) (.agg #[.int .i64 s.off, .int .i64 s.per, .int .i64 s.len])).run Try.prog W = .ok (.bool (r.eqB s)) W := by
  have u3 := Try.underlying3
  have hS : Try.prog.underlying 23 = some (.struct (Try.prog.fieldsOf 23)) := by kernel_rfl
  have hp : Try.prog.stoodInHeld 23 = false := by kernel_rfl
  rw [run_eql_struct, show (10000 : Nat) = 9999 + 1 from rfl, run_equalIn_agg W 9999 23 _ _ hS hp]
  simp only [Program.fieldsOf, Try.underlying23]
  go_simp
  by_cases h1 : r.off = s.off <;> by_cases h2 : r.per = s.per <;> by_cases h3 : r.len = s.len <;> simp [h1, h2, h3, Slot.eqB]
theorem guard_Slot : Try.prog.eqGuardType Try.prog.depth 23 = false := by kernel_rfl

def sameSlot : List Slot → List Slot → Bool
  | [], [] => true
  | r :: l, s :: m => r.eqB s && sameSlot l m
  | _, _ => false
theorem sameSlot_iff {l m : List Slot} : sameSlot l m = true ↔ l = m := by
  induction l generalizing m with
  | nil => cases m <;> simp [sameSlot]
  | cons r l ih => cases m <;> simp [sameSlot, ih, Slot.eqB_iff]
theorem sameSlot_no {l m : List Slot} {k : Nat} {hk : k < l.length} {hk' : k < m.length} (h : l[k].eqB m[k] = false) : sameSlot l m = false := by
  cases e : sameSlot l m with
  | false => rfl
  | true => rw [sameSlot_iff] at e; subst e; rw [Slot.eqB_iff.2 rfl] at h; cases h
theorem sameSlot_yes {l m : List Slot} (hlm : l.length = m.length) (h : ∀ j (h : j < l.length) (h' : j < m.length), l[j].eqB m[j] = true) : sameSlot l m = true := by
  rw [sameSlot_iff]
  exact List.ext_getElem hlm fun i h1 h2 => Slot.eqB_iff.1 (h i h1 h2)

theorem sameSlot_c (l m : List Slot) (A A' : Option Addr) (c c' : Nat) (w : World) (h : RdG Slot.tri w w.heap.size A l) (h' : RdG Slot.tri w w.heap.size A' m) (hl : l.length ≤ 9223372036854775807) (hm : m.length ≤ 9223372036854775807) :
    Calls Try.prog 50 #[.slice A l.length c, .slice A' m.length c'] w fun e w' => e = .returned (.bool (sameSlot l m)) ∧ Below w.heap.size w w' := by
  by_cases hlm : l.length = m.length
  · have hne : ((l.length : Int) != (m.length : Int)) = false := by simp [hlm]
    have Hlm := Lib.hid hlm
    clear hlm
    go_enter Try.func50, Try.ntmps50
    go_wp2
    go_loopw [5] (fun i wr => ∃ k : Nat, k ≤ l.length ∧ i = .int .i64 k ∧ Below w.heap.size w wr ∧ Hid (∀ j (h : j < l.length) (h' : j < m.length), j < k → l[j].eqB m[j] = true)) (fun i _ => l.length - (intOf i).toNat)
    case atStart => exact ⟨0, Nat.zero_le _, rfl, Below.refl _ _, fun j _ _ h => absurd h (by omega)⟩
    case round =>
      obtain ⟨k, hk, rfl, hB, hall⟩ := hrel
      by_cases hlt : k < l.length
      · have hltm : k < m.length := by have := Hlm.out; omega
        obtain ⟨b, o, rfl, hb, hc⟩ := h.keep hB (by omega)
        obtain ⟨c0, c1, c2⟩ := hc k hlt
        obtain ⟨b', o', rfl, hb', hc'⟩ := h'.keep hB (by omega)
        obtain ⟨d0, d1, d2⟩ := hc' k hltm
        change _ = some (Value.int .i64 l[k].off) at c0
        change _ = some (Value.int .i64 l[k].per) at c1
        change _ = some (Value.int .i64 l[k].len) at c2
        change _ = some (Value.int .i64 m[k].off) at d0
        change _ = some (Value.int .i64 m[k].per) at d1
        change _ = some (Value.int .i64 m[k].len) at d2
        clear hc h hc' h'
        have hi0 : (0 : Int) ≤ (k : Int) := by omega
        have hi1 : (k : Int) < (l.length : Int) := by omega
        have hi2 : (k : Int) < (m.length : Int) := by omega
        have hneq := fun W => neq_Slot l[k] m[k] W
        have hgd := guard_Slot
        cases hq : l[k].eqB m[k] with
        | true =>
          have Hnext : Hid (∀ j (h : j < l.length) (h' : j < m.length), j < k + 1 → l[j].eqB m[j] = true) := fun j hj hj' hjk => by
            by_cases e : j = k
            · subst e; exact hq
            · exact hall.out j hj hj' (by omega)
          clear hall
          rw [hq] at hneq
          generalize l[k] = r at c0 c1 c2 hneq
          generalize m[k] = s at d0 d1 d2 hneq
          clear hq
          go_wp2
          go_quiet (fail)
          go_wp2
          go_roundw
          case rel => exact ⟨k + 1, by omega, by go_num, below_drewN hB _, Hnext⟩
          case measure => simp [intOf]; omega
        | false =>
          have Hno := Lib.hid (sameSlot_no hq)
          clear hall
          rw [hq] at hneq
          generalize l[k] = r at c0 c1 c2 hneq
          generalize m[k] = s at d0 d1 d2 hneq
          clear hq
          go_wp2
          go_quiet (fail)
          go_wp2
          go_ret
          exact ⟨ret_bool Hno.out.symm, below_drewN hB _⟩
      · have Hyes := Lib.hid (sameSlot_yes Hlm.out fun j hj hj' => hall.out j hj hj' (by omega))
        clear hall
        go_wp2
        go_ret
        exact ⟨ret_bool Hyes.out.symm, hB⟩
  · have hne : ((l.length : Int) != (m.length : Int)) = true := by simp; omega
    have Hno : Hid (sameSlot l m = false) := by
      cases e : sameSlot l m with
      | false => rfl
      | true => rw [sameSlot_iff] at e; subst e; exact absurd rfl hlm
    go_enter Try.func50, Try.ntmps50
    go_wp2
    go_ret
    exact ⟨ret_bool Hno.out.symm, Below.refl _ _⟩

theorem slot_c (o p l : Int) (w : World) : Calls Try.prog 26 #[.int .i64 o, .int .i64 p, .int .i64 l] w fun e w' => e = .returned (.agg #[.int .i64 o, .int .i64 p, .int .i64 l]) ∧ Below w.heap.size w w' := by
  go_enter Try.func26, Try.ntmps26
  go_wp2
  refine bodyPost_ret (v := .agg #[.int .i64 o, .int .i64 p, .int .i64 l]) ?_ rfl ⟨rfl, (Below.refl _ _).alloc (Nat.le_refl _) _⟩
  simp [results, Try.results26, go_sem]
end Go.Proofs.Ytlmbffnmjfbglaa
