/- The contracts of the reference's Translate and Owner, and of SameRegions. -/
import Derived.Test.YtjgmdchlgabflaaA2
namespace Go.Proofs.Ytjgmdchlgabflaa
open Go.ChangeShapes Go.WideShapes Go.ChangeAt Go.RowKit

theorem find_at {α : Type} {p : α → Bool} {l : List α} {k : Nat} (hk : k < l.length) (h : p l[k] = true) (hall : ∀ j (h : j < l.length), j < k → p l[j] = false) : l.find? p = some l[k] := by
  rw [List.find?_eq_some_iff_getElem]
  exact ⟨h, k, hk, rfl, fun j hj => by simp [hall j (by omega) hj]⟩
theorem find_no {α : Type} {p : α → Bool} {l : List α} (hall : ∀ j (h : j < l.length), p l[j] = false) : l.find? p = none := by
  rw [List.find?_eq_none]
  intro x hx
  obtain ⟨j, hj, rfl⟩ := List.getElem_of_mem hx
  simp [hall j hj]

theorem refTranslate_c (part addr : Int) (l : List Reg) (A : Option Addr) (c : Nat) (w : World) (h : RdReg w w.heap.size A l) (hl : l.length ≤ 4611686018427387904) :
    Calls Try.prog 12 #[.slice A l.length c, .int .i64 part, .int .i64 addr] w fun e w' => e = .returned (.tuple #[.int .i64 (transV l part addr).1, .int .i64 (transV l part addr).2]) ∧ w = w' := by
  go_enter Try.func12, Try.ntmps12
  go_wp2
  go_loop [8] (fun i => ∃ k : Nat, k ≤ l.length ∧ i = .int .i64 k ∧ Hid (∀ j (h : j < l.length), j < k → (l[j].part == part) = false)) (fun i => l.length - (intOf i).toNat)
  case atStart => exact ⟨0, Nat.zero_le _, rfl, fun j _ h => absurd h (by omega)⟩
  case round =>
    obtain ⟨k, hk, rfl, hall⟩ := hrel
    by_cases hlt : k < l.length
    · obtain ⟨b, o, rfl, hb, hc⟩ := h (by omega)
      obtain ⟨c0, c1, c2⟩ := hc k hlt
      clear hc h
      cases hq : (l[k].part == part) with
      | true =>
        have hf : l.find? (fun r => r.part == part) = some l[k] := find_at hlt hq hall.out
        generalize l[k] = r at c0 c1 c2 hf hq
        by_cases h1 : addr < 0
        · have hT := Lib.hid (show transV l part addr = (0, 110) by simp [transV, hf, h1])
          clear hf hall
          go_wp2
          go_ret2
          exact ⟨by rw [hT.out]; rfl, rfl⟩
        by_cases h2 : r.size ≤ addr
        · have hT := Lib.hid (show transV l part addr = (0, 110) by simp [transV, hf, h2])
          clear hf hall
          go_wp2
          go_ret2
          exact ⟨by rw [hT.out]; rfl, rfl⟩
        · have hT := Lib.hid (show transV l part addr = (wrap64 (r.base + addr), 0) by simp [transV, hf, h1, h2])
          clear hf hall
          go_wp2
          go_ret2
          exact ⟨by rw [hT.out]; rfl, rfl⟩
      | false =>
        have Hnext := Lib.hid (forall_succ (p := fun r : Reg => (r.part == part) = false) hall.out hq)
        clear hall
        generalize l[k] = r at c0 c1 c2 hq
        go_wp2
        go_round
        case rel => exact ⟨k + 1, by omega, by go_num, Hnext⟩
        case measure => simp [intOf]; omega
    · have hT := Lib.hid (show transV l part addr = (0, 6) by simp only [transV]; rw [find_no fun j hj => hall.out j hj (by omega)])
      clear hall
      go_wp2
      go_ret2
      exact ⟨by rw [hT.out]; rfl, rfl⟩

theorem refOwner_c (a : Int) (l : List Reg) (A : Option Addr) (c : Nat) (w : World) (h : RdReg w w.heap.size A l) (hl : l.length ≤ 4611686018427387904) :
    Calls Try.prog 14 #[.slice A l.length c, .int .i64 a] w fun e w' => e = .returned (.tuple #[.int .i64 (ownV l a).1, .int .i64 (ownV l a).2.1, .bool (ownV l a).2.2]) ∧ Below w.heap.size w w' := by
  go_enter Try.func14, Try.ntmps14
  go_wp2
  go_loopw [7] (fun i wr => ∃ k : Nat, k ≤ l.length ∧ i = .int .i64 k ∧ Below w.heap.size w wr ∧ Hid (∀ j (h : j < l.length), j < k → l[j].has a = false)) (fun i _ => l.length - (intOf i).toNat)
  case atStart => exact ⟨0, Nat.zero_le _, rfl, Below.refl _ _, fun j _ h => absurd h (by omega)⟩
  case round =>
    obtain ⟨k, hk, rfl, hB, hall⟩ := hrel
    by_cases hlt : k < l.length
    · obtain ⟨b, o, rfl, hb, hc⟩ := h.keep hB (by omega)
      obtain ⟨c0, c1, c2⟩ := hc k hlt
      clear hc h
      have hcall := contains_c l[k] a wr
      have hs := hB.size
      have hi0 : (0 : Int) ≤ (k : Int) := by omega
      have hi1 : (k : Int) < (l.length : Int) := by omega
      cases hq : l[k].has a with
      | true =>
        have hT := Lib.hid (show ownV l a = (l[k].part, wrap64 (a - l[k].base), true) by simp only [ownV]; rw [find_at hlt hq hall.out])
        rw [hq] at hcall
        clear hall hq
        generalize l[k] = r at c0 c1 c2 hT hcall
        go_wp2_with fail
        refine hcall.mono ?_
        rintro e w1 ⟨rfl, hb1⟩
        have hbw : b < wr.heap.size := by omega
        have g0 := (hb1.cell (p := ⟨b, _, none⟩) hbw).trans c0
        have g1 := (hb1.cell (p := ⟨b, _, none⟩) hbw).trans c1
        have g2 := (hb1.cell (p := ⟨b, _, none⟩) hbw).trans c2
        clear c0 c1 c2 hcall
        go_wp2
        go_quiet (fail)
        go_wp2
        go_ret3
        exact ⟨by rw [hT.out]; rfl, below_drewN (hB.trans (hb1.mono hs)) _⟩
      | false =>
        have Hnext := Lib.hid (forall_succ (p := fun r : Reg => r.has a = false) hall.out hq)
        rw [hq] at hcall
        clear hall hq
        generalize l[k] = r at c0 c1 c2 hcall
        go_wp2_with fail
        refine hcall.mono ?_
        rintro e w1 ⟨rfl, hb1⟩
        go_wp2
        go_roundw
        case rel => exact ⟨k + 1, by omega, by go_num, hB.trans (hb1.mono hs), Hnext⟩
        case measure => simp [intOf]; omega
    · have hT := Lib.hid (show ownV l a = (0, 0, false) by simp only [ownV]; rw [find_no fun j hj => hall.out j hj (by omega)])
      clear hall
      go_wp2
      go_ret3
      exact ⟨by rw [hT.out]; rfl, hB⟩

def Reg.eqB (r s : Reg) : Bool := r.part == s.part && r.base == s.base && r.size == s.size
theorem Reg.eqB_iff {r s : Reg} : r.eqB s = true ↔ r = s := by
  cases r; cases s; simp [Reg.eqB, and_assoc]
theorem neq_reg (r s : Reg) (W : World) : (binOp .neq 42 (.agg #[.int .i64 r.part, .int .i64 r.base, .int .i64 r.size]) (.agg #[.int .i64 s.part, .int .i64 s.base, .int .i64 s.size])).run Try.prog W = .ok (.bool (!r.eqB s)) W := by
  have u3 := Try.underlying3
  have hS : Try.prog.underlying 42 = some (.struct (Try.prog.fieldsOf 42)) := by kernel_rfl
  have hp : Try.prog.stoodInHeld 42 = false := by kernel_rfl
  rw [run_neq_struct, show (10000 : Nat) = 9999 + 1 from rfl, run_equalIn_agg W 9999 42 _ _ hS hp]
  simp only [Program.fieldsOf, Try.underlying42]
  go_simp
  by_cases h1 : r.part = s.part <;> by_cases h2 : r.base = s.base <;> by_cases h3 : r.size = s.size <;> simp [h1, h2, h3, Reg.eqB]
theorem guard_reg : Try.prog.eqGuardType Try.prog.depth 42 = false := by kernel_rfl

/-- two lists of regions are alike. -/
def sameB : List Reg → List Reg → Bool
  | [], [] => true
  | r :: l, s :: m => r.eqB s && sameB l m
  | _, _ => false
theorem sameB_iff {l m : List Reg} : sameB l m = true ↔ l = m := by
  induction l generalizing m with
  | nil => cases m <;> simp [sameB]
  | cons r l ih => cases m <;> simp [sameB, ih, Reg.eqB_iff]
theorem sameB_no {l m : List Reg} {k : Nat} {hk : k < l.length} {hk' : k < m.length} (h : l[k].eqB m[k] = false) : sameB l m = false := by
  cases e : sameB l m with
  | false => rfl
  | true => rw [sameB_iff] at e; subst e; rw [Reg.eqB_iff.2 rfl] at h; cases h
theorem sameB_yes {l m : List Reg} (hlm : l.length = m.length) (h : ∀ j (h : j < l.length) (h' : j < m.length), l[j].eqB m[j] = true) : sameB l m = true := by
  rw [sameB_iff]
  exact List.ext_getElem hlm fun i h1 h2 => Reg.eqB_iff.1 (h i h1 h2)

theorem same_c (l m : List Reg) (A A' : Option Addr) (c c' : Nat) (w : World) (h : RdReg w w.heap.size A l) (h' : RdReg w w.heap.size A' m) (hl : l.length ≤ 4611686018427387904) (hm : m.length ≤ 4611686018427387904) :
    Calls Try.prog 27 #[.slice A l.length c, .slice A' m.length c'] w fun e w' => e = .returned (.bool (sameB l m)) ∧ Below w.heap.size w w' := by
  by_cases hlm : l.length = m.length
  · have hne : ((l.length : Int) != (m.length : Int)) = false := by simp [hlm]
    have Hlm := Lib.hid hlm
    clear hlm
    go_enter Try.func27, Try.ntmps27
    go_wp2
    go_loopw [5] (fun i wr => ∃ k : Nat, k ≤ l.length ∧ i = .int .i64 k ∧ Below w.heap.size w wr ∧ Hid (∀ j (h : j < l.length) (h' : j < m.length), j < k → l[j].eqB m[j] = true)) (fun i _ => l.length - (intOf i).toNat)
    case atStart => exact ⟨0, Nat.zero_le _, rfl, Below.refl _ _, fun j _ _ h => absurd h (by omega)⟩
    case round =>
      obtain ⟨k, hk, rfl, hB, hall⟩ := hrel
      by_cases hlt : k < l.length
      · have hltm : k < m.length := by have := Hlm.out; omega
        obtain ⟨b, o, rfl, hb, hc⟩ := h.keep hB (by omega)
        obtain ⟨c0, c1, c2⟩ := hc k hlt
        obtain ⟨b', o', rfl, hb', hc'⟩ := h'.keep hB (by omega)
        obtain ⟨d0, d1, d2⟩ := hc' k hltm
        clear hc h hc' h'
        have hi0 : (0 : Int) ≤ (k : Int) := by omega
        have hi1 : (k : Int) < (l.length : Int) := by omega
        have hi2 : (k : Int) < (m.length : Int) := by omega
        have hneq := fun W => neq_reg l[k] m[k] W
        have hgd := guard_reg
        cases hq : l[k].eqB m[k] with
        | true =>
          have Hnext : Hid (∀ j (h : j < l.length) (h' : j < m.length), j < k + 1 → l[j].eqB m[j] = true) := fun j hj hj' hjk => by
            by_cases e : j = k
            · subst e; exact hq
            · exact hall.out j hj hj' (by omega)
          clear hall
          rw [hq] at hneq
          generalize l[k] = r at c0 c1 c2 hneq
          generalize m[k] = s at d0 d1 d2 hneq
          clear hq
          go_wp2
          go_quiet (fail)
          go_wp2
          go_roundw
          case rel => exact ⟨k + 1, by omega, by go_num, below_drewN hB _, Hnext⟩
          case measure => simp [intOf]; omega
        | false =>
          have Hno := Lib.hid (sameB_no hq)
          clear hall
          rw [hq] at hneq
          generalize l[k] = r at c0 c1 c2 hneq
          generalize m[k] = s at d0 d1 d2 hneq
          clear hq
          go_wp2
          go_quiet (fail)
          go_wp2
          go_ret
          exact ⟨ret_bool Hno.out.symm, below_drewN hB _⟩
      · have Hyes := Lib.hid (sameB_yes Hlm.out fun j hj hj' => hall.out j hj hj' (by omega))
        clear hall
        go_wp2
        go_ret
        exact ⟨ret_bool Hyes.out.symm, hB⟩
  · have hne : ((l.length : Int) != (m.length : Int)) = true := by simp; omega
    have Hno : Hid (sameB l m = false) := by
      cases e : sameB l m with
      | false => rfl
      | true => rw [sameB_iff] at e; subst e; exact absurd rfl hlm
    go_enter Try.func27, Try.ntmps27
    go_wp2
    go_ret
    exact ⟨ret_bool Hno.out.symm, Below.refl _ _⟩
end Go.Proofs.Ytjgmdchlgabflaa
