/- The contracts of the reference's Layout and Valid. -/
import Derived.Test.YtjgmdchlgabflaaV0
namespace Go.Proofs.Ytjgmdchlgabflaa
open Go.ChangeShapes Go.WideShapes Go.ChangeAt Go.RowKit

theorem has_iff {r : Reg} (h : 0 ≤ r.base ∧ r.base ≤ 4096 ∧ 0 ≤ r.size ∧ r.size ≤ 4096) (a : Int) : r.has a = true ↔ r.base ≤ a ∧ a < r.base + r.size := by
  unfold Reg.has
  rw [IntWalk.wrap64_in (r.base + r.size) ⟨by omega, by omega⟩]
  simp
def cnt (l : List Reg) (a : Int) : Nat := l.countP fun r => r.has a
theorem cnt_apart {l : List Reg} (hf : ∀ r ∈ l, 0 ≤ r.base ∧ r.base ≤ 4096 ∧ 0 ≤ r.size ∧ r.size ≤ 4096) (h : apartL l) (a : Int) : cnt l a ≤ 1 := by
  unfold cnt
  induction l with
  | nil => simp
  | cons r l ih =>
    have h' := List.pairwise_cons.1 h
    have ih' := ih (fun s hs => hf s (List.mem_cons_of_mem _ hs)) h'.2
    rw [List.countP_cons]
    by_cases hr : r.has a = true
    · rw [if_pos hr]
      have h0 : l.countP (fun r => r.has a) = 0 := by
        rw [List.countP_eq_zero]
        intro s hs hsa
        have := h'.1 s hs
        rw [has_iff (hf r (by simp))] at hr
        rw [has_iff (hf s (List.mem_cons_of_mem _ hs))] at hsa
        simp only [apartR, decide_eq_true_eq] at this
        omega
      omega
    · rw [if_neg hr]; omega
theorem apart_of_cnt {l : List Reg} {mem : Int} (hf : ∀ r ∈ l, 0 ≤ r.base ∧ r.base ≤ 4096 ∧ 0 ≤ r.size ∧ r.size ≤ 4096) (hm : ∀ r ∈ l, r.base + r.size ≤ mem) (h : ∀ a : Int, 0 ≤ a → a < mem → cnt l a ≤ 1) : apartL l := by
  induction l with
  | nil => exact List.Pairwise.nil
  | cons r l ih =>
    have hfl := fun s hs => hf s (List.mem_cons_of_mem _ hs)
    refine List.pairwise_cons.2 ⟨fun s hs => ?_, ih hfl (fun s hs => hm s (List.mem_cons_of_mem _ hs)) fun a h0 h1 => ?_⟩
    · cases hap : apartR r s with
      | true => rfl
      | false =>
        exfalso
        simp only [apartR, decide_eq_false_iff_not] at hap
        have f1 := hf r (by simp)
        have f2 := hfl s hs
        have f3 := hm r (by simp)
        have f4 := hm s (List.mem_cons_of_mem _ hs)
        have hpick : ∃ a : Int, 0 ≤ a ∧ a < mem ∧ (r.base ≤ a ∧ a < r.base + r.size) ∧ (s.base ≤ a ∧ a < s.base + s.size) := by
          by_cases hrs : r.base ≤ s.base
          · exact ⟨s.base, by omega, by omega, by omega, by omega⟩
          · exact ⟨r.base, by omega, by omega, by omega, by omega⟩
        obtain ⟨a, a0, a1, ar, asx⟩ := hpick
        have := h a a0 a1
        unfold cnt at this
        rw [List.countP_cons, if_pos ((has_iff f1 a).2 ar)] at this
        have : 0 < l.countP fun r => r.has a := List.countP_pos_iff.2 ⟨s, hs, (has_iff f2 a).2 asx⟩
        omega
    · have := h a h0 h1
      unfold cnt at this ⊢
      rw [List.countP_cons] at this
      omega
theorem cnt_succ {l : List Reg} {k : Nat} (hk : k < l.length) (a : Int) : cnt (l.take (k + 1)) a = cnt (l.take k) a + if l[k].has a then 1 else 0 := by
  unfold cnt
  rw [List.take_succ_eq_append_getElem hk, List.countP_append]
  simp

set_option maxRecDepth 100000 in
set_option maxHeartbeats 2000000 in
theorem refValid_c (mem : Int) (l : List Reg) (A : Option Addr) (c : Nat) (w : World) (h : RdReg w w.heap.size A l) (hl : l.length ≤ 4611686018427387904) :
    Calls Try.prog 40 #[.slice A l.length c, .int .i64 mem] w fun e w' => e = .returned (.bool (validV l mem)) ∧ Below w.heap.size w w' := by
  by_cases hm0 : mem < 0
  · have hv : Hid (validV l mem = false) := by simp [validV, sizeB, Hid]; omega
    clear h
    go_enter Try.func40, Try.ntmps40
    go_wp2
    go_ret
    exact ⟨ret_bool hv.out.symm, Below.refl _ _⟩
  by_cases hm1 : 4096 < mem
  · have hv : Hid (validV l mem = false) := by simp [validV, sizeB, Hid]; omega
    clear h
    go_enter Try.func40, Try.ntmps40
    go_wp2
    go_ret
    exact ⟨ret_bool hv.out.symm, Below.refl _ _⟩
  by_cases h6 : 6 < l.length
  · have hv : Hid (validV l mem = false) := by
      have : ¬ l.length ≤ 6 := by omega
      simp [validV, Hid, this]
    have h6i : decide ((6 : Int) < (l.length : Int)) = true := by simp; omega
    clear h
    go_enter Try.func40, Try.ntmps40
    go_wp2
    go_ret
    exact ⟨ret_bool hv.out.symm, Below.refl _ _⟩
  have h6i : decide ((6 : Int) < (l.length : Int)) = false := by simp; omega
  have hl6 : l.length ≤ 6 := by omega
  have hm0' : 0 ≤ mem := by omega
  have hm1' : mem ≤ 4096 := by omega
  have hvv : validV l mem = (okL mem l && decide (apartL l)) := by
    have e1 : sizeB mem = true := by simp only [sizeB, Bool.and_eq_true, decide_eq_true_eq]; exact ⟨hm0', hm1'⟩
    simp [validV, e1, hl6]
  rw [hvv]
  generalize hres : (okL mem l && decide (apartL l)) = res
  have Hres := Lib.hid hres
  clear hres hvv hm0 hm1 h6
  go_enter Try.func40, Try.ntmps40
  go_wp2
  go_loopw [5, 6] (fun i _ wr => ∃ k : Nat, k ≤ l.length ∧ i = .int .i64 k ∧ Below w.heap.size w wr ∧ Hid (∀ j (h : j < l.length), j < k → okR mem j l[j] = true)) (fun i _ _ => l.length - (intOf i).toNat)
  case atStart => exact ⟨0, Nat.zero_le _, rfl, Below.refl _ _, fun j _ h => absurd h (by omega)⟩
  case round =>
    obtain ⟨k, hk, rfl, hB, hall⟩ := hrel
    by_cases hlt : k < l.length
    · obtain ⟨b, o, rfl, hb, hc⟩ := h.keep hB (by omega)
      obtain ⟨c0, c1, c2⟩ := hc k hlt
      clear hc
      have hno : okR mem k l[k] = false → res = false := fun e => by rw [← Hres.out, okL_no hlt e]; rfl
      have hyes : okR mem k l[k] = true → ∀ j (h : j < l.length), j < k + 1 → okR mem j l[j] = true := fun e j hj hjk => by
        by_cases e' : j = k
        · subst e'; exact e
        · exact hall.out j hj (by omega)
      have Hno := Lib.hid hno
      have Hyes := Lib.hid hyes
      clear hno hyes hall
      generalize l[k] = r at c0 c1 c2 Hno Hyes
      have hzw := hB.size
      by_cases hok : okR mem k r = true
      · have hy := Lib.hid (Hyes.out hok)
        have hf : r.part = k ∧ (0 ≤ r.base ∧ r.base ≤ 4096) ∧ r.base % 8 = 0 ∧ (0 ≤ r.size ∧ r.size ≤ 4096) ∧ r.base + r.size ≤ mem := by
          simp only [okR, sizeB, Bool.and_eq_true, decide_eq_true_eq, beq_iff_eq] at hok; omega
        obtain ⟨f0, ⟨f1, f2⟩, f3, ⟨f4, f5⟩, f6⟩ := hf
        have g0 : (r.part != (k : Int)) = false := by simp [f0]
        have g3 : (r.base % 8 != 0) = false := by simp [f3]
        clear f0 f3 hok Hno Hyes
        go_wp2
        go_roundw
        case rel => exact ⟨k + 1, by omega, by go_num, hB.alloc hzw _, hy⟩
        case measure => simp [intOf]; omega
      · have hn := Lib.hid (Hno.out (by simpa using hok))
        clear Hno Hyes
        by_cases f0 : r.part = k
        · have g0 : (r.part != (k : Int)) = false := by simp [f0]
          have F0 := Lib.hid f0
          clear f0
          by_cases f1 : r.base < 0
          · go_wp2
            go_ret
            exact ⟨ret_bool hn.out.symm, hB.alloc hzw _⟩
          by_cases f2 : 4096 < r.base
          · go_wp2
            go_ret
            exact ⟨ret_bool hn.out.symm, hB.alloc hzw _⟩
          have f1' : 0 ≤ r.base := by omega
          have f2' : r.base ≤ 4096 := by omega
          by_cases f3 : r.base % 8 = 0
          · have g3 : (r.base % 8 != 0) = false := by simp [f3]
            have F3 := Lib.hid f3
            clear f3 f1 f2
            by_cases f4 : r.size < 0
            · go_wp2
              go_ret
              exact ⟨ret_bool hn.out.symm, hB.alloc hzw _⟩
            by_cases f5 : 4096 < r.size
            · go_wp2
              go_ret
              exact ⟨ret_bool hn.out.symm, hB.alloc hzw _⟩
            have f4' : 0 ≤ r.size := by omega
            have f5' : r.size ≤ 4096 := by omega
            have f6 : mem < r.base + r.size := by
              rcases Int.lt_or_le mem (r.base + r.size) with h | h
              · exact h
              · exact absurd (by simp [okR, sizeB, F0.out, F3.out, f1', f2', f4', f5', h]) hok
            clear f4 f5 hok
            go_wp2
            go_ret
            exact ⟨ret_bool hn.out.symm, hB.alloc hzw _⟩
          · have g3 : (r.base % 8 != 0) = true := by simp [f3]
            have F3 := Lib.hid f3
            clear f3 f1 f2
            go_wp2
            go_ret
            exact ⟨ret_bool hn.out.symm, hB.alloc hzw _⟩
        · have g0 : (r.part != (k : Int)) = true := by simp [f0]
          clear f0
          go_wp2
          go_ret
          exact ⟨ret_bool hn.out.symm, hB.alloc hzw _⟩
    · have hok : okL mem l = true := okL_of fun j hj => hall.out j hj (by omega)
      have hfacts : ∀ r ∈ l, (0 ≤ r.base ∧ r.base ≤ 4096 ∧ 0 ≤ r.size ∧ r.size ≤ 4096) ∧ r.base + r.size ≤ mem := fun r hr => by
        obtain ⟨j, hj, rfl⟩ := List.getElem_of_mem hr
        have := okL_at hok j hj
        simp only [okR, sizeB, Bool.and_eq_true, decide_eq_true_eq] at this
        omega
      rw [hok, Bool.true_and] at Hres
      have Hf := Lib.hid hfacts
      clear hok hall hfacts
      go_wp2
      go_loopw [7, 8, 9] (fun a _ _ wr => ∃ x : Int, 0 ≤ x ∧ x ≤ mem ∧ a = .int .i64 x ∧ Below w.heap.size w wr ∧ Hid (∀ y : Int, 0 ≤ y → y < x → cnt l y ≤ 1)) (fun a _ _ _ => (mem - intOf a).toNat)
      case atStart => exact ⟨0, by omega, hm0', rfl, hB, fun y h0 h1 => by omega⟩
      case round =>
        obtain ⟨x, hx0, hx1, rfl, hB2, hprev⟩ := hrel
        by_cases hxm : x < mem
        · go_wp2
          go_loopw [8, 9] (fun m i wr => ∃ k : Nat, k ≤ l.length ∧ i = .int .i64 k ∧ m = .int .i64 (cnt (l.take k) x : Nat) ∧ Below w.heap.size w wr) (fun _ i _ => l.length - (intOf i).toNat)
          case atStart => exact ⟨0, Nat.zero_le _, rfl, rfl, hB2⟩
          case round =>
            obtain ⟨k, hk, rfl, rfl, hB3⟩ := hrel
            have hcl : cnt (l.take k) x ≤ k := Nat.le_trans (List.countP_le_length) (List.length_take_le _ _)
            by_cases hlt : k < l.length
            · obtain ⟨b, o, rfl, hb, hc⟩ := h.keep hB3 (by omega)
              obtain ⟨c0, c1, c2⟩ := hc k hlt
              have hcs := Lib.hid (cnt_succ hlt x)
              clear hc
              have hcall := contains_c l[k] x wr
              have hz := hB3.size
              generalize l[k] = r at c0 c1 c2 hcall hcs
              generalize cnt (l.take k) x = q at hcl hcs ⊢
              cases hr : r.has x with
              | true =>
                rw [hr] at hcall
                have hcs' : Hid (cnt (l.take (k + 1)) x = q + 1) := by rw [Hid, hcs.out, hr]; rfl
                clear hcs hr
                go_wp2_with fail
                refine hcall.mono ?_
                rintro e w1 ⟨rfl, hb1⟩
                go_wp2
                go_roundw
                case rel => exact ⟨k + 1, by omega, by go_num, by rw [hcs'.out]; go_num, hB3.trans (hb1.mono hz)⟩
                case measure => simp [intOf]; omega
              | false =>
                rw [hr] at hcall
                have hcs' : Hid (cnt (l.take (k + 1)) x = q) := by rw [Hid, hcs.out, hr]; rfl
                clear hcs hr
                go_wp2_with fail
                refine hcall.mono ?_
                rintro e w1 ⟨rfl, hb1⟩
                go_wp2
                go_roundw
                case rel => exact ⟨k + 1, by omega, by go_num, by rw [hcs'.out], hB3.trans (hb1.mono hz)⟩
                case measure => simp [intOf]; omega
            · obtain rfl : k = l.length := by omega
              rw [List.take_length] at hcl ⊢
              by_cases hc1 : cnt l x ≤ 1
              · have hnx : Hid (∀ y : Int, 0 ≤ y → y < x + 1 → cnt l y ≤ 1) := fun y h0 h1 => by
                  by_cases e : y = x
                  · subst e; exact hc1
                  · exact hprev.out y h0 (by omega)
                clear hprev
                generalize cnt l x = q at hcl hc1 ⊢
                go_wp2
                go_roundw
                case rel => exact ⟨x + 1, by omega, by omega, rfl, hB3, hnx⟩
                case measure => simp [intOf]; omega
              · have hr : Hid (res = false) := by
                  rw [Hid, ← Hres.out]
                  exact decide_eq_false fun hap => hc1 (cnt_apart (fun r hr => (Hf.out r hr).1) hap x)
                clear hprev
                generalize cnt l x = q at hcl hc1 ⊢
                have hc2 : 1 < q := by omega
                go_wp2
                go_ret
                exact ⟨ret_bool hr.out.symm, hB3⟩
        · have hr : Hid (res = true) := by
            rw [Hid, ← Hres.out]
            exact decide_eq_true (apart_of_cnt (fun r hr => (Hf.out r hr).1) (fun r hr => (Hf.out r hr).2) fun a h0 h1 => hprev.out a h0 (by omega))
          clear hprev
          go_wp2
          go_ret
          exact ⟨ret_bool hr.out.symm, hB2⟩
end Go.Proofs.Ytjgmdchlgabflaa
