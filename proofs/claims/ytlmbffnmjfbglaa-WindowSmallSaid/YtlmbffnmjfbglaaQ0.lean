/- The reference's near, Owner and Next. -/
import Derived.Test.YtlmbffnmjfbglaaO1
import Derived.Test.YtlmbffnmjfbglaaB1
namespace Go.Proofs.Ytlmbffnmjfbglaa
open Go.ChangeShapes Go.WideShapes Go.ChangeAt Go.RowKit

theorem near_c (x : Win) (w : World) : Calls Try.prog 41 #[.agg #[.int .i64 x.part, .int .i64 x.start, .int .i64 x.len]] w fun e w' => e = .returned (.bool (nearB x)) ∧ Below w.heap.size w w' := by
  have hB : Below w.heap.size w (w.alloc (.cells #[.int .i64 x.part, .int .i64 x.start, .int .i64 x.len] 31)) := (Below.refl _ _).alloc (Nat.le_refl _) _
  by_cases h1 : -1073741824 ≤ x.start
  · by_cases h2 : x.start ≤ 1073741824
    · by_cases h3 : -1073741824 ≤ x.len
      · by_cases h4 : x.len ≤ 1073741824
        · have hv : nearB x = true := decide_eq_true ⟨h1, h2, h3, h4⟩
          rw [hv]; clear hv
          go_enter Try.func41, Try.ntmps41
          go_wp2
          go_ret
          exact ⟨rfl, hB⟩
        · have hv : nearB x = false := decide_eq_false fun h => h4 h.2.2.2
          rw [hv]; clear hv
          go_enter Try.func41, Try.ntmps41
          go_wp2
          go_ret
          exact ⟨rfl, hB⟩
      · have hv : nearB x = false := decide_eq_false fun h => h3 h.2.2.1
        rw [hv]; clear hv
        go_enter Try.func41, Try.ntmps41
        go_wp2
        go_ret
        exact ⟨rfl, hB⟩
    · have hv : nearB x = false := decide_eq_false fun h => h2 h.2.1
      rw [hv]; clear hv
      go_enter Try.func41, Try.ntmps41
      go_wp2
      go_ret
      exact ⟨rfl, hB⟩
  · have hv : nearB x = false := decide_eq_false fun h => h1 h.1
    rw [hv]; clear hv
    go_enter Try.func41, Try.ntmps41
    go_wp2
    go_ret
    exact ⟨rfl, hB⟩

theorem find_at {α : Type} {p : α → Bool} {l : List α} {k : Nat} (hk : k < l.length) (h : p l[k] = true) (hall : ∀ j (h : j < l.length), j < k → p l[j] = false) : l.find? p = some l[k] := by
  rw [List.find?_eq_some_iff_getElem]
  exact ⟨h, k, hk, rfl, fun j hj => by simp [hall j (by omega) hj]⟩
theorem find_no {α : Type} {p : α → Bool} {l : List α} (hall : ∀ j (h : j < l.length), p l[j] = false) : l.find? p = none := by
  rw [List.find?_eq_none]
  intro x hx
  obtain ⟨j, hj, rfl⟩ := List.getElem_of_mem hx
  simp [hall j hj]

set_option maxRecDepth 100000 in
set_option maxHeartbeats 1000000 in
theorem refOwner_c (tb : List Win) (A : Option Addr) (c : Nat) (F t : Int) (w : World) (h : RdG Win.tri w w.heap.size A tb) (hl : tb.length ≤ 9223372036854775807) :
    Calls Try.prog 16 #[.slice A tb.length c, .int .i64 F, .int .i64 t] w fun e w' => e = .returned (.tuple #[.int .i64 (ownerV tb F t).1, .bool (ownerV tb F t).2]) ∧ Below w.heap.size w w' := by
  by_cases h1 : 1 ≤ F
  case neg =>
    have hv : ownerV tb F t = (0, false) := by simp [ownerV, clockB, h1]
    rw [hv]; clear hv h
    go_enter Try.func16, Try.ntmps16
    go_wp2
    go_ret2
    exact ⟨rfl, Below.refl _ _⟩
  by_cases h2 : F ≤ 2000
  case neg =>
    have hv : ownerV tb F t = (0, false) := by simp [ownerV, clockB, h2]
    rw [hv]; clear hv h
    go_enter Try.func16, Try.ntmps16
    go_wp2
    go_ret2
    exact ⟨rfl, Below.refl _ _⟩
  by_cases h3 : 0 ≤ t
  case neg =>
    have hv : ownerV tb F t = (0, false) := by simp [ownerV, clockB, h3]
    rw [hv]; clear hv h
    go_enter Try.func16, Try.ntmps16
    go_wp2
    go_ret2
    exact ⟨rfl, Below.refl _ _⟩
  by_cases h4 : t ≤ 1073741824
  case neg =>
    have hv : ownerV tb F t = (0, false) := by simp [ownerV, clockB, h4]
    rw [hv]; clear hv h
    go_enter Try.func16, Try.ntmps16
    go_wp2
    go_ret2
    exact ⟨rfl, Below.refl _ _⟩
  have hF0 : F ≠ 0 := by omega
  have hv : ownerV tb F t = (match tb.find? (ownP (t % F)) with | some x => (x.part, true) | none => (0, false)) := by unfold ownerV; rw [show clockB F t = true from decide_eq_true ⟨h1, h2, h3, h4⟩]; rfl
  have Hv := Lib.hid hv
  clear hv
  have r0 := Int.emod_nonneg t hF0
  have r1 := Int.emod_lt_of_pos t (show 0 < F by omega)
  go_enter Try.func16, Try.ntmps16
  go_wp2_with fail
  go_loopw [8] (fun i wr => ∃ k : Nat, k ≤ tb.length ∧ i = .int .i64 k ∧ Below w.heap.size w wr ∧ Hid (∀ j (h : j < tb.length), j < k → ownP (t % F) tb[j] = false)) (fun i _ => tb.length - (intOf i).toNat)
  case atStart => exact ⟨0, Nat.zero_le _, rfl, Below.refl _ _, fun j _ h => absurd h (by omega)⟩
  case round =>
    obtain ⟨k, hk, rfl, hB, hall⟩ := hrel
    by_cases hlt : k < tb.length
    · obtain ⟨b, o, rfl, hb, hc⟩ := h.keep hB (by omega)
      obtain ⟨c0, c1, c2⟩ := hc k hlt
      change _ = some (Value.int .i64 tb[k].part) at c0
      change _ = some (Value.int .i64 tb[k].start) at c1
      change _ = some (Value.int .i64 tb[k].len) at c2
      clear hc
      have hnr := fun W => near_c tb[k] W
      have hfin : ownP (t % F) tb[k] = true → ownerV tb F t = (tb[k].part, true) := fun e => by rw [Hv.out, find_at hlt e hall.out]
      have hnext : ownP (t % F) tb[k] = false → ∀ j (h : j < tb.length), j < k + 1 → ownP (t % F) tb[j] = false := fun e => forall_succ (p := fun x => ownP (t % F) x = false) hall.out e
      have hdef : ownP (t % F) tb[k] = (nearB tb[k] && (decide (tb[k].start ≤ t % F) && decide (t % F < tb[k].start + tb[k].len))) := rfl
      have hnp : nearB tb[k] = true → nearP tb[k] := of_decide_eq_true
      have Hfin := Lib.hid hfin
      have Hnext := Lib.hid hnext
      have Hdef := Lib.hid hdef
      have Hnp := Lib.hid hnp
      have hi0 : (0 : Int) ≤ (k : Int) := by omega
      have hi1 : (k : Int) < (tb.length : Int) := by omega
      clear hfin hnext hdef hall hnp
      generalize tb[k] = x at *
      generalize ownP (t % F) x = q at *
      generalize nearB x = nb at *
      have hbx := Blk.new wr 31 #[.int .i64 x.part, .int .i64 x.start, .int .i64 x.len]
      have hBx : Below w.heap.size w (wr.alloc (.cells #[.int .i64 x.part, .int .i64 x.start, .int .i64 x.len] 31)) := hB.alloc hB.size _
      go_wp2_with fail
      refine nameW fun W0 hW0 => ?_
      rw [← hW0] at hbx hBx
      clear hW0
      have z0 := hbx.lt
      generalize wr.heap.size = bx at hbx z0 ⊢
      have e0 : W0.cell? ⟨bx, 0, none⟩ = some (.int .i64 x.part) := hbx.cell 0
      have e1 : W0.cell? ⟨bx, 1, none⟩ = some (.int .i64 x.start) := hbx.cell 1
      have e2 : W0.cell? ⟨bx, 2, none⟩ = some (.int .i64 x.len) := hbx.cell 2
      have hec := ext_cell W0
      have m0 : t.tmod F = t % F := Int.tmod_eq_emod_of_nonneg h3
      cases nb with
      | false =>
        have hq : q = false := by have := Hdef.out; simpa using this
        subst hq
        clear c0 c1 c2
        refine wp_region_ext (by kernel_rfl) (by kernel_rfl) ?_
        repeat (go_big_quiet_step ((go_at_call 41; exact ext_call (hnr _))))
        refine wpQuiet_nil ?_
        rintro w' ⟨xx, rfl⟩
        have hB1 := hBx.trans (xx.h.mono hBx.size)
        clear hec hnr m0
        generalize xx.w = w1 at hB1 ⊢
        go_wp2
        go_roundw
        case rel => exact ⟨k + 1, by omega, by go_num, hB1, Hnext.out rfl⟩
        case measure => simp [intOf]; omega
      | true =>
        obtain ⟨n1, n2, n3, n4⟩ := Hnp.out rfl
        have m1 : IntKind.i64.wrap (x.start + x.len) = x.start + x.len := IntWalk.i64_in _ (by omega)
        by_cases s1 : x.start ≤ t % F
        · have D1 : decide (x.start ≤ t % F) = true := by simpa using s1
          by_cases s2 : t % F < x.start + x.len
          · have D2 : decide (t % F < x.start + x.len) = true := by simpa using s2
            have hq : q = true := by rw [Hdef.out, D1, D2]; rfl
            subst hq
            clear c0 c1 c2
            refine wp_region_ext (by kernel_rfl) (by kernel_rfl) ?_
            repeat (go_big_quiet_step ((go_at_call 41; exact ext_call (hnr _))))
            refine wpQuiet_nil ?_
            rintro w' ⟨xx, rfl⟩
            have hB1 := hBx.trans (xx.h.mono hBx.size)
            have g0 : xx.w.cell? ⟨bx, 0, none⟩ = some (.int .i64 x.part) := (xx.h.cell (p := ⟨bx, 0, none⟩) z0).trans e0
            clear hec hnr m0 m1 e0 e1 e2
            generalize xx.w = w1 at hB1 g0 ⊢
            have Hf := Lib.hid (Hfin.out rfl)
            clear Hfin Hnext
            go_wp2
            go_ret2
            exact ⟨by rw [Hf.out]; rfl, hB1⟩
          · have D2 : decide (t % F < x.start + x.len) = false := by simpa using s2
            have hq : q = false := by rw [Hdef.out, D2]; simp
            subst hq
            clear c0 c1 c2
            refine wp_region_ext (by kernel_rfl) (by kernel_rfl) ?_
            repeat (go_big_quiet_step ((go_at_call 41; exact ext_call (hnr _))))
            refine wpQuiet_nil ?_
            rintro w' ⟨xx, rfl⟩
            have hB1 := hBx.trans (xx.h.mono hBx.size)
            clear hec hnr m0 m1 e0 e1 e2
            generalize xx.w = w1 at hB1 ⊢
            go_wp2
            go_roundw
            case rel => exact ⟨k + 1, by omega, by go_num, hB1, Hnext.out rfl⟩
            case measure => simp [intOf]; omega
        · have D1 : decide (x.start ≤ t % F) = false := by simpa using s1
          have hq : q = false := by rw [Hdef.out, D1]; simp
          subst hq
          clear c0 c1 c2
          refine wp_region_ext (by kernel_rfl) (by kernel_rfl) ?_
          repeat (go_big_quiet_step ((go_at_call 41; exact ext_call (hnr _))))
          refine wpQuiet_nil ?_
          rintro w' ⟨xx, rfl⟩
          have hB1 := hBx.trans (xx.h.mono hBx.size)
          clear hec hnr m0 m1 e0 e1 e2
          generalize xx.w = w1 at hB1 ⊢
          go_wp2
          go_roundw
          case rel => exact ⟨k + 1, by omega, by go_num, hB1, Hnext.out rfl⟩
          case measure => simp [intOf]; omega
    · have hf : ownerV tb F t = (0, false) := by rw [Hv.out, find_no fun j hj => hall.out j hj (by omega)]
      have Hf := Lib.hid hf
      clear hf hall
      go_wp2
      go_ret2
      exact ⟨by rw [Hf.out]; rfl, hB⟩
end Go.Proofs.Ytlmbffnmjfbglaa
