/- The reference's Next, and what both say. -/
import Derived.Test.YtlmbffnmjfbglaaQ0
namespace Go.Proofs.Ytlmbffnmjfbglaa
open Go.ChangeShapes Go.WideShapes Go.ChangeAt Go.RowKit

/-- what the window is that begins next, among the first k. -/
def NextIs (F t : Int) (tb : List Win) (k : Nat) (st : NSt) : Prop :=
  (st = (⟨0, 0, 0⟩, 0, false) ∧ ∀ j (h : j < tb.length), j < k → startsIn F tb[j] = false) ∨
  (st.2.2 = true ∧ ∃ i, ∃ h : i < tb.length, i < k ∧ startsIn F tb[i] = true ∧ st.1 = tb[i] ∧ st.2.1 = nextAt F t tb[i] ∧ (∀ j (h : j < tb.length), j < k → startsIn F tb[j] = true → st.2.1 ≤ nextAt F t tb[j]) ∧
    ∀ j (h : j < tb.length), j < i → startsIn F tb[j] = true → st.2.1 < nextAt F t tb[j])
theorem nextTo_is (F t : Int) (tb : List Win) (k : Nat) (hk : k ≤ tb.length) : NextIs F t tb k (nextTo F t tb k) := by
  induction k with
  | zero => exact .inl ⟨rfl, fun j _ h => absurd h (by omega)⟩
  | succ k ih =>
    have ih := ih (by omega)
    rw [nextTo_succ F t tb k (by omega)]
    generalize nextTo F t tb k = st at ih
    unfold nextStep
    cases hs : startsIn F tb[k] with
    | false =>
      simp only [Bool.false_eq_true, if_false]
      rcases ih with ⟨rfl, h⟩ | ⟨h1, i, hi, hik, h2, h3, h4, h5, h6⟩
      · refine .inl ⟨rfl, fun j hj hjk => ?_⟩
        by_cases e : j = k
        · subst e; exact hs
        · exact h j hj (by omega)
      · refine .inr ⟨h1, i, hi, by omega, h2, h3, h4, fun j hj hjk hsj => ?_, h6⟩
        by_cases e : j = k
        · subst e; rw [hs] at hsj; cases hsj
        · exact h5 j hj (by omega) hsj
    | true =>
      simp only [if_true]
      rcases ih with ⟨rfl, h⟩ | ⟨h1, i, hi, hik, h2, h3, h4, h5, h6⟩
      · refine .inr ⟨rfl, k, by omega, by omega, hs, rfl, rfl, fun j hj hjk hsj => ?_, fun j hj hjk hsj => ?_⟩
        · by_cases e : j = k
          · subst e; exact Int.le_refl _
          · rw [h j hj (by omega)] at hsj; cases hsj
        · rw [h j hj hjk] at hsj; cases hsj
      · rw [h1]
        by_cases hl : nextAt F t tb[k] < st.2.1
        · simp only [Bool.not_true, Bool.false_or, decide_eq_true hl, if_true]
          refine .inr ⟨rfl, k, by omega, by omega, hs, rfl, rfl, fun j hj hjk hsj => ?_, fun j hj hjk hsj => ?_⟩
          · by_cases e : j = k
            · subst e; exact Int.le_refl _
            · have := h5 j hj (by omega) hsj; show nextAt F t tb[k] ≤ _; omega
          · have := h5 j hj hjk hsj; show nextAt F t tb[k] < _; omega
        · simp only [Bool.not_true, Bool.false_or, decide_eq_false hl, Bool.false_eq_true, if_false]
          refine .inr ⟨h1, i, hi, by omega, h2, h3, h4, fun j hj hjk hsj => ?_, h6⟩
          by_cases e : j = k
          · subst e; omega
          · exact h5 j hj (by omega) hsj

theorem at_iff {F t u : Int} {x : Win} (hF : 1 ≤ F) (hn : nearB x = true) (h1 : t ≤ u) (h2 : u < t + F) : x.start = u % F ↔ (startsIn F x = true ∧ nextAt F t x = u) := by
  have e0 := Int.mul_ediv_add_emod u F
  have u0 := Int.emod_nonneg u (show F ≠ 0 by omega)
  have u1 := Int.emod_lt_of_pos u (show 0 < F by omega)
  constructor
  · intro h
    refine ⟨by simp [startsIn, hn]; omega, ?_⟩
    unfold nextAt
    rw [h]
    have e : u % F - t = (u - t) + F * (-(u / F)) := by rw [Int.mul_neg]; omega
    rw [e, Int.add_mul_emod_self_left, Int.emod_eq_of_lt (by omega) (by omega)]
    omega
  · rintro ⟨hs, hu⟩
    simp only [startsIn, Bool.and_eq_true, decide_eq_true_iff] at hs
    obtain ⟨_, s1, s2⟩ := hs
    unfold nextAt at hu
    have e := Int.mul_ediv_add_emod (x.start - t) F
    have e2 : u = x.start + F * (-((x.start - t) / F)) := by rw [Int.mul_neg]; omega
    rw [e2, Int.add_mul_emod_self_left, Int.emod_eq_of_lt s1 s2]

theorem next_found {F t : Int} {tb : List Win} {u : Int} {i : Nat} (_hF : 1 ≤ F) (hi : i < tb.length) (hs : startsIn F tb[i] = true) (hu : nextAt F t tb[i] = u)
    (hout : ∀ j (h : j < tb.length), startsIn F tb[j] = true → u ≤ nextAt F t tb[j]) (hin : ∀ j (h : j < tb.length), j < i → startsIn F tb[j] = true → nextAt F t tb[j] ≠ u) :
    nextTo F t tb tb.length = (tb[i], u, true) := by
  rcases nextTo_is F t tb tb.length (Nat.le_refl _) with ⟨_, h⟩ | ⟨h1, k, hk, _, h2, h3, h4, h5, h6⟩
  · rw [h i hi hi] at hs; cases hs
  · have hle := h5 i hi hi hs
    have hge := hout k hk h2
    have hik : k = i := by
      rcases Nat.lt_trichotomy k i with c | c | c
      · exact absurd (by omega) (hin k hk c h2)
      · exact c
      · have := h6 i hi c hs; omega
    subst hik
    refine Prod.ext h3 (Prod.ext ?_ h1)
    show (nextTo F t tb tb.length).2.1 = u
    omega
theorem next_none {F t : Int} {tb : List Win} (hF : 1 ≤ F) (hout : ∀ j (h : j < tb.length), startsIn F tb[j] = true → t + F ≤ nextAt F t tb[j]) : nextTo F t tb tb.length = (⟨0, 0, 0⟩, 0, false) := by
  rcases nextTo_is F t tb tb.length (Nat.le_refl _) with ⟨h, _⟩ | ⟨_, k, hk, _, h2, _⟩
  · exact h
  · have := hout k hk h2
    have := (nextAt_bd (t := t) hF tb[k]).2
    omega

set_option maxRecDepth 100000 in
set_option maxHeartbeats 2000000 in
theorem refNext_c (tb : List Win) (A : Option Addr) (c : Nat) (F t : Int) (w : World) (h : RdG Win.tri w w.heap.size A tb) (hl : tb.length ≤ 9223372036854775807) :
    Calls Try.prog 18 #[.slice A tb.length c, .int .i64 F, .int .i64 t] w fun e w' => e = .returned (.tuple #[.agg #[.int .i64 (nextV tb F t).1.part, .int .i64 (nextV tb F t).1.start, .int .i64 (nextV tb F t).1.len], .int .i64 (nextV tb F t).2.1, .bool (nextV tb F t).2.2]) ∧ Below w.heap.size w w' := by
  have hB : Below w.heap.size w (w.alloc (.cells #[.int .i64 0, .int .i64 0, .int .i64 0] 31)) := (Below.refl _ _).alloc (Nat.le_refl _) _
  have hbk := Blk.new w 31 #[.int .i64 0, .int .i64 0, .int .i64 0]
  have hinv : clockB F t = false → Calls Try.prog 18 #[.slice A tb.length c, .int .i64 F, .int .i64 t] w fun e w' => e = .returned (.tuple #[.agg #[.int .i64 0, .int .i64 0, .int .i64 0], .int .i64 0, .bool false]) ∧ Below w.heap.size w w' := fun hc => by
    have hc' : ¬ (1 ≤ F ∧ F ≤ 2000 ∧ 0 ≤ t ∧ t ≤ 1073741824) := of_decide_eq_false hc
    clear h hbk hc
    by_cases h1 : 1 ≤ F <;> by_cases h2 : F ≤ 2000 <;> by_cases h3 : 0 ≤ t <;> by_cases h4 : t ≤ 1073741824
    all_goals first | (exfalso; omega) | skip
    all_goals
      clear hc'
      go_enter Try.func18, Try.ntmps18
      go_wp2
      refine bodyPost_ret (v := .tuple #[.agg #[.int .i64 0, .int .i64 0, .int .i64 0], .int .i64 0, .bool false]) ?_ rfl ⟨rfl, hB⟩
      simp [results, Try.f18, go_sem]
  cases hc : clockB F t with
  | false =>
    have hv : nextV tb F t = (⟨0, 0, 0⟩, 0, false) := by simp [nextV, hc]
    rw [hv]
    exact hinv hc
  | true =>
    clear hinv
    obtain ⟨h1, h2, h3, h4⟩ : 1 ≤ F ∧ F ≤ 2000 ∧ 0 ≤ t ∧ t ≤ 1073741824 := of_decide_eq_true hc
    have hF0 : F ≠ 0 := by omega
    have Hv := Lib.hid (show nextV tb F t = nextTo F t tb tb.length by simp [nextV, hc])
    clear hc
    obtain ⟨Fn, hFn1, hFn2⟩ : ∃ Fn : Nat, (Fn : Int) ≤ F ∧ F ≤ Fn := ⟨F.toNat, by omega, by omega⟩
    go_enter Try.func18, Try.ntmps18
    go_wp2_with fail
    refine nameW fun W1 hW1 => ?_
    rw [← hW1] at hB hbk
    clear hW1
    go_loopw [9] (fun u wr => ∃ m : Nat, m ≤ Fn ∧ u = .int .i64 (t + m) ∧ Below w.heap.size w wr ∧ Blk wr w.heap.size 31 #[.int .i64 0, .int .i64 0, .int .i64 0] ∧ Hid (∀ j (h : j < tb.length), startsIn F tb[j] = true → t + m ≤ nextAt F t tb[j])) (fun u _ => (t + F - intOf u).toNat)
    case atStart => exact ⟨0, by omega, by simp, hB, hbk, fun j hj _ => by have := (nextAt_bd (t := t) h1 tb[j]).1; simpa using this⟩
    case round =>
      clear hB hbk
      obtain ⟨m, hm, rfl, hB, hbk, hout⟩ := hrel
      by_cases hmF : (m : Int) < F
      · obtain ⟨wo, hwo⟩ : ∃ wo : World, wo = wr := ⟨_, rfl⟩
        subst hwo
        have hu0 : 0 ≤ t + (m : Int) := by omega
        have hu1 : t ≤ t + (m : Int) := by omega
        have hu2 : t + (m : Int) < t + F := by omega
        have hu3 : t + (m : Int) ≤ 1073743824 := by omega
        have hsu : Hid (Value.int .i64 (t + (m : Int) + 1) = .int .i64 (t + ((m + 1 : Nat) : Int))) := by show _ = _; rw [Int.natCast_add, Int.add_assoc]; rfl
        have hmm : Hid ((m : Int) + 1 = ((m + 1 : Nat) : Int)) := by show _ = _; rw [Int.natCast_add]; rfl
        have hlm : Hid (∀ {x : Win}, nearB x = true → (x.start = (t + (m : Int)) % F ↔ (startsIn F x = true ∧ nextAt F t x = t + (m : Int)))) := fun hn => at_iff h1 hn hu1 hu2
        generalize hu : t + (m : Int) = u at *
        have Hu := Lib.hid hu
        clear hu
        have r0 := Int.emod_nonneg u hF0
        have r1 := Int.emod_lt_of_pos u (show 0 < F by omega)
        go_wp2_with fail
        go_loopw [10] (fun i wr => ∃ k : Nat, k ≤ tb.length ∧ i = .int .i64 k ∧ Below w.heap.size w wr ∧ Blk wr w.heap.size 31 #[.int .i64 0, .int .i64 0, .int .i64 0] ∧ Hid (∀ j (h : j < tb.length), j < k → startsIn F tb[j] = true → nextAt F t tb[j] ≠ u)) (fun i _ => tb.length - (intOf i).toNat)
        case atStart => exact ⟨0, Nat.zero_le _, rfl, hB, hbk, fun j _ h => absurd h (by omega)⟩
        case round =>
          clear hB hbk
          obtain ⟨k, hk, rfl, hB, hbk, hin⟩ := hrel
          by_cases hlt : k < tb.length
          · obtain ⟨b, o, rfl, hb, hcc⟩ := h.keep hB (by omega)
            obtain ⟨c0, c1, c2⟩ := hcc k hlt
            change _ = some (Value.int .i64 tb[k].part) at c0
            change _ = some (Value.int .i64 tb[k].start) at c1
            change _ = some (Value.int .i64 tb[k].len) at c2
            have hnr := fun W => near_c tb[k] W
            have hfin : nearB tb[k] = true → tb[k].start = u % F → nextV tb F t = (tb[k], u, true) := fun hn he => by
              obtain ⟨a1, a2⟩ := (hlm.out hn).1 he
              rw [Hv.out]
              exact next_found h1 hlt a1 a2 hout.out hin.out
            have hnext : ¬ (nearB tb[k] = true ∧ tb[k].start = u % F) → ∀ j (h : j < tb.length), j < k + 1 → startsIn F tb[j] = true → nextAt F t tb[j] ≠ u := fun hno j hj hjk hs hn => by
              by_cases e : j = k
              · subst e
                have hnb : nearB tb[j] = true := by simp only [startsIn, Bool.and_eq_true] at hs; exact hs.1
                exact hno ⟨hnb, (hlm.out hnb).2 ⟨hs, hn⟩⟩
              · exact hin.out j hj (by omega) hs hn
            have Hfin := Lib.hid hfin
            have Hnext := Lib.hid hnext
            have hi0 : (0 : Int) ≤ (k : Int) := by omega
            have hi1 : (k : Int) < (tb.length : Int) := by omega
            have zb : b < wr.heap.size := Nat.lt_of_lt_of_le hb hB.size
            have z0 := hbk.lt
            clear hfin hnext hcc hin
            generalize tb[k] = x at *
            have m0 : u.tmod F = u % F := Int.tmod_eq_emod_of_nonneg hu0
            have hec := ext_cell wr
            cases hnb : nearB x with
            | false =>
              rw [hnb] at hnr
              have Hn := Lib.hid (Hnext.out (fun h => by rw [hnb] at h; cases h.1))
              clear hnb Hfin Hnext
              go_wp2_with fail
              refine wp_region_ext (by kernel_rfl) (by kernel_rfl) ?_
              repeat (go_big_quiet_step ((go_at_call 41; exact ext_call (hnr _))))
              refine wpQuiet_nil ?_
              rintro w' ⟨xx, rfl⟩
              have hB1 := hB.trans (xx.h.mono hB.size)
              have hbk1 := hbk.below xx.h z0
              clear hec hnr m0 c0 c1 c2 zb z0 hB hbk
              generalize xx.w = w1 at hB1 hbk1 ⊢
              go_wp2
              go_roundw
              case rel => exact ⟨k + 1, by omega, by go_num, hB1, hbk1, Hn⟩
              case measure => simp [intOf]; omega
            | true =>
              rw [hnb] at hnr
              cases heq : (x.start == u % F) with
              | false =>
                have Hn := Lib.hid (Hnext.out (fun h => by rw [h.2] at heq; simp at heq))
                clear hnb Hfin Hnext
                go_wp2_with fail
                refine wp_region_ext (by kernel_rfl) (by kernel_rfl) ?_
                repeat (go_big_quiet_step ((go_at_call 41; exact ext_call (hnr _))))
                refine wpQuiet_nil ?_
                rintro w' ⟨xx, rfl⟩
                have hB1 := hB.trans (xx.h.mono hB.size)
                have hbk1 := hbk.below xx.h z0
                clear hec hnr m0 c0 c1 c2 zb z0 hB hbk
                generalize xx.w = w1 at hB1 hbk1 ⊢
                go_wp2
                go_roundw
                case rel => exact ⟨k + 1, by omega, by go_num, hB1, hbk1, Hn⟩
                case measure => simp [intOf]; omega
              | true =>
                have Hf := Lib.hid (Hfin.out hnb (eq_of_beq heq))
                clear hnb Hfin Hnext
                go_wp2_with fail
                refine wp_region_ext (by kernel_rfl) (by kernel_rfl) ?_
                repeat (go_big_quiet_step ((go_at_call 41; exact ext_call (hnr _))))
                refine wpQuiet_nil ?_
                rintro w' ⟨xx, rfl⟩
                have hB1 := hB.trans (xx.h.mono hB.size)
                have hbk1 := hbk.below xx.h z0
                have g0 := (xx.h.cell (p := ⟨b, _, none⟩) zb).trans c0
                have g1 := (xx.h.cell (p := ⟨b, _, none⟩) zb).trans c1
                have g2 := (xx.h.cell (p := ⟨b, _, none⟩) zb).trans c2
                clear hec hnr m0 c0 c1 c2 zb z0 hB hbk
                generalize xx.w = w1 at hB1 hbk1 g0 g1 g2 ⊢
                have p0 : w1.cell? ⟨w.heap.size, 0, none⟩ = some (.int .i64 0) := hbk1.cell 0
                have p1 : w1.cell? ⟨w.heap.size, 1, none⟩ = some (.int .i64 0) := hbk1.cell 1
                have p2 : w1.cell? ⟨w.heap.size, 2, none⟩ = some (.int .i64 0) := hbk1.cell 2
                have f0 := hbk1.frozen 0
                have f1 := hbk1.frozen 1
                have f2 := hbk1.frozen 2
                go_wp2
                have k3 := ((hbk1.set_ 0 (.int .i64 x.part)).set_ 1 (.int .i64 x.start)).set_ 2 (.int .i64 x.len)
                have s0 := k3.cell 0
                have s1 := k3.cell 1
                have s2 := k3.cell 2
                simp at s0 s1 s2
                refine bodyPost_ret (v := .tuple #[.agg #[.int .i64 x.part, .int .i64 x.start, .int .i64 x.len], .int .i64 u, .bool true]) ?_ rfl ⟨by rw [Hf.out], ((hB1.setCell (by simp) _).setCell (by simp) _).setCell (by simp) _⟩
                simp [results, Try.f18, go_sem, s0, s1, s2]
          · have Hn : Hid (∀ j (h : j < tb.length), startsIn F tb[j] = true → t + ((m + 1 : Nat) : Int) ≤ nextAt F t tb[j]) := fun j hj hs => by
              have h5 := hout.out j hj hs
              have h6 := hin.out j hj (by omega) hs
              have h7 := Hu.out
              have h8 := hmm.out
              omega
            clear hin
            go_wp2
            go_roundw
            case rel => exact ⟨m + 1, by omega, hsu.out, hB, hbk, Hn⟩
            case measure => simp [intOf]; omega
      · have hmF2 : (m : Int) = F := by omega
        have Hf := Lib.hid (show nextV tb F t = (⟨0, 0, 0⟩, 0, false) by rw [Hv.out]; exact next_none h1 (fun j hj hs => by have := hout.out j hj hs; omega))
        have p0 : wr.cell? ⟨w.heap.size, 0, none⟩ = some (.int .i64 0) := hbk.cell 0
        have p1 : wr.cell? ⟨w.heap.size, 1, none⟩ = some (.int .i64 0) := hbk.cell 1
        have p2 : wr.cell? ⟨w.heap.size, 2, none⟩ = some (.int .i64 0) := hbk.cell 2
        have f0 := hbk.frozen 0
        have f1 := hbk.frozen 1
        have f2 := hbk.frozen 2
        have hmF3 : F ≤ (m : Int) := by omega
        clear hmF2 hmF hout
        go_wp2
        have k3 := ((hbk.set_ 0 (.int .i64 0)).set_ 1 (.int .i64 0)).set_ 2 (.int .i64 0)
        have s0 := k3.cell 0
        have s1 := k3.cell 1
        have s2 := k3.cell 2
        simp at s0 s1 s2
        refine bodyPost_ret (v := .tuple #[.agg #[.int .i64 0, .int .i64 0, .int .i64 0], .int .i64 0, .bool false]) ?_ rfl ⟨by rw [Hf.out], ((hB.setCell (by simp) _).setCell (by simp) _).setCell (by simp) _⟩
        simp [results, Try.f18, go_sem, s0, s1, s2]
end Go.Proofs.Ytlmbffnmjfbglaa
