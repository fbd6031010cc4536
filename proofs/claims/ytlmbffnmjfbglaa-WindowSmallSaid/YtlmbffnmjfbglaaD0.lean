/- The contracts of common, open and Pick. -/
import Derived.Test.YtlmbffnmjfbglaaX0
import Derived.IntWalk
namespace Go.Proofs.Ytlmbffnmjfbglaa
open Go.ChangeShapes Go.WideShapes Go.ChangeAt Go.RowKit

theorem gcd_found {a b d : Nat} (ha : 0 < a) (h1 : a % d = 0) (h2 : b % d = 0) (hmax : ∀ e, d < e → e ≤ a → ¬ (a % e = 0 ∧ b % e = 0)) : Nat.gcd a b = d := by
  have g1 := Nat.gcd_dvd_left a b
  have g2 := Nat.gcd_dvd_right a b
  have hd : d ∣ Nat.gcd a b := Nat.dvd_gcd (Nat.dvd_of_mod_eq_zero h1) (Nat.dvd_of_mod_eq_zero h2)
  have hle := Nat.le_of_dvd (Nat.gcd_pos_of_pos_left b ha) hd
  rcases Nat.lt_or_ge d (Nat.gcd a b) with h | h
  · exact absurd ⟨Nat.mod_eq_zero_of_dvd g1, Nat.mod_eq_zero_of_dvd g2⟩ (hmax _ h (Nat.le_of_dvd ha g1))
  · omega

theorem common_c (a b : Nat) (ha : 1 ≤ a) (ha2 : a ≤ 2000) (hb2 : b ≤ 2000) (w : World) :
    Calls Try.prog 23 #[.int .i64 a, .int .i64 b] w fun e w' => e = .returned (.int .i64 (Nat.gcd a b)) ∧ w = w' := by
  go_enter Try.func23, Try.ntmps23
  go_wp2
  go_loop [5] (fun d => ∃ k : Nat, 1 ≤ k ∧ k ≤ a ∧ d = .int .i64 k ∧ Hid (∀ e, k < e → e ≤ a → ¬ (a % e = 0 ∧ b % e = 0))) (fun d => (intOf d).toNat)
  case atStart => exact ⟨a, ha, Nat.le_refl _, rfl, fun e h1 h2 => absurd h1 (by omega)⟩
  case round =>
    obtain ⟨k, hk, hka, rfl, hall⟩ := hrel
    by_cases h1 : 1 < k
    · have k0 : (k : Int) ≠ 0 := by omega
      have ea : ((a % k : Nat) : Int) = (a : Int) % (k : Int) := rfl
      have eb : ((b % k : Nat) : Int) = (b : Int) % (k : Int) := rfl
      by_cases hca : a % k = 0
      · have ta : ((a : Int) % (k : Int) == 0) = true := by rw [← ea, hca]; rfl
        by_cases hcb : b % k = 0
        · have tb : ((b : Int) % (k : Int) == 0) = true := by rw [← eb, hcb]; rfl
          have Hf := Lib.hid (gcd_found (by omega) hca hcb hall.out)
          clear ea eb hca hcb hall
          go_wp2
          go_ret
          exact ⟨ret_int (by rw [Hf.out]), rfl⟩
        · have tb : ((b : Int) % (k : Int) == 0) = false := by rw [← eb, beq_eq_false_iff_ne]; omega
          have Hn : Hid (∀ e, k - 1 < e → e ≤ a → ¬ (a % e = 0 ∧ b % e = 0)) := fun e he hea => by
            by_cases hek : e = k
            · subst hek; exact fun h => hcb h.2
            · exact hall.out e (by omega) hea
          clear ea eb hca hcb hall
          go_wp2
          go_round
          case rel => exact ⟨k - 1, by omega, by omega, by rw [show ((k - 1 : Nat) : Int) = (k : Int) - 1 by omega], Hn⟩
          case measure => simp [intOf]; omega
      · have ta : ((a : Int) % (k : Int) == 0) = false := by rw [← ea, beq_eq_false_iff_ne]; omega
        have Hn : Hid (∀ e, k - 1 < e → e ≤ a → ¬ (a % e = 0 ∧ b % e = 0)) := fun e he hea => by
          by_cases hek : e = k
          · subst hek; exact fun h => hca h.1
          · exact hall.out e (by omega) hea
        clear ea eb hca hall
        go_wp2
        go_round
        case rel => exact ⟨k - 1, by omega, by omega, by rw [show ((k - 1 : Nat) : Int) = (k : Int) - 1 by omega], Hn⟩
        case measure => simp [intOf]; omega
    · obtain rfl : k = 1 := by omega
      have Hf := Lib.hid (gcd_found (b := b) (d := 1) (by omega) (Nat.mod_one a) (Nat.mod_one b) hall.out)
      clear hall
      go_wp2
      go_ret
      exact ⟨ret_int (by rw [Hf.out]; rfl), rfl⟩

def openB (s : Slot) (t : Int) : Bool := decide (openS s t)
theorem open_c (s : Slot) (t : Int) (w : World) (hs : s.ok) (h0 : 0 ≤ t) (h1 : t ≤ 1000000000) :
    Calls Try.prog 24 #[.agg #[.int .i64 s.off, .int .i64 s.per, .int .i64 s.len], .int .i64 t] w fun e w' => e = .returned (.bool (openB s t)) ∧ Below w.heap.size w w' := by
  obtain ⟨s1, s2, s3, s4, s5, s6⟩ := hs
  have hb : Below w.heap.size w (w.alloc (.cells #[.int .i64 s.off, .int .i64 s.per, .int .i64 s.len] 23)) := (Below.refl _ w).alloc (Nat.le_refl _) _
  have hk := Blk.new w 23 #[.int .i64 s.off, .int .i64 s.per, .int .i64 s.len]
  have hdef : openB s t = (decide (s.off ≤ t) && decide ((t - s.off) % s.per < s.len)) := by
    unfold openB openS
    by_cases c1 : s.off ≤ t <;> by_cases c2 : (t - s.off) % s.per < s.len <;> simp [c1, c2]
  obtain ⟨o, p, l⟩ := s
  simp only at *
  rw [hdef]
  clear hdef
  by_cases h : o ≤ t
  · have hd : decide (o ≤ t) = true := by simpa using h
    have p0 : p ≠ 0 := by omega
    have m1 : IntKind.i64.wrap (t - o) = t - o := IntWalk.i64_in _ (by omega)
    have m2 : (t - o).tmod p = (t - o) % p := Int.tmod_eq_emod_of_nonneg (by omega)
    go_enter Try.func24, Try.ntmps24
    go_wp2
    refine nameW fun W0 hW0 => ?_
    rw [← hW0] at hb hk
    clear hW0
    have e0 : W0.cell? ⟨w.heap.size, 0, none⟩ = some (.int .i64 o) := hk.cell 0
    have e1 : W0.cell? ⟨w.heap.size, 1, none⟩ = some (.int .i64 p) := hk.cell 1
    have e2 : W0.cell? ⟨w.heap.size, 2, none⟩ = some (.int .i64 l) := hk.cell 2
    go_quiet (fail)
    go_wp2
    go_ret
    exact ⟨ret_bool (by simp [h]), below_drewN hb _⟩
  · have hd : decide (o ≤ t) = false := by simpa using h
    go_enter Try.func24, Try.ntmps24
    go_wp2
    refine nameW fun W0 hW0 => ?_
    rw [← hW0] at hb hk
    clear hW0
    have Hd := Lib.hid hd
    have e0 : W0.cell? ⟨w.heap.size, 0, none⟩ = some (.int .i64 o) := hk.cell 0
    go_quiet (fail)
    go_wp2
    go_ret
    exact ⟨ret_bool (by rw [Hd.out]; rfl), below_drewN hb _⟩

def pickV (x n : Int) : Int := if n < 1 then 0 else x % n
theorem pick_c (x n : Int) (w : World) (hn : 1 ≤ n) (hn2 : n ≤ 1000000) :
    Calls Try.prog 25 #[.int .i64 x, .int .i64 n] w fun e w' => e = .returned (.int .i64 (x % n)) ∧ w = w' := by
  have h1 := Int.mul_tdiv_add_tmod x n
  have h2 : x.tmod n = x + n * (- x.tdiv n) := by rw [Int.mul_neg]; omega
  have h3 : x.tmod n % n = x % n := by rw [h2, Int.add_mul_emod_self_left]
  have t1 : -n < x.tmod n := by have := Int.lt_tmod_of_pos x (b := n) (by omega); omega
  have t2 : x.tmod n < n := Int.tmod_lt_of_pos _ (by omega)
  have n0 : n ≠ 0 := by omega
  by_cases hx : x.tmod n < 0
  · have hv : x % n = x.tmod n + n := by
      rw [← h3]
      have : x.tmod n = (x.tmod n + n) + n * (-1) := by omega
      rw [this, Int.add_mul_emod_self_left, Int.emod_eq_of_lt (by omega) (by omega)]
      omega
    have Hv := Lib.hid hv
    clear h1 h2 h3 hv
    go_enter Try.func25, Try.ntmps25
    go_wp2
    all_goals (go_ret; exact ⟨ret_int (by rw [Hv.out]), rfl⟩)
  · have hv : x % n = x.tmod n := by
      rw [← h3, Int.emod_eq_of_lt (by omega) t2]
    have Hv := Lib.hid hv
    clear h1 h2 h3 hv
    go_enter Try.func25, Try.ntmps25
    go_wp2
    all_goals (go_ret; exact ⟨ret_int (by rw [Hv.out]), rfl⟩)
end Go.Proofs.Ytlmbffnmjfbglaa
