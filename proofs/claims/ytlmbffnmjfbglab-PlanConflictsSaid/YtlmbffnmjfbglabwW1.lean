/- gcd by a closure that calls itself. -/
import Derived.Test.YtlmbffnmjfbglabwW0
import Derived.Test.YtlmbffnmjfbglabwB1
import Derived.Laws.EntriesVeiled
namespace Go.Proofs.Ytlmbffnmjfbglab
open Go.ChangeShapes Go.WideShapes Go.ChangeAt Go.RowKit

theorem gcd_step (a b : Nat) : Nat.gcd b (a % b) = Nat.gcd a b := by
  rw [Nat.gcd_comm b, ← Nat.gcd_rec b a, Nat.gcd_comm]

set_option maxRecDepth 100000 in
theorem step_c (B : Nat) (n : Nat) : ∀ (a b : Nat) (w : World), b ≤ n → a ≤ 1000000 → b ≤ 1000000 → B < w.heap.size → w.cell? ⟨B, 0, none⟩ = some (.func (.func 89) #[] #[.pointer (some ⟨B, 0, none⟩)]) →
    Calls Try.prog 89 #[.int .i64 a, .int .i64 b, .pointer (some ⟨B, 0, none⟩)] w fun e w' => e = .returned (.int .i64 (Nat.gcd a b)) ∧ Below w.heap.size w w' := by
  induction n with
  | zero =>
    intro a b w hb ha hb2 hB hc
    obtain rfl : b = 0 := by omega
    rw [Nat.gcd_zero_right]
    go_enter Try.func89, Try.ntmps89
    go_wp2
    go_ret
    exact ⟨rfl, Below.refl _ _⟩
  | succ n ih =>
    intro a b w hb ha hb2 hB hc
    by_cases h0 : b = 0
    · subst h0
      rw [Nat.gcd_zero_right]
      clear ih
      go_enter Try.func89, Try.ntmps89
      go_wp2
      go_ret
      exact ⟨rfl, Below.refl _ _⟩
    · have hlt : a % b < b := Nat.mod_lt _ (by omega)
      have hcall : ∀ x : Ext w, Calls Try.prog 89 #[.int .i64 b, .int .i64 ((a % b : Nat) : Int), .pointer (some ⟨B, 0, none⟩)] x.w fun e w' => e = .returned (.int .i64 (Nat.gcd b (a % b))) ∧ Below x.w.heap.size x.w w' := fun x =>
        ih b (a % b) x.w (by omega) (by omega) (by omega) (Nat.lt_of_lt_of_le hB x.h.size) ((x.h.cell (p := ⟨B, 0, none⟩) hB).trans hc)
      rw [gcd_step] at hcall
      have hm : ((a % b : Nat) : Int) = (a : Int) % (b : Int) := rfl
      rw [hm] at hcall
      clear hm
      have hb0 : ((b : Int) == 0) = false := by simp; omega
      have hb1 : (b : Int) ≠ 0 := by omega
      have hec := ext_cell w
      clear ih hlt
      go_enter Try.func89, Try.ntmps89
      go_wp2_with fail
      refine wp_region_ext (by kernel_rfl) (by kernel_rfl) ?_
      repeat (go_big_quiet_step ((go_at_call 89; exact ext_call (hcall _))))
      refine wpQuiet_nil ?_
      rintro w' ⟨x, rfl⟩
      clear hcall hec
      have hx := x.h
      generalize x.w = w' at hx ⊢
      go_wp2
      go_ret
      exact ⟨rfl, hx⟩

theorem gcd_c (a b : Int) (w : World) (ha : 0 ≤ a) (hb : 0 ≤ b) (ha2 : a ≤ 1000000) (hb2 : b ≤ 1000000) :
    Calls Try.prog 69 #[.int .i64 a, .int .i64 b] w fun e w' => e = .returned (.int .i64 (Nat.gcd a.toNat b.toNat)) ∧ Below w.heap.size w w' := by
  obtain ⟨m, rfl⟩ := Int.eq_ofNat_of_zero_le ha
  obtain ⟨n, rfl⟩ := Int.eq_ofNat_of_zero_le hb
  rw [Int.toNat_natCast, Int.toNat_natCast]
  go_enter Try.func69, Try.ntmps69
  go_wp2_with fail
  refine nameC fun W0 hW0 => ?_
  have hB0 : Below w.heap.size w W0 := by subst hW0; exact (Below.refl _ _).alloc (Nat.le_refl _) _
  have hs0 : w.heap.size < W0.heap.size := by subst hW0; simp
  have hc0 : W0.cell? ⟨w.heap.size, 0, none⟩ = some (.func (.func 89) #[] #[.pointer (some ⟨w.heap.size, 0, none⟩)]) := by subst hW0; exact (Blk.new w 33 _).cell 0
  clear hW0
  refine (step_c w.heap.size n m n W0 (Nat.le_refl _) (by omega) (by omega) hs0 hc0).mono ?_
  rintro e w1 ⟨rfl, hb1⟩
  have hB1 := hB0.trans (hb1.mono hB0.size)
  clear hB0 hs0 hc0 hb1
  go_wp2
  go_ret
  exact ⟨rfl, hB1⟩
end Go.Proofs.Ytlmbffnmjfbglab
