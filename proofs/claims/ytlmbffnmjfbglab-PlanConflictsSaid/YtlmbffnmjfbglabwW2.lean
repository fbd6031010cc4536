/- apart, Disjoint, first. -/
import Derived.Test.YtlmbffnmjfbglabwW1
namespace Go.Proofs.Ytlmbffnmjfbglab
open Go.ChangeShapes Go.WideShapes Go.ChangeAt Go.RowKit

def Slot.g (a b : Slot) : Int := (Nat.gcd a.per.toNat b.per.toNat : Nat)
def Slot.d (a b : Slot) : Int := (b.off - a.off) % Slot.g a b
def apartB (a b : Slot) : Bool := decide (a.len ≤ Slot.d a b) && decide (Slot.d a b + b.len ≤ Slot.g a b)

theorem tmod_mod (x g : Int) : x.tmod g % g = x % g := by
  have h1 := Int.mul_tdiv_add_tmod x g
  have h2 : x.tmod g = x + g * (- x.tdiv g) := by rw [Int.mul_neg]; omega
  rw [h2, Int.add_mul_emod_self_left]

theorem g_pos {a b : Slot} (ha : a.ok) : 1 ≤ Slot.g a b ∧ Slot.g a b ≤ 2000 := by
  obtain ⟨h1, h2, h3, h4, h5, h6⟩ := ha
  unfold Slot.g
  have hp : 0 < Nat.gcd a.per.toNat b.per.toNat := Nat.gcd_pos_of_pos_left _ (by omega)
  have hl : Nat.gcd a.per.toNat b.per.toNat ≤ a.per.toNat := Nat.gcd_le_left _ (by omega)
  omega

set_option maxHeartbeats 400000 in
theorem apart_c (a b : Slot) (w : World) (ha : a.ok) (hb : b.ok) :
    Calls Try.prog 47 #[.agg #[.int .i64 a.off, .int .i64 a.per, .int .i64 a.len], .agg #[.int .i64 b.off, .int .i64 b.per, .int .i64 b.len]] w fun e w' => e = .returned (.bool (apartB a b)) ∧ Below w.heap.size w w' := by
  have hg := g_pos (b := b) ha
  have hfin : apartB a b = (decide (a.len ≤ Slot.d a b) && decide (Slot.d a b + b.len ≤ Slot.g a b)) := rfl
  have hd : Slot.d a b = (b.off - a.off).tmod (Slot.g a b) % Slot.g a b := (tmod_mod _ _).symm
  have hcall : ∀ W : World, Calls Try.prog 69 #[.int .i64 a.per, .int .i64 b.per] W fun e w' => e = .returned (.int .i64 (Slot.g a b)) ∧ Below W.heap.size W w' := fun W => gcd_c _ _ W (by have := ha.1; omega) (by have := hb.1; omega) (by have := ha.2.1; omega) (by have := hb.2.1; omega)
  obtain ⟨a1, a2, a3, a4, a5, a6⟩ := ha
  obtain ⟨b1, b2, b3, b4, b5, b6⟩ := hb
  generalize apartB a b = r at hfin ⊢
  generalize Slot.g a b = g at *
  generalize Slot.d a b = d at *
  obtain ⟨o, p, l⟩ := a
  obtain ⟨o', p', l'⟩ := b
  simp only at *
  have Hd := Lib.hid hd
  have Hfin := Lib.hid hfin
  clear hd hfin
  have t1 : -g < (o' - o).tmod g := by have := Int.lt_tmod_of_pos (o' - o) (b := g) (by omega); omega
  have t2 : (o' - o).tmod g < g := Int.tmod_lt_of_pos _ (by omega)
  have d1 : 0 ≤ (o' - o).tmod g % g := Int.emod_nonneg _ (by omega)
  have d2 : (o' - o).tmod g % g < g := Int.emod_lt_of_pos _ (by omega)
  have g0 : g ≠ 0 := by omega
  obtain ⟨g1, g2⟩ := hg
  go_enter Try.func47, Try.ntmps47
  go_wp2_with fail
  refine nameC fun W0 hW0 => ?_
  have hB0 : Below w.heap.size w W0 := by subst hW0; exact ((Below.refl _ _).alloc (Nat.le_refl _) _).alloc (by simp) _
  have hs0 : w.heap.size + 1 < W0.heap.size := by subst hW0; simp
  have c0 : Blk W0 w.heap.size 77 #[.int .i64 o, .int .i64 p, .int .i64 l] := by subst hW0; exact (Blk.new _ _ _).alloc _
  have c1 : Blk W0 (w.heap.size + 1) 77 #[.int .i64 o', .int .i64 p', .int .i64 l'] := by subst hW0; have := Blk.new (w.alloc (.cells #[.int .i64 o, .int .i64 p, .int .i64 l] 77)) 77 #[.int .i64 o', .int .i64 p', .int .i64 l']; rwa [World.size_alloc] at this
  clear hW0
  refine (hcall W0).mono ?_
  rintro e w1 ⟨rfl, hb1⟩
  have hB1 := hB0.trans (hb1.mono hB0.size)
  have c0' := c0.below hb1 (by omega)
  have c1' := c1.below hb1 (by omega)
  clear hcall hB0 c0 c1 hb1
  have e0 : w1.cell? ⟨w.heap.size, 0, none⟩ = some (.int .i64 o) := c0'.cell 0
  have e2 : w1.cell? ⟨w.heap.size, 2, none⟩ = some (.int .i64 l) := c0'.cell 2
  have e3 : w1.cell? ⟨w.heap.size + 1, 0, none⟩ = some (.int .i64 o') := c1'.cell 0
  have e5 : w1.cell? ⟨w.heap.size + 1, 2, none⟩ = some (.int .i64 l') := c1'.cell 2
  clear c0' c1'
  go_wp2
  · go_ret
    exact ⟨ret_bool (by rw [Hfin.out, Hd.out, decide_eq_true (p := l ≤ (o' - o).tmod g % g) (by assumption)]; rfl), hB1⟩
  · have hn : ¬ l ≤ (o' - o).tmod g % g := by omega
    go_ret
    exact ⟨ret_bool (by rw [Hfin.out, Hd.out, decide_eq_false hn]; rfl), hB1⟩

def disjB (a b : Slot) : Bool := validS a && validS b && apartB a b
theorem ok_of {s : Slot} (h : validS s = true) : s.ok := by simpa [validS] using h

theorem disj_c (a b : Slot) (w : World) :
    Calls Try.prog 22 #[.agg #[.int .i64 a.off, .int .i64 a.per, .int .i64 a.len], .agg #[.int .i64 b.off, .int .i64 b.per, .int .i64 b.len]] w fun e w' => e = .returned (.bool (disjB a b)) ∧ Below w.heap.size w w' := by
  have hva := fun W => valid_c a W
  have hvb := fun W => valid_c b W
  have hap : validS a = true → validS b = true → ∀ W, _ := fun h1 h2 W => apart_c a b W (ok_of h1) (ok_of h2)
  have hfin : disjB a b = (validS a && validS b && apartB a b) := rfl
  generalize disjB a b = r at hfin ⊢
  generalize validS a = va at *
  generalize validS b = vb at *
  generalize apartB a b = ap at *
  obtain ⟨o, p, l⟩ := a
  obtain ⟨o', p', l'⟩ := b
  simp only at *
  go_enter Try.func22, Try.ntmps22
  go_wp2_with fail
  refine nameC fun W0 hW0 => ?_
  have hB0 : Below w.heap.size w W0 := by subst hW0; exact ((Below.refl _ _).alloc (Nat.le_refl _) _).alloc (by simp) _
  have hs0 : w.heap.size + 1 < W0.heap.size := by subst hW0; simp
  have c0 : Blk W0 w.heap.size 46 #[.int .i64 o, .int .i64 p, .int .i64 l] := by subst hW0; exact (Blk.new _ _ _).alloc _
  have c1 : Blk W0 (w.heap.size + 1) 46 #[.int .i64 o', .int .i64 p', .int .i64 l'] := by subst hW0; have := Blk.new (w.alloc (.cells #[.int .i64 o, .int .i64 p, .int .i64 l] 46)) 46 #[.int .i64 o', .int .i64 p', .int .i64 l']; rwa [World.size_alloc] at this
  clear hW0
  cases va with
  | false =>
    refine (hva W0).mono ?_
    rintro e w1 ⟨rfl, hb1⟩
    have hB1 := hB0.trans (hb1.mono hB0.size)
    clear hB0 c0 c1 hb1 hva hvb hap
    subst hfin
    go_wp2
    go_ret
    exact ⟨rfl, hB1⟩
  | true =>
    refine (hva W0).mono ?_
    rintro e w1 ⟨rfl, hb1⟩
    have hB1 := hB0.trans (hb1.mono hB0.size)
    have hs1 := hb1.size
    have c0' := c0.below hb1 (by omega)
    have c1' := c1.below hb1 (by omega)
    clear hB0 c0 c1 hb1 hva
    have e3 : w1.cell? ⟨w.heap.size + 1, 0, none⟩ = some (.int .i64 o') := c1'.cell 0
    have e4 : w1.cell? ⟨w.heap.size + 1, 1, none⟩ = some (.int .i64 p') := c1'.cell 1
    have e5 : w1.cell? ⟨w.heap.size + 1, 2, none⟩ = some (.int .i64 l') := c1'.cell 2
    cases vb with
    | false =>
      subst hfin
      clear hap
      go_wp2_with fail
      refine (hvb w1).mono ?_
      rintro e w2 ⟨rfl, hb2⟩
      have hB2 := hB1.trans (hb2.mono hB1.size)
      clear hB1 c0' c1' hb2 hvb e3 e4 e5
      go_wp2
      go_ret
      exact ⟨rfl, hB2⟩
    | true =>
      simp only [Bool.true_and] at hfin
      have hap' := hap rfl rfl
      have Hfin := Lib.hid hfin
      clear hap hfin
      go_wp2_with fail
      refine (hvb w1).mono ?_
      rintro e w2 ⟨rfl, hb2⟩
      have hB2 := hB1.trans (hb2.mono hB1.size)
      have c0 := c0'.below hb2 (by omega)
      have c1 := c1'.below hb2 (by omega)
      clear hB1 c0' c1' hb2 hvb e3 e4 e5
      have e0 : w2.cell? ⟨w.heap.size, 0, none⟩ = some (.int .i64 o) := c0.cell 0
      have e1 : w2.cell? ⟨w.heap.size, 1, none⟩ = some (.int .i64 p) := c0.cell 1
      have e2 : w2.cell? ⟨w.heap.size, 2, none⟩ = some (.int .i64 l) := c0.cell 2
      have e3 : w2.cell? ⟨w.heap.size + 1, 0, none⟩ = some (.int .i64 o') := c1.cell 0
      have e4 : w2.cell? ⟨w.heap.size + 1, 1, none⟩ = some (.int .i64 p') := c1.cell 1
      have e5 : w2.cell? ⟨w.heap.size + 1, 2, none⟩ = some (.int .i64 l') := c1.cell 2
      go_wp2_with fail
      refine (hap' w2).mono ?_
      rintro e w3 ⟨rfl, hb3⟩
      have hB3 := hB2.trans (hb3.mono hB2.size)
      clear hB2 c0 c1 hb3 hap' e0 e1 e2 e3 e4 e5
      go_wp2
      go_ret
      exact ⟨ret_bool Hfin.out.symm, hB3⟩
end Go.Proofs.Ytlmbffnmjfbglab
