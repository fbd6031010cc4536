/- The reference's Valid, Open, Both, Meet and Disjoint; pair. -/
import Derived.Test.YtlmbffnmjfbglaaC0
import Derived.Test.YtlmbffnmjfbglaaD0
namespace Go.Proofs.Ytlmbffnmjfbglaa
open Go.ChangeShapes Go.WideShapes Go.ChangeAt Go.RowKit

theorem refValid_c (s : Slot) (w : World) : Calls Try.prog 34 #[.agg #[.int .i64 s.off, .int .i64 s.per, .int .i64 s.len]] w fun e w' => e = .returned (.bool (validS s)) ∧ Below w.heap.size w w' := by
  have hb : Below w.heap.size w (w.alloc (.cells #[.int .i64 s.off, .int .i64 s.per, .int .i64 s.len] 23)) := (Below.refl _ w).alloc (Nat.le_refl _) _
  by_cases h : s.ok
  · have hv : validS s = true := by simp [validS, h]
    obtain ⟨h1, h2, h3, h4, h5, h6⟩ := h
    obtain ⟨o, p, l⟩ := s
    simp only at *
    rw [hv]; clear hv
    go_enter Try.func34, Try.ntmps34
    go_wp2
    go_ret
    exact ⟨rfl, hb⟩
  · have hv : validS s = false := by simp [validS, h]
    obtain ⟨o, p, l⟩ := s
    simp only [Slot.ok] at *
    rw [hv]; clear hv
    by_cases h1 : 1 ≤ p
    · by_cases h2 : p ≤ 2000
      · by_cases h3 : 1 ≤ l
        · by_cases h4 : l ≤ p
          · by_cases h5 : 0 ≤ o
            · have h6 : ¬ o ≤ p - l := by omega
              clear h
              go_enter Try.func34, Try.ntmps34
              go_wp2
              go_ret
              exact ⟨rfl, hb⟩
            · clear h
              go_enter Try.func34, Try.ntmps34
              go_wp2
              go_ret
              exact ⟨rfl, hb⟩
          · clear h
            go_enter Try.func34, Try.ntmps34
            go_wp2
            go_ret
            exact ⟨rfl, hb⟩
        · clear h
          go_enter Try.func34, Try.ntmps34
          go_wp2
          go_ret
          exact ⟨rfl, hb⟩
      · clear h
        go_enter Try.func34, Try.ntmps34
        go_wp2
        go_ret
        exact ⟨rfl, hb⟩
    · clear h
      go_enter Try.func34, Try.ntmps34
      go_wp2
      go_ret
      exact ⟨rfl, hb⟩

theorem refOpen_c (s : Slot) (t : Int) (w : World) (hs : s.ok) (h0 : 0 ≤ t) (h1 : t ≤ 1000000000) :
    Calls Try.prog 56 #[.agg #[.int .i64 s.off, .int .i64 s.per, .int .i64 s.len], .int .i64 t] w fun e w' => e = .returned (.bool (openB s t)) ∧ Below w.heap.size w w' := by
  obtain ⟨s1, s2, s3, s4, s5, s6⟩ := hs
  have hb : Below w.heap.size w (w.alloc (.cells #[.int .i64 s.off, .int .i64 s.per, .int .i64 s.len] 23)) := (Below.refl _ w).alloc (Nat.le_refl _) _
  have hk := Blk.new w 23 #[.int .i64 s.off, .int .i64 s.per, .int .i64 s.len]
  have hdef : openB s t = (decide (s.off ≤ t) && decide ((t - s.off) % s.per < s.len)) := by
    unfold openB openS
    by_cases c1 : s.off ≤ t <;> by_cases c2 : (t - s.off) % s.per < s.len <;> simp [c1, c2]
  obtain ⟨o, p, l⟩ := s
  simp only at *
  rw [hdef]
  clear hdef
  by_cases h : o ≤ t
  · have hd : decide (o ≤ t) = true := by simpa using h
    have p0 : p ≠ 0 := by omega
    have m1 : IntKind.i64.wrap (t - o) = t - o := IntWalk.i64_in _ (by omega)
    have m2 : (t - o).tmod p = (t - o) % p := Int.tmod_eq_emod_of_nonneg (by omega)
    go_enter Try.func56, Try.ntmps56
    go_wp2
    refine nameW fun W0 hW0 => ?_
    rw [← hW0] at hb hk
    clear hW0
    have e0 : W0.cell? ⟨w.heap.size, 0, none⟩ = some (.int .i64 o) := hk.cell 0
    have e1 : W0.cell? ⟨w.heap.size, 1, none⟩ = some (.int .i64 p) := hk.cell 1
    have e2 : W0.cell? ⟨w.heap.size, 2, none⟩ = some (.int .i64 l) := hk.cell 2
    go_quiet (fail)
    go_wp2
    go_ret
    exact ⟨ret_bool (by simp [h]), below_drewN hb _⟩
  · have hd : decide (o ≤ t) = false := by simpa using h
    go_enter Try.func56, Try.ntmps56
    go_wp2
    refine nameW fun W0 hW0 => ?_
    rw [← hW0] at hb hk
    clear hW0
    have Hd := Lib.hid hd
    have e0 : W0.cell? ⟨w.heap.size, 0, none⟩ = some (.int .i64 o) := hk.cell 0
    go_quiet (fail)
    go_wp2
    go_ret
    exact ⟨ret_bool (by rw [Hd.out]; rfl), below_drewN hb _⟩


/-- the state of the law behind the calls: the two slots in their boxes. -/
structure BY (w : World) (a b : Slot) (W : World) : Prop where
  ba : Blk W w.heap.size 23 #[.int .i64 a.off, .int .i64 a.per, .int .i64 a.len]
  bb : Blk W (w.heap.size + 1) 23 #[.int .i64 b.off, .int .i64 b.per, .int .i64 b.len]
  hb : Below w.heap.size w W
theorem BY.next {w : World} {a b : Slot} {W W' : World} (h : BY w a b W) (hb : Below W.heap.size W W') : BY w a b W' :=
  ⟨h.ba.below hb h.ba.lt, h.bb.below hb h.bb.lt, h.hb.trans (hb.mono h.hb.size)⟩
theorem BY.drewN {w : World} {a b : Slot} {W : World} (h : BY w a b W) (n : Nat) : BY w a b (W.drewN n) := ⟨h.ba.drewN n, h.bb.drewN n, below_drewN h.hb n⟩
theorem BY.start (w : World) (a b : Slot) : BY w a b ((w.alloc (.cells #[.int .i64 a.off, .int .i64 a.per, .int .i64 a.len] 23)).alloc (.cells #[.int .i64 b.off, .int .i64 b.per, .int .i64 b.len] 23)) := by
  have b1 := Blk.new (w.alloc (.cells #[.int .i64 a.off, .int .i64 a.per, .int .i64 a.len] 23)) 23 #[.int .i64 b.off, .int .i64 b.per, .int .i64 b.len]
  rw [World.size_alloc] at b1
  exact ⟨(Blk.new _ _ _).alloc _, b1, ((Below.refl _ _).alloc (Nat.le_refl _) _).alloc (by simp) _⟩
theorem BY.cells {w : World} {a b : Slot} {W : World} (h : BY w a b W) :
    (W.cell? ⟨w.heap.size, 0, none⟩ = some (.int .i64 a.off) ∧ W.cell? ⟨w.heap.size, 1, none⟩ = some (.int .i64 a.per) ∧ W.cell? ⟨w.heap.size, 2, none⟩ = some (.int .i64 a.len)) ∧
    (W.cell? ⟨w.heap.size + 1, 0, none⟩ = some (.int .i64 b.off) ∧ W.cell? ⟨w.heap.size + 1, 1, none⟩ = some (.int .i64 b.per) ∧ W.cell? ⟨w.heap.size + 1, 2, none⟩ = some (.int .i64 b.len)) :=
  ⟨⟨h.ba.cell 0, h.ba.cell 1, h.ba.cell 2⟩, h.bb.cell 0, h.bb.cell 1, h.bb.cell 2⟩


/-- a common multiple of the periods. -/
structure IsBoth (a b : Slot) (n : Int) : Prop where
  pos : 0 < n
  le : n ≤ a.per * b.per
  da : a.per ∣ n
  db : b.per ∣ n
def bothV (a b : Slot) : Int := (Nat.lcm a.per.toNat b.per.toNat : Nat)
theorem bothV_is {a b : Slot} (ha : a.ok) (hb : b.ok) : IsBoth a b (bothV a b) := by
  obtain ⟨a1, a2, _, _, _, _⟩ := ha
  obtain ⟨b1, b2, _, _, _, _⟩ := hb
  obtain ⟨p, hp⟩ := Int.eq_ofNat_of_zero_le (show 0 ≤ a.per by omega)
  obtain ⟨q, hq⟩ := Int.eq_ofNat_of_zero_le (show 0 ≤ b.per by omega)
  unfold bothV
  refine ⟨?_, ?_, ?_, ?_⟩ <;> rw [hp, hq] <;> simp only [Int.toNat_natCast]
  · have := Nat.lcm_pos (m := p) (n := q) (by omega) (by omega); omega
  · have : Nat.lcm p q ≤ p * q := Nat.le_of_dvd (Nat.mul_pos (by omega) (by omega)) (Nat.lcm_dvd_mul p q)
    exact_mod_cast this
  · exact Int.natCast_dvd_natCast.2 (Nat.dvd_lcm_left p q)
  · exact Int.natCast_dvd_natCast.2 (Nat.dvd_lcm_right p q)
theorem lcm_found {p q k : Nat} (hp : 0 < p) (hk : 1 ≤ k) (hq : q ∣ k * p) (hmin : ∀ j, 1 ≤ j → j < k → ¬ q ∣ j * p) : Nat.lcm p q = k * p := by
  have h1 : Nat.lcm p q ∣ k * p := Nat.lcm_dvd (Nat.dvd_mul_left p k) hq
  have hle := Nat.le_of_dvd (Nat.mul_pos (by omega) hp) h1
  obtain ⟨j, hj⟩ := Nat.dvd_lcm_left p q
  have hpos : 0 < Nat.lcm p q := Nat.pos_of_dvd_of_pos h1 (Nat.mul_pos (by omega) hp)
  have hj1 : 1 ≤ j := by
    rcases Nat.eq_zero_or_pos j with h | h
    · subst h; rw [hj] at hpos; simp at hpos
    · exact h
  rcases Nat.lt_or_ge j k with h | h
  · have hd := Nat.dvd_lcm_right p q
    rw [hj, Nat.mul_comm] at hd
    exact absurd hd (hmin j hj1 h)
  · have : k * p ≤ j * p := Nat.mul_le_mul_right p h
    rw [hj, Nat.mul_comm p j] at hle ⊢
    omega
set_option maxHeartbeats 400000 in
theorem refBoth_c (a b : Slot) (w : World) (ha : a.ok) (hb : b.ok) :
    Calls Try.prog 55 #[.agg #[.int .i64 a.off, .int .i64 a.per, .int .i64 a.len], .agg #[.int .i64 b.off, .int .i64 b.per, .int .i64 b.len]] w fun e w' => e = .returned (.int .i64 (bothV a b)) ∧ Below w.heap.size w w' := by
  obtain ⟨a1, a2, _, _, _, _⟩ := ha
  obtain ⟨b1, b2, _, _, _, _⟩ := hb
  have h0 := BY.start w a b
  obtain ⟨pa, hpa⟩ := Int.eq_ofNat_of_zero_le (show 0 ≤ a.per by omega)
  obtain ⟨pb, hpb⟩ := Int.eq_ofNat_of_zero_le (show 0 ≤ b.per by omega)
  have hV : bothV a b = (Nat.lcm pa pb : Nat) := by unfold bothV; rw [hpa, hpb, Int.toNat_natCast, Int.toNat_natCast]
  have HV := Lib.hid hV
  clear hV
  have hdv : ∀ k : Nat, (k : Int) * a.per % b.per = 0 ↔ pb ∣ k * pa := fun k => by
    rw [hpa, hpb, ← Int.natCast_dvd_natCast (m := pb), Int.natCast_mul]
    exact ⟨Int.dvd_of_emod_eq_zero, Int.emod_eq_zero_of_dvd⟩
  have Hdv := Lib.hid hdv
  have Hpa := Lib.hid hpa
  have Hpb := Lib.hid hpb
  have hpa2 : (pa : Int) ≤ 2000 := by omega
  have hpb2 : (pb : Int) ≤ 2000 := by omega
  have hpa1 : 1 ≤ (pa : Int) := by omega
  have hpb1 : 1 ≤ (pb : Int) := by omega
  have hpab : (pb : Int) ≤ b.per ∧ b.per ≤ pb := by omega
  clear hdv hpa hpb
  go_enter Try.func55, Try.ntmps55
  go_wp2_with fail
  generalize (w.alloc (.cells #[.int .i64 a.off, .int .i64 a.per, .int .i64 a.len] 23)).alloc (.cells #[.int .i64 b.off, .int .i64 b.per, .int .i64 b.len] 23) = W0 at h0 ⊢
  obtain ⟨⟨c0, c1, c2⟩, d0, d1, d2⟩ := h0.cells
  go_wp2
  go_loop [5] (fun n => ∃ k : Nat, 1 ≤ k ∧ k ≤ pb ∧ n = .int .i64 (k * a.per) ∧ Hid (∀ j, 1 ≤ j → j < k → ¬ pb ∣ j * pa)) (fun n => pb - (intOf n / a.per).toNat)
  case atStart => exact ⟨1, by omega, by omega, by simp, fun j h1 h2 => absurd h1 (by omega)⟩
  case round =>
    obtain ⟨k, hk1, hk2, rfl, hall⟩ := hrel
    have hkd : ((k : Int) * a.per / a.per).toNat = k := by rw [Int.mul_ediv_cancel _ (by omega), Int.toNat_natCast]
    have hkd1 : (((k : Int) * a.per + a.per) / a.per).toNat = k + 1 := by
      rw [show (k : Int) * a.per + a.per = ((k + 1 : Nat) : Int) * a.per by rw [Int.natCast_add, Int.add_mul]; simp, Int.mul_ediv_cancel _ (by omega), Int.toNat_natCast]
    have hstep : Value.int .i64 ((k : Int) * a.per + a.per) = .int .i64 (((k + 1 : Nat) : Int) * a.per) := by rw [Int.natCast_add, Int.add_mul]; simp
    have hle : (k : Int) * a.per ≤ 2000 * 2000 := Int.mul_le_mul (by omega) a2 (by omega) (by omega)
    have hge : 1 * a.per ≤ (k : Int) * a.per := Int.mul_le_mul_of_nonneg_right (by omega) (by omega)
    have hkdv := Hdv.out k
    have p0 : b.per ≠ 0 := by omega
    cases hq : ((k : Int) * a.per % b.per != 0) with
    | true =>
      have hnd : ¬ pb ∣ k * pa := fun h => by rw [hkdv.2 h] at hq; simp at hq
      have hkl : k < pb := by
        rcases Nat.lt_or_ge k pb with h | h
        · exact h
        · obtain rfl : k = pb := by omega
          exact absurd (Nat.dvd_mul_right _ _) hnd
      have Hn : Hid (∀ j, 1 ≤ j → j < k + 1 → ¬ pb ∣ j * pa) := fun j h1 h2 => by
        by_cases e : j = k
        · subst e; exact hnd
        · exact hall.out j h1 (by omega)
      have Hkd := Lib.hid hkd
      have Hkd1 := Lib.hid hkd1
      have Hs := Lib.hid hstep
      clear hkd hkd1 hstep hkdv hnd hall
      generalize (k : Int) * a.per = T at *
      go_wp2
      go_round
      case rel => exact ⟨k + 1, by omega, by omega, Hs.out, Hn⟩
      case measure => simp only [intOf]; rw [Hkd.out, Hkd1.out]; omega
    | false =>
      have hdb : pb ∣ k * pa := hkdv.1 (by simpa using hq)
      have hB : (k : Int) * a.per = bothV a b := by rw [HV.out, lcm_found (by omega) hk1 hdb hall.out, Int.natCast_mul, Hpa.out]
      have HB := Lib.hid hB
      clear hkd hkd1 hstep hkdv hB hdb hall
      generalize (k : Int) * a.per = T at *
      go_wp2
      go_ret
      exact ⟨ret_int (by rw [HB.out]), h0.hb⟩

set_option maxRecDepth 100000 in
set_option maxHeartbeats 1000000 in
theorem refMeet_c (a b : Slot) (q : Int × Bool) (hq : MeetV a b q) (w : World) :
    Calls Try.prog 33 #[.agg #[.int .i64 a.off, .int .i64 a.per, .int .i64 a.len], .agg #[.int .i64 b.off, .int .i64 b.per, .int .i64 b.len]] w fun e w' => e = .returned (.tuple #[.int .i64 q.1, .bool q.2]) ∧ Below w.heap.size w w' := by
  have hva := fun W => refValid_c a W
  have hvb := fun W => refValid_c b W
  have h0 := BY.start w a b
  cases hA : validS a with
  | false =>
    obtain rfl : q = (0, false) := by
      rcases hq with ⟨h, _⟩ | ⟨_, h, _⟩
      · exact h
      · rw [show validS a = true from decide_eq_true h] at hA; cases hA
    rw [hA] at hva
    clear hq hA
    go_enter Try.func33, Try.ntmps33
    go_wp2_with fail
    generalize (w.alloc (.cells #[.int .i64 a.off, .int .i64 a.per, .int .i64 a.len] 23)).alloc (.cells #[.int .i64 b.off, .int .i64 b.per, .int .i64 b.len] 23) = W0 at h0 ⊢
    refine (hva W0).mono ?_
    rintro e W1 ⟨rfl, hb1⟩
    have hB := (h0.next hb1).hb
    clear h0 hb1 hva hvb
    go_wp2
    go_ret2
    exact ⟨rfl, hB⟩
  | true =>
    have ha := ok_of hA
    rw [hA] at hva
    cases hBB : validS b with
    | false =>
      obtain rfl : q = (0, false) := by
        rcases hq with ⟨h, _⟩ | ⟨_, _, h, _⟩
        · exact h
        · rw [show validS b = true from decide_eq_true h] at hBB; cases hBB
      rw [hBB] at hvb
      clear hq hA hBB
      go_enter Try.func33, Try.ntmps33
      go_wp2_with fail
      generalize (w.alloc (.cells #[.int .i64 a.off, .int .i64 a.per, .int .i64 a.len] 23)).alloc (.cells #[.int .i64 b.off, .int .i64 b.per, .int .i64 b.len] 23) = W0 at h0 ⊢
      refine (hva W0).mono ?_
      rintro e W1 ⟨rfl, hb1⟩
      have h1 := h0.next hb1
      clear h0 hb1 hva
      obtain ⟨⟨c0, c1, c2⟩, d0, d1, d2⟩ := h1.cells
      go_wp2_with fail
      refine (hvb W1).mono ?_
      rintro e W2 ⟨rfl, hb2⟩
      have hB := (h1.next hb2).hb
      clear h1 hb2 hvb c0 c1 c2 d0 d1 d2
      go_wp2
      go_ret2
      exact ⟨rfl, hB⟩
    | true =>
      have hb := ok_of hBB
      rw [hBB] at hvb
      have hbo := fun W => refBoth_c a b W ha hb
      have hbv := bothV_is ha hb
      have hoa := fun t W => refOpen_c a t W ha
      have hob := fun t W => refOpen_c b t W hb
      have hlim : q.2 = true → q.1 < bothV a b + a.off + b.off := fun h => by
        rcases hq with ⟨rfl, _⟩ | ⟨_, _, _, h4⟩
        · cases h
        · exact h4.lt ha hb hbv.pos hbv.da hbv.db
      have hnb : ∀ t : Int, (q.2 = true → t < q.1) → ¬ bothS a b t := fun t h => by
        rcases hq with ⟨rfl, h'⟩ | ⟨h1, _, _, h4⟩
        · rw [hA, hBB] at h'
          simp only [Bool.true_eq_false, false_or] at h'
          exact h' t
        · exact h4.least t (h h1)
      have hyb : q.2 = true → bothS a b q.1 ∧ 0 ≤ q.1 := fun h => by
        rcases hq with ⟨rfl, _⟩ | ⟨_, _, _, h4⟩
        · cases h
        · exact ⟨h4.both, h4.nonneg⟩
      have hz : q.2 = false → q = (0, false) := fun h => by
        rcases hq with ⟨h', _⟩ | ⟨h1, _⟩
        · exact h'
        · rw [h] at h1; cases h1
      have hbp := hbv.pos
      have hbl := hbv.le
      have hppm : a.per * b.per ≤ 2000 * 2000 := Int.mul_le_mul ha.2.1 hb.2.1 (by have := hb.1; omega) (by omega)
      have Hlim := Lib.hid hlim
      have Hnb := Lib.hid hnb
      have Hyb := Lib.hid hyb
      have Hz := Lib.hid hz
      clear hq hA hBB hlim hnb hyb hz hbv
      generalize bothV a b = n at *
      have hn2 : n ≤ 4000000 := by omega
      obtain ⟨a1, a2, a3, a4, a5, a6⟩ := ha
      obtain ⟨b1, b2, b3, b4, b5, b6⟩ := hb
      go_enter Try.func33, Try.ntmps33
      go_wp2_with fail
      generalize (w.alloc (.cells #[.int .i64 a.off, .int .i64 a.per, .int .i64 a.len] 23)).alloc (.cells #[.int .i64 b.off, .int .i64 b.per, .int .i64 b.len] 23) = W0 at h0 ⊢
      refine (hva W0).mono ?_
      rintro e W1 ⟨rfl, hb1⟩
      have h1 := h0.next hb1
      clear h0 hb1 hva
      obtain ⟨⟨c0, c1, c2⟩, d0, d1, d2⟩ := h1.cells
      go_wp2_with fail
      refine (hvb W1).mono ?_
      rintro e W2 ⟨rfl, hb2⟩
      have h2 := h1.next hb2
      clear h1 hb2 hvb c0 c1 c2 d0 d1 d2
      obtain ⟨⟨c0, c1, c2⟩, d0, d1, d2⟩ := h2.cells
      obtain ⟨⟨c0, c1, c2⟩, d0, d1, d2⟩ := (h2.next (Below.refl _ _)).cells
      go_wp2_with fail
      have z1 := h2.ba.lt
      have z2 := h2.bb.lt
      have m1 : IntKind.i64.wrap (n + a.off) = n + a.off := IntWalk.i64_in _ (by omega)
      have m2 : IntKind.i64.wrap (n + a.off + b.off) = n + a.off + b.off := IntWalk.i64_in _ (by omega)
      have hec := ext_cell W2
      refine wp_region_ext (by kernel_rfl) (by kernel_rfl) ?_
      repeat (go_big_quiet_step ((go_at_call 55; exact ext_call (hbo _))))
      refine wpQuiet_nil ?_
      rintro w' ⟨x, rfl⟩
      have hX0 := h2.next x.h
      clear hec hbo m1 m2 h2 c0 c1 c2 d0 d1 d2 z1 z2
      generalize x.w = W3 at hX0 ⊢
      have hE0 : 0 ≤ n + a.off + b.off := by omega
      have hE1 : n + a.off + b.off ≤ 4004000 := by omega
      generalize n + a.off + b.off = E at Hlim hE0 hE1 ⊢
      obtain ⟨En, rfl⟩ := Int.eq_ofNat_of_zero_le hE0
      obtain ⟨q1, q2⟩ := q
      simp only at *
      go_wp2_with fail
      go_loopw [7] (fun t wr => ∃ k : Nat, k ≤ En ∧ t = .int .i64 k ∧ BY w a b wr ∧ Hid (q2 = true → (k : Int) ≤ q1)) (fun t _ => En - (intOf t).toNat)
      case atStart => exact ⟨0, by omega, rfl, hX0, fun h => (Hyb.out h).2⟩
      case round =>
        clear hX0
        obtain ⟨k, hk, rfl, hX, hle⟩ := hrel
        by_cases hkE : k < En
        · obtain ⟨⟨c0, c1, c2⟩, d0, d1, d2⟩ := hX.cells
          have ca := hoa k wr (by omega) (by omega)
          have cb := fun W => hob k W (by omega) (by omega)
          by_cases hboth : bothS a b k
          · have hq2 : q2 = true ∧ (k : Int) = q1 := by
              cases q2 with
              | false => exact absurd hboth (Hnb.out k (fun h => by cases h))
              | true =>
                refine ⟨rfl, ?_⟩
                have h1 := hle.out rfl
                rcases Int.lt_or_le (k : Int) q1 with h | h
                · exact absurd hboth (Hnb.out k (fun _ => h))
                · omega
            obtain ⟨rfl, hkq⟩ := hq2
            have Hkq := Lib.hid hkq
            rw [show openB a k = true from decide_eq_true hboth.1] at ca
            rw [show openB b k = true from decide_eq_true hboth.2] at cb
            clear hboth hkq
            go_wp2_with fail
            refine ca.mono ?_
            rintro e w1 ⟨rfl, hb1⟩
            have hX1 := hX.next hb1
            clear ca hX hb1 c0 c1 c2 d0 d1 d2
            obtain ⟨⟨c0, c1, c2⟩, d0, d1, d2⟩ := hX1.cells
            go_wp2_with fail
            refine (cb w1).mono ?_
            rintro e w2 ⟨rfl, hb2⟩
            have hB := (hX1.next hb2).hb
            clear cb hX1 hb2 c0 c1 c2 d0 d1 d2
            go_wp2
            go_ret2
            exact ⟨by rw [← Hkq.out]; rfl, hB⟩
          · have Hle : Hid (q2 = true → ((k + 1 : Nat) : Int) ≤ q1) := fun h => by
              have h1 := hle.out h
              have h2 : (k : Int) ≠ q1 := fun e => hboth (by rw [e]; exact (Hyb.out h).1)
              omega
            cases hoA : openB a k with
            | false =>
              rw [hoA] at ca
              clear hboth
              go_wp2_with fail
              refine ca.mono ?_
              rintro e w1 ⟨rfl, hb1⟩
              have hX1 := hX.next hb1
              clear ca hX hb1 c0 c1 c2 d0 d1 d2
              go_wp2
              go_roundw
              case rel => exact ⟨k + 1, by omega, by go_num, hX1, Hle⟩
              case measure => simp [intOf]; omega
            | true =>
              have hoB : openB b k = false := by
                cases hh : openB b k with
                | false => rfl
                | true => exact absurd ⟨of_decide_eq_true hoA, of_decide_eq_true hh⟩ hboth
              rw [hoA] at ca
              rw [hoB] at cb
              clear hboth hoA hoB
              go_wp2_with fail
              refine ca.mono ?_
              rintro e w1 ⟨rfl, hb1⟩
              have hX1 := hX.next hb1
              clear ca hX hb1 c0 c1 c2 d0 d1 d2
              obtain ⟨⟨c0, c1, c2⟩, d0, d1, d2⟩ := hX1.cells
              go_wp2_with fail
              refine (cb w1).mono ?_
              rintro e w2 ⟨rfl, hb2⟩
              have hX2 := hX1.next hb2
              clear cb hX1 hb2 c0 c1 c2 d0 d1 d2
              go_wp2
              go_roundw
              case rel => exact ⟨k + 1, by omega, by go_num, hX2, Hle⟩
              case measure => simp [intOf]; omega
        · obtain rfl : k = En := by omega
          have hq2 : q2 = false := by
            cases q2 with
            | false => rfl
            | true => have := Hlim.out rfl; have := hle.out rfl; omega
          subst hq2
          have Hq := Lib.hid (Hz.out rfl)
          have hB := hX.hb
          go_wp2
          go_ret2
          have := Hq.out
          injection this with e1 e2
          exact ⟨by rw [e1]; rfl, hB⟩

theorem disj_q {a b : Slot} {q : Int × Bool} (hq : MeetV a b q) : (validS a && validS b && !q.2) = disjB a b := by
  rcases hq with ⟨rfl, h⟩ | ⟨h1, ha, hb, hM⟩
  · cases hA : validS a with
    | false => simp [disjB, hA]
    | true =>
      cases hB : validS b with
      | false => simp [disjB, hB]
      | true =>
        rw [hA, hB] at h
        simp only [Bool.true_eq_false, false_or] at h
        rw [(disj_iff (ok_of hA) (ok_of hB)).2 h]; rfl
  · rw [h1]
    have : disjB a b = false := by
      cases hh : disjB a b with
      | false => rfl
      | true => exact absurd hM.both ((disj_iff ha hb).1 hh _)
    rw [this]; simp
end Go.Proofs.Ytlmbffnmjfbglaa
