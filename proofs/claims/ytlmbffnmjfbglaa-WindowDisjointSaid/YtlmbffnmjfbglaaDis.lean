/- WindowDisjoint: for any two slots, the statement's call returns true and leaves its arguments alone. -/
import Derived.Test.YtlmbffnmjfbglaaC0
import Derived.Test.YtlmbffnmjfbglaaD0
namespace Go.Proofs.Ytlmbffnmjfbglaa
open Go.ChangeShapes Go.WideShapes Go.ChangeAt Go.RowKit

theorem g_dvd {a b : Slot} (ha : a.ok) (hb : b.ok) : Slot.g a b ∣ a.per ∧ Slot.g a b ∣ b.per := by
  refine ⟨?_, ?_⟩
  · have := Int.natCast_dvd_natCast.2 (Nat.gcd_dvd_left a.per.toNat b.per.toNat)
    rwa [Int.toNat_of_nonneg (by have := ha.1; omega)] at this
  · have := Int.natCast_dvd_natCast.2 (Nat.gcd_dvd_right a.per.toNat b.per.toNat)
    rwa [Int.toNat_of_nonneg (by have := hb.1; omega)] at this

/-- the state of the law behind the calls: the two slots in their boxes. -/
structure BX (w : World) (a b : Slot) (W : World) : Prop where
  ba : Blk W w.heap.size 23 #[.int .i64 a.off, .int .i64 a.per, .int .i64 a.len]
  bb : Blk W (w.heap.size + 1) 23 #[.int .i64 b.off, .int .i64 b.per, .int .i64 b.len]
  hb : Below w.heap.size w W
theorem BX.next {w : World} {a b : Slot} {W W' : World} (h : BX w a b W) (hb : Below W.heap.size W W') : BX w a b W' :=
  ⟨h.ba.below hb h.ba.lt, h.bb.below hb h.bb.lt, h.hb.trans (hb.mono h.hb.size)⟩
theorem BX.drewN {w : World} {a b : Slot} {W : World} (h : BX w a b W) (n : Nat) : BX w a b (W.drewN n) := ⟨h.ba.drewN n, h.bb.drewN n, below_drewN h.hb n⟩
theorem BX.start (w : World) (a b : Slot) : BX w a b ((w.alloc (.cells #[.int .i64 a.off, .int .i64 a.per, .int .i64 a.len] 23)).alloc (.cells #[.int .i64 b.off, .int .i64 b.per, .int .i64 b.len] 23)) := by
  have b1 := Blk.new (w.alloc (.cells #[.int .i64 a.off, .int .i64 a.per, .int .i64 a.len] 23)) 23 #[.int .i64 b.off, .int .i64 b.per, .int .i64 b.len]
  rw [World.size_alloc] at b1
  exact ⟨(Blk.new _ _ _).alloc _, b1, ((Below.refl _ _).alloc (Nat.le_refl _) _).alloc (by simp) _⟩
theorem BX.cells {w : World} {a b : Slot} {W : World} (h : BX w a b W) :
    (W.cell? ⟨w.heap.size, 0, none⟩ = some (.int .i64 a.off) ∧ W.cell? ⟨w.heap.size, 1, none⟩ = some (.int .i64 a.per) ∧ W.cell? ⟨w.heap.size, 2, none⟩ = some (.int .i64 a.len)) ∧
    (W.cell? ⟨w.heap.size + 1, 0, none⟩ = some (.int .i64 b.off) ∧ W.cell? ⟨w.heap.size + 1, 1, none⟩ = some (.int .i64 b.per) ∧ W.cell? ⟨w.heap.size + 1, 2, none⟩ = some (.int .i64 b.len)) :=
  ⟨⟨h.ba.cell 0, h.ba.cell 1, h.ba.cell 2⟩, h.bb.cell 0, h.bb.cell 1, h.bb.cell 2⟩

set_option maxRecDepth 100000 in
set_option maxHeartbeats 2000000 in
theorem dis_no (a b : Slot) (w : World) (h : ¬ (a.ok ∧ b.ok)) :
    Calls Try.prog 5 #[.agg #[.int .i64 a.off, .int .i64 a.per, .int .i64 a.len], .agg #[.int .i64 b.off, .int .i64 b.per, .int .i64 b.len]] w fun e w' => e = .returned (.bool true) ∧ Below w.heap.size w w' := by
  have haw := fun W => awake_c W
  have hva := fun W => valid_c a W
  have hvb := fun W => valid_c b W
  have hdj := fun W => disj_c a b W
  have hq : MeetV a b (0, false) := .inl ⟨rfl, by
    by_cases ha : a.ok
    · by_cases hb : b.ok
      · exact absurd ⟨ha, hb⟩ h
      · exact .inr (.inl (decide_eq_false hb))
    · exact .inl (decide_eq_false ha)⟩
  have hme := fun W => meet_c a b (0, false) hq W
  have hvv : validS a = false ∨ validS b = false := by
    by_cases ha : a.ok
    · by_cases hb : b.ok
      · exact absurd ⟨ha, hb⟩ h
      · exact .inr (decide_eq_false hb)
    · exact .inl (decide_eq_false ha)
  have hdf : disjB a b = false := by rcases hvv with e | e <;> simp [disjB, e]
  rw [hdf] at hdj
  have h0 := BX.start w a b
  clear h hq hdf
  go_enter Try.func5, Try.ntmps5
  go_wp2_with fail
  generalize (w.alloc (.cells #[.int .i64 a.off, .int .i64 a.per, .int .i64 a.len] 23)).alloc (.cells #[.int .i64 b.off, .int .i64 b.per, .int .i64 b.len] 23) = W0 at h0 ⊢
  refine (haw W0).mono ?_
  rintro e W1 ⟨rfl, hb1⟩
  have h1 := h0.next hb1
  clear h0 hb1 haw
  obtain ⟨⟨c0, c1, c2⟩, d0, d1, d2⟩ := h1.cells
  go_wp2_with fail
  refine (hdj W1).mono ?_
  rintro e W2 ⟨rfl, hb2⟩
  have h2 := h1.next hb2
  clear h1 hb2 hdj c0 c1 c2 d0 d1 d2
  obtain ⟨⟨c0, c1, c2⟩, d0, d1, d2⟩ := h2.cells
  go_wp2_with fail
  refine (hme W2).mono ?_
  rintro e W3 ⟨rfl, hb3⟩
  have h3 := h2.next hb3
  clear h2 hb3 hme c0 c1 c2 d0 d1 d2
  obtain ⟨⟨c0, c1, c2⟩, d0, d1, d2⟩ := h3.cells
  go_wp2_with fail
  cases hA : validS a with
  | false =>
    rw [hA] at hva
    clear hvv hA
    refine (hva W3).mono ?_
    rintro e W4 ⟨rfl, hb4⟩
    have hB := (h3.next hb4).hb
    clear h3 hb4 hva hvb c0 c1 c2 d0 d1 d2
    go_wp2
    go_ret
    exact ⟨rfl, hB⟩
  | true =>
    obtain hB0 : validS b = false := by simpa [hA] using hvv
    rw [hA] at hva
    rw [hB0] at hvb
    clear hvv hA hB0
    refine (hva W3).mono ?_
    rintro e W4 ⟨rfl, hb4⟩
    have h4 := h3.next hb4
    clear h3 hb4 hva c0 c1 c2 d0 d1 d2
    obtain ⟨⟨c0, c1, c2⟩, d0, d1, d2⟩ := h4.cells
    go_wp2_with fail
    refine (hvb W4).mono ?_
    rintro e W5 ⟨rfl, hb5⟩
    have hB := (h4.next hb5).hb
    clear h4 hb5 hvb c0 c1 c2 d0 d1 d2
    go_wp2
    go_ret
    exact ⟨rfl, hB⟩

set_option maxRecDepth 100000 in
set_option maxHeartbeats 2000000 in
theorem dis_yes (a b : Slot) (w : World) (ha : a.ok) (hb : b.ok) :
    Calls Try.prog 5 #[.agg #[.int .i64 a.off, .int .i64 a.per, .int .i64 a.len], .agg #[.int .i64 b.off, .int .i64 b.per, .int .i64 b.len]] w fun e w' => e = .returned (.bool true) ∧ Below w.heap.size w w' := by
  have haw := fun W => awake_c W
  have hva : ∀ W, _ := fun W => valid_c a W
  have hvb : ∀ W, _ := fun W => valid_c b W
  rw [show validS a = true from decide_eq_true ha] at hva
  rw [show validS b = true from decide_eq_true hb] at hvb
  have hdj := fun W => disj_c a b W
  have hap : disjB a b = apartB a b := by simp [disjB, validS, ha, hb]
  rw [hap] at hdj
  obtain ⟨q, hq⟩ := meet_ex a b
  have hme := fun W => meet_c a b q hq W
  have hoa := fun t W => open_c a t W ha
  have hob := fun t W => open_c b t W hb
  have hg := g_pos (b := b) ha
  have hcom : ∀ W, Calls Try.prog 23 #[.int .i64 a.per, .int .i64 b.per] W fun e w' => e = .returned (.int .i64 (Slot.g a b)) ∧ W = w' := fun W => by
    have := common_c a.per.toNat b.per.toNat (by have := ha.1; omega) (by have := ha.2.1; omega) (by have := hb.2.1; omega) W
    rwa [Int.toNat_of_nonneg (by have := ha.1; omega), Int.toNat_of_nonneg (by have := hb.1; omega)] at this
  obtain ⟨hga, hgb⟩ := g_dvd ha hb
  have hde : Slot.d a b = (b.off - a.off + 2 * a.per * b.per) % Slot.g a b := by
    obtain ⟨u, hu⟩ := hgb
    have : b.off - a.off + 2 * a.per * b.per = (b.off - a.off) + Slot.g a b * (2 * a.per * u) := by
      have e : Slot.g a b * (2 * a.per * u) = 2 * a.per * b.per := by
        rw [hu, ← Int.mul_assoc, ← Int.mul_assoc (2 * a.per), Int.mul_comm (Slot.g a b)]
      omega
    rw [this, Int.add_mul_emod_self_left]; rfl
  have hpp0 : a.per * 1 ≤ a.per * b.per := Int.mul_le_mul_of_nonneg_left hb.1 (by have := ha.1; omega)
  have hpp1 : a.per * b.per ≤ 2000 * 2000 := Int.mul_le_mul ha.2.1 hb.2.1 (by have := hb.1; omega) (by omega)
  have hpe : 2 * a.per * b.per = 2 * (a.per * b.per) := Int.mul_assoc _ _ _
  have hP0 : a.off ≤ 2 * a.per * b.per := by have := ha.2.2.2.2.2; have := ha.2.2.1; have := ha.1; omega
  have hP1 : 2 * a.per * b.per ≤ 8000000 := by omega
  have hP2 : 2 ≤ 2 * a.per * b.per := by have := ha.1; omega
  have h0 := BX.start w a b
  have hno : apartB a b = true → ∀ t, ¬ bothS a b t := apart_true ha hb
  have hres : apartB a b = (decide (a.len ≤ Slot.d a b) && decide (Slot.d a b + b.len ≤ Slot.g a b)) := rfl
  have hqq : (apartB a b = true ∧ q = (0, false)) ∨ (apartB a b = false ∧ q.2 = true ∧ MeetAt a b q.1 ∧ q.1 < 5000000) := by
    rcases hq with ⟨rfl, h⟩ | ⟨h1, _, _, h4⟩
    · rw [show validS a = true from decide_eq_true ha, show validS b = true from decide_eq_true hb] at h
      simp only [Bool.true_eq_false, false_or] at h
      refine .inl ⟨?_, rfl⟩
      rw [← hap]; exact (disj_iff ha hb).2 h
    · refine .inr ⟨?_, h1, h4, ?_⟩
      · cases hh : apartB a b with
        | false => rfl
        | true => exact absurd h4.both (hno hh _)
      · have := h4.lt ha hb (by omega) (Int.dvd_mul_right a.per b.per) (Int.dvd_mul_left a.per b.per)
        have := ha.2.2.2.2.2; have := ha.2.1; have := ha.2.2.1; have := hb.2.2.2.2.2; have := hb.2.1; have := hb.2.2.1
        omega
  have hd0 : 0 ≤ Slot.d a b := Int.emod_nonneg _ (by omega)
  have hd1 : Slot.d a b < Slot.g a b := Int.emod_lt_of_pos _ (by omega)
  have hqb0 : 0 ≤ a.per / Slot.g a b * b.per := Int.mul_nonneg (Int.ediv_nonneg (by have := ha.1; omega) (by omega)) (by have := hb.1; omega)
  have hqb1 : a.per / Slot.g a b * b.per ≤ 2000 * 2000 := Int.mul_le_mul (by have := Int.ediv_le_self (Slot.g a b) (show 0 ≤ a.per by have := ha.1; omega); have := ha.2.1; omega) hb.2.1 (by have := hb.1; omega) (by omega)
  have hdv0 : 0 ≤ a.per / Slot.g a b := Int.ediv_nonneg (by have := ha.1; omega) (by omega)
  have hdv1 : a.per / Slot.g a b ≤ 2000 := by have := Int.ediv_le_self (Slot.g a b) (show 0 ≤ a.per by have := ha.1; omega); have := ha.2.1; omega
  -- the loop, for either kind of end
  have Hde := Lib.hid hde
  have Hno := Lib.hid hno
  have Hres := Lib.hid hres
  clear hde hno hres hap hpe hq hga hgb
  obtain ⟨a1, a2, a3, a4, a5, a6⟩ := ha
  obtain ⟨b1, b2, b3, b4, b5, b6⟩ := hb
  generalize apartB a b = ap at *
  generalize Slot.g a b = g at *
  generalize Slot.d a b = d at *
  go_enter Try.func5, Try.ntmps5
  go_wp2_with fail
  generalize (w.alloc (.cells #[.int .i64 a.off, .int .i64 a.per, .int .i64 a.len] 23)).alloc (.cells #[.int .i64 b.off, .int .i64 b.per, .int .i64 b.len] 23) = W0 at h0 ⊢
  refine (haw W0).mono ?_
  rintro e W1 ⟨rfl, hb1⟩
  have h1 := h0.next hb1
  clear h0 hb1 haw
  obtain ⟨⟨c0, c1, c2⟩, d0, d1, d2⟩ := h1.cells
  go_wp2_with fail
  refine (hdj W1).mono ?_
  rintro e W2 ⟨rfl, hb2⟩
  have h2 := h1.next hb2
  clear h1 hb2 hdj c0 c1 c2 d0 d1 d2
  obtain ⟨⟨c0, c1, c2⟩, d0, d1, d2⟩ := h2.cells
  go_wp2_with fail
  refine (hme W2).mono ?_
  rintro e W3 ⟨rfl, hb3⟩
  have h3 := h2.next hb3
  clear h2 hb3 hme c0 c1 c2 d0 d1 d2
  obtain ⟨⟨c0, c1, c2⟩, d0, d1, d2⟩ := h3.cells
  go_wp2_with fail
  refine (hva W3).mono ?_
  rintro e W4 ⟨rfl, hb4⟩
  have h4 := h3.next hb4
  clear h3 hb4 hva c0 c1 c2 d0 d1 d2
  obtain ⟨⟨c0, c1, c2⟩, d0, d1, d2⟩ := h4.cells
  go_wp2_with fail
  refine (hvb W4).mono ?_
  rintro e W5 ⟨rfl, hb5⟩
  have h5 := h4.next hb5
  clear h4 hb5 hvb c0 c1 c2 d0 d1 d2
  obtain ⟨⟨c0, c1, c2⟩, d0, d1, d2⟩ := h5.cells
  go_wp2_with fail
  refine (hcom W5).mono ?_
  rintro e W6 ⟨rfl, rfl⟩
  clear hcom hpp0 hpp1
  have hde := Hde.out.symm
  obtain ⟨M, hM1, hM2⟩ : ∃ M : Nat, (M : Int) ≤ 30000 ∧ (30000 : Int) ≤ M := ⟨30000, by omega, by omega⟩
  rcases hqq with ⟨rfl, rfl⟩ | ⟨rfl, hq2, hM, hqB⟩
  · have hr := Hres.out
    obtain ⟨r1, r2⟩ : a.len ≤ d ∧ d + b.len ≤ g := by simpa using hr.symm
    have D1 : decide (a.len ≤ d) = true := by simpa using r1
    have D2 : decide (d + b.len ≤ g) = true := by simpa using r2
    have hlt : Hid (∀ t : Int, t < a.per / g * b.per + a.off + b.off → ¬ bothS a b t) := fun t _ => Hno.out rfl t
    clear hr Hres Hno Hde
    simp only
    go_wp2_with fail
    have m1 : a.per.tdiv g = a.per / g := Int.tdiv_eq_ediv_of_nonneg (by omega)
    have m2 : IntKind.i64.wrap (a.per / g * b.per) = a.per / g * b.per := IntWalk.i64_in _ (by omega)
    have m3 : IntKind.i64.wrap (a.per / g * b.per + a.off) = a.per / g * b.per + a.off := IntWalk.i64_in _ (by omega)
    have m4 : IntKind.i64.wrap (a.per / g * b.per + a.off + b.off) = a.per / g * b.per + a.off + b.off := IntWalk.i64_in _ (by omega)
    have m0 : IntKind.i64.wrap (a.per / g) = a.per / g := IntWalk.i64_in _ (by omega)
    have g0 : g ≠ 0 := by omega
    go_quiet (fail)
    clear m0 m1 m2 m3 m4 hde
    have HB := fun n => h5.drewN n
    clear h5 c0 c1 c2 d0 d1 d2
    generalize a.per / g * b.per + a.off + b.off = T at hlt ⊢
    go_wp2_with fail
    refine nameW fun W7 hW7 => ?_
    replace HB : BX w a b W7 := by subst hW7; exact HB _
    clear hW7
    go_loopw [10] (fun t wr => ∃ k : Nat, k ≤ M ∧ t = .int .i64 k ∧ BX w a b wr) (fun t _ => M - (intOf t).toNat)
    case atStart => exact ⟨0, by omega, rfl, HB⟩
    case round =>
      clear HB
      obtain ⟨k, hk, rfl, hX⟩ := hrel
      by_cases hkT : (k : Int) < T
      · have dkT : decide ((k : Int) < T) = true := by simpa using hkT
        by_cases hk3 : (k : Int) < 30000
        · obtain ⟨⟨c0, c1, c2⟩, d0, d1, d2⟩ := hX.cells
          have ca := hoa k wr (by omega) (by omega)
          have hnb := hlt.out k hkT
          cases hoA : openB a k with
          | false =>
            rw [hoA] at ca
            clear hnb
            go_wp2_with fail
            refine ca.mono ?_
            rintro e w1 ⟨rfl, hb1⟩
            have hX1 := hX.next hb1
            clear ca hX hb1 c0 c1 c2 d0 d1 d2
            go_wp2
            go_roundw
            case rel => exact ⟨k + 1, by omega, by go_num, hX1⟩
            case measure => simp [intOf]; omega
          | true =>
            rw [hoA] at ca
            have hoB : openB b k = false := by
              cases hh : openB b k with
              | false => rfl
              | true => exact absurd ⟨of_decide_eq_true hoA, of_decide_eq_true hh⟩ hnb
            have cb := fun W => hob k W (by omega) (by omega)
            rw [hoB] at cb
            clear hnb hoA hoB
            go_wp2_with fail
            refine ca.mono ?_
            rintro e w1 ⟨rfl, hb1⟩
            have hX1 := hX.next hb1
            clear ca hX hb1 c0 c1 c2 d0 d1 d2
            obtain ⟨⟨c0, c1, c2⟩, d0, d1, d2⟩ := hX1.cells
            go_wp2_with fail
            refine (cb w1).mono ?_
            rintro e w2 ⟨rfl, hb2⟩
            have hX2 := hX1.next hb2
            clear cb hX1 hb2 c0 c1 c2 d0 d1 d2
            go_wp2
            go_roundw
            case rel => exact ⟨k + 1, by omega, by go_num, hX2⟩
            case measure => simp [intOf]; omega
        · have hB := hX.hb
          go_wp2
          go_ret
          exact ⟨rfl, hB⟩
      · have dkT : decide ((k : Int) < T) = false := by simpa using hkT
        have hB := hX.hb
        go_wp2
        go_ret
        exact ⟨rfl, hB⟩
  · have hr := Hres.out
    have e0 := hM.nonneg
    have hoA : openB a q.1 = true := decide_eq_true hM.both.1
    have hoB : openB b q.1 = true := decide_eq_true hM.both.2
    have hlt : Hid (∀ t : Int, t < q.1 → ¬ bothS a b t) := hM.least
    have ca := fun W => hoa q.1 W (by omega) (by omega)
    have cb := fun W => hob q.1 W (by omega) (by omega)
    rw [hoA] at ca
    rw [hoB] at cb
    obtain ⟨T, ok⟩ := q
    simp only at *
    subst hq2
    clear hoA hoB hM Hres Hno Hde
    have g0 : g ≠ 0 := by omega
    by_cases r1 : a.len ≤ d
    · have r2 : ¬ d + b.len ≤ g := by
        intro h
        rw [decide_eq_true r1, decide_eq_true h] at hr
        cases hr
      have D1 : decide (a.len ≤ d) = true := by simpa using r1
      have D2 : decide (d + b.len ≤ g) = false := by simpa using r2
      clear hr
      go_wp2_with fail
      refine (ca _).mono ?_
      rintro e w8 ⟨rfl, hb8⟩
      have h8 := h5.next hb8
      clear ca h5 hb8 c0 c1 c2 d0 d1 d2
      obtain ⟨⟨c0, c1, c2⟩, d0, d1, d2⟩ := h8.cells
      go_wp2_with fail
      refine (cb _).mono ?_
      rintro e w9 ⟨rfl, hb9⟩
      have HB := h8.next hb9
      clear cb h8 hb9 c0 c1 c2 d0 d1 d2
      go_wp2_with fail
      go_loopw [10] (fun t wr => ∃ k : Nat, k ≤ M ∧ t = .int .i64 k ∧ BX w a b wr) (fun t _ => M - (intOf t).toNat)
      case atStart => exact ⟨0, by omega, rfl, HB⟩
      case round =>
        clear HB
        obtain ⟨k, hk, rfl, hX⟩ := hrel
        by_cases hkT : (k : Int) < T
        · have dkT : decide ((k : Int) < T) = true := by simpa using hkT
          by_cases hk3 : (k : Int) < 30000
          · obtain ⟨⟨c0, c1, c2⟩, d0, d1, d2⟩ := hX.cells
            have ca := hoa k wr (by omega) (by omega)
            have hnb := hlt.out k hkT
            cases hoA : openB a k with
            | false =>
              rw [hoA] at ca
              clear hnb
              go_wp2_with fail
              refine ca.mono ?_
              rintro e w1 ⟨rfl, hb1⟩
              have hX1 := hX.next hb1
              clear ca hX hb1 c0 c1 c2 d0 d1 d2
              go_wp2
              go_roundw
              case rel => exact ⟨k + 1, by omega, by go_num, hX1⟩
              case measure => simp [intOf]; omega
            | true =>
              rw [hoA] at ca
              have hoB : openB b k = false := by
                cases hh : openB b k with
                | false => rfl
                | true => exact absurd ⟨of_decide_eq_true hoA, of_decide_eq_true hh⟩ hnb
              have cb := fun W => hob k W (by omega) (by omega)
              rw [hoB] at cb
              clear hnb hoA hoB
              go_wp2_with fail
              refine ca.mono ?_
              rintro e w1 ⟨rfl, hb1⟩
              have hX1 := hX.next hb1
              clear ca hX hb1 c0 c1 c2 d0 d1 d2
              obtain ⟨⟨c0, c1, c2⟩, d0, d1, d2⟩ := hX1.cells
              go_wp2_with fail
              refine (cb w1).mono ?_
              rintro e w2 ⟨rfl, hb2⟩
              have hX2 := hX1.next hb2
              clear cb hX1 hb2 c0 c1 c2 d0 d1 d2
              go_wp2
              go_roundw
              case rel => exact ⟨k + 1, by omega, by go_num, hX2⟩
              case measure => simp [intOf]; omega
          · have hB := hX.hb
            go_wp2
            go_ret
            exact ⟨rfl, hB⟩
        · have dkT : decide ((k : Int) < T) = false := by simpa using hkT
          have hB := hX.hb
          go_wp2
          go_ret
          exact ⟨rfl, hB⟩
    · have D1 : decide (a.len ≤ d) = false := by simpa using r1
      clear hr
      go_wp2_with fail
      refine (ca _).mono ?_
      rintro e w8 ⟨rfl, hb8⟩
      have h8 := h5.next hb8
      clear ca h5 hb8 c0 c1 c2 d0 d1 d2
      obtain ⟨⟨c0, c1, c2⟩, d0, d1, d2⟩ := h8.cells
      go_wp2_with fail
      refine (cb _).mono ?_
      rintro e w9 ⟨rfl, hb9⟩
      have HB := h8.next hb9
      clear cb h8 hb9 c0 c1 c2 d0 d1 d2
      go_wp2_with fail
      go_loopw [10] (fun t wr => ∃ k : Nat, k ≤ M ∧ t = .int .i64 k ∧ BX w a b wr) (fun t _ => M - (intOf t).toNat)
      case atStart => exact ⟨0, by omega, rfl, HB⟩
      case round =>
        clear HB
        obtain ⟨k, hk, rfl, hX⟩ := hrel
        by_cases hkT : (k : Int) < T
        · have dkT : decide ((k : Int) < T) = true := by simpa using hkT
          by_cases hk3 : (k : Int) < 30000
          · obtain ⟨⟨c0, c1, c2⟩, d0, d1, d2⟩ := hX.cells
            have ca := hoa k wr (by omega) (by omega)
            have hnb := hlt.out k hkT
            cases hoA : openB a k with
            | false =>
              rw [hoA] at ca
              clear hnb
              go_wp2_with fail
              refine ca.mono ?_
              rintro e w1 ⟨rfl, hb1⟩
              have hX1 := hX.next hb1
              clear ca hX hb1 c0 c1 c2 d0 d1 d2
              go_wp2
              go_roundw
              case rel => exact ⟨k + 1, by omega, by go_num, hX1⟩
              case measure => simp [intOf]; omega
            | true =>
              rw [hoA] at ca
              have hoB : openB b k = false := by
                cases hh : openB b k with
                | false => rfl
                | true => exact absurd ⟨of_decide_eq_true hoA, of_decide_eq_true hh⟩ hnb
              have cb := fun W => hob k W (by omega) (by omega)
              rw [hoB] at cb
              clear hnb hoA hoB
              go_wp2_with fail
              refine ca.mono ?_
              rintro e w1 ⟨rfl, hb1⟩
              have hX1 := hX.next hb1
              clear ca hX hb1 c0 c1 c2 d0 d1 d2
              obtain ⟨⟨c0, c1, c2⟩, d0, d1, d2⟩ := hX1.cells
              go_wp2_with fail
              refine (cb w1).mono ?_
              rintro e w2 ⟨rfl, hb2⟩
              have hX2 := hX1.next hb2
              clear cb hX1 hb2 c0 c1 c2 d0 d1 d2
              go_wp2
              go_roundw
              case rel => exact ⟨k + 1, by omega, by go_num, hX2⟩
              case measure => simp [intOf]; omega
          · have hB := hX.hb
            go_wp2
            go_ret
            exact ⟨rfl, hB⟩
        · have dkT : decide ((k : Int) < T) = false := by simpa using hkT
          have hB := hX.hb
          go_wp2
          go_ret
          exact ⟨rfl, hB⟩

theorem dis_walk (a b : Slot) (w : World) :
    Calls Try.prog 5 #[.agg #[.int .i64 a.off, .int .i64 a.per, .int .i64 a.len], .agg #[.int .i64 b.off, .int .i64 b.per, .int .i64 b.len]] w fun e w' => e = .returned (.bool true) ∧ Below w.heap.size w w' := by
  by_cases h : a.ok ∧ b.ok
  · exact dis_yes a b w h.1 h.2
  · exact dis_no a b w h

-- THE ROW
set_option maxRecDepth 100000 in
theorem windowDisjoint_lifted (os : Os) (started : os.Started) (H : Type) (enc : TypeId × Value → H) :
    ReturnsInHanded {} Try.checked os 5 .any (Rows.windowDisjointSpec.pre6 enc Try.prog Try.f5 Rows.windowDisjointRow.domain false) (Rows.windowDisjointSpec.post enc Try.prog Try.f5 false true false false) := by
  refine returnsInHanded_of_change (C := Try.checked) own started (by kernel_rfl) Try.func5
    (ChangeSpec.witness6 (enc := enc) (C := Try.checked) false ⟨#[], #[.agg #[.int .i64 0, .int .i64 0, .int .i64 0], .agg #[.int .i64 0, .int .i64 0, .int .i64 0]], []⟩ 8 (by kernel_rfl) (by kernel_rfl) (by kernel_rfl) (by kernel_rfl)) ?_
  intro W base args ds gs before hval0 hW hcnd _
  have hval : ∀ (j : Nat) t v, Try.f5.params[j]? = some t → args[j]? = some v → Value.okWide Try.prog W .any base t v := hval0
  have hW' := hW
  obtain ⟨p, q, hA0, hV, rfl, hfz, hnd⟩ := hW
  have hA : DataW.TrodAll enc Try.prog W 0 (fun _ => true) true Try.f5.params.toList args.toList ds p := hA0
  rw [Try.params5] at hA hval
  obtain ⟨v0, vs0, d0, ds0, p0, q0, hargs, rfl, rfl, h0, r0⟩ := trodAll_cons hA
  obtain ⟨v1, vs1, d1, ds1, p1, q1, rfl, rfl, rfl, h1, r1⟩ := trodAll_cons r0
  obtain ⟨rfl, rfl, rfl⟩ := trodAll_nil r1
  obtain rfl : args = #[v0, v1] := by cases args; simp_all
  obtain ⟨s0, rfl, hP0⟩ := open_slot (hval 0 23 v0 rfl rfl) h0
  obtain ⟨s1, rfl, hP1⟩ := open_slot (hval 1 23 v1 rfl rfl) h1
  clear hA0 hval0
  refine (dis_walk s0 s1 W).mono fun e W' ⟨he, hg⟩ => ?_
  subst he
  refine ⟨_, rfl, law_post (tb := 4) laid ?_ ?_ Try.underlying4 rfl hW' ⟨rfl, rfl, rfl⟩ hg⟩
  · rw [Try.params5]; intro t ht; simp at ht; subst ht; exact ⟨by kernel_rfl, of_decide_eq_true (by kernel_rfl)⟩
  · kernel_rfl

theorem windowDisjoint_holds : Rows.WindowDisjointSaid :=
  OpenClaim.holds_of_wide 5 Try.f5 rfl rfl rfl rfl rfl rfl rfl ⟨rfl, rfl, rfl, rfl, rfl⟩ rfl rfl rfl rfl rfl (by kernel_rfl) Try.func5 (by kernel_rfl)
    (of_decide_eq_true (by kernel_rfl)) (by unfold Func.isWrapper; first | (rw [if_pos (by decide +kernel)]; kernel_rfl) | (rw [if_neg (by decide +kernel)]; exact ⟨rfl, rfl⟩))
    (fun os started H enc _ => windowDisjoint_lifted os started H enc)
#print axioms windowDisjoint_holds
end Go.Proofs.Ytlmbffnmjfbglaa
