/- holds (16). -/
import Derived.Test.YtnbnkhockoflgaaGreatDoorJ16
import Derived.Test.YtnbnkhockoflgaaGreatDoorJ23
import Derived.Test.YtnbnkhockoflgaaGreatDoorJ04
set_option linter.unusedSimpArgs false
set_option linter.unusedVariables false
set_option linter.unusedSectionVars false
namespace Go.Proofs.YtnbnkhockoflgaaGreatDoor
open Go.ChangeShapes Go.WideShapes Go.ChangeAt Go.RowKit
attribute [local go_sem] Oper.semAt_some

theorem below_cell0 {w w' : World} {p : Addr} {v : Value} (h : Below w.heap.size w w') (hc : w.cell? p = some v) : w'.cell? p = some v := (h.cell (World.block_lt_of_cell? _ _ hc)).trans hc
theorem memB_take {α : Type} [DecidableEq α] (x : α) (l : List α) (m : Nat) (h : m < l.length) : memB x (l.take (m + 1)) = (memB x (l.take m) || decide (l[m] = x)) := by
  unfold memB
  rw [List.take_succ_eq_append_getElem h, Bool.eq_iff_iff]
  simp only [List.mem_append, List.mem_singleton, decide_eq_true_eq, Bool.or_eq_true]
  constructor
  · rintro (h | h); exact .inl h; exact .inr h.symm
  · rintro (h | h); exact .inl h; exact .inr h.symm
set_option maxRecDepth 100000 in
set_option maxHeartbeats 4000000 in
theorem lawHolds_c (x : CsV) (reps : List Rep) (us : List ByteArray) (A1 : Option Addr) (c1 : Nat) (A2 : Option Addr) (c2 : Nat) (w : World) (hx : x.rd w w.heap.size) (hr : RdRep w w.heap.size A1 reps) (hs : RdStr w w.heap.size A2 us)
    (hl : reps.length ≤ 100000000) (hn : x.c.needs.length ≤ 1000) (he : x.c.excl.length ≤ 1000) (hu : us.length ≤ 100000000) :
    Calls Tryz.prog 16 #[x.val, .slice A1 reps.length c1, .slice A2 us.length c2] w fun e w' => e = .returned (.bool (holdB reps us x.c)) ∧ Below w.heap.size w w' := by
  obtain ⟨w1, hw1⟩ : ∃ w1, w1 = w.alloc (.cells #[.string x.c.unit, .slice x.n.a x.n.n x.n.c, .slice x.x.a x.x.n x.x.c] 33) := ⟨_, rfl⟩
  have hB1 : Below w.heap.size w w1 := by rw [hw1]; exact (Below.refl _ _).alloc (Nat.le_refl _) _
  have hbx : Blk w1 w.heap.size 33 #[.string x.c.unit, .slice x.n.a x.n.n x.n.c, .slice x.x.a x.x.n x.x.c] := by rw [hw1]; exact Blk.new w _ _
  have hx1 : x.rd w1 w1.heap.size := hx.below hB1
  have hr1 := hr.below hB1
  have hs1 := hs.below hB1
  have hnl := hx.nl
  have hxl := hx.xl
  have hall : holdB reps us x.c = ((x.c.needs.all fun r => memB r reps) && (x.c.excl.all fun u => !memB u us)) := rfl
  generalize holdB reps us x.c = res at *
  have Hx := Lib.hid hx1
  have Hr := Lib.hid hr1
  have Hs := Lib.hid hs1
  have Hbx := Lib.hid hbx
  have HB1 := Lib.hid hB1
  have Hw1 := Lib.hid hw1
  have Hall := Lib.hid hall
  clear hx hr hs hx1 hr1 hs1 hbx hB1 hw1 hall
  rw [hnl] at Hbx Hw1
  rw [hxl] at Hbx Hw1
  unfold CsV.val
  rw [hnl, hxl]
  have b1 : w1.cell? ⟨w.heap.size, 1, none⟩ = some (.slice x.n.a x.c.needs.length x.n.c) := Hbx.out.cell 1
  go_enter Tryz.func16, Tryz.ntmps16
  go_wp2_with fail
  rw [← Hw1.out]
  clear Hw1
  go_loopw [17] (fun t wr => ∃ k : Nat, k ≤ x.c.needs.length ∧ t = .int .i64 k ∧ Below w1.heap.size w1 wr ∧ Hid (∀ j (h : j < x.c.needs.length), j < k → memB x.c.needs[j] reps = true)) (fun t wr => x.c.needs.length - (intOf t).toNat)
  case atStart => exact ⟨0, Nat.zero_le _, rfl, Below.refl _ _, fun j _ h => absurd h (by omega)⟩
  case round =>
    obtain ⟨k, hk, rfl, hb, hdone⟩ := hrel
    by_cases hlt : k < x.c.needs.length
    · obtain ⟨bo, oo, hA, hbo, hc⟩ := (Hx.out.n.below hb) (by omega)
      obtain ⟨d0, d1⟩ := hc k hlt
      rw [hA] at b1
      have hbad : memB x.c.needs[k] reps = false → res = false := fun hq => by
        rw [Hall.out, List.all_eq_false.2 ⟨x.c.needs[k], List.getElem_mem hlt, by simp [hq]⟩, Bool.false_and]
      have hnext : memB x.c.needs[k] reps = true → ∀ j (h : j < x.c.needs.length), j < k + 1 → memB x.c.needs[j] reps = true := fun hq => forall_succ (p := fun r => memB r reps = true) hdone.out hq
      have Hbad := Lib.hid hbad
      have Hnext := Lib.hid hnext
      have HBr := Lib.hid hb
      have hzr := hb.size
      clear hc hbad hnext hdone hb
      generalize x.c.needs[k] = r at *
      obtain ⟨w2, hw2⟩ : ∃ w2, w2 = wr.alloc (.cells #[.string r.unit, .int .i64 r.code] 46) := ⟨_, rfl⟩
      have hB2 : Below wr.heap.size wr w2 := by rw [hw2]; exact (Below.refl _ _).alloc (Nat.le_refl _) _
      have hbr : Blk w2 wr.heap.size 46 #[.string r.unit, .int .i64 r.code] := by rw [hw2]; exact Blk.new wr _ _
      have HB2 := Lib.hid hB2
      have Hbr := Lib.hid hbr
      have Hw2 := Lib.hid hw2
      clear hB2 hbr hw2
      go_wp2_with fail
      rw [← Hw2.out]
      clear Hw2 d0 d1
      have HB0 := Lib.hid (HBr.out.trans (HB2.out.mono HBr.out.size))
      clear HB2 HBr hA hbo hzr
      generalize wr.heap.size = gz at *
      clear wr
      go_loopw [9, 23] (fun v t wr => ∃ m : Nat, m ≤ reps.length ∧ t = .int .i64 m ∧ v = .bool (memB r (reps.take m)) ∧ Below w2.heap.size w2 wr) (fun _ t wr => reps.length - (intOf t).toNat)
      case atStart => exact ⟨0, Nat.zero_le _, rfl, by simp [memB], Below.refl _ _⟩
      case round =>
        obtain ⟨m, hm, rfl, rfl, hbm⟩ := hrel
        have HBm := Lib.hid hbm
        have hz1 := HB0.out.size
        have hz2 := hbm.size
        clear hbm
        by_cases hlm : m < reps.length
        · obtain ⟨bp, op, hAp, hbp, hcp⟩ := (Hr.out.below (HB0.out.trans (HBm.out.mono HB0.out.size))) (by omega)
          obtain ⟨p0, p1⟩ := hcp m hlm
          subst hAp
          have htk := memB_take r reps m hlm
          have Htk := Lib.hid htk
          have hbr := Hbr.out.below HBm.out Hbr.out.lt
          have r0 : wr.cell? ⟨gz, 0, none⟩ = some (.string r.unit) := hbr.cell 0
          have r1 : wr.cell? ⟨gz, 1, none⟩ = some (.int .i64 r.code) := hbr.cell 1
          have hgz := hbr.lt
          clear hcp htk hbr
          generalize memB r (reps.take m) = v at *
          generalize reps[m] = y at *
          obtain ⟨w3, hw3⟩ : ∃ w3, w3 = wr.alloc (.cells #[.string y.unit, .int .i64 y.code] 46) := ⟨_, rfl⟩
          have hB3 : Below wr.heap.size wr w3 := by rw [hw3]; exact (Below.refl _ _).alloc (Nat.le_refl _) _
          have hby : Blk w3 wr.heap.size 46 #[.string y.unit, .int .i64 y.code] := by rw [hw3]; exact Blk.new wr _ _
          have y0 : w3.cell? ⟨wr.heap.size, 0, none⟩ = some (.string y.unit) := hby.cell 0
          have y1 : w3.cell? ⟨wr.heap.size, 1, none⟩ = some (.int .i64 y.code) := hby.cell 1
          have s0 : w3.cell? ⟨gz, 0, none⟩ = some (.string r.unit) := below_cell0 hB3 r0
          have s1 : w3.cell? ⟨gz, 1, none⟩ = some (.int .i64 r.code) := below_cell0 hB3 r1
          have HB3 := Lib.hid (HBm.out.trans (hB3.mono HBm.out.size))
          have Hw3 := Lib.hid hw3
          clear hw3 hB3 hby HBm
          cases v with
          | true =>
            have hf := Lib.hid (Htk.out.trans (Bool.true_or _))
            clear Htk
            go_wp2_with fail
            rw [← Hw3.out]
            go_roundw
            case rel => exact ⟨m + 1, by omega, by go_num, by rw [hf.out], HB3.out⟩
            case measure => simp [intOf]; omega
          | false =>
            have hqk := rep_eql y r
            have hgk := fun a b => rep_guard y r a b
            have hf := Lib.hid (Htk.out.trans (Bool.false_or _))
            clear Htk
            go_wp2_with fail
            rw [← Hw3.out]
            first | go_quiet (fail) | skip
            go_wp2_with fail
            go_roundw
            case rel => exact ⟨m + 1, by omega, by go_num, by rw [hf.out], HB3.out⟩
            case measure => simp [intOf]; omega
        · obtain rfl : m = reps.length := by omega
          have hB9 := Lib.hid (HB0.out.trans (HBm.out.mono HB0.out.size))
          rw [List.take_length]
          clear HBm
          cases hq : memB r reps with
          | true =>
            have hnx := Lib.hid (Hnext.out hq)
            clear Hbad Hnext
            go_wp2_with fail
            go_roundw
            case rel => exact ⟨k + 1, by omega, by go_num, hB9.out, hnx⟩
            case measure => simp [intOf]; omega
          | false =>
            have hrs := Lib.hid (Hbad.out hq)
            clear Hbad Hnext
            go_wp2_with fail
            go_ret
            exact ⟨ret_bool hrs.out.symm, HB1.out.trans (hB9.out.mono HB1.out.size)⟩
    · obtain rfl : k = x.c.needs.length := by omega
      have hnds : (x.c.needs.all fun r => memB r reps) = true := List.all_eq_true.2 fun r hr => by
        obtain ⟨j, hj, rfl⟩ := List.mem_iff_getElem.1 hr
        exact hdone.out j hj hj
      have Hal := Lib.hid (Hall.out.trans (by rw [hnds, Bool.true_and]))
      have b2 : wr.cell? ⟨w.heap.size, 2, none⟩ = some (.slice x.x.a x.c.excl.length x.x.c) := (Hbx.out.below hb Hbx.out.lt).cell 2
      have HBr := Lib.hid hb
      clear hdone hb hnds
      go_wp2_with fail
      have hs9 := (Hs.out.below HBr.out)
      have Hs9 := Lib.hid hs9
      have HBw := Lib.hid (HB1.out.trans (HBr.out.mono HB1.out.size))
      have hxx := Lib.hid (Hx.out.x.below HBr.out)
      clear hs9 HBr Hx Hr Hs Hbx HB1 b1 b2
      generalize wr = w4 at *
      go_loopw [40] (fun t wr => ∃ k : Nat, k ≤ x.c.excl.length ∧ t = .int .i64 k ∧ wr = w4 ∧ Hid (∀ j (h : j < x.c.excl.length), j < k → memB x.c.excl[j] us = false)) (fun t wr => x.c.excl.length - (intOf t).toNat)
      case atStart => exact ⟨0, Nat.zero_le _, rfl, rfl, fun j _ h => absurd h (by omega)⟩
      case round =>
        obtain ⟨k, hk, rfl, rfl, hdone⟩ := hrel
        by_cases hlt : k < x.c.excl.length
        · obtain ⟨bo, oo, hA, hbo, hc⟩ := hxx.out (by omega)
          have d0 := hc k hlt
          rw [hA]
          have hbad : memB x.c.excl[k] us = true → res = false := fun hq => by
            rw [Hal.out, List.all_eq_false.2 ⟨x.c.excl[k], List.getElem_mem hlt, by simp [hq]⟩]
          have hnext : memB x.c.excl[k] us = false → ∀ j (h : j < x.c.excl.length), j < k + 1 → memB x.c.excl[j] us = false := fun hq => forall_succ (p := fun r => memB r us = false) hdone.out hq
          have hhas := has_c us A2 c2 x.c.excl[k] wr Hs9.out (by omega)
          have Hbad := Lib.hid hbad
          have Hnext := Lib.hid hnext
          have Hhas := Lib.hid hhas
          clear hc hbad hnext hdone hhas
          generalize x.c.excl[k] = u at *
          cases hq : memB u us with
          | true =>
            rw [hq] at Hhas
            have hrs := Lib.hid (Hbad.out hq)
            clear Hbad Hnext hq
            go_wp2_with fail
            refine Hhas.out.mono ?_
            rintro e w' ⟨rfl, rfl⟩
            go_wp2_with fail
            go_ret
            exact ⟨ret_bool hrs.out.symm, HBw.out⟩
          | false =>
            rw [hq] at Hhas
            have hnx := Lib.hid (Hnext.out hq)
            clear Hbad Hnext hq
            go_wp2_with fail
            refine Hhas.out.mono ?_
            rintro e w' ⟨rfl, rfl⟩
            go_wp2_with fail
            go_roundw
            case rel => exact ⟨k + 1, by omega, by go_num, trivial, hnx⟩
            case measure => simp [intOf]; omega
        · obtain rfl : k = x.c.excl.length := by omega
          have hrs := Lib.hid (Hal.out.trans (List.all_eq_true.2 fun u hu => by
            obtain ⟨j, hj, rfl⟩ := List.mem_iff_getElem.1 hu
            rw [hdone.out j hj hj]; rfl))
          go_wp2_with fail
          go_ret
          exact ⟨ret_bool hrs.out.symm, HBw.out⟩
end Go.Proofs.YtnbnkhockoflgaaGreatDoor
