/- Texts V1, joined. -/
import Derived.Lib.BufferOwn
import Derived.Test.YtknojjlfgjkbiaaGreatDoorM1
import Derived.Test.YtknojjlfgjkbiaaGreatDoorM4
set_option linter.unusedSimpArgs false
set_option linter.unusedVariables false
set_option linter.unusedSectionVars false
/- OverReports (28). -/
namespace Go.Proofs.YtknojjlfgjkbiaaGreatDoor
open Go.ChangeShapes Go.WideShapes Go.ChangeAt Go.RowKit
attribute [local go_sem] Oper.semAt_some

theorem mark2_c (i : Nat) (w : World) (h1 : i ≤ 1000000000) : Calls Tryz.prog 88 #[.int .i64 2, .int .i64 i] w fun e w' => e = .returned (.int .i64 (9000027 + i)) ∧ w = w' := by
  go_enter Tryz.func88, Tryz.ntmps88
  go_wp2_with fail
  go_ret
  exact ⟨by go_num, rfl⟩
theorem markReport2_c (i : Nat) (w : World) (h1 : i ≤ 1000000000) : Calls Tryz.prog 49 #[.int .i64 2, .int .i64 i] w fun e w' => e = .returned (.agg #[.string ⟨#[]⟩, .int .i64 (9000027 + i)]) ∧ Below w.heap.size w w' := by
  have hI := fun W => mark2_c i W h1
  have hb0 := Blk.new w 32 #[.string ⟨#[]⟩, .int .i64 0]
  go_enter Tryz.func49, Tryz.ntmps49
  go_wp2_with (go_at_call 88; refine (hI _).mono ?_; rintro e w' ⟨rfl, rfl⟩)
  refine bodyPost_ret (v := .agg #[.string ⟨#[]⟩, .int .i64 (9000027 + i)]) (by simp [results, Tryz.results49, go_sem]) rfl ⟨rfl, ?_⟩
  exact (Below.refl _ _).alloc (Nat.le_refl _) _
section
attribute [-go_sem] run_sliceAt_slice
set_option maxRecDepth 100000 in
set_option maxHeartbeats 4000000 in
theorem over_c (A : Option Addr) (n c : Nat) (base : Nat) (xs : List Value) (w : World) (h : w.ownsRow base 32 2 (.slice A n c) n xs) (hn : n ≤ 1000000) :
    Calls Tryz.prog 28 #[.slice A n c] w fun e w' => e = .returned (.tuple #[]) ∧ w.grownBy w' (Value.slice A n c).ownBlock := by
  obtain ⟨m, hm⟩ : ∃ m, m = min c (n + 12) := ⟨_, rfl⟩
  have hwr := IntWalk.i64_in ((n : Int) + 12) (by omega)
  have hmi : min (c : Int) ((n : Int) + 12) = (m : Int) := by omega
  have hsl : ∀ W, (Instr.sliceAt 23 (.slice A n c) none (some (.int .i64 (m : Int))) none).run Tryz.prog W = .ok (.slice A m c) W := fun W => by
    have h0 : (0 : Int) ≤ (m : Int) := by omega
    have h1 : (m : Int) ≤ (c : Int) := by omega
    cases A <;> simp [run_sliceAt_slice, go_sem, h0, h1, sliced, map_add_zero]
  have hcell : 0 < m → ∃ g cs, A = some ⟨g, 0, none⟩ ∧ Blk w g 32 cs ∧ cs.size = c * 2 := fun hp => by
    rcases h.2 with ⟨e, h0⟩ | ⟨g, cap, cur, e, _, hh, _, _, h3, _⟩
    · injection e with e1 e2 e3; omega
    · injection e with e1 e2 e3
      subst e1 e3
      exact ⟨g, cur, rfl, hh, h3⟩
  have hmn : m ≤ 2000000 := by omega
  have hmc : m ≤ c := by omega
  have Hcell := Lib.hid hcell
  clear h hcell hm
  go_enter Tryz.func28, Tryz.ntmps28
  go_wp2_with fail
  go_loopw [3] (fun t wr => ∃ k : Nat, k ≤ m ∧ t = .int .i64 k ∧ w.grownBy wr (Value.slice A n c).ownBlock ∧ Hid (0 < m → ∃ g cs, A = some ⟨g, 0, none⟩ ∧ Blk wr g 32 cs ∧ cs.size = c * 2)) (fun t wr => m - (intOf t).toNat)
  case atStart => exact ⟨0, Nat.zero_le _, rfl, World.grownBy.refl _ _, Hcell.out⟩
  case round =>
    obtain ⟨k, hk, rfl, hg, hbl⟩ := hrel
    by_cases hlt : k < m
    · obtain ⟨g, cs, hA, hb, hcs⟩ := hbl.out (by omega)
      subst hA
      have hcall := markReport2_c k wr (by omega)
      have hi0 : (0 : Int) ≤ (k : Int) := by omega
      have hi1 : (k : Int) < (m : Int) := by omega
      have Hcall := Lib.hid hcall
      have Hb := Lib.hid hb
      have HG := Lib.hid hg
      clear hcall hb hg hbl Hcell
      go_wp2_with fail
      refine Hcall.out.mono ?_
      rintro e w2 ⟨rfl, hb2⟩
      have hbb := Hb.out.below hb2 Hb.out.lt
      have f0 := hbb.frozen (k * 2)
      have f1 := hbb.frozen (k * 2 + 1)
      have c0 := hbb.cell (k * 2)
      have c1 := hbb.cell (k * 2 + 1)
      have s1 := (hbb.set_ (k * 2) (.string ⟨#[]⟩)).set_ (k * 2 + 1) (.int .i64 (9000027 + k))
      have hg2 : w.grownBy w2 (some g) := Lib.grownBy_below HG.out hb2
      have hg3 := Lib.grownBy_setB (Lib.grownBy_setB hg2 (k * 2) (.string ⟨#[]⟩)) (k * 2 + 1) (.int .i64 (9000027 + k))
      have HS := Lib.hid s1
      have HG3 := Lib.hid hg3
      clear hb2 hbb s1 hg2 hg3 Hb HG Hcall
      have z0 : k * 2 < cs.size := by omega
      have z1 : k * 2 + 1 < cs.size := by omega
      rw [Array.getElem?_eq_getElem z0] at c0
      rw [Array.getElem?_eq_getElem z1] at c1
      go_wp2_with fail
      go_roundw
      case rel => exact ⟨k + 1, by omega, by go_num, HG3.out, fun _ => ⟨g, _, rfl, HS.out, by simp [hcs]⟩⟩
      case measure => simp [intOf]; omega
    · obtain rfl : k = m := by omega
      have HG := Lib.hid hg
      clear hg hbl Hcell
      go_wp2_with fail
      refine bodyPost_end (results_none rfl _ _ _) rfl ?_
      exact ⟨rfl, HG.out⟩
end
end Go.Proofs.YtknojjlfgjkbiaaGreatDoor
