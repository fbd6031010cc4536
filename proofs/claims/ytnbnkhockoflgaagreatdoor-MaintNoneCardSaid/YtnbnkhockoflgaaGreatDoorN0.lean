/- MaintNone: the walk. -/
import Derived.Test.YtnbnkhockoflgaaGreatDoorJ31
set_option linter.unusedSimpArgs false
set_option linter.unusedVariables false
set_option linter.unusedSectionVars false
namespace Go.Proofs.YtnbnkhockoflgaaGreatDoor
open Go.ChangeShapes Go.WideShapes Go.ChangeAt Go.RowKit
attribute [local go_sem] Oper.semAt_some

set_option maxRecDepth 100000 in
set_option maxHeartbeats 4000000 in
theorem maintNone_c (r : Rep) (u : ByteArray) (w : World) : Calls Tryz.prog 6 #[r.val, .string u] w fun e w' => e = .returned (.bool true) ∧ Below w.heap.size w w' := by
  go_enter Tryz.func6, Tryz.ntmps6
  go_wp2_with fail
  refine (awake_c _).mono ?_
  rintro e w2 ⟨rfl, hb2⟩
  have hz2 := hb2.size
  simp at hz2
  have hr : Blk w2 w.heap.size 46 #[.string r.unit, .int .i64 r.code] := (Blk.new w 46 #[.string r.unit, .int .i64 r.code]).below hb2 (by simp)
  have HB2 := Lib.hid (((Below.refl _ w).alloc (Nat.le_refl _) (.cells #[.string r.unit, .int .i64 r.code] 46)).trans (hb2.mono (by simp)))
  have HR := Lib.hid hr
  clear hb2 hr
  obtain ⟨w4, hw4⟩ : ∃ w4, w4 = (w2.alloc (.cells #[.slice none 0 0, .map none] 54)).alloc (.cells #[.pointer none, .pointer (some ⟨w2.heap.size, 0, none⟩)] 49) := ⟨_, rfl⟩
  have hB4 : Below w2.heap.size w2 w4 := by rw [hw4]; exact ((Below.refl _ w2).alloc (Nat.le_refl _) _).alloc (by simp) _
  have hd : Blk w4 w2.heap.size 54 #[.slice none 0 0, .map none] := by rw [hw4]; exact (Blk.new w2 _ _).alloc _
  have hs : Blk w4 (w2.heap.size + 1) 49 #[.pointer none, .pointer (some ⟨w2.heap.size, 0, none⟩)] := by rw [hw4]; exact blk_at' (w2.alloc (.cells #[.slice none 0 0, .map none] 54)) (w2.heap.size + 1) 49 _ (by simp)
  have HB4 := Lib.hid hB4
  have HD := Lib.hid hd
  have HS := Lib.hid hs
  have Hw4 := Lib.hid hw4
  clear hw4 hB4 hd hs
  go_wp2_with fail
  rw [← Hw4.out]
  clear Hw4
  go_loopw [17] (fun t wr => ∃ k : Nat, k ≤ 2 ∧ t = .int .i64 k ∧ Below w4.heap.size w4 wr) (fun t wr => 2 - (intOf t).toNat)
  case atStart => exact ⟨0, by omega, rfl, Below.refl _ _⟩
  case round =>
    obtain ⟨k, hk, rfl, hbr⟩ := hrel
    have HBr := Lib.hid hbr
    clear hbr
    have h3 : k = 0 ∨ k = 1 ∨ k = 2 := by omega
    rcases h3 with rfl | rfl | rfl
    · have nd : NoDesk none wr := noDesk_nil wr
      have c0 : wr.cell? ⟨w2.heap.size + 1, 0, none⟩ = some (.pointer none) := (HS.out.below HBr.out HS.out.lt).cell 0
      have hr := (HR.out.below (HB4.out.trans (HBr.out.mono HB4.out.size)) HR.out.lt)
      have r0 : wr.cell? ⟨w.heap.size, 0, none⟩ = some (.string r.unit) := hr.cell 0
      have r1 : wr.cell? ⟨w.heap.size, 1, none⟩ = some (.int .i64 r.code) := hr.cell 1
      have n1 := Lib.hid (no_replace none u wr nd)
      have n2 := Lib.hid (no_report none r wr nd)
      have ND := Lib.hid nd
      clear nd hr
      go_wp2_with fail
      refine n1.out.mono ?_
      rintro e w' ⟨rfl, hw'⟩
      subst hw'
      go_wp2_with fail
      refine n2.out.mono ?_
      rintro e w5 ⟨rfl, hb5⟩
      have nd5 : NoDesk none w5 := fun W hW => ND.out W (hb5.trans (hW.mono hb5.size))
      have n3 := Lib.hid (no_accused none w5 nd5)
      have n4 := Lib.hid (no_reports none w5 nd5)
      have HB5 := Lib.hid (HBr.out.trans (hb5.mono HBr.out.size))
      clear nd5 hb5 n1 n2 r0 r1 c0 ND
      go_wp2_with fail
      refine n3.out.mono ?_
      rintro e w' ⟨rfl, hw'⟩
      subst hw'
      go_wp2_with fail
      refine n4.out.mono ?_
      rintro e w' ⟨rfl, hw'⟩
      subst hw'
      go_wp2_with fail
      go_roundw
      case rel => exact ⟨1, by omega, by simp, HB5.out⟩
      case measure => simp [intOf]
    · have nd : NoDesk (some ⟨w2.heap.size, 0, none⟩) wr := noDesk_empty _ none 0 0 wr (HD.out.below HBr.out HD.out.lt)
      have c0 : wr.cell? ⟨w2.heap.size + 1, 1, none⟩ = some (.pointer (some ⟨w2.heap.size, 0, none⟩)) := (HS.out.below HBr.out HS.out.lt).cell 1
      have hr := (HR.out.below (HB4.out.trans (HBr.out.mono HB4.out.size)) HR.out.lt)
      have r0 : wr.cell? ⟨w.heap.size, 0, none⟩ = some (.string r.unit) := hr.cell 0
      have r1 : wr.cell? ⟨w.heap.size, 1, none⟩ = some (.int .i64 r.code) := hr.cell 1
      have n1 := Lib.hid (no_replace (some ⟨w2.heap.size, 0, none⟩) u wr nd)
      have n2 := Lib.hid (no_report (some ⟨w2.heap.size, 0, none⟩) r wr nd)
      have ND := Lib.hid nd
      clear nd hr
      go_wp2_with fail
      refine n1.out.mono ?_
      rintro e w' ⟨rfl, hw'⟩
      subst hw'
      go_wp2_with fail
      refine n2.out.mono ?_
      rintro e w5 ⟨rfl, hb5⟩
      have nd5 : NoDesk (some ⟨w2.heap.size, 0, none⟩) w5 := fun W hW => ND.out W (hb5.trans (hW.mono hb5.size))
      have n3 := Lib.hid (no_accused (some ⟨w2.heap.size, 0, none⟩) w5 nd5)
      have n4 := Lib.hid (no_reports (some ⟨w2.heap.size, 0, none⟩) w5 nd5)
      have HB5 := Lib.hid (HBr.out.trans (hb5.mono HBr.out.size))
      clear nd5 hb5 n1 n2 r0 r1 c0 ND
      go_wp2_with fail
      refine n3.out.mono ?_
      rintro e w' ⟨rfl, hw'⟩
      subst hw'
      go_wp2_with fail
      refine n4.out.mono ?_
      rintro e w' ⟨rfl, hw'⟩
      subst hw'
      go_wp2_with fail
      go_roundw
      case rel => exact ⟨2, by omega, by simp, HB5.out⟩
      case measure => simp [intOf]
    · go_wp2_with fail
      go_ret
      exact ⟨rfl, (HB2.out.trans (HB4.out.mono HB2.out.size)).trans (HBr.out.mono (Nat.le_trans HB2.out.size HB4.out.size))⟩
end Go.Proofs.YtnbnkhockoflgaaGreatDoor
