/- Texts K12 K18, joined. -/
import Derived.Test.YtknojjlfgjkbiaaGreatDoorH25
import Derived.Test.YtknojjlfgjkbiaaGreatDoorH26
import Derived.Test.YtknojjlfgjkbiaaGreatDoorH22
import Derived.Test.YtknojjlfgjkbiaaGreatDoorH23
set_option linter.unusedSimpArgs false
set_option linter.unusedVariables false
set_option linter.unusedSectionVars false
/- format.Valid, and check.Check, on a configuration that holds small causes alone. -/
namespace Go.Proofs.YtknojjlfgjkbiaaGreatDoor
open Go.ChangeShapes Go.WideShapes Go.ChangeAt Go.RowKit
attribute [local go_sem] Oper.semAt_some

set_option maxRecDepth 100000 in
set_option maxHeartbeats 2000000 in
theorem valid_c (hWo : WordOk) (A : Option Addr) (L : List CsV) (c : Nat) (w : World) (hr : RdCs w w.heap.size A L) (hl : L.length ≤ 32) (hok : ∀ x ∈ L, SmallC x.c) :
    Calls Tryz.prog 99 #[.agg #[.slice none 0 0, .slice none 0 0, .slice none 0 0, .slice none 0 0, .slice none 0 0, .slice none 0 0, .slice A L.length c, .slice none 0 0]] w fun e w' => e = .returned (.bool true) ∧ Below w.heap.size w w' := by
  obtain ⟨y0, hy0⟩ : ∃ y0, y0 = w.alloc (.cells #[.slice none 0 0, .slice none 0 0, .slice none 0 0, .slice none 0 0, .slice none 0 0, .slice none 0 0, .slice A L.length c, .slice none 0 0] 53) := ⟨_, rfl⟩
  have hB0 : Below w.heap.size w y0 := by rw [hy0]; exact (Below.refl _ _).alloc (Nat.le_refl _) _
  have hb0 : Blk y0 w.heap.size 53 #[.slice none 0 0, .slice none 0 0, .slice none 0 0, .slice none 0 0, .slice none 0 0, .slice none 0 0, .slice A L.length c, .slice none 0 0] := by rw [hy0]; exact Blk.new w _ _
  have hf : ∀ W, Below y0.heap.size y0 W → Blk W w.heap.size 53 #[.slice none 0 0, .slice none 0 0, .slice none 0 0, .slice none 0 0, .slice none 0 0, .slice none 0 0, .slice A L.length c, .slice none 0 0] := fun W hW => hb0.below hW hb0.lt
  have k0 : y0.cell? ⟨w.heap.size, 0, none⟩ = some (.slice none 0 0) := hb0.cell 0
  have Hf := Lib.hid hf
  have HY0 := Lib.hid (Below.refl y0.heap.size y0)
  have HB0 := Lib.hid hB0
  have Hy0 := Lib.hid hy0
  have Hr := Lib.hid (hr.below hB0)
  have Hok := Lib.hid hok
  clear hB0 hy0 hr hok hf hb0
  have k0' : (w.alloc (.cells #[.slice none 0 0, .slice none 0 0, .slice none 0 0, .slice none 0 0, .slice none 0 0, .slice none 0 0, .slice A L.length c, .slice none 0 0] 53)).cell? ⟨w.heap.size, 0, none⟩ = some (.slice none 0 0) := by rw [← Hy0.out]; exact k0
  clear k0
  go_enter Tryz.func99, Tryz.ntmps99
  go_wp2_with fail
  rw [← Hy0.out]
  refine (all0_150 _ _ _ _ _ _).mono ?_
  rintro e y1 ⟨rfl, hb⟩
  have HY1 := Lib.hid (HY0.out.trans (hb.mono HY0.out.size))
  clear hb k0'
  have k1 : y1.cell? ⟨w.heap.size, 1, none⟩ = some (.slice none 0 0) := (Hf.out _ HY1.out).cell 1
  go_wp2_with fail
  refine (all0_152 _ _ _ _ _ _).mono ?_
  rintro e y2 ⟨rfl, hb⟩
  have HY2 := Lib.hid (HY1.out.trans (hb.mono HY1.out.size))
  clear hb k1
  have k2 : y2.cell? ⟨w.heap.size, 2, none⟩ = some (.slice none 0 0) := (Hf.out _ HY2.out).cell 2
  go_wp2_with fail
  refine (all0_154 _ _ _ _ _ _).mono ?_
  rintro e y3 ⟨rfl, hb⟩
  have HY3 := Lib.hid (HY2.out.trans (hb.mono HY2.out.size))
  clear hb k2
  have k3 : y3.cell? ⟨w.heap.size, 3, none⟩ = some (.slice none 0 0) := (Hf.out _ HY3.out).cell 3
  go_wp2_with fail
  refine (all0_156 _ _ _ _ _ _).mono ?_
  rintro e y4 ⟨rfl, hb⟩
  have HY4 := Lib.hid (HY3.out.trans (hb.mono HY3.out.size))
  clear hb k3
  have k4 : y4.cell? ⟨w.heap.size, 4, none⟩ = some (.slice none 0 0) := (Hf.out _ HY4.out).cell 4
  go_wp2_with fail
  refine (all0_158 _ _ _ _ _ _).mono ?_
  rintro e y5 ⟨rfl, hb⟩
  have HY5 := Lib.hid (HY4.out.trans (hb.mono HY4.out.size))
  clear hb k4
  have k5 : y5.cell? ⟨w.heap.size, 5, none⟩ = some (.slice none 0 0) := (Hf.out _ HY5.out).cell 5
  go_wp2_with fail
  refine (all0_160 _ _ _ _ _ _).mono ?_
  rintro e y6 ⟨rfl, hb⟩
  have HY6 := Lib.hid (HY5.out.trans (hb.mono HY5.out.size))
  clear hb k5
  have k6 : y6.cell? ⟨w.heap.size, 6, none⟩ = some (.slice A L.length c) := (Hf.out _ HY6.out).cell 6
  go_wp2_with fail
  have hal := all_162 185 #[] (fun _ => true) (enters_of Tryz.func185 (by kernel_rfl) rfl) L A c y6 (fun W x hx hW hrd => by simpa using fcause_c hWo x W hrd (Hok.out x hx)) (Hr.out.below HY6.out) (by omega)
  rw [all_true (fun _ _ => rfl)] at hal
  have Hal := Lib.hid hal
  clear hal
  refine Hal.out.mono ?_
  rintro e y7 ⟨rfl, hb⟩
  have HY7 := Lib.hid (HY6.out.trans (hb.mono HY6.out.size))
  clear hb k6
  have k7 : y7.cell? ⟨w.heap.size, 7, none⟩ = some (.slice none 0 0) := (Hf.out _ HY7.out).cell 7
  go_wp2_with fail
  refine (all0_164 _ _ _ _ _ _).mono ?_
  rintro e y8 ⟨rfl, hb⟩
  have HY8 := Lib.hid (HY7.out.trans (hb.mono HY7.out.size))
  clear hb k7
  go_wp2_with fail
  go_ret
  exact ⟨rfl, HB0.out.trans (HY8.out.mono HB0.out.size)⟩
set_option maxRecDepth 100000 in
theorem form_c (hWo : WordOk) (g : Nat) (A : Option Addr) (L : List CsV) (c : Nat) (w : World) (h : CkB w g A L.length c) (hr : RdCs w w.heap.size A L) (hl : L.length ≤ 32) (hok : ∀ x ∈ L, SmallC x.c) :
    Calls Tryz.prog 72 #[.pointer (some ⟨g, 0, none⟩)] w fun e w' => e = .returned (.bool true) ∧ Below w.heap.size w w' := by
  have hv := valid_c hWo A L c w hr hl hok
  have k0 : w.cell? ⟨g, 0, none⟩ = some (.slice none 0 0) := h.cell 0
  have k1 : w.cell? ⟨g, 1, none⟩ = some (.slice none 0 0) := h.cell 1
  have k2 : w.cell? ⟨g, 2, none⟩ = some (.slice none 0 0) := h.cell 2
  have k3 : w.cell? ⟨g, 3, none⟩ = some (.slice none 0 0) := h.cell 3
  have k4 : w.cell? ⟨g, 4, none⟩ = some (.slice none 0 0) := h.cell 4
  have k5 : w.cell? ⟨g, 5, none⟩ = some (.slice none 0 0) := h.cell 5
  have k6 : w.cell? ⟨g, 6, none⟩ = some (.slice A L.length c) := h.cell 6
  have k7 : w.cell? ⟨g, 7, none⟩ = some (.slice none 0 0) := h.cell 7
  have Hv := Lib.hid hv
  clear hv h hr hok
  go_enter Tryz.func72, Tryz.ntmps72
  go_wp2_with fail
  refine Hv.out.mono ?_
  rintro e w1 ⟨rfl, hb1⟩
  go_wp2_with fail
  go_ret
  exact ⟨rfl, hb1⟩
set_option maxRecDepth 100000 in
set_option maxHeartbeats 4000000 in
theorem check_c (hWo : WordOk) (A : Option Addr) (L : List CsV) (c F : Nat) (w : World) (hr : RdCs w w.heap.size A L) (hl : L.length ≤ 32) (hok : ∀ x ∈ L, SmallC x.c) (hrd : ∀ x ∈ L, x.rd w w.heap.size) (hrun : runC L F (-1) L = true) :
    Calls Tryz.prog 40 #[.agg #[.slice none 0 0, .slice none 0 0, .slice none 0 0, .slice none 0 0, .slice none 0 0, .slice none 0 0, .slice A L.length c, .slice none 0 0]] w fun e w' => e = .returned (.int .i64 0) ∧ Below w.heap.size w w' := by
  obtain ⟨w1, hw1⟩ : ∃ w1, w1 = ((w.alloc (.cells #[.slice none 0 0, .slice none 0 0, .slice none 0 0, .slice none 0 0, .slice none 0 0, .slice none 0 0, .slice A L.length c, .slice none 0 0] 53)).alloc (.cells #[.slice none 0 0, .slice none 0 0, .slice none 0 0, .slice none 0 0, .slice none 0 0, .slice none 0 0, .slice A L.length c, .slice none 0 0] 128)).alloc (.cells #[.func (.func 72) #[.pointer (some ⟨w.heap.size + 1, 0, none⟩)] #[], .int .i64 100, .func (.func 73) #[.pointer (some ⟨w.heap.size + 1, 0, none⟩)] #[], .int .i64 101, .func (.func 74) #[.pointer (some ⟨w.heap.size + 1, 0, none⟩)] #[], .int .i64 102, .func (.func 75) #[.pointer (some ⟨w.heap.size + 1, 0, none⟩)] #[], .int .i64 103, .func (.func 76) #[.pointer (some ⟨w.heap.size + 1, 0, none⟩)] #[], .int .i64 104, .func (.func 77) #[.pointer (some ⟨w.heap.size + 1, 0, none⟩)] #[], .int .i64 105, .func (.func 78) #[.pointer (some ⟨w.heap.size + 1, 0, none⟩)] #[], .int .i64 106, .func (.func 79) #[.pointer (some ⟨w.heap.size + 1, 0, none⟩)] #[], .int .i64 107, .func (.func 80) #[.pointer (some ⟨w.heap.size + 1, 0, none⟩)] #[], .int .i64 108, .func (.func 81) #[.pointer (some ⟨w.heap.size + 1, 0, none⟩)] #[], .int .i64 109] 130) := ⟨_, rfl⟩
  have hB1 : Below w.heap.size w w1 := by rw [hw1]; exact (((Below.refl _ w).alloc (Nat.le_refl _) _).alloc (by simp) _).alloc (by simp; omega) _
  have hck : CkB w1 (w.heap.size + 1) A L.length c := by
    rw [hw1]
    have := Blk.new (w.alloc (.cells #[.slice none 0 0, .slice none 0 0, .slice none 0 0, .slice none 0 0, .slice none 0 0, .slice none 0 0, .slice A L.length c, .slice none 0 0] 53)) 128 #[.slice none 0 0, .slice none 0 0, .slice none 0 0, .slice none 0 0, .slice none 0 0, .slice none 0 0, .slice A L.length c, .slice none 0 0]
    rw [World.size_alloc] at this
    exact this.alloc _
  have hrow : Blk w1 (w.heap.size + 2) 130 #[.func (.func 72) #[.pointer (some ⟨w.heap.size + 1, 0, none⟩)] #[], .int .i64 100, .func (.func 73) #[.pointer (some ⟨w.heap.size + 1, 0, none⟩)] #[], .int .i64 101, .func (.func 74) #[.pointer (some ⟨w.heap.size + 1, 0, none⟩)] #[], .int .i64 102, .func (.func 75) #[.pointer (some ⟨w.heap.size + 1, 0, none⟩)] #[], .int .i64 103, .func (.func 76) #[.pointer (some ⟨w.heap.size + 1, 0, none⟩)] #[], .int .i64 104, .func (.func 77) #[.pointer (some ⟨w.heap.size + 1, 0, none⟩)] #[], .int .i64 105, .func (.func 78) #[.pointer (some ⟨w.heap.size + 1, 0, none⟩)] #[], .int .i64 106, .func (.func 79) #[.pointer (some ⟨w.heap.size + 1, 0, none⟩)] #[], .int .i64 107, .func (.func 80) #[.pointer (some ⟨w.heap.size + 1, 0, none⟩)] #[], .int .i64 108, .func (.func 81) #[.pointer (some ⟨w.heap.size + 1, 0, none⟩)] #[], .int .i64 109] := by
    rw [hw1]
    have := Blk.new ((w.alloc (.cells #[.slice none 0 0, .slice none 0 0, .slice none 0 0, .slice none 0 0, .slice none 0 0, .slice none 0 0, .slice A L.length c, .slice none 0 0] 53)).alloc (.cells #[.slice none 0 0, .slice none 0 0, .slice none 0 0, .slice none 0 0, .slice none 0 0, .slice none 0 0, .slice A L.length c, .slice none 0 0] 128)) 130 #[.func (.func 72) #[.pointer (some ⟨w.heap.size + 1, 0, none⟩)] #[], .int .i64 100, .func (.func 73) #[.pointer (some ⟨w.heap.size + 1, 0, none⟩)] #[], .int .i64 101, .func (.func 74) #[.pointer (some ⟨w.heap.size + 1, 0, none⟩)] #[], .int .i64 102, .func (.func 75) #[.pointer (some ⟨w.heap.size + 1, 0, none⟩)] #[], .int .i64 103, .func (.func 76) #[.pointer (some ⟨w.heap.size + 1, 0, none⟩)] #[], .int .i64 104, .func (.func 77) #[.pointer (some ⟨w.heap.size + 1, 0, none⟩)] #[], .int .i64 105, .func (.func 78) #[.pointer (some ⟨w.heap.size + 1, 0, none⟩)] #[], .int .i64 106, .func (.func 79) #[.pointer (some ⟨w.heap.size + 1, 0, none⟩)] #[], .int .i64 107, .func (.func 80) #[.pointer (some ⟨w.heap.size + 1, 0, none⟩)] #[], .int .i64 108, .func (.func 81) #[.pointer (some ⟨w.heap.size + 1, 0, none⟩)] #[], .int .i64 109]
    simpa only [World.size_alloc] using this
  have hsm : ∀ x ∈ L, x.c.excl.length ≤ 1000 := fun x hx => by have := (hok x hx).xl; omega
  have Hck := Lib.hid hck
  have Hrow := Lib.hid hrow
  have HB1 := Lib.hid hB1
  have Hr := Lib.hid (hr.below hB1)
  have Hok := Lib.hid hok
  have Hsm := Lib.hid hsm
  have Hrd := Lib.hid (fun x hx => (hrd x hx).below hB1)
  have Hrun := Lib.hid hrun
  have Hw1 := Lib.hid hw1
  clear hck hrow hB1 hr hok hrd hrun hw1 hsm
  have b0 := Blk.new w 53 #[.slice none 0 0, .slice none 0 0, .slice none 0 0, .slice none 0 0, .slice none 0 0, .slice none 0 0, .slice A L.length c, .slice none 0 0]
  have c0 : (w.alloc (.cells #[.slice none 0 0, .slice none 0 0, .slice none 0 0, .slice none 0 0, .slice none 0 0, .slice none 0 0, .slice A L.length c, .slice none 0 0] 53)).cell? ⟨w.heap.size, 0, none⟩ = some (.slice none 0 0) := b0.cell 0
  have c1 : (w.alloc (.cells #[.slice none 0 0, .slice none 0 0, .slice none 0 0, .slice none 0 0, .slice none 0 0, .slice none 0 0, .slice A L.length c, .slice none 0 0] 53)).cell? ⟨w.heap.size, 1, none⟩ = some (.slice none 0 0) := b0.cell 1
  have c2 : (w.alloc (.cells #[.slice none 0 0, .slice none 0 0, .slice none 0 0, .slice none 0 0, .slice none 0 0, .slice none 0 0, .slice A L.length c, .slice none 0 0] 53)).cell? ⟨w.heap.size, 2, none⟩ = some (.slice none 0 0) := b0.cell 2
  have c3 : (w.alloc (.cells #[.slice none 0 0, .slice none 0 0, .slice none 0 0, .slice none 0 0, .slice none 0 0, .slice none 0 0, .slice A L.length c, .slice none 0 0] 53)).cell? ⟨w.heap.size, 3, none⟩ = some (.slice none 0 0) := b0.cell 3
  have c4 : (w.alloc (.cells #[.slice none 0 0, .slice none 0 0, .slice none 0 0, .slice none 0 0, .slice none 0 0, .slice none 0 0, .slice A L.length c, .slice none 0 0] 53)).cell? ⟨w.heap.size, 4, none⟩ = some (.slice none 0 0) := b0.cell 4
  have c5 : (w.alloc (.cells #[.slice none 0 0, .slice none 0 0, .slice none 0 0, .slice none 0 0, .slice none 0 0, .slice none 0 0, .slice A L.length c, .slice none 0 0] 53)).cell? ⟨w.heap.size, 5, none⟩ = some (.slice none 0 0) := b0.cell 5
  have c6 : (w.alloc (.cells #[.slice none 0 0, .slice none 0 0, .slice none 0 0, .slice none 0 0, .slice none 0 0, .slice none 0 0, .slice A L.length c, .slice none 0 0] 53)).cell? ⟨w.heap.size, 6, none⟩ = some (.slice A L.length c) := b0.cell 6
  have c7 : (w.alloc (.cells #[.slice none 0 0, .slice none 0 0, .slice none 0 0, .slice none 0 0, .slice none 0 0, .slice none 0 0, .slice A L.length c, .slice none 0 0] 53)).cell? ⟨w.heap.size, 7, none⟩ = some (.slice none 0 0) := b0.cell 7
  clear b0
  go_enter Tryz.func40, Tryz.ntmps40
  go_wp2_with fail
  rw [← Hw1.out]
  go_loopw [41] (fun t wr => ∃ k : Nat, k ≤ 10 ∧ t = .int .i64 k ∧ Below w1.heap.size w1 wr) (fun t wr => 10 - (intOf t).toNat)
  case atStart => exact ⟨0, by omega, rfl, Below.refl _ _⟩
  case round =>
    obtain ⟨k, hk, rfl, hB⟩ := hrel
    clear c0 c1 c2 c3 c4 c5 c6 c7
    have hrow := Hrow.out.below hB Hrow.out.lt
    have hck := Blk.below Hck.out hB (Blk.lt Hck.out)
    have hsz : w.heap.size + 2 < wr.heap.size := hrow.lt
    have HB := Lib.hid hB
    have Hrowr := Lib.hid hrow
    have Hckr := Lib.hid hck
    clear hB hrow hck
    have h10 : k = 0 ∨ k = 1 ∨ k = 2 ∨ k = 3 ∨ k = 4 ∨ k = 5 ∨ k = 6 ∨ k = 7 ∨ k = 8 ∨ k = 9 ∨ k = 10 := by omega
    rcases h10 with rfl | rfl | rfl | rfl | rfl | rfl | rfl | rfl | rfl | rfl | rfl
    · have d0 : wr.cell? ⟨w.heap.size + 2, 0, none⟩ = some (.func (.func 72) #[.pointer (some ⟨w.heap.size + 1, 0, none⟩)] #[]) := Hrowr.out.cell 0
      have d1 : wr.cell? ⟨w.heap.size + 2, 1, none⟩ = some (.int .i64 100) := Hrowr.out.cell 1
      have hc := form_c hWo (w.heap.size + 1) A L c _ (Blk.below Hckr.out ((Below.refl wr.heap.size wr).alloc (Nat.le_refl _) (.cells #[.func (.func 72) #[.pointer (some ⟨w.heap.size + 1, 0, none⟩)] #[], .int .i64 100] 130)) (Blk.lt Hckr.out)) ((Hr.out.below HB.out).below ((Below.refl wr.heap.size wr).alloc (Nat.le_refl _) (.cells #[.func (.func 72) #[.pointer (some ⟨w.heap.size + 1, 0, none⟩)] #[], .int .i64 100] 130))) hl Hok.out
      have Hcc := Lib.hid hc
      clear hc
      go_wp2_with fail
      refine Hcc.out.mono ?_
      rintro e W2 ⟨rfl, hb2⟩
      have HB2 := Lib.hid (HB.out.trans (((Below.refl wr.heap.size wr).alloc (Nat.le_refl _) (.cells #[.func (.func 72) #[.pointer (some ⟨w.heap.size + 1, 0, none⟩)] #[], .int .i64 100] 130)).trans (hb2.mono (by simp)) |>.mono HB.out.size))
      clear hb2 Hcc
      go_wp2_with fail
      go_roundw
      case rel => exact ⟨1, by omega, by go_num, HB2.out⟩
      case measure => simp [intOf]
    · have d0 : wr.cell? ⟨w.heap.size + 2, 2, none⟩ = some (.func (.func 73) #[.pointer (some ⟨w.heap.size + 1, 0, none⟩)] #[]) := Hrowr.out.cell 2
      have d1 : wr.cell? ⟨w.heap.size + 2, 3, none⟩ = some (.int .i64 101) := Hrowr.out.cell 3
      have hc := limits_c (w.heap.size + 1) A L c _ (Blk.below Hckr.out ((Below.refl wr.heap.size wr).alloc (Nat.le_refl _) (.cells #[.func (.func 73) #[.pointer (some ⟨w.heap.size + 1, 0, none⟩)] #[], .int .i64 101] 130)) (Blk.lt Hckr.out)) ((Hr.out.below HB.out).below ((Below.refl wr.heap.size wr).alloc (Nat.le_refl _) (.cells #[.func (.func 73) #[.pointer (some ⟨w.heap.size + 1, 0, none⟩)] #[], .int .i64 101] 130))) hl Hok.out
      have Hcc := Lib.hid hc
      clear hc
      go_wp2_with fail
      refine Hcc.out.mono ?_
      rintro e W2 ⟨rfl, hb2⟩
      have HB2 := Lib.hid (HB.out.trans (((Below.refl wr.heap.size wr).alloc (Nat.le_refl _) (.cells #[.func (.func 73) #[.pointer (some ⟨w.heap.size + 1, 0, none⟩)] #[], .int .i64 101] 130)).trans (hb2.mono (by simp)) |>.mono HB.out.size))
      clear hb2 Hcc
      go_wp2_with fail
      go_roundw
      case rel => exact ⟨2, by omega, by go_num, HB2.out⟩
      case measure => simp [intOf]
    · have d0 : wr.cell? ⟨w.heap.size + 2, 4, none⟩ = some (.func (.func 74) #[.pointer (some ⟨w.heap.size + 1, 0, none⟩)] #[]) := Hrowr.out.cell 4
      have d1 : wr.cell? ⟨w.heap.size + 2, 5, none⟩ = some (.int .i64 102) := Hrowr.out.cell 5
      have hc := names_c (w.heap.size + 1) A L.length c _ (Blk.below Hckr.out ((Below.refl wr.heap.size wr).alloc (Nat.le_refl _) (.cells #[.func (.func 74) #[.pointer (some ⟨w.heap.size + 1, 0, none⟩)] #[], .int .i64 102] 130)) (Blk.lt Hckr.out))
      have Hcc := Lib.hid hc
      clear hc
      go_wp2_with fail
      refine Hcc.out.mono ?_
      rintro e W2 ⟨rfl, hb2⟩
      have HB2 := Lib.hid (HB.out.trans (((Below.refl wr.heap.size wr).alloc (Nat.le_refl _) (.cells #[.func (.func 74) #[.pointer (some ⟨w.heap.size + 1, 0, none⟩)] #[], .int .i64 102] 130)).trans (hb2.mono (by simp)) |>.mono HB.out.size))
      clear hb2 Hcc
      go_wp2_with fail
      go_roundw
      case rel => exact ⟨3, by omega, by go_num, HB2.out⟩
      case measure => simp [intOf]
    · have d0 : wr.cell? ⟨w.heap.size + 2, 6, none⟩ = some (.func (.func 75) #[.pointer (some ⟨w.heap.size + 1, 0, none⟩)] #[]) := Hrowr.out.cell 6
      have d1 : wr.cell? ⟨w.heap.size + 2, 7, none⟩ = some (.int .i64 103) := Hrowr.out.cell 7
      have hc := times_c (w.heap.size + 1) A L.length c _ (Blk.below Hckr.out ((Below.refl wr.heap.size wr).alloc (Nat.le_refl _) (.cells #[.func (.func 75) #[.pointer (some ⟨w.heap.size + 1, 0, none⟩)] #[], .int .i64 103] 130)) (Blk.lt Hckr.out))
      have Hcc := Lib.hid hc
      clear hc
      go_wp2_with fail
      refine Hcc.out.mono ?_
      rintro e W2 ⟨rfl, hb2⟩
      have HB2 := Lib.hid (HB.out.trans (((Below.refl wr.heap.size wr).alloc (Nat.le_refl _) (.cells #[.func (.func 75) #[.pointer (some ⟨w.heap.size + 1, 0, none⟩)] #[], .int .i64 103] 130)).trans (hb2.mono (by simp)) |>.mono HB.out.size))
      clear hb2 Hcc
      go_wp2_with fail
      go_roundw
      case rel => exact ⟨4, by omega, by go_num, HB2.out⟩
      case measure => simp [intOf]
    · have d0 : wr.cell? ⟨w.heap.size + 2, 8, none⟩ = some (.func (.func 76) #[.pointer (some ⟨w.heap.size + 1, 0, none⟩)] #[]) := Hrowr.out.cell 8
      have d1 : wr.cell? ⟨w.heap.size + 2, 9, none⟩ = some (.int .i64 104) := Hrowr.out.cell 9
      have hc := codes_c (w.heap.size + 1) A L.length c _ (Blk.below Hckr.out ((Below.refl wr.heap.size wr).alloc (Nat.le_refl _) (.cells #[.func (.func 76) #[.pointer (some ⟨w.heap.size + 1, 0, none⟩)] #[], .int .i64 104] 130)) (Blk.lt Hckr.out))
      have Hcc := Lib.hid hc
      clear hc
      go_wp2_with fail
      refine Hcc.out.mono ?_
      rintro e W2 ⟨rfl, hb2⟩
      have HB2 := Lib.hid (HB.out.trans (((Below.refl wr.heap.size wr).alloc (Nat.le_refl _) (.cells #[.func (.func 76) #[.pointer (some ⟨w.heap.size + 1, 0, none⟩)] #[], .int .i64 104] 130)).trans (hb2.mono (by simp)) |>.mono HB.out.size))
      clear hb2 Hcc
      go_wp2_with fail
      go_roundw
      case rel => exact ⟨5, by omega, by go_num, HB2.out⟩
      case measure => simp [intOf]
    · have d0 : wr.cell? ⟨w.heap.size + 2, 10, none⟩ = some (.func (.func 77) #[.pointer (some ⟨w.heap.size + 1, 0, none⟩)] #[]) := Hrowr.out.cell 10
      have d1 : wr.cell? ⟨w.heap.size + 2, 11, none⟩ = some (.int .i64 105) := Hrowr.out.cell 11
      have hc := links_c (w.heap.size + 1) A L.length c _ (Blk.below Hckr.out ((Below.refl wr.heap.size wr).alloc (Nat.le_refl _) (.cells #[.func (.func 77) #[.pointer (some ⟨w.heap.size + 1, 0, none⟩)] #[], .int .i64 105] 130)) (Blk.lt Hckr.out))
      have Hcc := Lib.hid hc
      clear hc
      go_wp2_with fail
      refine Hcc.out.mono ?_
      rintro e W2 ⟨rfl, hb2⟩
      have HB2 := Lib.hid (HB.out.trans (((Below.refl wr.heap.size wr).alloc (Nat.le_refl _) (.cells #[.func (.func 77) #[.pointer (some ⟨w.heap.size + 1, 0, none⟩)] #[], .int .i64 105] 130)).trans (hb2.mono (by simp)) |>.mono HB.out.size))
      clear hb2 Hcc
      go_wp2_with fail
      go_roundw
      case rel => exact ⟨6, by omega, by go_num, HB2.out⟩
      case measure => simp [intOf]
    · have d0 : wr.cell? ⟨w.heap.size + 2, 12, none⟩ = some (.func (.func 78) #[.pointer (some ⟨w.heap.size + 1, 0, none⟩)] #[]) := Hrowr.out.cell 12
      have d1 : wr.cell? ⟨w.heap.size + 2, 13, none⟩ = some (.int .i64 106) := Hrowr.out.cell 13
      have hc := ports_c (w.heap.size + 1) A L.length c _ (Blk.below Hckr.out ((Below.refl wr.heap.size wr).alloc (Nat.le_refl _) (.cells #[.func (.func 78) #[.pointer (some ⟨w.heap.size + 1, 0, none⟩)] #[], .int .i64 106] 130)) (Blk.lt Hckr.out))
      have Hcc := Lib.hid hc
      clear hc
      go_wp2_with fail
      refine Hcc.out.mono ?_
      rintro e W2 ⟨rfl, hb2⟩
      have HB2 := Lib.hid (HB.out.trans (((Below.refl wr.heap.size wr).alloc (Nat.le_refl _) (.cells #[.func (.func 78) #[.pointer (some ⟨w.heap.size + 1, 0, none⟩)] #[], .int .i64 106] 130)).trans (hb2.mono (by simp)) |>.mono HB.out.size))
      clear hb2 Hcc
      go_wp2_with fail
      go_roundw
      case rel => exact ⟨7, by omega, by go_num, HB2.out⟩
      case measure => simp [intOf]
    · have d0 : wr.cell? ⟨w.heap.size + 2, 14, none⟩ = some (.func (.func 79) #[.pointer (some ⟨w.heap.size + 1, 0, none⟩)] #[]) := Hrowr.out.cell 14
      have d1 : wr.cell? ⟨w.heap.size + 2, 15, none⟩ = some (.int .i64 107) := Hrowr.out.cell 15
      have hc := vls_c (w.heap.size + 1) A L.length c _ (Blk.below Hckr.out ((Below.refl wr.heap.size wr).alloc (Nat.le_refl _) (.cells #[.func (.func 79) #[.pointer (some ⟨w.heap.size + 1, 0, none⟩)] #[], .int .i64 107] 130)) (Blk.lt Hckr.out))
      have Hcc := Lib.hid hc
      clear hc
      go_wp2_with fail
      refine Hcc.out.mono ?_
      rintro e W2 ⟨rfl, hb2⟩
      have HB2 := Lib.hid (HB.out.trans (((Below.refl wr.heap.size wr).alloc (Nat.le_refl _) (.cells #[.func (.func 79) #[.pointer (some ⟨w.heap.size + 1, 0, none⟩)] #[], .int .i64 107] 130)).trans (hb2.mono (by simp)) |>.mono HB.out.size))
      clear hb2 Hcc
      go_wp2_with fail
      go_roundw
      case rel => exact ⟨8, by omega, by go_num, HB2.out⟩
      case measure => simp [intOf]
    · have d0 : wr.cell? ⟨w.heap.size + 2, 16, none⟩ = some (.func (.func 80) #[.pointer (some ⟨w.heap.size + 1, 0, none⟩)] #[]) := Hrowr.out.cell 16
      have d1 : wr.cell? ⟨w.heap.size + 2, 17, none⟩ = some (.int .i64 108) := Hrowr.out.cell 17
      have hc := rows_c (w.heap.size + 1) A L.length c _ (Blk.below Hckr.out ((Below.refl wr.heap.size wr).alloc (Nat.le_refl _) (.cells #[.func (.func 80) #[.pointer (some ⟨w.heap.size + 1, 0, none⟩)] #[], .int .i64 108] 130)) (Blk.lt Hckr.out))
      have Hcc := Lib.hid hc
      clear hc
      go_wp2_with fail
      refine Hcc.out.mono ?_
      rintro e W2 ⟨rfl, hb2⟩
      have HB2 := Lib.hid (HB.out.trans (((Below.refl wr.heap.size wr).alloc (Nat.le_refl _) (.cells #[.func (.func 80) #[.pointer (some ⟨w.heap.size + 1, 0, none⟩)] #[], .int .i64 108] 130)).trans (hb2.mono (by simp)) |>.mono HB.out.size))
      clear hb2 Hcc
      go_wp2_with fail
      go_roundw
      case rel => exact ⟨9, by omega, by go_num, HB2.out⟩
      case measure => simp [intOf]
    · have d0 : wr.cell? ⟨w.heap.size + 2, 18, none⟩ = some (.func (.func 81) #[.pointer (some ⟨w.heap.size + 1, 0, none⟩)] #[]) := Hrowr.out.cell 18
      have d1 : wr.cell? ⟨w.heap.size + 2, 19, none⟩ = some (.int .i64 109) := Hrowr.out.cell 19
      have hc := causes_c (w.heap.size + 1) A L c F _ (Blk.below Hckr.out ((Below.refl wr.heap.size wr).alloc (Nat.le_refl _) (.cells #[.func (.func 81) #[.pointer (some ⟨w.heap.size + 1, 0, none⟩)] #[], .int .i64 109] 130)) (Blk.lt Hckr.out)) ((Hr.out.below HB.out).below ((Below.refl wr.heap.size wr).alloc (Nat.le_refl _) (.cells #[.func (.func 81) #[.pointer (some ⟨w.heap.size + 1, 0, none⟩)] #[], .int .i64 109] 130))) (by omega) Hsm.out (fun x hx => ((Hrd.out x hx).below HB.out).below ((Below.refl wr.heap.size wr).alloc (Nat.le_refl _) (.cells #[.func (.func 81) #[.pointer (some ⟨w.heap.size + 1, 0, none⟩)] #[], .int .i64 109] 130))) Hrun.out
      have Hcc := Lib.hid hc
      clear hc
      go_wp2_with fail
      refine Hcc.out.mono ?_
      rintro e W2 ⟨rfl, hb2⟩
      have HB2 := Lib.hid (HB.out.trans (((Below.refl wr.heap.size wr).alloc (Nat.le_refl _) (.cells #[.func (.func 81) #[.pointer (some ⟨w.heap.size + 1, 0, none⟩)] #[], .int .i64 109] 130)).trans (hb2.mono (by simp)) |>.mono HB.out.size))
      clear hb2 Hcc
      go_wp2_with fail
      go_roundw
      case rel => exact ⟨10, by omega, by go_num, HB2.out⟩
      case measure => simp [intOf]
    · go_wp2_with fail
      go_ret
      exact ⟨rfl, HB1.out.trans (HB.out.mono HB1.out.size)⟩
end Go.Proofs.YtknojjlfgjkbiaaGreatDoor
/- format.word on words of one letter; check.Check on the example's causes. -/
namespace Go.Proofs.YtknojjlfgjkbiaaGreatDoor
open Go.ChangeShapes Go.WideShapes Go.ChangeAt Go.RowKit
attribute [local go_sem] Oper.semAt_some

set_option maxRecDepth 100000 in
theorem word_c (s : ByteArray) (b : Int) (w : World) (hl : LetB s b) : Calls Tryz.prog 256 #[.string s] w fun e w' => e = .returned (.bool true) ∧ Below w.heap.size w w' := by
  have hx := lexOne_c s b w hl
  have hself : (s.toList == s.toList) = true := str_eq rfl
  have Hx := Lib.hid hx
  clear hx hl
  go_enter Tryz.func256, Tryz.ntmps256
  go_wp2_with fail
  refine Hx.out.mono ?_
  rintro e w1 ⟨br, c, rfl, c0, c1, hb⟩
  go_wp2_with fail
  go_ret
  exact ⟨rfl, hb⟩
theorem let117 : LetB ⟨#[117]⟩ 117 := ⟨by kernel_rfl, by kernel_rfl, by kernel_rfl, by kernel_rfl, by kernel_rfl, by kernel_rfl, by kernel_rfl⟩
theorem let119 : LetB ⟨#[119]⟩ 119 := ⟨by kernel_rfl, by kernel_rfl, by kernel_rfl, by kernel_rfl, by kernel_rfl, by kernel_rfl, by kernel_rfl⟩
theorem let120 : LetB ⟨#[120]⟩ 120 := ⟨by kernel_rfl, by kernel_rfl, by kernel_rfl, by kernel_rfl, by kernel_rfl, by kernel_rfl, by kernel_rfl⟩
theorem let121 : LetB ⟨#[121]⟩ 121 := ⟨by kernel_rfl, by kernel_rfl, by kernel_rfl, by kernel_rfl, by kernel_rfl, by kernel_rfl, by kernel_rfl⟩
theorem let122 : LetB ⟨#[122]⟩ 122 := ⟨by kernel_rfl, by kernel_rfl, by kernel_rfl, by kernel_rfl, by kernel_rfl, by kernel_rfl, by kernel_rfl⟩
theorem wordOk : WordOk := fun s hs w => by
  simp only [oneL, Bool.or_eq_true, decide_eq_true_eq] at hs
  rcases hs with rfl | rfl | rfl | rfl | rfl
  · exact word_c _ _ w let117
  · exact word_c _ _ w let119
  · exact word_c _ _ w let120
  · exact word_c _ _ w let121
  · exact word_c _ _ w let122
theorem exL_small : ∀ c ∈ exL, SmallC c := by
  intro c hc
  simp only [exL, List.mem_cons, List.not_mem_nil, or_false] at hc
  rcases hc with rfl | rfl | rfl
  · exact ⟨by decide, by intro r hr; simp at hr; rcases hr with rfl | rfl <;> decide, by intro r hr; simp at hr; subst hr; decide, by decide, by decide, by decide⟩
  · exact ⟨by decide, by intro r hr; simp at hr; subst hr; decide, by intro r hr; simp at hr, by decide, by decide, by decide⟩
  · exact ⟨by decide, by intro r hr; simp at hr; subst hr; decide, by intro r hr; simp at hr; subst hr; decide, by decide, by decide, by decide⟩
/-- the rule on causes looks at the causes alone. -/
def hasUC (R : List Cs) (u : ByteArray) : Bool := R.any fun x => seqB x.unit u
def staysC (L R : List Cs) (x : Cs) : Bool := R.any fun y => seqB y.unit x.unit && !(y.excl.all fun u => hasUC L u && !hasUC R u)
def runCC (L : List Cs) : Nat → Int → List Cs → Bool
  | 0, _, _ => false
  | f + 1, n, R => if n = R.length then decide (R.length = 0) else runCC L f R.length (R.filter (staysC L R))
theorem hasU_cs (R : List CsV) (u : ByteArray) : hasU R u = hasUC (csOf R) u := by unfold hasU hasUC csOf; rw [List.any_map]; rfl
theorem stays_cs (L R : List CsV) (x : CsV) : staysV L R x = staysC (csOf L) (csOf R) x.c := by
  unfold staysV staysC csOf
  rw [List.any_map]
  congr 1
  funext y
  simp only [Function.comp, openV, fineV]
  congr 2
  congr 1
  funext u
  rw [hasU_cs, hasU_cs]
theorem runC_cs (L : List CsV) : ∀ (f : Nat) (n : Int) (R : List CsV), runC L f n R = runCC (csOf L) f n (csOf R)
  | 0, _, _ => rfl
  | f + 1, n, R => by
    have hlen : (csOf R).length = R.length := by simp [csOf]
    have hf : csOf (R.filter (staysV L R)) = (csOf R).filter (staysC (csOf L) (csOf R)) := by
      unfold csOf
      rw [List.filter_map]
      congr 1
      apply List.filter_congr
      intro x _
      exact stays_cs L R x
    rw [runC, runCC, hlen, runC_cs L f, hf]
theorem exL_run : runCC exL 10 (-1) exL = true := by kernel_rfl
theorem checkEx (A : Option Addr) (L : List CsV) (c : Nat) (w : World) (hL : csOf L = exL) (hr : RdCs w w.heap.size A L) :
    Calls Tryz.prog 40 #[.agg #[.slice none 0 0, .slice none 0 0, .slice none 0 0, .slice none 0 0, .slice none 0 0, .slice none 0 0, .slice A L.length c, .slice none 0 0]] w fun e w' => e = .returned (.int .i64 0) ∧ Below w.heap.size w w' := by
  have hlen : L.length = 3 := by have := congrArg List.length hL; simpa [csOf, exL] using this
  refine check_c wordOk A L c 10 w hr (by omega) (fun x hx => exL_small _ (hL ▸ List.mem_map_of_mem hx)) (fun x hx => ?_) (by rw [runC_cs, hL]; exact exL_run)
  obtain ⟨i, hi, rfl⟩ := List.getElem_of_mem hx
  obtain ⟨b, o, _, _, hc⟩ := hr (by omega)
  exact (hc i hi).2.2.2
end Go.Proofs.YtknojjlfgjkbiaaGreatDoor
