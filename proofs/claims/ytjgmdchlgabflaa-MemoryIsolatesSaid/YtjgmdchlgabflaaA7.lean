/- The contract of awake: the example of the chapter. -/
import Derived.Test.YtjgmdchlgabflaaA6
namespace Go.Proofs.Ytjgmdchlgabflaa
open Go.ChangeShapes Go.WideShapes Go.ChangeAt Go.RowKit

theorem RdInt.new (w : World) (l : List Int) (_hl : 0 < l.length) : RdInt (w.alloc (.cells (l.map (Value.int .i64)).toArray 3)) (w.heap.size + 1) (some ⟨w.heap.size, 0, none⟩) l := fun _ =>
  ⟨w.heap.size, 0, rfl, by omega, fun i hi => by
    rw [(Blk.new w 3 _).cell]; simp [hi]⟩

def awakeRegs : List Reg := [⟨0, 0, 5⟩, ⟨1, 8, 0⟩, ⟨2, 8, 8⟩, ⟨3, 16, 3⟩]
theorem awake1 : layV 32 ([5, 0, 8, 3].map fun s => (mkPart s).mem) = (awakeRegs, 0) := by kernel_rfl
theorem awake2 : layV 18 ([5, 0, 8, 3].map fun s => (mkPart s).mem) = ([], 4) := by kernel_rfl
theorem awake3 : transV awakeRegs 2 7 = (15, 0) := by kernel_rfl
theorem awake4 : transV awakeRegs 2 8 = (0, 110) := by kernel_rfl
theorem awake5 : transV awakeRegs 4 0 = (0, 6) := by kernel_rfl
theorem awake6 : ownV awakeRegs 17 = (3, 1, true) := by kernel_rfl
theorem awake7 : ownV awakeRegs 5 = (0, 0, false) := by kernel_rfl

/-- module and Layout, one behind the other: what Layout returns of a module that the statements made. -/
theorem lay_of_made (mem : Int) (ss : List Int) (A : Option Addr) (c n : Nat) (q : List Reg × Int) (w : World) (h : RdPart w w.heap.size A (ss.map mkPart)) (hn : ss.length = n) (hl : n ≤ 1000) (hq : layV mem (ss.map fun s => (mkPart s).mem) = q) :
    Calls Try.prog 16 #[.agg #[.string ⟨#[]⟩, .int .i64 mem, .int .i64 0, .slice A n c]] w (RetRegs w q) := by
  have hI := layout_c ⟨#[]⟩ mem 0 (ss.map mkPart) A c w h (by simp; omega)
  rw [List.map_map, List.length_map, hn] at hI
  have e : layV mem (List.map (Part.mem ∘ mkPart) ss) = q := hq
  rw [e] at hI
  exact hI

set_option maxRecDepth 100000 in
set_option maxHeartbeats 1000000 in
theorem awake_c (w : World) : Calls Try.prog 10 #[] w fun e w' => e = .returned (.bool true) ∧ Below w.heap.size w w' := by
  go_enter Try.func10, Try.ntmps10
  go_wp2_with fail
  refine nameC fun W0 hW0 => ?_
  have hB0 : Below w.heap.size w W0 := by subst hW0; exact (Below.refl _ _).alloc (Nat.le_refl _) _
  have hr0 : RdInt W0 W0.heap.size (some ⟨w.heap.size, 0, none⟩) [5, 0, 8, 3] := by
    subst hW0; rw [World.size_alloc]; exact RdInt.new w [5, 0, 8, 3] (by decide)
  refine (module_c 32 [5, 0, 8, 3] _ 4 W0 hr0 (by decide)).mono ?_
  rintro e w1 ⟨A1, c1, rfl, hp1, hb1⟩
  have hB1 := hB0.trans (hb1.mono hB0.size)
  clear hW0 hr0 hB0 hb1
  go_wp2_with fail
  refine (lay_of_made 32 [5, 0, 8, 3] A1 c1 4 _ w1 hp1 rfl (by decide) awake1).mono ?_
  clear hp1
  rintro e w2 ⟨A2, c2, rfl, hr2, hb2⟩
  have hB2 := hB1.trans (hb2.mono hB1.size)
  clear hB1 hb2
  go_wp2_with fail
  refine nameC fun W0 hW0 => ?_
  have hB3 : Below w.heap.size w W0 := by subst hW0; exact hB2.alloc hB2.size _
  have hr0 : RdInt W0 W0.heap.size (some ⟨w2.heap.size, 0, none⟩) [5, 0, 8, 3] := by
    subst hW0; rw [World.size_alloc]; exact RdInt.new w2 [5, 0, 8, 3] (by decide)
  have hr3 : RdReg W0 W0.heap.size A2 awakeRegs := by subst hW0; exact hr2.below ((Below.refl _ _).alloc (Nat.le_refl _) _)
  clear hr2 hB2
  refine (module_c 18 [5, 0, 8, 3] _ 4 W0 hr0 (by decide)).mono ?_
  rintro e w3 ⟨A3, c3, rfl, hp3, hb3⟩
  have hB4 := hB3.trans (hb3.mono hB3.size)
  have hr4 := hr3.below hb3
  clear hW0 hr0 hB3 hb3 hr3
  go_wp2_with fail
  refine (lay_of_made 18 [5, 0, 8, 3] A3 c3 4 _ w3 hp3 rfl (by decide) awake2).mono ?_
  clear hp3
  rintro e w4 ⟨A4, c4, rfl, _, hb4⟩
  have hB5 := hB4.trans (hb4.mono hB4.size)
  have hr5 := hr4.below hb4
  clear hB4 hr4 hb4
  have hT := Translate_c 2 7 awakeRegs A2 c2 w4 hr5 (by decide)
  rw [awake3] at hT
  go_wp2_with fail
  refine hT.mono ?_
  clear hT
  rintro e w5 ⟨rfl, hb5⟩
  have hB6 := hB5.trans (hb5.mono hB5.size)
  have hr6 := hr5.below hb5
  clear hB5 hr5 hb5
  have hT := Translate_c 2 8 awakeRegs A2 c2 w5 hr6 (by decide)
  rw [awake4] at hT
  go_wp2_with fail
  refine hT.mono ?_
  clear hT
  rintro e w6 ⟨rfl, hb5⟩
  have hB7 := hB6.trans (hb5.mono hB6.size)
  have hr7 := hr6.below hb5
  clear hB6 hr6 hb5
  have hT := Translate_c 4 0 awakeRegs A2 c2 w6 hr7 (by decide)
  rw [awake5] at hT
  go_wp2_with fail
  refine hT.mono ?_
  clear hT
  rintro e w7 ⟨rfl, hb5⟩
  have hB8 := hB7.trans (hb5.mono hB7.size)
  have hr8 := hr7.below hb5
  clear hB7 hr7 hb5
  have hT := Owner_c 17 awakeRegs A2 c2 w7 hr8 (by decide)
  rw [awake6] at hT
  go_wp2_with fail
  refine hT.mono ?_
  clear hT
  rintro e w8 ⟨rfl, hb5⟩
  have hB9 := hB8.trans (hb5.mono hB8.size)
  have hr9 := hr8.below hb5
  clear hB8 hr8 hb5
  have hT := Owner_c 5 awakeRegs A2 c2 w8 hr9 (by decide)
  rw [awake7] at hT
  go_wp2_with fail
  refine hT.mono ?_
  clear hT
  rintro e w9 ⟨rfl, hb5⟩
  have hB10 := hB9.trans (hb5.mono hB9.size)
  have hr10 := hr9.below hb5
  clear hB9 hr9 hb5
  go_wp2_with fail
  refine nameC fun W0 hW0 => ?_
  have hB11 : Below w.heap.size w W0 := by subst hW0; exact hB10.alloc hB10.size _
  have hr11 : RdReg W0 W0.heap.size A2 awakeRegs := by subst hW0; exact hr10.below ((Below.refl _ _).alloc (Nat.le_refl _) _)
  have hs11 : RdReg W0 W0.heap.size (some ⟨w9.heap.size, 0, none⟩) awakeRegs := by
    subst hW0
    refine fun _ => ⟨w9.heap.size, 0, rfl, by simp, fun i hi => ?_⟩
    have hi4 : i < 4 := hi
    rw [(Blk.new w9 42 _).cell, (Blk.new w9 42 _).cell, (Blk.new w9 42 _).cell]
    match i, hi4 with
    | 0, _ => exact ⟨rfl, rfl, rfl⟩
    | 1, _ => exact ⟨rfl, rfl, rfl⟩
    | 2, _ => exact ⟨rfl, rfl, rfl⟩
    | 3, _ => exact ⟨rfl, rfl, rfl⟩
  clear hW0 hB10 hr10
  refine (same_c awakeRegs awakeRegs A2 _ c2 4 W0 hr11 hs11 (by decide) (by decide)).mono ?_
  rw [sameB_iff.2 rfl]
  rintro e w10 ⟨rfl, hb5⟩
  have hB12 := hB11.trans (hb5.mono hB11.size)
  clear hB11 hr11 hs11 hb5
  go_wp2
  go_ret
  exact ⟨rfl, hB12⟩
end Go.Proofs.Ytjgmdchlgabflaa
