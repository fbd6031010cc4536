/- The contract of awake. -/
import Derived.Test.YtlmbffnmjfbglaaX1
namespace Go.Proofs.Ytlmbffnmjfbglaa
open Go.ChangeShapes Go.WideShapes Go.ChangeAt Go.RowKit

theorem RdInt.new (w : World) (l : List Int) (_hl : 0 < l.length) : RdInt (w.alloc (.cells (l.map (Value.int .i64)).toArray 3)) (w.heap.size + 1) (some ⟨w.heap.size, 0, none⟩) l := fun _ =>
  ⟨w.heap.size, 0, rfl, by omega, fun i hi => by
    rw [(Blk.new w 3 _).cell]; simp [hi]⟩

set_option maxRecDepth 100000 in
set_option maxHeartbeats 2000000 in
theorem awake_c (w : World) : Calls Try.prog 12 #[] w fun e w' => e = .returned (.bool true) ∧ Below w.heap.size w w' := by
  have hs := fun o p l W => slot_c o p l W
  have hm1 : ∀ W, Calls Try.prog 21 #[.agg #[.int .i64 0, .int .i64 4, .int .i64 1], .agg #[.int .i64 2, .int .i64 6, .int .i64 1]] W fun e w' => e = .returned (.tuple #[.int .i64 8, .bool true]) ∧ Below W.heap.size W w' := fun W => meet_c _ _ _ awake_meet1 W
  have hm2 : ∀ W, Calls Try.prog 21 #[.agg #[.int .i64 0, .int .i64 4, .int .i64 2], .agg #[.int .i64 1, .int .i64 6, .int .i64 1]] W fun e w' => e = .returned (.tuple #[.int .i64 1, .bool true]) ∧ Below W.heap.size W w' := fun W => meet_c _ _ _ awake_meet2 W
  have hd1 : ∀ W, Calls Try.prog 20 #[.agg #[.int .i64 0, .int .i64 4, .int .i64 1], .agg #[.int .i64 1, .int .i64 6, .int .i64 1]] W fun e w' => e = .returned (.bool true) ∧ Below W.heap.size W w' := fun W => by have := disj_c ⟨0, 4, 1⟩ ⟨1, 6, 1⟩ W; rwa [awake_d1] at this
  have hd2 : ∀ W, Calls Try.prog 20 #[.agg #[.int .i64 0, .int .i64 4, .int .i64 2], .agg #[.int .i64 1, .int .i64 6, .int .i64 1]] W fun e w' => e = .returned (.bool false) ∧ Below W.heap.size W w' := fun W => by have := disj_c ⟨0, 4, 2⟩ ⟨1, 6, 1⟩ W; rwa [awake_d2] at this
  go_enter Try.func12, Try.ntmps12
  go_wp2_with fail
  refine (hs 0 4 1 w).mono ?_
  rintro e w1 ⟨rfl, hb1⟩
  go_wp2_with fail
  refine (hs 2 6 1 w1).mono ?_
  rintro e w2 ⟨rfl, hb2⟩
  have hB2 := hb1.trans (hb2.mono hb1.size)
  clear hb1 hb2
  go_wp2_with fail
  refine (hm1 w2).mono ?_
  rintro e w3 ⟨rfl, hb3⟩
  have hB3 := hB2.trans (hb3.mono hB2.size)
  clear hB2 hb3 hm1
  go_wp2_with fail
  refine (hs 0 4 2 w3).mono ?_
  rintro e w4 ⟨rfl, hb4⟩
  have hB4 := hB3.trans (hb4.mono hB3.size)
  clear hB3 hb4
  go_wp2_with fail
  refine (hs 1 6 1 w4).mono ?_
  rintro e w5 ⟨rfl, hb5⟩
  have hB5 := hB4.trans (hb5.mono hB4.size)
  clear hB4 hb5
  go_wp2_with fail
  refine (hm2 w5).mono ?_
  rintro e w6 ⟨rfl, hb6⟩
  have hB6 := hB5.trans (hb6.mono hB5.size)
  clear hB5 hb6 hm2
  go_wp2_with fail
  refine nameC fun W0 hW0 => ?_
  have hB7 : Below w.heap.size w W0 := by subst hW0; exact hB6.alloc hB6.size _
  have hr0 : RdInt W0 W0.heap.size (some ⟨w6.heap.size, 0, none⟩) [4, 1, 6, 1] := by
    subst hW0; rw [World.size_alloc]; exact RdInt.new w6 [4, 1, 6, 1] (by decide)
  clear hW0 hB6
  refine (module_c 12 [4, 1, 6, 1] _ 4 W0 hr0 (by decide)).mono ?_
  rintro e w7 ⟨A1, c1, rfl, hp1, hb1⟩
  have hB8 := hB7.trans (hb1.mono hB7.size)
  clear hB7 hb1 hr0
  go_wp2_with fail
  refine nameC fun W1 hW1 => ?_
  have hB9 : Below w.heap.size w W1 := by subst hW1; exact hB8.alloc hB8.size _
  have hr1 : RdInt W1 W1.heap.size (some ⟨w7.heap.size, 0, none⟩) [0, 1] := by
    subst hW1; rw [World.size_alloc]; exact RdInt.new w7 [0, 1] (by decide)
  have hp2 : RdPart W1 W1.heap.size A1 awakeParts := by subst hW1; exact hp1.below ((Below.refl _ _).alloc (Nat.le_refl _) _)
  clear hW1 hB8 hp1
  refine (table_c ⟨#[]⟩ 0 12 awakeParts A1 c1 [0, 1] (some ⟨w7.heap.size, 0, none⟩) 2 W1 hp2 hr1 (by decide) (by decide)).mono ?_
  rintro e w8 ⟨A2, c2, q, rfl, hq, hrd, hb2⟩
  obtain rfl := awake_table q hq
  have hB10 := hB9.trans (hb2.mono hB9.size)
  clear hB9 hr1 hp2 hq hb2
  have hnx := next_c awakeWins A2 c2 12 9 w8 hrd (by decide)
  rw [awake_next] at hnx
  go_wp2_with fail
  refine hnx.mono ?_
  rintro e w9 ⟨rfl, hb9⟩
  have hB11 := hB10.trans (hb9.mono hB10.size)
  have hrd1 := hrd.below hb9
  clear hnx hB10 hb9 hrd
  go_wp2_with fail
  refine nameC fun W2 hW2 => ?_
  have hB12 : Below w.heap.size w W2 := by subst hW2; exact hB11.alloc hB11.size _
  have hrd2 : RdG Win.tri W2 W2.heap.size A2 awakeWins := by subst hW2; exact hrd1.below ((Below.refl _ _).alloc (Nat.le_refl _) _)
  have hbx : Blk W2 w9.heap.size 31 #[.int .i64 0, .int .i64 0, .int .i64 1] := by subst hW2; exact Blk.new w9 31 _
  clear hW2 hB11 hrd1
  have how := owner_c awakeWins A2 c2 12 19 W2 hrd2 (by decide)
  rw [awake_owner] at how
  refine how.mono ?_
  rintro e w10 ⟨rfl, hb10⟩
  have hB13 := hB12.trans (hb10.mono hB12.size)
  have hrd3 := hrd2.below hb10
  have hbx1 := hbx.below hb10 hbx.lt
  clear how hB12 hrd2 hbx hb10
  generalize w9.heap.size = Bx at hbx1 ⊢
  go_wp2_with fail
  refine nameW fun W3 hW3 => ?_
  have hB14 : Below w.heap.size w W3 := by subst hW3; exact hB13.alloc hB13.size _
  have hrd4 : RdG Win.tri W3 W3.heap.size A2 awakeWins := by subst hW3; exact hrd3.below ((Below.refl _ _).alloc (Nat.le_refl _) _)
  have hbx2 : Blk W3 Bx 31 #[.int .i64 0, .int .i64 0, .int .i64 1] := by subst hW3; exact hbx1.alloc _
  have hwb : Blk W3 w10.heap.size 31 #[.int .i64 0, .int .i64 0, .int .i64 1, .int .i64 1, .int .i64 1, .int .i64 1, .int .i64 0, .int .i64 4, .int .i64 1, .int .i64 1, .int .i64 7, .int .i64 1, .int .i64 0, .int .i64 8, .int .i64 1] := by subst hW3; exact Blk.new w10 31 _
  have hrw : RdG Win.tri W3 W3.heap.size (some ⟨w10.heap.size, 0, none⟩) awakeWins := by
    refine fun _ => ⟨w10.heap.size, 0, rfl, hwb.lt, fun i hi => ?_⟩
    have hi5 : i < 5 := hi
    rw [hwb.cell, hwb.cell, hwb.cell]
    match i, hi5 with
    | 0, _ => exact ⟨rfl, rfl, rfl⟩
    | 1, _ => exact ⟨rfl, rfl, rfl⟩
    | 2, _ => exact ⟨rfl, rfl, rfl⟩
    | 3, _ => exact ⟨rfl, rfl, rfl⟩
    | 4, _ => exact ⟨rfl, rfl, rfl⟩
  have hsame : ∀ x : Ext W3, Calls Try.prog 32 #[.slice A2 awakeWins.length c2, .slice (some ⟨w10.heap.size, 0, none⟩) 5 5] x.w fun e w' => e = .returned (.bool true) ∧ Below x.w.heap.size x.w w' := fun x => by
    have := sameWin_c awakeWins awakeWins A2 (some ⟨w10.heap.size, 0, none⟩) c2 5 x.w (hrd4.below x.h) (hrw.below x.h) (by decide) (by decide)
    rwa [sameWin_iff.2 rfl] at this
  have heq : ∀ W, (binOp .eql 31 (.agg #[.int .i64 0, .int .i64 0, .int .i64 1]) (.agg #[.int .i64 0, .int .i64 0, .int .i64 1])).run Try.prog W = .ok (.bool true) W := fun W => eql_Win ⟨0, 0, 1⟩ ⟨0, 0, 1⟩ W
  have hgd := guard_Win
  have p0 : W3.cell? ⟨Bx, 0, none⟩ = some (.int .i64 0) := hbx2.cell 0
  have p1 : W3.cell? ⟨Bx, 1, none⟩ = some (.int .i64 0) := hbx2.cell 1
  have p2 : W3.cell? ⟨Bx, 2, none⟩ = some (.int .i64 1) := hbx2.cell 2
  have q0 : W3.cell? ⟨w10.heap.size, 0, none⟩ = some (.int .i64 0) := hwb.cell 0
  have q1 : W3.cell? ⟨w10.heap.size, 1, none⟩ = some (.int .i64 0) := hwb.cell 1
  have q2 : W3.cell? ⟨w10.heap.size, 2, none⟩ = some (.int .i64 1) := hwb.cell 2
  have z1 : Bx < W3.heap.size := hbx2.lt
  have z2 : w10.heap.size < W3.heap.size := hwb.lt
  clear hW3 hB13 hrd3 hbx1 hrd4 hbx2 hwb hrw
  generalize w10.heap.size = Bw at *
  have hec := ext_cell W3
  refine wp_region_ext (by kernel_rfl) (by kernel_rfl) ?_
  repeat (go_big_quiet_step ((first | (go_at_call 26; exact ext_call (hs _ _ _ _)) | (go_at_call 20; first | with_reducible exact ext_call (hd1 _) | with_reducible exact ext_call (hd2 _)) | (go_at_call 32; exact ext_call (hsame _)))))
  refine wpQuiet_nil ?_
  rintro w' ⟨x, rfl⟩
  have hx := x.h
  clear hec hsame hs hd1 hd2 heq
  generalize x.w = w' at hx ⊢
  go_wp2
  go_ret
  exact ⟨rfl, hB14.trans (hx.mono hB14.size)⟩
end Go.Proofs.Ytlmbffnmjfbglaa
