/- Texts K8 K9 K10, joined. -/
import Derived.StillTailTactics
import Derived.BigQuiet
import Derived.Test.YtnbnkhockoflgaaGreatDoorJ22
import Derived.Test.YtnbnkhockoflgaaGreatDoorJ25
import Derived.Test.YtnbnkhockoflgaaGreatDoorJ24
set_option linter.unusedSimpArgs false
set_option linter.unusedVariables false
set_option linter.unusedSectionVars false
/- The checker's rule on limits. -/
namespace Go.Proofs.YtnbnkhockoflgaaGreatDoor
open Go.ChangeShapes Go.WideShapes Go.ChangeAt Go.RowKit
attribute [local go_sem] Oper.semAt_some

theorem limrep_c (r : Rep) (w : World) (h1 : r.code ≤ 255) : Calls Tryz.prog 88 #[r.val] w fun e w' => e = .returned (.bool true) ∧ Below w.heap.size w w' := by
  have hd : decide (r.code ≤ 255) = true := decide_eq_true h1
  dsimp only [Rep.val]
  go_enter Tryz.func88, Tryz.ntmps88
  go_wp2
  go_ret
  exact ⟨rfl, (Below.refl _ w).alloc (Nat.le_refl _) _⟩
/-- the numbers of a slice made for a call. -/
theorem rdInt_new (W : World) (l : List Int) : RdInt (W.alloc (.cells (l.map (Value.int .i64)).toArray 3)) (W.alloc (.cells (l.map (Value.int .i64)).toArray 3)).heap.size (some ⟨W.heap.size, 0, none⟩) l := fun _ =>
  ⟨W.heap.size, 0, rfl, by simp, fun i hi => by
    have := (Blk.new W 3 (l.map (Value.int .i64)).toArray).cell i
    rw [Nat.zero_add, this]
    simp [hi]⟩
set_option maxRecDepth 100000 in
set_option maxHeartbeats 1000000 in
theorem limcause_c (Bx : Nat) (x : CsV) (w : World) (hb : Blk w Bx 98 #[.func (.func 88) #[] #[]]) (hx : x.rd w w.heap.size) (hok : SmallC x.c) :
    Calls Tryz.prog 89 #[x.val, .pointer (some ⟨Bx, 0, none⟩)] w fun e w' => e = .returned (.bool true) ∧ Below w.heap.size w w' := by
  obtain ⟨w1, hw1⟩ : ∃ w1, w1 = w.alloc (.cells #[.string x.c.unit, .slice x.n.a x.n.n x.n.c, .slice x.x.a x.x.n x.x.c] 33) := ⟨_, rfl⟩
  have hB1 : Below w.heap.size w w1 := by rw [hw1]; exact (Below.refl _ _).alloc (Nat.le_refl _) _
  have hbx : Blk w1 w.heap.size 33 #[.string x.c.unit, .slice x.n.a x.n.n x.n.c, .slice x.x.a x.x.n x.x.c] := by rw [hw1]; exact Blk.new w _ _
  have hb1 := hb.below hB1 hb.lt
  have hz1 : w1.heap.size = w.heap.size + 1 := by rw [hw1]; simp
  have hwi := within_c 0 8 [(x.n.n : Int), (x.x.n : Int)] (some ⟨w1.heap.size, 0, none⟩) 2 (w1.alloc (.cells #[.int .i64 x.n.n, .int .i64 x.x.n] 3)) (rdInt_new w1 [(x.n.n : Int), (x.x.n : Int)]) (by simp) (fun y hy => by
    have h1 := hok.nl; have h2 := hok.xl; have h3 := hx.nl; have h4 := hx.xl
    simp at hy; rcases hy with rfl | rfl <;> omega)
  rw [hz1] at hwi
  have hal := fun W (hr : RdRep W W.heap.size x.n.a x.c.needs) => all_90 88 #[] (fun _ => true) (enters_of Tryz.func88 (by kernel_rfl) rfl) x.c.needs x.n.a x.n.c W (fun W' r hr' _ => by simpa using limrep_c r W' (hok.n r hr').2.2) hr (by have := hok.nl; omega)
  rw [all_true (fun _ _ => rfl), ← hx.nl] at hal
  have Hal := Lib.hid hal
  have Hwi := Lib.hid hwi
  have Hw1 := Lib.hid hw1
  have HB1 := Lib.hid hB1
  have Hbx := Lib.hid hbx
  have Hb1 := Lib.hid hb1
  have Hz := Lib.hid hz1
  have Hx1 := Lib.hid (hx.below hB1)
  have hblt := hb.lt
  clear hal hwi hw1 hB1 hbx hb1 hz1 hx hok hb
  dsimp only [CsV.val]
  go_enter Tryz.func89, Tryz.ntmps89
  go_wp2_with fail
  rw [← Hw1.out]
  refine Hwi.out.mono ?_
  rintro e w2 ⟨rfl, hb2⟩
  have hB2 : Below w1.heap.size w1 w2 := ((Below.refl _ w1).alloc (Nat.le_refl _) (.cells #[.int .i64 x.n.n, .int .i64 x.x.n] 3)).trans (hb2.mono (by simp))
  have k1 : w2.cell? ⟨w.heap.size, 1, none⟩ = some (.slice x.n.a x.n.n x.n.c) := (Hbx.out.below hB2 Hbx.out.lt).cell 1
  have k2 : w2.cell? ⟨Bx, 0, none⟩ = some (.func (.func 88) #[] #[]) := (Hb1.out.below hB2 Hb1.out.lt).cell 0
  have Hal2 := Lib.hid (Hal.out w2 (Hx1.out.below hB2).n)
  have HB2 := Lib.hid (HB1.out.trans (hB2.mono HB1.out.size))
  clear hb2 hB2 Hal
  go_wp2_with fail
  refine Hal2.out.mono ?_
  rintro e w3 ⟨rfl, hb3⟩
  have HB3 := Lib.hid (HB2.out.trans (hb3.mono HB2.out.size))
  clear hb3
  go_wp2_with fail
  go_ret
  exact ⟨rfl, HB3.out⟩
end Go.Proofs.YtnbnkhockoflgaaGreatDoor
/- The checker's rule on limits: the walk; rows. -/
namespace Go.Proofs.YtnbnkhockoflgaaGreatDoor
open Go.ChangeShapes Go.WideShapes Go.ChangeAt Go.RowKit
attribute [local go_sem] Oper.semAt_some

set_option maxRecDepth 100000 in
theorem rows_c (g : Nat) (A : Option Addr) (n c : Nat) (w : World) (h : CkB w g A n c) : Calls Tryz.prog 66 #[.pointer (some ⟨g, 0, none⟩)] w fun e w' => e = .returned (.bool true) ∧ Below w.heap.size w w' := by
  have hB2 : Below w.heap.size w ((w.alloc (.cells #[.pointer (some ⟨g, 0, none⟩)] 114)).alloc (.cells #[.int .u8 0, .int .u8 0, .int .u8 1, .int .u8 1, .int .u8 2, .int .u8 2, .int .u8 2, .int .u8 3, .int .u8 3] 203)) := ((Below.refl _ w).alloc (Nat.le_refl _) _).alloc (by simp) _
  have hb0 := (Blk.new w 114 #[.pointer (some ⟨g, 0, none⟩)]).alloc (.cells #[.int .u8 0, .int .u8 0, .int .u8 1, .int .u8 1, .int .u8 2, .int .u8 2, .int .u8 2, .int .u8 3, .int .u8 3] 203)
  have hck := Blk.below h hB2 (Blk.lt h)
  have k5 : ((w.alloc (.cells #[.pointer (some ⟨g, 0, none⟩)] 114)).alloc (.cells #[.int .u8 0, .int .u8 0, .int .u8 1, .int .u8 1, .int .u8 2, .int .u8 2, .int .u8 2, .int .u8 3, .int .u8 3] 203)).cell? ⟨g, 5, none⟩ = some (.slice none 0 0) := hck.cell 5
  have HB2 := Lib.hid hB2
  have Hck := Lib.hid hck
  have H0 := Lib.hid hb0
  have hgl := Blk.lt h
  clear h hB2 hck hb0
  go_enter Tryz.func66, Tryz.ntmps66
  go_wp2_with fail
  refine (all0_123 _ _ _ _ _ _).mono ?_
  rintro e W2 ⟨rfl, hb2⟩
  have k7 : W2.cell? ⟨g, 7, none⟩ = some (.slice none 0 0) := (Blk.below Hck.out hb2 (Blk.lt Hck.out)).cell 7
  have c0 : W2.cell? ⟨w.heap.size, 0, none⟩ = some (.pointer (some ⟨g, 0, none⟩)) := (H0.out.below hb2 H0.out.lt).cell 0
  have HB3 := Lib.hid (HB2.out.trans (hb2.mono HB2.out.size))
  clear hb2 k5
  go_wp2_with fail
  refine (all0_124 _ _ _ _ _ _).mono ?_
  rintro e W3 ⟨rfl, hb3⟩
  have HB4 := Lib.hid (HB3.out.trans (hb3.mono HB3.out.size))
  clear hb3
  go_wp2_with fail
  go_ret
  exact ⟨rfl, HB4.out⟩
/-- what lies ahead of the range in limits. -/
def limW (w : World) (g : Nat) : World :=
  (((((w.alloc (.cells #[.bool false] 4)).alloc (.cells #[.func (.func 78) #[] #[]] 136)).alloc (.cells #[.func (.func 80) #[] #[]] 140)).alloc (.cells #[.func (.func 81) #[] #[.pointer (some ⟨w.heap.size + 1, 0, none⟩), .pointer (some ⟨w.heap.size + 1 + 1, 0, none⟩)]] 147)).alloc (.cells #[.func (.func 88) #[] #[]] 98)).alloc (.cells #[.pointer (some ⟨g, 0, none⟩)] 114)
set_option maxRecDepth 100000 in
set_option maxHeartbeats 2000000 in
theorem limits_c (g : Nat) (A : Option Addr) (L : List CsV) (c : Nat) (w : World) (h : CkB w g A L.length c) (hr : RdCs w w.heap.size A L) (hl : L.length ≤ 32) (hok : ∀ x ∈ L, SmallC x.c) : Calls Tryz.prog 59 #[.pointer (some ⟨g, 0, none⟩)] w fun e w' => e = .returned (.bool true) ∧ Below w.heap.size w w' := by
  obtain ⟨w1, hw1⟩ : ∃ w1, w1 = limW w g := ⟨_, rfl⟩
  have hb1 : Below w.heap.size w w1 := by rw [hw1]; unfold limW; exact (((((((Below.refl _ w).alloc (Nat.le_refl _) _).alloc (by simp) _).alloc (by simp; omega) _).alloc (by simp; omega) _).alloc (by simp; omega) _).alloc (by simp; omega) _)
  have hr0 : Blk w1 w.heap.size 4 #[.bool false] := by rw [hw1]; unfold limW; exact (((((Blk.new w _ _).alloc _).alloc _).alloc _).alloc _).alloc _
  have hb9 : Blk w1 (w.heap.size + 4) 98 #[.func (.func 88) #[] #[]] := by
    rw [hw1]; unfold limW
    have := Blk.new ((((w.alloc (.cells #[.bool false] 4)).alloc (.cells #[.func (.func 78) #[] #[]] 136)).alloc (.cells #[.func (.func 80) #[] #[]] 140)).alloc (.cells #[.func (.func 81) #[] #[.pointer (some ⟨w.heap.size + 1, 0, none⟩), .pointer (some ⟨w.heap.size + 1 + 1, 0, none⟩)]] 147)) 98 #[.func (.func 88) #[] #[]]
    simp only [World.size_alloc] at this
    exact this.alloc _
  have hbx : Blk w1 (w.heap.size + 5) 114 #[.pointer (some ⟨g, 0, none⟩)] := by
    rw [hw1]; unfold limW
    have := Blk.new (((((w.alloc (.cells #[.bool false] 4)).alloc (.cells #[.func (.func 78) #[] #[]] 136)).alloc (.cells #[.func (.func 80) #[] #[]] 140)).alloc (.cells #[.func (.func 81) #[] #[.pointer (some ⟨w.heap.size + 1, 0, none⟩), .pointer (some ⟨w.heap.size + 1 + 1, 0, none⟩)]] 147)).alloc (.cells #[.func (.func 88) #[] #[]] 98)) 114 #[.pointer (some ⟨g, 0, none⟩)]
    simp only [World.size_alloc] at this
    exact this
  have hz : w1.heap.size = w.heap.size + 6 := by rw [hw1]; unfold limW; simp
  have hck := Blk.below h hb1 (Blk.lt h)
  have hseq := conn_seq g (w.heap.size + 5) 8 A L.length c w1 (by omega) hbx hck
  have hgl := Blk.lt h
  have Hr := Lib.hid (hr.below hb1)
  have Hw1 := Lib.hid hw1
  have Hb1 := Lib.hid hb1
  have Hr0 := Lib.hid hr0
  have H9 := Lib.hid hb9
  have Hck := Lib.hid hck
  have Hz := Lib.hid hz
  have Hseq := Lib.hid hseq
  have Hok := Lib.hid hok
  clear h hw1 hb1 hr0 hb9 hbx hz hseq hck hr hok
  refine (callsIn_wide (n := 9)).1 ?_
  refine callsIn_of_wp_marks Tryz.func59 rfl trivial ?_ rfl
  simp only [Tryz.ntmps59, List.size_toArray, List.length_cons, List.length_nil, Nat.reduceAdd, Nat.reduceSub, Array.replicate_succ, Array.replicate_zero, List.push_toArray, List.append_toArray, List.nil_append, List.cons_append]
  refine wpIn_wide.2 ?_
  go_wp2_with (go_at_call 91; refine (conns91 _ _).mono ?_; rintro e w' ⟨rfl, hw'⟩)
  have hfold := Hw1.out
  unfold limW at hfold
  rw [← hfold]
  clear hfold
  clear hw'
  refine (wpIn_wide (n := 9)).1 ?_
  refine range_none (gf := 175) (lb := #[.pointer (some ⟨w.heap.size + 5, 0, none⟩)]) rfl (enters_of Tryz.func175 (by kernel_rfl) rfl) Hseq.out fun D W hD hW hk => ?_
  have hz := Hz.out
  have hDlt : D < W.heap.size := by
    rcases Nat.lt_or_ge D W.heap.size with h | h
    · exact h
    · rw [Array.getElem?_eq_none h] at hk; cases hk
  have Hk := Lib.hid hk
  have HW := Lib.hid hW
  have hsW := hW.size
  have facts : ∀ W2, Below w1.heap.size w1 W2 → W2.cell? ⟨g, 0, none⟩ = some (.slice none 0 0) ∧ W2.cell? ⟨g, 1, none⟩ = some (.slice none 0 0) ∧ W2.cell? ⟨g, 2, none⟩ = some (.slice none 0 0) ∧ W2.cell? ⟨g, 3, none⟩ = some (.slice none 0 0) ∧ W2.cell? ⟨g, 4, none⟩ = some (.slice none 0 0) ∧ W2.cell? ⟨g, 5, none⟩ = some (.slice none 0 0) ∧ W2.cell? ⟨g, 6, none⟩ = some (.slice A L.length c) ∧ W2.cell? ⟨g, 7, none⟩ = some (.slice none 0 0) := fun W2 h2 =>
    have hh := Blk.below Hck.out h2 (Blk.lt Hck.out)
    ⟨hh.cell 0, hh.cell 1, hh.cell 2, hh.cell 3, hh.cell 4, hh.cell 5, hh.cell 6, hh.cell 7⟩
  have Hf := Lib.hid facts
  obtain ⟨a0, a1, a2, a3, a4, a5, a6, a7⟩ := facts W hW
  have hwi := within_c 0 32 [0, (L.length : Int), 0] (some ⟨W.drew.heap.size, 0, none⟩) 3 (W.drew.alloc (.cells #[.int .i64 0, .int .i64 L.length, .int .i64 0] 3)) (rdInt_new W.drew [0, (L.length : Int), 0]) (by simp) (fun y hy => by simp at hy; omega)
  have Hwi := Lib.hid hwi
  have hd32 : decide ((L.length : Int) ≤ 32) = true := by simp; omega
  clear hk facts hwi a0 a1 a2 a3 a4 a5 a6 a7
  have hfd := Hf.out W.drew hW.drew
  clear hW
  go_wp2_with fail
  simp only [List.append_eq, List.cons_append, List.nil_append]
  obtain ⟨a0, a1, a2, a3, a4, a5, a6, a7⟩ := hfd
  go_still_tail 62, (by kernel_rfl)
  change wpList _ _ _ _ _ W.drew
  go_wp2_with fail
  refine Hwi.out.mono ?_
  rintro e W2 ⟨rfl, hb2⟩
  have HX2 := Lib.hid (((Below.refl _ W).drew.alloc (Nat.le_refl _) (.cells #[.int .i64 0, .int .i64 L.length, .int .i64 0] 3)).trans (hb2.mono (by simp)))
  have HW2 := Lib.hid (HW.out.trans (HX2.out.mono hsW))
  obtain ⟨b0, b1, b2, b3, b4, b5, b6, b7⟩ := Hf.out W2 HW2.out
  clear a0 a1 a2 a3 a4 a5 a6 a7 hb2 Hwi
  go_wp2_with fail
  refine (all0_92 _ _ _ _ _ _).mono ?_
  rintro e W3 ⟨rfl, hb3⟩
  have HX3 := Lib.hid (HX2.out.trans (hb3.mono HX2.out.size))
  have HW3 := Lib.hid (HW.out.trans (HX3.out.mono hsW))
  obtain ⟨a0, a1, a2, a3, a4, a5, a6, a7⟩ := Hf.out W3 HW3.out
  clear b0 b1 b2 b3 b4 b5 b6 b7 hb3
  go_wp2_with fail
  refine (all0_93 _ _ _ _ _ _).mono ?_
  rintro e W4 ⟨rfl, hb4⟩
  have HX4 := Lib.hid (HX3.out.trans (hb4.mono HX3.out.size))
  have HW4 := Lib.hid (HW.out.trans (HX4.out.mono hsW))
  obtain ⟨b0, b1, b2, b3, b4, b5, b6, b7⟩ := Hf.out W4 HW4.out
  clear a0 a1 a2 a3 a4 a5 a6 a7 hb4
  go_wp2_with fail
  refine (all0_94 _ _ _ _ _ _).mono ?_
  rintro e W5 ⟨rfl, hb5⟩
  have HX5 := Lib.hid (HX4.out.trans (hb5.mono HX4.out.size))
  have HW5 := Lib.hid (HW.out.trans (HX5.out.mono hsW))
  obtain ⟨a0, a1, a2, a3, a4, a5, a6, a7⟩ := Hf.out W5 HW5.out
  have hal := all_95 89 #[.pointer (some ⟨w.heap.size + 4, 0, none⟩)] (fun _ => true) (enters_of Tryz.func89 (by kernel_rfl) rfl) L A c W5 (fun W' x hx hW' hrd => limcause_c (w.heap.size + 4) x W' (H9.out.below (HW5.out.trans (hW'.mono HW5.out.size)) H9.out.lt) hrd (Hok.out x hx)) (Hr.out.below HW5.out) (by omega)
  rw [all_true (fun _ _ => rfl)] at hal
  have Hal := Lib.hid hal
  clear b0 b1 b2 b3 b4 b5 b6 b7 hb5 hal
  go_wp2_with fail
  refine Hal.out.mono ?_
  rintro e W6 ⟨rfl, hb6⟩
  have HX6 := Lib.hid (HX5.out.trans (hb6.mono HX5.out.size))
  have HW6 := Lib.hid (HW.out.trans (HX6.out.mono hsW))
  have Hb0 := Lib.hid (Hr0.out.below HW6.out (by omega))
  have r0 : W6.cell? ⟨w.heap.size, 0, none⟩ = some (.bool false) := Hb0.out.cell 0
  have f0 : W6.frozen? ⟨w.heap.size, 0, none⟩ = false := Hb0.out.frozen 0
  have HB := Lib.hid (Hb1.out.trans (HW6.out.mono Hb1.out.size))
  have Hk6 := Lib.hid ((HX6.out.block D hDlt).trans Hk.out)
  clear a0 a1 a2 a3 a4 a5 a6 a7 hb6
  go_wp2_with fail
  have hz0 : Blk (W6.setCell ⟨w.heap.size, 0, none⟩ (.bool true)) w.heap.size 4 #[.bool true] := by simpa using Hb0.out.set_ 0 (.bool true)
  have Hz0 := Lib.hid hz0
  clear hz0
  refine leaves_marks [D] (W6.setCell ⟨w.heap.size, 0, none⟩ (.bool true)) (w.heap.size + 1) (by simp) (fun E hE => by simp at hE; subst hE; exact ⟨by omega, (Below.heap_setCell W6 ⟨w.heap.size, 0, none⟩ _ E (by simp; omega)).trans Hk6.out⟩) fun W' hSh => ?_
  have z0 : W'.cell? ⟨w.heap.size, 0, none⟩ = some (.bool true) := (Hz0.out.below hSh.below (by omega)).cell 0
  exact ⟨.bool true, by simp [results, Tryz.f59, go_sem, z0], rfl, (HB.out.setCell (p := ⟨w.heap.size, 0, none⟩) (Nat.le_refl _) _).trans (hSh.below.mono (by omega))⟩
end Go.Proofs.YtnbnkhockoflgaaGreatDoor
/- The checker's rule on causes: its closures. -/
namespace Go.Proofs.YtnbnkhockoflgaaGreatDoor
open Go.ChangeShapes Go.WideShapes Go.ChangeAt Go.RowKit
attribute [local go_sem] Oper.semAt_some

def seqB (a b : ByteArray) : Bool := a.toList == b.toList
def hasU (R : List CsV) (u : ByteArray) : Bool := R.any fun x => seqB x.c.unit u
theorem is127 (Bu : Nat) (u : ByteArray) (x : CsV) (w : World) (hb : Blk w Bu 9 #[.string u]) : Calls Tryz.prog 127 #[x.val, .pointer (some ⟨Bu, 0, none⟩)] w fun e w' => e = .returned (.bool (seqB x.c.unit u)) ∧ Below w.heap.size w w' := by
  have c0 : w.cell? ⟨Bu, 0, none⟩ = some (.string u) := hb.cell 0
  have hlt := hb.lt
  unfold seqB
  clear hb
  dsimp only [CsV.val]
  go_enter Tryz.func127, Tryz.ntmps127
  go_wp2
  go_ret
  exact ⟨rfl, (Below.refl _ w).alloc (Nat.le_refl _) _⟩
theorem is129 (Bu : Nat) (u : ByteArray) (x : CsV) (w : World) (hb : Blk w Bu 9 #[.string u]) : Calls Tryz.prog 129 #[x.val, .pointer (some ⟨Bu, 0, none⟩)] w fun e w' => e = .returned (.bool (seqB x.c.unit u)) ∧ Below w.heap.size w w' := by
  have c0 : w.cell? ⟨Bu, 0, none⟩ = some (.string u) := hb.cell 0
  have hlt := hb.lt
  unfold seqB
  clear hb
  dsimp only [CsV.val]
  go_enter Tryz.func129, Tryz.ntmps129
  go_wp2
  go_ret
  exact ⟨rfl, (Below.refl _ w).alloc (Nat.le_refl _) _⟩
/-- what the closures of the rule have captured. -/
structure ClsIn (w : World) (g Br Bk B5 B6 : Nat) (A : Option Addr) (L : List CsV) (c : Nat) (AR : Option Addr) (R : List CsV) (cR : Nat) : Prop where
  k : Blk w Bk 114 #[.pointer (some ⟨g, 0, none⟩)]
  ck : CkB w g A L.length c
  rl : RdCs w w.heap.size A L
  br : Blk w Br 22 #[.slice AR R.length cR]
  rr : RdCs w w.heap.size AR R
  b5 : Blk w B5 99 #[.func (.func 125) #[] #[.pointer (some ⟨Br, 0, none⟩)]]
  b6 : Blk w B6 99 #[.func (.func 128) #[] #[.pointer (some ⟨Bk, 0, none⟩)]]
  ll : L.length ≤ 1000
  lr : R.length ≤ 1000
section
variable {w w' : World} {g Br Bk B5 B6 : Nat} {A : Option Addr} {L : List CsV} {c : Nat} {AR : Option Addr} {R : List CsV} {cR : Nat}
theorem ClsIn.below (h : ClsIn w g Br Bk B5 B6 A L c AR R cR) (hb : Below w.heap.size w w') : ClsIn w' g Br Bk B5 B6 A L c AR R cR :=
  ⟨h.k.below hb h.k.lt, Blk.below h.ck hb (Blk.lt h.ck), h.rl.below hb, h.br.below hb h.br.lt, h.rr.below hb, h.b5.below hb h.b5.lt, h.b6.below hb h.b6.lt, h.ll, h.lr⟩
theorem open125 (u : ByteArray) (w : World) (h : ClsIn w g Br Bk B5 B6 A L c AR R cR) : Calls Tryz.prog 125 #[.string u, .pointer (some ⟨Br, 0, none⟩)] w fun e w' => e = .returned (.bool (hasU R u)) ∧ Below w.heap.size w w' := by
  have h1 := h.below (w' := w.alloc (.cells #[.string u] 9)) ((Below.refl _ w).alloc (Nat.le_refl _) _)
  have hbu := Blk.new w 9 #[.string u]
  have hcon := containsCs126 127 #[.pointer (some ⟨w.heap.size, 0, none⟩)] (fun x => seqB x.c.unit u) (enters_of Tryz.func127 (by kernel_rfl) rfl) R AR cR (w.alloc (.cells #[.string u] 9))
    (fun W x hx hW _ => is127 _ u x W (hbu.below hW hbu.lt)) h1.rr (by have := h.lr; omega)
  have hcon : Calls Tryz.prog 126 #[.slice AR R.length cR, .func (.func 127) #[] #[.pointer (some ⟨w.heap.size, 0, none⟩)]] (w.alloc (.cells #[.string u] 9)) fun e w' => e = .returned (.bool (hasU R u)) ∧ Below (w.alloc (.cells #[.string u] 9)).heap.size (w.alloc (.cells #[.string u] 9)) w' := hcon
  have c0 : (w.alloc (.cells #[.string u] 9)).cell? ⟨Br, 0, none⟩ = some (.slice AR R.length cR) := h1.br.cell 0
  have Hcon := Lib.hid hcon
  have hlt := h.br.lt
  generalize hasU R u = q at *
  clear hcon h1 hbu h
  go_enter Tryz.func125, Tryz.ntmps125
  go_wp2_with fail
  refine Hcon.out.mono ?_
  rintro e w1 ⟨rfl, hb1⟩
  have HB := Lib.hid (((Below.refl _ w).alloc (Nat.le_refl _) (.cells #[.string u] 9)).trans (hb1.mono (by simp)))
  clear hb1 Hcon
  go_wp2
  go_ret
  exact ⟨rfl, HB.out⟩
theorem known128 (u : ByteArray) (w : World) (h : ClsIn w g Br Bk B5 B6 A L c AR R cR) : Calls Tryz.prog 128 #[.string u, .pointer (some ⟨Bk, 0, none⟩)] w fun e w' => e = .returned (.bool (hasU L u)) ∧ Below w.heap.size w w' := by
  have h1 := h.below (w' := w.alloc (.cells #[.string u] 9)) ((Below.refl _ w).alloc (Nat.le_refl _) _)
  have hbu := Blk.new w 9 #[.string u]
  have hcon := containsCs126 129 #[.pointer (some ⟨w.heap.size, 0, none⟩)] (fun x => seqB x.c.unit u) (enters_of Tryz.func129 (by kernel_rfl) rfl) L A c (w.alloc (.cells #[.string u] 9))
    (fun W x hx hW _ => is129 _ u x W (hbu.below hW hbu.lt)) h1.rl (by have := h.ll; omega)
  have hcon : Calls Tryz.prog 126 #[.slice A L.length c, .func (.func 129) #[] #[.pointer (some ⟨w.heap.size, 0, none⟩)]] (w.alloc (.cells #[.string u] 9)) fun e w' => e = .returned (.bool (hasU L u)) ∧ Below (w.alloc (.cells #[.string u] 9)).heap.size (w.alloc (.cells #[.string u] 9)) w' := hcon
  have c0 : (w.alloc (.cells #[.string u] 9)).cell? ⟨Bk, 0, none⟩ = some (.pointer (some ⟨g, 0, none⟩)) := h1.k.cell 0
  have c6 : (w.alloc (.cells #[.string u] 9)).cell? ⟨g, 6, none⟩ = some (.slice A L.length c) := h1.ck.cell 6
  have Hcon := Lib.hid hcon
  have hlt := h.k.lt
  generalize hasU L u = q at *
  clear hcon h1 hbu h
  go_enter Tryz.func128, Tryz.ntmps128
  go_wp2_with fail
  refine Hcon.out.mono ?_
  rintro e w1 ⟨rfl, hb1⟩
  have HB := Lib.hid (((Below.refl _ w).alloc (Nat.le_refl _) (.cells #[.string u] 9)).trans (hb1.mono (by simp)))
  clear hb1 Hcon
  go_wp2
  go_ret
  exact ⟨rfl, HB.out⟩
theorem fine133 (u : ByteArray) (w : World) (h : ClsIn w g Br Bk B5 B6 A L c AR R cR) : Calls Tryz.prog 133 #[.string u, .pointer (some ⟨B6, 0, none⟩), .pointer (some ⟨B5, 0, none⟩)] w fun e w' => e = .returned (.bool (hasU L u && !hasU R u)) ∧ Below w.heap.size w w' := by
  have hk := known128 u w h
  have ho := fun W (hW : Below w.heap.size w W) => open125 u W (h.below hW)
  have c6 : w.cell? ⟨B6, 0, none⟩ = some (.func (.func 128) #[] #[.pointer (some ⟨Bk, 0, none⟩)]) := h.b6.cell 0
  have c5 := fun W (hW : Below w.heap.size w W) => (h.below hW).b5.cell 0
  have Hk := Lib.hid hk
  have Ho := Lib.hid ho
  have H5 := Lib.hid c5
  clear hk ho c5 h
  cases hq : hasU L u with
  | false =>
    rw [hq] at Hk
    clear hq
    go_enter Tryz.func133, Tryz.ntmps133
    go_wp2_with fail
    refine Hk.out.mono ?_
    rintro e w1 ⟨rfl, hb1⟩
    go_wp2_with fail
    go_ret
    exact ⟨rfl, hb1⟩
  | true =>
    rw [hq] at Hk
    clear hq
    generalize hasU R u = q at *
    go_enter Tryz.func133, Tryz.ntmps133
    go_wp2_with fail
    refine Hk.out.mono ?_
    rintro e w1 ⟨rfl, hb1⟩
    have d5 : w1.cell? ⟨B5, 0, none⟩ = some (.func (.func 125) #[] #[.pointer (some ⟨Br, 0, none⟩)]) := H5.out w1 hb1
    have hoo := Ho.out w1 hb1
    have Hoo := Lib.hid hoo
    clear hoo H5 Ho Hk
    go_wp2_with fail
    refine Hoo.out.mono ?_
    rintro e w2 ⟨rfl, hb2⟩
    have HB := Lib.hid (hb1.trans (hb2.mono hb1.size))
    clear hb1 hb2
    go_wp2_with fail
    go_ret
    exact ⟨by cases q <;> rfl, HB.out⟩
def fineV (L R : List CsV) (y : CsV) : Bool := y.c.excl.all fun u => hasU L u && !hasU R u
def openV (L R : List CsV) (x y : CsV) : Bool := seqB y.c.unit x.c.unit && !fineV L R y
theorem opens131 (Bx : Nat) (x y : CsV) (w : World) (h : ClsIn w g Br Bk B5 B6 A L c AR R cR) (hx : Blk w Bx 33 #[.string x.c.unit, .slice x.n.a x.n.n x.n.c, .slice x.x.a x.x.n x.x.c]) (hy : y.rd w w.heap.size) (hyl : y.c.excl.length ≤ 1000) :
    Calls Tryz.prog 131 #[y.val, .pointer (some ⟨Bx, 0, none⟩), .pointer (some ⟨B6, 0, none⟩), .pointer (some ⟨B5, 0, none⟩)] w fun e w' => e = .returned (.bool (openV L R x y)) ∧ Below w.heap.size w w' := by
  have hB1 : Below w.heap.size w (w.alloc (.cells #[.string y.c.unit, .slice y.n.a y.n.n y.n.c, .slice y.x.a y.x.n y.x.c] 33)) := (Below.refl _ w).alloc (Nat.le_refl _) _
  have h1 := h.below hB1
  have hal := all_132 133 #[.pointer (some ⟨B6, 0, none⟩), .pointer (some ⟨B5, 0, none⟩)] (fun u => hasU L u && !hasU R u) (enters_of Tryz.func133 (by kernel_rfl) rfl) y.c.excl y.x.a y.x.c _ (fun W u hu hW => fine133 u W (h1.below hW)) (hy.below hB1).x (by omega)
  rw [← hy.xl] at hal
  have c0 : (w.alloc (.cells #[.string y.c.unit, .slice y.n.a y.n.n y.n.c, .slice y.x.a y.x.n y.x.c] 33)).cell? ⟨Bx, 0, none⟩ = some (.string x.c.unit) := (hx.alloc _).cell 0
  have hal : Calls Tryz.prog 132 #[.slice y.x.a y.x.n y.x.c, .func (.func 133) #[] #[.pointer (some ⟨B6, 0, none⟩), .pointer (some ⟨B5, 0, none⟩)]] (w.alloc (.cells #[.string y.c.unit, .slice y.n.a y.n.n y.n.c, .slice y.x.a y.x.n y.x.c] 33)) fun e w' => e = .returned (.bool (fineV L R y)) ∧ Below (w.alloc (.cells #[.string y.c.unit, .slice y.n.a y.n.n y.n.c, .slice y.x.a y.x.n y.x.c] 33)).heap.size (w.alloc (.cells #[.string y.c.unit, .slice y.n.a y.n.n y.n.c, .slice y.x.a y.x.n y.x.c] 33)) w' := hal
  have Hal := Lib.hid hal
  have hlt := hx.lt
  have HB1 := Lib.hid hB1
  unfold openV
  generalize fineV L R y = q at *
  clear hal h1 hB1 h hx hy
  dsimp only [CsV.val]
  cases hs : seqB y.c.unit x.c.unit with
  | false =>
    have hs' : (y.c.unit.toList == x.c.unit.toList) = false := hs
    clear hs
    go_enter Tryz.func131, Tryz.ntmps131
    go_wp2_with fail
    go_ret
    exact ⟨rfl, HB1.out⟩
  | true =>
    have hs' : (y.c.unit.toList == x.c.unit.toList) = true := hs
    clear hs
    go_enter Tryz.func131, Tryz.ntmps131
    go_wp2_with fail
    refine Hal.out.mono ?_
    rintro e w1 ⟨rfl, hb1⟩
    have HB := Lib.hid (HB1.out.trans (hb1.mono (by simp)))
    clear hb1 Hal
    go_wp2_with fail
    go_ret
    exact ⟨by cases q <;> rfl, HB.out⟩
def staysV (L R : List CsV) (x : CsV) : Bool := R.any fun y => openV L R x y
theorem stays130 (x : CsV) (w : World) (h : ClsIn w g Br Bk B5 B6 A L c AR R cR) (hl : ∀ y ∈ R, y.c.excl.length ≤ 1000) :
    Calls Tryz.prog 130 #[x.val, .pointer (some ⟨Br, 0, none⟩), .pointer (some ⟨B6, 0, none⟩), .pointer (some ⟨B5, 0, none⟩)] w fun e w' => e = .returned (.bool (staysV L R x)) ∧ Below w.heap.size w w' := by
  have hB1 : Below w.heap.size w (w.alloc (.cells #[.string x.c.unit, .slice x.n.a x.n.n x.n.c, .slice x.x.a x.x.n x.x.c] 33)) := (Below.refl _ w).alloc (Nat.le_refl _) _
  have h1 := h.below hB1
  have hbx := Blk.new w 33 #[.string x.c.unit, .slice x.n.a x.n.n x.n.c, .slice x.x.a x.x.n x.x.c]
  have hcon := containsCs126 131 #[.pointer (some ⟨w.heap.size, 0, none⟩), .pointer (some ⟨B6, 0, none⟩), .pointer (some ⟨B5, 0, none⟩)] (fun y => openV L R x y) (enters_of Tryz.func131 (by kernel_rfl) rfl) R AR cR _
    (fun W y hy hW hrd => opens131 w.heap.size x y W (h1.below hW) (hbx.below hW hbx.lt) hrd (hl y hy)) h1.rr (by have := h.lr; omega)
  have hcon : Calls Tryz.prog 126 #[.slice AR R.length cR, .func (.func 131) #[] #[.pointer (some ⟨w.heap.size, 0, none⟩), .pointer (some ⟨B6, 0, none⟩), .pointer (some ⟨B5, 0, none⟩)]] (w.alloc (.cells #[.string x.c.unit, .slice x.n.a x.n.n x.n.c, .slice x.x.a x.x.n x.x.c] 33)) fun e w' => e = .returned (.bool (staysV L R x)) ∧ Below (w.alloc (.cells #[.string x.c.unit, .slice x.n.a x.n.n x.n.c, .slice x.x.a x.x.n x.x.c] 33)).heap.size (w.alloc (.cells #[.string x.c.unit, .slice x.n.a x.n.n x.n.c, .slice x.x.a x.x.n x.x.c] 33)) w' := hcon
  have c0 : (w.alloc (.cells #[.string x.c.unit, .slice x.n.a x.n.n x.n.c, .slice x.x.a x.x.n x.x.c] 33)).cell? ⟨Br, 0, none⟩ = some (.slice AR R.length cR) := h1.br.cell 0
  have Hcon := Lib.hid hcon
  have hlt := h.br.lt
  have HB1 := Lib.hid hB1
  generalize staysV L R x = q at *
  clear hcon h1 hbx hB1 h hl
  dsimp only [CsV.val]
  go_enter Tryz.func130, Tryz.ntmps130
  go_wp2_with fail
  refine Hcon.out.mono ?_
  rintro e w1 ⟨rfl, hb1⟩
  have HB := Lib.hid (HB1.out.trans (hb1.mono (by simp)))
  clear hb1 Hcon
  go_wp2
  go_ret
  exact ⟨rfl, HB.out⟩
end
end Go.Proofs.YtnbnkhockoflgaaGreatDoor
