/- Texts K7 K8 K9, joined. -/
import Derived.StillTailTactics
import Derived.BigQuiet
import Derived.Test.YtknojjlfgjkbiaaGreatDoorH24
import Derived.Test.YtknojjlfgjkbiaaGreatDoorH22
set_option linter.unusedSimpArgs false
set_option linter.unusedVariables false
set_option linter.unusedSectionVars false
/- The checker's rules on code, ports, names. -/
namespace Go.Proofs.YtknojjlfgjkbiaaGreatDoor
open Go.ChangeShapes Go.WideShapes Go.ChangeAt Go.RowKit
attribute [local go_sem] Oper.semAt_some

set_option maxRecDepth 100000 in
set_option maxHeartbeats 1000000 in
theorem codes_c (g : Nat) (A : Option Addr) (n c : Nat) (w : World) (h : CkB w g A n c) : Calls Tryz.prog 76 #[.pointer (some ⟨g, 0, none⟩)] w fun e w' => e = .returned (.bool true) ∧ Below w.heap.size w w' := by
  obtain ⟨w1, hw1⟩ : ∃ w1, w1 = (w.alloc (.cells #[.bool false] 4)).alloc (.cells #[.pointer (some ⟨g, 0, none⟩)] 126) := ⟨_, rfl⟩
  have hb1 : Below w.heap.size w w1 := by rw [hw1]; exact ((Below.refl _ w).alloc (Nat.le_refl _) _).alloc (by simp) _
  have hr0 : Blk w1 w.heap.size 4 #[.bool false] := by rw [hw1]; exact (Blk.new w _ _).alloc _
  have hbx : Blk w1 (w.heap.size + 1) 126 #[.pointer (some ⟨g, 0, none⟩)] := by rw [hw1]; have := Blk.new (w.alloc (.cells #[.bool false] 4)) 126 #[.pointer (some ⟨g, 0, none⟩)]; rwa [World.size_alloc] at this
  have hz : w1.heap.size = w.heap.size + 2 := by rw [hw1]; simp
  have hseq := parts_seq g (w.heap.size + 1) 8 A n c w1 (by omega) hbx (Blk.below h hb1 (Blk.lt h))
  have Hw1 := Lib.hid hw1
  have Hb1 := Lib.hid hb1
  have Hr0 := Lib.hid hr0
  have Hz := Lib.hid hz
  have Hseq := Lib.hid hseq
  clear h hw1 hb1 hr0 hbx hz hseq
  refine (callsIn_wide (n := 9)).1 ?_
  refine callsIn_of_wp_marks Tryz.func76 rfl trivial ?_ rfl
  simp only [Tryz.ntmps76, List.size_toArray, List.length_cons, List.length_nil, Nat.reduceAdd, Nat.reduceSub, Array.replicate_succ, Array.replicate_zero, List.push_toArray, List.append_toArray, List.nil_append, List.cons_append]
  refine wpIn_wide.2 ?_
  go_wp2_with (go_at_call 118; refine (parts96 _ _).mono ?_; rintro e w' ⟨rfl, hw'⟩)
  rw [← Hw1.out]
  clear hw'
  refine (wpIn_wide (n := 9)).1 ?_
  refine range_none (gf := 205) (lb := #[.pointer (some ⟨w.heap.size + 1, 0, none⟩)]) rfl (enters_of Tryz.func205 (by kernel_rfl) rfl) Hseq.out fun D W hD hW hk => ?_
  have hz := Hz.out
  have d0 : W.cell? ⟨w.heap.size, 0, none⟩ = some (.bool false) := (Hr0.out.below hW (by omega)).cell 0
  have f0 : W.frozen? ⟨w.heap.size, 0, none⟩ = false := (Hr0.out.below hW (by omega)).frozen 0
  have Hb0 := Lib.hid (Hr0.out.below hW (by omega))
  have HB := Lib.hid (Hb1.out.trans (hW.mono Hb1.out.size))
  have HW := Lib.hid hW
  have hDlt : D < W.heap.size := by
    rcases Nat.lt_or_ge D W.heap.size with h | h
    · exact h
    · rw [Array.getElem?_eq_none h] at hk; cases hk
  have Hk := Lib.hid hk
  clear hW hk
  go_wp2_with fail
  have hz0 : Blk (W.setCell ⟨w.heap.size, 0, none⟩ (.bool true)) w.heap.size 4 #[.bool true] := by simpa using Hb0.out.set_ 0 (.bool true)
  have Hz0 := Lib.hid hz0
  clear hz0
  refine leaves_marks [D] (W.setCell ⟨w.heap.size, 0, none⟩ (.bool true)) (w.heap.size + 1) (by simp) (fun E hE => by simp at hE; subst hE; exact ⟨by omega, (Below.heap_setCell W ⟨w.heap.size, 0, none⟩ _ E (by simp; omega)).trans Hk.out⟩) fun W' hSh => ?_
  have z0 : W'.cell? ⟨w.heap.size, 0, none⟩ = some (.bool true) := (Hz0.out.below hSh.below (by omega)).cell 0
  exact ⟨.bool true, by simp [results, Tryz.f76, go_sem, z0], rfl, (HB.out.setCell (p := ⟨w.heap.size, 0, none⟩) (Nat.le_refl _) _).trans (hSh.below.mono (by omega))⟩
set_option maxRecDepth 100000 in
set_option maxHeartbeats 1000000 in
theorem ports_c (g : Nat) (A : Option Addr) (n c : Nat) (w : World) (h : CkB w g A n c) : Calls Tryz.prog 78 #[.pointer (some ⟨g, 0, none⟩)] w fun e w' => e = .returned (.bool true) ∧ Below w.heap.size w w' := by
  obtain ⟨w1, hw1⟩ : ∃ w1, w1 = ((((w.alloc (.cells #[.pointer (some ⟨g, 0, none⟩)] 126)).alloc (.cells #[.bool false] 4)).alloc (.map #[] 0)).alloc (.cells #[.map (some (w.heap.size + 2))] 214)).alloc (.cells #[.pointer (some ⟨g, 0, none⟩)] 126) := ⟨_, rfl⟩
  have hb1 : Below w.heap.size w w1 := by rw [hw1]; exact ((((((Below.refl _ w).alloc (Nat.le_refl _) _).alloc (by simp) _).alloc (by simp; omega) _).alloc (by simp; omega) _).alloc (by simp; omega) _)
  have hr0 : Blk w1 (w.heap.size + 1) 4 #[.bool false] := by
    rw [hw1]
    have := Blk.new (w.alloc (.cells #[.pointer (some ⟨g, 0, none⟩)] 126)) 4 #[.bool false]
    rw [World.size_alloc] at this
    exact ((this.alloc _).alloc _).alloc _
  have hbx : Blk w1 (w.heap.size + 4) 126 #[.pointer (some ⟨g, 0, none⟩)] := by
    rw [hw1]
    have := Blk.new ((((w.alloc (.cells #[.pointer (some ⟨g, 0, none⟩)] 126)).alloc (.cells #[.bool false] 4)).alloc (.map #[] 0)).alloc (.cells #[.map (some (w.heap.size + 2))] 214)) 126 #[.pointer (some ⟨g, 0, none⟩)]
    simpa [World.size_alloc] using this
  have hz : w1.heap.size = w.heap.size + 5 := by rw [hw1]; simp
  have hseq := conn_seq g (w.heap.size + 4) 8 A n c w1 (by omega) hbx (Blk.below h hb1 (Blk.lt h))
  have hmk := @run_makeMap Tryz.prog
  have Hw1 := Lib.hid hw1
  have Hb1 := Lib.hid hb1
  have Hr0 := Lib.hid hr0
  have Hz := Lib.hid hz
  have Hseq := Lib.hid hseq
  clear h hw1 hb1 hr0 hbx hz hseq
  refine (callsIn_wide (n := 9)).1 ?_
  refine callsIn_of_wp_marks Tryz.func78 rfl trivial ?_ rfl
  simp only [Tryz.ntmps78, List.size_toArray, List.length_cons, List.length_nil, Nat.reduceAdd, Nat.reduceSub, Array.replicate_succ, Array.replicate_zero, List.push_toArray, List.append_toArray, List.nil_append, List.cons_append]
  refine wpIn_wide.2 ?_
  go_wp2_with (go_at_call 113; refine (conns91 _ _).mono ?_; rintro e w' ⟨rfl, hw'⟩)
  rw [← Hw1.out]
  clear hw'
  refine (wpIn_wide (n := 9)).1 ?_
  refine range_none (gf := 197) (lb := #[.pointer (some ⟨w.heap.size + 4, 0, none⟩)]) rfl (enters_of Tryz.func197 (by kernel_rfl) rfl) Hseq.out fun D W hD hW hk => ?_
  have hz := Hz.out
  have d0 : W.cell? ⟨w.heap.size + 1, 0, none⟩ = some (.bool false) := (Hr0.out.below hW (by omega)).cell 0
  have f0 : W.frozen? ⟨w.heap.size + 1, 0, none⟩ = false := (Hr0.out.below hW (by omega)).frozen 0
  have Hb0 := Lib.hid (Hr0.out.below hW (by omega))
  have HB := Lib.hid (Hb1.out.trans (hW.mono Hb1.out.size))
  have HW := Lib.hid hW
  have hDlt : D < W.heap.size := by
    rcases Nat.lt_or_ge D W.heap.size with h | h
    · exact h
    · rw [Array.getElem?_eq_none h] at hk; cases hk
  have Hk := Lib.hid hk
  clear hW hk
  go_wp2_with fail
  have hz0 : Blk (W.setCell ⟨w.heap.size + 1, 0, none⟩ (.bool true)) (w.heap.size + 1) 4 #[.bool true] := by simpa using Hb0.out.set_ 0 (.bool true)
  have Hz0 := Lib.hid hz0
  clear hz0
  refine leaves_marks [D] (W.setCell ⟨w.heap.size + 1, 0, none⟩ (.bool true)) (w.heap.size + 2) (by simp) (fun E hE => by simp at hE; subst hE; exact ⟨by omega, (Below.heap_setCell W ⟨w.heap.size + 1, 0, none⟩ _ E (by simp; omega)).trans Hk.out⟩) fun W' hSh => ?_
  have z0 : W'.cell? ⟨w.heap.size + 1, 0, none⟩ = some (.bool true) := (Hz0.out.below hSh.below (by omega)).cell 0
  exact ⟨.bool true, by simp [results, Tryz.f78, go_sem, z0], rfl, (HB.out.setCell (p := ⟨w.heap.size + 1, 0, none⟩) (by simp) _).trans (hSh.below.mono (by omega))⟩
set_option maxRecDepth 100000 in
theorem distinct0_106 (A : Option Addr) (c : Nat) (f : Nat) (w : World) : Calls Tryz.prog 128 #[.slice A 0 c, .func (.func f) #[] #[]] w fun e w' => e = .returned (.bool true) ∧ Below w.heap.size w w' := by
  have hmk := @run_makeMap Tryz.prog
  go_enter Tryz.func128, Tryz.ntmps128
  go_wp2_with (go_at_call 114; refine (all0_92 _ _ _ _ _ _).mono ?_; rintro e w' ⟨rfl, hb⟩)
  go_ret
  exact ⟨rfl, ((((Below.refl _ w).alloc (Nat.le_refl _) (.cells #[.func (.func f) #[] #[]] 199)).alloc (by simp) (.map #[] 0)).alloc (by simp; omega) (.cells #[.map (some (w.heap.size + 1))] 79)).trans (hb.mono (by simp; omega))⟩
set_option maxRecDepth 100000 in
theorem distinct0_108 (A : Option Addr) (c : Nat) (f : Nat) (w : World) : Calls Tryz.prog 130 #[.slice A 0 c, .func (.func f) #[] #[]] w fun e w' => e = .returned (.bool true) ∧ Below w.heap.size w w' := by
  have hmk := @run_makeMap Tryz.prog
  go_enter Tryz.func130, Tryz.ntmps130
  go_wp2_with (go_at_call 115; refine (all0_93 _ _ _ _ _ _).mono ?_; rintro e w' ⟨rfl, hb⟩)
  go_ret
  exact ⟨rfl, ((((Below.refl _ w).alloc (Nat.le_refl _) (.cells #[.func (.func f) #[] #[]] 197)).alloc (by simp) (.map #[] 0)).alloc (by simp; omega) (.cells #[.map (some (w.heap.size + 1))] 79)).trans (hb.mono (by simp; omega))⟩
set_option maxRecDepth 100000 in
theorem distinct0_109 (A : Option Addr) (c : Nat) (f : Nat) (w : World) : Calls Tryz.prog 131 #[.slice A 0 c, .func (.func f) #[] #[]] w fun e w' => e = .returned (.bool true) ∧ Below w.heap.size w w' := by
  have hmk := @run_makeMap Tryz.prog
  go_enter Tryz.func131, Tryz.ntmps131
  go_wp2_with (go_at_call 140; refine (all0_118 _ _ _ _ _ _).mono ?_; rintro e w' ⟨rfl, hb⟩)
  go_ret
  exact ⟨rfl, ((((Below.refl _ w).alloc (Nat.le_refl _) (.cells #[.func (.func f) #[] #[]] 204)).alloc (by simp) (.map #[] 0)).alloc (by simp; omega) (.cells #[.map (some (w.heap.size + 1))] 79)).trans (hb.mono (by simp; omega))⟩
set_option maxRecDepth 100000 in
set_option maxHeartbeats 1000000 in
theorem names_c (g : Nat) (A : Option Addr) (n c : Nat) (w : World) (h : CkB w g A n c) : Calls Tryz.prog 74 #[.pointer (some ⟨g, 0, none⟩)] w fun e w' => e = .returned (.bool true) ∧ Below w.heap.size w w' := by
  obtain ⟨w1, hw1⟩ : ∃ w1, w1 = ((w.alloc (.cells #[.pointer (some ⟨g, 0, none⟩)] 126)).alloc (.cells #[.bool false] 4)).alloc (.cells #[.pointer (some ⟨g, 0, none⟩)] 126) := ⟨_, rfl⟩
  have hb1 : Below w.heap.size w w1 := by rw [hw1]; exact ((((Below.refl _ w).alloc (Nat.le_refl _) _).alloc (by simp) _).alloc (by simp; omega) _)
  have hb0 : Blk w1 w.heap.size 126 #[.pointer (some ⟨g, 0, none⟩)] := by rw [hw1]; exact ((Blk.new w _ _).alloc _).alloc _
  have hr0 : Blk w1 (w.heap.size + 1) 4 #[.bool false] := by
    rw [hw1]
    have := Blk.new (w.alloc (.cells #[.pointer (some ⟨g, 0, none⟩)] 126)) 4 #[.bool false]
    rw [World.size_alloc] at this
    exact this.alloc _
  have hbx : Blk w1 (w.heap.size + 2) 126 #[.pointer (some ⟨g, 0, none⟩)] := by
    rw [hw1]
    have := Blk.new ((w.alloc (.cells #[.pointer (some ⟨g, 0, none⟩)] 126)).alloc (.cells #[.bool false] 4)) 126 #[.pointer (some ⟨g, 0, none⟩)]
    simpa [World.size_alloc] using this
  have hz : w1.heap.size = w.heap.size + 3 := by rw [hw1]; simp
  have hck := Blk.below h hb1 (Blk.lt h)
  have hseq := parts_seq g (w.heap.size + 2) 8 A n c w1 (by omega) hbx hck
  have hgl := Blk.lt h
  have Hw1 := Lib.hid hw1
  have Hb1 := Lib.hid hb1
  have Hr0 := Lib.hid hr0
  have H0 := Lib.hid hb0
  have Hck := Lib.hid hck
  have Hz := Lib.hid hz
  have Hseq := Lib.hid hseq
  clear h hw1 hb1 hr0 hb0 hbx hz hseq hck
  refine (callsIn_wide (n := 9)).1 ?_
  refine callsIn_of_wp_marks Tryz.func74 rfl trivial ?_ rfl
  simp only [Tryz.ntmps74, List.size_toArray, List.length_cons, List.length_nil, Nat.reduceAdd, Nat.reduceSub, Array.replicate_succ, Array.replicate_zero, List.push_toArray, List.append_toArray, List.nil_append, List.cons_append]
  refine wpIn_wide.2 ?_
  go_wp2_with (go_at_call 118; refine (parts96 _ _).mono ?_; rintro e w' ⟨rfl, hw'⟩)
  rw [← Hw1.out]
  clear hw'
  refine (wpIn_wide (n := 9)).1 ?_
  refine range_none (gf := 205) (lb := #[.pointer (some ⟨w.heap.size + 2, 0, none⟩)]) rfl (enters_of Tryz.func205 (by kernel_rfl) rfl) Hseq.out fun D W hD hW hk => ?_
  have hz := Hz.out
  have hDlt : D < W.heap.size := by
    rcases Nat.lt_or_ge D W.heap.size with h | h
    · exact h
    · rw [Array.getElem?_eq_none h] at hk; cases hk
  have Hk := Lib.hid hk
  have HW := Lib.hid hW
  have hsW := hW.size
  have facts : ∀ W2, Below w1.heap.size w1 W2 → W2.cell? ⟨w.heap.size, 0, none⟩ = some (.pointer (some ⟨g, 0, none⟩)) ∧ W2.cell? ⟨g, 0, none⟩ = some (.slice none 0 0) ∧ W2.cell? ⟨g, 2, none⟩ = some (.slice none 0 0) ∧ W2.cell? ⟨g, 4, none⟩ = some (.slice none 0 0) := fun W2 h2 =>
    ⟨(H0.out.below h2 H0.out.lt).cell 0, (Blk.below Hck.out h2 (Blk.lt Hck.out)).cell 0, (Blk.below Hck.out h2 (Blk.lt Hck.out)).cell 2, (Blk.below Hck.out h2 (Blk.lt Hck.out)).cell 4⟩
  have Hf := Lib.hid facts
  obtain ⟨a0, a1, a2, a3⟩ := facts W hW
  clear hW hk facts
  go_wp2_with fail
  refine (distinct0_106 _ _ _ _).mono ?_
  rintro e W2 ⟨rfl, hb2⟩
  have HW2 := Lib.hid (HW.out.trans (hb2.mono hsW))
  have HX2 := Lib.hid hb2
  obtain ⟨b0, b1, b2, b3⟩ := Hf.out W2 HW2.out
  clear a0 a1 a2 a3 hb2
  go_wp2_with fail
  refine (distinct0_108 _ _ _ _).mono ?_
  rintro e W3 ⟨rfl, hb3⟩
  have HW3 := Lib.hid (HW2.out.trans (hb3.mono HW2.out.size))
  have HX3 := Lib.hid (HX2.out.trans (hb3.mono HX2.out.size))
  obtain ⟨c0, c1, c2, c3⟩ := Hf.out W3 HW3.out
  clear b0 b1 b2 b3 hb3
  go_wp2_with fail
  refine (all0_92 _ _ _ _ _ _).mono ?_
  rintro e W4 ⟨rfl, hb4⟩
  have HW4 := Lib.hid (HW3.out.trans (hb4.mono HW3.out.size))
  have HX4 := Lib.hid (HX3.out.trans (hb4.mono HX3.out.size))
  obtain ⟨d0, d1, d2, d3⟩ := Hf.out W4 HW4.out
  clear c0 c1 c2 c3 hb4
  go_wp2_with fail
  refine (distinct0_109 _ _ _ _).mono ?_
  rintro e W5 ⟨rfl, hb5⟩
  have HW5 := Lib.hid (HW4.out.trans (hb5.mono HW4.out.size))
  have HX5 := Lib.hid (HX4.out.trans (hb5.mono HX4.out.size))
  have Hb0 := Lib.hid (Hr0.out.below HW5.out (by omega))
  have r0 : W5.cell? ⟨w.heap.size + 1, 0, none⟩ = some (.bool false) := Hb0.out.cell 0
  have f0 : W5.frozen? ⟨w.heap.size + 1, 0, none⟩ = false := Hb0.out.frozen 0
  have HB := Lib.hid (Hb1.out.trans (HW5.out.mono Hb1.out.size))
  have Hk5 := Lib.hid ((HX5.out.block D hDlt).trans Hk.out)
  clear hb5 d0 d1 d2 d3
  go_wp2_with fail
  have hz0 : Blk (W5.setCell ⟨w.heap.size + 1, 0, none⟩ (.bool true)) (w.heap.size + 1) 4 #[.bool true] := by simpa using Hb0.out.set_ 0 (.bool true)
  have Hz0 := Lib.hid hz0
  clear hz0
  refine leaves_marks [D] (W5.setCell ⟨w.heap.size + 1, 0, none⟩ (.bool true)) (w.heap.size + 2) (by simp) (fun E hE => by simp at hE; subst hE; exact ⟨by omega, (Below.heap_setCell W5 ⟨w.heap.size + 1, 0, none⟩ _ E (by simp; omega)).trans Hk5.out⟩) fun W' hSh => ?_
  have z0 : W'.cell? ⟨w.heap.size + 1, 0, none⟩ = some (.bool true) := (Hz0.out.below hSh.below (by omega)).cell 0
  exact ⟨.bool true, by simp [results, Tryz.f74, go_sem, z0], rfl, (HB.out.setCell (p := ⟨w.heap.size + 1, 0, none⟩) (by simp) _).trans (hSh.below.mono (by omega))⟩
end Go.Proofs.YtknojjlfgjkbiaaGreatDoor
/- The checker's rule on limits. -/
namespace Go.Proofs.YtknojjlfgjkbiaaGreatDoor
open Go.ChangeShapes Go.WideShapes Go.ChangeAt Go.RowKit
attribute [local go_sem] Oper.semAt_some

theorem limrep_c (r : Rep) (w : World) (h1 : r.code ≤ 255) : Calls Tryz.prog 110 #[r.val] w fun e w' => e = .returned (.bool true) ∧ Below w.heap.size w w' := by
  have hd : decide (r.code ≤ 255) = true := decide_eq_true h1
  dsimp only [Rep.val]
  go_enter Tryz.func110, Tryz.ntmps110
  go_wp2
  go_ret
  exact ⟨rfl, (Below.refl _ w).alloc (Nat.le_refl _) _⟩
/-- the numbers of a slice made for a call. -/
theorem rdInt_new (W : World) (l : List Int) : RdInt (W.alloc (.cells (l.map (Value.int .i64)).toArray 3)) (W.alloc (.cells (l.map (Value.int .i64)).toArray 3)).heap.size (some ⟨W.heap.size, 0, none⟩) l := fun _ =>
  ⟨W.heap.size, 0, rfl, by simp, fun i hi => by
    have := (Blk.new W 3 (l.map (Value.int .i64)).toArray).cell i
    rw [Nat.zero_add, this]
    simp [hi]⟩
set_option maxRecDepth 100000 in
set_option maxHeartbeats 1000000 in
theorem limcause_c (Bx : Nat) (x : CsV) (w : World) (hb : Blk w Bx 113 #[.func (.func 110) #[] #[]]) (hx : x.rd w w.heap.size) (hok : SmallC x.c) :
    Calls Tryz.prog 111 #[x.val, .pointer (some ⟨Bx, 0, none⟩)] w fun e w' => e = .returned (.bool true) ∧ Below w.heap.size w w' := by
  obtain ⟨w1, hw1⟩ : ∃ w1, w1 = w.alloc (.cells #[.string x.c.unit, .slice x.n.a x.n.n x.n.c, .slice x.x.a x.x.n x.x.c] 29) := ⟨_, rfl⟩
  have hB1 : Below w.heap.size w w1 := by rw [hw1]; exact (Below.refl _ _).alloc (Nat.le_refl _) _
  have hbx : Blk w1 w.heap.size 29 #[.string x.c.unit, .slice x.n.a x.n.n x.n.c, .slice x.x.a x.x.n x.x.c] := by rw [hw1]; exact Blk.new w _ _
  have hb1 := hb.below hB1 hb.lt
  have hz1 : w1.heap.size = w.heap.size + 1 := by rw [hw1]; simp
  have hwi := within_c 0 8 [(x.n.n : Int), (x.x.n : Int)] (some ⟨w1.heap.size, 0, none⟩) 2 (w1.alloc (.cells #[.int .i64 x.n.n, .int .i64 x.x.n] 3)) (rdInt_new w1 [(x.n.n : Int), (x.x.n : Int)]) (by simp) (fun y hy => by
    have h1 := hok.nl; have h2 := hok.xl; have h3 := hx.nl; have h4 := hx.xl
    simp at hy; rcases hy with rfl | rfl <;> omega)
  rw [hz1] at hwi
  have hal := fun W (hr : RdRep W W.heap.size x.n.a x.c.needs) => all_90 110 #[] (fun _ => true) (enters_of Tryz.func110 (by kernel_rfl) rfl) x.c.needs x.n.a x.n.c W (fun W' r hr' _ => by simpa using limrep_c r W' (hok.n r hr').2.2) hr (by have := hok.nl; omega)
  rw [all_true (fun _ _ => rfl), ← hx.nl] at hal
  have Hal := Lib.hid hal
  have Hwi := Lib.hid hwi
  have Hw1 := Lib.hid hw1
  have HB1 := Lib.hid hB1
  have Hbx := Lib.hid hbx
  have Hb1 := Lib.hid hb1
  have Hz := Lib.hid hz1
  have Hx1 := Lib.hid (hx.below hB1)
  have hblt := hb.lt
  clear hal hwi hw1 hB1 hbx hb1 hz1 hx hok hb
  dsimp only [CsV.val]
  go_enter Tryz.func111, Tryz.ntmps111
  go_wp2_with fail
  rw [← Hw1.out]
  refine Hwi.out.mono ?_
  rintro e w2 ⟨rfl, hb2⟩
  have hB2 : Below w1.heap.size w1 w2 := ((Below.refl _ w1).alloc (Nat.le_refl _) (.cells #[.int .i64 x.n.n, .int .i64 x.x.n] 3)).trans (hb2.mono (by simp))
  have k1 : w2.cell? ⟨w.heap.size, 1, none⟩ = some (.slice x.n.a x.n.n x.n.c) := (Hbx.out.below hB2 Hbx.out.lt).cell 1
  have k2 : w2.cell? ⟨Bx, 0, none⟩ = some (.func (.func 110) #[] #[]) := (Hb1.out.below hB2 Hb1.out.lt).cell 0
  have Hal2 := Lib.hid (Hal.out w2 (Hx1.out.below hB2).n)
  have HB2 := Lib.hid (HB1.out.trans (hB2.mono HB1.out.size))
  clear hb2 hB2 Hal
  go_wp2_with fail
  refine Hal2.out.mono ?_
  rintro e w3 ⟨rfl, hb3⟩
  have HB3 := Lib.hid (HB2.out.trans (hb3.mono HB2.out.size))
  clear hb3
  go_wp2_with fail
  go_ret
  exact ⟨rfl, HB3.out⟩
end Go.Proofs.YtknojjlfgjkbiaaGreatDoor
/- The checker's rule on limits: the walk; rows. -/
namespace Go.Proofs.YtknojjlfgjkbiaaGreatDoor
open Go.ChangeShapes Go.WideShapes Go.ChangeAt Go.RowKit
attribute [local go_sem] Oper.semAt_some

set_option maxRecDepth 100000 in
theorem rows_c (g : Nat) (A : Option Addr) (n c : Nat) (w : World) (h : CkB w g A n c) : Calls Tryz.prog 80 #[.pointer (some ⟨g, 0, none⟩)] w fun e w' => e = .returned (.bool true) ∧ Below w.heap.size w w' := by
  have hB2 : Below w.heap.size w ((w.alloc (.cells #[.pointer (some ⟨g, 0, none⟩)] 126)).alloc (.cells #[.int .u8 0, .int .u8 0, .int .u8 1, .int .u8 1, .int .u8 2, .int .u8 2, .int .u8 2, .int .u8 3, .int .u8 3] 219)) := ((Below.refl _ w).alloc (Nat.le_refl _) _).alloc (by simp) _
  have hb0 := (Blk.new w 126 #[.pointer (some ⟨g, 0, none⟩)]).alloc (.cells #[.int .u8 0, .int .u8 0, .int .u8 1, .int .u8 1, .int .u8 2, .int .u8 2, .int .u8 2, .int .u8 3, .int .u8 3] 219)
  have hck := Blk.below h hB2 (Blk.lt h)
  have k5 : ((w.alloc (.cells #[.pointer (some ⟨g, 0, none⟩)] 126)).alloc (.cells #[.int .u8 0, .int .u8 0, .int .u8 1, .int .u8 1, .int .u8 2, .int .u8 2, .int .u8 2, .int .u8 3, .int .u8 3] 219)).cell? ⟨g, 5, none⟩ = some (.slice none 0 0) := hck.cell 5
  have HB2 := Lib.hid hB2
  have Hck := Lib.hid hck
  have H0 := Lib.hid hb0
  have hgl := Blk.lt h
  clear h hB2 hck hb0
  go_enter Tryz.func80, Tryz.ntmps80
  go_wp2_with fail
  refine (all0_123 _ _ _ _ _ _).mono ?_
  rintro e W2 ⟨rfl, hb2⟩
  have k7 : W2.cell? ⟨g, 7, none⟩ = some (.slice none 0 0) := (Blk.below Hck.out hb2 (Blk.lt Hck.out)).cell 7
  have c0 : W2.cell? ⟨w.heap.size, 0, none⟩ = some (.pointer (some ⟨g, 0, none⟩)) := (H0.out.below hb2 H0.out.lt).cell 0
  have HB3 := Lib.hid (HB2.out.trans (hb2.mono HB2.out.size))
  clear hb2 k5
  go_wp2_with fail
  refine (all0_124 _ _ _ _ _ _).mono ?_
  rintro e W3 ⟨rfl, hb3⟩
  have HB4 := Lib.hid (HB3.out.trans (hb3.mono HB3.out.size))
  clear hb3
  go_wp2_with fail
  go_ret
  exact ⟨rfl, HB4.out⟩
/-- what lies ahead of the range in limits. -/
def limW (w : World) (g : Nat) : World :=
  (((((w.alloc (.cells #[.bool false] 4)).alloc (.cells #[.func (.func 100) #[] #[]] 152)).alloc (.cells #[.func (.func 102) #[] #[]] 156)).alloc (.cells #[.func (.func 103) #[] #[.pointer (some ⟨w.heap.size + 1, 0, none⟩), .pointer (some ⟨w.heap.size + 1 + 1, 0, none⟩)]] 163)).alloc (.cells #[.func (.func 110) #[] #[]] 113)).alloc (.cells #[.pointer (some ⟨g, 0, none⟩)] 126)
set_option maxRecDepth 100000 in
set_option maxHeartbeats 2000000 in
theorem limits_c (g : Nat) (A : Option Addr) (L : List CsV) (c : Nat) (w : World) (h : CkB w g A L.length c) (hr : RdCs w w.heap.size A L) (hl : L.length ≤ 32) (hok : ∀ x ∈ L, SmallC x.c) : Calls Tryz.prog 73 #[.pointer (some ⟨g, 0, none⟩)] w fun e w' => e = .returned (.bool true) ∧ Below w.heap.size w w' := by
  obtain ⟨w1, hw1⟩ : ∃ w1, w1 = limW w g := ⟨_, rfl⟩
  have hb1 : Below w.heap.size w w1 := by rw [hw1]; unfold limW; exact (((((((Below.refl _ w).alloc (Nat.le_refl _) _).alloc (by simp) _).alloc (by simp; omega) _).alloc (by simp; omega) _).alloc (by simp; omega) _).alloc (by simp; omega) _)
  have hr0 : Blk w1 w.heap.size 4 #[.bool false] := by rw [hw1]; unfold limW; exact (((((Blk.new w _ _).alloc _).alloc _).alloc _).alloc _).alloc _
  have hb9 : Blk w1 (w.heap.size + 4) 113 #[.func (.func 110) #[] #[]] := by
    rw [hw1]; unfold limW
    have := Blk.new ((((w.alloc (.cells #[.bool false] 4)).alloc (.cells #[.func (.func 100) #[] #[]] 152)).alloc (.cells #[.func (.func 102) #[] #[]] 156)).alloc (.cells #[.func (.func 103) #[] #[.pointer (some ⟨w.heap.size + 1, 0, none⟩), .pointer (some ⟨w.heap.size + 1 + 1, 0, none⟩)]] 163)) 113 #[.func (.func 110) #[] #[]]
    simp only [World.size_alloc] at this
    exact this.alloc _
  have hbx : Blk w1 (w.heap.size + 5) 126 #[.pointer (some ⟨g, 0, none⟩)] := by
    rw [hw1]; unfold limW
    have := Blk.new (((((w.alloc (.cells #[.bool false] 4)).alloc (.cells #[.func (.func 100) #[] #[]] 152)).alloc (.cells #[.func (.func 102) #[] #[]] 156)).alloc (.cells #[.func (.func 103) #[] #[.pointer (some ⟨w.heap.size + 1, 0, none⟩), .pointer (some ⟨w.heap.size + 1 + 1, 0, none⟩)]] 163)).alloc (.cells #[.func (.func 110) #[] #[]] 113)) 126 #[.pointer (some ⟨g, 0, none⟩)]
    simp only [World.size_alloc] at this
    exact this
  have hz : w1.heap.size = w.heap.size + 6 := by rw [hw1]; unfold limW; simp
  have hck := Blk.below h hb1 (Blk.lt h)
  have hseq := conn_seq g (w.heap.size + 5) 8 A L.length c w1 (by omega) hbx hck
  have hgl := Blk.lt h
  have Hr := Lib.hid (hr.below hb1)
  have Hw1 := Lib.hid hw1
  have Hb1 := Lib.hid hb1
  have Hr0 := Lib.hid hr0
  have H9 := Lib.hid hb9
  have Hck := Lib.hid hck
  have Hz := Lib.hid hz
  have Hseq := Lib.hid hseq
  have Hok := Lib.hid hok
  clear h hw1 hb1 hr0 hb9 hbx hz hseq hck hr hok
  refine (callsIn_wide (n := 9)).1 ?_
  refine callsIn_of_wp_marks Tryz.func73 rfl trivial ?_ rfl
  simp only [Tryz.ntmps73, List.size_toArray, List.length_cons, List.length_nil, Nat.reduceAdd, Nat.reduceSub, Array.replicate_succ, Array.replicate_zero, List.push_toArray, List.append_toArray, List.nil_append, List.cons_append]
  refine wpIn_wide.2 ?_
  go_wp2_with (go_at_call 113; refine (conns91 _ _).mono ?_; rintro e w' ⟨rfl, hw'⟩)
  have hfold := Hw1.out
  unfold limW at hfold
  rw [← hfold]
  clear hfold
  clear hw'
  refine (wpIn_wide (n := 9)).1 ?_
  refine range_none (gf := 197) (lb := #[.pointer (some ⟨w.heap.size + 5, 0, none⟩)]) rfl (enters_of Tryz.func197 (by kernel_rfl) rfl) Hseq.out fun D W hD hW hk => ?_
  have hz := Hz.out
  have hDlt : D < W.heap.size := by
    rcases Nat.lt_or_ge D W.heap.size with h | h
    · exact h
    · rw [Array.getElem?_eq_none h] at hk; cases hk
  have Hk := Lib.hid hk
  have HW := Lib.hid hW
  have hsW := hW.size
  have facts : ∀ W2, Below w1.heap.size w1 W2 → W2.cell? ⟨g, 0, none⟩ = some (.slice none 0 0) ∧ W2.cell? ⟨g, 1, none⟩ = some (.slice none 0 0) ∧ W2.cell? ⟨g, 2, none⟩ = some (.slice none 0 0) ∧ W2.cell? ⟨g, 3, none⟩ = some (.slice none 0 0) ∧ W2.cell? ⟨g, 4, none⟩ = some (.slice none 0 0) ∧ W2.cell? ⟨g, 5, none⟩ = some (.slice none 0 0) ∧ W2.cell? ⟨g, 6, none⟩ = some (.slice A L.length c) ∧ W2.cell? ⟨g, 7, none⟩ = some (.slice none 0 0) := fun W2 h2 =>
    have hh := Blk.below Hck.out h2 (Blk.lt Hck.out)
    ⟨hh.cell 0, hh.cell 1, hh.cell 2, hh.cell 3, hh.cell 4, hh.cell 5, hh.cell 6, hh.cell 7⟩
  have Hf := Lib.hid facts
  obtain ⟨a0, a1, a2, a3, a4, a5, a6, a7⟩ := facts W hW
  have hwi := within_c 0 32 [0, (L.length : Int), 0] (some ⟨W.drew.heap.size, 0, none⟩) 3 (W.drew.alloc (.cells #[.int .i64 0, .int .i64 L.length, .int .i64 0] 3)) (rdInt_new W.drew [0, (L.length : Int), 0]) (by simp) (fun y hy => by simp at hy; omega)
  have Hwi := Lib.hid hwi
  have hd32 : decide ((L.length : Int) ≤ 32) = true := by simp; omega
  clear hk facts hwi a0 a1 a2 a3 a4 a5 a6 a7
  have hfd := Hf.out W.drew hW.drew
  clear hW
  go_wp2_with fail
  simp only [List.append_eq, List.cons_append, List.nil_append]
  obtain ⟨a0, a1, a2, a3, a4, a5, a6, a7⟩ := hfd
  go_still_tail 62, (by kernel_rfl)
  change wpList _ _ _ _ _ W.drew
  go_wp2_with fail
  refine Hwi.out.mono ?_
  rintro e W2 ⟨rfl, hb2⟩
  have HX2 := Lib.hid (((Below.refl _ W).drew.alloc (Nat.le_refl _) (.cells #[.int .i64 0, .int .i64 L.length, .int .i64 0] 3)).trans (hb2.mono (by simp)))
  have HW2 := Lib.hid (HW.out.trans (HX2.out.mono hsW))
  obtain ⟨b0, b1, b2, b3, b4, b5, b6, b7⟩ := Hf.out W2 HW2.out
  clear a0 a1 a2 a3 a4 a5 a6 a7 hb2 Hwi
  go_wp2_with fail
  refine (all0_92 _ _ _ _ _ _).mono ?_
  rintro e W3 ⟨rfl, hb3⟩
  have HX3 := Lib.hid (HX2.out.trans (hb3.mono HX2.out.size))
  have HW3 := Lib.hid (HW.out.trans (HX3.out.mono hsW))
  obtain ⟨a0, a1, a2, a3, a4, a5, a6, a7⟩ := Hf.out W3 HW3.out
  clear b0 b1 b2 b3 b4 b5 b6 b7 hb3
  go_wp2_with fail
  refine (all0_93 _ _ _ _ _ _).mono ?_
  rintro e W4 ⟨rfl, hb4⟩
  have HX4 := Lib.hid (HX3.out.trans (hb4.mono HX3.out.size))
  have HW4 := Lib.hid (HW.out.trans (HX4.out.mono hsW))
  obtain ⟨b0, b1, b2, b3, b4, b5, b6, b7⟩ := Hf.out W4 HW4.out
  clear a0 a1 a2 a3 a4 a5 a6 a7 hb4
  go_wp2_with fail
  refine (all0_94 _ _ _ _ _ _).mono ?_
  rintro e W5 ⟨rfl, hb5⟩
  have HX5 := Lib.hid (HX4.out.trans (hb5.mono HX4.out.size))
  have HW5 := Lib.hid (HW.out.trans (HX5.out.mono hsW))
  obtain ⟨a0, a1, a2, a3, a4, a5, a6, a7⟩ := Hf.out W5 HW5.out
  have hal := all_95 111 #[.pointer (some ⟨w.heap.size + 4, 0, none⟩)] (fun _ => true) (enters_of Tryz.func111 (by kernel_rfl) rfl) L A c W5 (fun W' x hx hW' hrd => limcause_c (w.heap.size + 4) x W' (H9.out.below (HW5.out.trans (hW'.mono HW5.out.size)) H9.out.lt) hrd (Hok.out x hx)) (Hr.out.below HW5.out) (by omega)
  rw [all_true (fun _ _ => rfl)] at hal
  have Hal := Lib.hid hal
  clear b0 b1 b2 b3 b4 b5 b6 b7 hb5 hal
  go_wp2_with fail
  refine Hal.out.mono ?_
  rintro e W6 ⟨rfl, hb6⟩
  have HX6 := Lib.hid (HX5.out.trans (hb6.mono HX5.out.size))
  have HW6 := Lib.hid (HW.out.trans (HX6.out.mono hsW))
  have Hb0 := Lib.hid (Hr0.out.below HW6.out (by omega))
  have r0 : W6.cell? ⟨w.heap.size, 0, none⟩ = some (.bool false) := Hb0.out.cell 0
  have f0 : W6.frozen? ⟨w.heap.size, 0, none⟩ = false := Hb0.out.frozen 0
  have HB := Lib.hid (Hb1.out.trans (HW6.out.mono Hb1.out.size))
  have Hk6 := Lib.hid ((HX6.out.block D hDlt).trans Hk.out)
  clear a0 a1 a2 a3 a4 a5 a6 a7 hb6
  go_wp2_with fail
  have hz0 : Blk (W6.setCell ⟨w.heap.size, 0, none⟩ (.bool true)) w.heap.size 4 #[.bool true] := by simpa using Hb0.out.set_ 0 (.bool true)
  have Hz0 := Lib.hid hz0
  clear hz0
  refine leaves_marks [D] (W6.setCell ⟨w.heap.size, 0, none⟩ (.bool true)) (w.heap.size + 1) (by simp) (fun E hE => by simp at hE; subst hE; exact ⟨by omega, (Below.heap_setCell W6 ⟨w.heap.size, 0, none⟩ _ E (by simp; omega)).trans Hk6.out⟩) fun W' hSh => ?_
  have z0 : W'.cell? ⟨w.heap.size, 0, none⟩ = some (.bool true) := (Hz0.out.below hSh.below (by omega)).cell 0
  exact ⟨.bool true, by simp [results, Tryz.f73, go_sem, z0], rfl, (HB.out.setCell (p := ⟨w.heap.size, 0, none⟩) (Nat.le_refl _) _).trans (hSh.below.mono (by omega))⟩
end Go.Proofs.YtknojjlfgjkbiaaGreatDoor
