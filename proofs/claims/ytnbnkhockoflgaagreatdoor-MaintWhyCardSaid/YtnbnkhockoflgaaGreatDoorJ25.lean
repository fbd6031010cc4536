/- Texts K2 K3 K7, joined. -/
import Derived.Test.YtnbnkhockoflgaaGreatDoorJ24
set_option linter.unusedSimpArgs false
set_option linter.unusedVariables false
set_option linter.unusedSectionVars false
/- The checker's iterators over no partitions. -/
namespace Go.Proofs.YtnbnkhockoflgaaGreatDoor
open Go.ChangeShapes Go.WideShapes Go.ChangeAt Go.RowKit
attribute [local go_sem] Oper.semAt_some
set_option maxRecDepth 100000 in
theorem parts_seq (g Bl m : Nat) (A : Option Addr) (n c : Nat) (w : World) (hm : 1 ≤ m) (hb : Blk w Bl 114 #[.pointer (some ⟨g, 0, none⟩)]) (h : CkB w g A n c) :
    SeqStopsK Fence.wide m Tryz.prog 183 #[.pointer (some ⟨Bl, 0, none⟩)] (fun x : Empty => x.elim) KeepsWalks (fun xs => xs = []) (fun _ => True) 0 w := by
  intro l J Jx W hW hJ hJx hY h0
  have c0 : W.cell? ⟨Bl, 0, none⟩ = some (.pointer (some ⟨g, 0, none⟩)) := (hb.below hW hb.lt).cell 0
  have k0 : W.cell? ⟨g, 0, none⟩ = some (.slice none 0 0) := (Blk.below h hW (Blk.lt h)).cell 0
  clear hY hJ hJx hb h
  refine callsIn_of_wp Tryz.func183 rfl trivial ?_ rfl
  simp only [Tryz.ntmps183, List.size_toArray, List.length_cons, List.length_nil, Nat.reduceAdd, Nat.reduceSub, Array.replicate_succ, Array.replicate_zero, List.push_toArray, List.append_toArray, List.nil_append, List.cons_append]
  gi_wp2
  gi_loopw [13] (fun t wr => t = .int .i64 0 ∧ wr = W) (fun t wr => 0)
  case atStart => exact ⟨rfl, rfl⟩
  case round =>
    obtain ⟨rfl, rfl⟩ := hrel
    gi_wp2
    go_end0
    exact ⟨⟨_, rfl⟩, .inl ⟨[], rfl, h0⟩⟩
end Go.Proofs.YtnbnkhockoflgaaGreatDoor
/- A range over an iterator that gives nothing; the checker's rules on periods, code, names. -/
namespace Go.Proofs.YtnbnkhockoflgaaGreatDoor
open Go.ChangeShapes Go.WideShapes Go.ChangeAt Go.RowKit
attribute [local go_sem] Oper.semAt_some

theorem range_none {g : Operand} {ps : Array Tmp} {assign body : Code} {Q : Exit → Act → World → Prop} {a : Act} {w : World} {gf : Nat} {lb : Array Value} (hg : a.eval g = .func (.func gf) #[] lb) (eg : ∀ args w, (callFunc gf args).run Tryz.prog w = .ok (.enter gf args) w)
    (hseq : SeqStopsK Fence.wide 8 Tryz.prog gf lb (fun x : Empty => x.elim) KeepsWalks (fun xs => xs = []) (fun _ => True) 0 w)
    (hdone : ∀ (D : Nat) (W : World), w.heap.size ≤ D → Below w.heap.size w W → W.heap[D]? = some (.deferred (some [])) → Q .normal { a with defers := { target := .collected D, args := #[] } :: a.defers } W) :
    (Code.rangeFunc g ps assign body).wpIn Fence.wide 9 Tryz.prog Q a w := by
  refine wpIn_rangeFunc_ownH (F := Fence.wide) rfl (by omega) (gf := gf) (lb := lb) hg trivial eg (encs := fun x : Empty => x.elim) hseq
    (fun h1 h2 => h1.trans h2) (fun W l o o' _ hh _ hw => KeepsWalks.putObj o' hh hw) (Below.refl _ _) (fun x => x.elim)
    (fun _ W => Below w.heap.size w W) (fun _ _ _ => False)
    (fun _ X Y row hs hg hr => hs.grown hg hs.size (fun r e => (hr r e).1))
    (fun _ _ X Y row hs _ _ => hs)
    (Below.refl _ _)
    (fun y _ _ => False)
    (fun y a' s X Y row hs hg hr => hs) ?assign ?body ?done ?stop
  case assign => intro l pre y; exact y.elim
  case body => intro l pre y; exact y.elim
  case done => exact fun D xs W hD _ hI hk => hdone D W hD hI hk
  case stop => intro D c' pre W _ _ h _; exact h.elim
set_option maxRecDepth 100000 in
theorem conn_seq (g Bl m : Nat) (A : Option Addr) (n c : Nat) (w : World) (hm : 1 ≤ m) (hb : Blk w Bl 114 #[.pointer (some ⟨g, 0, none⟩)]) (h : CkB w g A n c) :
    SeqStopsK Fence.wide m Tryz.prog 175 #[.pointer (some ⟨Bl, 0, none⟩)] (fun x : Empty => x.elim) KeepsWalks (fun xs => xs = []) (fun _ => True) 0 w := by
  intro l J Jx W hW hJ hJx hY h0
  have c0 : W.cell? ⟨Bl, 0, none⟩ = some (.pointer (some ⟨g, 0, none⟩)) := (hb.below hW hb.lt).cell 0
  have k1 : W.cell? ⟨g, 1, none⟩ = some (.slice none 0 0) := (Blk.below h hW (Blk.lt h)).cell 1
  have k4 : W.cell? ⟨g, 4, none⟩ = some (.slice none 0 0) := (Blk.below h hW (Blk.lt h)).cell 4
  clear hY hJ hJx hb h
  refine callsIn_of_wp Tryz.func175 rfl trivial ?_ rfl
  simp only [Tryz.ntmps175, List.size_toArray, List.length_cons, List.length_nil, Nat.reduceAdd, Nat.reduceSub, Array.replicate_succ, Array.replicate_zero, List.push_toArray, List.append_toArray, List.nil_append, List.cons_append]
  gi_wp2
  gi_loopw [13] (fun t wr => t = .int .i64 0 ∧ wr = W) (fun t wr => 0)
  case atStart => exact ⟨rfl, rfl⟩
  case round =>
    obtain ⟨rfl, rfl⟩ := hrel
    gi_wp2
    gi_loopw [32] (fun t wr' => t = .int .i64 0 ∧ wr' = wr) (fun t wr' => 0)
    case atStart => exact ⟨rfl, rfl⟩
    case round =>
      obtain ⟨rfl, rfl⟩ := hrel
      gi_wp2
      go_end0
      exact ⟨⟨_, rfl⟩, .inl ⟨[], rfl, h0⟩⟩
theorem parts96 (g : Nat) (w : World) : Calls Tryz.prog 96 #[.pointer (some ⟨g, 0, none⟩)] w fun e w' => e = .returned (.func (.func 183) #[] #[.pointer (some ⟨w.heap.size, 0, none⟩)]) ∧ w' = w.alloc (.cells #[.pointer (some ⟨g, 0, none⟩)] 114) := by
  go_enter Tryz.func96, Tryz.ntmps96
  go_wp2
  go_ret
  exact ⟨rfl, rfl⟩
theorem conns91 (g : Nat) (w : World) : Calls Tryz.prog 91 #[.pointer (some ⟨g, 0, none⟩)] w fun e w' => e = .returned (.func (.func 175) #[] #[.pointer (some ⟨w.heap.size, 0, none⟩)]) ∧ w' = w.alloc (.cells #[.pointer (some ⟨g, 0, none⟩)] 114) := by
  go_enter Tryz.func91, Tryz.ntmps91
  go_wp2
  go_ret
  exact ⟨rfl, rfl⟩
set_option maxRecDepth 100000 in
set_option maxHeartbeats 1000000 in
theorem times_c (g : Nat) (A : Option Addr) (n c : Nat) (w : World) (h : CkB w g A n c) : Calls Tryz.prog 61 #[.pointer (some ⟨g, 0, none⟩)] w fun e w' => e = .returned (.bool true) ∧ Below w.heap.size w w' := by
  obtain ⟨w1, hw1⟩ : ∃ w1, w1 = (w.alloc (.cells #[.bool false] 4)).alloc (.cells #[.pointer (some ⟨g, 0, none⟩)] 114) := ⟨_, rfl⟩
  have hb1 : Below w.heap.size w w1 := by rw [hw1]; exact ((Below.refl _ w).alloc (Nat.le_refl _) _).alloc (by simp) _
  have hr0 : Blk w1 w.heap.size 4 #[.bool false] := by rw [hw1]; exact (Blk.new w _ _).alloc _
  have hbx : Blk w1 (w.heap.size + 1) 114 #[.pointer (some ⟨g, 0, none⟩)] := by rw [hw1]; have := Blk.new (w.alloc (.cells #[.bool false] 4)) 114 #[.pointer (some ⟨g, 0, none⟩)]; rwa [World.size_alloc] at this
  have hz : w1.heap.size = w.heap.size + 2 := by rw [hw1]; simp
  have hseq := parts_seq g (w.heap.size + 1) 8 A n c w1 (by omega) hbx (Blk.below h hb1 (Blk.lt h))
  have Hw1 := Lib.hid hw1
  have Hb1 := Lib.hid hb1
  have Hr0 := Lib.hid hr0
  have Hz := Lib.hid hz
  have Hseq := Lib.hid hseq
  clear h hw1 hb1 hr0 hbx hz hseq
  refine (callsIn_wide (n := 9)).1 ?_
  refine callsIn_of_wp_marks Tryz.func61 rfl trivial ?_ rfl
  simp only [Tryz.ntmps61, List.size_toArray, List.length_cons, List.length_nil, Nat.reduceAdd, Nat.reduceSub, Array.replicate_succ, Array.replicate_zero, List.push_toArray, List.append_toArray, List.nil_append, List.cons_append]
  refine wpIn_wide.2 ?_
  go_wp2_with (go_at_call 96; refine (parts96 _ _).mono ?_; rintro e w' ⟨rfl, hw'⟩)
  rw [← Hw1.out]
  clear hw'
  refine (wpIn_wide (n := 9)).1 ?_
  refine range_none (gf := 183) (lb := #[.pointer (some ⟨w.heap.size + 1, 0, none⟩)]) rfl (enters_of Tryz.func183 (by kernel_rfl) rfl) Hseq.out fun D W hD hW hk => ?_
  have hz := Hz.out
  have d0 : W.cell? ⟨w.heap.size, 0, none⟩ = some (.bool false) := (Hr0.out.below hW (by omega)).cell 0
  have f0 : W.frozen? ⟨w.heap.size, 0, none⟩ = false := (Hr0.out.below hW (by omega)).frozen 0
  have Hb0 := Lib.hid (Hr0.out.below hW (by omega))
  have HB := Lib.hid (Hb1.out.trans (hW.mono Hb1.out.size))
  have HW := Lib.hid hW
  have hDlt : D < W.heap.size := by
    rcases Nat.lt_or_ge D W.heap.size with h | h
    · exact h
    · rw [Array.getElem?_eq_none h] at hk; cases hk
  have Hk := Lib.hid hk
  clear hW hk
  go_wp2_with fail
  have hz0 : Blk (W.setCell ⟨w.heap.size, 0, none⟩ (.bool true)) w.heap.size 4 #[.bool true] := by simpa using Hb0.out.set_ 0 (.bool true)
  have Hz0 := Lib.hid hz0
  clear hz0
  refine leaves_marks [D] (W.setCell ⟨w.heap.size, 0, none⟩ (.bool true)) (w.heap.size + 1) (by simp) (fun E hE => by simp at hE; subst hE; exact ⟨by omega, (Below.heap_setCell W ⟨w.heap.size, 0, none⟩ _ E (by simp; omega)).trans Hk.out⟩) fun W' hSh => ?_
  have z0 : W'.cell? ⟨w.heap.size, 0, none⟩ = some (.bool true) := (Hz0.out.below hSh.below (by omega)).cell 0
  exact ⟨.bool true, by simp [results, Tryz.f61, go_sem, z0], rfl, (HB.out.setCell (p := ⟨w.heap.size, 0, none⟩) (Nat.le_refl _) _).trans (hSh.below.mono (by omega))⟩
end Go.Proofs.YtnbnkhockoflgaaGreatDoor
/- The checker's rules on code, ports, names. -/
namespace Go.Proofs.YtnbnkhockoflgaaGreatDoor
open Go.ChangeShapes Go.WideShapes Go.ChangeAt Go.RowKit
attribute [local go_sem] Oper.semAt_some

set_option maxRecDepth 100000 in
set_option maxHeartbeats 1000000 in
theorem codes_c (g : Nat) (A : Option Addr) (n c : Nat) (w : World) (h : CkB w g A n c) : Calls Tryz.prog 62 #[.pointer (some ⟨g, 0, none⟩)] w fun e w' => e = .returned (.bool true) ∧ Below w.heap.size w w' := by
  obtain ⟨w1, hw1⟩ : ∃ w1, w1 = (w.alloc (.cells #[.bool false] 4)).alloc (.cells #[.pointer (some ⟨g, 0, none⟩)] 114) := ⟨_, rfl⟩
  have hb1 : Below w.heap.size w w1 := by rw [hw1]; exact ((Below.refl _ w).alloc (Nat.le_refl _) _).alloc (by simp) _
  have hr0 : Blk w1 w.heap.size 4 #[.bool false] := by rw [hw1]; exact (Blk.new w _ _).alloc _
  have hbx : Blk w1 (w.heap.size + 1) 114 #[.pointer (some ⟨g, 0, none⟩)] := by rw [hw1]; have := Blk.new (w.alloc (.cells #[.bool false] 4)) 114 #[.pointer (some ⟨g, 0, none⟩)]; rwa [World.size_alloc] at this
  have hz : w1.heap.size = w.heap.size + 2 := by rw [hw1]; simp
  have hseq := parts_seq g (w.heap.size + 1) 8 A n c w1 (by omega) hbx (Blk.below h hb1 (Blk.lt h))
  have Hw1 := Lib.hid hw1
  have Hb1 := Lib.hid hb1
  have Hr0 := Lib.hid hr0
  have Hz := Lib.hid hz
  have Hseq := Lib.hid hseq
  clear h hw1 hb1 hr0 hbx hz hseq
  refine (callsIn_wide (n := 9)).1 ?_
  refine callsIn_of_wp_marks Tryz.func62 rfl trivial ?_ rfl
  simp only [Tryz.ntmps62, List.size_toArray, List.length_cons, List.length_nil, Nat.reduceAdd, Nat.reduceSub, Array.replicate_succ, Array.replicate_zero, List.push_toArray, List.append_toArray, List.nil_append, List.cons_append]
  refine wpIn_wide.2 ?_
  go_wp2_with (go_at_call 96; refine (parts96 _ _).mono ?_; rintro e w' ⟨rfl, hw'⟩)
  rw [← Hw1.out]
  clear hw'
  refine (wpIn_wide (n := 9)).1 ?_
  refine range_none (gf := 183) (lb := #[.pointer (some ⟨w.heap.size + 1, 0, none⟩)]) rfl (enters_of Tryz.func183 (by kernel_rfl) rfl) Hseq.out fun D W hD hW hk => ?_
  have hz := Hz.out
  have d0 : W.cell? ⟨w.heap.size, 0, none⟩ = some (.bool false) := (Hr0.out.below hW (by omega)).cell 0
  have f0 : W.frozen? ⟨w.heap.size, 0, none⟩ = false := (Hr0.out.below hW (by omega)).frozen 0
  have Hb0 := Lib.hid (Hr0.out.below hW (by omega))
  have HB := Lib.hid (Hb1.out.trans (hW.mono Hb1.out.size))
  have HW := Lib.hid hW
  have hDlt : D < W.heap.size := by
    rcases Nat.lt_or_ge D W.heap.size with h | h
    · exact h
    · rw [Array.getElem?_eq_none h] at hk; cases hk
  have Hk := Lib.hid hk
  clear hW hk
  go_wp2_with fail
  have hz0 : Blk (W.setCell ⟨w.heap.size, 0, none⟩ (.bool true)) w.heap.size 4 #[.bool true] := by simpa using Hb0.out.set_ 0 (.bool true)
  have Hz0 := Lib.hid hz0
  clear hz0
  refine leaves_marks [D] (W.setCell ⟨w.heap.size, 0, none⟩ (.bool true)) (w.heap.size + 1) (by simp) (fun E hE => by simp at hE; subst hE; exact ⟨by omega, (Below.heap_setCell W ⟨w.heap.size, 0, none⟩ _ E (by simp; omega)).trans Hk.out⟩) fun W' hSh => ?_
  have z0 : W'.cell? ⟨w.heap.size, 0, none⟩ = some (.bool true) := (Hz0.out.below hSh.below (by omega)).cell 0
  exact ⟨.bool true, by simp [results, Tryz.f62, go_sem, z0], rfl, (HB.out.setCell (p := ⟨w.heap.size, 0, none⟩) (Nat.le_refl _) _).trans (hSh.below.mono (by omega))⟩
set_option maxRecDepth 100000 in
set_option maxHeartbeats 1000000 in
theorem ports_c (g : Nat) (A : Option Addr) (n c : Nat) (w : World) (h : CkB w g A n c) : Calls Tryz.prog 64 #[.pointer (some ⟨g, 0, none⟩)] w fun e w' => e = .returned (.bool true) ∧ Below w.heap.size w w' := by
  obtain ⟨w1, hw1⟩ : ∃ w1, w1 = ((((w.alloc (.cells #[.pointer (some ⟨g, 0, none⟩)] 114)).alloc (.cells #[.bool false] 4)).alloc (.map #[] 0)).alloc (.cells #[.map (some (w.heap.size + 2))] 198)).alloc (.cells #[.pointer (some ⟨g, 0, none⟩)] 114) := ⟨_, rfl⟩
  have hb1 : Below w.heap.size w w1 := by rw [hw1]; exact ((((((Below.refl _ w).alloc (Nat.le_refl _) _).alloc (by simp) _).alloc (by simp; omega) _).alloc (by simp; omega) _).alloc (by simp; omega) _)
  have hr0 : Blk w1 (w.heap.size + 1) 4 #[.bool false] := by
    rw [hw1]
    have := Blk.new (w.alloc (.cells #[.pointer (some ⟨g, 0, none⟩)] 114)) 4 #[.bool false]
    rw [World.size_alloc] at this
    exact ((this.alloc _).alloc _).alloc _
  have hbx : Blk w1 (w.heap.size + 4) 114 #[.pointer (some ⟨g, 0, none⟩)] := by
    rw [hw1]
    have := Blk.new ((((w.alloc (.cells #[.pointer (some ⟨g, 0, none⟩)] 114)).alloc (.cells #[.bool false] 4)).alloc (.map #[] 0)).alloc (.cells #[.map (some (w.heap.size + 2))] 198)) 114 #[.pointer (some ⟨g, 0, none⟩)]
    simpa [World.size_alloc] using this
  have hz : w1.heap.size = w.heap.size + 5 := by rw [hw1]; simp
  have hseq := conn_seq g (w.heap.size + 4) 8 A n c w1 (by omega) hbx (Blk.below h hb1 (Blk.lt h))
  have hmk := @run_makeMap Tryz.prog
  have Hw1 := Lib.hid hw1
  have Hb1 := Lib.hid hb1
  have Hr0 := Lib.hid hr0
  have Hz := Lib.hid hz
  have Hseq := Lib.hid hseq
  clear h hw1 hb1 hr0 hbx hz hseq
  refine (callsIn_wide (n := 9)).1 ?_
  refine callsIn_of_wp_marks Tryz.func64 rfl trivial ?_ rfl
  simp only [Tryz.ntmps64, List.size_toArray, List.length_cons, List.length_nil, Nat.reduceAdd, Nat.reduceSub, Array.replicate_succ, Array.replicate_zero, List.push_toArray, List.append_toArray, List.nil_append, List.cons_append]
  refine wpIn_wide.2 ?_
  go_wp2_with (go_at_call 91; refine (conns91 _ _).mono ?_; rintro e w' ⟨rfl, hw'⟩)
  rw [← Hw1.out]
  clear hw'
  refine (wpIn_wide (n := 9)).1 ?_
  refine range_none (gf := 175) (lb := #[.pointer (some ⟨w.heap.size + 4, 0, none⟩)]) rfl (enters_of Tryz.func175 (by kernel_rfl) rfl) Hseq.out fun D W hD hW hk => ?_
  have hz := Hz.out
  have d0 : W.cell? ⟨w.heap.size + 1, 0, none⟩ = some (.bool false) := (Hr0.out.below hW (by omega)).cell 0
  have f0 : W.frozen? ⟨w.heap.size + 1, 0, none⟩ = false := (Hr0.out.below hW (by omega)).frozen 0
  have Hb0 := Lib.hid (Hr0.out.below hW (by omega))
  have HB := Lib.hid (Hb1.out.trans (hW.mono Hb1.out.size))
  have HW := Lib.hid hW
  have hDlt : D < W.heap.size := by
    rcases Nat.lt_or_ge D W.heap.size with h | h
    · exact h
    · rw [Array.getElem?_eq_none h] at hk; cases hk
  have Hk := Lib.hid hk
  clear hW hk
  go_wp2_with fail
  have hz0 : Blk (W.setCell ⟨w.heap.size + 1, 0, none⟩ (.bool true)) (w.heap.size + 1) 4 #[.bool true] := by simpa using Hb0.out.set_ 0 (.bool true)
  have Hz0 := Lib.hid hz0
  clear hz0
  refine leaves_marks [D] (W.setCell ⟨w.heap.size + 1, 0, none⟩ (.bool true)) (w.heap.size + 2) (by simp) (fun E hE => by simp at hE; subst hE; exact ⟨by omega, (Below.heap_setCell W ⟨w.heap.size + 1, 0, none⟩ _ E (by simp; omega)).trans Hk.out⟩) fun W' hSh => ?_
  have z0 : W'.cell? ⟨w.heap.size + 1, 0, none⟩ = some (.bool true) := (Hz0.out.below hSh.below (by omega)).cell 0
  exact ⟨.bool true, by simp [results, Tryz.f64, go_sem, z0], rfl, (HB.out.setCell (p := ⟨w.heap.size + 1, 0, none⟩) (by simp) _).trans (hSh.below.mono (by omega))⟩
set_option maxRecDepth 100000 in
theorem distinct0_106 (A : Option Addr) (c : Nat) (f : Nat) (w : World) : Calls Tryz.prog 106 #[.slice A 0 c, .func (.func f) #[] #[]] w fun e w' => e = .returned (.bool true) ∧ Below w.heap.size w w' := by
  have hmk := @run_makeMap Tryz.prog
  go_enter Tryz.func106, Tryz.ntmps106
  go_wp2_with (go_at_call 92; refine (all0_92 _ _ _ _ _ _).mono ?_; rintro e w' ⟨rfl, hb⟩)
  go_ret
  exact ⟨rfl, ((((Below.refl _ w).alloc (Nat.le_refl _) (.cells #[.func (.func f) #[] #[]] 183)).alloc (by simp) (.map #[] 0)).alloc (by simp; omega) (.cells #[.map (some (w.heap.size + 1))] 78)).trans (hb.mono (by simp; omega))⟩
set_option maxRecDepth 100000 in
theorem distinct0_108 (A : Option Addr) (c : Nat) (f : Nat) (w : World) : Calls Tryz.prog 108 #[.slice A 0 c, .func (.func f) #[] #[]] w fun e w' => e = .returned (.bool true) ∧ Below w.heap.size w w' := by
  have hmk := @run_makeMap Tryz.prog
  go_enter Tryz.func108, Tryz.ntmps108
  go_wp2_with (go_at_call 93; refine (all0_93 _ _ _ _ _ _).mono ?_; rintro e w' ⟨rfl, hb⟩)
  go_ret
  exact ⟨rfl, ((((Below.refl _ w).alloc (Nat.le_refl _) (.cells #[.func (.func f) #[] #[]] 181)).alloc (by simp) (.map #[] 0)).alloc (by simp; omega) (.cells #[.map (some (w.heap.size + 1))] 78)).trans (hb.mono (by simp; omega))⟩
set_option maxRecDepth 100000 in
theorem distinct0_109 (A : Option Addr) (c : Nat) (f : Nat) (w : World) : Calls Tryz.prog 109 #[.slice A 0 c, .func (.func f) #[] #[]] w fun e w' => e = .returned (.bool true) ∧ Below w.heap.size w w' := by
  have hmk := @run_makeMap Tryz.prog
  go_enter Tryz.func109, Tryz.ntmps109
  go_wp2_with (go_at_call 118; refine (all0_118 _ _ _ _ _ _).mono ?_; rintro e w' ⟨rfl, hb⟩)
  go_ret
  exact ⟨rfl, ((((Below.refl _ w).alloc (Nat.le_refl _) (.cells #[.func (.func f) #[] #[]] 188)).alloc (by simp) (.map #[] 0)).alloc (by simp; omega) (.cells #[.map (some (w.heap.size + 1))] 78)).trans (hb.mono (by simp; omega))⟩
set_option maxRecDepth 100000 in
set_option maxHeartbeats 1000000 in
theorem names_c (g : Nat) (A : Option Addr) (n c : Nat) (w : World) (h : CkB w g A n c) : Calls Tryz.prog 60 #[.pointer (some ⟨g, 0, none⟩)] w fun e w' => e = .returned (.bool true) ∧ Below w.heap.size w w' := by
  obtain ⟨w1, hw1⟩ : ∃ w1, w1 = ((w.alloc (.cells #[.pointer (some ⟨g, 0, none⟩)] 114)).alloc (.cells #[.bool false] 4)).alloc (.cells #[.pointer (some ⟨g, 0, none⟩)] 114) := ⟨_, rfl⟩
  have hb1 : Below w.heap.size w w1 := by rw [hw1]; exact ((((Below.refl _ w).alloc (Nat.le_refl _) _).alloc (by simp) _).alloc (by simp; omega) _)
  have hb0 : Blk w1 w.heap.size 114 #[.pointer (some ⟨g, 0, none⟩)] := by rw [hw1]; exact ((Blk.new w _ _).alloc _).alloc _
  have hr0 : Blk w1 (w.heap.size + 1) 4 #[.bool false] := by
    rw [hw1]
    have := Blk.new (w.alloc (.cells #[.pointer (some ⟨g, 0, none⟩)] 114)) 4 #[.bool false]
    rw [World.size_alloc] at this
    exact this.alloc _
  have hbx : Blk w1 (w.heap.size + 2) 114 #[.pointer (some ⟨g, 0, none⟩)] := by
    rw [hw1]
    have := Blk.new ((w.alloc (.cells #[.pointer (some ⟨g, 0, none⟩)] 114)).alloc (.cells #[.bool false] 4)) 114 #[.pointer (some ⟨g, 0, none⟩)]
    simpa [World.size_alloc] using this
  have hz : w1.heap.size = w.heap.size + 3 := by rw [hw1]; simp
  have hck := Blk.below h hb1 (Blk.lt h)
  have hseq := parts_seq g (w.heap.size + 2) 8 A n c w1 (by omega) hbx hck
  have hgl := Blk.lt h
  have Hw1 := Lib.hid hw1
  have Hb1 := Lib.hid hb1
  have Hr0 := Lib.hid hr0
  have H0 := Lib.hid hb0
  have Hck := Lib.hid hck
  have Hz := Lib.hid hz
  have Hseq := Lib.hid hseq
  clear h hw1 hb1 hr0 hb0 hbx hz hseq hck
  refine (callsIn_wide (n := 9)).1 ?_
  refine callsIn_of_wp_marks Tryz.func60 rfl trivial ?_ rfl
  simp only [Tryz.ntmps60, List.size_toArray, List.length_cons, List.length_nil, Nat.reduceAdd, Nat.reduceSub, Array.replicate_succ, Array.replicate_zero, List.push_toArray, List.append_toArray, List.nil_append, List.cons_append]
  refine wpIn_wide.2 ?_
  go_wp2_with (go_at_call 96; refine (parts96 _ _).mono ?_; rintro e w' ⟨rfl, hw'⟩)
  rw [← Hw1.out]
  clear hw'
  refine (wpIn_wide (n := 9)).1 ?_
  refine range_none (gf := 183) (lb := #[.pointer (some ⟨w.heap.size + 2, 0, none⟩)]) rfl (enters_of Tryz.func183 (by kernel_rfl) rfl) Hseq.out fun D W hD hW hk => ?_
  have hz := Hz.out
  have hDlt : D < W.heap.size := by
    rcases Nat.lt_or_ge D W.heap.size with h | h
    · exact h
    · rw [Array.getElem?_eq_none h] at hk; cases hk
  have Hk := Lib.hid hk
  have HW := Lib.hid hW
  have hsW := hW.size
  have facts : ∀ W2, Below w1.heap.size w1 W2 → W2.cell? ⟨w.heap.size, 0, none⟩ = some (.pointer (some ⟨g, 0, none⟩)) ∧ W2.cell? ⟨g, 0, none⟩ = some (.slice none 0 0) ∧ W2.cell? ⟨g, 2, none⟩ = some (.slice none 0 0) ∧ W2.cell? ⟨g, 4, none⟩ = some (.slice none 0 0) := fun W2 h2 =>
    ⟨(H0.out.below h2 H0.out.lt).cell 0, (Blk.below Hck.out h2 (Blk.lt Hck.out)).cell 0, (Blk.below Hck.out h2 (Blk.lt Hck.out)).cell 2, (Blk.below Hck.out h2 (Blk.lt Hck.out)).cell 4⟩
  have Hf := Lib.hid facts
  obtain ⟨a0, a1, a2, a3⟩ := facts W hW
  clear hW hk facts
  go_wp2_with fail
  refine (distinct0_106 _ _ _ _).mono ?_
  rintro e W2 ⟨rfl, hb2⟩
  have HW2 := Lib.hid (HW.out.trans (hb2.mono hsW))
  have HX2 := Lib.hid hb2
  obtain ⟨b0, b1, b2, b3⟩ := Hf.out W2 HW2.out
  clear a0 a1 a2 a3 hb2
  go_wp2_with fail
  refine (distinct0_108 _ _ _ _).mono ?_
  rintro e W3 ⟨rfl, hb3⟩
  have HW3 := Lib.hid (HW2.out.trans (hb3.mono HW2.out.size))
  have HX3 := Lib.hid (HX2.out.trans (hb3.mono HX2.out.size))
  obtain ⟨c0, c1, c2, c3⟩ := Hf.out W3 HW3.out
  clear b0 b1 b2 b3 hb3
  go_wp2_with fail
  refine (all0_92 _ _ _ _ _ _).mono ?_
  rintro e W4 ⟨rfl, hb4⟩
  have HW4 := Lib.hid (HW3.out.trans (hb4.mono HW3.out.size))
  have HX4 := Lib.hid (HX3.out.trans (hb4.mono HX3.out.size))
  obtain ⟨d0, d1, d2, d3⟩ := Hf.out W4 HW4.out
  clear c0 c1 c2 c3 hb4
  go_wp2_with fail
  refine (distinct0_109 _ _ _ _).mono ?_
  rintro e W5 ⟨rfl, hb5⟩
  have HW5 := Lib.hid (HW4.out.trans (hb5.mono HW4.out.size))
  have HX5 := Lib.hid (HX4.out.trans (hb5.mono HX4.out.size))
  have Hb0 := Lib.hid (Hr0.out.below HW5.out (by omega))
  have r0 : W5.cell? ⟨w.heap.size + 1, 0, none⟩ = some (.bool false) := Hb0.out.cell 0
  have f0 : W5.frozen? ⟨w.heap.size + 1, 0, none⟩ = false := Hb0.out.frozen 0
  have HB := Lib.hid (Hb1.out.trans (HW5.out.mono Hb1.out.size))
  have Hk5 := Lib.hid ((HX5.out.block D hDlt).trans Hk.out)
  clear hb5 d0 d1 d2 d3
  go_wp2_with fail
  have hz0 : Blk (W5.setCell ⟨w.heap.size + 1, 0, none⟩ (.bool true)) (w.heap.size + 1) 4 #[.bool true] := by simpa using Hb0.out.set_ 0 (.bool true)
  have Hz0 := Lib.hid hz0
  clear hz0
  refine leaves_marks [D] (W5.setCell ⟨w.heap.size + 1, 0, none⟩ (.bool true)) (w.heap.size + 2) (by simp) (fun E hE => by simp at hE; subst hE; exact ⟨by omega, (Below.heap_setCell W5 ⟨w.heap.size + 1, 0, none⟩ _ E (by simp; omega)).trans Hk5.out⟩) fun W' hSh => ?_
  have z0 : W'.cell? ⟨w.heap.size + 1, 0, none⟩ = some (.bool true) := (Hz0.out.below hSh.below (by omega)).cell 0
  exact ⟨.bool true, by simp [results, Tryz.f60, go_sem, z0], rfl, (HB.out.setCell (p := ⟨w.heap.size + 1, 0, none⟩) (by simp) _).trans (hSh.below.mono (by omega))⟩
end Go.Proofs.YtnbnkhockoflgaaGreatDoor
