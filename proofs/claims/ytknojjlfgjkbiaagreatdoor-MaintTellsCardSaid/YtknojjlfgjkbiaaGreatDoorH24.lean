/- Texts K1 K2 K3, joined. -/
import Derived.Test.YtknojjlfgjkbiaaGreatDoorH23
set_option linter.unusedSimpArgs false
set_option linter.unusedVariables false
set_option linter.unusedSectionVars false
/- The checker's rules on a configuration that holds causes alone. -/
namespace Go.Proofs.YtknojjlfgjkbiaaGreatDoor
open Go.ChangeShapes Go.WideShapes Go.ChangeAt Go.RowKit
attribute [local go_sem] Oper.semAt_some
/-- the checker's block. -/
def CkB (w : World) (g : Nat) (A : Option Addr) (n c : Nat) : Prop := Blk w g 128 #[.slice none 0 0, .slice none 0 0, .slice none 0 0, .slice none 0 0, .slice none 0 0, .slice none 0 0, .slice A n c, .slice none 0 0]
theorem CkB.cell {w : World} {g : Nat} {A : Option Addr} {n c : Nat} (h : CkB w g A n c) (i : Nat) : w.cell? ⟨g, i, none⟩ = (#[.slice none 0 0, .slice none 0 0, .slice none 0 0, .slice none 0 0, .slice none 0 0, .slice none 0 0, .slice A n c, .slice none 0 0] : Array Value)[i]? := Blk.cell h i
set_option maxRecDepth 100000 in
theorem vls_c (g : Nat) (A : Option Addr) (n c : Nat) (w : World) (h : CkB w g A n c) : Calls Tryz.prog 79 #[.pointer (some ⟨g, 0, none⟩)] w fun e w' => e = .returned (.bool true) ∧ Below w.heap.size w w' := by
  have k0 : w.cell? ⟨g, 0, none⟩ = some (.slice none 0 0) := h.cell 0
  have k1 : w.cell? ⟨g, 1, none⟩ = some (.slice none 0 0) := h.cell 1
  have k2 : w.cell? ⟨g, 2, none⟩ = some (.slice none 0 0) := h.cell 2
  have k3 : w.cell? ⟨g, 3, none⟩ = some (.slice none 0 0) := h.cell 3
  have k4 : w.cell? ⟨g, 4, none⟩ = some (.slice none 0 0) := h.cell 4
  have k5 : w.cell? ⟨g, 5, none⟩ = some (.slice none 0 0) := h.cell 5
  have k7 : w.cell? ⟨g, 7, none⟩ = some (.slice none 0 0) := h.cell 7
  have hlt : g < w.heap.size := Blk.lt h
  clear h
  go_enter Tryz.func79, Tryz.ntmps79
  go_wp2_with (go_at_call 140; refine (all0_118 _ _ _ _ _ _).mono ?_; rintro e w' ⟨rfl, hb⟩)
  go_ret
  exact ⟨rfl, ((Below.refl _ w).alloc (Nat.le_refl _) (.cells #[.pointer (some ⟨g, 0, none⟩)] 126)).trans (hb.mono (by simp))⟩
set_option maxRecDepth 100000 in
theorem links_c (g : Nat) (A : Option Addr) (n c : Nat) (w : World) (h : CkB w g A n c) : Calls Tryz.prog 77 #[.pointer (some ⟨g, 0, none⟩)] w fun e w' => e = .returned (.bool true) ∧ Below w.heap.size w w' := by
  have k3 : (((w.alloc (.cells #[.pointer (some ⟨g, 0, none⟩)] 126)).alloc (.map #[] 0)).alloc (.cells #[.map (some (w.heap.size + 1))] 210)).cell? ⟨g, 3, none⟩ = some (.slice none 0 0) := (((Blk.alloc h _).alloc _).alloc _).cell 3
  have hlt : g < w.heap.size := Blk.lt h
  have hmk := @run_makeMap Tryz.prog
  clear h
  go_enter Tryz.func77, Tryz.ntmps77
  go_wp2_with (go_at_call 116; refine (all0_94 _ _ _ _ _ _).mono ?_; rintro e w' ⟨rfl, hb⟩)
  go_ret
  exact ⟨rfl, ((((Below.refl _ w).alloc (Nat.le_refl _) (.cells #[.pointer (some ⟨g, 0, none⟩)] 126)).alloc (by simp) (.map #[] 0)).alloc (by simp; omega) (.cells #[.map (some (w.heap.size + 1))] 210)).trans (hb.mono (by simp; omega))⟩
end Go.Proofs.YtknojjlfgjkbiaaGreatDoor
/- The checker's iterators over no partitions. -/
namespace Go.Proofs.YtknojjlfgjkbiaaGreatDoor
open Go.ChangeShapes Go.WideShapes Go.ChangeAt Go.RowKit
attribute [local go_sem] Oper.semAt_some
set_option maxRecDepth 100000 in
theorem parts_seq (g Bl m : Nat) (A : Option Addr) (n c : Nat) (w : World) (hm : 1 ≤ m) (hb : Blk w Bl 126 #[.pointer (some ⟨g, 0, none⟩)]) (h : CkB w g A n c) :
    SeqStopsK Fence.wide m Tryz.prog 205 #[.pointer (some ⟨Bl, 0, none⟩)] (fun x : Empty => x.elim) KeepsWalks (fun xs => xs = []) (fun _ => True) 0 w := by
  intro l J Jx W hW hJ hJx hY h0
  have c0 : W.cell? ⟨Bl, 0, none⟩ = some (.pointer (some ⟨g, 0, none⟩)) := (hb.below hW hb.lt).cell 0
  have k0 : W.cell? ⟨g, 0, none⟩ = some (.slice none 0 0) := (Blk.below h hW (Blk.lt h)).cell 0
  clear hY hJ hJx hb h
  refine callsIn_of_wp Tryz.func205 rfl trivial ?_ rfl
  simp only [Tryz.ntmps205, List.size_toArray, List.length_cons, List.length_nil, Nat.reduceAdd, Nat.reduceSub, Array.replicate_succ, Array.replicate_zero, List.push_toArray, List.append_toArray, List.nil_append, List.cons_append]
  gi_wp2
  gi_loopw [13] (fun t wr => t = .int .i64 0 ∧ wr = W) (fun t wr => 0)
  case atStart => exact ⟨rfl, rfl⟩
  case round =>
    obtain ⟨rfl, rfl⟩ := hrel
    gi_wp2
    go_end0
    exact ⟨⟨_, rfl⟩, .inl ⟨[], rfl, h0⟩⟩
end Go.Proofs.YtknojjlfgjkbiaaGreatDoor
/- A range over an iterator that gives nothing; the checker's rules on periods, code, names. -/
namespace Go.Proofs.YtknojjlfgjkbiaaGreatDoor
open Go.ChangeShapes Go.WideShapes Go.ChangeAt Go.RowKit
attribute [local go_sem] Oper.semAt_some

theorem range_none {g : Operand} {ps : Array Tmp} {assign body : Code} {Q : Exit → Act → World → Prop} {a : Act} {w : World} {gf : Nat} {lb : Array Value} (hg : a.eval g = .func (.func gf) #[] lb) (eg : ∀ args w, (callFunc gf args).run Tryz.prog w = .ok (.enter gf args) w)
    (hseq : SeqStopsK Fence.wide 8 Tryz.prog gf lb (fun x : Empty => x.elim) KeepsWalks (fun xs => xs = []) (fun _ => True) 0 w)
    (hdone : ∀ (D : Nat) (W : World), w.heap.size ≤ D → Below w.heap.size w W → W.heap[D]? = some (.deferred (some [])) → Q .normal { a with defers := { target := .collected D, args := #[] } :: a.defers } W) :
    (Code.rangeFunc g ps assign body).wpIn Fence.wide 9 Tryz.prog Q a w := by
  refine wpIn_rangeFunc_ownH (F := Fence.wide) rfl (by omega) (gf := gf) (lb := lb) hg trivial eg (encs := fun x : Empty => x.elim) hseq
    (fun h1 h2 => h1.trans h2) (fun W l o o' _ hh _ hw => KeepsWalks.putObj o' hh hw) (Below.refl _ _) (fun x => x.elim)
    (fun _ W => Below w.heap.size w W) (fun _ _ _ => False)
    (fun _ X Y row hs hg hr => hs.grown hg hs.size (fun r e => (hr r e).1))
    (fun _ _ X Y row hs _ _ => hs)
    (Below.refl _ _)
    (fun y _ _ => False)
    (fun y a' s X Y row hs hg hr => hs) ?assign ?body ?done ?stop
  case assign => intro l pre y; exact y.elim
  case body => intro l pre y; exact y.elim
  case done => exact fun D xs W hD _ hI hk => hdone D W hD hI hk
  case stop => intro D c' pre W _ _ h _; exact h.elim
set_option maxRecDepth 100000 in
theorem conn_seq (g Bl m : Nat) (A : Option Addr) (n c : Nat) (w : World) (hm : 1 ≤ m) (hb : Blk w Bl 126 #[.pointer (some ⟨g, 0, none⟩)]) (h : CkB w g A n c) :
    SeqStopsK Fence.wide m Tryz.prog 197 #[.pointer (some ⟨Bl, 0, none⟩)] (fun x : Empty => x.elim) KeepsWalks (fun xs => xs = []) (fun _ => True) 0 w := by
  intro l J Jx W hW hJ hJx hY h0
  have c0 : W.cell? ⟨Bl, 0, none⟩ = some (.pointer (some ⟨g, 0, none⟩)) := (hb.below hW hb.lt).cell 0
  have k1 : W.cell? ⟨g, 1, none⟩ = some (.slice none 0 0) := (Blk.below h hW (Blk.lt h)).cell 1
  have k4 : W.cell? ⟨g, 4, none⟩ = some (.slice none 0 0) := (Blk.below h hW (Blk.lt h)).cell 4
  clear hY hJ hJx hb h
  refine callsIn_of_wp Tryz.func197 rfl trivial ?_ rfl
  simp only [Tryz.ntmps197, List.size_toArray, List.length_cons, List.length_nil, Nat.reduceAdd, Nat.reduceSub, Array.replicate_succ, Array.replicate_zero, List.push_toArray, List.append_toArray, List.nil_append, List.cons_append]
  gi_wp2
  gi_loopw [13] (fun t wr => t = .int .i64 0 ∧ wr = W) (fun t wr => 0)
  case atStart => exact ⟨rfl, rfl⟩
  case round =>
    obtain ⟨rfl, rfl⟩ := hrel
    gi_wp2
    gi_loopw [32] (fun t wr' => t = .int .i64 0 ∧ wr' = wr) (fun t wr' => 0)
    case atStart => exact ⟨rfl, rfl⟩
    case round =>
      obtain ⟨rfl, rfl⟩ := hrel
      gi_wp2
      go_end0
      exact ⟨⟨_, rfl⟩, .inl ⟨[], rfl, h0⟩⟩
theorem parts96 (g : Nat) (w : World) : Calls Tryz.prog 118 #[.pointer (some ⟨g, 0, none⟩)] w fun e w' => e = .returned (.func (.func 205) #[] #[.pointer (some ⟨w.heap.size, 0, none⟩)]) ∧ w' = w.alloc (.cells #[.pointer (some ⟨g, 0, none⟩)] 126) := by
  go_enter Tryz.func118, Tryz.ntmps118
  go_wp2
  go_ret
  exact ⟨rfl, rfl⟩
theorem conns91 (g : Nat) (w : World) : Calls Tryz.prog 113 #[.pointer (some ⟨g, 0, none⟩)] w fun e w' => e = .returned (.func (.func 197) #[] #[.pointer (some ⟨w.heap.size, 0, none⟩)]) ∧ w' = w.alloc (.cells #[.pointer (some ⟨g, 0, none⟩)] 126) := by
  go_enter Tryz.func113, Tryz.ntmps113
  go_wp2
  go_ret
  exact ⟨rfl, rfl⟩
set_option maxRecDepth 100000 in
set_option maxHeartbeats 1000000 in
theorem times_c (g : Nat) (A : Option Addr) (n c : Nat) (w : World) (h : CkB w g A n c) : Calls Tryz.prog 75 #[.pointer (some ⟨g, 0, none⟩)] w fun e w' => e = .returned (.bool true) ∧ Below w.heap.size w w' := by
  obtain ⟨w1, hw1⟩ : ∃ w1, w1 = (w.alloc (.cells #[.bool false] 4)).alloc (.cells #[.pointer (some ⟨g, 0, none⟩)] 126) := ⟨_, rfl⟩
  have hb1 : Below w.heap.size w w1 := by rw [hw1]; exact ((Below.refl _ w).alloc (Nat.le_refl _) _).alloc (by simp) _
  have hr0 : Blk w1 w.heap.size 4 #[.bool false] := by rw [hw1]; exact (Blk.new w _ _).alloc _
  have hbx : Blk w1 (w.heap.size + 1) 126 #[.pointer (some ⟨g, 0, none⟩)] := by rw [hw1]; have := Blk.new (w.alloc (.cells #[.bool false] 4)) 126 #[.pointer (some ⟨g, 0, none⟩)]; rwa [World.size_alloc] at this
  have hz : w1.heap.size = w.heap.size + 2 := by rw [hw1]; simp
  have hseq := parts_seq g (w.heap.size + 1) 8 A n c w1 (by omega) hbx (Blk.below h hb1 (Blk.lt h))
  have Hw1 := Lib.hid hw1
  have Hb1 := Lib.hid hb1
  have Hr0 := Lib.hid hr0
  have Hz := Lib.hid hz
  have Hseq := Lib.hid hseq
  clear h hw1 hb1 hr0 hbx hz hseq
  refine (callsIn_wide (n := 9)).1 ?_
  refine callsIn_of_wp_marks Tryz.func75 rfl trivial ?_ rfl
  simp only [Tryz.ntmps75, List.size_toArray, List.length_cons, List.length_nil, Nat.reduceAdd, Nat.reduceSub, Array.replicate_succ, Array.replicate_zero, List.push_toArray, List.append_toArray, List.nil_append, List.cons_append]
  refine wpIn_wide.2 ?_
  go_wp2_with (go_at_call 118; refine (parts96 _ _).mono ?_; rintro e w' ⟨rfl, hw'⟩)
  rw [← Hw1.out]
  clear hw'
  refine (wpIn_wide (n := 9)).1 ?_
  refine range_none (gf := 205) (lb := #[.pointer (some ⟨w.heap.size + 1, 0, none⟩)]) rfl (enters_of Tryz.func205 (by kernel_rfl) rfl) Hseq.out fun D W hD hW hk => ?_
  have hz := Hz.out
  have d0 : W.cell? ⟨w.heap.size, 0, none⟩ = some (.bool false) := (Hr0.out.below hW (by omega)).cell 0
  have f0 : W.frozen? ⟨w.heap.size, 0, none⟩ = false := (Hr0.out.below hW (by omega)).frozen 0
  have Hb0 := Lib.hid (Hr0.out.below hW (by omega))
  have HB := Lib.hid (Hb1.out.trans (hW.mono Hb1.out.size))
  have HW := Lib.hid hW
  have hDlt : D < W.heap.size := by
    rcases Nat.lt_or_ge D W.heap.size with h | h
    · exact h
    · rw [Array.getElem?_eq_none h] at hk; cases hk
  have Hk := Lib.hid hk
  clear hW hk
  go_wp2_with fail
  have hz0 : Blk (W.setCell ⟨w.heap.size, 0, none⟩ (.bool true)) w.heap.size 4 #[.bool true] := by simpa using Hb0.out.set_ 0 (.bool true)
  have Hz0 := Lib.hid hz0
  clear hz0
  refine leaves_marks [D] (W.setCell ⟨w.heap.size, 0, none⟩ (.bool true)) (w.heap.size + 1) (by simp) (fun E hE => by simp at hE; subst hE; exact ⟨by omega, (Below.heap_setCell W ⟨w.heap.size, 0, none⟩ _ E (by simp; omega)).trans Hk.out⟩) fun W' hSh => ?_
  have z0 : W'.cell? ⟨w.heap.size, 0, none⟩ = some (.bool true) := (Hz0.out.below hSh.below (by omega)).cell 0
  exact ⟨.bool true, by simp [results, Tryz.f75, go_sem, z0], rfl, (HB.out.setCell (p := ⟨w.heap.size, 0, none⟩) (Nat.le_refl _) _).trans (hSh.below.mono (by omega))⟩
end Go.Proofs.YtknojjlfgjkbiaaGreatDoor
