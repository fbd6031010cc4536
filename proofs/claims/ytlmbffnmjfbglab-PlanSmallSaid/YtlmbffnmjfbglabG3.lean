/- Texts P1 P2 P3 P4 P5 P6 P7 P8, joined. -/
import Derived.IntWalk
import Derived.Deep.RegionHeld3
import Derived.RangeFuncNested
import Derived.RangeFuncLeaves
import Derived.Shelf.Abstract
import Derived.WalkKit
import Derived.OwnWalkIn
import Derived.TacticsInMore
import Derived.LoopNIn
import Derived.LoopIn
import Derived.Test.YtlmbffnmjfbglabG1
import Derived.Test.YtlmbffnmjfbglabG0
import Derived.Test.YtlmbffnmjfbglabG2
set_option linter.unusedSimpArgs false
set_option linter.unusedVariables false
/- The search object, and the contracts of slot, last, clash and conflict. -/
namespace Go.Proofs.Ytlmbffnmjfbglab
open Go.ChangeShapes Go.WideShapes Go.ChangeAt Go.RowKit

/-- a search: a module, the offsets of its first partitions, and the number of tries. -/
structure SB (W : World) (Bs : Nat) (name : ByteArray) (mem F : Int) (A : Option Addr) (ps : List Part) (c : Nat) (Ao : Option Addr) (os : List Int) (co : Nat) (t : Int) : Prop where
  blk : Blk W Bs 67 #[.string name, .int .i64 mem, .int .i64 F, .slice A ps.length c, .slice Ao os.length co, .int .i64 t]
  pt : RdPart W W.heap.size A ps
  of : RdInt W W.heap.size Ao os
  ne : ∀ b o, Ao = some ⟨b, o, none⟩ → 0 < os.length → b ≠ Bs
  cap : os.length ≤ co
section
variable {W W' : World} {Bs : Nat} {name : ByteArray} {mem F : Int} {A : Option Addr} {ps : List Part} {c : Nat} {Ao : Option Addr} {os : List Int} {co : Nat} {t : Int}
theorem SB.next (h : SB W Bs name mem F A ps c Ao os co t) (hb : Below W.heap.size W W') : SB W' Bs name mem F A ps c Ao os co t :=
  ⟨h.blk.below hb h.blk.lt, h.pt.below hb, h.of.below hb, h.ne, h.cap⟩
theorem SB.cells (h : SB W Bs name mem F A ps c Ao os co t) : W.cell? ⟨Bs, 0, none⟩ = some (.string name) ∧ W.cell? ⟨Bs, 1, none⟩ = some (.int .i64 mem) ∧ W.cell? ⟨Bs, 2, none⟩ = some (.int .i64 F) ∧ W.cell? ⟨Bs, 3, none⟩ = some (.slice A ps.length c) ∧ W.cell? ⟨Bs, 4, none⟩ = some (.slice Ao os.length co) ∧ W.cell? ⟨Bs, 5, none⟩ = some (.int .i64 t) :=
  ⟨h.blk.cell 0, h.blk.cell 1, h.blk.cell 2, h.blk.cell 3, h.blk.cell 4, h.blk.cell 5⟩
end

set_option maxRecDepth 100000 in
set_option maxHeartbeats 1000000 in
theorem last_c {w : World} {Bs : Nat} {name : ByteArray} {mem F : Int} {A : Option Addr} {ps : List Part} {c : Nat} {Ao : Option Addr} {os : List Int} {co : Nat} {t : Int} (h : SB w Bs name mem F A ps c Ao os co t) (k : Nat) (hk : k < ps.length) (hp0 : 0 ≤ ps[k].period) (hp1 : ps[k].period ≤ 2000) (hl0 : 0 ≤ ps[k].length) (hl1 : ps[k].length ≤ 2000) :
    Calls Try.prog 63 #[.pointer (some ⟨Bs, 0, none⟩), .int .i64 k] w fun e w' => e = .returned (.int .i64 (ps[k].period - ps[k].length)) ∧ ∃ n, w' = w.drewN n := by
  obtain ⟨_, _, _, c3, _, _⟩ := h.cells
  obtain ⟨b, o, rfl, hb, hcp⟩ := h.pt (by omega)
  have p1 : w.cell? ⟨b, o + k * 10 + 1, none⟩ = some (.int .i64 ps[k].period) := hcp k hk 1 _ rfl
  have p2 : w.cell? ⟨b, o + k * 10 + 2, none⟩ = some (.int .i64 ps[k].length) := hcp k hk 2 _ rfl
  have hi0 : (0 : Int) ≤ (k : Int) := by omega
  have hi1 : (k : Int) < (ps.length : Int) := by omega
  clear hcp h
  generalize ps[k].period = P at *
  generalize ps[k].length = L at *
  have m1 := IntWalk.i64_in (P - L) (by omega)
  go_enter Try.func63, Try.ntmps63
  go_wp2_with fail
  go_quiet (fail)
  clear m1
  go_wp2
  go_ret
  exact ⟨rfl, _, rfl⟩

set_option maxRecDepth 100000 in
set_option maxHeartbeats 1000000 in
theorem slot_m {w : World} {Bs : Nat} {name : ByteArray} {mem F : Int} {A : Option Addr} {ps : List Part} {c : Nat} {Ao : Option Addr} {os : List Int} {co : Nat} {t : Int} (h : SB w Bs name mem F A ps c Ao os co t) (k : Nat) (hk : k < ps.length) (x : Int) :
    Calls Try.prog 87 #[.pointer (some ⟨Bs, 0, none⟩), .int .i64 k, .int .i64 x] w fun e w' => e = .returned (.agg #[.int .i64 x, .int .i64 ps[k].period, .int .i64 ps[k].length]) ∧ Below w.heap.size w w' := by
  obtain ⟨_, _, _, c3, _, _⟩ := h.cells
  obtain ⟨b, o, rfl, hb, hcp⟩ := h.pt (by omega)
  have p1 : w.cell? ⟨b, o + k * 10 + 1, none⟩ = some (.int .i64 ps[k].period) := hcp k hk 1 _ rfl
  have p2 : w.cell? ⟨b, o + k * 10 + 2, none⟩ = some (.int .i64 ps[k].length) := hcp k hk 2 _ rfl
  have hi0 : (0 : Int) ≤ (k : Int) := by omega
  have hi1 : (k : Int) < (ps.length : Int) := by omega
  have hz := h.blk.lt
  clear hcp h
  generalize ps[k].period = P at *
  generalize ps[k].length = L at *
  go_enter Try.func87, Try.ntmps87
  go_wp2_with fail
  go_region_held3 (fun w' => w'.cell? ⟨Bs, 3, none⟩ = some (.slice (some ⟨b, o, none⟩) ps.length c) ∧ w'.cell? ⟨b, o + k * 10 + 1, none⟩ = some (.int .i64 P) ∧ w'.cell? ⟨b, o + k * 10 + 2, none⟩ = some (.int .i64 L)) (go_keep) (fail)
  refine nameX fun w2 hw2 => ?_
  have hB : Below w.heap.size w w2 := by subst hw2; exact ((Below.refl _ w).alloc (Nat.le_refl _) _).drew
  have hbk : Blk w2 w.heap.size 46 #[.int .i64 x, .int .i64 P, .int .i64 L] := by subst hw2; exact Blk.new w 46 _
  clear hw2 p1 p2 c3
  have s0 : w2.cell? ⟨w.heap.size, 0, none⟩ = some (.int .i64 x) := hbk.cell 0
  have s1 : w2.cell? ⟨w.heap.size, 1, none⟩ = some (.int .i64 P) := hbk.cell 1
  have s2 : w2.cell? ⟨w.heap.size, 2, none⟩ = some (.int .i64 L) := hbk.cell 2
  go_wp2
  refine bodyPost_ret (v := .agg #[.int .i64 x, .int .i64 P, .int .i64 L]) ?_ rfl ⟨rfl, hB⟩
  simp [results, Try.results87, go_sem, s0, s1, s2]

/-- the slot of partition k with offset o. -/
def pslot (ps : List Part) (k : Nat) (o : Int) : Slot := ⟨o, (ps.getD k default).period, (ps.getD k default).length⟩
/-- an offset of the next partition conflicts with partition j. -/
def clashP (ps : List Part) (os : List Int) (j : Nat) (o : Int) : Bool := !disjB (pslot ps j (os.getD j 0)) (pslot ps os.length o)
/-- the first partition with which it conflicts, or -1. -/
def conflP (ps : List Part) (os : List Int) (o : Int) : Int := idxI (fun j => clashP ps os j o) (List.range os.length)

set_option maxRecDepth 100000 in
set_option maxHeartbeats 1000000 in
theorem clash_m {w : World} {Bs : Nat} {name : ByteArray} {mem F : Int} {A : Option Addr} {ps : List Part} {c : Nat} {Ao : Option Addr} {os : List Int} {co : Nat} {t : Int} (h : SB w Bs name mem F A ps c Ao os co t) (j : Nat) (hj : j < os.length) (hn : os.length < ps.length) (x : Int) :
    Calls Try.prog 65 #[.pointer (some ⟨Bs, 0, none⟩), .int .i64 j, .int .i64 x] w fun e w' => e = .returned (.bool (clashP ps os j x)) ∧ Below w.heap.size w w' := by
  obtain ⟨_, _, _, _, c4, _⟩ := h.cells
  obtain ⟨b, o, rfl, hb, hco⟩ := h.of (by omega)
  have d0 := hco j hj
  have hi0 : (0 : Int) ≤ (j : Int) := by omega
  have hi1 : (j : Int) < (os.length : Int) := by omega
  have hz := h.blk.lt
  have k1 : ∀ y : Ext w, Calls Try.prog 87 #[.pointer (some ⟨Bs, 0, none⟩), .int .i64 j, .int .i64 os[j]] y.w fun e w' => e = .returned (.agg #[.int .i64 os[j], .int .i64 (ps[j]'(by omega)).period, .int .i64 (ps[j]'(by omega)).length]) ∧ Below y.w.heap.size y.w w' := fun y => slot_m (h.next y.h) j (by omega) os[j]
  have k2 : ∀ y : Ext w, Calls Try.prog 87 #[.pointer (some ⟨Bs, 0, none⟩), .int .i64 os.length, .int .i64 x] y.w fun e w' => e = .returned (.agg #[.int .i64 x, .int .i64 ps[os.length].period, .int .i64 ps[os.length].length]) ∧ Below y.w.heap.size y.w w' := fun y => slot_m (h.next y.h) os.length hn x
  have k3 : ∀ y : Ext w, Calls Try.prog 22 #[.agg #[.int .i64 os[j], .int .i64 (ps[j]'(by omega)).period, .int .i64 (ps[j]'(by omega)).length], .agg #[.int .i64 x, .int .i64 ps[os.length].period, .int .i64 ps[os.length].length]] y.w fun e w' => e = .returned (.bool (disjB ⟨os[j], (ps[j]'(by omega)).period, (ps[j]'(by omega)).length⟩ ⟨x, ps[os.length].period, ps[os.length].length⟩)) ∧ Below y.w.heap.size y.w w' := fun y => disj_c _ _ y.w
  have Hv := Lib.hid (show clashP ps os j x = !disjB ⟨os[j], (ps[j]'(by omega)).period, (ps[j]'(by omega)).length⟩ ⟨x, ps[os.length].period, ps[os.length].length⟩ by
    simp [clashP, pslot, hj, hn, show j < ps.length by omega])
  have hec := ext_cell w
  clear hco h
  generalize os[j] = v0 at *
  generalize (ps[j]'(by omega)).period = v1 at *
  generalize (ps[j]'(by omega)).length = v2 at *
  generalize ps[os.length].period = v3 at *
  generalize ps[os.length].length = v4 at *
  generalize disjB ⟨v0, v1, v2⟩ ⟨x, v3, v4⟩ = q at *
  go_enter Try.func65, Try.ntmps65
  go_wp2_with fail
  refine wp_region_ext (by kernel_rfl) (by kernel_rfl) ?_
  repeat (go_big_quiet_step ((first | (go_at_call 87; with_reducible exact ext_call (k1 _)) | (go_at_call 87; with_reducible exact ext_call (k2 _)) | (go_at_call 22; with_reducible exact ext_call (k3 _)))))
  refine wpQuiet_nil ?_
  intro _ hw'
  obtain ⟨xx, hw''⟩ := hw'
  subst hw''
  have hB := xx.h
  clear hec k1 k2 k3 c4 d0
  generalize xx.w = w3 at hB ⊢
  go_wp2
  go_ret
  exact ⟨ret_bool Hv.out.symm, hB⟩

set_option maxHeartbeats 1000000 in
theorem conflict_m {w : World} {Bs : Nat} {name : ByteArray} {mem F : Int} {A : Option Addr} {ps : List Part} {c : Nat} {Ao : Option Addr} {os : List Int} {co : Nat} {t : Int} (h : SB w Bs name mem F A ps c Ao os co t) (hn : os.length < ps.length) (hps : ps.length ≤ 6) (x : Int) :
    Calls Try.prog 42 #[.pointer (some ⟨Bs, 0, none⟩), .int .i64 x] w fun e w' => e = .returned (.int .i64 (conflP ps os x)) ∧ Below w.heap.size w w' := by
  obtain ⟨_, _, _, _, c4, _⟩ := h.cells
  go_enter Try.func42, Try.ntmps42
  go_wp2_with fail
  go_loopw [11] (fun i wr => ∃ k : Nat, k ≤ os.length ∧ i = .int .i64 k ∧ Below w.heap.size w wr ∧ Hid (∀ j, j < k → clashP ps os j x = false)) (fun i _ => os.length - (intOf i).toNat)
  case atStart => exact ⟨0, Nat.zero_le _, rfl, Below.refl _ _, fun j h => absurd h (by omega)⟩
  case round =>
    obtain ⟨k, hk, rfl, hB, hall⟩ := hrel
    by_cases hlt : k < os.length
    · have hc := clash_m (h.next hB) k hlt hn x
      cases hq : clashP ps os k x with
      | true =>
        have Hf := Lib.hid (show conflP ps os x = k by
          unfold conflP
          exact idxI_hit (l := List.range os.length) (k := k) (by simpa using hlt) (by simpa using hq) (fun j hj hjk => by simpa using hall.out j hjk))
        rw [hq] at hc
        clear hq hall c4 h
        go_wp2_with fail
        refine hc.mono ?_
        rintro e w2 ⟨rfl, hb⟩
        have hB2 := hB.trans (hb.mono hB.size)
        clear hc hb hB
        go_wp2
        go_ret
        exact ⟨ret_int Hf.out.symm, hB2⟩
      | false =>
        have Hn : Hid (∀ j, j < k + 1 → clashP ps os j x = false) := fun j hj => by
          by_cases e : j = k
          · subst e; exact hq
          · exact hall.out j (by omega)
        rw [hq] at hc
        clear hq hall c4 h
        go_wp2_with fail
        refine hc.mono ?_
        rintro e w2 ⟨rfl, hb⟩
        have hB2 := hB.trans (hb.mono hB.size)
        clear hc hb hB
        go_wp2
        go_roundw
        case rel => exact ⟨k + 1, by omega, by go_num, hB2, Hn⟩
        case measure => simp [intOf]; omega
    · have Hf := Lib.hid (show conflP ps os x = -1 by
        unfold conflP
        exact idxI_miss fun j hj => by simp at hj; simpa using hall.out j (by omega))
      clear hall c4 h
      go_wp2
      go_ret
      exact ⟨ret_int Hf.out.symm, hB⟩
end Go.Proofs.Ytlmbffnmjfbglab
/- The contract of plan's times. -/
namespace Go.Proofs.Ytlmbffnmjfbglab
open Go.ChangeShapes Go.WideShapes Go.ChangeAt Go.RowKit

theorem RdInt.blk {W : World} {B : Nat} {l : List Int} (h : Blk W B 3 (l.map (Value.int .i64)).toArray) : RdInt W W.heap.size (some ⟨B, 0, none⟩) l := fun _ =>
  ⟨B, 0, rfl, h.lt, fun i hi => by rw [h.cell]; simp [hi]⟩
theorem make_zero (n : Nat) (w : World) : Blk (w.alloc (.cells (madeCells #[Value.int .i64 0] n) 3)) w.heap.size 3 ((List.replicate n (0 : Int)).map (Value.int .i64)).toArray := by
  have e : madeCells #[Value.int .i64 0] n = ((List.replicate n (0 : Int)).map (Value.int .i64)).toArray := by
    refine Array.ext (by simp [madeCells]) fun i h1 h2 => ?_
    simp [madeCells, Nat.mod_one]
  rw [← e]
  exact Blk.new _ _ _
theorem run_make_ints (n : Nat) (hn : n * 8 ≤ 140737488355328) (W : World) : (Instr.makeSlice 28 (.int .i64 (n : Int)) (.int .i64 (n : Int))).run Try.prog W = .ok (.slice (some ⟨W.heap.size, 0, none⟩) n n) (W.alloc (.cells (madeCells #[.int .i64 0] n) 3)) := by
  obtain ⟨i0, hi0, hz0, hz1, hz2⟩ := info_parts info3
  have e := run_make_rowN (P := Try.prog) 28 3 i0 _ Try.underlying28 hi0 hz0 .i64 .i64 n n (by omega) (by rw [hz2]; omega) (by omega) W
  rw [hz1] at e
  simpa [Value.cells] using e

/-- the times of a module are valid. -/
def ptimes (F : Int) (ps : List Part) : Bool := decide ((slotsV F ps (List.replicate ps.length 0)).2 = 0)

set_option maxRecDepth 100000 in
set_option maxHeartbeats 1000000 in
theorem ptimes_c (name : ByteArray) (mem F : Int) (ps : List Part) (A : Option Addr) (c : Nat) (w : World) (h : RdPart w w.heap.size A ps) (hl : ps.length * 8 ≤ 140737488355328) :
    Calls Try.prog 35 #[.agg #[.string name, .int .i64 mem, .int .i64 F, .slice A ps.length c]] w fun e w' => e = .returned (.bool (ptimes F ps)) ∧ Below w.heap.size w w' := by
  have hB : Below w.heap.size w (w.alloc (.cells #[.string name, .int .i64 mem, .int .i64 F, .slice A ps.length c] 24)) := (Below.refl _ w).alloc (Nat.le_refl _) _
  have hblk := Blk.new w 24 #[.string name, .int .i64 mem, .int .i64 F, .slice A ps.length c]
  have hmk := fun W => run_make_ints ps.length hl W
  go_enter Try.func35, Try.ntmps35
  go_wp2_with fail
  have hp1 : RdPart (w.alloc (.cells #[.string name, .int .i64 mem, .int .i64 F, .slice A ps.length c] 24)) (w.alloc (.cells #[.string name, .int .i64 mem, .int .i64 F, .slice A ps.length c] 24)).heap.size A ps := h.below hB
  refine nameW fun W1 hW1 => ?_
  rw [← hW1] at hB hblk hp1
  clear hW1 h
  have q0 : W1.cell? ⟨w.heap.size, 0, none⟩ = some (.string name) := hblk.cell 0
  have q1 : W1.cell? ⟨w.heap.size, 1, none⟩ = some (.int .i64 mem) := hblk.cell 1
  have q2 : W1.cell? ⟨w.heap.size, 2, none⟩ = some (.int .i64 F) := hblk.cell 2
  have q3 : W1.cell? ⟨w.heap.size, 3, none⟩ = some (.slice A ps.length c) := hblk.cell 3
  have hB2 : Below W1.heap.size W1 (W1.alloc (.cells (madeCells #[.int .i64 0] ps.length) 3)).drew := ((Below.refl _ W1).alloc (Nat.le_refl _) _).drew
  have hsl := slots_c name mem F ps A c (List.replicate ps.length 0) (some ⟨W1.heap.size, 0, none⟩) ps.length (W1.alloc (.cells (madeCells #[.int .i64 0] ps.length) 3)).drew (hp1.below hB2) (RdInt.blk (show Blk (W1.alloc (.cells (madeCells #[.int .i64 0] ps.length) 3)).drew W1.heap.size 3 _ from make_zero _ W1)) (by omega) (by simp; omega)
  rw [List.length_replicate] at hsl
  have Hk := Lib.hid (fun w' (hb : Below (W1.alloc (.cells (madeCells #[.int .i64 0] ps.length) 3)).drew.heap.size (W1.alloc (.cells (madeCells #[.int .i64 0] ps.length) 3)).drew w') => hblk.below (hB2.trans (hb.mono hB2.size)) hblk.lt)
  have Hb := Lib.hid (fun w' (hb : Below (W1.alloc (.cells (madeCells #[.int .i64 0] ps.length) 3)).drew.heap.size (W1.alloc (.cells (madeCells #[.int .i64 0] ps.length) 3)).drew w') => hB.trans ((hB2.trans (hb.mono hB2.size)).mono hB.size))
  have Hpt := Lib.hid (show ptimes F ps = decide ((slotsV F ps (List.replicate ps.length 0)).2 = 0) from rfl)
  generalize slotsV F ps (List.replicate ps.length 0) = sv at *
  obtain ⟨s1, s2⟩ := sv
  simp only at *
  clear hp1 hB2
  go_region_held3 (fun w' => w'.cell? ⟨w.heap.size, 0, none⟩ = some (.string name) ∧ w'.cell? ⟨w.heap.size, 1, none⟩ = some (.int .i64 mem) ∧ w'.cell? ⟨w.heap.size, 2, none⟩ = some (.int .i64 F) ∧ w'.cell? ⟨w.heap.size, 3, none⟩ = some (.slice A ps.length c)) (go_keep) (first | ((go_at_call 21; (with_reducible refine hsl.mono ?_); rintro e w' ⟨A1, c1, rfl, hr, hb⟩; have k0 := (Hk.out w' hb).cell 0; have k1 := (Hk.out w' hb).cell 1; have k2 := (Hk.out w' hb).cell 2; have k3 := (Hk.out w' hb).cell 3; have hBf := Hb.out w' hb; simp at k0 k1 k2 k3)))
  clear Hk Hb hmk hsl q0 q1 q2 q3 k0 k1 k2 k3 hr hb
  by_cases h0 : s2 = 0
  · subst h0
    go_wp2
    go_ret
    exact ⟨ret_bool (by rw [Hpt.out]; simp), hBf⟩
  · have t1 : (s2 == 0) = false := by simpa using h0
    have Hf := Lib.hid (show ptimes F ps = false by rw [Hpt.out, decide_eq_false h0])
    clear Hpt h0
    go_wp2
    go_ret
    exact ⟨ret_bool Hf.out.symm, hBf⟩

/-- what valid times say. -/
structure TimesOk (F : Int) (ps : List Part) : Prop where
  frame : 1 ≤ F ∧ F ≤ 2000
  few : ps.length ≤ 6
  per : ∀ p ∈ ps, 1 ≤ p.period ∧ p.period ≤ 2000 ∧ F % p.period = 0
  len : ∀ p ∈ ps, 1 ≤ p.length ∧ p.length ≤ p.period
theorem timesV_ok {F : Int} {ps : List Part} (h : timesV F ps = true) : TimesOk F ps := by
  simp only [timesV, Bool.and_eq_true, decide_eq_true_iff, Bool.not_eq_true', List.any_eq_false] at h
  obtain ⟨h1, h2, h3, h4⟩ := h
  have key : ∀ p ∈ ps, 1 ≤ p.period ∧ F % p.period = 0 ∧ 1 ≤ p.length ∧ p.length ≤ p.period := fun p hp => by
    have := h4 p hp
    simp only [timeBad, Bool.or_eq_true, decide_eq_true_iff, not_or, Decidable.not_not] at this
    omega
  refine ⟨⟨h1, h2⟩, h3, fun p hp => ?_, fun p hp => (key p hp).2.2⟩
  obtain ⟨a, b, _, _⟩ := key p hp
  refine ⟨a, ?_, b⟩
  have e := Int.mul_ediv_add_emod F p.period
  rw [b] at e
  rcases Int.lt_or_le (F / p.period) 1 with g | g
  · have : p.period * (F / p.period) ≤ 0 := Int.mul_nonpos_of_nonneg_of_nonpos (by omega) (by omega)
    omega
  · have := Int.mul_le_mul_of_nonneg_left g (show 0 ≤ p.period by omega)
    omega
theorem zip_zero {ps : List Part} (k : Nat) (h : k < (zipS (List.replicate ps.length 0) ps).length) : (zipS (List.replicate ps.length 0) ps)[k] = pslot ps k 0 := by
  have hk : k < ps.length := by simpa [zipS] using h
  rw [zipS_get _ _ k h (by simpa using hk) hk]
  simp [pslot, hk]
/-- plan's times are the times of the module. -/
theorem ptimes_iff (F : Int) (ps : List Part) : ptimes F ps = timesV F ps := by
  unfold ptimes slotsV
  cases ht : timesV F ps with
  | false => simp
  | true =>
    have hT := timesV_ok ht
    simp only [Bool.true_and, List.length_replicate, decide_true, if_true]
    rw [if_neg]
    · simp
    · rw [Bool.not_eq_true, List.any_eq_false]
      intro s hs
      obtain ⟨k, hk, rfl⟩ := List.getElem_of_mem hs
      have hkp : k < ps.length := by simpa [zipS] using hk
      rw [zip_zero k hk]
      have h1 := hT.per ps[k] (List.getElem_mem _)
      have h2 := hT.len ps[k] (List.getElem_mem _)
      simp [validS, Slot.ok, pslot, hkp]
      omega
end Go.Proofs.Ytlmbffnmjfbglab
/- A range over a function whose rounds may panic: the round's contract out of its body's walk, and the statement's law. -/
namespace Go.Proofs.Ytlmbffnmjfbglab
open Go.ChangeShapes Go.WideShapes Go.ChangeAt Go.RowKit

/-- what is asked at a round's end, a panic among the ways. -/
def roundPostP (P : Program) (l : Nat) (R : Ending → World → Prop) : Exit → Act → World → Prop
  | .normal, _, w => ∃ v w', (Instr.endRound l none).run P w = .ok v w' ∧ R (.returned v) w'
  | .panic chain, a, w => a.defers = [] ∧ R (.panicked chain) w
  | _, _, _ => False

theorem roundIn_of_wpInP {P : Program} {n : Nat} {l : Nat} {f : FuncId} {tmps : Array Value} {assign body : Code} {w : World} {R : Ending → World → Prop} (hf : ∃ fn, P.funcs[f]? = some fn)
    (h : assign.wpIn (Fence.wide.inRound l) n P (Exit.then (fun a₁ w₁ => ∃ w₂, (Instr.beginRound l).run P w₁ = .ok () w₂ ∧ body.wpIn (Fence.wide.inRound l) n P (roundPostP P l R) a₁ w₂) (fun _ _ _ => False))
      { tmps := tmps, defers := [] } w) :
    RoundIn Fence.wide n P l f tmps assign body w R := by
  refine ⟨trivial, fun c cs hr => ?_⟩
  let b : Frame := { (default : Frame) with fn := f, kind := .normal, roundOf := some l }
  have hb0 : Frame.round l f tmps assign body .normal = b.atR { tmps := tmps, defers := [] } [.code assign, .beginRound, .code body] := by
    simp [Frame.round, Frame.atR, b]
  have hr' : (Fence.wide.inRound l).room ((c :: cs).length + 1 + n) := hr
  have hF' : (Fence.wide.inRound l).fn b.fn := trivial
  obtain ⟨e, a₁, w₁, hq, harr⟩ := h b [.beginRound, .code body] (c :: cs) rfl hF' hr'
  rw [← hb0] at harr
  cases e with
  | normal =>
    obtain ⟨w₂, hbr, hbody⟩ := hq
    have s1 : StepsIn (Machine.fenced P (Fence.wide.inRound l)) P (lone (b.atR a₁ [.beginRound, .code body]) (c :: cs) w₁) (lone (b.atR a₁ [.code body]) (c :: cs) w₂) :=
      .one (fenced_calm (fr := b.atR a₁ [.beginRound, .code body]) hF' hr' rfl) (stepR_beginRound rfl hbr)
    obtain ⟨e₂, a₂, w₃, hq₂, harr₂⟩ := hbody b [] (c :: cs) rfl hF' hr'
    cases e₂ with
    | normal =>
      obtain ⟨v, w₄, hend, hR⟩ := hq₂
      exact ⟨.returned v, w₄, hR, (StepsIn.trans harr s1).trans (StepsIn.trans harr₂ (.one (fenced_calm (fr := b.atR a₂ []) hF' hr' rfl) (stepR_round_end rfl rfl hend)))⟩
    | panic chain =>
      obtain ⟨hd, hR⟩ := hq₂
      obtain ⟨todo, hs⟩ := harr₂
      obtain ⟨fn, hfn⟩ := hf
      have hleave : ({ b.atR a₂ todo with mode := .panicking chain } : Frame).leaving P w₃ (.panicked chain) := ⟨rfl, hd, fn, hfn⟩
      exact ⟨.panicked chain, w₃, hR, (StepsIn.trans harr s1).trans (StepsIn.trans hs (.one (fenced_leaving hF' hr' hleave) (step_leave_panicked hleave)))⟩
    | ret => exact hq₂.elim
    | exit id => exact hq₂.elim
    | goto t => exact hq₂.elim
    | outgrown => exact hq₂.elim
  | exit id => exact hq.elim
  | goto t => exact hq.elim
  | ret => exact hq.elim
  | panic chain => exact hq.elim
  | outgrown => exact hq.elim
/-- how a round's body may be left. -/
def postP (I : Nat → World → Prop) (Ip : List PanicEntry → World → Prop) (k : Nat) (W : World) : Exit → Act → World → Prop
  | .normal, _, W' => KeepsOthers W W' ∧ I (k + 1) W'
  | .panic ch, a, W' => a.defers = [] ∧ KeepsOthers W W' ∧ Ip ch W'
  | _, _, _ => False

/-- what an iterator does that hands N elements to a yield, unless a yield panics or it panics by itself. -/
def SeqP (P : Program) (m gf : Nat) (lb : Array Value) (enc : Nat → Array Value) (N : Nat) (Ok : Nat → World → Prop) (Adv Over : Nat → World → World → Prop) (cho : List PanicEntry) : Prop :=
  ∀ (l : Nat) (J M : Nat → World → Prop) (Mo Mf : World → Prop) (Jp : List PanicEntry → World → Prop) (W : World),
    (∀ k W1, J k W1 → Ok k W1 ∧ k ≤ N) →
    (∀ k W1 W2, J k W1 → k < N → Adv k W1 W2 → M k W2) →
    (∀ k W1 W2, J k W1 → k < N → Over k W1 W2 → Mo W2) →
    (∀ W1 W2, J N W1 → Below W1.heap.size W1 W2 → Mf W2) →
    (∀ k W2, M k W2 → YieldAt Fence.wide (m - 1) P l (enc k) W2 fun e W' => (e = .returned (.bool true) ∧ J (k + 1) W') ∨ ∃ ch, e = .panicked ch ∧ Jp ch W') →
    J 0 W → CallsIn Fence.wide m P gf (#[.func (.yield l) #[] #[]] ++ lb) W fun e W' => ((∃ v, e = .returned v) ∧ Mf W') ∨ (∃ ch, e = .panicked ch ∧ Jp ch W') ∨ (e = .panicked cho ∧ Mo W')

/-- a walk of code in the activations of one function alone (no round's), inside the wide fence. -/
def WpOf (f : FuncId) (_n : Nat) (P : Program) (c : Code) (Q : Exit → Act → World → Prop) (a : Act) (w : World) : Prop :=
  ∀ (b : Frame) (k : List Item) (cs : List Frame), b.roundOf = none → b.fn = f →
    ∃ e a' w', Q e a' w' ∧ ArrivesIn (Machine.fenced P Fence.wide) P (lone (b.atR a (.code c :: k)) cs w) b k cs e a' w'
section
variable {f : FuncId} {n : Nat} {P : Program} {Q : Exit → Act → World → Prop} {a : Act} {w : World}
theorem WpOf.of_in {c : Code} (h : c.wpIn Fence.wide n P Q a w) : WpOf f n P c Q a w := fun b k cs hro _ => h b k cs hro trivial (room_wide _)
theorem WpOf.seq {x y : Code} (h : WpOf f n P x (Exit.then (fun a w => WpOf f n P y Q a w) Q) a w) : WpOf f n P (.seq x y) Q a w := by
  intro b k cs hro hb
  have st : StepsIn (Machine.fenced P Fence.wide) P (lone (b.atR a (.code (.seq x y) :: k)) cs w) (lone (b.atR a (.code x :: .code y :: k)) cs w) := .one (fenced_wide P _) stepR_seq
  obtain ⟨e, a₁, w₁, hq, harr⟩ := h b (.code y :: k) cs hro hb
  have through : e ≠ .normal → Q e a₁ w₁ → ∃ e a' w', Q e a' w' ∧ ArrivesIn (Machine.fenced P Fence.wide) P (lone (b.atR a (.code (.seq x y) :: k)) cs w) b k cs e a' w' := fun hne hq =>
    ⟨e, a₁, w₁, hq, .of_steps st (.pass (x := .code y) rfl (fun _ _ => .inl hne) harr)⟩
  cases e with
  | normal =>
    obtain ⟨e₂, a₂, w₂, hq₂, harr₂⟩ := hq b k cs hro hb
    exact ⟨e₂, a₂, w₂, hq₂, .of_steps (st.trans harr) harr₂⟩
  | exit id => exact through (by simp) hq
  | goto l => exact through (by simp) hq
  | ret => exact through (by simp) hq
  | panic ch => exact through (by simp) hq
  | outgrown => exact through (by simp) hq
/-- a block that is left at its end, or by a panic. -/
theorem WpOf.block {id : Nat} {c : Code} {R : Act → World → Prop} {S : List PanicEntry → Act → World → Prop}
    (h : WpOf f n P c (fun e a w => match e with | .normal => R a w | .panic ch => S ch a w | _ => False) a w) (hR : ∀ a w, R a w → Q .normal a w) (hS : ∀ ch a w, S ch a w → Q (.panic ch) a w) : WpOf f n P (.block id c) Q a w := by
  intro b k cs hro hb
  have st : StepsIn (Machine.fenced P Fence.wide) P (lone (b.atR a (.code (.block id c) :: k)) cs w) (lone (b.atR a (.code c :: .inBlock id :: k)) cs w) := .one (fenced_wide P _) stepR_block
  obtain ⟨e, a₁, w₁, hq, harr⟩ := h b (.inBlock id :: k) cs hro hb
  cases e with
  | normal => exact ⟨.normal, a₁, w₁, hR _ _ hq, st.trans (StepsIn.trans harr (.one (fenced_wide P _) stepR_inBlock))⟩
  | panic ch => exact ⟨.panic ch, a₁, w₁, hS _ _ _ hq, by obtain ⟨todo, hs⟩ := harr; exact ⟨todo, st.trans hs⟩⟩
  | exit id => exact hq.elim
  | goto l => exact hq.elim
  | ret => exact hq.elim
  | outgrown => exact hq.elim
/-- the statement: entered, its one call made, and what the call's end leaves to do. -/
theorem WpOf.range {g : Operand} {ps : Array Tmp} {assign body : Code} {l gf : Nat} {mark : List Deferred} {w₁ w₂ w₁' : World} {d : Deferred} {args : Array Value}
    (he : (Instr.enterLoop f a.tmps ps assign body none).run P w = .ok (l, mark) w₁) (hres : (resolve a.eval (rangeCall g l) 0).run P w₁ = .ok d w₁') (hinv : (invoke d.target d.args).run P w₁' = .ok (.enter gf args) w₂)
    (hc : CallsIn Fence.wide (n - 1) P gf args w₂ fun e w₃ => (∃ v w₄, e = .returned v ∧ (Instr.endLoop l).run P w₃ = .ok none w₄ ∧ Q .normal { a with defers := mark ++ a.defers } w₄) ∨ (∃ ch, e = .panicked ch ∧ Q (.panic ch) { a with defers := mark ++ a.defers } w₃)) :
    WpOf f n P (.rangeFunc g ps assign body) Q a w := by
  intro b k cs hro hb
  subst hb
  rw [← hro] at he
  have st := stepR_rangeFunc (P := P) (b := b) (a := a) (k := k) (cs := cs) (w := w) he hres hinv
  obtain ⟨e, w₃, fr, hR, hsteps, hfn, hleave⟩ := hc.2 (b.atR { a with defers := mark ++ a.defers } (.inRangeFunc l :: k) :: cs) (room_wide _)
  rcases hR with ⟨v, w₄, rfl, hend, hq⟩ | ⟨ch, rfl, hq⟩
  · refine ⟨.normal, _, w₄, hq, .head (fenced_wide P _) st (StepsIn.trans hsteps (.head (m₁ := lone (b.atR { a with defers := mark ++ a.defers } (.endRangeFunc l :: k)) cs w₃) (fenced_wide P _) ?_ (.one (fenced_wide P _) ?_)))⟩
    · rw [← finish_atR_inRangeFunc l v]; exact step_leave_returned hleave
    · exact stepR_endRangeFunc hend
  · refine ⟨.panic ch, _, w₃, hq, .inRangeFunc l :: k, .head (fenced_wide P _) st (StepsIn.trans hsteps (.one (fenced_wide P _) ?_))⟩
    rw [← Frame.raise_atR]; exact step_leave_panicked hleave
end
theorem wpOf_rangeP {P : Program} {f : FuncId} {n : Nat} {g : Operand} {ps : Array Tmp} {assign body : Code} {Q : Exit → Act → World → Prop} {a : Act} {w : World} {gf : Nat} {lb : Array Value}
    (hg : a.eval g = .func (.func gf) #[] lb) (eg : ∀ args w, (callFunc gf args).run P w = .ok (.enter gf args) w)
    (enc : Nat → Array Value) (hps : ∀ k, (enc k).size = ps.size) (N : Nat) (Ok : Nat → World → Prop) (Adv Over : Nat → World → World → Prop) (cho : List PanicEntry)
    (hseq : SeqP P (n - 1) gf lb enc N Ok Adv Over cho)
    (I Im : Nat → World → Prop) (Io If : World → Prop) (Ip : List PanicEntry → World → Prop) (hI : OwnFrom w.heap.size I) (hIm : OwnFrom w.heap.size Im) (hIf : OwnFrom w.heap.size (fun (_ : Nat) W => If W))
    (hOk : ∀ k W, I k W → Ok k W ∧ k ≤ N)
    (hA : ∀ k W1 W2, I k W1 → k < N → Adv k W1 W2 → KeepsOthers W1 W2 ∧ Im k W2)
    (hO : ∀ k W1 W2, I k W1 → k < N → Over k W1 W2 → KeepsOthers W1 W2 ∧ Io W2)
    (hF : ∀ W1 W2, I N W1 → Below W1.heap.size W1 W2 → If W2)
    (h0 : I 0 w) (a₁ : Nat → Act)
    (hfn : ∃ fn, P.funcs[f]? = some fn)
    (hassign : ∀ (l k : Nat) (W : World) (K : Act → World → Prop), K (a₁ k) W →
      assign.wpIn (Fence.wide.inRound l) (n - 1 - 1) P (Exit.then K fun _ _ _ => False) { tmps := (ps.zip (enc k)).foldl (fun t (p, v) => t.setIfInBounds p v) a.tmps, defers := [] } W)
    (hbody : ∀ (l k : Nat) (W : World), Im k W → body.wpIn (Fence.wide.inRound l) (n - 1 - 1) P (postP I Ip k W) (a₁ k) W)
    (hend : ∀ W : World, If W → W.heap[w.heap.size]? = some (.deferred (some [])) → Q .normal { a with defers := { target := .collected w.heap.size, args := #[] } :: a.defers } W)
    (hpan : ∀ ch (W : World), (Ip ch W ∨ (ch = cho ∧ Io W)) → W.heap[w.heap.size]? = some (.deferred (some [])) → Q (.panic ch) { a with defers := { target := .collected w.heap.size, args := #[] } :: a.defers } W) :
    WpOf f n P (Code.rangeFunc g ps assign body) Q a w := by
  let rec_ : LoopState → Option Code → Loop := fun st pe => { state := st, pending := pe, fn := f, tmps := a.tmps, params := ps, assign, body, defers := w.heap.size }
  obtain ⟨W1, hW1⟩ : ∃ W1, (w.alloc (.deferred (some []))).alloc (.loop (rec_ .ready none)) = W1 := ⟨_, rfl⟩
  have hL1 : W1.heap[w.heap.size + 1]? = some (.loop (rec_ .ready none)) := by
    rw [← hW1]; have := World.alloc_heap_new (w.alloc (.deferred (some []))) (.loop (rec_ .ready none)); rwa [World.size_alloc] at this
  have hK1 : W1.heap[w.heap.size]? = some (.deferred (some [])) := by
    rw [← hW1]; exact (Below.heap_alloc _ _ _ (by simp)).trans (World.alloc_heap_new w _)
  have hI1 : I 0 W1 := by rw [← hW1]; exact hI.alloc _ (hI.alloc _ h0)
  refine WpOf.range (l := w.heap.size + 1) (mark := [{ target := .collected w.heap.size, args := #[] }]) (w₁ := W1) (d := { target := .fn (.func gf) lb, args := #[.func (.yield (w.heap.size + 1)) #[] #[]] }) (w₁' := W1) (gf := gf)
    (args := #[.func (.yield (w.heap.size + 1)) #[] #[]] ++ lb) (w₂ := W1) ?_ ?_ ?_ ?_
  · rw [← hW1]; exact run_enterLoop_outer _ _ _ _ _
  · simp only [resolve, hg]
    simp [go_sem]
  · simp [invoke, go_sem, eg]
  refine (hseq (w.heap.size + 1) (fun k W => I k W ∧ W.heap[w.heap.size + 1]? = some (.loop (rec_ .ready none)) ∧ W.heap[w.heap.size]? = some (.deferred (some [])))
    (fun k W => Im k W ∧ W.heap[w.heap.size + 1]? = some (.loop (rec_ .ready none)) ∧ W.heap[w.heap.size]? = some (.deferred (some [])))
    (fun W => Io W ∧ W.heap[w.heap.size]? = some (.deferred (some [])))
    (fun W => If W ∧ W.heap[w.heap.size + 1]? = some (.loop (rec_ .ready none)) ∧ W.heap[w.heap.size]? = some (.deferred (some [])))
    (fun ch W => Ip ch W ∧ W.heap[w.heap.size]? = some (.deferred (some [])))
    W1 (fun k W h => hOk k W h.1) ?_ ?_ ?_ ?_ ⟨hI1, hL1, hK1⟩).mono ?_
  · rintro k Wa Wb ⟨hi, hl, hk⟩ hkN hadv
    obtain ⟨hko, him⟩ := hA k Wa Wb hi hkN hadv
    exact ⟨him, hko.same _ _ hl rfl, hko.same _ _ hk rfl⟩
  · rintro k Wa Wb ⟨hi, hl, hk⟩ hkN hov
    obtain ⟨hko, hio⟩ := hO k Wa Wb hi hkN hov
    exact ⟨hio, hko.same _ _ hk rfl⟩
  · rintro Wa Wb ⟨hi, hl, hk⟩ hb
    have lt : ∀ i o, Wa.heap[i]? = some o → i < Wa.heap.size := fun i o h => (Array.getElem?_eq_some_iff.1 h).1
    exact ⟨hF Wa Wb hi hb, (hb.block _ (lt _ _ hl)).trans hl, (hb.block _ (lt _ _ hk)).trans hk⟩
  · rintro k W ⟨hi, hl, hk⟩
    have hlt : w.heap.size + 1 < W.heap.size := (Array.getElem?_eq_some_iff.1 hl).1
    refine ⟨f, _, assign, body, run_yield (P := P) (args := enc k) hl (hps k), roundIn_of_wpInP hfn (hassign _ k W _ ⟨_, run_beginRound hl rfl, ?_⟩)⟩
    have hl2 : (W.putObj (w.heap.size + 1) (.loop { rec_ .ready none with state := .busy })).heap[w.heap.size + 1]? = some (.loop { rec_ .ready none with state := .busy }) := World.putObj_heap_same hlt
    have hk2 : (W.putObj (w.heap.size + 1) (.loop { rec_ .ready none with state := .busy })).heap[w.heap.size]? = some (.deferred (some [])) := (World.putObj_heap_other (by omega)).trans hk
    refine wpIn_mono (hbody _ k _ (hIm.putObj _ hi (by omega) hl rfl)) ?_
    rintro e a3 W3 hp
    cases e with
    | normal =>
      obtain ⟨hk3, hi3⟩ := hp
      have hl3 := hk3.same _ _ hl2 rfl
      refine ⟨_, _, run_endRound (P := P) none hl3, .inl ⟨rfl, hI.putObj _ hi3 (by omega) hl3 rfl, World.putObj_heap_same (Array.getElem?_eq_some_iff.1 hl3).1, (World.putObj_heap_other (by omega)).trans (hk3.same _ _ hk2 rfl)⟩⟩
    | panic ch =>
      obtain ⟨hd, hk3, hi3⟩ := hp
      exact ⟨hd, .inr ⟨ch, rfl, hi3, hk3.same _ _ hk2 rfl⟩⟩
    | ret => exact hp.elim
    | exit id => exact hp.elim
    | goto t => exact hp.elim
    | outgrown => exact hp.elim
  · rintro e W2 (⟨⟨v, rfl⟩, hi, hl, hk⟩ | ⟨ch, rfl, hi, hk⟩ | ⟨rfl, hi, hk⟩)
    · exact .inl ⟨v, _, rfl, run_endLoop (P := P) hl (by simp [rec_]), hend _ (hIf.putObj (s := 0) _ hi (by omega) hl rfl) ((World.putObj_heap_other (by omega)).trans hk)⟩
    · exact .inr ⟨ch, rfl, hpan ch W2 (.inl hi) hk⟩
    · exact .inr ⟨cho, rfl, hpan cho W2 (.inr ⟨rfl, hi⟩) hk⟩
/-- a function's contract out of the walk in its own activations. -/
theorem callsIn_of_wpOf {P : Program} {f : FuncId} {n : Nat} {fn : Func} {c : Code} {args : Array Value} {w : World} {R : Ending → World → Prop} (hf : P.funcs[f]? = some fn) (hb : fn.body = some c)
    (h : WpOf f n P c (bodyPostM Fence.wide n P fn R) { tmps := args ++ Array.replicate (fn.ntmps - args.size) undef, defers := [] } w) : CallsIn Fence.wide n P f args w R := by
  refine ⟨trivial, fun cs _ => ?_⟩
  obtain ⟨b, hb0⟩ : ∃ b : Frame, b = { (default : Frame) with fn := f, kind := .normal, roundOf := none } := ⟨_, rfl⟩
  have hent : Frame.enter P f args .normal = b.atR { tmps := args ++ Array.replicate (fn.ntmps - args.size) undef, defers := [] } [.code c] := by
    subst hb0; simp [Frame.enter, Frame.atR, hf, hb]
  have h1 : b.roundOf = none := by subst hb0; rfl
  have h2 : b.fn = f := by subst hb0; rfl
  have h3 : b.kind = .normal := by subst hb0; rfl
  have hfb : P.funcs[b.fn]? = some fn := by rw [h2]; exact hf
  obtain ⟨e, a', w', hq, harr⟩ := h b [] cs h1 h2
  rw [← hent] at harr
  cases e with
  | normal =>
    obtain ⟨e', w'', fr', hR, hs, hfn, hl⟩ := leaves_stepsInM a'.defers .returning w' { b.atR a' [] with mode := .returning } cs rfl rfl rfl hfb h3 trivial (room_wide _) hq
    exact ⟨e', w'', fr', hR, ComesIn.of_steps (StepsIn.trans harr (.one (fenced_wide P _) (stepR_end h1))) hs, hfn.trans h2, hl⟩
  | ret =>
    obtain ⟨todo, hs₀⟩ := harr.1 h1
    obtain ⟨e', w'', fr', hR, hs, hfn, hl⟩ := leaves_stepsInM a'.defers .returning w' { b.atR a' todo with mode := .returning } cs rfl rfl rfl hfb h3 trivial (room_wide _) hq
    exact ⟨e', w'', fr', hR, ComesIn.of_steps hs₀ hs, hfn.trans h2, hl⟩
  | panic chain =>
    obtain ⟨todo, hs₀⟩ := harr
    obtain ⟨e', w'', fr', hR, hs, hfn, hl⟩ := leaves_stepsInM a'.defers (.panicking chain) w' { b.atR a' todo with mode := .panicking chain } cs rfl rfl rfl hfb h3 trivial (room_wide _) hq
    exact ⟨e', w'', fr', hR, ComesIn.of_steps hs₀ hs, hfn.trans h2, hl⟩
  | exit id => exact hq.elim
  | goto l => exact hq.elim
  | outgrown => exact ⟨.outgrown, w', b, hq, harr.resolve_left (by rw [h3]; simp), h2, trivial⟩
end Go.Proofs.Ytlmbffnmjfbglab
/- The iterator over the possible offsets. -/
namespace Go.Proofs.Ytlmbffnmjfbglab
open Go.ChangeShapes Go.WideShapes Go.ChangeAt Go.RowKit

attribute [local go_sem] Oper.semAt_some

/-- the search object, whatever its offsets' slice is. -/
def SBx (W : World) (Bs : Nat) (name : ByteArray) (mem F : Int) (A : Option Addr) (ps : List Part) (c : Nat) (os : List Int) (t : Int) : Prop := ∃ Ao co, SB W Bs name mem F A ps c Ao os co t
theorem SBx.next {W W' : World} {Bs : Nat} {name : ByteArray} {mem F : Int} {A : Option Addr} {ps : List Part} {c : Nat} {os : List Int} {t : Int} (h : SBx W Bs name mem F A ps c os t) (hb : Below W.heap.size W W') : SBx W' Bs name mem F A ps c os t := by
  obtain ⟨Ao, co, h⟩ := h; exact ⟨Ao, co, h.next hb⟩
/-- the search object with one try more. -/
theorem SB.try1 {W : World} {Bs : Nat} {name : ByteArray} {mem F : Int} {A : Option Addr} {ps : List Part} {c : Nat} {Ao : Option Addr} {os : List Int} {co : Nat} {t : Int} (h : SB W Bs name mem F A ps c Ao os co t) (t' : Int) :
    SB (W.setCell ⟨Bs, 5, none⟩ (.int .i64 t')) Bs name mem F A ps c Ao os co t' := by
  have hz : (W.setCell ⟨Bs, 5, none⟩ (.int .i64 t')).heap.size = W.heap.size := by simp [World.setCell]
  refine ⟨h.blk.set_ 5 _, fun hn => ?_, fun hn => ?_, h.ne, h.cap⟩
  · obtain ⟨b, o, e, hb, hc⟩ := h.pt hn
    have hne : b ≠ Bs := by
      rintro rfl
      have h9 := hc 0 hn 9 _ rfl
      rw [h.blk.cell, Array.getElem?_eq_none (by simp)] at h9
      cases h9
    exact ⟨b, o, e, by rw [hz]; exact hb, fun i hi j v hv => by
      rw [World.cell?_setCell_other _ _ _ _ (fun e => hne (congrArg Addr.block e).symm)]; exact hc i hi j v hv⟩
  · obtain ⟨b, o, e, hb, hc⟩ := h.of hn
    have hne := h.ne b o e hn
    exact ⟨b, o, e, by rw [hz]; exact hb, fun i hi => by
      rw [World.cell?_setCell_other _ _ _ _ (fun e => hne (congrArg Addr.block e).symm)]; exact hc i hi⟩

/-- what the iterator needs, and what it does between two yields. -/
def OkI (Bn Bs : Nat) (name : ByteArray) (mem F : Int) (A : Option Addr) (ps : List Part) (c : Nat) (os : List Int) (_k : Nat) (W : World) : Prop :=
  Blk W Bn 65 #[.pointer (some ⟨Bs, 0, none⟩)] ∧ ∃ t, 0 ≤ t ∧ t ≤ 65536 ∧ SBx W Bs name mem F A ps c os t
def AdvI (Bs : Nat) (name : ByteArray) (mem F : Int) (A : Option Addr) (ps : List Part) (c : Nat) (os : List Int) (over : Bool) (_k : Nat) (W1 W2 : World) : Prop :=
  ∃ t, SBx W1 Bs name mem F A ps c os t ∧ (if over then 65536 < t + 1 else t + 1 ≤ 65536) ∧ Below W1.heap.size (W1.setCell ⟨Bs, 5, none⟩ (.int .i64 (t + 1))) W2
def choI : List PanicEntry := [{ v := .iface 63 (.agg #[.slice none 0 0, .int .i64 5]), recovered := false }]

set_option maxRecDepth 100000 in
set_option maxHeartbeats 4000000 in
theorem possible1_seq (m Bn Bs : Nat) (name : ByteArray) (mem F : Int) (A : Option Addr) (ps : List Part) (c : Nat) (os : List Int) (hn : os.length < ps.length) (hps : ps.length ≤ 6) (p : Part) (hp : p = ps[os.length]) (h1 : 1 ≤ p.length) (h2 : p.length ≤ p.period) (h3 : p.period ≤ 2000) :
    SeqP Try.prog m 86 #[.pointer (some ⟨Bn, 0, none⟩)] (fun k => #[.int .i64 k, .int .i64 (conflP ps os k)]) (p.period - p.length + 1).toNat (OkI Bn Bs name mem F A ps c os) (AdvI Bs name mem F A ps c os false) (AdvI Bs name mem F A ps c os true) choI := by
  intro l J M Mo Mf Jp W hOk hAdv hOver hFin hY h0
  obtain ⟨N, hN⟩ : ∃ N : Nat, (p.period - p.length + 1).toNat = N := ⟨_, rfl⟩
  rw [hN] at hOk hAdv hOver hFin
  have hN2 : (N : Int) = p.period - p.length + 1 := by omega
  refine callsIn_of_wp Try.func86 rfl trivial ?_ rfl
  simp only [Try.ntmps86, List.size_toArray, List.length_cons, List.length_nil, Nat.reduceAdd, Nat.reduceSub, Array.replicate_succ, Array.replicate_zero, List.push_toArray, List.append_toArray, List.nil_append, List.cons_append]
  gi_wp2_with fail
  gi_loopw [3] (fun o wr => ∃ k : Nat, o = .int .i64 k ∧ J k wr) (fun o _ => N + 1 - (intOf o).toNat)
  case atStart => exact ⟨0, rfl, h0⟩
  case round =>
    clear h0
    obtain ⟨k, rfl, hJ⟩ := hrel
    obtain ⟨⟨hbn, t, ht0, ht1, Ao, co, hSB⟩, hkN⟩ := hOk k wr hJ
    have c0 : wr.cell? ⟨Bn, 0, none⟩ = some (.pointer (some ⟨Bs, 0, none⟩)) := hbn.cell 0
    obtain ⟨_, _, _, _, c4, c5⟩ := hSB.cells
    have hfz := hSB.blk.frozen 5
    have hla : ∀ q, Calls Try.prog 63 #[.pointer (some ⟨Bs, 0, none⟩), .int .i64 os.length] (wr.drewN q) fun e w' => e = .returned (.int .i64 (p.period - p.length)) ∧ ∃ m, w' = (wr.drewN q).drewN m := fun q => by
      have := last_c (hSB.next (below_drewN (Below.refl _ _) q)) os.length hn (by rw [← hp]; omega) (by rw [← hp]; omega) (by rw [← hp]; omega) (by rw [← hp]; omega)
      rw [← hp] at this
      exact this
    have Hp := Lib.hid hp
    clear hp
    generalize hL : p.period - p.length = L at *
    have hk0 : (0 : Int) ≤ (k : Int) := by omega
    gi_wp2_with fail
    refine wpIn_wide.2 ?_
    go_quiet ((go_at_call 63; exact Calls.quiet_of (hla _)))
    clear hla
    by_cases hlt : k < N
    · have hkL : (k : Int) ≤ L := by omega
      have hkd : decide ((k : Int) ≤ L) = true := decide_eq_true hkL
      have ht2 : t + 1 ≤ 70000 := by omega
      by_cases hov : 65536 < t + 1
      · have hMo := hOver k wr ((wr.drewN nq).setCell ⟨Bs, 5, none⟩ (.int .i64 (t + 1))) hJ hlt ⟨t, ⟨Ao, co, hSB⟩, by simp [hov], below_drewN (Below.refl _ _) nq⟩
        have hov2 : decide (65536 < t + 1) = true := decide_eq_true hov
        have HMo := Lib.hid hMo
        clear hMo hY hAdv hOver hFin hOk
        gi_wp2
        exact ⟨rfl, .inr (.inr ⟨rfl, HMo.out⟩)⟩
      · have hov2 : decide (65536 < t + 1) = false := decide_eq_false hov
        have hS2 := (hSB.next (below_drewN (Below.refl _ _) nq)).try1 (t + 1)
        have hbn2 : Blk ((wr.drewN nq).setCell ⟨Bs, 5, none⟩ (.int .i64 (t + 1))) Bn 65 #[.pointer (some ⟨Bs, 0, none⟩)] := (hbn.drewN nq).far (p := ⟨Bs, 5, none⟩) (fun e => by
          have := hSB.blk.cell 5
          have e2 := hbn.cell 5
          simp only at e
          rw [e] at e2
          rw [e2] at this
          simp at this) _
        have hcf := conflict_m hS2 hn hps k
        have c0' : ((wr.drewN nq).setCell ⟨Bs, 5, none⟩ (.int .i64 (t + 1))).cell? ⟨Bn, 0, none⟩ = some (.pointer (some ⟨Bs, 0, none⟩)) := hbn2.cell 0
        have hle : t + 1 ≤ 65536 := by omega
        gi_wp2_with fail
        refine ⟨trivial, fun h => by simp [Fence.wide] at h, (callsIn_wide.2 hcf).mono ?_⟩
        rintro e W2 ⟨rfl, hb⟩
        have hM := hAdv k wr W2 hJ hlt ⟨t, ⟨Ao, co, hSB⟩, by simpa using hle, by
          have hx : Below wr.heap.size (wr.setCell ⟨Bs, 5, none⟩ (.int .i64 (t + 1))) ((wr.drewN nq).setCell ⟨Bs, 5, none⟩ (.int .i64 (t + 1))) := below_drewN (Below.refl _ _) nq
          exact hx.trans (hb.mono (by simp [World.setCell, World.drewN]))⟩
        obtain ⟨fn, tmps, assign, body, hy, hR⟩ := hY k W2 hM
        clear hcf hM hAdv hOver hFin hOk hb hS2 hbn2 c0 c0' c4 c5 hfz hY
        gi_wp2
        refine ⟨fun h => by simp [Fence.wide] at h, hR.mono ?_⟩
        rintro e W3 (⟨rfl, hJ3⟩ | ⟨ch, rfl, hJp⟩)
        · gi_wp2
          go_roundw
          case rel => exact ⟨k + 1, by go_num, hJ3⟩
          case measure => simp [intOf]; omega
        · exact ⟨rfl, .inr (.inl ⟨ch, rfl, hJp⟩)⟩
    · have hkL : ¬ (k : Int) ≤ L := by omega
      have hkd : decide ((k : Int) ≤ L) = false := decide_eq_false hkL
      obtain rfl : k = N := by omega
      have hMf := hFin wr (wr.drewN nq) hJ (below_drewN (Below.refl _ _) nq)
      have HMf := Lib.hid hMf
      clear hMf hY hAdv hOver hFin hOk
      gi_wp2
      go_end0
      exact .inl ⟨⟨_, rfl⟩, HMf.out⟩
end Go.Proofs.Ytlmbffnmjfbglab
/- Claims, and the search in plain words. -/
namespace Go.Proofs.Ytlmbffnmjfbglab

inductive Claim where
  | mk (frm to wth : Int) (sub : List Claim)
  deriving Inhabited
def Claim.frm : Claim → Int | .mk f _ _ _ => f
def Claim.to : Claim → Int | .mk _ t _ _ => t
def Claim.wth : Claim → Int | .mk _ _ w _ => w
def Claim.sub : Claim → List Claim | .mk _ _ _ s => s
/-- how the search of a partition ends: with claims and the number of tries, or for good, with offsets and an error. -/
inductive Res where
  | claims (l : List Claim) (t : Nat)
  | stop (os : List Int) (e : Int)
/-- an offset that conflicts with j: the last claim goes on, or a new one begins. -/
def extend (cl : List Claim) (o j : Int) : List Claim := match cl.getLast? with
  | some (.mk f _ w s) => if w = j then cl.dropLast ++ [.mk f o w s] else cl ++ [.mk o o j []]
  | none => [.mk o o j []]
/-- one offset. -/
def oneR (ps : List Part) (rec : List Int → Nat → Res) (os : List Int) (o : Int) (cl : List Claim) (t : Nat) : Res :=
  if 65536 < t + 1 then .stop [] 5
  else if conflP ps os o < 0 then (match rec (os ++ [o]) (t + 1) with
    | .stop a e => .stop a e
    | .claims sub t' => .claims (cl ++ [.mk o o (-1) sub]) t')
  else .claims (extend cl o (conflP ps os o)) (t + 1)
/-- the first k offsets. -/
def prefR (ps : List Part) (rec : List Int → Nat → Res) (os : List Int) (t : Nat) : Nat → Res
  | 0 => .claims [] t
  | k + 1 => match prefR ps rec os t k with
    | .stop a e => .stop a e
    | .claims cl t' => oneR ps rec os k cl t'
/-- how many offsets partition k has. -/
def nOff (ps : List Part) (k : Nat) : Nat := ((ps.getD k default).period - (ps.getD k default).length + 1).toNat
/-- the search, where r partitions have no offset yet. -/
def tryR (ps : List Part) : Nat → List Int → Nat → Res
  | 0, os, _ => .stop os 0
  | r + 1, os, t => prefR ps (tryR ps r) os t (nOff ps os.length)

theorem extend_len (cl : List Claim) (o j : Int) : (extend cl o j).length ≤ cl.length + 1 := by
  unfold extend
  split
  · split <;> simp <;> omega
  · simp
theorem prefR_len (ps : List Part) (rec : List Int → Nat → Res) (os : List Int) (t : Nat) : ∀ (k : Nat) (cl : List Claim) (t' : Nat), prefR ps rec os t k = .claims cl t' → cl.length ≤ k
  | 0, cl, t', h => by
    simp only [prefR] at h
    injection h with h _
    subst h; simp
  | k + 1, cl, t', h => by
    simp only [prefR] at h
    cases hp : prefR ps rec os t k with
    | stop a e => rw [hp] at h; cases h
    | claims cl0 t0 =>
      rw [hp] at h
      have ih := prefR_len ps rec os t k cl0 t0 hp
      simp only [oneR] at h
      split at h
      · cases h
      · split at h
        · split at h
          · cases h
          · injection h with h _
            subst h; simp; omega
        · injection h with h _
          subst h
          have := extend_len cl0 k (conflP ps os k)
          omega
/-- no more tries than allowed. -/
theorem prefR_tries (ps : List Part) (rec : List Int → Nat → Res) (hrec : ∀ os t l t', t ≤ 65536 → rec os t = .claims l t' → t' ≤ 65536) (os : List Int) (t : Nat) (ht : t ≤ 65536) : ∀ (k : Nat) (cl : List Claim) (t' : Nat), prefR ps rec os t k = .claims cl t' → t' ≤ 65536
  | 0, cl, t', h => by
    simp only [prefR] at h
    injection h with _ h
    omega
  | k + 1, cl, t', h => by
    simp only [prefR] at h
    cases hp : prefR ps rec os t k with
    | stop a e => rw [hp] at h; cases h
    | claims cl0 t0 =>
      rw [hp] at h
      have ih := prefR_tries ps rec hrec os t ht k cl0 t0 hp
      simp only [oneR] at h
      split at h
      · cases h
      · split at h
        · split at h
          · cases h
          · rename_i sub t1 hr
            injection h with _ h
            subst h
            exact hrec _ _ _ _ (by omega) hr
        · injection h with _ h
          omega
theorem tryR_tries (ps : List Part) : ∀ (r : Nat) (os : List Int) (t : Nat) (l : List Claim) (t' : Nat), t ≤ 65536 → tryR ps r os t = .claims l t' → t' ≤ 65536
  | 0, _, _, _, _, _, h => by simp [tryR] at h
  | r + 1, os, t, l, t', ht, h => prefR_tries ps (tryR ps r) (tryR_tries ps r) os t ht _ l t' (by simpa only [tryR] using h)
/-- a stop at some offset is the search's stop. -/
theorem prefR_stop (ps : List Part) (rec : List Int → Nat → Res) (os : List Int) (t : Nat) {a : List Int} {e : Int} : ∀ (n k : Nat), k ≤ n → prefR ps rec os t k = .stop a e → prefR ps rec os t n = .stop a e
  | 0, k, h, hk => by obtain rfl : k = 0 := by omega
                      exact hk
  | n + 1, k, h, hk => by
    by_cases c : k = n + 1
    · subst c; exact hk
    · simp only [prefR]
      rw [prefR_stop ps rec os t n k (by omega) hk]
end Go.Proofs.Ytlmbffnmjfbglab
/- Claims in memory. -/
namespace Go.Proofs.Ytlmbffnmjfbglab
open Go.ChangeShapes Go.WideShapes Go.ChangeAt Go.RowKit

mutual
/-- a claim at a place; all arrays below it lie in blocks with Q. -/
def RdC (w : World) (Q : Nat → Prop) (b o : Nat) : Claim → Prop
  | .mk f t wi sub => w.cell? ⟨b, o, none⟩ = some (.int .i64 f) ∧ w.cell? ⟨b, o + 1, none⟩ = some (.int .i64 t) ∧ w.cell? ⟨b, o + 2, none⟩ = some (.int .i64 wi) ∧
      ∃ A c, w.cell? ⟨b, o + 3, none⟩ = some (.slice A sub.length c) ∧ sub.length ≤ c ∧ c ≤ maxLen ∧ (0 < sub.length → ∃ b' o', A = some ⟨b', o', none⟩ ∧ Q b' ∧ RdL w Q b' o' sub)
/-- claims one behind the other. -/
def RdL (w : World) (Q : Nat → Prop) (b o : Nat) : List Claim → Prop
  | [] => True
  | x :: r => RdC w Q b o x ∧ RdL w Q b (o + 4) r
end
/-- a slice of claims. -/
def RdCls (w : World) (Q : Nat → Prop) (A : Option Addr) (l : List Claim) : Prop := 0 < l.length → ∃ b o, A = some ⟨b, o, none⟩ ∧ Q b ∧ RdL w Q b o l

mutual
theorem RdC.keep {w w' : World} {Q Q' : Nat → Prop} (h : ∀ b, Q b → (∀ o, w'.cell? ⟨b, o, none⟩ = w.cell? ⟨b, o, none⟩) ∧ Q' b) (b o : Nat) (ht : ∀ o, w'.cell? ⟨b, o, none⟩ = w.cell? ⟨b, o, none⟩) : ∀ x : Claim, RdC w Q b o x → RdC w' Q' b o x
  | .mk f t wi sub, hx => by
    simp only [RdC] at hx ⊢
    obtain ⟨h0, h1, h2, A, c, h3, h4, h5, h6⟩ := hx
    refine ⟨(ht _).trans h0, (ht _).trans h1, (ht _).trans h2, A, c, (ht _).trans h3, h4, h5, fun hn => ?_⟩
    obtain ⟨b', o', e, hq, hl⟩ := h6 hn
    exact ⟨b', o', e, (h b' hq).2, RdL.keep h b' o' (h b' hq).1 sub hl⟩
theorem RdL.keep {w w' : World} {Q Q' : Nat → Prop} (h : ∀ b, Q b → (∀ o, w'.cell? ⟨b, o, none⟩ = w.cell? ⟨b, o, none⟩) ∧ Q' b) (b o : Nat) (ht : ∀ o, w'.cell? ⟨b, o, none⟩ = w.cell? ⟨b, o, none⟩) : ∀ l : List Claim, RdL w Q b o l → RdL w' Q' b o l
  | [], _ => by simp only [RdL]
  | x :: r, hx => by
    simp only [RdL] at hx ⊢
    exact ⟨RdC.keep h b o ht x hx.1, RdL.keep h b (o + 4) ht r hx.2⟩
end
theorem RdCls.keep {w w' : World} {Q Q' : Nat → Prop} {A : Option Addr} {l : List Claim} (h : ∀ b, Q b → (∀ o, w'.cell? ⟨b, o, none⟩ = w.cell? ⟨b, o, none⟩) ∧ Q' b) (hl : RdCls w Q A l) : RdCls w' Q' A l := fun hn => by
  obtain ⟨b, o, e, hq, hr⟩ := hl hn
  exact ⟨b, o, e, (h b hq).2, RdL.keep h b o (h b hq).1 l hr⟩
theorem RdL.at_ {w : World} {Q : Nat → Prop} {b : Nat} : ∀ (l : List Claim) (o i : Nat) (hi : i < l.length), RdL w Q b o l → RdC w Q b (o + i * 4) l[i]
  | [], _, _, hi, _ => by simp at hi
  | x :: r, o, 0, _, h => by simp only [RdL] at h; simpa using h.1
  | x :: r, o, i + 1, hi, h => by
    simp only [RdL] at h
    have := RdL.at_ r (o + 4) i (by simpa using hi) h.2
    have e : o + 4 + i * 4 = o + (i + 1) * 4 := by omega
    rw [e] at this
    simpa using this
theorem RdL.of_ {w : World} {Q : Nat → Prop} {b : Nat} : ∀ (l : List Claim) (o : Nat), (∀ i (hi : i < l.length), RdC w Q b (o + i * 4) l[i]) → RdL w Q b o l
  | [], _, _ => by simp only [RdL]
  | x :: r, o, h => by
    simp only [RdL]
    refine ⟨by have := h 0 (by simp); simpa using this, RdL.of_ r (o + 4) fun i hi => ?_⟩
    have := h (i + 1) (by simpa using hi)
    have e : o + 4 + i * 4 = o + (i + 1) * 4 := by omega
    rw [e]
    simpa using this

/-- a claim as its four cells' values. -/
structure CV where
  f : Int
  t : Int
  w : Int
  s : SlV
  deriving Inhabited
def CV.cells (x : CV) : List Value := [.int .i64 x.f, .int .i64 x.t, .int .i64 x.w, .slice x.s.a x.s.n x.s.c]
theorem CV.len (l : List CV) : (l.flatMap CV.cells).length = l.length * 4 := by
  induction l with
  | nil => simp
  | cons x l ih => simp [CV.cells, ih, Nat.add_mul]
theorem CV.get (l : List CV) (i : Nat) (hi : i < l.length) : (l.flatMap CV.cells)[i * 4]? = some (.int .i64 l[i].f) ∧ (l.flatMap CV.cells)[i * 4 + 1]? = some (.int .i64 l[i].t) ∧ (l.flatMap CV.cells)[i * 4 + 2]? = some (.int .i64 l[i].w) ∧ (l.flatMap CV.cells)[i * 4 + 3]? = some (.slice l[i].s.a l[i].s.n l[i].s.c) := by
  induction l generalizing i with
  | nil => simp at hi
  | cons x l ih =>
    match i with
    | 0 => simp [CV.cells]
    | i + 1 =>
      have := ih i (by simpa using hi)
      have e : (i + 1) * 4 = i * 4 + 4 := by omega
      simp only [List.flatMap_cons, List.getElem_cons_succ, e]
      have hc : (CV.cells x).length = 4 := rfl
      refine ⟨?_, ?_, ?_, ?_⟩ <;> (rw [List.getElem?_append_right (by omega), hc])
      · rw [show i * 4 + 4 - 4 = i * 4 by omega]; exact this.1
      · rw [show i * 4 + 4 + 1 - 4 = i * 4 + 1 by omega]; exact this.2.1
      · rw [show i * 4 + 4 + 2 - 4 = i * 4 + 2 by omega]; exact this.2.2.1
      · rw [show i * 4 + 4 + 3 - 4 = i * 4 + 3 by omega]; exact this.2.2.2
/-- the values are those of claims whose arrays below lie in blocks with Q. -/
def CVs (w : World) (Q : Nat → Prop) (L : List CV) (l : List Claim) : Prop := L.length = l.length ∧ ∀ i (h : i < L.length) (h' : i < l.length), L[i].f = l[i].frm ∧ L[i].t = l[i].to ∧ L[i].w = l[i].wth ∧ L[i].s.n = l[i].sub.length ∧ L[i].s.n ≤ L[i].s.c ∧ L[i].s.c ≤ maxLen ∧ RdCls w Q L[i].s.a l[i].sub
theorem CVs.keep {w w' : World} {Q Q' : Nat → Prop} {L : List CV} {l : List Claim} (h : ∀ b, Q b → (∀ o, w'.cell? ⟨b, o, none⟩ = w.cell? ⟨b, o, none⟩) ∧ Q' b) (hc : CVs w Q L l) : CVs w' Q' L l :=
  ⟨hc.1, fun i hi hi' => by obtain ⟨a, b, c, d, e, f, g⟩ := hc.2 i hi hi'; exact ⟨a, b, c, d, e, f, g.keep h⟩⟩
theorem CVs.nil {w : World} {Q : Nat → Prop} : CVs w Q [] [] := ⟨rfl, fun i h => by simp at h⟩
theorem CVs.push {w : World} {Q : Nat → Prop} {L : List CV} {l : List Claim} (hc : CVs w Q L l) (x : CV) (y : Claim) (h : x.f = y.frm ∧ x.t = y.to ∧ x.w = y.wth ∧ x.s.n = y.sub.length ∧ x.s.n ≤ x.s.c ∧ x.s.c ≤ maxLen ∧ RdCls w Q x.s.a y.sub) : CVs w Q (L ++ [x]) (l ++ [y]) := by
  refine ⟨by simp [hc.1], fun i hi hi' => ?_⟩
  by_cases e : i < L.length
  · rw [List.getElem_append_left e, List.getElem_append_left (by rw [← hc.1]; exact e)]
    exact hc.2 i e _
  · have : i = L.length := by simp at hi; omega
    subst this
    have e2 := hc.1
    simp only [List.getElem_append_right (Nat.le_refl _), Nat.sub_self]
    rw [List.getElem_append_right (by omega)]
    simpa [e2] using h
/-- a row of claims that the call owns, as a slice of claims. -/
theorem rdCls_of_own {w : World} {base n : Nat} {v : Value} {L : List CV} {l : List Claim} {Q : Nat → Prop} (hn : n = L.length) (h : w.ownsRow base 35 4 v n (L.flatMap CV.cells)) (hc : CVs w Q L l) (hQ : ∀ g, v.ownBlock = some g → Q g) : ∃ A c, v = .slice A l.length c ∧ l.length ≤ c ∧ c ≤ maxLen ∧ RdCls w Q A l := by
  subst hn
  have hl := hc.1
  rcases h.2 with ⟨rfl, h0⟩ | ⟨g, cap, cur, rfl, _, hh, h1, h2, _⟩
  · refine ⟨none, 0, by rw [← hl, h0], by omega, by simp [maxLen], fun hn => by omega⟩
  · refine ⟨_, cap, by rw [← hl], by omega, h2, fun hn => ⟨g, 0, rfl, hQ g rfl, RdL.of_ l 0 fun i hi => ?_⟩⟩
    obtain ⟨q0, q1, q2, q3⟩ := CV.get L i (by omega)
    have hcell : ∀ j v, (L.flatMap CV.cells)[j]? = some v → w.cell? ⟨g, j, none⟩ = some v := fun j v hv => by
      have := h.cells (g := g) rfl j v hv
      rw [add_none] at this
      simpa using this
    obtain ⟨a, b, c, d, e, f, k⟩ := hc.2 i (by omega) hi
    cases hx : l[i] with
    | mk fr to wi sub =>
      rw [hx] at a b c d k
      simp only [Claim.frm, Claim.to, Claim.wth, Claim.sub] at a b c d k
      simp only [RdC, Nat.zero_add]
      refine ⟨by rw [hcell _ _ q0, a], by rw [hcell _ _ q1, b], by rw [hcell _ _ q2, c], L[i].s.a, L[i].s.c, by rw [hcell _ _ q3, d], by omega, f, k⟩
end Go.Proofs.Ytlmbffnmjfbglab
/- A drawn region in a round, by the plain moves: the plain walk over any order is a walk in the round's fence. -/
namespace Go.Proofs.Ytlmbffnmjfbglab
open Go.ChangeShapes Go.WideShapes Go.ChangeAt Go.RowKit

theorem rowsIn_wide {n : Nat} {P : Program} {row : String} {args : Array Value} {w : World} {R : Value → World → Prop} (h : Rows P row args w R) : RowsIn Fence.wide n P row args w R := fun c cs _ =>
  let ⟨v, w', r, s⟩ := h c cs; ⟨v, w', r, stepsIn_wide.2 s⟩
theorem oper_round {P : Program} {l n : Nat} {o : Oper} {a : Act} {w : World} {K : Act → World → Prop} {Q : Exit → Act → World → Prop} (ho : ∀ c, o.op ≠ .defer c) (h : o.wp P a w K Q) : o.wpIn (Fence.wide.inRound l) n P a w K Q := by
  unfold Oper.wpIn
  refine ⟨fun _ _ => trivial, ?_⟩
  rw [Oper.semAt_eq _ _ _ ho]
  unfold Oper.wp at h
  generalize (execOp a.eval o).run P w = r at *
  cases r with
  | ok x w' =>
    cases x with
    | value v => exact h
    | skip => exact h
    | defer d => exact h
    | enter f args => exact ⟨fun h => by simp [Fence.wide] at h, CallsIn.inRound l ((callsIn_wide.2 h).mono fun e w'' he => by cases e <;> exact he)⟩
    | row row args => exact ⟨fun h => by simp [Fence.wide] at h, rowsIn_wide h⟩
    | _ => exact h.elim
  | halt x w' => cases x <;> first | exact h | exact h.elim
section
variable {P : Program} {ops : Array Oper} {Q : Exit → Act → World → Prop} {S : World → Prop} {md : Region.Mode} {l n : Nat}
theorem wpAnyIn_round (hd : ∀ (i : Nat) (o : Oper), ops[i]? = some o → ∀ c, o.op ≠ .defer c) (hQ : ¬ LetsOut Q) : ∀ (fuel : Nat) (listed : Array Bool) (a : Act) (w : World), wpAny P md ops Q fuel listed a w → wpAnyIn (Fence.wide.inRound l) n P md ops Q fuel listed a w
  | 0, _, _, _, h => h
  | fuel + 1, listed, a, w, h => by
    refine ⟨h.1, fun i hi => ?_⟩
    have h2 := wpOp_mono (fun a w => wpAnyIn_round hd hQ fuel (listed.setIfInBounds i true) a w) (h.2 i hi)
    unfold wpOp at h2
    unfold wpOpIn
    split
    · rename_i he; simpa [he] using h2
    · rename_i o ho
      simp only [ho] at h2
      split
      · rename_i hw
        simp only [hw, if_true] at h2
        rcases h2 with h2 | ⟨_, h2⟩
        · exact oper_round (hd i o ho) h2
        · exact absurd h2 hQ
      · rename_i hw
        simp only [hw] at h2
        exact ⟨fun _ _ => trivial, h2⟩
/-- no defer statement among the operations. -/
def noDefer (ops : Array Oper) : Bool := ops.all fun o => match o.op with | .defer _ => false | _ => true
theorem noDefer_spec (h : noDefer ops = true) (i : Nat) (o : Oper) (ho : ops[i]? = some o) (c : Call) : o.op ≠ .defer c := fun e => by
  obtain ⟨hlt, rfl⟩ := Array.getElem?_eq_some_iff.1 ho
  have := Array.all_eq_true.1 h i hlt
  simp [e] at this
/-- a drawn region in a round: by the plain moves from here on. -/
theorem wpIn_region_round {id : Nat} {a : Act} {w : World} (S : World → Prop) (hm : P.follows .mixedOrders = true) (hd : noDefer ops = true) (hQ : ¬ LetsOut Q) (hS : S w.drew)
    (h : S w.drew → wpAnyH P .any ops Q S ops.size (Array.replicate ops.size false) a w.drew) : (Code.region id ops true).wpIn (Fence.wide.inRound l) n P Q a w :=
  wpIn_region_any hm (wpAnyIn_round (noDefer_spec hd) hQ _ _ _ _ (wpAny_of_held _ _ _ _ (h hS)))
end
end Go.Proofs.Ytlmbffnmjfbglab
/- A clone of ints; what the search promises. -/
namespace Go.Proofs.Ytlmbffnmjfbglab
open Go.ChangeShapes Go.WideShapes Go.ChangeAt Go.RowKit

/-- a row of ints in a block from lo on. -/
def RdF (lo : Nat) (W : World) (A : Option Addr) (l : List Int) : Prop := RdInt W W.heap.size A l ∧ ∀ b o, A = some ⟨b, o, none⟩ → 0 < l.length → lo ≤ b
theorem RdF.mono {lo lo' : Nat} {W : World} {A : Option Addr} {l : List Int} (h : RdF lo W A l) (hl : lo' ≤ lo) : RdF lo' W A l := ⟨h.1, fun b o e hn => Nat.le_trans hl (h.2 b o e hn)⟩
theorem RdF.nil {lo : Nat} {W : World} {A : Option Addr} : RdF lo W A [] := ⟨fun hn => by simp at hn, fun _ _ _ hn => by simp at hn⟩
theorem cloneI_c (l : List Int) (A : Option Addr) (c : Nat) (w : World) (h : RdInt w w.heap.size A l) (hl : l.length ≤ 1000) :
    Calls Try.prog 41 #[.slice A l.length c] w fun e w' => ∃ A' c', l.length ≤ c' ∧ e = .returned (.slice A' l.length c') ∧ RdF w.heap.size w' A' l ∧ Below w.heap.size w w' := by
  obtain ⟨i0, hi0, hz0, hz1, hz2⟩ := info_parts info3
  have hnil := fun (n c : Nat) W => Lib.run_eql_slice_nil (P := Try.prog) W 28 3 A n c 0 0 Try.underlying28
  have hread := (rdInt_reads h).alloc (Nat.le_refl _) (.cells #[] 3)
  have hone := ints_one l
  have Hread := Lib.hid hread
  have Hone := Lib.hid hone
  have Hh := Lib.hid h
  clear hread hone h
  cases A with
  | none =>
    have h0 : l = [] := by
      cases l with
      | nil => rfl
      | cons x r => obtain ⟨b, o, e, _⟩ := Hh.out (by simp); cases e
    subst h0
    simp only [List.length_nil] at hnil ⊢
    go_enter Try.func41, Try.ntmps41
    go_wp2
    go_ret
    exact ⟨none, 0, Nat.le_refl _, rfl, RdF.nil, Below.refl _ _⟩
  | some ad =>
    go_enter Try.func41, Try.ntmps41
    go_wp2_with (at_builtin; refine wpList_append_any _ rfl _ _ 28 rfl w.heap.size 3 i0 (.int .i64 0) 1 8 Try.underlying28 hi0 hz0 hz1 hz2 rfl (by decide) _ 0 [] rfl (World.ownsRow_made _ #[] 0 (Nat.le_refl _) (by simp [maxLen]) (by simp)) w.heap.size (some ad) l.length c (l.map (Value.int .i64)) rfl Hread.out Hone.out ?c3 ?c4 ?c5 ?_)
    case c3 => unfold maxLen; omega
    case c4 => omega
    case c5 => simp
    intro v' w2 hown2 hgrow hwhere
    have hB : Below w.heap.size w w2 := ((Below.refl _ w).alloc (Nat.le_refl _) _).grown hgrow (by simp) (fun k hk => by simp [Value.ownBlock] at hk; omega)
    try rw [List.nil_append, Nat.zero_add] at hown2
    have hfr : ∀ b, v'.ownBlock = some b → w.heap.size ≤ b := fun b hb => by
      rcases hown2.2 with ⟨rfl, _⟩ | ⟨g, cap, cur, rfl, hg, _⟩
      · simp [Value.ownBlock] at hb
      · simp only [Value.ownBlock] at hb
        injection hb with hb
        omega
    have hcp : ∀ A0 c0, v' = .slice A0 l.length c0 → l.length ≤ c0 := fun A0 c0 e => by
      rcases hown2.2 with ⟨e2, h0⟩ | ⟨g, cap, cur, e2, _, _, hc, _⟩
      · omega
      · rw [e] at e2
        injection e2 with _ _ e4
        subst e4
        exact hc
    obtain ⟨A', c', rfl, hr⟩ := RdInt.of_own rfl hown2
    replace hcp := hcp A' c' rfl
    replace hr : RdF w.heap.size w2 A' l := ⟨hr, fun b o e _ => hfr b (by rw [e]; rfl)⟩
    clear hfr
    clear hgrow hwhere Hread Hone hown2
    go_wp2
    go_ret
    exact ⟨A', c', hcp, rfl, hr, hB⟩

/-- blocks of claims that a search has made: cells, from block B on. -/
def MadeQ (B : Nat) (W : World) (b : Nat) : Prop := B ≤ b ∧ ∃ o, W.heap[b]? = some o ∧ o.isCells = true
/-- the offsets lie in a block of ints. -/
def OT (W : World) (Ao : Option Addr) (os : List Int) : Prop := ∀ b o, Ao = some ⟨b, o, none⟩ → 0 < os.length → ∃ cur, W.heap[b]? = some (.cells cur 3)
/-- what the search does where r partitions have no offset yet. -/
structure TryPost (W : World) (Bs : Nat) (name : ByteArray) (mem F : Int) (A : Option Addr) (ps : List Part) (c : Nat) (os : List Int) (t r : Nat) (e : Ending) (W' : World) : Prop where
  grown : W.grownBy W' (some Bs)
  claims : ∀ l t', tryR ps r os t = .claims l t' → ∃ A' c', e = .returned (.slice A' l.length c') ∧ l.length ≤ c' ∧ c' ≤ maxLen ∧ RdCls W' (MadeQ W.heap.size W') A' l ∧ ∃ Ao co, SB W' Bs name mem F A ps c Ao os co t' ∧ OT W' Ao os
  stop : ∀ a er, tryR ps r os t = .stop a er → ∃ A' c', a.length ≤ c' ∧ e = .panicked [{ v := .iface 63 (.agg #[.slice A' a.length c', .int .i64 er]), recovered := false }] ∧ RdF W.heap.size W' A' a
theorem TryPost.of_claims {W : World} {Bs : Nat} {name : ByteArray} {mem F : Int} {A : Option Addr} {ps : List Part} {c : Nat} {os : List Int} {t r : Nat} {W' : World} {l : List Claim} {t' : Nat} {A' : Option Addr} {c' : Nat} (hg : W.grownBy W' (some Bs)) (h : tryR ps r os t = .claims l t') (h1 : l.length ≤ c') (h2 : c' ≤ maxLen) (h3 : RdCls W' (MadeQ W.heap.size W') A' l) (h4 : ∃ Ao co, SB W' Bs name mem F A ps c Ao os co t' ∧ OT W' Ao os) :
    TryPost W Bs name mem F A ps c os t r (.returned (.slice A' l.length c')) W' :=
  ⟨hg, fun l2 t2 e => by rw [h] at e; injection e with e1 e2; subst e1 e2; exact ⟨A', c', rfl, h1, h2, h3, h4⟩, fun a er e => by rw [h] at e; cases e⟩
theorem TryPost.of_stop {W : World} {Bs : Nat} {name : ByteArray} {mem F : Int} {A : Option Addr} {ps : List Part} {c : Nat} {os : List Int} {t r : Nat} {W' : World} {a : List Int} {er : Int} {A' : Option Addr} {c' : Nat} (hg : W.grownBy W' (some Bs)) (h : tryR ps r os t = .stop a er) (h3 : RdF W.heap.size W' A' a) (hcp : a.length ≤ c') :
    TryPost W Bs name mem F A ps c os t r (.panicked [{ v := .iface 63 (.agg #[.slice A' a.length c', .int .i64 er]), recovered := false }]) W' :=
  ⟨hg, fun l2 t2 e => (by rw [h] at e; cases e), fun a2 er2 e => by rw [h] at e; injection e with e1 e2; subst e1 e2; exact ⟨A', c', hcp, rfl, h3⟩⟩
theorem below_grown {W W' : World} {row : Option Nat} (h : Below W.heap.size W W') : W.grownBy W' row := ⟨h.os, h.tape, h.output, h.size, fun k hk _ => h.block k hk⟩

set_option maxRecDepth 100000 in
set_option maxHeartbeats 1000000 in
/-- all partitions have an offset: found. -/
theorem try_zero {w : World} {Bs : Nat} {name : ByteArray} {mem F : Int} {A : Option Addr} {ps : List Part} {c : Nat} {Ao : Option Addr} {os : List Int} {co : Nat} {t : Nat} (h : SB w Bs name mem F A ps c Ao os co t) (hn : os.length = ps.length) (hps : ps.length ≤ 6) :
    Calls Try.prog 37 #[.pointer (some ⟨Bs, 0, none⟩)] w (TryPost w Bs name mem F A ps c os t 0) := by
  obtain ⟨_, _, _, c3, c4, _⟩ := h.cells
  have hz := h.blk.lt
  have hdec : ((os.length : Int) == (ps.length : Int)) = true := by simp [hn]
  have hB : Below w.heap.size w (((w.alloc (.cells #[.pointer (some ⟨Bs, 0, none⟩)] 65)).alloc (.cells #[.slice none 0 0] 29)).alloc (.cells #[.int .i64 os.length] 3)) := ((((Below.refl _ w).alloc (Nat.le_refl _) _).alloc (by simp) _).alloc (by simp; omega) _)
  have hb0 := ((Blk.new w 65 #[.pointer (some ⟨Bs, 0, none⟩)]).alloc (.cells #[.slice none 0 0] 29)).alloc (.cells #[.int .i64 os.length] 3)
  have hb2 := Blk.new ((w.alloc (.cells #[.pointer (some ⟨Bs, 0, none⟩)] 65)).alloc (.cells #[.slice none 0 0] 29)) 3 #[.int .i64 os.length]
  simp only [World.size_alloc] at hb2
  have Hn := Lib.hid hn
  clear hn
  go_enter Try.func37, Try.ntmps37
  go_wp2_with fail
  refine nameW fun W1 hW1 => ?_
  rw [← hW1] at hB hb0 hb2
  clear hW1
  have hS1 := h.next hB
  clear h c3 c4
  obtain ⟨_, _, _, c3, c4, _⟩ := hS1.cells
  have q0 : W1.cell? ⟨w.heap.size, 0, none⟩ = some (.pointer (some ⟨Bs, 0, none⟩)) := hb0.cell 0
  have q2 : W1.cell? ⟨w.heap.size + 1 + 1, 0, none⟩ = some (.int .i64 os.length) := hb2.cell 0
  go_quiet (fail)
  have hcl := cloneI_c os Ao co (W1.drewN nq) ((hS1.next (below_drewN (Below.refl _ _) nq)).of) (by rw [Hn.out]; omega)
  have hg : ∀ W2, Below (W1.drewN nq).heap.size (W1.drewN nq) W2 → w.grownBy W2 (some Bs) := fun W2 hb => below_grown ((below_drewN hB nq).trans (hb.mono (below_drewN hB nq).size))
  have Hg := Lib.hid hg
  have hzz : w.heap.size ≤ (W1.drewN nq).heap.size := (below_drewN hB nq).size
  have Hz := Lib.hid hzz
  clear hzz
  clear hg hS1 hB c3
  go_wp2_with fail
  refine hcl.mono ?_
  rintro e W2 ⟨A', c', hcp, rfl, hr, hb⟩
  have hG := Hg.out W2 hb
  clear hcl hb Hg c4 q0 q2 hb0 hb2
  go_wp2
  exact ⟨rfl, TryPost.of_stop hG rfl (hr.mono Hz.out) hcp⟩
end Go.Proofs.Ytlmbffnmjfbglab
