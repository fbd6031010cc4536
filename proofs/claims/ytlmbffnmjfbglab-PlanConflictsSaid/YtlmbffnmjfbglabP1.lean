/- The search object, and the contracts of slot, last, clash and conflict. -/
import Derived.Test.YtlmbffnmjfbglabwC0
import Derived.IntWalk
import Derived.Deep.RegionHeld3
namespace Go.Proofs.Ytlmbffnmjfbglab
open Go.ChangeShapes Go.WideShapes Go.ChangeAt Go.RowKit

theorem nameX {Q : Exit → Act → World → Prop} {x : Exit} {a : Act} {w : World} (h : ∀ W0, W0 = w → Q x a W0) : Q x a w := h w rfl
/-- a search: a module, the offsets of its first partitions, and the number of tries. -/
structure SB (W : World) (Bs : Nat) (name : ByteArray) (mem F : Int) (A : Option Addr) (ps : List Part) (c : Nat) (Ao : Option Addr) (os : List Int) (co : Nat) (t : Int) : Prop where
  blk : Blk W Bs 67 #[.string name, .int .i64 mem, .int .i64 F, .slice A ps.length c, .slice Ao os.length co, .int .i64 t]
  pt : RdPart W W.heap.size A ps
  of : RdInt W W.heap.size Ao os
  ne : ∀ b o, Ao = some ⟨b, o, none⟩ → 0 < os.length → b ≠ Bs
  cap : os.length ≤ co
section
variable {W W' : World} {Bs : Nat} {name : ByteArray} {mem F : Int} {A : Option Addr} {ps : List Part} {c : Nat} {Ao : Option Addr} {os : List Int} {co : Nat} {t : Int}
theorem SB.next (h : SB W Bs name mem F A ps c Ao os co t) (hb : Below W.heap.size W W') : SB W' Bs name mem F A ps c Ao os co t :=
  ⟨h.blk.below hb h.blk.lt, h.pt.below hb, h.of.below hb, h.ne, h.cap⟩
theorem SB.cells (h : SB W Bs name mem F A ps c Ao os co t) : W.cell? ⟨Bs, 0, none⟩ = some (.string name) ∧ W.cell? ⟨Bs, 1, none⟩ = some (.int .i64 mem) ∧ W.cell? ⟨Bs, 2, none⟩ = some (.int .i64 F) ∧ W.cell? ⟨Bs, 3, none⟩ = some (.slice A ps.length c) ∧ W.cell? ⟨Bs, 4, none⟩ = some (.slice Ao os.length co) ∧ W.cell? ⟨Bs, 5, none⟩ = some (.int .i64 t) :=
  ⟨h.blk.cell 0, h.blk.cell 1, h.blk.cell 2, h.blk.cell 3, h.blk.cell 4, h.blk.cell 5⟩
end

set_option maxRecDepth 100000 in
set_option maxHeartbeats 1000000 in
theorem last_c {w : World} {Bs : Nat} {name : ByteArray} {mem F : Int} {A : Option Addr} {ps : List Part} {c : Nat} {Ao : Option Addr} {os : List Int} {co : Nat} {t : Int} (h : SB w Bs name mem F A ps c Ao os co t) (k : Nat) (hk : k < ps.length) (hp0 : 0 ≤ ps[k].period) (hp1 : ps[k].period ≤ 2000) (hl0 : 0 ≤ ps[k].length) (hl1 : ps[k].length ≤ 2000) :
    Calls Try.prog 63 #[.pointer (some ⟨Bs, 0, none⟩), .int .i64 k] w fun e w' => e = .returned (.int .i64 (ps[k].period - ps[k].length)) ∧ ∃ n, w' = w.drewN n := by
  obtain ⟨_, _, _, c3, _, _⟩ := h.cells
  obtain ⟨b, o, rfl, hb, hcp⟩ := h.pt (by omega)
  have p1 : w.cell? ⟨b, o + k * 10 + 1, none⟩ = some (.int .i64 ps[k].period) := hcp k hk 1 _ rfl
  have p2 : w.cell? ⟨b, o + k * 10 + 2, none⟩ = some (.int .i64 ps[k].length) := hcp k hk 2 _ rfl
  have hi0 : (0 : Int) ≤ (k : Int) := by omega
  have hi1 : (k : Int) < (ps.length : Int) := by omega
  clear hcp h
  generalize ps[k].period = P at *
  generalize ps[k].length = L at *
  have m1 := IntWalk.i64_in (P - L) (by omega)
  go_enter Try.func63, Try.ntmps63
  go_wp2_with fail
  go_quiet (fail)
  clear m1
  go_wp2
  go_ret
  exact ⟨rfl, _, rfl⟩

set_option maxRecDepth 100000 in
set_option maxHeartbeats 1000000 in
theorem slot_m {w : World} {Bs : Nat} {name : ByteArray} {mem F : Int} {A : Option Addr} {ps : List Part} {c : Nat} {Ao : Option Addr} {os : List Int} {co : Nat} {t : Int} (h : SB w Bs name mem F A ps c Ao os co t) (k : Nat) (hk : k < ps.length) (x : Int) :
    Calls Try.prog 87 #[.pointer (some ⟨Bs, 0, none⟩), .int .i64 k, .int .i64 x] w fun e w' => e = .returned (.agg #[.int .i64 x, .int .i64 ps[k].period, .int .i64 ps[k].length]) ∧ Below w.heap.size w w' := by
  obtain ⟨_, _, _, c3, _, _⟩ := h.cells
  obtain ⟨b, o, rfl, hb, hcp⟩ := h.pt (by omega)
  have p1 : w.cell? ⟨b, o + k * 10 + 1, none⟩ = some (.int .i64 ps[k].period) := hcp k hk 1 _ rfl
  have p2 : w.cell? ⟨b, o + k * 10 + 2, none⟩ = some (.int .i64 ps[k].length) := hcp k hk 2 _ rfl
  have hi0 : (0 : Int) ≤ (k : Int) := by omega
  have hi1 : (k : Int) < (ps.length : Int) := by omega
  have hz := h.blk.lt
  clear hcp h
  generalize ps[k].period = P at *
  generalize ps[k].length = L at *
  go_enter Try.func87, Try.ntmps87
  go_wp2_with fail
  go_region_held3 (fun w' => w'.cell? ⟨Bs, 3, none⟩ = some (.slice (some ⟨b, o, none⟩) ps.length c) ∧ w'.cell? ⟨b, o + k * 10 + 1, none⟩ = some (.int .i64 P) ∧ w'.cell? ⟨b, o + k * 10 + 2, none⟩ = some (.int .i64 L)) (go_keep) (fail)
  refine nameX fun w2 hw2 => ?_
  have hB : Below w.heap.size w w2 := by subst hw2; exact ((Below.refl _ w).alloc (Nat.le_refl _) _).drew
  have hbk : Blk w2 w.heap.size 46 #[.int .i64 x, .int .i64 P, .int .i64 L] := by subst hw2; exact Blk.new w 46 _
  clear hw2 p1 p2 c3
  have s0 : w2.cell? ⟨w.heap.size, 0, none⟩ = some (.int .i64 x) := hbk.cell 0
  have s1 : w2.cell? ⟨w.heap.size, 1, none⟩ = some (.int .i64 P) := hbk.cell 1
  have s2 : w2.cell? ⟨w.heap.size, 2, none⟩ = some (.int .i64 L) := hbk.cell 2
  go_wp2
  refine bodyPost_ret (v := .agg #[.int .i64 x, .int .i64 P, .int .i64 L]) ?_ rfl ⟨rfl, hB⟩
  simp [results, Try.results87, go_sem, s0, s1, s2]

/-- the slot of partition k with offset o. -/
def pslot (ps : List Part) (k : Nat) (o : Int) : Slot := ⟨o, (ps.getD k default).period, (ps.getD k default).length⟩
/-- an offset of the next partition conflicts with partition j. -/
def clashP (ps : List Part) (os : List Int) (j : Nat) (o : Int) : Bool := !disjB (pslot ps j (os.getD j 0)) (pslot ps os.length o)
/-- the first partition with which it conflicts, or -1. -/
def conflP (ps : List Part) (os : List Int) (o : Int) : Int := idxI (fun j => clashP ps os j o) (List.range os.length)

set_option maxRecDepth 100000 in
set_option maxHeartbeats 1000000 in
theorem clash_m {w : World} {Bs : Nat} {name : ByteArray} {mem F : Int} {A : Option Addr} {ps : List Part} {c : Nat} {Ao : Option Addr} {os : List Int} {co : Nat} {t : Int} (h : SB w Bs name mem F A ps c Ao os co t) (j : Nat) (hj : j < os.length) (hn : os.length < ps.length) (x : Int) :
    Calls Try.prog 65 #[.pointer (some ⟨Bs, 0, none⟩), .int .i64 j, .int .i64 x] w fun e w' => e = .returned (.bool (clashP ps os j x)) ∧ Below w.heap.size w w' := by
  obtain ⟨_, _, _, _, c4, _⟩ := h.cells
  obtain ⟨b, o, rfl, hb, hco⟩ := h.of (by omega)
  have d0 := hco j hj
  have hi0 : (0 : Int) ≤ (j : Int) := by omega
  have hi1 : (j : Int) < (os.length : Int) := by omega
  have hz := h.blk.lt
  have k1 : ∀ y : Ext w, Calls Try.prog 87 #[.pointer (some ⟨Bs, 0, none⟩), .int .i64 j, .int .i64 os[j]] y.w fun e w' => e = .returned (.agg #[.int .i64 os[j], .int .i64 (ps[j]'(by omega)).period, .int .i64 (ps[j]'(by omega)).length]) ∧ Below y.w.heap.size y.w w' := fun y => slot_m (h.next y.h) j (by omega) os[j]
  have k2 : ∀ y : Ext w, Calls Try.prog 87 #[.pointer (some ⟨Bs, 0, none⟩), .int .i64 os.length, .int .i64 x] y.w fun e w' => e = .returned (.agg #[.int .i64 x, .int .i64 ps[os.length].period, .int .i64 ps[os.length].length]) ∧ Below y.w.heap.size y.w w' := fun y => slot_m (h.next y.h) os.length hn x
  have k3 : ∀ y : Ext w, Calls Try.prog 22 #[.agg #[.int .i64 os[j], .int .i64 (ps[j]'(by omega)).period, .int .i64 (ps[j]'(by omega)).length], .agg #[.int .i64 x, .int .i64 ps[os.length].period, .int .i64 ps[os.length].length]] y.w fun e w' => e = .returned (.bool (disjB ⟨os[j], (ps[j]'(by omega)).period, (ps[j]'(by omega)).length⟩ ⟨x, ps[os.length].period, ps[os.length].length⟩)) ∧ Below y.w.heap.size y.w w' := fun y => disj_c _ _ y.w
  have Hv := Lib.hid (show clashP ps os j x = !disjB ⟨os[j], (ps[j]'(by omega)).period, (ps[j]'(by omega)).length⟩ ⟨x, ps[os.length].period, ps[os.length].length⟩ by
    simp [clashP, pslot, hj, hn, show j < ps.length by omega])
  have hec := ext_cell w
  clear hco h
  generalize os[j] = v0 at *
  generalize (ps[j]'(by omega)).period = v1 at *
  generalize (ps[j]'(by omega)).length = v2 at *
  generalize ps[os.length].period = v3 at *
  generalize ps[os.length].length = v4 at *
  generalize disjB ⟨v0, v1, v2⟩ ⟨x, v3, v4⟩ = q at *
  go_enter Try.func65, Try.ntmps65
  go_wp2_with fail
  refine wp_region_ext (by kernel_rfl) (by kernel_rfl) ?_
  repeat (go_big_quiet_step ((first | (go_at_call 87; with_reducible exact ext_call (k1 _)) | (go_at_call 87; with_reducible exact ext_call (k2 _)) | (go_at_call 22; with_reducible exact ext_call (k3 _)))))
  refine wpQuiet_nil ?_
  intro _ hw'
  obtain ⟨xx, hw''⟩ := hw'
  subst hw''
  have hB := xx.h
  clear hec k1 k2 k3 c4 d0
  generalize xx.w = w3 at hB ⊢
  go_wp2
  go_ret
  exact ⟨ret_bool Hv.out.symm, hB⟩

set_option maxHeartbeats 1000000 in
theorem conflict_m {w : World} {Bs : Nat} {name : ByteArray} {mem F : Int} {A : Option Addr} {ps : List Part} {c : Nat} {Ao : Option Addr} {os : List Int} {co : Nat} {t : Int} (h : SB w Bs name mem F A ps c Ao os co t) (hn : os.length < ps.length) (hps : ps.length ≤ 6) (x : Int) :
    Calls Try.prog 42 #[.pointer (some ⟨Bs, 0, none⟩), .int .i64 x] w fun e w' => e = .returned (.int .i64 (conflP ps os x)) ∧ Below w.heap.size w w' := by
  obtain ⟨_, _, _, _, c4, _⟩ := h.cells
  go_enter Try.func42, Try.ntmps42
  go_wp2_with fail
  go_loopw [11] (fun i wr => ∃ k : Nat, k ≤ os.length ∧ i = .int .i64 k ∧ Below w.heap.size w wr ∧ Hid (∀ j, j < k → clashP ps os j x = false)) (fun i _ => os.length - (intOf i).toNat)
  case atStart => exact ⟨0, Nat.zero_le _, rfl, Below.refl _ _, fun j h => absurd h (by omega)⟩
  case round =>
    obtain ⟨k, hk, rfl, hB, hall⟩ := hrel
    by_cases hlt : k < os.length
    · have hc := clash_m (h.next hB) k hlt hn x
      cases hq : clashP ps os k x with
      | true =>
        have Hf := Lib.hid (show conflP ps os x = k by
          unfold conflP
          exact idxI_hit (l := List.range os.length) (k := k) (by simpa using hlt) (by simpa using hq) (fun j hj hjk => by simpa using hall.out j hjk))
        rw [hq] at hc
        clear hq hall c4 h
        go_wp2_with fail
        refine hc.mono ?_
        rintro e w2 ⟨rfl, hb⟩
        have hB2 := hB.trans (hb.mono hB.size)
        clear hc hb hB
        go_wp2
        go_ret
        exact ⟨ret_int Hf.out.symm, hB2⟩
      | false =>
        have Hn : Hid (∀ j, j < k + 1 → clashP ps os j x = false) := fun j hj => by
          by_cases e : j = k
          · subst e; exact hq
          · exact hall.out j (by omega)
        rw [hq] at hc
        clear hq hall c4 h
        go_wp2_with fail
        refine hc.mono ?_
        rintro e w2 ⟨rfl, hb⟩
        have hB2 := hB.trans (hb.mono hB.size)
        clear hc hb hB
        go_wp2
        go_roundw
        case rel => exact ⟨k + 1, by omega, by go_num, hB2, Hn⟩
        case measure => simp [intOf]; omega
    · have Hf := Lib.hid (show conflP ps os x = -1 by
        unfold conflP
        exact idxI_miss fun j hj => by simp at hj; simpa using hall.out j (by omega))
      clear hall c4 h
      go_wp2
      go_ret
      exact ⟨ret_int Hf.out.symm, hB⟩
end Go.Proofs.Ytlmbffnmjfbglab
