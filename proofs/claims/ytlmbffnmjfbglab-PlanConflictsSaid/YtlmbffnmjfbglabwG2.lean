/- The contract of Slots. -/
import Derived.Test.YtlmbffnmjfbglabwG1
import Derived.Deep.RegionLaw
namespace Go.Proofs.Ytlmbffnmjfbglab
open Go.ChangeShapes Go.WideShapes Go.ChangeAt Go.RowKit

def RdInt (w : World) (B : Nat) (A : Option Addr) (l : List Int) : Prop :=
  0 < l.length → ∃ b o, A = some ⟨b, o, none⟩ ∧ b < B ∧ ∀ i (h : i < l.length), w.cell? ⟨b, o + i, none⟩ = some (.int .i64 l[i])
theorem RdInt.keep {w w' : World} {B : Nat} {A : Option Addr} {l : List Int} (h : RdInt w B A l) (hb : Below B w w') : RdInt w' B A l := fun hn => by
  obtain ⟨b, o, rfl, hbB, hc⟩ := h hn
  exact ⟨b, o, rfl, hbB, fun i hi => (hb.cell (p := ⟨b, _, none⟩) hbB).trans (hc i hi)⟩
theorem RdInt.more {w : World} {B B' : Nat} {A : Option Addr} {l : List Int} (h : RdInt w B A l) (hb : B ≤ B') : RdInt w B' A l := fun hn => by
  obtain ⟨b, o, rfl, hbB, hc⟩ := h hn
  exact ⟨b, o, rfl, by omega, hc⟩
theorem RdInt.below {w w' : World} {A : Option Addr} {l : List Int} (h : RdInt w w.heap.size A l) (hb : Below w.heap.size w w') : RdInt w' w'.heap.size A l := (h.keep hb).more hb.size


theorem info23 : (Try.prog.info? 46).map (fun i => (i.zero, i.size, i.bytes)) = some (some (.agg #[.int .i64 0, .int .i64 0, .int .i64 0]), 3, 24) := by kernel_rfl
def mkSlot (o : Int) (p : Part) : Slot := ⟨o, p.period, p.length⟩
def zipS (os : List Int) (ps : List Part) : List Slot := List.zipWith mkSlot os ps
theorem zipS_len (os : List Int) (ps : List Part) (h : os.length = ps.length) : (zipS os ps).length = ps.length := by simp [zipS, h]
theorem zipS_get (os : List Int) (ps : List Part) (k : Nat) (h : k < (zipS os ps).length) (h1 : k < os.length) (h2 : k < ps.length) : (zipS os ps)[k] = ⟨os[k], ps[k].period, ps[k].length⟩ := by simp [zipS, mkSlot]
def slotsV (frame : Int) (ps : List Part) (os : List Int) : List Slot × Int :=
  if timesV frame ps && decide (os.length = ps.length) then (if (zipS os ps).any (fun s => !validS s) then ([], 2) else (zipS os ps, 0)) else ([], 2)

/-- a list of slots and an error. -/
def RetSlots (w : World) (q : List Slot × Int) (e : Ending) (w' : World) : Prop := ∃ A c, e = .returned (.tuple #[.slice A q.1.length c, .int .i64 q.2]) ∧ RdG Slot.tri w' w'.heap.size A q.1 ∧ Below w.heap.size w w'
theorem retSlots_none {w w' : World} {n : Int} (h : Below w.heap.size w w') : RetSlots w ([], n) (.returned (.tuple #[.slice none 0 0, .int .i64 n])) w' := ⟨none, 0, rfl, RdG.nil, h⟩

set_option maxRecDepth 100000 in
set_option maxHeartbeats 1000000 in
theorem slots_c (name : ByteArray) (mem frame : Int) (l : List Part) (A : Option Addr) (c : Nat) (os : List Int) (A' : Option Addr) (c' : Nat) (w : World) (h : RdPart w w.heap.size A l) (h' : RdInt w w.heap.size A' os) (hl : l.length ≤ 9223372036854775807) (hl' : os.length ≤ 9223372036854775807) :
    Calls Try.prog 21 #[.agg #[.string name, .int .i64 mem, .int .i64 frame, .slice A l.length c], .slice A' os.length c'] w (RetSlots w (slotsV frame l os)) := by
  have hB : Below w.heap.size w (w.alloc (.cells #[.string name, .int .i64 mem, .int .i64 frame, .slice A l.length c] 24)) := (Below.refl _ w).alloc (Nat.le_refl _) _
  have hblk := Blk.new w 24 #[.string name, .int .i64 mem, .int .i64 frame, .slice A l.length c]
  have ht := times_c name mem frame l A c _ (h.below hB) hl
  go_enter Try.func21, Try.ntmps21
  go_wp2_with fail
  refine ht.mono ?_
  clear ht
  cases hv : timesV frame l with
  | false =>
    have hs : slotsV frame l os = ([], 2) := by simp [slotsV, hv]
    have Hs := Lib.hid hs
    clear hs hv h h'
    rintro e w1 ⟨rfl, hb1⟩
    have hB1 := hB.trans (hb1.mono hB.size)
    clear hB hblk hb1
    go_wp2
    go_ret2
    rw [Hs.out]
    exact retSlots_none hB1
  | true =>
    rintro e w1 ⟨rfl, hb1⟩
    have hB1 := hB.trans (hb1.mono hB.size)
    have hk1 := hblk.below hb1 hblk.lt
    have hz1 : w.heap.size + 1 ≤ w1.heap.size := by have := hb1.size; simpa using this
    clear hB hblk hb1
    have q3 : w1.cell? ⟨w.heap.size, 3, none⟩ = some (.slice A l.length c) := hk1.cell 3
    have hl6 : l.length ≤ 6 := by simp [timesV] at hv; omega
    by_cases hlen : os.length = l.length
    · have hne : ((os.length : Int) != (l.length : Int)) = false := by simp [hlen]
      have Hlen := Lib.hid hlen
      clear hlen
      have hs : slotsV frame l os = if (zipS os l).any (fun s => !validS s) then ([], 2) else (zipS os l, 0) := by simp [slotsV, hv, Hlen.out]
      have Hs := Lib.hid hs
      clear hs hv
      go_wp2
      refine nameW fun W1 hW1 => ?_
      subst hW1
      obtain ⟨i0, hi0, hz0, hz1', hz2⟩ := info_parts info23
      have hZ := Lib.hid (zipS_len os l Hlen.out)
      go_loopw [6, 23] (fun v i wr => ∃ k : Nat, k ≤ l.length ∧ i = .int .i64 k ∧ Below w.heap.size w wr ∧ wr.ownsRow (w.heap.size + 1) 46 3 v k (((zipS os l).take k).flatMap (cellsG Slot.tri)) ∧ w.heap.size + 1 ≤ wr.heap.size) (fun _ i _ => l.length - (intOf i).toNat)
      case atStart => exact ⟨0, Nat.zero_le _, rfl, hB1, World.ownsRow_nil _ _ _ _, hz1⟩
      case round =>
        clear hB1 hk1 q3 hz1
        obtain ⟨k, hk, rfl, hB, hown, hzr⟩ := hrel
        have hex : ∃ A' c', u6 = .slice A' k c' := by
          rcases hown.2 with ⟨rfl, rfl⟩ | ⟨g, cap, cur, rfl, _⟩
          · exact ⟨none, 0, rfl⟩
          · exact ⟨_, _, rfl⟩
        obtain ⟨Av, cv, rfl⟩ := hex
        by_cases hlt : k < l.length
        · have hlt' : k < os.length := by have := Hlen.out; omega
          obtain ⟨b, o, rfl, hb, hc⟩ := h.keep hB (by omega)
          obtain ⟨b', o', rfl, hb', hc'⟩ := h'.keep hB (by omega)
          have hck := hc k hlt
          have d0 := hc' k hlt'
          clear hc h hc' h'
          have htk : Hid (((zipS os l).take (k + 1)).flatMap (cellsG Slot.tri) = ((zipS os l).take k).flatMap (cellsG Slot.tri) ++ [.int .i64 os[k], .int .i64 l[k].period, .int .i64 l[k].length]) := by
            have hkz : k < (zipS os l).length := by rw [hZ.out]; exact hlt
            rw [List.take_succ_eq_append_getElem hkz, List.flatMap_append, zipS_get os l k hkz hlt' hlt]; rfl
          generalize l[k] = r at hck htk
          generalize os[k] = ok at d0 htk
          have c0 := hck 0 _ rfl
          have c1 := hck 1 _ rfl
          have c2 := hck 2 _ rfl
          have c3 := hck 3 _ rfl
          have c4 := hck 4 _ rfl
          have c5 := hck 5 _ rfl
          have c6 := hck 6 _ rfl
          have c7 := hck 7 _ rfl
          have c8 := hck 8 _ rfl
          have c9 := hck 9 _ rfl
          rw [Nat.add_zero] at c0
          clear hck
          have hi0' : (0 : Int) ≤ (k : Int) := by omega
          have hi1 : (k : Int) < (l.length : Int) := by omega
          have hi2 : (k : Int) < (os.length : Int) := by omega
          have hnew : ∀ g, (Value.slice Av k cv).ownBlock = some g → w.heap.size ≤ g := fun g hg => by have := hown.lt g hg; omega
          have Hnew := Lib.hid hnew
          clear hnew
          go_wp2
          refine nameW fun W0 hW0 => ?_
          have hbox : Blk W0 wr.heap.size 56 r.cells.toArray := by subst hW0; exact Blk.new wr 56 _
          have hz0' : W0.heap.size = wr.heap.size + 1 := by subst hW0; simp
          have hB0 : Below w.heap.size w W0 := by subst hW0; exact hB.alloc hB.size _
          have hown0 : W0.ownsRow (w.heap.size + 1) 46 3 (.slice Av k cv) k (((zipS os l).take k).flatMap (cellsG Slot.tri)) := by subst hW0; exact hown.alloc _
          have e0 : W0.cell? ⟨b', o' + k, none⟩ = some (.int .i64 ok) := by
            subst hW0; rw [World.cell?_alloc_lt _ _ _ (by have := hB.size; simp; omega)]; exact d0
          clear hW0
          have hbz : wr.heap.size < W0.heap.size := by omega
          have hzle : w.heap.size + 1 ≤ W0.heap.size := by omega
          have hb0z : b' < W0.heap.size := by omega
          generalize wr.heap.size = bx at hbox hbz ⊢
          have e1 : W0.cell? ⟨bx, 1, none⟩ = some (.int .i64 r.period) := hbox.cell 1
          have e2 : W0.cell? ⟨bx, 2, none⟩ = some (.int .i64 r.length) := hbox.cell 2
          have hn1 : some b' ≠ (Value.slice Av k cv).ownBlock := fun e => by have := hown0.lt b' e.symm; omega
          have hn2 : some bx ≠ (Value.slice Av k cv).ownBlock := fun e => own_blk_ne hown0 hbox (by decide) e.symm
          have Hn1 := Lib.hid hn1
          have Hn2 := Lib.hid hn2
          have E0 := Lib.hid (show ∀ o'', (W0.alloc o'').cell? ⟨b', o' + k, none⟩ = some (.int .i64 ok) from fun o'' => (World.cell?_alloc_lt _ _ _ (by simpa using hb0z)).trans e0)
          have E1 := Lib.hid (show ∀ o'', (W0.alloc o'').cell? ⟨bx, 1, none⟩ = some (.int .i64 r.period) from fun o'' => (World.cell?_alloc_lt _ _ _ (by simpa using hbz)).trans e1)
          have E2 := Lib.hid (show ∀ o'', (W0.alloc o'').cell? ⟨bx, 2, none⟩ = some (.int .i64 r.length) from fun o'' => (World.cell?_alloc_lt _ _ _ (by simpa using hbz)).trans e2)
          clear c0 c1 c2 c3 c4 c5 c6 c7 c8 c9 d0 hown hB hz0' hzr hn1 hn2
          go_region_held3 (fun w' => w'.cell? ⟨b', o' + k, none⟩ = some (.int .i64 ok) ∧ w'.cell? ⟨bx, 1, none⟩ = some (.int .i64 r.period) ∧ w'.cell? ⟨bx, 2, none⟩ = some (.int .i64 r.length)) (first | go_keep | exact ⟨(World.cell?_of_block (hgrow.block b' (by simp; omega) Hn1.out)).trans (E0.out _), (World.cell?_of_block (hgrow.block bx (by simp; omega) Hn2.out)).trans (E1.out _), (World.cell?_of_block (hgrow.block bx (by simp; omega) Hn2.out)).trans (E2.out _)⟩)
            ((refine step_append_lies _ (by rfl) (.tmp 28) (.tmp 38) 41 (by rfl) (w.heap.size + 1) 46 i0 _ 3 24 Try.underlying41 hi0 hz0 hz1' hz2 (by rfl) (by decide) (.slice Av k cv) k _ (by rfl) ((hown0.alloc _).drew) ⟨W0.heap.size, 0, none⟩ 1 1 [.int .i64 ok, .int .i64 r.period, .int .i64 r.length] (by rfl) (by rfl) (World.news_of_block (cs := #[.int .i64 ok, .int .i64 r.period, .int .i64 r.length]) (t := 46) (fr := (0, 0)) (heap_alloc_new W0 _)) (by simp [Value.oneCell']) (by omega) (by unfold maxLen; omega) (by omega) (by simp; omega) (W0.heap.size + 1) (by simp) ?_; intro g cap w2 hown2 hgrow hg hgl))
          have hB2 := (((hB0.alloc (by omega) _).drew).grown hgrow (by simp; omega) Hnew.out)
          have hsz2 : w.heap.size + 1 ≤ w2.heap.size := by have := hgrow.size; simp at this; omega
          rename_i hHeld
          clear hHeld hgrow hown0 hbox hB0 e0 e1 e2 hg hgl
          go_wp2
          go_roundw
          case rel => exact ⟨k + 1, by omega, by go_num, hB2, by rw [htk.out]; exact hown2, hsz2⟩
          case measure => simp [intOf]; omega
        · obtain rfl : k = l.length := by omega
          rw [List.take_of_length_le (by rw [hZ.out]; exact Nat.le_refl _)] at hown
          obtain ⟨A2, c2, hv2, hrd⟩ := RdG.of_own (f := Slot.tri) hZ.out.symm hown
          injection hv2 with e1 e2 e3
          subst e1 e3
          clear hown h h' e2
          have hcon := containsSlot_c 45 #[] (fun s => !validS s) (enters_of Try.func45 (by kernel_rfl) rfl) (zipS os l) Av cv wr (slots1_c wr) hrd (by rw [hZ.out]; omega)
          rw [hZ.out] at hcon
          generalize hq : (zipS os l).any (fun s => !validS s) = q at hcon
          have Hq := Lib.hid hq
          clear hq
          go_wp2_with fail
          refine hcon.mono ?_
          rintro e w' ⟨rfl, hb'⟩
          have hB' := hB.trans (hb'.mono hB.size)
          have hrd' := hrd.below hb'
          clear hcon hB hb' hrd
          cases q with
          | true =>
            go_wp2
            go_ret2
            rw [Hs.out, if_pos Hq.out]
            exact retSlots_none hB'
          | false =>
            go_wp2
            go_ret2
            rw [Hs.out, if_neg (by rw [Hq.out]; simp)]
            exact ⟨Av, cv, by simp [hZ.out], hrd', hB'⟩
    · have hs : slotsV frame l os = ([], 2) := by simp [slotsV, hlen]
      have hne : ((os.length : Int) != (l.length : Int)) = true := by simp; omega
      have Hs := Lib.hid hs
      clear hs hv h h' hlen
      go_wp2
      go_ret2
      rw [Hs.out]
      exact retSlots_none hB1
end Go.Proofs.Ytlmbffnmjfbglab
