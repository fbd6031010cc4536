/- The reference's Times and Slots. -/
import Derived.Test.YtlmbffnmjfbglaaR0
import Derived.Test.YtlmbffnmjfbglaaFi
namespace Go.Proofs.Ytlmbffnmjfbglaa
open Go.ChangeShapes Go.WideShapes Go.ChangeAt Go.RowKit

set_option maxRecDepth 100000 in
set_option maxHeartbeats 2000000 in
theorem refTimes_c (name : ByteArray) (mem F : Int) (l : List Part) (A : Option Addr) (c : Nat) (w : World) (h : RdPart w w.heap.size A l) (hl : l.length ≤ 9223372036854775807) :
    Calls Try.prog 66 #[.agg #[.string name, .int .i64 mem, .int .i64 F, .slice A l.length c]] w fun e w' => e = .returned (.bool (timesV F l)) ∧ Below w.heap.size w w' := by
  have hB : Below w.heap.size w (w.alloc (.cells #[.string name, .int .i64 mem, .int .i64 F, .slice A l.length c] 44)) := (Below.refl _ w).alloc (Nat.le_refl _) _
  have hblk := Blk.new w 44 #[.string name, .int .i64 mem, .int .i64 F, .slice A l.length c]
  by_cases h1 : 1 ≤ F
  case neg =>
    have hv : timesV F l = false := by simp [timesV, h1]
    rw [hv]; clear hv h hblk
    go_enter Try.func66, Try.ntmps66
    go_wp2
    go_ret
    exact ⟨rfl, hB⟩
  by_cases h2 : F ≤ 2000
  case neg =>
    have hv : timesV F l = false := by simp [timesV, h2]
    rw [hv]; clear hv h hblk
    go_enter Try.func66, Try.ntmps66
    go_wp2
    go_ret
    exact ⟨rfl, hB⟩
  by_cases h3 : l.length ≤ 6
  case neg =>
    have hv : timesV F l = false := by simp [timesV, h3]
    rw [hv]; clear hv h hblk
    go_enter Try.func66, Try.ntmps66
    go_wp2
    go_ret
    exact ⟨rfl, hB⟩
  have Hv := Lib.hid (show timesV F l = !(l.any (timeBad F)) by simp [timesV, h1, h2, h3])
  go_enter Try.func66, Try.ntmps66
  go_wp2_with fail
  refine nameW fun W1 hW1 => ?_
  rw [← hW1] at hB hblk
  clear hW1
  go_loopw [3] (fun i wr => ∃ k : Nat, k ≤ l.length ∧ i = .int .i64 k ∧ Below w.heap.size w wr ∧ Blk wr w.heap.size 44 #[.string name, .int .i64 mem, .int .i64 F, .slice A l.length c] ∧ Hid (∀ j (h : j < l.length), j < k → timeBad F l[j] = false)) (fun i _ => l.length - (intOf i).toNat)
  case atStart => exact ⟨0, Nat.zero_le _, rfl, hB, hblk, fun j _ h => absurd h (by omega)⟩
  case round =>
    clear hB hblk
    obtain ⟨k, hk, rfl, hB, hbk, hall⟩ := hrel
    have q2 : wr.cell? ⟨w.heap.size, 2, none⟩ = some (.int .i64 F) := hbk.cell 2
    have q3 : wr.cell? ⟨w.heap.size, 3, none⟩ = some (.slice A l.length c) := hbk.cell 3
    by_cases hlt : k < l.length
    · obtain ⟨b, o, rfl, hb, hcp⟩ := h.keep hB (by omega)
      have hck := hcp k hlt
      have z0 := hbk.lt
      have hs := hB.size
      have Hno := Lib.hid (fun (hx : timeBad F l[k] = true) => show timesV F l = false by
        rw [Hv.out]
        have : l.any (timeBad F) = true := List.any_eq_true.2 ⟨l[k], List.getElem_mem hlt, hx⟩
        rw [this]; rfl)
      have Hyes := Lib.hid (fun (hx : timeBad F l[k] = false) => (forall_succ (p := fun r => timeBad F r = false) hall.out hx : ∀ j (h : j < l.length), j < k + 1 → timeBad F l[j] = false))
      clear hcp hall
      generalize l[k] = p at *
      have c0 := hck 0 _ rfl
      have c1 := hck 1 _ rfl
      have c2 := hck 2 _ rfl
      have c3 := hck 3 _ rfl
      have c4 := hck 4 _ rfl
      have c5 := hck 5 _ rfl
      have c6 := hck 6 _ rfl
      have c7 := hck 7 _ rfl
      have c8 := hck 8 _ rfl
      have c9 := hck 9 _ rfl
      rw [Nat.add_zero] at c0
      clear hck
      have hi0 : (0 : Int) ≤ (k : Int) := by omega
      have hi1 : (k : Int) < (l.length : Int) := by omega
      have hB2 := hB.alloc hs (.cells p.cells.toArray 53)
      have hbk2 := hbk.alloc (.cells p.cells.toArray 53)
      simp only [Part.cells] at hB2 hbk2
      by_cases a1 : p.period < 1
      · have Hf := Lib.hid (Hno.out (by simp [timeBad, a1]))
        clear Hno Hyes hbk2
        go_wp2
        go_ret
        exact ⟨ret_bool Hf.out.symm, hB2⟩
      · have a1' : 1 ≤ p.period := by omega
        have p0 : p.period ≠ 0 := by omega
        have e0 : 0 ≤ F % p.period := Int.emod_nonneg _ p0
        by_cases a2 : F % p.period = 0
        · have b2 : (F % p.period != 0) = false := by simp [a2]
          by_cases a3 : p.length < 1
          · have Hf := Lib.hid (Hno.out (by simp [timeBad, a3]))
            clear a2 Hno Hyes hbk2
            go_wp2
            go_ret
            exact ⟨ret_bool Hf.out.symm, hB2⟩
          · by_cases a4 : p.period < p.length
            · have Hf := Lib.hid (Hno.out (by simp [timeBad, a4]))
              clear a2 Hno Hyes hbk2
              go_wp2
              go_ret
              exact ⟨ret_bool Hf.out.symm, hB2⟩
            · have Hg := Lib.hid (Hyes.out (by simp [timeBad, a1, a2, a3, a4]))
              clear a2 Hno Hyes
              go_wp2
              go_roundw
              case rel => exact ⟨k + 1, by omega, by go_num, hB2, hbk2, Hg⟩
              case measure => simp [intOf]; omega
        · have b2 : (F % p.period != 0) = true := by simp [a2]
          have Hf := Lib.hid (Hno.out (by simp [timeBad, a2]))
          clear a2 Hno Hyes hbk2
          go_wp2
          go_ret
          exact ⟨ret_bool Hf.out.symm, hB2⟩
    · have Hf : Hid (timesV F l = true) := by
        show _ = _
        rw [Hv.out]
        have : l.any (timeBad F) = false := by
          rw [List.any_eq_false]
          intro x hx
          obtain ⟨j, hj, rfl⟩ := List.getElem_of_mem hx
          simp [hall.out j hj (by omega)]
        rw [this]; rfl
      clear hall
      go_wp2
      go_ret
      exact ⟨ret_bool Hf.out.symm, hB⟩

theorem nameX {Q : Exit → Act → World → Prop} {x : Exit} {a : Act} {w : World} (h : ∀ W0, W0 = w → Q x a W0) : Q x a w := h w rfl
set_option maxRecDepth 100000 in
set_option maxHeartbeats 4000000 in
theorem refSlots_c (name : ByteArray) (mem F : Int) (l : List Part) (A : Option Addr) (c : Nat) (os : List Int) (A' : Option Addr) (c' : Nat) (w : World) (h : RdPart w w.heap.size A l) (h' : RdInt w w.heap.size A' os) (hl : l.length ≤ 9223372036854775807) (hl' : os.length ≤ 9223372036854775807) :
    Calls Try.prog 49 #[.agg #[.string name, .int .i64 mem, .int .i64 F, .slice A l.length c], .slice A' os.length c'] w (RetSlots w (slotsV F l os)) := by
  have hB : Below w.heap.size w (w.alloc (.cells #[.string name, .int .i64 mem, .int .i64 F, .slice A l.length c] 44)) := (Below.refl _ w).alloc (Nat.le_refl _) _
  have hblk := Blk.new w 44 #[.string name, .int .i64 mem, .int .i64 F, .slice A l.length c]
  have ht := refTimes_c name mem F l A c _ (h.below hB) hl
  go_enter Try.func49, Try.ntmps49
  go_wp2_with fail
  refine ht.mono ?_
  clear ht
  cases hv : timesV F l with
  | false =>
    have Hs := Lib.hid (show slotsV F l os = ([], 2) by simp [slotsV, hv])
    clear hv h h'
    rintro e w1 ⟨rfl, hb1⟩
    have hB1 := hB.trans (hb1.mono hB.size)
    clear hB hblk hb1
    go_wp2
    go_ret2
    rw [Hs.out]
    exact retSlots_none hB1
  | true =>
    rintro e w1 ⟨rfl, hb1⟩
    have hB1 := hB.trans (hb1.mono hB.size)
    have hk1 := hblk.below hb1 hblk.lt
    have hz1 : w.heap.size + 1 ≤ w1.heap.size := by have := hb1.size; simpa using this
    clear hB hblk hb1
    have q3 : w1.cell? ⟨w.heap.size, 3, none⟩ = some (.slice A l.length c) := hk1.cell 3
    have hl6 : l.length ≤ 6 := by simp [timesV] at hv; omega
    by_cases hlen : os.length = l.length
    case neg =>
      have Hs := Lib.hid (show slotsV F l os = ([], 2) by simp [slotsV, hlen])
      have hne : ((os.length : Int) != (l.length : Int)) = true := by simp; omega
      clear hv h h' hlen
      go_wp2
      go_ret2
      rw [Hs.out]
      exact retSlots_none hB1
    have hne : ((os.length : Int) != (l.length : Int)) = false := by simp [hlen]
    have Hlen := Lib.hid hlen
    clear hlen
    have Hs := Lib.hid (show slotsV F l os = if (zipS os l).any (fun s => !validS s) then ([], 2) else (zipS os l, 0) by simp [slotsV, hv, Hlen.out])
    clear hv
    have hZ := Lib.hid (zipS_len os l Hlen.out)
    obtain ⟨i0, hi0, hz0, hz1', hz2⟩ := info_parts info23
    go_wp2_with fail
    clear q3
    go_loopw [6, 7] (fun v i wr => ∃ k : Nat, k ≤ l.length ∧ i = .int .i64 k ∧ Below w.heap.size w wr ∧ Blk wr w.heap.size 44 #[.string name, .int .i64 mem, .int .i64 F, .slice A l.length c] ∧ wr.ownsRow (w.heap.size + 1) 23 3 v k (((zipS os l).take k).flatMap (cellsG Slot.tri)) ∧ w.heap.size + 1 ≤ wr.heap.size ∧ Hid (∀ j (h : j < (zipS os l).length), j < k → validS (zipS os l)[j] = true)) (fun _ i _ => l.length - (intOf i).toNat)
    case atStart => exact ⟨0, Nat.zero_le _, rfl, hB1, hk1, World.ownsRow_nil _ _ _ _, hz1, fun j _ h => absurd h (by omega)⟩
    case round =>
      clear hB1 hk1 hz1
      obtain ⟨k, hk, rfl, hB, hbk, hown, hzr, hall⟩ := hrel
      by_cases hlt : k < l.length
      · have hlt' : k < os.length := by have := Hlen.out; omega
        obtain ⟨b, o, rfl, hb, hc⟩ := h.keep hB (by omega)
        obtain ⟨b', o', rfl, hb', hc'⟩ := h'.keep hB (by omega)
        have hck := hc k hlt
        have d0 := hc' k hlt'
        have hkz : k < (zipS os l).length := by rw [hZ.out]; exact hlt
        have hget := zipS_get os l k hkz hlt' hlt
        have Hget := Lib.hid hget
        have htk : Hid (((zipS os l).take (k + 1)).flatMap (cellsG Slot.tri) = ((zipS os l).take k).flatMap (cellsG Slot.tri) ++ [.int .i64 os[k], .int .i64 l[k].period, .int .i64 l[k].length]) := by
          show _ = _
          rw [List.take_succ_eq_append_getElem hkz, List.flatMap_append, hget]; rfl
        have hvd := fun W => refValid_c ⟨os[k], l[k].period, l[k].length⟩ W
        have Hno := Lib.hid (fun (hx : validS ⟨os[k], l[k].period, l[k].length⟩ = false) => show slotsV F l os = ([], 2) by
          rw [Hs.out, if_pos]
          exact List.any_eq_true.2 ⟨(zipS os l)[k], List.getElem_mem hkz, by rw [hget, hx]; rfl⟩)
        have Hyes := Lib.hid (fun (hx : validS ⟨os[k], l[k].period, l[k].length⟩ = true) => (forall_succ (p := fun r => validS r = true) hall.out (by rw [hget]; exact hx) : ∀ j (h : j < (zipS os l).length), j < k + 1 → validS (zipS os l)[j] = true))
        clear hc h hc' h' hget hall Hget
        simp only at hvd
        generalize l[k] = r at *
        generalize os[k] = ok at *
        have c1 := hck 1 _ rfl
        have c2 := hck 2 _ rfl
        clear hck
        have q3 : wr.cell? ⟨w.heap.size, 3, none⟩ = some (.slice (some ⟨b, o, none⟩) l.length c) := hbk.cell 3
        have hi0' : (0 : Int) ≤ (k : Int) := by omega
        have hi1 : (k : Int) < (l.length : Int) := by omega
        have hi2 : (k : Int) < (os.length : Int) := by omega
        go_wp2_with fail
        go_region_held3 (fun w' => w'.cell? ⟨b', o' + k, none⟩ = some (.int .i64 ok) ∧ w'.cell? ⟨w.heap.size, 3, none⟩ = some (.slice (some ⟨b, o, none⟩) l.length c) ∧ w'.cell? ⟨b, o + k * 10 + 1, none⟩ = some (.int .i64 r.period) ∧ w'.cell? ⟨b, o + k * 10 + 2, none⟩ = some (.int .i64 r.length)) (go_keep) (fail)
        clear c1 c2 d0 q3
        have hbx : Blk (wr.alloc (.cells #[.int .i64 ok, .int .i64 r.period, .int .i64 r.length] 23)).drew wr.heap.size 23 #[.int .i64 ok, .int .i64 r.period, .int .i64 r.length] := Blk.new wr 23 _
        have hB2 : Below w.heap.size w (wr.alloc (.cells #[.int .i64 ok, .int .i64 r.period, .int .i64 r.length] 23)).drew := (hB.alloc hB.size _).drew
        have hbk2 : Blk (wr.alloc (.cells #[.int .i64 ok, .int .i64 r.period, .int .i64 r.length] 23)).drew w.heap.size 44 #[.string name, .int .i64 mem, .int .i64 F, .slice (some ⟨b, o, none⟩) l.length c] := hbk.alloc _
        have hown2 : (wr.alloc (.cells #[.int .i64 ok, .int .i64 r.period, .int .i64 r.length] 23)).drew.ownsRow (w.heap.size + 1) 23 3 u6 k (((zipS os l).take k).flatMap (cellsG Slot.tri)) := (hown.alloc _).drew
        have hz2' : w.heap.size + 1 ≤ (wr.alloc (.cells #[.int .i64 ok, .int .i64 r.period, .int .i64 r.length] 23)).drew.heap.size := by show _ ≤ (wr.alloc _).heap.size; simp; omega
        refine nameX fun W2 hW2 => ?_
        rw [← hW2] at hbx hB2 hbk2 hown2 hz2'
        clear hW2 hown hB hbk
        generalize wr.heap.size = Bx at hbx ⊢
        have e0 : W2.cell? ⟨Bx, 0, none⟩ = some (.int .i64 ok) := hbx.cell 0
        have e1 : W2.cell? ⟨Bx, 1, none⟩ = some (.int .i64 r.period) := hbx.cell 1
        have e2 : W2.cell? ⟨Bx, 2, none⟩ = some (.int .i64 r.length) := hbx.cell 2
        go_wp2_with fail
        refine (hvd W2).mono ?_
        cases hx : validS ⟨ok, r.period, r.length⟩ with
        | false =>
          rintro e W3 ⟨rfl, hb3⟩
          have hB3 := hB2.trans (hb3.mono hB2.size)
          have Hf := Lib.hid (Hno.out hx)
          clear hx Hno Hyes hvd hB2 hbk2 hown2 hb3 e0 e1 e2
          go_wp2
          go_ret2
          rw [Hf.out]
          exact retSlots_none hB3
        | true =>
          rintro e W3 ⟨rfl, hb3⟩
          have hB3 := hB2.trans (hb3.mono hB2.size)
          have hbk3 := hbk2.below hb3 hbk2.lt
          have hbx3 := hbx.below hb3 hbx.lt
          have hz3 : w.heap.size + 1 ≤ W3.heap.size := Nat.le_trans hz2' hb3.size
          have hown3 : W3.ownsRow (w.heap.size + 1) 23 3 u6 k (((zipS os l).take k).flatMap (cellsG Slot.tri)) := hown2.kept (only_of_below hb3 none) (by
            rcases hown2.2 with ⟨h0, _⟩ | ⟨g, cap, cur, h0, _⟩
            · left; rw [h0]; rfl
            · right; rw [h0]; simp [Value.ownBlock])
          have Hg := Lib.hid (Hyes.out hx)
          clear hx Hno Hyes hvd hB2 hbk2 hown2 hb3 e0 e1 e2 hbx
          have e0 : W3.cell? ⟨Bx, 0, none⟩ = some (.int .i64 ok) := hbx3.cell 0
          have e1 : W3.cell? ⟨Bx, 1, none⟩ = some (.int .i64 r.period) := hbx3.cell 1
          have e2 : W3.cell? ⟨Bx, 2, none⟩ = some (.int .i64 r.length) := hbx3.cell 2
          have z3 := hbx3.lt
          go_wp2_with (at_builtin; refine wpList_append_own _ rfl _ _ 56 rfl (w.heap.size + 1) 23 i0 (.agg #[.int .i64 0, .int .i64 0, .int .i64 0]) 3 24 Try.underlying56 hi0 hz0 hz1' hz2 rfl (by decide) _ _ _ rfl (hown3.alloc _) ⟨W3.heap.size, 0, none⟩ 1 1 [.int .i64 ok, .int .i64 r.period, .int .i64 r.length] rfl rfl ?c1 ?c2 ?c3 ?c4 ?c5 ?_)
          case c1 => exact World.news_of_block (cs := #[.int .i64 ok, .int .i64 r.period, .int .i64 r.length]) (t := 23) (fr := (0, 0)) (heap_alloc_new W3 _)
          case c2 => simp [Value.oneCell']
          case c3 => unfold maxLen; omega
          case c4 => omega
          case c5 => simp; omega
          intro v4 w4 hown4 hgrow4 _
          have hB4 : Below w.heap.size w w4 := (hB3.alloc hB3.size _).grown hgrow4 (by simp; omega) (fun g hg => by have := (hown3.lt g hg).1; omega)
          have hbk4 := (hbk3.alloc (.cells #[.int .i64 ok, .int .i64 r.period, .int .i64 r.length] 23)).grown hgrow4 (fun e => by have := (hown3.lt _ e.symm).1; omega)
          have hz4 : w.heap.size + 1 ≤ w4.heap.size := by have := hgrow4.size; simp at this; omega
          rw [← htk.out] at hown4
          have Hown4 := Lib.hid hown4
          clear hown4 hgrow4 hown3 hB3 hbk3 hz3 hbx3 e0 e1 e2
          go_wp2
          go_roundw
          case rel => exact ⟨k + 1, by omega, by go_num, hB4, hbk4, Hown4.out, hz4, Hg⟩
          case measure => simp [intOf]; omega
      · obtain rfl : k = l.length := by omega
        rw [List.take_of_length_le (by rw [hZ.out]; exact Nat.le_refl _)] at hown
        obtain ⟨A2, c2, rfl, hrd⟩ := RdG.of_own (f := Slot.tri) hZ.out.symm hown
        have Hf : Hid (slotsV F l os = (zipS os l, 0)) := by
          show _ = _
          rw [Hs.out, if_neg]
          rw [Bool.not_eq_true, List.any_eq_false]
          intro x hx
          obtain ⟨j, hj, rfl⟩ := List.getElem_of_mem hx
          simp [hall.out j hj (by rw [hZ.out] at hj; exact hj)]
        have hge : ¬ (l.length : Int) < (os.length : Int) := by have := Hlen.out; omega
        have hge2 : decide ((l.length : Int) < (os.length : Int)) = false := decide_eq_false hge
        have hge3 : decide (l.length < os.length) = false := decide_eq_false (by omega)
        clear hown h h' hall hbk
        go_wp2
        go_ret2
        rw [Hf.out]
        exact ⟨A2, c2, by simp [hZ.out], hrd, hB⟩
end Go.Proofs.Ytlmbffnmjfbglaa
