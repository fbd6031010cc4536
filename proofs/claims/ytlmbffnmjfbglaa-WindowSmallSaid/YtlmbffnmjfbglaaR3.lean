/- The reference's Fits. -/
import Derived.Test.YtlmbffnmjfbglaaR2
namespace Go.Proofs.Ytlmbffnmjfbglaa
open Go.ChangeShapes Go.WideShapes Go.ChangeAt Go.RowKit

/-- what the search from the end has found, down to place k. -/
def offFrom (tb : List Win) (i k : Nat) : Int := match (tb.drop k).find? (partB i) with | some x => x.start | none => -1
theorem offFrom_end (tb : List Win) (i : Nat) : offFrom tb i tb.length = -1 := by simp [offFrom]
theorem offFrom_zero (tb : List Win) (i : Nat) : offFrom tb i 0 = refOff tb i := by unfold offFrom refOff; rw [List.drop_zero]; cases tb.find? (partB i) <;> rfl
theorem offFrom_step (tb : List Win) (i k : Nat) (h : k < tb.length) : offFrom tb i k = if partB i tb[k] then tb[k].start else offFrom tb i (k + 1) := by
  unfold offFrom
  rw [List.drop_eq_getElem_cons h, List.find?_cons]
  cases partB i tb[k] <;> simp
/-- the offsets of the first k partitions. -/
def offsTo (tb : List Win) (k : Nat) : List Int := (List.range k).map (refOff tb)
theorem offsTo_succ (tb : List Win) (k : Nat) : offsTo tb (k + 1) = offsTo tb k ++ [refOff tb k] := by simp [offsTo, List.range_succ]
theorem offsTo_len (tb : List Win) (k : Nat) : (offsTo tb k).length = k := by simp [offsTo]

set_option maxRecDepth 100000 in
set_option maxHeartbeats 4000000 in
theorem refFits_c (name : ByteArray) (mem F : Int) (ps : List Part) (A : Option Addr) (c : Nat) (tb : List Win) (A' : Option Addr) (c' : Nat) (w : World) (h : RdPart w w.heap.size A ps) (h' : RdG Win.tri w w.heap.size A' tb) (hl : ps.length * 8 ≤ 140737488355328) (hl' : tb.length ≤ 100000) :
    Calls Try.prog 51 #[.agg #[.string name, .int .i64 mem, .int .i64 F, .slice A ps.length c], .slice A' tb.length c'] w fun e w' => e = .returned (.bool (fitsV F ps tb)) ∧ Below w.heap.size w w' := by
  have hB : Below w.heap.size w (w.alloc (.cells #[.string name, .int .i64 mem, .int .i64 F, .slice A ps.length c] 44)) := (Below.refl _ w).alloc (Nat.le_refl _) _
  have hblk := Blk.new w 44 #[.string name, .int .i64 mem, .int .i64 F, .slice A ps.length c]
  obtain ⟨i0, hi0, hz0, hz1, hz2⟩ := info_parts info3
  rw [← refFits_eq]
  go_enter Try.func51, Try.ntmps51
  go_wp2_with fail
  refine nameW fun W1 hW1 => ?_
  rw [← hW1] at hB hblk
  have hs1 : w.heap.size + 1 ≤ W1.heap.size := by subst hW1; simp
  clear hW1
  go_loopw [5, 6] (fun v i wr => ∃ k : Nat, k ≤ ps.length ∧ i = .int .i64 k ∧ Below w.heap.size w wr ∧ w.heap.size + 1 ≤ wr.heap.size ∧ Blk wr w.heap.size 44 #[.string name, .int .i64 mem, .int .i64 F, .slice A ps.length c] ∧ wr.ownsRow (w.heap.size + 1) 3 1 v k ((offsTo tb k).map (Value.int .i64))) (fun _ i _ => ps.length - (intOf i).toNat)
  case atStart => exact ⟨0, Nat.zero_le _, rfl, hB, hs1, hblk, World.ownsRow_nil _ _ _ _⟩
  case round =>
    clear hB hblk hs1
    obtain ⟨k, hk, rfl, hB, hs, hbk, hown⟩ := hrel
    have q3 : wr.cell? ⟨w.heap.size, 3, none⟩ = some (.slice A ps.length c) := hbk.cell 3
    have hkk : (k : Int) ≤ 17592186044416 := by omega
    by_cases hlt : k < ps.length
    · go_wp2_with fail
      clear q3
      go_loop [7, 8] (fun v j => ∃ (n : Nat) (z : Int), n ≤ tb.length ∧ z + 1 = n ∧ j = .int .i64 z ∧ v = .int .i64 (offFrom tb k n)) (fun _ j => (intOf j + 1).toNat)
      case atStart => exact ⟨tb.length, (tb.length : Int) - 1, Nat.le_refl _, by omega, rfl, by rw [offFrom_end]⟩
      case round =>
        obtain ⟨n, z, hn, hz, rfl, rfl⟩ := hrel
        by_cases hz0' : 0 ≤ z
        · obtain ⟨j, rfl⟩ := Int.eq_ofNat_of_zero_le hz0'
          obtain rfl : n = j + 1 := by omega
          obtain ⟨b, o, rfl, hb, hcc⟩ := h'.keep hB (by omega)
          obtain ⟨c0, c1, _⟩ := hcc j (by omega)
          change _ = some (Value.int .i64 (tb[j]'(by omega)).part) at c0
          change _ = some (Value.int .i64 (tb[j]'(by omega)).start) at c1
          have hst := offFrom_step tb k j (by omega)
          have hj0 : (0 : Int) ≤ (j : Int) := by omega
          have hj1 : (j : Int) < (tb.length : Int) := by omega
          clear hcc
          cases hpb : partB k (tb[j]'(by omega)) with
          | true =>
            have ht : ((tb[j]'(by omega)).part == (k : Int)) = true := hpb
            rw [hpb] at hst
            have Hst := Lib.hid (show offFrom tb k j = (tb[j]'(by omega)).start by rw [hst]; rfl)
            clear hst hpb
            generalize tb[j]'(by omega) = x at *
            go_wp2
            go_round
            case rel => exact ⟨j, (j : Int) - 1, by omega, by omega, rfl, by rw [Hst.out]⟩
            case measure => simp [intOf]
          | false =>
            have ht : ((tb[j]'(by omega)).part == (k : Int)) = false := hpb
            rw [hpb] at hst
            have Hst := Lib.hid (show offFrom tb k j = offFrom tb k (j + 1) by rw [hst]; rfl)
            clear hst hpb
            generalize tb[j]'(by omega) = x at *
            go_wp2
            go_round
            case rel => exact ⟨j, (j : Int) - 1, by omega, by omega, rfl, by rw [Hst.out]⟩
            case measure => simp [intOf]
        · obtain rfl : n = 0 := by omega
          have Hoff := Lib.hid (offFrom_zero tb k)
          rw [offFrom_zero]
          have hge : decide (0 ≤ z) = false := decide_eq_false hz0'
          have htk := Lib.hid (offsTo_succ tb k)
          generalize refOff tb k = x at *
          go_wp2_with (at_builtin; refine wpList_append_own _ rfl _ _ 45 rfl (w.heap.size + 1) 3 i0 (.int .i64 0) 1 8 Try.underlying45 hi0 hz0 hz1 hz2 rfl (by decide) _ _ _ rfl (hown.alloc _) ⟨wr.heap.size, 0, none⟩ 1 1 [.int .i64 x] rfl rfl ?c1 ?c2 ?c3 ?c4 ?c5 ?_)
          case c2 => simp [Value.oneCell']
          case c3 => unfold maxLen; omega
          case c4 => omega
          case c5 => first | omega | (simp; omega)
          intro v4 w4 hown4 hgrow4 _
          have hB4 : Below w.heap.size w w4 := (hB.alloc hB.size _).grown hgrow4 (by simp; omega) (fun g hg => by have := (hown.lt g hg).1; omega)
          have hbk4 := (hbk.alloc (.cells #[.int .i64 x] 3)).grown hgrow4 (fun e => by have := (hown.lt _ e.symm).1; omega)
          have hs4 : w.heap.size + 1 ≤ w4.heap.size := by have := hgrow4.size; simp at this; omega
          have hown5 : w4.ownsRow (w.heap.size + 1) 3 1 v4 (k + 1) ((offsTo tb (k + 1)).map (Value.int .i64)) := by
            rw [htk.out, List.map_append]; exact hown4
          have Hown5 := Lib.hid hown5
          clear hown4 hgrow4 hown hB hbk hs hown5
          go_wp2
          go_roundw
          case rel => exact ⟨k + 1, by omega, by go_num, hB4, hs4, hbk4, Hown5.out⟩
          case measure => simp [intOf]; omega
    · obtain rfl : k = ps.length := by omega
      have Hv := Lib.hid (show refFitsV F ps tb = (decide ((tableF F ps (offsTo tb ps.length)).2 = 0) && sameWin (tableF F ps (offsTo tb ps.length)).1 tb) from rfl)
      have hol := offsTo_len tb ps.length
      generalize offsTo tb ps.length = os at *
      obtain ⟨A2, c2, rfl, hrd⟩ := RdInt.of_own hol.symm hown
      have ht := refTable_c name mem F ps A c os A2 c2 wr ((h.keep hB).more hB.size) hrd (by omega) (by omega)
      rw [hol] at ht
      have q0 : wr.cell? ⟨w.heap.size, 0, none⟩ = some (.string name) := hbk.cell 0
      have q1 : wr.cell? ⟨w.heap.size, 1, none⟩ = some (.int .i64 mem) := hbk.cell 1
      have q2 : wr.cell? ⟨w.heap.size, 2, none⟩ = some (.int .i64 F) := hbk.cell 2
      clear hol hown hrd h hbk hs
      go_wp2_with fail
      refine ht.mono ?_
      rintro e W2 ⟨A3, c3, rfl, hrd, hb2⟩
      have hB2 := hB.trans (hb2.mono hB.size)
      have hlen := tableF_len F ps os
      clear ht hb2 q0 q1 q2 q3
      generalize tableF F ps os = qq at *
      obtain ⟨qa, qb⟩ := qq
      simp only at *
      by_cases h0 : qb = 0
      case neg =>
        have h1 : (qb != 0) = true := by simpa using h0
        have Hf : Hid (refFitsV F ps tb = false) := by
          show _ = _
          rw [Hv.out, decide_eq_false h0]; rfl
        clear Hv h0 hrd h'
        go_wp2
        go_ret
        exact ⟨ret_bool Hf.out.symm, hB2⟩
      subst h0
      by_cases hlq : qa.length = tb.length
      case neg =>
        have h1 : ((qa.length : Int) != (tb.length : Int)) = true := by simp; omega
        have Hf : Hid (refFitsV F ps tb = false) := by
          show _ = _
          rw [Hv.out]
          cases e : sameWin qa tb with
          | false => rfl
          | true => rw [sameWin_iff] at e; rw [e] at hlq; exact absurd rfl hlq
        clear Hv hlq hrd h'
        go_wp2
        go_ret
        exact ⟨ret_bool Hf.out.symm, hB2⟩
      have h1 : ((qa.length : Int) != (tb.length : Int)) = false := by simp [hlq]
      have Hlq := Lib.hid hlq
      have Hv2 := Lib.hid (show refFitsV F ps tb = sameWin qa tb by rw [Hv.out]; simp)
      clear Hv hlq
      go_wp2_with fail
      have hrd2 := (h'.keep hB2).more hB2.size
      clear h' h1
      go_loopw [11] (fun i wr => ∃ k : Nat, k ≤ qa.length ∧ i = .int .i64 k ∧ Below W2.heap.size W2 wr ∧ Hid (∀ j (h : j < qa.length) (h' : j < tb.length), j < k → qa[j].eqB tb[j] = true)) (fun i _ => qa.length - (intOf i).toNat)
      case atStart => exact ⟨0, Nat.zero_le _, rfl, Below.refl _ _, fun j _ _ h => absurd h (by omega)⟩
      case round =>
        obtain ⟨k, hk, rfl, hB3, hall⟩ := hrel
        by_cases hlt : k < qa.length
        · have hltm : k < tb.length := by have := Hlq.out; omega
          obtain ⟨b, o, rfl, hb, hc⟩ := hrd.keep hB3 (by omega)
          obtain ⟨c0, c1, c2⟩ := hc k hlt
          obtain ⟨b', o', rfl, hb', hc'⟩ := hrd2.keep hB3 (by omega)
          obtain ⟨d0, d1, d2⟩ := hc' k hltm
          change _ = some (Value.int .i64 qa[k].part) at c0
          change _ = some (Value.int .i64 qa[k].start) at c1
          change _ = some (Value.int .i64 qa[k].len) at c2
          change _ = some (Value.int .i64 tb[k].part) at d0
          change _ = some (Value.int .i64 tb[k].start) at d1
          change _ = some (Value.int .i64 tb[k].len) at d2
          clear hc hrd hc' hrd2
          have hi0 : (0 : Int) ≤ (k : Int) := by omega
          have hi1 : (k : Int) < (qa.length : Int) := by omega
          have hi2 : (k : Int) < (tb.length : Int) := by omega
          have hneq := fun W => neq_Win qa[k] tb[k] W
          have hgd := guard_Win
          cases hq : qa[k].eqB tb[k] with
          | true =>
            have Hnext : Hid (∀ j (h : j < qa.length) (h' : j < tb.length), j < k + 1 → qa[j].eqB tb[j] = true) := fun j hj hj' hjk => by
              by_cases e : j = k
              · subst e; exact hq
              · exact hall.out j hj hj' (by omega)
            clear hall
            rw [hq] at hneq
            generalize qa[k] = r at c0 c1 c2 hneq
            generalize tb[k] = s at d0 d1 d2 hneq
            clear hq
            go_wp2
            go_quiet (fail)
            go_wp2
            go_roundw
            case rel => exact ⟨k + 1, by omega, by go_num, below_drewN hB3 _, Hnext⟩
            case measure => simp [intOf]; omega
          | false =>
            have Hno := Lib.hid (sameWin_no hq)
            clear hall
            rw [hq] at hneq
            generalize qa[k] = r at c0 c1 c2 hneq
            generalize tb[k] = s at d0 d1 d2 hneq
            clear hq
            have hBf := hB2.trans (hB3.mono hB2.size)
            go_wp2
            go_quiet (fail)
            go_wp2
            go_ret
            exact ⟨ret_bool (by rw [Hv2.out, Hno.out]), below_drewN hBf _⟩
        · have Hyes := Lib.hid (sameWin_yes Hlq.out fun j h h' => hall.out j h h' (by omega))
          have hBf := hB2.trans (hB3.mono hB2.size)
          clear hall
          go_wp2
          go_ret
          exact ⟨ret_bool (by rw [Hv2.out, Hyes.out]), hBf⟩
end Go.Proofs.Ytlmbffnmjfbglaa
