/- The contract of the reference's Layout. -/
import Derived.Test.YtjgmdchlgabflaaA5
namespace Go.Proofs.Ytjgmdchlgabflaa
open Go.ChangeShapes Go.WideShapes Go.ChangeAt Go.RowKit

theorem layV_bad {mem : Int} {ms : List Int} (h : ¬ (0 ≤ mem ∧ mem ≤ 4096 ∧ ms.length ≤ 6)) : layV mem ms = ([], 2) := by
  have : (sizeB mem && decide (ms.length ≤ 6) && ms.all sizeB) = false := by
    cases e : (sizeB mem && decide (ms.length ≤ 6) && ms.all sizeB) with
    | false => rfl
    | true =>
      simp only [sizeB, Bool.and_eq_true, decide_eq_true_eq] at e
      exact absurd ⟨e.1.1.1, e.1.1.2, e.1.2⟩ h
  unfold layV
  rw [this]; rfl
theorem layV_badm {mem : Int} {ms : List Int} {k : Nat} (hk : k < ms.length) (h : ¬ (0 ≤ ms[k] ∧ ms[k] ≤ 4096)) : layV mem ms = ([], 2) := by
  have : ms.all sizeB = false := by
    rw [List.all_eq_false]
    exact ⟨ms[k], List.getElem_mem hk, by simp only [sizeB, Bool.and_eq_true, decide_eq_true_eq]; exact h⟩
  unfold layV
  rw [this, Bool.and_false]; rfl
theorem layV_good {mem : Int} {ms : List Int} (h : 0 ≤ mem ∧ mem ≤ 4096 ∧ ms.length ≤ 6) (ha : ∀ m ∈ ms, 0 ≤ m ∧ m ≤ 4096) : layV mem ms = if mem < (layTo ms ms.length).2 then ([], 4) else ((layTo ms ms.length).1, 0) := by
  have : (sizeB mem && decide (ms.length ≤ 6) && ms.all sizeB) = true := by
    simp only [sizeB, Bool.and_eq_true, decide_eq_true_eq, List.all_eq_true]
    exact ⟨⟨⟨h.1, h.2.1⟩, h.2.2⟩, ha⟩
  unfold layV
  rw [this]; rfl

set_option maxRecDepth 100000 in
set_option maxHeartbeats 2000000 in
theorem refLayout_c (name : ByteArray) (mem frame : Int) (l : List Part) (A : Option Addr) (c : Nat) (w : World) (h : RdPart w w.heap.size A l) (hl : l.length ≤ 4611686018427387904) :
    Calls Try.prog 39 #[.agg #[.string name, .int .i64 mem, .int .i64 frame, .slice A l.length c]] w (RetRegs w (layV mem (l.map Part.mem))) := by
  have hW1 : Below w.heap.size w (w.alloc (.cells #[.string name, .int .i64 mem, .int .i64 frame, .slice A l.length c] 33)) := (Below.refl _ w).alloc (Nat.le_refl _) _
  generalize hms : l.map Part.mem = ms
  have hlen : Hid (ms.length = l.length) := by rw [← hms]; simp [Hid]
  have hgetm : Hid (∀ k (hk : k < l.length), ∃ hk' : k < ms.length, ms[k] = l[k].mem) := fun k hk => ⟨by have := hlen.out; omega, by subst hms; simp⟩
  clear hms
  by_cases b1 : mem < 0
  · have hv := Lib.hid (layV_bad (mem := mem) (ms := ms) (by omega))
    clear h
    go_enter Try.func39, Try.ntmps39
    go_wp2
    go_ret2
    rw [hv.out]
    exact retRegs_none hW1
  by_cases b2 : 4096 < mem
  · have hv := Lib.hid (layV_bad (mem := mem) (ms := ms) (by omega))
    clear h
    go_enter Try.func39, Try.ntmps39
    go_wp2
    go_ret2
    rw [hv.out]
    exact retRegs_none hW1
  by_cases b3 : 6 < l.length
  · have hv := Lib.hid (layV_bad (mem := mem) (ms := ms) (by have := hlen.out; omega))
    have b3' : (6 : Int) < (l.length : Int) := by omega
    clear h
    go_enter Try.func39, Try.ntmps39
    go_wp2
    go_ret2
    rw [hv.out]
    exact retRegs_none hW1
  have hm0 : 0 ≤ mem := by omega
  have hm1 : mem ≤ 4096 := by omega
  have hl6 : (l.length : Int) ≤ 6 := by omega
  have hl6' : l.length ≤ 6 := by omega
  have hlen6 : ms.length ≤ 6 := by have := hlen.out; omega
  clear b1 b2 b3
  obtain ⟨i0, hi0, hz0, hz1, hz2⟩ := info_parts info42
  have hb0 := Blk.new w 33 #[.string name, .int .i64 mem, .int .i64 frame, .slice A l.length c]
  have h1 := h.below hW1
  clear h
  go_enter Try.func39, Try.ntmps39
  go_wp2
  refine nameW fun W0 hW0 => ?_
  rw [← hW0] at hW1 hb0 h1
  clear hW0
  have q1 := hb0.cell 1
  have q3 := hb0.cell 3
  simp at q1 q3
  have hlt0 := hb0.lt
  go_loop [4] (fun i => ∃ k : Nat, k ≤ l.length ∧ i = .int .i64 k ∧ Hid (∀ j (h : j < ms.length), j < k → 0 ≤ ms[j] ∧ ms[j] ≤ 4096)) (fun i => l.length - (intOf i).toNat)
  case atStart => exact ⟨0, Nat.zero_le _, rfl, fun j _ h => absurd h (by omega)⟩
  case round =>
    obtain ⟨k, hk, rfl, hall⟩ := hrel
    by_cases hlt : k < l.length
    · obtain ⟨b, o, rfl, hb, hc⟩ := h1 (by omega)
      have c3 := hc k hlt 3 _ rfl
      obtain ⟨hkm, hkg⟩ := hgetm.out k hlt
      rw [← hkg] at c3
      clear hc h1
      have hnext : (0 ≤ ms[k] ∧ ms[k] ≤ 4096) → ∀ j (h : j < ms.length), j < k + 1 → 0 ≤ ms[j] ∧ ms[j] ≤ 4096 := fun hok => forall_succ (p := fun m : Int => 0 ≤ m ∧ m ≤ 4096) hall.out hok
      have hbad : ¬ (0 ≤ ms[k] ∧ ms[k] ≤ 4096) → layV mem ms = ([], 2) := layV_badm hkm
      have Hnext := Lib.hid hnext
      have Hbad := Lib.hid hbad
      clear hnext hbad hall hkg
      generalize ms[k] = m at c3 Hnext Hbad
      by_cases m1 : m < 0
      · have hv := Lib.hid (Hbad.out (by omega))
        go_wp2
        go_ret2
        rw [hv.out]
        exact retRegs_none hW1
      by_cases m2 : 4096 < m
      · have hv := Lib.hid (Hbad.out (by omega))
        go_wp2
        go_ret2
        rw [hv.out]
        exact retRegs_none hW1
      have m1' : 0 ≤ m := by omega
      have m2' : m ≤ 4096 := by omega
      clear m1 m2
      go_wp2
      go_round
      case rel => exact ⟨k + 1, by omega, by go_num, Hnext.out ⟨m1', m2'⟩⟩
      case measure => simp [intOf]; omega
    · have hok : ∀ m ∈ ms, 0 ≤ m ∧ m ≤ 4096 := fun m hm => by
        obtain ⟨j, hj, rfl⟩ := List.getElem_of_mem hm
        exact hall.out j hj (by have := hlen.out; omega)
      have Hv := Lib.hid (layV_good (mem := mem) (ms := ms) ⟨hm0, hm1, hlen6⟩ hok)
      have Hok := Lib.hid hok
      clear hok hall
      go_wp2
      go_loopw [5, 6, 7, 8] (fun v e i _ wr => ∃ k : Nat, k ≤ l.length ∧ i = .int .i64 k ∧ e = .int .i64 (layTo ms k).2 ∧ wr.ownsRow W0.heap.size 42 3 v k ((layTo ms k).1.flatMap Reg.cells) ∧ Below W0.heap.size W0 wr) (fun _ _ i _ _ => l.length - (intOf i).toNat)
      case atStart => exact ⟨0, Nat.zero_le _, rfl, rfl, World.ownsRow_nil _ _ _ _, Below.refl _ _⟩
      case round =>
        obtain ⟨k, hk, rfl, rfl, hown, hB⟩ := hrel
        have e1 := (hB.cell (p := ⟨w.heap.size, 1, none⟩) hlt0).trans q1
        have e3 := (hB.cell (p := ⟨w.heap.size, 3, none⟩) hlt0).trans q3
        by_cases hlt : k < l.length
        · obtain ⟨b, o, rfl, hb, hc⟩ := (h1.keep hB) (by omega)
          obtain ⟨hkm, hkg⟩ := hgetm.out k hlt
          have c3 := hc k hlt 3 _ rfl
          have hbd1 := layTo_bd ms Hok.out k (by omega)
          have hbd2 := Hok.out _ (List.getElem_mem hkm)
          have hlen1 := layTo_len ms k (by omega)
          have hsucc := layTo_succ ms k hkm
          rw [hkg] at hbd2 hsucc
          unfold layStep at hsucc
          have Hsucc := Lib.hid hsucc
          have Hlen1 := Lib.hid hlen1
          clear hc h1 hlen1 hsucc hkm hkg
          generalize l[k].mem = r at c3 hbd2 Hsucc
          generalize layTo ms k = st at hown hbd1 Hsucc Hlen1 ⊢
          obtain ⟨rs, en⟩ := st
          simp only at hown hbd1 Hsucc Hlen1 ⊢
          obtain ⟨hbd1, hbd1'⟩ := hbd1
          obtain ⟨hbd2, hbd2'⟩ := hbd2
          have hz1' := hB.size
          go_wp2
          go_loop [8] (fun b => ∃ x : Int, en ≤ x ∧ x ≤ (en + 8 - 1) / 8 * 8 ∧ b = .int .i64 x) (fun b => ((en + 8 - 1) / 8 * 8 - intOf b).toNat)
          case atStart => exact ⟨en, by omega, by omega, rfl⟩
          case round =>
            obtain ⟨x, hx0, hx1, rfl⟩ := hrel
            by_cases hx8 : x % 8 = 0
            · have hx : x = (en + 8 - 1) / 8 * 8 := by omega
              have g8 : (x % 8 != 0) = false := by simp [hx8]
              have Hx := Lib.hid hx
              clear hx hx8
              have hx2 : x ≤ en + 7 := by omega
              go_wp2_with (at_builtin; refine wpList_append_own _ rfl _ _ 22 rfl W0.heap.size 42 i0 (.agg #[.int .i64 0, .int .i64 0, .int .i64 0]) 3 24 Try.underlying22 hi0 hz0 hz1 hz2 rfl (by decide) _ _ _ rfl (hown.alloc _) ⟨wr.heap.size, 0, none⟩ 1 1 [.int .i64 k, .int .i64 x, .int .i64 r] rfl rfl ?c1 ?c2 ?c3 ?c4 ?c5 ?_)
              case c2 => simp [Value.oneCell']
              case c3 => unfold maxLen; omega
              case c4 => omega
              case c5 => omega
              intro v' w2 hown2 hgrow _
              have hne : ∀ g, u5.ownBlock = some g → W0.heap.size ≤ g ∧ g < wr.heap.size := fun g hg => hown.lt g hg
              have hB2 : Below W0.heap.size W0 w2 := (hB.alloc hz1' _).grown hgrow (by simp; omega) (fun g hg => (hne g hg).1)
              have d1 := (hB2.cell (p := ⟨w.heap.size, 1, none⟩) hlt0).trans q1
              have d3 := (hB2.cell (p := ⟨w.heap.size, 3, none⟩) hlt0).trans q3
              have hbw : b < W0.heap.size := hb
              have c3' : w2.cell? ⟨b, o + k * 10 + 3, none⟩ = some (.int .i64 r) := (hB2.cell (p := ⟨b, _, none⟩) hbw).trans ((hB.cell (p := ⟨b, _, none⟩) hbw).symm.trans c3)
              have Hown2 := Lib.hid hown2
              clear hgrow hne hown c3 e1 e3 hown2
              go_wp2
              go_roundw
              case rel =>
                refine ⟨k + 1, by omega, by go_num, ?_, ?_, hB2⟩
                · rw [Hsucc.out, Hx.out]
                · rw [Hsucc.out]
                  have e : List.flatMap Reg.cells (rs ++ [{ part := (rs.length : Int), base := (en + 8 - 1) / 8 * 8, size := r }]) = List.flatMap Reg.cells rs ++ [.int .i64 k, .int .i64 x, .int .i64 r] := by
                    rw [List.flatMap_append, Hlen1.out, Hx.out]; rfl
                  rw [e]
                  exact Hown2.out
              case measure => simp [intOf]; omega
            · have g8 : (x % 8 != 0) = true := by simp [hx8]
              have hx2 : x + 1 ≤ (en + 8 - 1) / 8 * 8 := by omega
              have hx3 : x ≤ 100000 := by omega
              clear hx8
              go_wp2
              go_round
              case rel => exact ⟨x + 1, by omega, hx2, rfl⟩
              case measure => simp [intOf]; omega
        · obtain rfl : k = l.length := by omega
          have hfl : layTo ms l.length = layTo ms ms.length := by rw [hlen.out]
          have hlen1 := layTo_len ms ms.length (Nat.le_refl _)
          rw [hfl] at hown ⊢
          have hB' := hW1.trans (hB.mono hW1.size)
          by_cases hend : mem < (layTo ms ms.length).2
          · have hv2 : layV mem ms = ([], 4) := by rw [Hv.out, if_pos hend]
            have Hv2 := Lib.hid hv2
            clear hv2 Hv hown hlen1 hfl
            generalize (layTo ms ms.length).2 = en at hend
            go_wp2
            go_ret2
            rw [Hv2.out]
            exact retRegs_none hB'
          · have hv2 : layV mem ms = ((layTo ms ms.length).1, 0) := by rw [Hv.out, if_neg hend]
            have Hv2 := Lib.hid hv2
            have Hlen1 := Lib.hid hlen1
            clear hv2 Hv hlen1 hfl
            have hex := RdReg.of_own (show l.length = (layTo ms ms.length).1.length by rw [Hlen1.out, hlen.out]) hown
            obtain ⟨A2, c2, hv, hrd⟩ := hex
            clear hown
            rw [hv]
            clear hv
            have Hl : Hid (l.length = (layTo ms ms.length).1.length) := by rw [Hid, Hlen1.out, hlen.out]
            generalize layTo ms ms.length = st at *
            obtain ⟨rs, en⟩ := st
            simp only at *
            go_wp2
            go_ret2
            rw [Hv2.out]
            exact ⟨A2, c2, by simp [Hl.out], hrd, hB'⟩
end Go.Proofs.Ytjgmdchlgabflaa
