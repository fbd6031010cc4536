/- The reference's Table and Fits. -/
import Derived.Test.YtlmbffnmjfbglaaR1
import Derived.Test.YtlmbffnmjfbglaaPr
namespace Go.Proofs.Ytlmbffnmjfbglaa
open Go.ChangeShapes Go.WideShapes Go.ChangeAt Go.RowKit

/-- a list of windows and an error. -/
def RetWins (w : World) (q : List Win × Int) (e : Ending) (w' : World) : Prop := ∃ A c, e = .returned (.tuple #[.slice A q.1.length c, .int .i64 q.2]) ∧ RdG Win.tri w' w'.heap.size A q.1 ∧ Below w.heap.size w w'
theorem retWins_none {w w' : World} {n : Int} (h : Below w.heap.size w w') : RetWins w ([], n) (.returned (.tuple #[.slice none 0 0, .int .i64 n])) w' := ⟨none, 0, rfl, RdG.nil, h⟩
/-- the wins of a row that the call owns. -/
def WinsOwn (W : World) (B : Nat) (v : Value) (l : List Win) : Prop := W.ownsRow B 31 3 v l.length (l.flatMap (cellsG Win.tri))
theorem disj_apart {a b : Slot} (ha : a.ok) (hb : b.ok) : disjB a b = apartB a b := by simp [disjB, validS, ha, hb]

set_option maxRecDepth 100000 in
set_option maxHeartbeats 4000000 in
theorem refTable_c (name : ByteArray) (mem F : Int) (ps : List Part) (A : Option Addr) (c : Nat) (os : List Int) (A' : Option Addr) (c' : Nat) (w : World) (h : RdPart w w.heap.size A ps) (h' : RdInt w w.heap.size A' os) (hl : ps.length ≤ 9223372036854775807) (hl' : os.length ≤ 9223372036854775807) :
    Calls Try.prog 30 #[.agg #[.string name, .int .i64 mem, .int .i64 F, .slice A ps.length c], .slice A' os.length c'] w (RetWins w (tableF F ps os)) := by
  have hB : Below w.heap.size w (w.alloc (.cells #[.string name, .int .i64 mem, .int .i64 F, .slice A ps.length c] 44)) := (Below.refl _ w).alloc (Nat.le_refl _) _
  have hblk := Blk.new w 44 #[.string name, .int .i64 mem, .int .i64 F, .slice A ps.length c]
  have ht := refSlots_c name mem F ps A c os A' c' _ (h.below hB) (h'.below hB) hl hl'
  clear h h'
  go_enter Try.func30, Try.ntmps30
  go_wp2_with fail
  generalize w.alloc (.cells #[.string name, .int .i64 mem, .int .i64 F, .slice A ps.length c] 44) = W0 at hB hblk ht ⊢
  refine ht.mono ?_
  rintro e w1 ⟨A2, c2, rfl, hrd, hb1⟩
  have hB1 := hB.trans (hb1.mono hB.size)
  have hk1 := hblk.below hb1 hblk.lt
  clear ht hB hblk hb1
  by_cases hs0 : (slotsV F ps os).2 = 0
  case neg =>
    have h2 : (slotsV F ps os).2 = 2 := by
      unfold slotsV at hs0 ⊢
      split
      · split
        · rfl
        · rename_i a b; rw [if_pos a, if_neg b] at hs0; exact absurd rfl hs0
      · rfl
    have Ht := Lib.hid (show tableF F ps os = ([], 2) by unfold tableF; rw [h2]; rfl)
    rw [h2]
    clear hs0 h2 hrd
    go_wp2
    go_ret2
    rw [Ht.out]
    exact retWins_none hB1
  have hS := slotsV_ok hs0
  have Ht := Lib.hid (show tableF F ps os = if clashB (slotsV F ps os).1 then ([], 120) else (refTo (slotsV F ps os).1 F.toNat, 0) by unfold tableF; rw [if_neg (fun k => k hs0)])
  generalize (slotsV F ps os).1 = sl at *
  rw [hs0]
  clear hs0
  obtain ⟨hF1, hF2⟩ := hS.frame
  have hfew := hS.few
  have HS := Lib.hid hS
  clear hS
  have hz1 : w.heap.size + 1 ≤ w1.heap.size := hk1.lt
  go_wp2_with fail
  go_loopw [8] (fun i wr => ∃ k : Nat, k ≤ sl.length ∧ i = .int .i64 k ∧ Below w1.heap.size w1 wr ∧ Hid (∀ i (hi : i < sl.length), i < k → ∀ j (hj : j < i), apartB sl[j] sl[i] = true)) (fun i _ => sl.length - (intOf i).toNat)
  case atStart => exact ⟨0, Nat.zero_le _, rfl, Below.refl _ _, fun i _ h => absurd h (by omega)⟩
  case round =>
    obtain ⟨k, hk, rfl, hB2, hall⟩ := hrel
    by_cases hlt : k < sl.length
    · go_wp2_with fail
      obtain ⟨wo, hwo⟩ : ∃ wo : World, wo = wr := ⟨_, rfl⟩
      subst hwo
      go_loopw [9] (fun i wr => ∃ j : Nat, j ≤ k ∧ i = .int .i64 j ∧ Below w1.heap.size w1 wr ∧ Hid (∀ i (h : i < sl.length), i < j → apartB sl[i] sl[k] = true)) (fun i _ => k - (intOf i).toNat)
      case atStart => exact ⟨0, Nat.zero_le _, rfl, hB2, fun i _ h => absurd h (by omega)⟩
      case round =>
        clear hB2
        obtain ⟨j, hj, rfl, hB2, hin⟩ := hrel
        by_cases hjk : j < k
        · obtain ⟨b, o, rfl, hb, hcc⟩ := hrd.keep hB2 (by omega)
          obtain ⟨c0, c1, c2⟩ := hcc k hlt
          obtain ⟨d0, d1, d2⟩ := hcc j (by omega)
          change _ = some (Value.int .i64 sl[k].off) at c0
          change _ = some (Value.int .i64 sl[k].per) at c1
          change _ = some (Value.int .i64 sl[k].len) at c2
          change _ = some (Value.int .i64 (sl[j]'(by omega)).off) at d0
          change _ = some (Value.int .i64 (sl[j]'(by omega)).per) at d1
          change _ = some (Value.int .i64 (sl[j]'(by omega)).len) at d2
          have hdc := fun W => refDisj_c (sl[j]'(by omega)) sl[k] W
          rw [disj_apart (HS.out.ok _ (List.getElem_mem _)) (HS.out.ok _ (List.getElem_mem _))] at hdc
          have hi0 : (0 : Int) ≤ (k : Int) := by omega
          have hi1 : (k : Int) < (sl.length : Int) := by omega
          have hi2 : (0 : Int) ≤ (j : Int) := by omega
          have hi3 : (j : Int) < (sl.length : Int) := by omega
          have zb : b < wr.heap.size := Nat.lt_of_lt_of_le hb hB2.size
          have hec := ext_cell wr
          have hsr := hB2.size
          clear hcc
          cases hq : apartB (sl[j]'(by omega)) sl[k] with
          | true =>
            have Hn : Hid (∀ i (h : i < sl.length), i < j + 1 → apartB sl[i] sl[k] = true) := fun i h hi => by
              by_cases e : i = j
              · subst e; exact hq
              · exact hin.out i h (by omega)
            rw [hq] at hdc
            clear hq hin
            generalize sl[k] = x at *
            generalize sl[j]'(by omega) = y at *
            go_wp2_with fail
            refine wp_region_ext (by kernel_rfl) (by kernel_rfl) ?_
            repeat (go_big_quiet_step ((go_at_call 35; exact ext_call (hdc _))))
            refine wpQuiet_nil ?_
            intro _ hw'
            obtain ⟨xx, hw''⟩ := hw'
            subst hw''
            have hB3 := hB2.trans (xx.h.mono hsr)
            clear hec hdc c0 c1 c2 d0 d1 d2 zb hB2
            generalize xx.w = w4 at hB3 ⊢
            go_wp2
            go_roundw
            case rel => exact ⟨j + 1, by omega, by go_num, hB3, Hn⟩
            case measure => simp [intOf]; omega
          | false =>
            have Hf : Hid (tableF F ps os = ([], 120)) := by
              show _ = _
              rw [Ht.out, if_pos]
              cases hc : clashB sl with
              | true => rfl
              | false => have := (clash_iff sl).1 hc k j hjk hlt; rw [hq] at this; cases this
            rw [hq] at hdc
            clear hq hin hall
            generalize sl[k] = x at *
            generalize sl[j]'(by omega) = y at *
            go_wp2_with fail
            refine wp_region_ext (by kernel_rfl) (by kernel_rfl) ?_
            repeat (go_big_quiet_step ((go_at_call 35; exact ext_call (hdc _))))
            refine wpQuiet_nil ?_
            intro _ hw'
            obtain ⟨xx, hw''⟩ := hw'
            subst hw''
            have hB3 := hB1.trans ((hB2.trans (xx.h.mono hsr)).mono hB1.size)
            clear hec hdc c0 c1 c2 d0 d1 d2 zb hB2
            generalize xx.w = w4 at hB3 ⊢
            go_wp2
            go_ret2
            rw [Hf.out]
            exact retWins_none hB3
        · have Hn : Hid (∀ i (hi : i < sl.length), i < k + 1 → ∀ j (hj : j < i), apartB sl[j] sl[i] = true) := fun i hi hik m hm => by
            by_cases e : i = k
            · subst e; exact hin.out m (by omega) (by omega)
            · exact hall.out i hi (by omega) m hm
          clear hin hall
          go_wp2
          go_roundw
          case rel => exact ⟨k + 1, by omega, by go_num, hB2, Hn⟩
          case measure => simp [intOf]; omega
    · have Hc := Lib.hid (show tableF F ps os = (refTo sl F.toNat, 0) by
        rw [Ht.out, if_neg]
        rw [(clash_iff sl).2 (fun i k hk hi => hall.out i hi (by omega) k hk)]
        simp)
      clear hall
      go_wp2_with fail
      obtain ⟨i0, hi0, hz0, hz1', hz2⟩ := info_parts info31
      go_loopw [10, 11] (fun v t wr => ∃ m : Nat, (m : Int) ≤ F ∧ t = .int .i64 m ∧ Below w1.heap.size w1 wr ∧ WinsOwn wr w1.heap.size v (refTo sl m)) (fun _ t _ => (F - intOf t).toNat)
      case atStart => exact ⟨0, by omega, rfl, hB2, World.ownsRow_nil _ _ _ _⟩
      case round =>
        clear hB2
        obtain ⟨m, hm, rfl, hB2, hown⟩ := hrel
        have q2 : wr.cell? ⟨w.heap.size, 2, none⟩ = some (.int .i64 F) := (hk1.below hB2 hk1.lt).cell 2
        by_cases hmF : (m : Int) < F
        · have hrl := refTo_len sl m
          have hm0 : (0 : Int) ≤ (m : Int) := by omega
          have hm1 : (m : Int) ≤ 2000 := by omega
          have hml : m * sl.length ≤ 2000 * 6 := Nat.mul_le_mul (by omega) hfew
          have hrb : (refTo sl m).length ≤ 12000 := by omega
          clear hrl hml
          go_wp2_with fail
          clear q2
          go_loopw [10, 12] (fun v i wr => ∃ k : Nat, k ≤ sl.length ∧ i = .int .i64 k ∧ Below w1.heap.size w1 wr ∧ WinsOwn wr w1.heap.size v (refTo sl m ++ refAt sl m k)) (fun _ i _ => sl.length - (intOf i).toNat)
          case atStart => exact ⟨0, Nat.zero_le _, rfl, hB2, by simpa [refAt] using hown⟩
          case round =>
            clear hB2 hown
            obtain ⟨k, hk, rfl, hB2, hown⟩ := hrel
            by_cases hlt : k < sl.length
            · obtain ⟨b, o, rfl, hb, hcc⟩ := hrd.keep hB2 (by omega)
              obtain ⟨c0, c1, c2⟩ := hcc k hlt
              change _ = some (Value.int .i64 sl[k].off) at c0
              change _ = some (Value.int .i64 sl[k].per) at c1
              change _ = some (Value.int .i64 sl[k].len) at c2
              obtain ⟨a1, a2, a3, a4, a5, a6⟩ := HS.out.ok _ (List.getElem_mem hlt)
              have hra := refAt_len sl m k (by omega)
              have hll : (refTo sl m ++ refAt sl m k).length ≤ 12006 := by rw [List.length_append]; omega
              have Hsc := Lib.hid (refAt_succ sl m k hlt)
              have Hdef := Lib.hid (show startB sl[k] m = (decide (sl[k].off ≤ m) && decide (((m : Int) - sl[k].off) % sl[k].per = 0)) from rfl)
              have hi0' : (0 : Int) ≤ (k : Int) := by omega
              have hi1 : (k : Int) < (sl.length : Int) := by omega
              have hsr := hB2.size
              have hbz : b < wr.heap.size := Nat.lt_of_lt_of_le hb hsr
              clear hcc hra
              generalize sl[k] = x at *
              by_cases t1 : x.off ≤ (m : Int)
              · have p0 : x.per ≠ 0 := by omega
                have m0 : ((m : Int) - x.off).tmod x.per = ((m : Int) - x.off) % x.per := Int.tmod_eq_emod_of_nonneg (by omega)
                have m1 := IntWalk.i64_in ((m : Int) - x.off) (by omega)
                by_cases t2 : ((m : Int) - x.off) % x.per = 0
                · have t3 : (((m : Int) - x.off) % x.per == 0) = true := by simp [t2]
                  have He := Lib.hid (show (refTo sl m ++ refAt sl m (k + 1)) = (refTo sl m ++ refAt sl m k) ++ [⟨k, m, x.len⟩] by
                    rw [Hsc.out, Hdef.out, decide_eq_true t1, decide_eq_true t2]; simp)
                  clear t2 Hsc Hdef
                  generalize refTo sl m ++ refAt sl m k = L at *
                  go_wp2_with fail
                  go_quiet (fail)
                  clear m0 m1 t3
                  refine nameX fun W2 hW2 => ?_
                  have c2' : W2.cell? ⟨b, o + k * 3 + 2, none⟩ = some (.int .i64 x.len) := by subst hW2; exact c2
                  have hown2 : WinsOwn W2 w1.heap.size u10 L := by subst hW2; exact World.ownsRow.kept hown (only_of_below (below_drewN (Below.refl _ _) _) none) (by
                    rcases hown.2 with ⟨h0, _⟩ | ⟨g, cap, cur, h0, _⟩
                    · left; rw [h0]; rfl
                    · right; rw [h0]; simp [Value.ownBlock])
                  have hB3 : Below w1.heap.size w1 W2 := by subst hW2; exact below_drewN hB2 _
                  have hbz2 : b < W2.heap.size := by subst hW2; exact hbz
                  have hsr2 := hB3.size
                  clear hW2 c0 c1 c2 hown hB2 hbz hsr
                  unfold WinsOwn at hown2
                  go_wp2_with (at_builtin; refine wpList_append_own _ rfl _ _ 26 rfl w1.heap.size 31 i0 (.agg #[.int .i64 0, .int .i64 0, .int .i64 0]) 3 24 Try.underlying26 hi0 hz0 hz1' hz2 rfl (by decide) _ _ _ rfl (hown2.alloc _) ⟨W2.heap.size, 0, none⟩ 1 1 [.int .i64 k, .int .i64 m, .int .i64 x.len] rfl rfl ?c1 ?c2 ?c3 ?c4 ?c5 ?_)
                  case c1 => exact World.news_of_block (cs := #[.int .i64 k, .int .i64 m, .int .i64 x.len]) (t := 31) (fr := (0, 0)) (heap_alloc_new W2 _)
                  case c2 => simp [Value.oneCell']
                  case c3 => unfold maxLen; omega
                  case c4 => omega
                  case c5 => simp; omega
                  intro v4 w4 hown4 hgrow4 _
                  have hB4 : Below w1.heap.size w1 w4 := (hB3.alloc hsr2 _).grown hgrow4 (by simp; omega) (fun g hg => (hown2.lt g hg).1)
                  have hown5 : WinsOwn w4 w1.heap.size v4 (refTo sl m ++ refAt sl m (k + 1)) := by
                    rw [He.out]
                    unfold WinsOwn
                    rw [List.flatMap_append, List.length_append]
                    exact hown4
                  have Hown5 := Lib.hid hown5
                  clear hown4 hgrow4 hown2 hB3 hown5 c2'
                  go_wp2
                  go_roundw
                  case rel => exact ⟨k + 1, by omega, by go_num, hB4, Hown5.out⟩
                  case measure => simp [intOf]; omega
                · have t3 : (((m : Int) - x.off) % x.per == 0) = false := by simp [t2]
                  have He := Lib.hid (show (refTo sl m ++ refAt sl m (k + 1)) = (refTo sl m ++ refAt sl m k) by
                    rw [Hsc.out, Hdef.out, decide_eq_true t1, decide_eq_false t2]; simp)
                  clear t2 Hsc Hdef
                  go_wp2_with fail
                  go_quiet (fail)
                  clear m0 m1 t3
                  go_wp2
                  go_roundw
                  case rel => exact ⟨k + 1, by omega, by go_num, below_drewN hB2 _, by rw [He.out]; exact hown⟩
                  case measure => simp [intOf]; omega
              · have d1 : decide (x.off ≤ (m : Int)) = false := decide_eq_false t1
                have He := Lib.hid (show (refTo sl m ++ refAt sl m (k + 1)) = (refTo sl m ++ refAt sl m k) by
                  rw [Hsc.out, Hdef.out, decide_eq_false t1]; simp)
                clear Hsc Hdef
                go_wp2_with fail
                go_quiet (fail)
                go_wp2
                go_roundw
                case rel => exact ⟨k + 1, by omega, by go_num, below_drewN hB2 _, by rw [He.out]; exact hown⟩
                case measure => simp [intOf]; omega
            · obtain rfl : k = sl.length := by omega
              go_wp2
              go_roundw
              case rel => exact ⟨m + 1, by omega, by go_num, hB2, hown⟩
              case measure => simp [intOf]; omega
        · have hmF2 : (m : Int) = F := by omega
          have Hf : Hid (tableF F ps os = (refTo sl m, 0)) := by
            show _ = _
            rw [Hc.out]
            have : F.toNat = m := by omega
            rw [this]
          obtain ⟨A3, c3, rfl, hrd3⟩ := RdG.of_own (f := Win.tri) rfl hown
          have hBf := hB1.trans (hB2.mono hB1.size)
          clear hown Hc
          go_wp2
          go_ret2
          rw [Hf.out]
          exact ⟨A3, c3, rfl, hrd3, hBf⟩
end Go.Proofs.Ytlmbffnmjfbglaa
