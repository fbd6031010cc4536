/- The contract of Fits. -/
import Derived.Test.YtlmbffnmjfbglaaC0
import Derived.Test.YtlmbffnmjfbglaaX6
namespace Go.Proofs.Ytlmbffnmjfbglaa
open Go.ChangeShapes Go.WideShapes Go.ChangeAt Go.RowKit

theorem info3 : (Try.prog.info? 3).map (fun i => (i.zero, i.size, i.bytes)) = some (some (.int .i64 0), 1, 8) := by kernel_rfl
theorem RdInt.of_own {w : World} {base : Nat} {v : Value} {n : Nat} {l : List Int} (hn : n = l.length) (h : w.ownsRow base 3 1 v n (l.map (Value.int .i64))) : ∃ A c, v = .slice A n c ∧ RdInt w w.heap.size A l := by
  subst hn
  rcases h.2 with ⟨rfl, h0⟩ | ⟨g, cap, cur, rfl, _, hh, _⟩
  · exact ⟨none, 0, by rw [h0], fun h => by omega⟩
  · refine ⟨_, cap, rfl, fun hn => ⟨g, 0, rfl, (h.lt g rfl).2, fun i hi => ?_⟩⟩
    have := h.cells (g := g) rfl i (.int .i64 l[i]) (by simp [hi])
    rw [add_none] at this
    exact this

theorem fits1_c (i : Nat) (Bn : Nat) (w : World) (hb0 : Blk w Bn 3 #[.int .i64 i]) : PredWin 53 #[.pointer (some ⟨Bn, 0, none⟩)] (partB i) w := fun W x hb => by
  change Calls _ _ _ _ fun e w' => e = .returned (.bool (partB i x)) ∧ Below W.heap.size W w'
  have hB : Below W.heap.size W (W.alloc (.cells #[.int .i64 x.part, .int .i64 x.start, .int .i64 x.len] 31)) := (Below.refl _ _).alloc (Nat.le_refl _) _
  have hbW := (hb0.below hb hb0.lt).alloc (.cells #[.int .i64 x.part, .int .i64 x.start, .int .i64 x.len] 31)
  have hbn := (hb0.below hb hb0.lt).lt
  have hx := Blk.new W 31 #[.int .i64 x.part, .int .i64 x.start, .int .i64 x.len]
  have c0 : (W.alloc (.cells #[.int .i64 x.part, .int .i64 x.start, .int .i64 x.len] 31)).cell? ⟨W.heap.size, 0, none⟩ = some (.int .i64 x.part) := hx.cell 0
  have c1 : (W.alloc (.cells #[.int .i64 x.part, .int .i64 x.start, .int .i64 x.len] 31)).cell? ⟨Bn, 0, none⟩ = some (.int .i64 i) := hbW.cell 0
  clear hb0 hb
  unfold partB
  go_enter Try.func53, Try.ntmps53
  go_wp2
  go_ret
  exact ⟨rfl, hB⟩

set_option maxRecDepth 100000 in
set_option maxHeartbeats 2000000 in
theorem fits_c (name : ByteArray) (mem F : Int) (ps : List Part) (A : Option Addr) (c : Nat) (tb : List Win) (A' : Option Addr) (c' : Nat) (w : World) (h : RdPart w w.heap.size A ps) (h' : RdG Win.tri w w.heap.size A' tb) (hl : ps.length ≤ 9223372036854775807) (hl' : tb.length ≤ 100000) :
    Calls Try.prog 31 #[.agg #[.string name, .int .i64 mem, .int .i64 F, .slice A ps.length c], .slice A' tb.length c'] w fun e w' => e = .returned (.bool (fitsV F ps tb)) ∧ Below w.heap.size w w' := by
  have hB : Below w.heap.size w (w.alloc (.cells #[.string name, .int .i64 mem, .int .i64 F, .slice A ps.length c] 44)) := (Below.refl _ w).alloc (Nat.le_refl _) _
  have hblk := Blk.new w 44 #[.string name, .int .i64 mem, .int .i64 F, .slice A ps.length c]
  obtain ⟨i0, hi0, hz0, hz1, hz2⟩ := info_parts info3
  go_enter Try.func31, Try.ntmps31
  go_wp2_with fail
  refine nameW fun W1 hW1 => ?_
  rw [← hW1] at hB hblk
  have hs1 : w.heap.size + 1 ≤ W1.heap.size := by subst hW1; simp
  clear hW1
  go_loopw [5, 13] (fun v i wr => ∃ (k : Nat) (os : List Int), k ≤ ps.length ∧ i = .int .i64 k ∧ Hid (offTo tb k = some os) ∧ Below w.heap.size w wr ∧ w.heap.size + 1 ≤ wr.heap.size ∧ Blk wr w.heap.size 44 #[.string name, .int .i64 mem, .int .i64 F, .slice A ps.length c] ∧ wr.ownsRow (w.heap.size + 1) 3 1 v k (os.map (Value.int .i64))) (fun _ i _ => ps.length - (intOf i).toNat)
  case atStart => exact ⟨0, [], Nat.zero_le _, rfl, rfl, hB, hs1, hblk, World.ownsRow_nil _ _ _ _⟩
  case round =>
    clear hB hblk hs1
    obtain ⟨k, os, hk, rfl, Ho, hB, hs, hbk, hown⟩ := hrel
    have hkt := offTo_le Ho.out
    by_cases hlt : k < ps.length
    · have hBx := Blk.new wr 3 #[.int .i64 k]
      have hB2 := hB.alloc hB.size (.cells #[.int .i64 k] 3)
      have hbk2 := hbk.alloc (.cells #[.int .i64 k] 3)
      have hown2 := hown.alloc (.cells #[.int .i64 k] 3)
      have hs2 : w.heap.size + 1 ≤ (wr.alloc (.cells #[.int .i64 k] 3)).heap.size := by simp; omega
      have zb := hbk.lt
      clear hB hbk hs h
      go_wp2_with fail
      generalize hW : wr.alloc (.cells #[.int .i64 k] 3) = W2 at hBx hB2 hbk2 hown2 hs2 ⊢
      clear hW hown
      generalize wr.heap.size = Bk at hBx ⊢
      have hrd := (h'.keep hB2).more hB2.size
      have hidx := indexWin_c 53 #[.pointer (some ⟨Bk, 0, none⟩)] (partB k) (enters_of Try.func53 (by kernel_rfl) rfl) tb A' c' W2 (fits1_c k Bk W2 hBx) hrd (by omega)
      refine hidx.mono ?_
      rintro e W3 ⟨rfl, hb3⟩
      have hB3 := hB2.trans (hb3.mono hB2.size)
      have hbk3 := hbk2.below hb3 hbk2.lt
      have hs3 : w.heap.size + 1 ≤ W3.heap.size := Nat.le_trans hs2 hb3.size
      have hown3 : W3.ownsRow (w.heap.size + 1) 3 1 u5 k (os.map (Value.int .i64)) := hown2.kept (only_of_below hb3 none) (by
        rcases hown2.2 with ⟨h0, _⟩ | ⟨g, cap, cur, h0, _⟩
        · left; rw [h0]; rfl
        · right; rw [h0]; simp [Value.ownBlock])
      clear hidx hrd hBx hB2 hbk2 hs2 hown2 hb3
      rcases find_cases (partB k) tb with ⟨n, hn, e1, e2, _⟩ | ⟨e1, e2⟩
      · have Hn : Hid (offTo tb (k + 1) = some (os ++ [tb[n].start])) := by
          show _ = _
          simp only [offTo]
          rw [Ho.out, e2]
        have hk1 := offTo_le Hn.out
        rw [e1]
        obtain ⟨b, o, rfl, hb, hcc⟩ := h'.keep hB3 (by omega)
        obtain ⟨_, c1, _⟩ := hcc n hn
        change _ = some (Value.int .i64 tb[n].start) at c1
        have hj0 : (0 : Int) ≤ (n : Int) := by omega
        have hj1 : (n : Int) < (tb.length : Int) := by omega
        have hj2 : ¬ (n : Int) < 0 := by omega
        have hbz : b < W3.heap.size := Nat.lt_of_lt_of_le hb hB3.size
        clear e1 e2 hcc Ho h'
        generalize tb[n].start = x at c1 Hn
        have hz3 := hbk3.lt
        go_wp2_with (at_builtin; refine wpList_append_own _ rfl _ _ 45 rfl (w.heap.size + 1) 3 i0 (.int .i64 0) 1 8 Try.underlying45 hi0 hz0 hz1 hz2 rfl (by decide) _ _ _ rfl (hown3.alloc _) ⟨W3.heap.size, 0, none⟩ 1 1 [.int .i64 x] rfl rfl ?c1 ?c2 ?c3 ?c4 ?c5 ?_)
        case c1 => exact World.news_of_block (cs := #[.int .i64 x]) (t := 3) (fr := (0, 0)) (heap_alloc_new W3 _)
        case c2 => simp [Value.oneCell']
        case c3 => unfold maxLen; omega
        case c4 => omega
        case c5 => simp; omega
        intro v4 w4 hown4 hgrow4 _
        have hB4 : Below w.heap.size w w4 := (hB3.alloc hB3.size _).grown hgrow4 (by simp; omega) (fun g hg => by have := (hown3.lt g hg).1; omega)
        have hbk4 := (hbk3.alloc (.cells #[.int .i64 x] 3)).grown hgrow4 (fun e => by have := (hown3.lt _ e.symm).1; omega)
        have hs4 : w.heap.size + 1 ≤ w4.heap.size := by have := hgrow4.size; simp at this; omega
        have hown5 : w4.ownsRow (w.heap.size + 1) 3 1 v4 (k + 1) ((os ++ [x]).map (Value.int .i64)) := by
          rw [List.map_append]; exact hown4
        have Hown5 := Lib.hid hown5
        clear hown4 hgrow4 hown3 hB3 hbk3 hs3 hown5 c1
        go_wp2
        go_roundw
        case rel => exact ⟨k + 1, os ++ [x], by omega, by go_num, Hn, hB4, hs4, hbk4, Hown5.out⟩
        case measure => simp [intOf]; omega
      · have Hn : Hid (fitsV F ps tb = false) := by
          show _ = _
          have h1 : offTo tb (k + 1) = none := by
            simp only [offTo]
            rw [Ho.out, e2]
          unfold fitsV
          rw [offTo_mono h1 ps.length (by omega)]
        rw [e1]
        clear e1 e2 Ho hown3 hbk3 hs3 h'
        go_wp2
        go_ret
        exact ⟨ret_bool Hn.out.symm, hB3⟩
    · obtain rfl : k = ps.length := by omega
      have Hv : Hid (fitsV F ps tb = (decide ((tableF F ps os).2 = 0) && sameWin (tableF F ps os).1 tb)) := by
        show _ = _
        unfold fitsV
        rw [Ho.out]
      have hol := offTo_len Ho.out
      obtain ⟨A2, c2, rfl, hrd⟩ := RdInt.of_own hol.symm hown
      have ht := table_c name mem F ps A c os A2 c2 wr ((h.keep hB).more hB.size) hrd hl (by omega)
      rw [hol] at ht
      have q0 : wr.cell? ⟨w.heap.size, 0, none⟩ = some (.string name) := hbk.cell 0
      have q1 : wr.cell? ⟨w.heap.size, 1, none⟩ = some (.int .i64 mem) := hbk.cell 1
      have q2 : wr.cell? ⟨w.heap.size, 2, none⟩ = some (.int .i64 F) := hbk.cell 2
      have q3 : wr.cell? ⟨w.heap.size, 3, none⟩ = some (.slice A ps.length c) := hbk.cell 3
      clear hol hown hrd Ho h hbk hs hkt
      go_wp2_with fail
      refine ht.mono ?_
      rintro e W2 ⟨A3, c3, q, rfl, hq, hrd, hb2⟩
      obtain rfl := tableV_eq hq
      have hB2 := hB.trans (hb2.mono hB.size)
      have hlen := tableF_len F ps os
      have heq := equalWin_c (tableF F ps os).1 tb A3 A' c3 c' W2 hrd ((h'.keep hB2).more hB2.size) (by omega) (by omega)
      clear ht hq hb2 hB q0 q1 q2 q3 hlen hrd h'
      generalize tableF F ps os = qq at *
      obtain ⟨qa, qb⟩ := qq
      simp only at *
      by_cases h0 : qb = 0
      · subst h0
        go_wp2_with fail
        refine (heq).mono ?_
        rintro e W3 ⟨rfl, hb3⟩
        have hB3 := hB2.trans (hb3.mono hB2.size)
        clear heq hb3 hB2
        go_wp2
        go_ret
        exact ⟨ret_bool (by rw [Hv.out]; simp), hB3⟩
      · have h1 : (qb == 0) = false := by simpa using h0
        have Hv2 : Hid (fitsV F ps tb = false) := by
          show _ = _
          rw [Hv.out, decide_eq_false h0]; rfl
        clear heq Hv h0
        go_wp2
        go_ret
        exact ⟨ret_bool Hv2.out.symm, hB2⟩
end Go.Proofs.Ytlmbffnmjfbglaa
