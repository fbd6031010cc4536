/- WindowSmall: the closed statement's call returns true. -/
import Derived.Test.YtlmbffnmjfbglaaTe
import Derived.Deep.DeepCutAuto
namespace Go.Proofs.Ytlmbffnmjfbglaa
open Go.ChangeShapes Go.WideShapes Go.ChangeAt Go.RowKit

/-- slots of a row that the call owns. -/
def SlotsOwn (W : World) (B : Nat) (v : Value) (n : Nat) : Prop := ∃ l : List Slot, l.length = n ∧ W.ownsRow B 23 3 v n (l.flatMap (cellsG Slot.tri))
theorem SlotsOwn.more {W W' : World} {B : Nat} {v : Value} {n : Nat} (h : SlotsOwn W B v n) (hb : Below W.heap.size W W') : SlotsOwn W' B v n := by
  obtain ⟨l, e, ho⟩ := h
  exact ⟨l, e, ho.kept (only_of_below hb none) (by
    rcases ho.2 with ⟨h0, _⟩ | ⟨g, cap, cur, h0, _⟩
    · left; rw [h0]; rfl
    · right; rw [h0]; simp [Value.ownBlock])⟩

theorem RdInt.blk {W : World} {B : Nat} {l : List Int} (h : Blk W B 3 (l.map (Value.int .i64)).toArray) : RdInt W W.heap.size (some ⟨B, 0, none⟩) l := fun _ =>
  ⟨B, 0, rfl, h.lt, fun i hi => by rw [h.cell]; simp [hi]⟩
abbrev modZ : Array Value := #[.string ⟨#[]⟩, .int .i64 0, .int .i64 0, .slice none 0 0]
theorem mod_cells {W w' : World} {B : Nat} (h : Blk W B 44 modZ) (hb : Below W.heap.size W w') :
    Blk w' B 44 modZ ∧ w'.cell? ⟨B, 0, none⟩ = some (.string ⟨#[]⟩) ∧ w'.cell? ⟨B, 1, none⟩ = some (.int .i64 0) ∧ w'.cell? ⟨B, 2, none⟩ = some (.int .i64 0) ∧ w'.cell? ⟨B, 3, none⟩ = some (.slice none 0 0) ∧
      w'.frozen? ⟨B, 0, none⟩ = false ∧ w'.frozen? ⟨B, 1, none⟩ = false ∧ w'.frozen? ⟨B, 2, none⟩ = false ∧ w'.frozen? ⟨B, 3, none⟩ = false :=
  have hk := h.below hb h.lt
  ⟨hk, hk.cell 0, hk.cell 1, hk.cell 2, hk.cell 3, hk.frozen 0, hk.frozen 1, hk.frozen 2, hk.frozen 3⟩
theorem set4 {w : World} {B b i : Nat} {v0 v1 v2 v3 : Value} (h : b ≠ B) : ((((w.setCell ⟨B, 0, none⟩ v0).setCell ⟨B, 1, none⟩ v1).setCell ⟨B, 2, none⟩ v2).setCell ⟨B, 3, none⟩ v3).cell? ⟨b, i, none⟩ = w.cell? ⟨b, i, none⟩ := by
  rw [World.cell?_setCell_other _ _ _ _ (fun e => h (congrArg Addr.block e).symm), World.cell?_setCell_other _ _ _ _ (fun e => h (congrArg Addr.block e).symm), World.cell?_setCell_other _ _ _ _ (fun e => h (congrArg Addr.block e).symm), World.cell?_setCell_other _ _ _ _ (fun e => h (congrArg Addr.block e).symm)]
/-- the module's box, written behind the call. -/
theorem mod_set {W w' : World} {B : Nat} {A : Option Addr} {c : Nat} {ps : List Part} (hp0 : 0 < ps.length) (h : Blk w' B 44 modZ) (hp : RdPart w' w'.heap.size A ps) (hB : W.heap.size ≤ B) (hb : Below W.heap.size W w') :
    Blk ((((w'.setCell ⟨B, 0, none⟩ (.string ⟨#[]⟩)).setCell ⟨B, 1, none⟩ (.int .i64 0)).setCell ⟨B, 2, none⟩ (.int .i64 12)).setCell ⟨B, 3, none⟩ (.slice A ps.length c)) B 44 #[.string ⟨#[]⟩, .int .i64 0, .int .i64 12, .slice A ps.length c] ∧
    RdPart ((((w'.setCell ⟨B, 0, none⟩ (.string ⟨#[]⟩)).setCell ⟨B, 1, none⟩ (.int .i64 0)).setCell ⟨B, 2, none⟩ (.int .i64 12)).setCell ⟨B, 3, none⟩ (.slice A ps.length c)) ((((w'.setCell ⟨B, 0, none⟩ (.string ⟨#[]⟩)).setCell ⟨B, 1, none⟩ (.int .i64 0)).setCell ⟨B, 2, none⟩ (.int .i64 12)).setCell ⟨B, 3, none⟩ (.slice A ps.length c)).heap.size A ps ∧
    Below W.heap.size W ((((w'.setCell ⟨B, 0, none⟩ (.string ⟨#[]⟩)).setCell ⟨B, 1, none⟩ (.int .i64 0)).setCell ⟨B, 2, none⟩ (.int .i64 12)).setCell ⟨B, 3, none⟩ (.slice A ps.length c)) := by
  refine ⟨(((h.set_ 0 _).set_ 1 _).set_ 2 _).set_ 3 _, ?_, (((hb.setCell (p := ⟨B, 0, none⟩) hB _).setCell (p := ⟨B, 1, none⟩) hB _).setCell (p := ⟨B, 2, none⟩) hB _).setCell (p := ⟨B, 3, none⟩) hB _⟩
  obtain ⟨b, o, rfl, hbB, hc⟩ := hp hp0
  have hne : b ≠ B := by
    rintro rfl
    have h9 := hc 0 hp0 9 _ rfl
    rw [h.cell] at h9
    rw [Array.getElem?_eq_none (by simp [modZ])] at h9
    cases h9
  refine fun _ => ⟨b, o, rfl, by simpa [World.setCell] using hbB, fun i hi j v hv => ?_⟩
  rw [World.cell?_setCell_other _ _ _ _ (fun e => hne (congrArg Addr.block e).symm), World.cell?_setCell_other _ _ _ _ (fun e => hne (congrArg Addr.block e).symm), World.cell?_setCell_other _ _ _ _ (fun e => hne (congrArg Addr.block e).symm), World.cell?_setCell_other _ _ _ _ (fun e => hne (congrArg Addr.block e).symm)]
  exact hc i hi j v hv
/-- what a round of the last loop looks at. -/
structure SR (w6 : World) (Bm : Nat) (ps : List Part) (A9 : Option Addr) (c9 : Nat) (os : List Int) (A' : Option Addr) (W : World) : Prop where
  bm : Blk W Bm 44 #[.string ⟨#[]⟩, .int .i64 0, .int .i64 12, .slice A9 ps.length c9]
  pt : RdPart W W.heap.size A9 ps
  os_ : RdInt W W.heap.size A' os
  hb : Below w6.heap.size w6 W
theorem SR.next {w6 : World} {Bm : Nat} {ps : List Part} {A9 : Option Addr} {c9 : Nat} {os : List Int} {A' : Option Addr} {W W' : World} (h : SR w6 Bm ps A9 c9 os A' W) (hb : Below W.heap.size W W') : SR w6 Bm ps A9 c9 os A' W' :=
  ⟨h.bm.below hb h.bm.lt, h.pt.below hb, h.os_.below hb, h.hb.trans (hb.mono h.hb.size)⟩
theorem tableF_len2 (F : Int) (ps : List Part) (os : List Int) : (tableF F ps os).1.length ≤ F.toNat * ps.length := by
  unfold tableF
  split
  · simp
  · rename_i h
    split
    · simp
    · have hS := slotsV_ok (F := F) (ps := ps) (os := os) (Decidable.not_not.1 h)
      have h1 := refTo_len (slotsV F ps os).1 F.toNat
      rw [hS.len] at h1
      exact h1
def Win.upd (x : Win) (j : Nat) (v : Int) : Win := if j = 0 then { x with part := v } else if j = 1 then { x with start := v } else { x with len := v }
theorem Row.set {w : World} {g cap : Nat} {l : List Win} (h : Row w g cap l) (i j : Nat) (hi : i < l.length) (hj : j < 3) (v : Int) : Row (w.setCell ⟨g, i * 3 + j, none⟩ (.int .i64 v)) g cap (l.set i (l[i].upd j v)) := by
  obtain ⟨cur, hh, h1, h2, h3, h4⟩ := h
  refine ⟨cur.setIfInBounds (i * 3 + j) (.int .i64 v), (show Blk w g 31 cur from hh).set_ _ _, by simpa using h1, h2, by simpa using h3, fun k hk => ?_⟩
  have hk' : k < l.length := by simpa using hk
  obtain ⟨q0, q1, q2⟩ := h4 k hk'
  have hsz : i * 3 + j < cur.size := by omega
  simp only [Array.getElem?_setIfInBounds, List.getElem_set]
  by_cases e : i = k
  · subst e
    match j, hj with
    | 0, _ => simp [Win.upd, q1, q2, show i * 3 < cur.size by omega]
    | 1, _ => simp [Win.upd, q0, q2, show i * 3 + 1 < cur.size by omega]
    | 2, _ => simp [Win.upd, q0, q1, show i * 3 + 2 < cur.size by omega]
  · simp [show ¬ i * 3 + j = k * 3 by omega, show ¬ i * 3 + j = k * 3 + 1 by omega, show ¬ i * 3 + j = k * 3 + 2 by omega, e, q0, q1, q2]
theorem tmod_nat (n : Nat) (m : Int) (h : 0 < m) : ∃ k : Nat, (n : Int).tmod m = k ∧ (k : Int) < m := by
  have h1 := Int.emod_nonneg n (show m ≠ 0 by omega)
  have h2 := Int.emod_lt_of_pos n h
  refine ⟨((n : Int) % m).toNat, ?_, by omega⟩
  rw [Int.tmod_eq_emod_of_nonneg (by omega)]; omega
theorem tdiv_nat (n : Nat) (m : Int) (h : 0 < m := by omega) : ∃ k : Nat, (n : Int).tdiv m = k ∧ (k : Int) ≤ n := by
  have h1 : 0 ≤ (n : Int) / m := Int.ediv_nonneg (by omega) (by omega)
  have h2 := Int.ediv_le_self m (show (0 : Int) ≤ n by omega)
  refine ⟨((n : Int) / m).toNat, ?_, by omega⟩
  rw [Int.tdiv_eq_ediv_of_nonneg (by omega)]; omega

set_option maxRecDepth 100000 in
set_option maxHeartbeats 4000000 in
theorem small_walk (w : World) : Calls Try.prog 10 #[] w fun e w' => e = .returned (.bool true) ∧ Below w.heap.size w w' := by
  obtain ⟨i0, hi0, hz0, hz1, hz2⟩ := info_parts info23
  go_enter Try.func10, Try.ntmps10
  go_wp2_with fail
  go_loopw [1, 2] (fun v i wr => ∃ p n : Nat, 1 ≤ p ∧ p ≤ 8 ∧ i = .int .i64 p ∧ n ≤ 49 * (p - 1) ∧ Below w.heap.size w wr ∧ SlotsOwn wr w.heap.size v n) (fun _ i _ => 8 - (intOf i).toNat)
  case atStart => exact ⟨1, 0, by omega, by omega, rfl, by omega, Below.refl _ _, [], rfl, World.ownsRow_nil _ _ _ _⟩
  case round =>
    obtain ⟨p, n, hp1, hp8, rfl, hn, hB, hown⟩ := hrel
    by_cases hp : p < 8
    · have hpd : decide ((p : Int) < 8) = true := decide_eq_true (by omega)
      go_wp2_with fail
      go_loopw [1, 3] (fun v i wr => ∃ q n : Nat, 1 ≤ q ∧ q ≤ p + 1 ∧ i = .int .i64 q ∧ n ≤ 49 * (p - 1) + 7 * (q - 1) ∧ Below w.heap.size w wr ∧ SlotsOwn wr w.heap.size v n) (fun _ i _ => p + 1 - (intOf i).toNat)
      case atStart => exact ⟨1, n, by omega, by omega, rfl, by omega, hB, hown⟩
      case round =>
        clear hB hown
        obtain ⟨q, n, hq1, hq2, rfl, hn, hB, hown⟩ := hrel
        by_cases hq : q ≤ p
        · have hqd : decide (q ≤ p) = true := decide_eq_true hq
          have hqe : decide ((q : Int) ≤ (p : Int)) = true := decide_eq_true (by omega)
          go_wp2_with fail
          go_loopw [1, 4] (fun v i wr => ∃ o n : Nat, o ≤ p - q + 1 ∧ i = .int .i64 o ∧ n ≤ 49 * (p - 1) + 7 * (q - 1) + o ∧ Below w.heap.size w wr ∧ SlotsOwn wr w.heap.size v n) (fun _ i _ => p - q + 1 - (intOf i).toNat)
          case atStart => exact ⟨0, n, by omega, rfl, by omega, hB, hown⟩
          case round =>
            clear hB hown
            obtain ⟨o, n, ho1, rfl, hn, hB, hown⟩ := hrel
            by_cases ho : o ≤ p - q
            · have hsl := slot_c o p q wr
              have hd : (o : Int) ≤ (p : Int) - (q : Int) := by omega
              go_wp2_with fail
              refine hsl.mono ?_
              rintro e w2 ⟨rfl, hb2⟩
              have hB2 := hB.trans (hb2.mono hB.size)
              obtain ⟨l, hl, hown2⟩ := hown.more hb2
              clear hsl hB hown hb2
              go_wp2_with (at_builtin; refine wpList_append_own _ rfl _ _ 56 rfl w.heap.size 23 i0 (.agg #[.int .i64 0, .int .i64 0, .int .i64 0]) 3 24 Try.underlying56 hi0 hz0 hz1 hz2 rfl (by decide) _ _ _ rfl (hown2.alloc _) ⟨w2.heap.size, 0, none⟩ 1 1 [.int .i64 o, .int .i64 p, .int .i64 q] rfl rfl ?c1 ?c2 ?c3 ?c4 ?c5 ?_)
              case c1 => exact World.news_of_block (cs := #[.int .i64 o, .int .i64 p, .int .i64 q]) (t := 23) (fr := (0, 0)) (heap_alloc_new w2 _)
              case c2 => simp [Value.oneCell']
              case c3 => unfold maxLen; omega
              case c4 => omega
              case c5 => have := hB2.size; simp; omega
              intro v4 w4 hown4 hgrow4 _
              have hB4 : Below w.heap.size w w4 := (hB2.alloc hB2.size _).grown hgrow4 (by have := hB2.size; simp; omega) (fun g hg => (hown2.lt g hg).1)
              have hown5 : SlotsOwn w4 w.heap.size v4 (n + 1) := ⟨l ++ [⟨o, p, q⟩], by simp [hl], by rw [List.flatMap_append]; exact hown4⟩
              clear hown4 hgrow4 hown2 hB2 hl
              go_wp2
              go_roundw
              case rel => exact ⟨o + 1, n + 1, by omega, by go_num, by omega, hB4, hown5⟩
              case measure => simp [intOf]; omega
            · have hd : ¬ (o : Int) ≤ (p : Int) - (q : Int) := by omega
              go_wp2
              go_roundw
              case rel => exact ⟨q + 1, n, by omega, by omega, by go_num, by omega, hB, hown⟩
              case measure => simp [intOf]; omega
        · go_wp2
          go_roundw
          case rel => exact ⟨p + 1, n, by omega, by omega, by go_num, by omega, hB, hown⟩
          case measure => simp [intOf]; omega
    · obtain rfl : p = 8 := by omega
      have hs1 := fun a b c W => slot_c a b c W
      go_wp2_with fail
      have hb0 := Below.refl wr.heap.size wr
      refine (hs1 0 0 0 wr).mono ?_
      rintro e x1 ⟨rfl, h1⟩
      have hb1 := hb0.trans (h1.mono hb0.size)
      clear hb0 h1
      go_wp2_with fail
      refine (hs1 0 2 3 x1).mono ?_
      rintro e x2 ⟨rfl, h2⟩
      have hb2 := hb1.trans (h2.mono hb1.size)
      clear hb1 h2
      go_wp2_with fail
      refine (hs1 2 3 2 x2).mono ?_
      rintro e x3 ⟨rfl, h3⟩
      have hb3 := hb2.trans (h3.mono hb2.size)
      clear hb2 h3
      go_wp2_with fail
      refine (hs1 (-1) 3 1 x3).mono ?_
      rintro e x4 ⟨rfl, h4⟩
      have hb4 := hb3.trans (h4.mono hb3.size)
      clear hb3 h4
      go_wp2_with fail
      refine (hs1 0 3 0 x4).mono ?_
      rintro e x5 ⟨rfl, h5⟩
      have hb5 := hb4.trans (h5.mono hb4.size)
      clear hb4 h5
      go_wp2_with fail
      refine (hs1 0 2001 1 x5).mono ?_
      rintro e x6 ⟨rfl, h6⟩
      have hb6 := hb5.trans (h6.mono hb5.size)
      clear hb5 h6
      have hB2 := hB.trans (hb6.mono hB.size)
      obtain ⟨l, hl, hown2⟩ := hown.more hb6
      clear hB hown hb6 hs1
      go_wp2_with (at_builtin; refine wpList_append_own _ rfl _ _ 56 rfl w.heap.size 23 i0 (.agg #[.int .i64 0, .int .i64 0, .int .i64 0]) 3 24 Try.underlying56 hi0 hz0 hz1 hz2 rfl (by decide) _ _ _ rfl (hown2.alloc _) ⟨x6.heap.size, 0, none⟩ 6 6 [.int .i64 0, .int .i64 0, .int .i64 0, .int .i64 0, .int .i64 2, .int .i64 3, .int .i64 2, .int .i64 3, .int .i64 2, .int .i64 (-1), .int .i64 3, .int .i64 1, .int .i64 0, .int .i64 3, .int .i64 0, .int .i64 0, .int .i64 2001, .int .i64 1] rfl rfl ?c1 ?c2 ?c3 ?c4 ?c5 ?_)
      case c1 => exact World.news_of_block (cs := #[.int .i64 0, .int .i64 0, .int .i64 0, .int .i64 0, .int .i64 2, .int .i64 3, .int .i64 2, .int .i64 3, .int .i64 2, .int .i64 (-1), .int .i64 3, .int .i64 1, .int .i64 0, .int .i64 3, .int .i64 0, .int .i64 0, .int .i64 2001, .int .i64 1]) (t := 23) (fr := (0, 0)) (heap_alloc_new x6 _)
      case c2 => simp [Value.oneCell']
      case c3 => unfold maxLen; omega
      case c4 => omega
      case c5 => have := hB2.size; simp; omega
      intro v4 w4 hown4 hgrow4 _
      have hB4 : Below w.heap.size w w4 := (hB2.alloc hB2.size _).grown hgrow4 (by have := hB2.size; simp; omega) (fun g hg => (hown2.lt g hg).1)
      have hown5 : SlotsOwn w4 w.heap.size v4 (n + 6) := ⟨l ++ [⟨0, 0, 0⟩, ⟨0, 2, 3⟩, ⟨2, 3, 2⟩, ⟨-1, 3, 1⟩, ⟨0, 3, 0⟩, ⟨0, 2001, 1⟩], by simp [hl], by rw [List.flatMap_append]; exact hown4⟩
      clear hown4 hgrow4 hown2 hB2 hl
      obtain ⟨l2, hl2, hown6⟩ := hown5
      have hn6 : l2.length ≤ 400 := by omega
      rw [← hl2] at hown6
      clear hl2
      obtain ⟨Al, cl, rfl, hrl⟩ := RdG.of_own (f := Slot.tri) rfl hown6
      clear hown6
      go_wp2_with fail
      go_loopw [5] (fun i wr => ∃ k : Nat, k ≤ l2.length ∧ i = .int .i64 k ∧ Below w4.heap.size w4 wr) (fun i _ => l2.length - (intOf i).toNat)
      case atStart => exact ⟨0, Nat.zero_le _, rfl, Below.refl _ _⟩
      case round =>
        obtain ⟨k, hk, rfl, hB5⟩ := hrel
        by_cases hlt : k < l2.length
        · have hkd : decide (k < l2.length) = true := decide_eq_true hlt
          go_wp2_with fail
          obtain ⟨wo, hwo⟩ : ∃ wo : World, wo = wr := ⟨_, rfl⟩
          subst hwo
          go_loopw [6] (fun i wr => ∃ j : Nat, j ≤ l2.length ∧ i = .int .i64 j ∧ Below w4.heap.size w4 wr) (fun i _ => l2.length - (intOf i).toNat)
          case atStart => exact ⟨0, Nat.zero_le _, rfl, hB5⟩
          case round =>
            clear hB5
            obtain ⟨j, hj, rfl, hB5⟩ := hrel
            by_cases hjl : j < l2.length
            · obtain ⟨b, o, rfl, hb, hcc⟩ := hrl.keep hB5 (by omega)
              obtain ⟨c0, c1, c2⟩ := hcc k hlt
              obtain ⟨d0, d1, d2⟩ := hcc j hjl
              change _ = some (Value.int .i64 l2[k].off) at c0
              change _ = some (Value.int .i64 l2[k].per) at c1
              change _ = some (Value.int .i64 l2[k].len) at c2
              change _ = some (Value.int .i64 l2[j].off) at d0
              change _ = some (Value.int .i64 l2[j].per) at d1
              change _ = some (Value.int .i64 l2[j].len) at d2
              have hdc := fun W => pair_c l2[k] l2[j] W
              have hj0 : (0 : Int) ≤ (k : Int) := by omega
              have hj1 : (k : Int) < (l2.length : Int) := by omega
              have hj2 : (0 : Int) ≤ (j : Int) := by omega
              have hj3 : (j : Int) < (l2.length : Int) := by omega
              have zb : b < wr.heap.size := Nat.lt_of_lt_of_le hb hB5.size
              have hec := ext_cell wr
              have hsr := hB5.size
              clear hcc
              generalize l2[k] = x at *
              generalize l2[j] = y at *
              go_wp2_with fail
              refine wp_region_ext (by kernel_rfl) (by kernel_rfl) ?_
              repeat (go_big_quiet_step ((go_at_call 13; exact ext_call (hdc _))))
              refine wpQuiet_nil ?_
              intro _ hw'
              obtain ⟨xx, hw''⟩ := hw'
              subst hw''
              have hB6 := hB5.trans (xx.h.mono hsr)
              clear hec hdc c0 c1 c2 d0 d1 d2 zb hB5
              generalize xx.w = w5 at hB6 ⊢
              go_wp2
              go_roundw
              case rel => exact ⟨j + 1, by omega, by go_num, hB6⟩
              case measure => simp [intOf]; omega
            · go_wp2
              go_roundw
              case rel => exact ⟨k + 1, by omega, by go_num, hB5⟩
              case measure => simp [intOf]; omega
        · have hkd : decide (k < l2.length) = false := decide_eq_false hlt
          have hB6 := hB4.trans (hB5.mono hB4.size)
          clear hB4 hB5 hrl
          go_wp2_with fail
          have hp0 : Blk (wr.alloc (.cells #[.int .i64 1, .int .i64 2, .int .i64 3, .int .i64 4, .int .i64 6, .int .i64 5, .int .i64 0] 3)) wr.heap.size 3 (([1, 2, 3, 4, 6, 5, 0] : List Int).map (Value.int .i64)).toArray := Blk.new wr 3 _
          have hB7 : Below w.heap.size w (wr.alloc (.cells #[.int .i64 1, .int .i64 2, .int .i64 3, .int .i64 4, .int .i64 6, .int .i64 5, .int .i64 0] 3)) := hB6.alloc hB6.size _
          refine nameW fun w6 hW6 => ?_
          rw [← hW6] at hp0 hB7
          clear hW6 hB6
          generalize wr.heap.size = Bp at hp0 ⊢
          generalize hpl : ([1, 2, 3, 4, 6, 5, 0] : List Int) = pl at hp0
          have Hpl := Lib.hid (show pl.length = 7 by rw [← hpl]; rfl)
          clear hpl hkd
          go_loopw [8] (fun i wr => ∃ n : Nat, n ≤ 2401 ∧ i = .int .i64 n ∧ Below w6.heap.size w6 wr) (fun i _ => 2401 - (intOf i).toNat)
          case atStart => exact ⟨0, Nat.zero_le _, rfl, Below.refl _ _⟩
          case round =>
            obtain ⟨n, hn, rfl, hB8⟩ := hrel
            by_cases hlt : n < 2401
            · have hn0 : (0 : Int) ≤ (n : Int) := by omega
              have hn1 : (n : Int) < 2401 := by omega
              have hp8 := hp0.below hB8 hp0.lt
              have hpz := hp8.lt
              go_wp2_with fail
              go_upto_region 25 with fail
              go_cut [9] (fun m wc => ∃ (Bm : Nat) (ps : List Part) (A9 : Option Addr) (c9 : Nat), m = .pointer (some ⟨Bm, 0, none⟩) ∧ ps.length ≤ 6 ∧ Blk wc Bm 44 #[.string ⟨#[]⟩, .int .i64 0, .int .i64 12, .slice A9 ps.length c9] ∧ RdPart wc wc.heap.size A9 ps ∧ Below w6.heap.size w6 wc)
              case first =>
                obtain ⟨i1, m1, hi1⟩ := tmod_nat n 7 (by omega)
                obtain ⟨j2, m2, hj2⟩ := tdiv_nat n 7
                obtain ⟨i2, m3, hi2⟩ := tmod_nat j2 7 (by omega)
                obtain ⟨j3, m4, hj3⟩ := tdiv_nat n 49
                obtain ⟨i3, m5, hi3⟩ := tmod_nat j3 2 (by omega)
                obtain ⟨j4, m6, hj4⟩ := tdiv_nat n 98
                obtain ⟨i4, m7, hi4⟩ := tmod_nat j4 3 (by omega)
                have e1 : wr.cell? ⟨Bp, i1, none⟩ = some (.int .i64 (pl[i1]'(by have := Hpl.out; omega))) := by rw [hp8.cell i1]; simp [Hpl.out, show i1 < 7 by omega]
                have e2 : wr.cell? ⟨Bp, i2, none⟩ = some (.int .i64 (pl[i2]'(by have := Hpl.out; omega))) := by rw [hp8.cell i2]; simp [Hpl.out, show i2 < 7 by omega]
                generalize pl[i1]'(by have := Hpl.out; omega) = v1 at e1
                generalize pl[i2]'(by have := Hpl.out; omega) = v2 at e2
                have a1 : (0 : Int) ≤ (i1 : Int) := by omega
                have a2 : (0 : Int) ≤ (i2 : Int) := by omega
                have a3 : (0 : Int) ≤ (i3 : Int) := by omega
                have a4 : (0 : Int) ≤ (i4 : Int) := by omega
                have b2 : (j2 : Int) ≤ 3000 := by omega
                have b3 : (j3 : Int) ≤ 3000 := by omega
                have b4 : (j4 : Int) ≤ 3000 := by omega
                have w1 := IntWalk.i64_in (i1 : Int) (by omega)
                have w2 := IntWalk.i64_in (j2 : Int) (by omega)
                have w3 := IntWalk.i64_in (i2 : Int) (by omega)
                have w4' := IntWalk.i64_in (j3 : Int) (by omega)
                have w5 := IntWalk.i64_in (i3 : Int) (by omega)
                have w6' := IntWalk.i64_in (j4 : Int) (by omega)
                have w7 := IntWalk.i64_in (i4 : Int) (by omega)
                have w8 := IntWalk.i64_in (1 + (i3 : Int)) (by omega)
                have w9 := IntWalk.i64_in (1 + (i4 : Int)) (by omega)
                have hmcA : Calls Try.prog 29 #[.int .i64 12, .slice (some ⟨wr.heap.size, 0, none⟩) 4 4] (wr.alloc (.cells #[.int .i64 v1, .int .i64 (1 + (i3 : Int)), .int .i64 v2, .int .i64 (1 + (i4 : Int))] 3)).drew (RetMod (wr.alloc (.cells #[.int .i64 v1, .int .i64 (1 + (i3 : Int)), .int .i64 v2, .int .i64 (1 + (i4 : Int))] 3)).drew 12 (pairs [v1, 1 + (i3 : Int), v2, 1 + (i4 : Int)])) :=
                  module_c 12 [v1, 1 + (i3 : Int), v2, 1 + (i4 : Int)] _ 4 _ (RdInt.blk (l := [v1, 1 + (i3 : Int), v2, 1 + (i4 : Int)]) (show Blk (wr.alloc (.cells #[.int .i64 v1, .int .i64 (1 + (i3 : Int)), .int .i64 v2, .int .i64 (1 + (i4 : Int))] 3)).drew (wr.heap.size) 3 _ from Blk.new wr 3 _)) (by simp)
                have hmcB : Calls Try.prog 29 #[.int .i64 12, .slice (some ⟨wr.heap.size, 0, none⟩) 4 4] ((wr.alloc (.cells #[.int .i64 v1, .int .i64 (1 + (i3 : Int)), .int .i64 v2, .int .i64 (1 + (i4 : Int))] 3)).alloc (.cells #[.string ⟨#[]⟩, .int .i64 0, .int .i64 0, .slice none 0 0] 44)).drew (RetMod ((wr.alloc (.cells #[.int .i64 v1, .int .i64 (1 + (i3 : Int)), .int .i64 v2, .int .i64 (1 + (i4 : Int))] 3)).alloc (.cells #[.string ⟨#[]⟩, .int .i64 0, .int .i64 0, .slice none 0 0] 44)).drew 12 (pairs [v1, 1 + (i3 : Int), v2, 1 + (i4 : Int)])) :=
                  module_c 12 [v1, 1 + (i3 : Int), v2, 1 + (i4 : Int)] _ 4 _ (RdInt.blk (l := [v1, 1 + (i3 : Int), v2, 1 + (i4 : Int)]) (show Blk ((wr.alloc (.cells #[.int .i64 v1, .int .i64 (1 + (i3 : Int)), .int .i64 v2, .int .i64 (1 + (i4 : Int))] 3)).alloc (.cells #[.string ⟨#[]⟩, .int .i64 0, .int .i64 0, .slice none 0 0] 44)).drew (wr.heap.size) 3 _ from (Blk.new wr 3 _).alloc _)) (by simp)
                have hmcC : Calls Try.prog 29 #[.int .i64 12, .slice (some ⟨wr.heap.size + 1, 0, none⟩) 4 4] ((wr.alloc (.cells #[.string ⟨#[]⟩, .int .i64 0, .int .i64 0, .slice none 0 0] 44)).alloc (.cells #[.int .i64 v1, .int .i64 (1 + (i3 : Int)), .int .i64 v2, .int .i64 (1 + (i4 : Int))] 3)).drew (RetMod ((wr.alloc (.cells #[.string ⟨#[]⟩, .int .i64 0, .int .i64 0, .slice none 0 0] 44)).alloc (.cells #[.int .i64 v1, .int .i64 (1 + (i3 : Int)), .int .i64 v2, .int .i64 (1 + (i4 : Int))] 3)).drew 12 (pairs [v1, 1 + (i3 : Int), v2, 1 + (i4 : Int)])) :=
                  module_c 12 [v1, 1 + (i3 : Int), v2, 1 + (i4 : Int)] _ 4 _ (RdInt.blk (l := [v1, 1 + (i3 : Int), v2, 1 + (i4 : Int)]) (show Blk ((wr.alloc (.cells #[.string ⟨#[]⟩, .int .i64 0, .int .i64 0, .slice none 0 0] 44)).alloc (.cells #[.int .i64 v1, .int .i64 (1 + (i3 : Int)), .int .i64 v2, .int .i64 (1 + (i4 : Int))] 3)).drew (wr.heap.size + 1) 3 _ from by have := Blk.new (wr.alloc (.cells #[.string ⟨#[]⟩, .int .i64 0, .int .i64 0, .slice none 0 0] 44)) 3 #[.int .i64 v1, .int .i64 (1 + (i3 : Int)), .int .i64 v2, .int .i64 (1 + (i4 : Int))]; rw [World.size_alloc] at this; exact this)) (by simp)
                have HkA := Lib.hid (fun w' (hb' : Below (wr.alloc (.cells #[.int .i64 v1, .int .i64 (1 + (i3 : Int)), .int .i64 v2, .int .i64 (1 + (i4 : Int))] 3)).drew.heap.size (wr.alloc (.cells #[.int .i64 v1, .int .i64 (1 + (i3 : Int)), .int .i64 v2, .int .i64 (1 + (i4 : Int))] 3)).drew w') =>
                  have hz : Bp < (wr.alloc (.cells #[.int .i64 v1, .int .i64 (1 + (i3 : Int)), .int .i64 v2, .int .i64 (1 + (i4 : Int))] 3)).drew.heap.size := by show _ < (World.alloc _ _).heap.size; simp; omega
                  And.intro ((hb'.cell (p := ⟨Bp, i1, none⟩) hz).trans ((World.cell?_alloc_lt wr _ _ (by simp; omega)).trans e1)) ((hb'.cell (p := ⟨Bp, i2, none⟩) hz).trans ((World.cell?_alloc_lt wr _ _ (by simp; omega)).trans e2)))
                have HkB := Lib.hid (fun w' (hb' : Below ((wr.alloc (.cells #[.int .i64 v1, .int .i64 (1 + (i3 : Int)), .int .i64 v2, .int .i64 (1 + (i4 : Int))] 3)).alloc (.cells #[.string ⟨#[]⟩, .int .i64 0, .int .i64 0, .slice none 0 0] 44)).drew.heap.size ((wr.alloc (.cells #[.int .i64 v1, .int .i64 (1 + (i3 : Int)), .int .i64 v2, .int .i64 (1 + (i4 : Int))] 3)).alloc (.cells #[.string ⟨#[]⟩, .int .i64 0, .int .i64 0, .slice none 0 0] 44)).drew w') =>
                  have hz : Bp < ((wr.alloc (.cells #[.int .i64 v1, .int .i64 (1 + (i3 : Int)), .int .i64 v2, .int .i64 (1 + (i4 : Int))] 3)).alloc (.cells #[.string ⟨#[]⟩, .int .i64 0, .int .i64 0, .slice none 0 0] 44)).drew.heap.size := by show _ < (World.alloc _ _).heap.size; simp; omega
                  And.intro ((hb'.cell (p := ⟨Bp, i1, none⟩) hz).trans ((World.cell?_alloc_lt (wr.alloc (.cells #[.int .i64 v1, .int .i64 (1 + (i3 : Int)), .int .i64 v2, .int .i64 (1 + (i4 : Int))] 3)) _ _ (by simp; omega)).trans ((World.cell?_alloc_lt wr _ _ (by simp; omega)).trans e1))) ((hb'.cell (p := ⟨Bp, i2, none⟩) hz).trans ((World.cell?_alloc_lt (wr.alloc (.cells #[.int .i64 v1, .int .i64 (1 + (i3 : Int)), .int .i64 v2, .int .i64 (1 + (i4 : Int))] 3)) _ _ (by simp; omega)).trans ((World.cell?_alloc_lt wr _ _ (by simp; omega)).trans e2))))
                have HkC := Lib.hid (fun w' (hb' : Below ((wr.alloc (.cells #[.string ⟨#[]⟩, .int .i64 0, .int .i64 0, .slice none 0 0] 44)).alloc (.cells #[.int .i64 v1, .int .i64 (1 + (i3 : Int)), .int .i64 v2, .int .i64 (1 + (i4 : Int))] 3)).drew.heap.size ((wr.alloc (.cells #[.string ⟨#[]⟩, .int .i64 0, .int .i64 0, .slice none 0 0] 44)).alloc (.cells #[.int .i64 v1, .int .i64 (1 + (i3 : Int)), .int .i64 v2, .int .i64 (1 + (i4 : Int))] 3)).drew w') =>
                  have hz : Bp < ((wr.alloc (.cells #[.string ⟨#[]⟩, .int .i64 0, .int .i64 0, .slice none 0 0] 44)).alloc (.cells #[.int .i64 v1, .int .i64 (1 + (i3 : Int)), .int .i64 v2, .int .i64 (1 + (i4 : Int))] 3)).drew.heap.size := by show _ < (World.alloc _ _).heap.size; simp; omega
                  And.intro ((hb'.cell (p := ⟨Bp, i1, none⟩) hz).trans ((World.cell?_alloc_lt (wr.alloc (.cells #[.string ⟨#[]⟩, .int .i64 0, .int .i64 0, .slice none 0 0] 44)) _ _ (by simp; omega)).trans ((World.cell?_alloc_lt wr _ _ (by simp; omega)).trans e1))) ((hb'.cell (p := ⟨Bp, i2, none⟩) hz).trans ((World.cell?_alloc_lt (wr.alloc (.cells #[.string ⟨#[]⟩, .int .i64 0, .int .i64 0, .slice none 0 0] 44)) _ _ (by simp; omega)).trans ((World.cell?_alloc_lt wr _ _ (by simp; omega)).trans e2))))
                have hq1 : Bp ≠ wr.heap.size + 1 := by omega
                have hq2 : Bp ≠ wr.heap.size := by omega
                have HmB := Lib.hid (fun w' (hb' : Below ((wr.alloc (.cells #[.int .i64 v1, .int .i64 (1 + (i3 : Int)), .int .i64 v2, .int .i64 (1 + (i4 : Int))] 3)).alloc (.cells #[.string ⟨#[]⟩, .int .i64 0, .int .i64 0, .slice none 0 0] 44)).drew.heap.size ((wr.alloc (.cells #[.int .i64 v1, .int .i64 (1 + (i3 : Int)), .int .i64 v2, .int .i64 (1 + (i4 : Int))] 3)).alloc (.cells #[.string ⟨#[]⟩, .int .i64 0, .int .i64 0, .slice none 0 0] 44)).drew w') => mod_cells (B := wr.heap.size + 1) (show Blk ((wr.alloc (.cells #[.int .i64 v1, .int .i64 (1 + (i3 : Int)), .int .i64 v2, .int .i64 (1 + (i4 : Int))] 3)).alloc (.cells #[.string ⟨#[]⟩, .int .i64 0, .int .i64 0, .slice none 0 0] 44)).drew (wr.heap.size + 1) 44 modZ from by have := Blk.new (wr.alloc (.cells #[.int .i64 v1, .int .i64 (1 + (i3 : Int)), .int .i64 v2, .int .i64 (1 + (i4 : Int))] 3)) 44 modZ; rw [World.size_alloc] at this; exact this) hb')
                have HmC := Lib.hid (fun w' (hb' : Below ((wr.alloc (.cells #[.string ⟨#[]⟩, .int .i64 0, .int .i64 0, .slice none 0 0] 44)).alloc (.cells #[.int .i64 v1, .int .i64 (1 + (i3 : Int)), .int .i64 v2, .int .i64 (1 + (i4 : Int))] 3)).drew.heap.size ((wr.alloc (.cells #[.string ⟨#[]⟩, .int .i64 0, .int .i64 0, .slice none 0 0] 44)).alloc (.cells #[.int .i64 v1, .int .i64 (1 + (i3 : Int)), .int .i64 v2, .int .i64 (1 + (i4 : Int))] 3)).drew w') => mod_cells (B := wr.heap.size) (show Blk ((wr.alloc (.cells #[.string ⟨#[]⟩, .int .i64 0, .int .i64 0, .slice none 0 0] 44)).alloc (.cells #[.int .i64 v1, .int .i64 (1 + (i3 : Int)), .int .i64 v2, .int .i64 (1 + (i4 : Int))] 3)).drew wr.heap.size 44 modZ from (Blk.new wr 44 modZ).alloc _) hb')
                have HzA := Lib.hid (show wr.heap.size ≤ (wr.alloc (.cells #[.int .i64 v1, .int .i64 (1 + (i3 : Int)), .int .i64 v2, .int .i64 (1 + (i4 : Int))] 3)).drew.heap.size by show _ ≤ (World.alloc _ _).heap.size; simp)
                have HzB := Lib.hid (show wr.heap.size ≤ ((wr.alloc (.cells #[.int .i64 v1, .int .i64 (1 + (i3 : Int)), .int .i64 v2, .int .i64 (1 + (i4 : Int))] 3)).alloc (.cells #[.string ⟨#[]⟩, .int .i64 0, .int .i64 0, .slice none 0 0] 44)).drew.heap.size by show _ ≤ (World.alloc _ _).heap.size; simp; omega)
                have HzC := Lib.hid (show wr.heap.size ≤ ((wr.alloc (.cells #[.string ⟨#[]⟩, .int .i64 0, .int .i64 0, .slice none 0 0] 44)).alloc (.cells #[.int .i64 v1, .int .i64 (1 + (i3 : Int)), .int .i64 v2, .int .i64 (1 + (i4 : Int))] 3)).drew.heap.size by show _ ≤ (World.alloc _ _).heap.size; simp; omega)
                have HbA := Lib.hid (show Below wr.heap.size wr (wr.alloc (.cells #[.int .i64 v1, .int .i64 (1 + (i3 : Int)), .int .i64 v2, .int .i64 (1 + (i4 : Int))] 3)).drew from ((Below.refl _ wr).alloc (Nat.le_refl _) _).drew)
                have HbB := Lib.hid (show Below wr.heap.size wr ((wr.alloc (.cells #[.int .i64 v1, .int .i64 (1 + (i3 : Int)), .int .i64 v2, .int .i64 (1 + (i4 : Int))] 3)).alloc (.cells #[.string ⟨#[]⟩, .int .i64 0, .int .i64 0, .slice none 0 0] 44)).drew from (((Below.refl _ wr).alloc (Nat.le_refl _) _).alloc (by simp) _).drew)
                have HbC := Lib.hid (show Below wr.heap.size wr ((wr.alloc (.cells #[.string ⟨#[]⟩, .int .i64 0, .int .i64 0, .slice none 0 0] 44)).alloc (.cells #[.int .i64 v1, .int .i64 (1 + (i3 : Int)), .int .i64 v2, .int .i64 (1 + (i4 : Int))] 3)).drew from (((Below.refl _ wr).alloc (Nat.le_refl _) _).alloc (by simp) _).drew)
                go_region_held3 (fun w' => w'.cell? ⟨Bp, i1, none⟩ = some (.int .i64 v1) ∧ w'.cell? ⟨Bp, i2, none⟩ = some (.int .i64 v2)) (first | (with_reducible exact ⟨(set4 hq1).trans hk1, (set4 hq1).trans hk2⟩) | (with_reducible exact ⟨(set4 hq2).trans hk1, (set4 hq2).trans hk2⟩) | go_keep) (first | ((go_at_call 29; (with_reducible refine hmcA.mono ?_); rintro e w' ⟨A9, c9, rfl, hp, hb'⟩; have hk1 := (HkA.out w' hb').1; have hk2 := (HkA.out w' hb').2; have hbf := HbA.out.trans (hb'.mono HzA.out))) | ((go_at_call 29; (with_reducible refine hmcB.mono ?_); rintro e w' ⟨A9, c9, rfl, hp, hb'⟩; have hk1 := (HkB.out w' hb').1; have hk2 := (HkB.out w' hb').2; obtain ⟨hmb, n0, n1, n2, n3, n4, n5, n6, n7⟩ := HmB.out w' hb'; have hbf := HbB.out.trans (hb'.mono HzB.out))) | ((go_at_call 29; (with_reducible refine hmcC.mono ?_); rintro e w' ⟨A9, c9, rfl, hp, hb'⟩; have hk1 := (HkC.out w' hb').1; have hk2 := (HkC.out w' hb').2; obtain ⟨hmb, n0, n1, n2, n3, n4, n5, n6, n7⟩ := HmC.out w' hb'; have hbf := HbC.out.trans (hb'.mono HzC.out))))
                all_goals
                  go_wp2_with fail
                  go_meet
                  first
                  | (obtain ⟨x1, x2, x3⟩ := mod_set (W := wr) (by simp [pairs]) hmb hp (by omega) hbf
                     exact ⟨_, _, A9, c9, rfl, by simp [pairs], x1, x2, hB8.trans (x3.mono hB8.size)⟩)
                  | exact ⟨_, _, A9, c9, rfl, by simp [pairs], Blk.new _ _ _, hp.below ((Below.refl _ _).alloc (Nat.le_refl _) _), (hB8.trans (hbf.mono hB8.size)).alloc (hB8.trans (hbf.mono hB8.size)).size _⟩
              case rest =>
                obtain ⟨Bm, ps, A9, c9, rfl, hps, hbm, hpr, hBc⟩ := hcut
                clear hp8 hpz hB8
                have g0 : wc.cell? ⟨Bm, 0, none⟩ = some (.string ⟨#[]⟩) := hbm.cell 0
                have g1 : wc.cell? ⟨Bm, 1, none⟩ = some (.int .i64 0) := hbm.cell 1
                have g2 : wc.cell? ⟨Bm, 2, none⟩ = some (.int .i64 12) := hbm.cell 2
                have g3 : wc.cell? ⟨Bm, 3, none⟩ = some (.slice A9 ps.length c9) := hbm.cell 3
                have gz := hbm.lt
                go_wp2_with fail
                have hos : RdInt (wc.alloc (.cells #[.int .i64 ((n : Int) % 5), .int .i64 ((n : Int) / 5 % 7)] 3)) (wc.alloc (.cells #[.int .i64 ((n : Int) % 5), .int .i64 ((n : Int) / 5 % 7)] 3)).heap.size (some ⟨wc.heap.size, 0, none⟩) [(n : Int) % 5, (n : Int) / 5 % 7] := RdInt.blk (l := [(n : Int) % 5, (n : Int) / 5 % 7]) (Blk.new wc 3 _)
                have hS7 : SR w6 Bm ps A9 c9 [(n : Int) % 5, (n : Int) / 5 % 7] (some ⟨wc.heap.size, 0, none⟩) (wc.alloc (.cells #[.int .i64 ((n : Int) % 5), .int .i64 ((n : Int) / 5 % 7)] 3)) := ⟨hbm.alloc _, hpr.below ((Below.refl _ _).alloc (Nat.le_refl _) _), hos, hBc.alloc hBc.size _⟩
                clear hbm hpr hBc hos g0 g1 g2 g3 gz
                refine nameC fun W7 hW7 => ?_
                rw [← hW7] at hS7
                clear hW7
                generalize wc.heap.size = Bo at *
                generalize hosl : ([(n : Int) % 5, (n : Int) / 5 % 7] : List Int) = os at hS7
                have Hosl := Lib.hid (show os.length = 2 by rw [← hosl]; rfl)
                clear hosl
                have hrt := refTable_c ⟨#[]⟩ 0 12 ps A9 c9 os (some ⟨Bo, 0, none⟩) 2 W7 hS7.pt hS7.os_ (by omega) (by have := Hosl.out; omega)
                rw [Hosl.out] at hrt
                refine hrt.mono ?_
                rintro e W8 ⟨A11, c11, rfl, hrd, hb8⟩
                have hS8 := hS7.next hb8
                have htl := tableF_len2 12 ps os
                clear hrt hS7 hb8
                generalize tableF 12 ps os = tv at *
                obtain ⟨t, te⟩ := tv
                simp only at *
                have ht72 : t.length ≤ 72 := by
                  have : (12 : Int).toNat * ps.length ≤ 12 * 6 := Nat.mul_le_mul (by decide) hps
                  omega
                clear htl
                obtain ⟨i31, hi31, hz31, hz31', hz31''⟩ := info_parts info31
                have Hread := Lib.hid ((rdReg_reads hrd).alloc (Nat.le_refl _) (.cells #[] 31))
                have Hone := Lib.hid (cells3_one t)
                go_wp2_with (at_builtin; refine wpList_append_any _ rfl _ _ 26 rfl W8.heap.size 31 i31 (.agg #[.int .i64 0, .int .i64 0, .int .i64 0]) 3 24 Try.underlying26 hi31 hz31 hz31' hz31'' rfl (by decide) _ 0 [] rfl (World.ownsRow_made _ #[] 0 (Nat.le_refl _) (by simp [maxLen]) (by simp)) W8.heap.size A11 t.length c11 (t.flatMap (cellsG Win.tri)) rfl Hread.out Hone.out ?c3 ?c4 ?c5 ?_)
                case c3 => unfold maxLen; omega
                case c4 => omega
                case c5 => simp
                intro v' w9 hown2 hgrow hwhere
                have hB9 : Below W8.heap.size W8 w9 := ((Below.refl _ W8).alloc (Nat.le_refl _) _).grown hgrow (by simp) (fun k hk => by simp [Value.ownBlock] at hk; omega)
                try rw [List.nil_append, Nat.zero_add] at hown2
                clear hgrow hwhere Hread Hone
                obtain ⟨A13, c13, rfl, hr13⟩ := RdG.of_own (f := Win.tri) rfl hown2
                have Hown2 := Lib.hid hown2
                clear hown2
                have h13 : (0 : Int) ≤ (t.length : Int) := by omega
                go_upto_if 112 with fail
                go_cut [14] (fun _ wc => ∃ bad : List Win, bad.length = t.length ∧ RdG Win.tri wc wc.heap.size A13 bad ∧ Below W8.heap.size W8 wc)
                case first =>
                  by_cases ht0 : 0 < t.length
                  · have hd : decide (0 < t.length) = true := decide_eq_true ht0
                    obtain ⟨g, cap, e1, hg8, hg9⟩ := Hown2.out.form ht0
                    have hrow := Row.of_own rfl (by rw [e1] at Hown2; exact Hown2.out)
                    injection e1 with e1 _ e3
                    subst e1 e3
                    obtain ⟨i, hi, him⟩ : ∃ i : Nat, (n : Int) % (t.length : Int) = (i : Int) ∧ i < t.length := ⟨n % t.length, rfl, Nat.mod_lt _ ht0⟩
                    have hj0 : (0 : Int) ≤ (i : Int) := by omega
                    have hj1 : (i : Int) < (t.length : Int) := by omega
                    have hj2 : (t.length : Int) ≠ 0 := by omega
                    have q0 := (hrow.cells i him).1
                    have q1 := (hrow.cells i him).2.1
                    have q2 := (hrow.cells i him).2.2
                    have hfz := fun k => Blk.frozen (t := 31) (cs := hrow.choose) hrow.choose_spec.1 k
                    have hn3 : (n : Int) % 3 = 0 ∨ (n : Int) % 3 = 1 ∨ (n : Int) % 3 = 2 := by omega
                    rcases hn3 with hn3 | hn3 | hn3
                    · go_wp2_with fail
                      go_meet
                      exact ⟨_, by simp, (hrow.set i 0 him (by omega) _).rd, hB9.setCell (p := ⟨g, i * 3, none⟩) hg8 _⟩
                    · go_wp2_with fail
                      go_meet
                      exact ⟨_, by simp, (hrow.set i 1 him (by omega) _).rd, hB9.setCell (p := ⟨g, i * 3 + 1, none⟩) hg8 _⟩
                    · go_wp2_with fail
                      go_meet
                      exact ⟨_, by simp, (hrow.set i 2 him (by omega) _).rd, hB9.setCell (p := ⟨g, i * 3 + 2, none⟩) hg8 _⟩
                  · have hd : decide (0 < t.length) = false := decide_eq_false ht0
                    go_wp2_with fail
                    go_meet
                    exact ⟨t, rfl, hr13, hB9⟩
                case rest =>
                  obtain ⟨bad, hbl, hrb, hB10⟩ := hcut
                  have hS9 := hS8.next hB10
                  have hrd9 := hrd.below hB10
                  have Hbl := Lib.hid hbl
                  clear hbl hS8 hrd hB9 hr13 Hown2 hB10
                  have g0 : wc.cell? ⟨Bm, 0, none⟩ = some (.string ⟨#[]⟩) := hS9.bm.cell 0
                  have g1 : wc.cell? ⟨Bm, 1, none⟩ = some (.int .i64 0) := hS9.bm.cell 1
                  have g2 : wc.cell? ⟨Bm, 2, none⟩ = some (.int .i64 12) := hS9.bm.cell 2
                  have g3 : wc.cell? ⟨Bm, 3, none⟩ = some (.slice A9 ps.length c9) := hS9.bm.cell 3
                  have gz := hS9.bm.lt
                  obtain ⟨r, m1, hr3⟩ := tmod_nat n 3 (by omega)
                  have hr0 : (0 : Int) ≤ (r : Int) := by omega
                  have hr2 : (r : Int) ≤ 2 := by omega
                  have w1 := IntWalk.i64_in (r : Int) (by omega)
                  have k1 : ∀ x : Ext wc, Calls Try.prog 28 #[.agg #[.string ⟨#[]⟩, .int .i64 0, .int .i64 12, .slice A9 ps.length c9], .slice (some ⟨Bo, 0, none⟩) 2 2, .slice A11 t.length c11] x.w fun e w' => e = .returned (.bool true) ∧ Below x.w.heap.size x.w w' := fun x => by
                    have hS := hS9.next x.h
                    have := tables_c ⟨#[]⟩ 0 12 ps A9 c9 os (some ⟨Bo, 0, none⟩) 2 t A11 c11 x.w hS.pt hS.os_ (hrd9.below x.h) (by omega) (by have := Hosl.out; omega) (by omega)
                    rwa [Hosl.out] at this
                  have k2 : ∀ x : Ext wc, Calls Try.prog 28 #[.agg #[.string ⟨#[]⟩, .int .i64 0, .int .i64 12, .slice A9 ps.length c9], .slice (some ⟨Bo, 0, none⟩) r 2, .slice A13 t.length c13] x.w fun e w' => e = .returned (.bool true) ∧ Below x.w.heap.size x.w w' := fun x => by
                    have hS := hS9.next x.h
                    have hot : RdInt x.w x.w.heap.size (some ⟨Bo, 0, none⟩) (os.take r) := fun hn => by
                      obtain ⟨b, o, e, hb, hc⟩ := hS.os_ (by rw [Hosl.out]; omega)
                      refine ⟨b, o, e, hb, fun i hi => ?_⟩
                      have hi' : i < os.length := by have := List.length_take_le r os; have := List.length_take_le' r os; omega
                      rw [List.getElem_take]; exact hc i hi'
                    have hol : (os.take r).length = r := by rw [List.length_take, Hosl.out]; omega
                    have := tables_c ⟨#[]⟩ 0 12 ps A9 c9 (os.take r) (some ⟨Bo, 0, none⟩) 2 bad A13 c13 x.w hS.pt hot (hrb.below x.h) (by omega) (by omega) (by have := Hbl.out; omega)
                    rwa [hol, Hbl.out] at this
                  have hec := ext_cell wc
                  have hBc := hS9.hb
                  clear hrd9 hrb hS9
                  go_wp2_with fail
                  refine wp_region_ext (by kernel_rfl) (by kernel_rfl) ?_
                  repeat (go_big_quiet_step ((first | (go_at_call 28; with_reducible exact ext_call (k1 _)) | (go_at_call 28; with_reducible exact ext_call (k2 _)))))
                  refine wpQuiet_nil ?_
                  intro _ hw'
                  obtain ⟨xx, hw''⟩ := hw'
                  subst hw''
                  have hB11 := hBc.trans (xx.h.mono hBc.size)
                  clear hec k1 k2 g0 g1 g2 g3 gz w1 m1
                  generalize xx.w = w12 at hB11 ⊢
                  go_wp2
                  go_roundw
                  case rel => exact ⟨n + 1, by omega, by go_num, hB11⟩
                  case measure => simp [intOf]; omega
            · obtain rfl : n = 2401 := by omega
              have hB9 := hB7.trans (hB8.mono hB7.size)
              clear hB7 hB8 hp0
              go_wp2_with fail
              have hA1 : Below w.heap.size w (wr.alloc (.cells (([2000, 2000] : List Int).map (Value.int .i64)).toArray 3)) := hB9.alloc hB9.size _
              refine (module_c 2000 [2000, 2000] _ 2 _ (RdInt.blk (l := [2000, 2000]) (Blk.new wr 3 _)) (by simp)).mono ?_
              rintro e y1 ⟨A1, c1, rfl, hp1', hb1⟩
              have hC1 := hA1.trans (hb1.mono hA1.size)
              clear hA1 hb1
              go_wp2_with fail
              have hD1 : Below w.heap.size w (y1.alloc (.cells (([0] : List Int).map (Value.int .i64)).toArray 3)) := hC1.alloc hC1.size _
              refine (tables_c ⟨#[]⟩ 0 2000 (pairs [2000, 2000]) A1 c1 [0] _ 1 [] none 0 _ (hp1'.below ((Below.refl _ _).alloc (Nat.le_refl _) _)) (RdInt.blk (l := [0]) (Blk.new y1 3 _)) (fun h => absurd h (by simp)) (by simp [pairs]) (by simp) (by simp)).mono ?_
              rintro e z1 ⟨rfl, hb1⟩
              have hE1 := hD1.trans (hb1.mono hD1.size)
              clear hC1 hD1 hb1 hp1'
              go_wp2_with fail
              have hA2 : Below w.heap.size w (z1.alloc (.cells (([1, 1] : List Int).map (Value.int .i64)).toArray 3)) := hE1.alloc hE1.size _
              refine (module_c 2001 [1, 1] _ 2 _ (RdInt.blk (l := [1, 1]) (Blk.new z1 3 _)) (by simp)).mono ?_
              rintro e y2 ⟨A2, c2, rfl, hp2', hb2⟩
              have hC2 := hA2.trans (hb2.mono hA2.size)
              clear hA2 hb2
              go_wp2_with fail
              have hD2 : Below w.heap.size w (y2.alloc (.cells (([0] : List Int).map (Value.int .i64)).toArray 3)) := hC2.alloc hC2.size _
              refine (tables_c ⟨#[]⟩ 0 2001 (pairs [1, 1]) A2 c2 [0] _ 1 [] none 0 _ (hp2'.below ((Below.refl _ _).alloc (Nat.le_refl _) _)) (RdInt.blk (l := [0]) (Blk.new y2 3 _)) (fun h => absurd h (by simp)) (by simp [pairs]) (by simp) (by simp)).mono ?_
              rintro e z2 ⟨rfl, hb2⟩
              have hE2 := hD2.trans (hb2.mono hD2.size)
              clear hC2 hD2 hb2 hp2'
              go_wp2_with fail
              have hA3 := hE2
              refine (module_c 0 [] none 0 _ (fun h => absurd h (by simp)) (by simp)).mono ?_
              rintro e y3 ⟨A3, c3, rfl, hp3', hb3⟩
              have hC3 := hA3.trans (hb3.mono hA3.size)
              clear hA3 hb3
              go_wp2_with fail
              have hD3 := hC3
              refine (tables_c ⟨#[]⟩ 0 0 (pairs []) A3 c3 [] none 0 [] none 0 _ hp3' (fun h => absurd h (by simp)) (fun h => absurd h (by simp)) (by simp [pairs]) (by simp) (by simp)).mono ?_
              rintro e z3 ⟨rfl, hb3⟩
              have hE3 := hD3.trans (hb3.mono hD3.size)
              clear hC3 hD3 hb3 hp3'
              go_wp2_with fail
              have hA4 := hE3
              refine (module_c 7 [] none 0 _ (fun h => absurd h (by simp)) (by simp)).mono ?_
              rintro e y4 ⟨A4, c4, rfl, hp4', hb4⟩
              have hC4 := hA4.trans (hb4.mono hA4.size)
              clear hA4 hb4
              go_wp2_with fail
              have hD4 := hC4
              refine (tables_c ⟨#[]⟩ 0 7 (pairs []) A4 c4 [] none 0 [] none 0 _ hp4' (fun h => absurd h (by simp)) (fun h => absurd h (by simp)) (by simp [pairs]) (by simp) (by simp)).mono ?_
              rintro e z4 ⟨rfl, hb4⟩
              have hE4 := hD4.trans (hb4.mono hD4.size)
              clear hC4 hD4 hb4 hp4'
              go_wp2_with fail
              refine (awake_c z4).mono ?_
              rintro e z5 ⟨rfl, hb5⟩
              have hE5 := hE4.trans (hb5.mono hE4.size)
              clear hE4 hb5
              go_wp2
              go_ret
              exact ⟨rfl, hE5⟩

-- THE ROW
set_option maxRecDepth 100000 in
theorem windowSmall_lifted (os : Os) (started : os.Started) (H : Type) (enc : TypeId × Value → H) :
    ReturnsInHanded {} Try.checked os 10 .any (Rows.windowSmallSpec.pre6 enc Try.prog Try.f10 Rows.windowSmallRow.domain false) (Rows.windowSmallSpec.post enc Try.prog Try.f10 false true false false) := by
  refine returnsInHanded_of_change (C := Try.checked) own started (by kernel_rfl) Try.func10
    (ChangeSpec.witness6 (enc := enc) (C := Try.checked) false ⟨#[], #[], []⟩ 8 (by kernel_rfl) (by kernel_rfl) (by kernel_rfl) (by kernel_rfl)) ?_
  intro W base args ds gs before hval0 hW hcnd _
  have hval : ∀ (j : Nat) t v, Try.f10.params[j]? = some t → args[j]? = some v → Value.okWide Try.prog W .any base t v := hval0
  have hW' := hW
  obtain ⟨p, q, hA0, hV, rfl, hfz, hnd⟩ := hW
  have hA : DataW.TrodAll enc Try.prog W 0 (fun _ => true) true Try.f10.params.toList args.toList ds p := hA0
  rw [Try.params10] at hA hval
  obtain ⟨rfl, rfl, rfl⟩ := trodAll_none hA
  clear hA0 hval0
  refine (small_walk W).mono fun e W' ⟨he, hg⟩ => ?_
  subst he
  refine ⟨_, rfl, law_post (tb := 4) laid ?_ ?_ Try.underlying4 rfl hW' ⟨rfl, rfl, rfl⟩ hg⟩
  · rw [Try.params10]; intro t ht; simp at ht
  · kernel_rfl

theorem windowSmall_holds : Rows.WindowSmallSaid :=
  OpenClaim.holds_of_wide 10 Try.f10 rfl rfl rfl rfl rfl rfl rfl ⟨rfl, rfl, rfl, rfl, rfl⟩ rfl rfl rfl rfl rfl (by kernel_rfl) Try.func10 (by kernel_rfl)
    (of_decide_eq_true (by kernel_rfl)) (by unfold Func.isWrapper; first | (rw [if_pos (by decide +kernel)]; kernel_rfl) | (rw [if_neg (by decide +kernel)]; exact ⟨rfl, rfl⟩))
    (fun os started H enc _ => windowSmall_lifted os started H enc)
#print axioms windowSmall_holds
end Go.Proofs.Ytlmbffnmjfbglaa
