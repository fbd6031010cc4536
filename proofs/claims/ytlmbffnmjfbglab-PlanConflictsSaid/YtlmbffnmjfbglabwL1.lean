/- The contracts of LentInts and KeptInts. -/
import Derived.Test.YtlmbffnmjfbglabwL0
import Derived.Test.YtlmbffnmjfbglabwFi
namespace Go.Proofs.Ytlmbffnmjfbglab
open Go.ChangeShapes Go.WideShapes Go.ChangeAt Go.RowKit

def markI (i : Nat) : Int := 8000024 + i
/-- a row of integers. -/
def RowI (w : World) (g cap : Nat) (l : List Int) : Prop := l.length ≤ cap ∧ cap ≤ 9223372036854775807 ∧ ∃ cs, Blk w g 3 cs ∧ ∀ i (h : i < l.length), cs[i]? = some (.int .i64 l[i])
theorem RowI.lt {w : World} {g cap : Nat} {l : List Int} (h : RowI w g cap l) : g < w.heap.size := by obtain ⟨_, _, cs, hb, _⟩ := h; exact hb.lt
theorem RowI.cell {w : World} {g cap : Nat} {l : List Int} (h : RowI w g cap l) (i : Nat) (hi : i < l.length) : w.cell? ⟨g, i, none⟩ = some (.int .i64 l[i]) := by
  obtain ⟨_, _, cs, hb, hc⟩ := h; rw [hb.cell i]; exact hc i hi
theorem RowI.below {w w' : World} {g cap B : Nat} {l : List Int} (h : RowI w g cap l) (hb : Below B w w') (hg : g < B) : RowI w' g cap l := by
  obtain ⟨h1, h2, cs, h3, h4⟩ := h; exact ⟨h1, h2, cs, h3.below hb hg, h4⟩
theorem RowI.of_own {w : World} {base g cap n : Nat} {l : List Int} (hn : n = l.length) (h : w.ownsRow base 3 1 (.slice (some ⟨g, 0, none⟩) n cap) n (l.map (Value.int .i64))) : RowI w g cap l := by
  subst hn
  rcases h.2 with ⟨h0, _⟩ | ⟨g', cap', cur, h0, h1, hh, h2, h3, _⟩
  · cases h0
  · injection h0 with e1 _ e2
    injection e1 with e1
    injection e1 with e1
    subst e1 e2
    refine ⟨by omega, by unfold maxLen at h3; omega, cur, hh, fun i hi => ?_⟩
    have := h.cells (g := g) rfl i (.int .i64 l[i]) (by simp [hi])
    have e : (⟨g, 0, none⟩ : Addr).add i = ⟨g, i, none⟩ := by rw [add_none]; simp
    rw [e, Blk.cell (t := 3) hh i] at this
    exact this
/-- a copy of l with twelve marks behind it. -/
def LentI (w : World) (v : Value) (l : List Int) : Prop := ∃ g cap, v = .slice (some ⟨g, 0, none⟩) l.length cap ∧ RowI w g cap (l ++ (List.range 12).map markI)
theorem LentI.below {w w' : World} {v : Value} {l : List Int} (h : LentI w v l) (hb : Below w.heap.size w w') : LentI w' v l := by
  obtain ⟨g, cap, rfl, hr⟩ := h
  exact ⟨g, cap, rfl, hr.below hb hr.lt⟩
theorem LentI.rd {w : World} {v : Value} {l : List Int} (h : LentI w v l) : ∃ A c, v = .slice A l.length c ∧ RdInt w w.heap.size A l := by
  obtain ⟨g, cap, rfl, hr⟩ := h
  refine ⟨_, _, rfl, fun _ => ⟨g, 0, rfl, hr.lt, fun i hi => ?_⟩⟩
  have := hr.cell i (by simp; omega)
  rw [List.getElem_append_left hi] at this
  rw [Nat.zero_add]; exact this
def LentIPost (w : World) (l : List Int) (e : Ending) (w' : World) : Prop := ∃ v, e = .returned v ∧ LentI w' v l ∧ Below w.heap.size w w'
theorem rdInt_reads {w : World} {B : Nat} {A : Option Addr} {l : List Int} (h : RdInt w B A l) : Reads w B 1 A l.length (l.map (Value.int .i64)) :=
  ⟨by simp, fun hn => by
    obtain ⟨b, o, rfl, hb, hc⟩ := h hn
    refine ⟨_, rfl, hb, fun j u hu => ?_⟩
    rw [add_none]
    rw [List.getElem?_map] at hu
    obtain ⟨x, hx, rfl⟩ := Option.map_eq_some_iff.1 hu
    obtain ⟨hj, rfl⟩ := List.getElem?_eq_some_iff.1 hx
    exact hc j hj⟩
theorem ints_one (l : List Int) : ∀ u ∈ l.map (Value.int .i64), u.oneCell' = true := fun u hu => by
  obtain ⟨r, _, rfl⟩ := List.mem_map.1 hu; rfl
def lentITo (l : List Int) (k : Nat) : List Value := (l ++ (List.range k).map markI).map (Value.int .i64)
theorem lentITo_zero (l : List Int) : lentITo l 0 = l.map (Value.int .i64) := by simp [lentITo]
theorem lentITo_succ (l : List Int) (k : Nat) : lentITo l (k + 1) = lentITo l k ++ [.int .i64 (markI k)] := by
  simp [lentITo, List.range_succ]

set_option maxRecDepth 100000 in
set_option maxHeartbeats 1000000 in
theorem lentI_c (l : List Int) (A : Option Addr) (c : Nat) (w : World) (h : RdInt w w.heap.size A l) (hl : l.length ≤ 1000) :
    Calls Try.prog 48 #[.slice A l.length c] w (LentIPost w l) := by
  obtain ⟨i0, hi0, hz0, hz1, hz2⟩ := info_parts info3
  have hmk : ∀ W, (Instr.makeSlice 28 (.int .i64 0) (.int .i64 ((l.length : Int) + 12))).run Try.prog W = .ok (.slice (some ⟨W.heap.size, 0, none⟩) 0 (l.length + 12)) (W.alloc (.cells (madeCells #[.int .i64 0] (l.length + 12)) 3)) := fun W => by
    have e := run_make_rowN (P := Try.prog) 28 3 i0 _ Try.underlying28 hi0 hz0 .i64 .i64 0 (l.length + 12) (by omega) (by rw [hz2]; omega) (by omega) W
    rw [hz1] at e
    simpa [Value.cells] using e
  have hread := (rdInt_reads h).alloc (Nat.le_refl _) (.cells (madeCells #[.int .i64 0] (l.length + 12)) 3)
  have hone := ints_one l
  have Hread := Lib.hid hread
  have Hone := Lib.hid hone
  clear hread hone h
  go_enter Try.func48, Try.ntmps48
  go_wp2_with (at_builtin; refine wpList_append_any _ rfl _ _ 28 rfl w.heap.size 3 i0 (.int .i64 0) 1 8 Try.underlying28 hi0 hz0 hz1 hz2 rfl (by decide) _ 0 [] rfl (World.ownsRow_made _ _ (l.length + 12) (Nat.le_refl _) (by simp [maxLen]; omega) (by simp [size_madeCells])) w.heap.size A l.length c (l.map (Value.int .i64)) rfl Hread.out Hone.out ?c3 ?c4 ?c5 ?_)
  case c3 => unfold maxLen; omega
  case c4 => omega
  case c5 => simp
  intro v' w2 hown2 hgrow hwhere
  have hB : Below w.heap.size w w2 := ((Below.refl _ w).alloc (Nat.le_refl _) _).grown hgrow (by simp) (fun k hk => by simp [Value.ownBlock] at hk; omega)
  try rw [List.nil_append, Nat.zero_add] at hown2
  clear hgrow hwhere Hread Hone hmk
  have hbig : (l.length : Int) ≤ 1000 := by omega
  go_wp2
  go_loopw [3, 4] (fun v i wr => ∃ k : Nat, k ≤ 12 ∧ i = .int .i64 k ∧ Below w.heap.size w wr ∧ wr.ownsRow w.heap.size 3 1 v (l.length + k) (lentITo l k)) (fun _ i _ => 12 - (intOf i).toNat)
  case atStart => exact ⟨0, by omega, rfl, hB, by rw [lentITo_zero]; exact hown2⟩
  case round =>
    obtain ⟨k, hk, rfl, hB3, hown⟩ := hrel
    by_cases hlt : k < 12
    · have hmark := mark_c k wr (by omega) (by omega)
      have hz := hB3.size
      change Calls Try.prog 70 _ wr fun e w' => e = .returned (.int .i64 (markI k)) ∧ wr = w' at hmark
      go_wp2_with fail
      refine hmark.mono ?_
      rintro e w3 ⟨rfl, rfl⟩
      clear hmark
      go_wp2_with (at_builtin; refine wpList_append_own _ rfl _ _ 28 rfl w.heap.size 3 i0 (.int .i64 0) 1 8 Try.underlying28 hi0 hz0 hz1 hz2 rfl (by decide) _ _ _ rfl (hown.alloc _) ⟨wr.heap.size, 0, none⟩ 1 1 [.int .i64 (markI k)] rfl rfl ?c1 ?c2 ?c3 ?c4 ?c5 ?_)
      case c1 => exact World.news_of_block (cs := #[.int .i64 (markI k)]) (t := 3) (fr := (0, 0)) (heap_alloc_new wr _)
      case c2 => simp [Value.oneCell']
      case c3 => unfold maxLen; omega
      case c4 => omega
      case c5 => simp; omega
      intro v4 w4 hown4 hgrow4 _
      have hB5 : Below w.heap.size w w4 := (hB3.alloc hz _).grown hgrow4 (by simp; omega) (fun g hg => (hown.lt g hg).1)
      have heq := lentITo_succ l k
      rw [← heq] at hown4
      have Hown4 := Lib.hid hown4
      clear hgrow4 hown heq hown4
      go_wp2
      go_roundw
      case rel => exact ⟨k + 1, by omega, by go_num, hB5, Hown4.out⟩
      case measure => simp [intOf]; omega
    · obtain rfl : k = 12 := by omega
      have hlen : (l ++ (List.range 12).map markI).length = l.length + 12 := by simp
      have hex : ∃ g cap, u3 = .slice (some ⟨g, 0, none⟩) (l.length + 12) cap ∧ l.length + 12 ≤ cap ∧ cap ≤ 9223372036854775807 := by
        rcases hown.2 with ⟨_, h0⟩ | ⟨g, cap, cur, h0, _, _, h1, h2, _⟩
        · omega
        · exact ⟨g, cap, h0, h1, h2⟩
      obtain ⟨g, cap, rfl, hcap, hcm⟩ := hex
      have hrow := RowI.of_own (l := l ++ (List.range 12).map markI) (by rw [hlen]) hown
      have Hrow := Lib.hid hrow
      clear hrow hown hlen hown2
      go_wp2
      go_ret
      exact ⟨.slice (some ⟨g, 0, none⟩) l.length cap, by simp, ⟨g, cap, rfl, Hrow.out⟩, hB3⟩

set_option maxRecDepth 100000 in
set_option maxHeartbeats 1000000 in
theorem keptI_c (v : Value) (l : List Int) (A : Option Addr) (c : Nat) (w : World) (hv : LentI w v l) (h : RdInt w w.heap.size A l) (hl : l.length ≤ 1000) :
    Calls Try.prog 53 #[v, .slice A l.length c] w fun e w' => e = .returned (.bool true) ∧ Below w.heap.size w w' := by
  obtain ⟨g, cap, rfl, hr⟩ := hv
  have hcap : l.length + 12 ≤ cap := by have := hr.1; simpa using this
  have hcm : cap ≤ 9223372036854775807 := hr.2.1
  have hgl := hr.lt
  have hne : ((l.length : Int) != (l.length : Int)) = false := by simp
  go_enter Try.func53, Try.ntmps53
  go_wp2
  go_loopw [6] (fun i wr => ∃ k : Nat, k ≤ l.length + 12 ∧ i = .int .i64 k ∧ Below w.heap.size w wr) (fun i _ => l.length + 12 - (intOf i).toNat)
  case atStart => exact ⟨0, by omega, rfl, Below.refl _ _⟩
  case round =>
    obtain ⟨k, hk, rfl, hB⟩ := hrel
    have hr2 := hr.below hB hgl
    have hg2 := hr2.lt
    by_cases hlt : k < l.length
    · obtain ⟨b, o, rfl, hb, hc⟩ := h.keep hB (by omega)
      have c0 := hc k hlt
      have d0 := hr2.cell k (by simp; omega)
      rw [List.getElem_append_left hlt] at d0
      clear hc h hr hr2
      generalize l[k] = r at c0 d0
      have hi0 : (0 : Int) ≤ (k : Int) := by omega
      have hi1 : (k : Int) < (l.length : Int) := by omega
      have hi2 : (k : Int) < (l.length : Int) + 12 := by omega
      have t1 : decide (k < l.length) = true := by simp; omega
      have t2 : decide (l.length ≤ k) = false := by simp; omega
      have t3 : (r == r) = true := by simp
      go_wp2
      go_quiet (fail)
      go_wp2
      go_roundw
      case rel => exact ⟨k + 1, by omega, by go_num, below_drewN hB _⟩
      case measure => simp [intOf]; omega
    · by_cases hlt2 : k < l.length + 12
      · have d0 := hr2.cell k (by simp; omega)
        rw [List.getElem_append_right (by omega)] at d0
        simp only [List.getElem_map, List.getElem_range] at d0
        have hmark : ∀ W, Calls Try.prog 70 #[.int .i64 1, .int .i64 ((k - l.length : Nat) : Int)] W fun e w' => e = .returned (.int .i64 (markI (k - l.length))) ∧ W = w' := fun W => mark_c _ W (by omega) (by omega)
        have hcast : (((k - l.length : Nat) : Nat) : Int) = (k : Int) - (l.length : Int) := by omega
        rw [hcast] at hmark
        clear h hr hr2 hcast
        generalize markI (k - l.length) = r at d0 hmark
        have hi0 : (0 : Int) ≤ (k : Int) := by omega
        have hi2 : (k : Int) < (l.length : Int) + 12 := by omega
        have t1 : decide (k < l.length) = false := by simp; omega
        have t2 : decide (l.length ≤ k) = true := by simp; omega
        have t3 : (r == r) = true := by simp
        have hw1 : IntKind.i64.wrap ((k : Int) - (l.length : Int)) = (k : Int) - (l.length : Int) := IntWalk.i64_in _ (by omega)
        have hec := ext_cell wr
        go_wp2
        refine wp_region_ext (by kernel_rfl) (by kernel_rfl) ?_
        repeat (go_big_quiet_step ((go_at_call 70; exact ext_call_same (hmark _))))
        refine wpQuiet_nil ?_
        intro _ hw'
        obtain ⟨x, hw''⟩ := hw'
        subst hw''
        have hH := x.h
        generalize x.w = wx at hH ⊢
        clear x
        have hB5 := hB.trans (hH.mono hB.size)
        clear hw1 hmark hH hec
        go_wp2
        go_roundw
        case rel => exact ⟨k + 1, by omega, by go_num, hB5⟩
        case measure => simp [intOf]; omega
      · obtain rfl : k = l.length + 12 := by omega
        go_wp2
        go_ret
        exact ⟨rfl, hB⟩
end Go.Proofs.Ytlmbffnmjfbglab
