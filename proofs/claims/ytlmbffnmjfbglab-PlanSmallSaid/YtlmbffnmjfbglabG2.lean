/- Texts wL0 wL1 wD0 wR0 wR1 wPr, joined. -/
import Derived.IntWalk
import Derived.Test.YtlmbffnmjfbglabG1
import Derived.Test.YtlmbffnmjfbglabG0
set_option linter.unusedSimpArgs false
set_option linter.unusedVariables false
/- The contracts of mark, markWindow, LentWindows and KeptWindows. -/
namespace Go.Proofs.Ytlmbffnmjfbglab
open Go.ChangeShapes Go.WideShapes Go.ChangeAt Go.RowKit

theorem rd_flat {w : World} {B b o : Nat} {l : List Win} (h : RdG Win.tri w B (some ⟨b, o, none⟩) l) (hn : 0 < l.length) : ∀ j u, (l.flatMap (cellsG Win.tri))[j]? = some u → w.cell? ((⟨b, o, none⟩ : Addr).add j) = some u := by
  obtain ⟨b', o', e, _, hc⟩ := h hn
  injection e with e
  injection e with e1 e2
  subst e1 e2
  intro j u hu
  have hj : j < l.length * 3 := by
    have := (List.getElem?_eq_some_iff.1 hu).1
    rwa [cellsG_length] at this
  have hi : j / 3 < l.length := by omega
  obtain ⟨q0, q1, q2⟩ := cellsG_get (f := Win.tri) l (j / 3) hi
  obtain ⟨c0, c1, c2⟩ := hc (j / 3) hi
  have ea : ∀ k, (⟨b, o, none⟩ : Addr).add k = ⟨b, o + k, none⟩ := fun k => by unfold Addr.add; split <;> simp_all
  rw [ea]
  have h3 : j = j / 3 * 3 ∨ j = j / 3 * 3 + 1 ∨ j = j / 3 * 3 + 2 := by omega
  rcases h3 with e | e | e
  · rw [e, q0] at hu; rw [e, c0]; exact hu
  · rw [e, q1] at hu; rw [e, ← Nat.add_assoc, c1]; exact hu
  · rw [e, q2] at hu; rw [e, ← Nat.add_assoc, c2]; exact hu

theorem mark_c (i : Int) (w : World) (h0 : 0 ≤ i) (h1 : i ≤ 1000000) : Calls Try.prog 70 #[.int .i64 1, .int .i64 i] w fun e w' => e = .returned (.int .i64 (8000024 + i)) ∧ w = w' := by
  go_enter Try.func70, Try.ntmps70
  go_wp2
  go_ret
  exact ⟨rfl, rfl⟩
def markR (i : Nat) : Win := ⟨0, 8000024 + i, 0⟩
/-- a copy of l with twelve marks behind it. -/
def Lent (w : World) (v : Value) (l : List Win) : Prop := ∃ g cap, v = .slice (some ⟨g, 0, none⟩) l.length cap ∧ Row w g cap (l ++ (List.range 12).map markR)
theorem Lent.below {w w' : World} {v : Value} {l : List Win} (h : Lent w v l) (hb : Below w.heap.size w w') : Lent w' v l := by
  obtain ⟨g, cap, rfl, hr⟩ := h
  exact ⟨g, cap, rfl, hr.below hb hr.lt⟩
def LentPost (w : World) (l : List Win) (e : Ending) (w' : World) : Prop := ∃ v, e = .returned v ∧ Lent w' v l ∧ Below w.heap.size w w'

theorem rdReg_reads {w : World} {B : Nat} {A : Option Addr} {l : List Win} (h : RdG Win.tri w B A l) : Reads w B 3 A l.length (l.flatMap (cellsG Win.tri)) :=
  ⟨cellsG_length l, fun hn => by
    obtain ⟨b, o, rfl, hb, hc⟩ := h hn
    exact ⟨_, rfl, hb, rd_flat (B := B) (fun _ => ⟨b, o, rfl, hb, hc⟩) hn⟩⟩
theorem cells3_one (l : List Win) : ∀ u ∈ l.flatMap (cellsG Win.tri), u.oneCell' = true := fun u hu => by
  obtain ⟨r, _, hr⟩ := List.mem_flatMap.1 hu; simp [cellsG] at hr; rcases hr with rfl | rfl | rfl <;> rfl

def lentTo (l : List Win) (k : Nat) : List Value := (l ++ (List.range k).map markR).flatMap (cellsG Win.tri)
theorem lentTo_zero (l : List Win) : lentTo l 0 = l.flatMap (cellsG Win.tri) := by simp [lentTo]
theorem lentTo_succ (l : List Win) (k : Nat) : lentTo l (k + 1) = lentTo l k ++ [.int .i64 (markR k).part, .int .i64 (markR k).start, .int .i64 (markR k).len] := by
  unfold lentTo
  rw [List.range_succ, List.map_append, ← List.append_assoc, List.flatMap_append (xs := l ++ _)]; rfl

end Go.Proofs.Ytlmbffnmjfbglab
/- The contracts of LentInts and KeptInts. -/
namespace Go.Proofs.Ytlmbffnmjfbglab
open Go.ChangeShapes Go.WideShapes Go.ChangeAt Go.RowKit

def markI (i : Nat) : Int := 8000024 + i
/-- a row of integers. -/
def RowI (w : World) (g cap : Nat) (l : List Int) : Prop := l.length ≤ cap ∧ cap ≤ 9223372036854775807 ∧ ∃ cs, Blk w g 3 cs ∧ ∀ i (h : i < l.length), cs[i]? = some (.int .i64 l[i])
theorem RowI.lt {w : World} {g cap : Nat} {l : List Int} (h : RowI w g cap l) : g < w.heap.size := by obtain ⟨_, _, cs, hb, _⟩ := h; exact hb.lt
theorem RowI.cell {w : World} {g cap : Nat} {l : List Int} (h : RowI w g cap l) (i : Nat) (hi : i < l.length) : w.cell? ⟨g, i, none⟩ = some (.int .i64 l[i]) := by
  obtain ⟨_, _, cs, hb, hc⟩ := h; rw [hb.cell i]; exact hc i hi
theorem RowI.below {w w' : World} {g cap B : Nat} {l : List Int} (h : RowI w g cap l) (hb : Below B w w') (hg : g < B) : RowI w' g cap l := by
  obtain ⟨h1, h2, cs, h3, h4⟩ := h; exact ⟨h1, h2, cs, h3.below hb hg, h4⟩
theorem RowI.of_own {w : World} {base g cap n : Nat} {l : List Int} (hn : n = l.length) (h : w.ownsRow base 3 1 (.slice (some ⟨g, 0, none⟩) n cap) n (l.map (Value.int .i64))) : RowI w g cap l := by
  subst hn
  rcases h.2 with ⟨h0, _⟩ | ⟨g', cap', cur, h0, h1, hh, h2, h3, _⟩
  · cases h0
  · injection h0 with e1 _ e2
    injection e1 with e1
    injection e1 with e1
    subst e1 e2
    refine ⟨by omega, by unfold maxLen at h3; omega, cur, hh, fun i hi => ?_⟩
    have := h.cells (g := g) rfl i (.int .i64 l[i]) (by simp [hi])
    have e : (⟨g, 0, none⟩ : Addr).add i = ⟨g, i, none⟩ := by rw [add_none]; simp
    rw [e, Blk.cell (t := 3) hh i] at this
    exact this
/-- a copy of l with twelve marks behind it. -/
def LentI (w : World) (v : Value) (l : List Int) : Prop := ∃ g cap, v = .slice (some ⟨g, 0, none⟩) l.length cap ∧ RowI w g cap (l ++ (List.range 12).map markI)
theorem LentI.below {w w' : World} {v : Value} {l : List Int} (h : LentI w v l) (hb : Below w.heap.size w w') : LentI w' v l := by
  obtain ⟨g, cap, rfl, hr⟩ := h
  exact ⟨g, cap, rfl, hr.below hb hr.lt⟩
theorem LentI.rd {w : World} {v : Value} {l : List Int} (h : LentI w v l) : ∃ A c, v = .slice A l.length c ∧ RdInt w w.heap.size A l := by
  obtain ⟨g, cap, rfl, hr⟩ := h
  refine ⟨_, _, rfl, fun _ => ⟨g, 0, rfl, hr.lt, fun i hi => ?_⟩⟩
  have := hr.cell i (by simp; omega)
  rw [List.getElem_append_left hi] at this
  rw [Nat.zero_add]; exact this
def LentIPost (w : World) (l : List Int) (e : Ending) (w' : World) : Prop := ∃ v, e = .returned v ∧ LentI w' v l ∧ Below w.heap.size w w'
theorem rdInt_reads {w : World} {B : Nat} {A : Option Addr} {l : List Int} (h : RdInt w B A l) : Reads w B 1 A l.length (l.map (Value.int .i64)) :=
  ⟨by simp, fun hn => by
    obtain ⟨b, o, rfl, hb, hc⟩ := h hn
    refine ⟨_, rfl, hb, fun j u hu => ?_⟩
    rw [add_none]
    rw [List.getElem?_map] at hu
    obtain ⟨x, hx, rfl⟩ := Option.map_eq_some_iff.1 hu
    obtain ⟨hj, rfl⟩ := List.getElem?_eq_some_iff.1 hx
    exact hc j hj⟩
theorem ints_one (l : List Int) : ∀ u ∈ l.map (Value.int .i64), u.oneCell' = true := fun u hu => by
  obtain ⟨r, _, rfl⟩ := List.mem_map.1 hu; rfl
def lentITo (l : List Int) (k : Nat) : List Value := (l ++ (List.range k).map markI).map (Value.int .i64)
theorem lentITo_zero (l : List Int) : lentITo l 0 = l.map (Value.int .i64) := by simp [lentITo]
theorem lentITo_succ (l : List Int) (k : Nat) : lentITo l (k + 1) = lentITo l k ++ [.int .i64 (markI k)] := by
  simp [lentITo, List.range_succ]

set_option maxRecDepth 100000 in
set_option maxHeartbeats 1000000 in
theorem lentI_c (l : List Int) (A : Option Addr) (c : Nat) (w : World) (h : RdInt w w.heap.size A l) (hl : l.length ≤ 1000) :
    Calls Try.prog 48 #[.slice A l.length c] w (LentIPost w l) := by
  obtain ⟨i0, hi0, hz0, hz1, hz2⟩ := info_parts info3
  have hmk : ∀ W, (Instr.makeSlice 28 (.int .i64 0) (.int .i64 ((l.length : Int) + 12))).run Try.prog W = .ok (.slice (some ⟨W.heap.size, 0, none⟩) 0 (l.length + 12)) (W.alloc (.cells (madeCells #[.int .i64 0] (l.length + 12)) 3)) := fun W => by
    have e := run_make_rowN (P := Try.prog) 28 3 i0 _ Try.underlying28 hi0 hz0 .i64 .i64 0 (l.length + 12) (by omega) (by rw [hz2]; omega) (by omega) W
    rw [hz1] at e
    simpa [Value.cells] using e
  have hread := (rdInt_reads h).alloc (Nat.le_refl _) (.cells (madeCells #[.int .i64 0] (l.length + 12)) 3)
  have hone := ints_one l
  have Hread := Lib.hid hread
  have Hone := Lib.hid hone
  clear hread hone h
  go_enter Try.func48, Try.ntmps48
  go_wp2_with (at_builtin; refine wpList_append_any _ rfl _ _ 28 rfl w.heap.size 3 i0 (.int .i64 0) 1 8 Try.underlying28 hi0 hz0 hz1 hz2 rfl (by decide) _ 0 [] rfl (World.ownsRow_made _ _ (l.length + 12) (Nat.le_refl _) (by simp [maxLen]; omega) (by simp [size_madeCells])) w.heap.size A l.length c (l.map (Value.int .i64)) rfl Hread.out Hone.out ?c3 ?c4 ?c5 ?_)
  case c3 => unfold maxLen; omega
  case c4 => omega
  case c5 => simp
  intro v' w2 hown2 hgrow hwhere
  have hB : Below w.heap.size w w2 := ((Below.refl _ w).alloc (Nat.le_refl _) _).grown hgrow (by simp) (fun k hk => by simp [Value.ownBlock] at hk; omega)
  try rw [List.nil_append, Nat.zero_add] at hown2
  clear hgrow hwhere Hread Hone hmk
  have hbig : (l.length : Int) ≤ 1000 := by omega
  go_wp2
  go_loopw [3, 4] (fun v i wr => ∃ k : Nat, k ≤ 12 ∧ i = .int .i64 k ∧ Below w.heap.size w wr ∧ wr.ownsRow w.heap.size 3 1 v (l.length + k) (lentITo l k)) (fun _ i _ => 12 - (intOf i).toNat)
  case atStart => exact ⟨0, by omega, rfl, hB, by rw [lentITo_zero]; exact hown2⟩
  case round =>
    obtain ⟨k, hk, rfl, hB3, hown⟩ := hrel
    by_cases hlt : k < 12
    · have hmark := mark_c k wr (by omega) (by omega)
      have hz := hB3.size
      change Calls Try.prog 70 _ wr fun e w' => e = .returned (.int .i64 (markI k)) ∧ wr = w' at hmark
      go_wp2_with fail
      refine hmark.mono ?_
      rintro e w3 ⟨rfl, rfl⟩
      clear hmark
      go_wp2_with (at_builtin; refine wpList_append_own _ rfl _ _ 28 rfl w.heap.size 3 i0 (.int .i64 0) 1 8 Try.underlying28 hi0 hz0 hz1 hz2 rfl (by decide) _ _ _ rfl (hown.alloc _) ⟨wr.heap.size, 0, none⟩ 1 1 [.int .i64 (markI k)] rfl rfl ?c1 ?c2 ?c3 ?c4 ?c5 ?_)
      case c1 => exact World.news_of_block (cs := #[.int .i64 (markI k)]) (t := 3) (fr := (0, 0)) (heap_alloc_new wr _)
      case c2 => simp [Value.oneCell']
      case c3 => unfold maxLen; omega
      case c4 => omega
      case c5 => simp; omega
      intro v4 w4 hown4 hgrow4 _
      have hB5 : Below w.heap.size w w4 := (hB3.alloc hz _).grown hgrow4 (by simp; omega) (fun g hg => (hown.lt g hg).1)
      have heq := lentITo_succ l k
      rw [← heq] at hown4
      have Hown4 := Lib.hid hown4
      clear hgrow4 hown heq hown4
      go_wp2
      go_roundw
      case rel => exact ⟨k + 1, by omega, by go_num, hB5, Hown4.out⟩
      case measure => simp [intOf]; omega
    · obtain rfl : k = 12 := by omega
      have hlen : (l ++ (List.range 12).map markI).length = l.length + 12 := by simp
      have hex : ∃ g cap, u3 = .slice (some ⟨g, 0, none⟩) (l.length + 12) cap ∧ l.length + 12 ≤ cap ∧ cap ≤ 9223372036854775807 := by
        rcases hown.2 with ⟨_, h0⟩ | ⟨g, cap, cur, h0, _, _, h1, h2, _⟩
        · omega
        · exact ⟨g, cap, h0, h1, h2⟩
      obtain ⟨g, cap, rfl, hcap, hcm⟩ := hex
      have hrow := RowI.of_own (l := l ++ (List.range 12).map markI) (by rw [hlen]) hown
      have Hrow := Lib.hid hrow
      clear hrow hown hlen hown2
      go_wp2
      go_ret
      exact ⟨.slice (some ⟨g, 0, none⟩) l.length cap, by simp, ⟨g, cap, rfl, Hrow.out⟩, hB3⟩

set_option maxRecDepth 100000 in
set_option maxHeartbeats 1000000 in
theorem keptI_c (v : Value) (l : List Int) (A : Option Addr) (c : Nat) (w : World) (hv : LentI w v l) (h : RdInt w w.heap.size A l) (hl : l.length ≤ 1000) :
    Calls Try.prog 53 #[v, .slice A l.length c] w fun e w' => e = .returned (.bool true) ∧ Below w.heap.size w w' := by
  obtain ⟨g, cap, rfl, hr⟩ := hv
  have hcap : l.length + 12 ≤ cap := by have := hr.1; simpa using this
  have hcm : cap ≤ 9223372036854775807 := hr.2.1
  have hgl := hr.lt
  have hne : ((l.length : Int) != (l.length : Int)) = false := by simp
  go_enter Try.func53, Try.ntmps53
  go_wp2
  go_loopw [6] (fun i wr => ∃ k : Nat, k ≤ l.length + 12 ∧ i = .int .i64 k ∧ Below w.heap.size w wr) (fun i _ => l.length + 12 - (intOf i).toNat)
  case atStart => exact ⟨0, by omega, rfl, Below.refl _ _⟩
  case round =>
    obtain ⟨k, hk, rfl, hB⟩ := hrel
    have hr2 := hr.below hB hgl
    have hg2 := hr2.lt
    by_cases hlt : k < l.length
    · obtain ⟨b, o, rfl, hb, hc⟩ := h.keep hB (by omega)
      have c0 := hc k hlt
      have d0 := hr2.cell k (by simp; omega)
      rw [List.getElem_append_left hlt] at d0
      clear hc h hr hr2
      generalize l[k] = r at c0 d0
      have hi0 : (0 : Int) ≤ (k : Int) := by omega
      have hi1 : (k : Int) < (l.length : Int) := by omega
      have hi2 : (k : Int) < (l.length : Int) + 12 := by omega
      have t1 : decide (k < l.length) = true := by simp; omega
      have t2 : decide (l.length ≤ k) = false := by simp; omega
      have t3 : (r == r) = true := by simp
      go_wp2
      go_quiet (fail)
      go_wp2
      go_roundw
      case rel => exact ⟨k + 1, by omega, by go_num, below_drewN hB _⟩
      case measure => simp [intOf]; omega
    · by_cases hlt2 : k < l.length + 12
      · have d0 := hr2.cell k (by simp; omega)
        rw [List.getElem_append_right (by omega)] at d0
        simp only [List.getElem_map, List.getElem_range] at d0
        have hmark : ∀ W, Calls Try.prog 70 #[.int .i64 1, .int .i64 ((k - l.length : Nat) : Int)] W fun e w' => e = .returned (.int .i64 (markI (k - l.length))) ∧ W = w' := fun W => mark_c _ W (by omega) (by omega)
        have hcast : (((k - l.length : Nat) : Nat) : Int) = (k : Int) - (l.length : Int) := by omega
        rw [hcast] at hmark
        clear h hr hr2 hcast
        generalize markI (k - l.length) = r at d0 hmark
        have hi0 : (0 : Int) ≤ (k : Int) := by omega
        have hi2 : (k : Int) < (l.length : Int) + 12 := by omega
        have t1 : decide (k < l.length) = false := by simp; omega
        have t2 : decide (l.length ≤ k) = true := by simp; omega
        have t3 : (r == r) = true := by simp
        have hw1 : IntKind.i64.wrap ((k : Int) - (l.length : Int)) = (k : Int) - (l.length : Int) := IntWalk.i64_in _ (by omega)
        have hec := ext_cell wr
        go_wp2
        refine wp_region_ext (by kernel_rfl) (by kernel_rfl) ?_
        repeat (go_big_quiet_step ((go_at_call 70; exact ext_call_same (hmark _))))
        refine wpQuiet_nil ?_
        intro _ hw'
        obtain ⟨x, hw''⟩ := hw'
        subst hw''
        have hH := x.h
        generalize x.w = wx at hH ⊢
        clear x
        have hB5 := hB.trans (hH.mono hB.size)
        clear hw1 hmark hH hec
        go_wp2
        go_roundw
        case rel => exact ⟨k + 1, by omega, by go_num, hB5⟩
        case measure => simp [intOf]; omega
      · obtain rfl : k = l.length + 12 := by omega
        go_wp2
        go_ret
        exact ⟨rfl, hB⟩
end Go.Proofs.Ytlmbffnmjfbglab
/- The contracts of common, open and Pick. -/
namespace Go.Proofs.Ytlmbffnmjfbglab
open Go.ChangeShapes Go.WideShapes Go.ChangeAt Go.RowKit

theorem gcd_found {a b d : Nat} (ha : 0 < a) (h1 : a % d = 0) (h2 : b % d = 0) (hmax : ∀ e, d < e → e ≤ a → ¬ (a % e = 0 ∧ b % e = 0)) : Nat.gcd a b = d := by
  have g1 := Nat.gcd_dvd_left a b
  have g2 := Nat.gcd_dvd_right a b
  have hd : d ∣ Nat.gcd a b := Nat.dvd_gcd (Nat.dvd_of_mod_eq_zero h1) (Nat.dvd_of_mod_eq_zero h2)
  have hle := Nat.le_of_dvd (Nat.gcd_pos_of_pos_left b ha) hd
  rcases Nat.lt_or_ge d (Nat.gcd a b) with h | h
  · exact absurd ⟨Nat.mod_eq_zero_of_dvd g1, Nat.mod_eq_zero_of_dvd g2⟩ (hmax _ h (Nat.le_of_dvd ha g1))
  · omega

def openB (s : Slot) (t : Int) : Bool := decide (openS s t)
def pickV (x n : Int) : Int := if n < 1 then 0 else x % n
theorem pick_c (x n : Int) (w : World) (hn : 1 ≤ n) (hn2 : n ≤ 1000000) :
    Calls Try.prog 17 #[.int .i64 x, .int .i64 n] w fun e w' => e = .returned (.int .i64 (x % n)) ∧ w = w' := by
  have h1 := Int.mul_tdiv_add_tmod x n
  have h2 : x.tmod n = x + n * (- x.tdiv n) := by rw [Int.mul_neg]; omega
  have h3 : x.tmod n % n = x % n := by rw [h2, Int.add_mul_emod_self_left]
  have t1 : -n < x.tmod n := by have := Int.lt_tmod_of_pos x (b := n) (by omega); omega
  have t2 : x.tmod n < n := Int.tmod_lt_of_pos _ (by omega)
  have n0 : n ≠ 0 := by omega
  by_cases hx : x.tmod n < 0
  · have hv : x % n = x.tmod n + n := by
      rw [← h3]
      have : x.tmod n = (x.tmod n + n) + n * (-1) := by omega
      rw [this, Int.add_mul_emod_self_left, Int.emod_eq_of_lt (by omega) (by omega)]
      omega
    have Hv := Lib.hid hv
    clear h1 h2 h3 hv
    go_enter Try.func17, Try.ntmps17
    go_wp2
    all_goals (go_ret; exact ⟨ret_int (by rw [Hv.out]), rfl⟩)
  · have hv : x % n = x.tmod n := by
      rw [← h3, Int.emod_eq_of_lt (by omega) t2]
    have Hv := Lib.hid hv
    clear h1 h2 h3 hv
    go_enter Try.func17, Try.ntmps17
    go_wp2
    all_goals (go_ret; exact ⟨ret_int (by rw [Hv.out]), rfl⟩)
end Go.Proofs.Ytlmbffnmjfbglab
/- The reference's Valid, Open, Both, Meet and Disjoint; pair. -/
namespace Go.Proofs.Ytlmbffnmjfbglab
open Go.ChangeShapes Go.WideShapes Go.ChangeAt Go.RowKit

theorem refValid_c (s : Slot) (w : World) : Calls Try.prog 103 #[.agg #[.int .i64 s.off, .int .i64 s.per, .int .i64 s.len]] w fun e w' => e = .returned (.bool (validS s)) ∧ Below w.heap.size w w' := by
  have hb : Below w.heap.size w (w.alloc (.cells #[.int .i64 s.off, .int .i64 s.per, .int .i64 s.len] 46)) := (Below.refl _ w).alloc (Nat.le_refl _) _
  by_cases h : s.ok
  · have hv : validS s = true := by simp [validS, h]
    obtain ⟨h1, h2, h3, h4, h5, h6⟩ := h
    obtain ⟨o, p, l⟩ := s
    simp only at *
    rw [hv]; clear hv
    go_enter Try.func103, Try.ntmps103
    go_wp2
    go_ret
    exact ⟨rfl, hb⟩
  · have hv : validS s = false := by simp [validS, h]
    obtain ⟨o, p, l⟩ := s
    simp only [Slot.ok] at *
    rw [hv]; clear hv
    by_cases h1 : 1 ≤ p
    · by_cases h2 : p ≤ 2000
      · by_cases h3 : 1 ≤ l
        · by_cases h4 : l ≤ p
          · by_cases h5 : 0 ≤ o
            · have h6 : ¬ o ≤ p - l := by omega
              clear h
              go_enter Try.func103, Try.ntmps103
              go_wp2
              go_ret
              exact ⟨rfl, hb⟩
            · clear h
              go_enter Try.func103, Try.ntmps103
              go_wp2
              go_ret
              exact ⟨rfl, hb⟩
          · clear h
            go_enter Try.func103, Try.ntmps103
            go_wp2
            go_ret
            exact ⟨rfl, hb⟩
        · clear h
          go_enter Try.func103, Try.ntmps103
          go_wp2
          go_ret
          exact ⟨rfl, hb⟩
      · clear h
        go_enter Try.func103, Try.ntmps103
        go_wp2
        go_ret
        exact ⟨rfl, hb⟩
    · clear h
      go_enter Try.func103, Try.ntmps103
      go_wp2
      go_ret
      exact ⟨rfl, hb⟩

theorem refOpen_c (s : Slot) (t : Int) (w : World) (hs : s.ok) (h0 : 0 ≤ t) (h1 : t ≤ 1000000000) :
    Calls Try.prog 113 #[.agg #[.int .i64 s.off, .int .i64 s.per, .int .i64 s.len], .int .i64 t] w fun e w' => e = .returned (.bool (openB s t)) ∧ Below w.heap.size w w' := by
  obtain ⟨s1, s2, s3, s4, s5, s6⟩ := hs
  have hb : Below w.heap.size w (w.alloc (.cells #[.int .i64 s.off, .int .i64 s.per, .int .i64 s.len] 46)) := (Below.refl _ w).alloc (Nat.le_refl _) _
  have hk := Blk.new w 46 #[.int .i64 s.off, .int .i64 s.per, .int .i64 s.len]
  have hdef : openB s t = (decide (s.off ≤ t) && decide ((t - s.off) % s.per < s.len)) := by
    unfold openB openS
    by_cases c1 : s.off ≤ t <;> by_cases c2 : (t - s.off) % s.per < s.len <;> simp [c1, c2]
  obtain ⟨o, p, l⟩ := s
  simp only at *
  rw [hdef]
  clear hdef
  by_cases h : o ≤ t
  · have hd : decide (o ≤ t) = true := by simpa using h
    have p0 : p ≠ 0 := by omega
    have m1 : IntKind.i64.wrap (t - o) = t - o := IntWalk.i64_in _ (by omega)
    have m2 : (t - o).tmod p = (t - o) % p := Int.tmod_eq_emod_of_nonneg (by omega)
    go_enter Try.func113, Try.ntmps113
    go_wp2
    refine nameW fun W0 hW0 => ?_
    rw [← hW0] at hb hk
    clear hW0
    have e0 : W0.cell? ⟨w.heap.size, 0, none⟩ = some (.int .i64 o) := hk.cell 0
    have e1 : W0.cell? ⟨w.heap.size, 1, none⟩ = some (.int .i64 p) := hk.cell 1
    have e2 : W0.cell? ⟨w.heap.size, 2, none⟩ = some (.int .i64 l) := hk.cell 2
    go_quiet (fail)
    go_wp2
    go_ret
    exact ⟨ret_bool (by simp [h]), below_drewN hb _⟩
  · have hd : decide (o ≤ t) = false := by simpa using h
    go_enter Try.func113, Try.ntmps113
    go_wp2
    refine nameW fun W0 hW0 => ?_
    rw [← hW0] at hb hk
    clear hW0
    have Hd := Lib.hid hd
    have e0 : W0.cell? ⟨w.heap.size, 0, none⟩ = some (.int .i64 o) := hk.cell 0
    go_quiet (fail)
    go_wp2
    go_ret
    exact ⟨ret_bool (by rw [Hd.out]; rfl), below_drewN hb _⟩


/-- the state of the law behind the calls: the two slots in their boxes. -/
structure BY (w : World) (a b : Slot) (W : World) : Prop where
  ba : Blk W w.heap.size 46 #[.int .i64 a.off, .int .i64 a.per, .int .i64 a.len]
  bb : Blk W (w.heap.size + 1) 46 #[.int .i64 b.off, .int .i64 b.per, .int .i64 b.len]
  hb : Below w.heap.size w W
theorem BY.next {w : World} {a b : Slot} {W W' : World} (h : BY w a b W) (hb : Below W.heap.size W W') : BY w a b W' :=
  ⟨h.ba.below hb h.ba.lt, h.bb.below hb h.bb.lt, h.hb.trans (hb.mono h.hb.size)⟩
theorem BY.drewN {w : World} {a b : Slot} {W : World} (h : BY w a b W) (n : Nat) : BY w a b (W.drewN n) := ⟨h.ba.drewN n, h.bb.drewN n, below_drewN h.hb n⟩
theorem BY.start (w : World) (a b : Slot) : BY w a b ((w.alloc (.cells #[.int .i64 a.off, .int .i64 a.per, .int .i64 a.len] 46)).alloc (.cells #[.int .i64 b.off, .int .i64 b.per, .int .i64 b.len] 46)) := by
  have b1 := Blk.new (w.alloc (.cells #[.int .i64 a.off, .int .i64 a.per, .int .i64 a.len] 46)) 46 #[.int .i64 b.off, .int .i64 b.per, .int .i64 b.len]
  rw [World.size_alloc] at b1
  exact ⟨(Blk.new _ _ _).alloc _, b1, ((Below.refl _ _).alloc (Nat.le_refl _) _).alloc (by simp) _⟩
theorem BY.cells {w : World} {a b : Slot} {W : World} (h : BY w a b W) :
    (W.cell? ⟨w.heap.size, 0, none⟩ = some (.int .i64 a.off) ∧ W.cell? ⟨w.heap.size, 1, none⟩ = some (.int .i64 a.per) ∧ W.cell? ⟨w.heap.size, 2, none⟩ = some (.int .i64 a.len)) ∧
    (W.cell? ⟨w.heap.size + 1, 0, none⟩ = some (.int .i64 b.off) ∧ W.cell? ⟨w.heap.size + 1, 1, none⟩ = some (.int .i64 b.per) ∧ W.cell? ⟨w.heap.size + 1, 2, none⟩ = some (.int .i64 b.len)) :=
  ⟨⟨h.ba.cell 0, h.ba.cell 1, h.ba.cell 2⟩, h.bb.cell 0, h.bb.cell 1, h.bb.cell 2⟩


/-- a common multiple of the periods. -/
structure IsBoth (a b : Slot) (n : Int) : Prop where
  pos : 0 < n
  le : n ≤ a.per * b.per
  da : a.per ∣ n
  db : b.per ∣ n
def bothV (a b : Slot) : Int := (Nat.lcm a.per.toNat b.per.toNat : Nat)
theorem bothV_is {a b : Slot} (ha : a.ok) (hb : b.ok) : IsBoth a b (bothV a b) := by
  obtain ⟨a1, a2, _, _, _, _⟩ := ha
  obtain ⟨b1, b2, _, _, _, _⟩ := hb
  obtain ⟨p, hp⟩ := Int.eq_ofNat_of_zero_le (show 0 ≤ a.per by omega)
  obtain ⟨q, hq⟩ := Int.eq_ofNat_of_zero_le (show 0 ≤ b.per by omega)
  unfold bothV
  refine ⟨?_, ?_, ?_, ?_⟩ <;> rw [hp, hq] <;> simp only [Int.toNat_natCast]
  · have := Nat.lcm_pos (m := p) (n := q) (by omega) (by omega); omega
  · have : Nat.lcm p q ≤ p * q := Nat.le_of_dvd (Nat.mul_pos (by omega) (by omega)) (Nat.lcm_dvd_mul p q)
    exact_mod_cast this
  · exact Int.natCast_dvd_natCast.2 (Nat.dvd_lcm_left p q)
  · exact Int.natCast_dvd_natCast.2 (Nat.dvd_lcm_right p q)
theorem lcm_found {p q k : Nat} (hp : 0 < p) (hk : 1 ≤ k) (hq : q ∣ k * p) (hmin : ∀ j, 1 ≤ j → j < k → ¬ q ∣ j * p) : Nat.lcm p q = k * p := by
  have h1 : Nat.lcm p q ∣ k * p := Nat.lcm_dvd (Nat.dvd_mul_left p k) hq
  have hle := Nat.le_of_dvd (Nat.mul_pos (by omega) hp) h1
  obtain ⟨j, hj⟩ := Nat.dvd_lcm_left p q
  have hpos : 0 < Nat.lcm p q := Nat.pos_of_dvd_of_pos h1 (Nat.mul_pos (by omega) hp)
  have hj1 : 1 ≤ j := by
    rcases Nat.eq_zero_or_pos j with h | h
    · subst h; rw [hj] at hpos; simp at hpos
    · exact h
  rcases Nat.lt_or_ge j k with h | h
  · have hd := Nat.dvd_lcm_right p q
    rw [hj, Nat.mul_comm] at hd
    exact absurd hd (hmin j hj1 h)
  · have : k * p ≤ j * p := Nat.mul_le_mul_right p h
    rw [hj, Nat.mul_comm p j] at hle ⊢
    omega
set_option maxHeartbeats 400000 in
theorem refBoth_c (a b : Slot) (w : World) (ha : a.ok) (hb : b.ok) :
    Calls Try.prog 112 #[.agg #[.int .i64 a.off, .int .i64 a.per, .int .i64 a.len], .agg #[.int .i64 b.off, .int .i64 b.per, .int .i64 b.len]] w fun e w' => e = .returned (.int .i64 (bothV a b)) ∧ Below w.heap.size w w' := by
  obtain ⟨a1, a2, _, _, _, _⟩ := ha
  obtain ⟨b1, b2, _, _, _, _⟩ := hb
  have h0 := BY.start w a b
  obtain ⟨pa, hpa⟩ := Int.eq_ofNat_of_zero_le (show 0 ≤ a.per by omega)
  obtain ⟨pb, hpb⟩ := Int.eq_ofNat_of_zero_le (show 0 ≤ b.per by omega)
  have hV : bothV a b = (Nat.lcm pa pb : Nat) := by unfold bothV; rw [hpa, hpb, Int.toNat_natCast, Int.toNat_natCast]
  have HV := Lib.hid hV
  clear hV
  have hdv : ∀ k : Nat, (k : Int) * a.per % b.per = 0 ↔ pb ∣ k * pa := fun k => by
    rw [hpa, hpb, ← Int.natCast_dvd_natCast (m := pb), Int.natCast_mul]
    exact ⟨Int.dvd_of_emod_eq_zero, Int.emod_eq_zero_of_dvd⟩
  have Hdv := Lib.hid hdv
  have Hpa := Lib.hid hpa
  have Hpb := Lib.hid hpb
  have hpa2 : (pa : Int) ≤ 2000 := by omega
  have hpb2 : (pb : Int) ≤ 2000 := by omega
  have hpa1 : 1 ≤ (pa : Int) := by omega
  have hpb1 : 1 ≤ (pb : Int) := by omega
  have hpab : (pb : Int) ≤ b.per ∧ b.per ≤ pb := by omega
  clear hdv hpa hpb
  go_enter Try.func112, Try.ntmps112
  go_wp2_with fail
  generalize (w.alloc (.cells #[.int .i64 a.off, .int .i64 a.per, .int .i64 a.len] 46)).alloc (.cells #[.int .i64 b.off, .int .i64 b.per, .int .i64 b.len] 46) = W0 at h0 ⊢
  obtain ⟨⟨c0, c1, c2⟩, d0, d1, d2⟩ := h0.cells
  go_wp2
  go_loop [5] (fun n => ∃ k : Nat, 1 ≤ k ∧ k ≤ pb ∧ n = .int .i64 (k * a.per) ∧ Hid (∀ j, 1 ≤ j → j < k → ¬ pb ∣ j * pa)) (fun n => pb - (intOf n / a.per).toNat)
  case atStart => exact ⟨1, by omega, by omega, by simp, fun j h1 h2 => absurd h1 (by omega)⟩
  case round =>
    obtain ⟨k, hk1, hk2, rfl, hall⟩ := hrel
    have hkd : ((k : Int) * a.per / a.per).toNat = k := by rw [Int.mul_ediv_cancel _ (by omega), Int.toNat_natCast]
    have hkd1 : (((k : Int) * a.per + a.per) / a.per).toNat = k + 1 := by
      rw [show (k : Int) * a.per + a.per = ((k + 1 : Nat) : Int) * a.per by rw [Int.natCast_add, Int.add_mul]; simp, Int.mul_ediv_cancel _ (by omega), Int.toNat_natCast]
    have hstep : Value.int .i64 ((k : Int) * a.per + a.per) = .int .i64 (((k + 1 : Nat) : Int) * a.per) := by rw [Int.natCast_add, Int.add_mul]; simp
    have hle : (k : Int) * a.per ≤ 2000 * 2000 := Int.mul_le_mul (by omega) a2 (by omega) (by omega)
    have hge : 1 * a.per ≤ (k : Int) * a.per := Int.mul_le_mul_of_nonneg_right (by omega) (by omega)
    have hkdv := Hdv.out k
    have p0 : b.per ≠ 0 := by omega
    cases hq : ((k : Int) * a.per % b.per != 0) with
    | true =>
      have hnd : ¬ pb ∣ k * pa := fun h => by rw [hkdv.2 h] at hq; simp at hq
      have hkl : k < pb := by
        rcases Nat.lt_or_ge k pb with h | h
        · exact h
        · obtain rfl : k = pb := by omega
          exact absurd (Nat.dvd_mul_right _ _) hnd
      have Hn : Hid (∀ j, 1 ≤ j → j < k + 1 → ¬ pb ∣ j * pa) := fun j h1 h2 => by
        by_cases e : j = k
        · subst e; exact hnd
        · exact hall.out j h1 (by omega)
      have Hkd := Lib.hid hkd
      have Hkd1 := Lib.hid hkd1
      have Hs := Lib.hid hstep
      clear hkd hkd1 hstep hkdv hnd hall
      generalize (k : Int) * a.per = T at *
      go_wp2
      go_round
      case rel => exact ⟨k + 1, by omega, by omega, Hs.out, Hn⟩
      case measure => simp only [intOf]; rw [Hkd.out, Hkd1.out]; omega
    | false =>
      have hdb : pb ∣ k * pa := hkdv.1 (by simpa using hq)
      have hB : (k : Int) * a.per = bothV a b := by rw [HV.out, lcm_found (by omega) hk1 hdb hall.out, Int.natCast_mul, Hpa.out]
      have HB := Lib.hid hB
      clear hkd hkd1 hstep hkdv hB hdb hall
      generalize (k : Int) * a.per = T at *
      go_wp2
      go_ret
      exact ⟨ret_int (by rw [HB.out]), h0.hb⟩

set_option maxRecDepth 100000 in
set_option maxHeartbeats 1000000 in
theorem refMeet_c (a b : Slot) (q : Int × Bool) (hq : MeetV a b q) (w : World) :
    Calls Try.prog 102 #[.agg #[.int .i64 a.off, .int .i64 a.per, .int .i64 a.len], .agg #[.int .i64 b.off, .int .i64 b.per, .int .i64 b.len]] w fun e w' => e = .returned (.tuple #[.int .i64 q.1, .bool q.2]) ∧ Below w.heap.size w w' := by
  have hva := fun W => refValid_c a W
  have hvb := fun W => refValid_c b W
  have h0 := BY.start w a b
  cases hA : validS a with
  | false =>
    obtain rfl : q = (0, false) := by
      rcases hq with ⟨h, _⟩ | ⟨_, h, _⟩
      · exact h
      · rw [show validS a = true from decide_eq_true h] at hA; cases hA
    rw [hA] at hva
    clear hq hA
    go_enter Try.func102, Try.ntmps102
    go_wp2_with fail
    generalize (w.alloc (.cells #[.int .i64 a.off, .int .i64 a.per, .int .i64 a.len] 46)).alloc (.cells #[.int .i64 b.off, .int .i64 b.per, .int .i64 b.len] 46) = W0 at h0 ⊢
    refine (hva W0).mono ?_
    rintro e W1 ⟨rfl, hb1⟩
    have hB := (h0.next hb1).hb
    clear h0 hb1 hva hvb
    go_wp2
    go_ret2
    exact ⟨rfl, hB⟩
  | true =>
    have ha := ok_of hA
    rw [hA] at hva
    cases hBB : validS b with
    | false =>
      obtain rfl : q = (0, false) := by
        rcases hq with ⟨h, _⟩ | ⟨_, _, h, _⟩
        · exact h
        · rw [show validS b = true from decide_eq_true h] at hBB; cases hBB
      rw [hBB] at hvb
      clear hq hA hBB
      go_enter Try.func102, Try.ntmps102
      go_wp2_with fail
      generalize (w.alloc (.cells #[.int .i64 a.off, .int .i64 a.per, .int .i64 a.len] 46)).alloc (.cells #[.int .i64 b.off, .int .i64 b.per, .int .i64 b.len] 46) = W0 at h0 ⊢
      refine (hva W0).mono ?_
      rintro e W1 ⟨rfl, hb1⟩
      have h1 := h0.next hb1
      clear h0 hb1 hva
      obtain ⟨⟨c0, c1, c2⟩, d0, d1, d2⟩ := h1.cells
      go_wp2_with fail
      refine (hvb W1).mono ?_
      rintro e W2 ⟨rfl, hb2⟩
      have hB := (h1.next hb2).hb
      clear h1 hb2 hvb c0 c1 c2 d0 d1 d2
      go_wp2
      go_ret2
      exact ⟨rfl, hB⟩
    | true =>
      have hb := ok_of hBB
      rw [hBB] at hvb
      have hbo := fun W => refBoth_c a b W ha hb
      have hbv := bothV_is ha hb
      have hoa := fun t W => refOpen_c a t W ha
      have hob := fun t W => refOpen_c b t W hb
      have hlim : q.2 = true → q.1 < bothV a b + a.off + b.off := fun h => by
        rcases hq with ⟨rfl, _⟩ | ⟨_, _, _, h4⟩
        · cases h
        · exact h4.lt ha hb hbv.pos hbv.da hbv.db
      have hnb : ∀ t : Int, (q.2 = true → t < q.1) → ¬ bothS a b t := fun t h => by
        rcases hq with ⟨rfl, h'⟩ | ⟨h1, _, _, h4⟩
        · rw [hA, hBB] at h'
          simp only [Bool.true_eq_false, false_or] at h'
          exact h' t
        · exact h4.least t (h h1)
      have hyb : q.2 = true → bothS a b q.1 ∧ 0 ≤ q.1 := fun h => by
        rcases hq with ⟨rfl, _⟩ | ⟨_, _, _, h4⟩
        · cases h
        · exact ⟨h4.both, h4.nonneg⟩
      have hz : q.2 = false → q = (0, false) := fun h => by
        rcases hq with ⟨h', _⟩ | ⟨h1, _⟩
        · exact h'
        · rw [h] at h1; cases h1
      have hbp := hbv.pos
      have hbl := hbv.le
      have hppm : a.per * b.per ≤ 2000 * 2000 := Int.mul_le_mul ha.2.1 hb.2.1 (by have := hb.1; omega) (by omega)
      have Hlim := Lib.hid hlim
      have Hnb := Lib.hid hnb
      have Hyb := Lib.hid hyb
      have Hz := Lib.hid hz
      clear hq hA hBB hlim hnb hyb hz hbv
      generalize bothV a b = n at *
      have hn2 : n ≤ 4000000 := by omega
      obtain ⟨a1, a2, a3, a4, a5, a6⟩ := ha
      obtain ⟨b1, b2, b3, b4, b5, b6⟩ := hb
      go_enter Try.func102, Try.ntmps102
      go_wp2_with fail
      generalize (w.alloc (.cells #[.int .i64 a.off, .int .i64 a.per, .int .i64 a.len] 46)).alloc (.cells #[.int .i64 b.off, .int .i64 b.per, .int .i64 b.len] 46) = W0 at h0 ⊢
      refine (hva W0).mono ?_
      rintro e W1 ⟨rfl, hb1⟩
      have h1 := h0.next hb1
      clear h0 hb1 hva
      obtain ⟨⟨c0, c1, c2⟩, d0, d1, d2⟩ := h1.cells
      go_wp2_with fail
      refine (hvb W1).mono ?_
      rintro e W2 ⟨rfl, hb2⟩
      have h2 := h1.next hb2
      clear h1 hb2 hvb c0 c1 c2 d0 d1 d2
      obtain ⟨⟨c0, c1, c2⟩, d0, d1, d2⟩ := h2.cells
      obtain ⟨⟨c0, c1, c2⟩, d0, d1, d2⟩ := (h2.next (Below.refl _ _)).cells
      go_wp2_with fail
      have z1 := h2.ba.lt
      have z2 := h2.bb.lt
      have m1 : IntKind.i64.wrap (n + a.off) = n + a.off := IntWalk.i64_in _ (by omega)
      have m2 : IntKind.i64.wrap (n + a.off + b.off) = n + a.off + b.off := IntWalk.i64_in _ (by omega)
      have hec := ext_cell W2
      refine wp_region_ext (by kernel_rfl) (by kernel_rfl) ?_
      repeat (go_big_quiet_step ((go_at_call 112; exact ext_call (hbo _))))
      refine wpQuiet_nil ?_
      rintro w' ⟨x, rfl⟩
      have hX0 := h2.next x.h
      clear hec hbo m1 m2 h2 c0 c1 c2 d0 d1 d2 z1 z2
      generalize x.w = W3 at hX0 ⊢
      have hE0 : 0 ≤ n + a.off + b.off := by omega
      have hE1 : n + a.off + b.off ≤ 4004000 := by omega
      generalize n + a.off + b.off = E at Hlim hE0 hE1 ⊢
      obtain ⟨En, rfl⟩ := Int.eq_ofNat_of_zero_le hE0
      obtain ⟨q1, q2⟩ := q
      simp only at *
      go_wp2_with fail
      go_loopw [7] (fun t wr => ∃ k : Nat, k ≤ En ∧ t = .int .i64 k ∧ BY w a b wr ∧ Hid (q2 = true → (k : Int) ≤ q1)) (fun t _ => En - (intOf t).toNat)
      case atStart => exact ⟨0, by omega, rfl, hX0, fun h => (Hyb.out h).2⟩
      case round =>
        clear hX0
        obtain ⟨k, hk, rfl, hX, hle⟩ := hrel
        by_cases hkE : k < En
        · obtain ⟨⟨c0, c1, c2⟩, d0, d1, d2⟩ := hX.cells
          have ca := hoa k wr (by omega) (by omega)
          have cb := fun W => hob k W (by omega) (by omega)
          by_cases hboth : bothS a b k
          · have hq2 : q2 = true ∧ (k : Int) = q1 := by
              cases q2 with
              | false => exact absurd hboth (Hnb.out k (fun h => by cases h))
              | true =>
                refine ⟨rfl, ?_⟩
                have h1 := hle.out rfl
                rcases Int.lt_or_le (k : Int) q1 with h | h
                · exact absurd hboth (Hnb.out k (fun _ => h))
                · omega
            obtain ⟨rfl, hkq⟩ := hq2
            have Hkq := Lib.hid hkq
            rw [show openB a k = true from decide_eq_true hboth.1] at ca
            rw [show openB b k = true from decide_eq_true hboth.2] at cb
            clear hboth hkq
            go_wp2_with fail
            refine ca.mono ?_
            rintro e w1 ⟨rfl, hb1⟩
            have hX1 := hX.next hb1
            clear ca hX hb1 c0 c1 c2 d0 d1 d2
            obtain ⟨⟨c0, c1, c2⟩, d0, d1, d2⟩ := hX1.cells
            go_wp2_with fail
            refine (cb w1).mono ?_
            rintro e w2 ⟨rfl, hb2⟩
            have hB := (hX1.next hb2).hb
            clear cb hX1 hb2 c0 c1 c2 d0 d1 d2
            go_wp2
            go_ret2
            exact ⟨by rw [← Hkq.out]; rfl, hB⟩
          · have Hle : Hid (q2 = true → ((k + 1 : Nat) : Int) ≤ q1) := fun h => by
              have h1 := hle.out h
              have h2 : (k : Int) ≠ q1 := fun e => hboth (by rw [e]; exact (Hyb.out h).1)
              omega
            cases hoA : openB a k with
            | false =>
              rw [hoA] at ca
              clear hboth
              go_wp2_with fail
              refine ca.mono ?_
              rintro e w1 ⟨rfl, hb1⟩
              have hX1 := hX.next hb1
              clear ca hX hb1 c0 c1 c2 d0 d1 d2
              go_wp2
              go_roundw
              case rel => exact ⟨k + 1, by omega, by go_num, hX1, Hle⟩
              case measure => simp [intOf]; omega
            | true =>
              have hoB : openB b k = false := by
                cases hh : openB b k with
                | false => rfl
                | true => exact absurd ⟨of_decide_eq_true hoA, of_decide_eq_true hh⟩ hboth
              rw [hoA] at ca
              rw [hoB] at cb
              clear hboth hoA hoB
              go_wp2_with fail
              refine ca.mono ?_
              rintro e w1 ⟨rfl, hb1⟩
              have hX1 := hX.next hb1
              clear ca hX hb1 c0 c1 c2 d0 d1 d2
              obtain ⟨⟨c0, c1, c2⟩, d0, d1, d2⟩ := hX1.cells
              go_wp2_with fail
              refine (cb w1).mono ?_
              rintro e w2 ⟨rfl, hb2⟩
              have hX2 := hX1.next hb2
              clear cb hX1 hb2 c0 c1 c2 d0 d1 d2
              go_wp2
              go_roundw
              case rel => exact ⟨k + 1, by omega, by go_num, hX2, Hle⟩
              case measure => simp [intOf]; omega
        · obtain rfl : k = En := by omega
          have hq2 : q2 = false := by
            cases q2 with
            | false => rfl
            | true => have := Hlim.out rfl; have := hle.out rfl; omega
          subst hq2
          have Hq := Lib.hid (Hz.out rfl)
          have hB := hX.hb
          go_wp2
          go_ret2
          have := Hq.out
          injection this with e1 e2
          exact ⟨by rw [e1]; rfl, hB⟩

theorem disj_q {a b : Slot} {q : Int × Bool} (hq : MeetV a b q) : (validS a && validS b && !q.2) = disjB a b := by
  rcases hq with ⟨rfl, h⟩ | ⟨h1, ha, hb, hM⟩
  · cases hA : validS a with
    | false => simp [disjB, hA]
    | true =>
      cases hB : validS b with
      | false => simp [disjB, hB]
      | true =>
        rw [hA, hB] at h
        simp only [Bool.true_eq_false, false_or] at h
        rw [(disj_iff (ok_of hA) (ok_of hB)).2 h]; rfl
  · rw [h1]
    have : disjB a b = false := by
      cases hh : disjB a b with
      | false => rfl
      | true => exact absurd hM.both ((disj_iff ha hb).1 hh _)
    rw [this]; simp
end Go.Proofs.Ytlmbffnmjfbglab
/- The reference's Times and Slots. -/
namespace Go.Proofs.Ytlmbffnmjfbglab
open Go.ChangeShapes Go.WideShapes Go.ChangeAt Go.RowKit

set_option maxRecDepth 100000 in
set_option maxHeartbeats 2000000 in
theorem refTimes_c (name : ByteArray) (mem F : Int) (l : List Part) (A : Option Addr) (c : Nat) (w : World) (h : RdPart w w.heap.size A l) (hl : l.length ≤ 9223372036854775807) :
    Calls Try.prog 55 #[.agg #[.string name, .int .i64 mem, .int .i64 F, .slice A l.length c]] w fun e w' => e = .returned (.bool (timesV F l)) ∧ Below w.heap.size w w' := by
  have hB : Below w.heap.size w (w.alloc (.cells #[.string name, .int .i64 mem, .int .i64 F, .slice A l.length c] 24)) := (Below.refl _ w).alloc (Nat.le_refl _) _
  have hblk := Blk.new w 24 #[.string name, .int .i64 mem, .int .i64 F, .slice A l.length c]
  by_cases h1 : 1 ≤ F
  case neg =>
    have hv : timesV F l = false := by simp [timesV, h1]
    rw [hv]; clear hv h hblk
    go_enter Try.func55, Try.ntmps55
    go_wp2
    go_ret
    exact ⟨rfl, hB⟩
  by_cases h2 : F ≤ 2000
  case neg =>
    have hv : timesV F l = false := by simp [timesV, h2]
    rw [hv]; clear hv h hblk
    go_enter Try.func55, Try.ntmps55
    go_wp2
    go_ret
    exact ⟨rfl, hB⟩
  by_cases h3 : l.length ≤ 6
  case neg =>
    have hv : timesV F l = false := by simp [timesV, h3]
    rw [hv]; clear hv h hblk
    go_enter Try.func55, Try.ntmps55
    go_wp2
    go_ret
    exact ⟨rfl, hB⟩
  have Hv := Lib.hid (show timesV F l = !(l.any (timeBad F)) by simp [timesV, h1, h2, h3])
  go_enter Try.func55, Try.ntmps55
  go_wp2_with fail
  refine nameW fun W1 hW1 => ?_
  rw [← hW1] at hB hblk
  clear hW1
  go_loopw [3] (fun i wr => ∃ k : Nat, k ≤ l.length ∧ i = .int .i64 k ∧ Below w.heap.size w wr ∧ Blk wr w.heap.size 24 #[.string name, .int .i64 mem, .int .i64 F, .slice A l.length c] ∧ Hid (∀ j (h : j < l.length), j < k → timeBad F l[j] = false)) (fun i _ => l.length - (intOf i).toNat)
  case atStart => exact ⟨0, Nat.zero_le _, rfl, hB, hblk, fun j _ h => absurd h (by omega)⟩
  case round =>
    clear hB hblk
    obtain ⟨k, hk, rfl, hB, hbk, hall⟩ := hrel
    have q2 : wr.cell? ⟨w.heap.size, 2, none⟩ = some (.int .i64 F) := hbk.cell 2
    have q3 : wr.cell? ⟨w.heap.size, 3, none⟩ = some (.slice A l.length c) := hbk.cell 3
    by_cases hlt : k < l.length
    · obtain ⟨b, o, rfl, hb, hcp⟩ := h.keep hB (by omega)
      have hck := hcp k hlt
      have z0 := hbk.lt
      have hs := hB.size
      have Hno := Lib.hid (fun (hx : timeBad F l[k] = true) => show timesV F l = false by
        rw [Hv.out]
        have : l.any (timeBad F) = true := List.any_eq_true.2 ⟨l[k], List.getElem_mem hlt, hx⟩
        rw [this]; rfl)
      have Hyes := Lib.hid (fun (hx : timeBad F l[k] = false) => (forall_succ (p := fun r => timeBad F r = false) hall.out hx : ∀ j (h : j < l.length), j < k + 1 → timeBad F l[j] = false))
      clear hcp hall
      generalize l[k] = p at *
      have c0 := hck 0 _ rfl
      have c1 := hck 1 _ rfl
      have c2 := hck 2 _ rfl
      have c3 := hck 3 _ rfl
      have c4 := hck 4 _ rfl
      have c5 := hck 5 _ rfl
      have c6 := hck 6 _ rfl
      have c7 := hck 7 _ rfl
      have c8 := hck 8 _ rfl
      have c9 := hck 9 _ rfl
      rw [Nat.add_zero] at c0
      clear hck
      have hi0 : (0 : Int) ≤ (k : Int) := by omega
      have hi1 : (k : Int) < (l.length : Int) := by omega
      have hB2 := hB.alloc hs (.cells p.cells.toArray 56)
      have hbk2 := hbk.alloc (.cells p.cells.toArray 56)
      simp only [Part.cells] at hB2 hbk2
      by_cases a1 : p.period < 1
      · have Hf := Lib.hid (Hno.out (by simp [timeBad, a1]))
        clear Hno Hyes hbk2
        go_wp2
        go_ret
        exact ⟨ret_bool Hf.out.symm, hB2⟩
      · have a1' : 1 ≤ p.period := by omega
        have p0 : p.period ≠ 0 := by omega
        have e0 : 0 ≤ F % p.period := Int.emod_nonneg _ p0
        by_cases a2 : F % p.period = 0
        · have b2 : (F % p.period != 0) = false := by simp [a2]
          by_cases a3 : p.length < 1
          · have Hf := Lib.hid (Hno.out (by simp [timeBad, a3]))
            clear a2 Hno Hyes hbk2
            go_wp2
            go_ret
            exact ⟨ret_bool Hf.out.symm, hB2⟩
          · by_cases a4 : p.period < p.length
            · have Hf := Lib.hid (Hno.out (by simp [timeBad, a4]))
              clear a2 Hno Hyes hbk2
              go_wp2
              go_ret
              exact ⟨ret_bool Hf.out.symm, hB2⟩
            · have Hg := Lib.hid (Hyes.out (by simp [timeBad, a1, a2, a3, a4]))
              clear a2 Hno Hyes
              go_wp2
              go_roundw
              case rel => exact ⟨k + 1, by omega, by go_num, hB2, hbk2, Hg⟩
              case measure => simp [intOf]; omega
        · have b2 : (F % p.period != 0) = true := by simp [a2]
          have Hf := Lib.hid (Hno.out (by simp [timeBad, a2]))
          clear a2 Hno Hyes hbk2
          go_wp2
          go_ret
          exact ⟨ret_bool Hf.out.symm, hB2⟩
    · have Hf : Hid (timesV F l = true) := by
        show _ = _
        rw [Hv.out]
        have : l.any (timeBad F) = false := by
          rw [List.any_eq_false]
          intro x hx
          obtain ⟨j, hj, rfl⟩ := List.getElem_of_mem hx
          simp [hall.out j hj (by omega)]
        rw [this]; rfl
      clear hall
      go_wp2
      go_ret
      exact ⟨ret_bool Hf.out.symm, hB⟩

theorem nameX {Q : Exit → Act → World → Prop} {x : Exit} {a : Act} {w : World} (h : ∀ W0, W0 = w → Q x a W0) : Q x a w := h w rfl
end Go.Proofs.Ytlmbffnmjfbglab
/- WindowPairs: for any two slots, the statement's call returns true and leaves its arguments alone. -/
namespace Go.Proofs.Ytlmbffnmjfbglab
open Go.ChangeShapes Go.WideShapes Go.ChangeAt Go.RowKit

set_option maxHeartbeats 1000000 in
theorem refDisj_c (a b : Slot) (w : World) :
    Calls Try.prog 90 #[.agg #[.int .i64 a.off, .int .i64 a.per, .int .i64 a.len], .agg #[.int .i64 b.off, .int .i64 b.per, .int .i64 b.len]] w fun e w' => e = .returned (.bool (disjB a b)) ∧ Below w.heap.size w w' := by
  obtain ⟨q, hq⟩ := meet_ex a b
  have hme := fun W => refMeet_c a b q hq W
  have hva := fun W => refValid_c a W
  have hvb := fun W => refValid_c b W
  have h0 := BY.start w a b
  rw [← disj_q hq]
  clear hq
  generalize validS a = va at *
  generalize validS b = vb at *
  obtain ⟨q1, q2⟩ := q
  simp only at *
  go_enter Try.func90, Try.ntmps90
  go_wp2_with fail
  generalize (w.alloc (.cells #[.int .i64 a.off, .int .i64 a.per, .int .i64 a.len] 46)).alloc (.cells #[.int .i64 b.off, .int .i64 b.per, .int .i64 b.len] 46) = W0 at h0 ⊢
  refine (hme W0).mono ?_
  rintro e W1 ⟨rfl, hb1⟩
  have h1 := h0.next hb1
  clear h0 hb1 hme
  obtain ⟨⟨c0, c1, c2⟩, d0, d1, d2⟩ := h1.cells
  go_wp2_with fail
  refine (hva W1).mono ?_
  rintro e W2 ⟨rfl, hb2⟩
  have h2 := h1.next hb2
  clear h1 hb2 hva c0 c1 c2 d0 d1 d2
  cases va with
  | false =>
    have hB := h2.hb
    clear hvb
    go_wp2
    go_ret
    exact ⟨rfl, hB⟩
  | true =>
    obtain ⟨⟨c0, c1, c2⟩, d0, d1, d2⟩ := h2.cells
    go_wp2_with fail
    refine (hvb W2).mono ?_
    rintro e W3 ⟨rfl, hb3⟩
    have hB := (h2.next hb3).hb
    clear h2 hb3 hvb c0 c1 c2 d0 d1 d2
    cases vb <;> cases q2 <;> (go_wp2; go_ret; exact ⟨rfl, hB⟩)
end Go.Proofs.Ytlmbffnmjfbglab
