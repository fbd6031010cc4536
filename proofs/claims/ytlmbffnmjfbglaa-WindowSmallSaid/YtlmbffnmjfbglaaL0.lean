/- The contracts of mark, markWindow, LentWindows and KeptWindows. -/
import Derived.Test.YtlmbffnmjfbglaaS2
import Derived.Test.YtlmbffnmjfbglaaE0
import Derived.Test.YtlmbffnmjfbglaaT1
import Derived.Test.YtlmbffnmjfbglaaB1
import Derived.IntWalk
namespace Go.Proofs.Ytlmbffnmjfbglaa
open Go.ChangeShapes Go.WideShapes Go.ChangeAt Go.RowKit

theorem rd_flat {w : World} {B b o : Nat} {l : List Win} (h : RdG Win.tri w B (some ⟨b, o, none⟩) l) (hn : 0 < l.length) : ∀ j u, (l.flatMap (cellsG Win.tri))[j]? = some u → w.cell? ((⟨b, o, none⟩ : Addr).add j) = some u := by
  obtain ⟨b', o', e, _, hc⟩ := h hn
  injection e with e
  injection e with e1 e2
  subst e1 e2
  intro j u hu
  have hj : j < l.length * 3 := by
    have := (List.getElem?_eq_some_iff.1 hu).1
    rwa [cellsG_length] at this
  have hi : j / 3 < l.length := by omega
  obtain ⟨q0, q1, q2⟩ := cellsG_get (f := Win.tri) l (j / 3) hi
  obtain ⟨c0, c1, c2⟩ := hc (j / 3) hi
  have ea : ∀ k, (⟨b, o, none⟩ : Addr).add k = ⟨b, o + k, none⟩ := fun k => by unfold Addr.add; split <;> simp_all
  rw [ea]
  have h3 : j = j / 3 * 3 ∨ j = j / 3 * 3 + 1 ∨ j = j / 3 * 3 + 2 := by omega
  rcases h3 with e | e | e
  · rw [e, q0] at hu; rw [e, c0]; exact hu
  · rw [e, q1] at hu; rw [e, ← Nat.add_assoc, c1]; exact hu
  · rw [e, q2] at hu; rw [e, ← Nat.add_assoc, c2]; exact hu

theorem mark_c (i : Int) (w : World) (h0 : 0 ≤ i) (h1 : i ≤ 1000000) : Calls Try.prog 57 #[.int .i64 1, .int .i64 i] w fun e w' => e = .returned (.int .i64 (8000024 + i)) ∧ w = w' := by
  go_enter Try.func57, Try.ntmps57
  go_wp2
  go_ret
  exact ⟨rfl, rfl⟩
def markR (i : Nat) : Win := ⟨0, 8000024 + i, 0⟩
theorem markWindow_c (i : Nat) (w : World) (h1 : i ≤ 1000000) : Calls Try.prog 36 #[.int .i64 1, .int .i64 i] w fun e w' => e = .returned (.agg #[.int .i64 (markR i).part, .int .i64 (markR i).start, .int .i64 (markR i).len]) ∧ Below w.heap.size w w' := by
  have hI := fun W => mark_c i W (by omega) (by omega)
  have hb0 := Blk.new w 31 #[.int .i64 0, .int .i64 0, .int .i64 0]
  go_enter Try.func36, Try.ntmps36
  go_wp2_with (go_at_call 57; refine (hI _).mono ?_; rintro e w' ⟨rfl, rfl⟩)
  refine bodyPost_ret (v := .agg #[.int .i64 0, .int .i64 (8000024 + i), .int .i64 0]) (by simp [results, Try.results36, go_sem]) rfl ⟨rfl, ?_⟩
  exact (Below.refl _ _).alloc (Nat.le_refl _) _

/-- a copy of l with twelve marks behind it. -/
def Lent (w : World) (v : Value) (l : List Win) : Prop := ∃ g cap, v = .slice (some ⟨g, 0, none⟩) l.length cap ∧ Row w g cap (l ++ (List.range 12).map markR)
theorem Lent.below {w w' : World} {v : Value} {l : List Win} (h : Lent w v l) (hb : Below w.heap.size w w') : Lent w' v l := by
  obtain ⟨g, cap, rfl, hr⟩ := h
  exact ⟨g, cap, rfl, hr.below hb hr.lt⟩
def LentPost (w : World) (l : List Win) (e : Ending) (w' : World) : Prop := ∃ v, e = .returned v ∧ Lent w' v l ∧ Below w.heap.size w w'

theorem rdReg_reads {w : World} {B : Nat} {A : Option Addr} {l : List Win} (h : RdG Win.tri w B A l) : Reads w B 3 A l.length (l.flatMap (cellsG Win.tri)) :=
  ⟨cellsG_length l, fun hn => by
    obtain ⟨b, o, rfl, hb, hc⟩ := h hn
    exact ⟨_, rfl, hb, rd_flat (B := B) (fun _ => ⟨b, o, rfl, hb, hc⟩) hn⟩⟩
theorem cells3_one (l : List Win) : ∀ u ∈ l.flatMap (cellsG Win.tri), u.oneCell' = true := fun u hu => by
  obtain ⟨r, _, hr⟩ := List.mem_flatMap.1 hu; simp [cellsG] at hr; rcases hr with rfl | rfl | rfl <;> rfl

def lentTo (l : List Win) (k : Nat) : List Value := (l ++ (List.range k).map markR).flatMap (cellsG Win.tri)
theorem lentTo_zero (l : List Win) : lentTo l 0 = l.flatMap (cellsG Win.tri) := by simp [lentTo]
theorem lentTo_succ (l : List Win) (k : Nat) : lentTo l (k + 1) = lentTo l k ++ [.int .i64 (markR k).part, .int .i64 (markR k).start, .int .i64 (markR k).len] := by
  unfold lentTo
  rw [List.range_succ, List.map_append, ← List.append_assoc, List.flatMap_append (xs := l ++ _)]; rfl

set_option maxRecDepth 100000 in
set_option maxHeartbeats 1000000 in
theorem lent_c (l : List Win) (A : Option Addr) (c : Nat) (w : World) (h : RdG Win.tri w w.heap.size A l) (hl : l.length ≤ 1000) :
    Calls Try.prog 14 #[.slice A l.length c] w (LentPost w l) := by
  obtain ⟨i0, hi0, hz0, hz1, hz2⟩ := info_parts info31
  have hmk : ∀ W, (Instr.makeSlice 26 (.int .i64 0) (.int .i64 ((l.length : Int) + 12))).run Try.prog W = .ok (.slice (some ⟨W.heap.size, 0, none⟩) 0 (l.length + 12)) (W.alloc (.cells (madeCells #[.int .i64 0, .int .i64 0, .int .i64 0] ((l.length + 12) * 3)) 31)) := fun W => by
    have e := run_make_rowN (P := Try.prog) 26 31 i0 _ Try.underlying26 hi0 hz0 .i64 .i64 0 (l.length + 12) (by omega) (by rw [hz2]; omega) (by omega) W
    rw [hz1] at e
    simpa [Value.cells] using e
  have hread := (rdReg_reads h).alloc (Nat.le_refl _) (.cells (madeCells #[.int .i64 0, .int .i64 0, .int .i64 0] ((l.length + 12) * 3)) 31)
  have hone := cells3_one l
  have Hread := Lib.hid hread
  have Hone := Lib.hid hone
  clear hread hone h
  go_enter Try.func14, Try.ntmps14
  go_wp2_with (at_builtin; refine wpList_append_any _ rfl _ _ 26 rfl w.heap.size 31 i0 (.agg #[.int .i64 0, .int .i64 0, .int .i64 0]) 3 24 Try.underlying26 hi0 hz0 hz1 hz2 rfl (by decide) _ 0 [] rfl (World.ownsRow_made _ _ (l.length + 12) (Nat.le_refl _) (by simp [maxLen]; omega) (by simp [size_madeCells])) w.heap.size A l.length c (l.flatMap (cellsG Win.tri)) rfl Hread.out Hone.out ?c3 ?c4 ?c5 ?_)
  case c3 => unfold maxLen; omega
  case c4 => omega
  case c5 => simp
  intro v' w2 hown2 hgrow hwhere
  have hB : Below w.heap.size w w2 := ((Below.refl _ w).alloc (Nat.le_refl _) _).grown hgrow (by simp) (fun k hk => by simp [Value.ownBlock] at hk; omega)
  try rw [List.nil_append, Nat.zero_add] at hown2
  clear hgrow hwhere Hread Hone hmk
  have hbig : (l.length : Int) ≤ 1000 := by omega
  go_wp2
  go_loopw [3, 4] (fun v i wr => ∃ k : Nat, k ≤ 12 ∧ i = .int .i64 k ∧ Below w.heap.size w wr ∧ wr.ownsRow w.heap.size 31 3 v (l.length + k) (lentTo l k)) (fun _ i _ => 12 - (intOf i).toNat)
  case atStart => exact ⟨0, by omega, rfl, hB, by rw [lentTo_zero]; exact hown2⟩
  case round =>
    obtain ⟨k, hk, rfl, hB3, hown⟩ := hrel
    by_cases hlt : k < 12
    · have hmark := markWindow_c k wr (by omega)
      have hz := hB3.size
      go_wp2_with fail
      refine hmark.mono ?_
      rintro e w3 ⟨rfl, hb3⟩
      have hown3 : w3.ownsRow w.heap.size 31 3 u3 (l.length + k) (lentTo l k) := hown.kept (only_of_below hb3 none) (by
        rcases hown.2 with ⟨h0, _⟩ | ⟨g, cap, cur, h0, _⟩
        · left; rw [h0]; rfl
        · right; rw [h0]; simp [Value.ownBlock])
      have hB4 := hB3.trans (hb3.mono hz)
      have hz4 := hB4.size
      clear hmark hb3 hown
      go_wp2_with (at_builtin; refine wpList_append_own _ rfl _ _ 26 rfl w.heap.size 31 i0 (.agg #[.int .i64 0, .int .i64 0, .int .i64 0]) 3 24 Try.underlying26 hi0 hz0 hz1 hz2 rfl (by decide) _ _ _ rfl (hown3.alloc _) ⟨w3.heap.size, 0, none⟩ 1 1 [.int .i64 (markR k).part, .int .i64 (markR k).start, .int .i64 (markR k).len] rfl rfl ?c1 ?c2 ?c3 ?c4 ?c5 ?_)
      case c1 => exact World.news_of_block (cs := #[.int .i64 (markR k).part, .int .i64 (markR k).start, .int .i64 (markR k).len]) (t := 31) (fr := (0, 0)) (heap_alloc_new w3 _)
      case c2 => simp [Value.oneCell']
      case c3 => unfold maxLen; omega
      case c4 => omega
      case c5 => simp; omega
      intro v4 w4 hown4 hgrow4 _
      have hB5 : Below w.heap.size w w4 := (hB4.alloc hz4 _).grown hgrow4 (by simp; omega) (fun g hg => (hown3.lt g hg).1)
      have heq := lentTo_succ l k
      rw [← heq] at hown4
      have Hown4 := Lib.hid hown4
      clear hgrow4 hown3 heq hown4
      go_wp2
      go_roundw
      case rel => exact ⟨k + 1, by omega, by go_num, hB5, Hown4.out⟩
      case measure => simp [intOf]; omega
    · obtain rfl : k = 12 := by omega
      have hlen : (l ++ (List.range 12).map markR).length = l.length + 12 := by simp
      have hex : ∃ g cap, u3 = .slice (some ⟨g, 0, none⟩) (l.length + 12) cap ∧ l.length + 12 ≤ cap ∧ cap ≤ 9223372036854775807 := by
        rcases hown.2 with ⟨_, h0⟩ | ⟨g, cap, cur, h0, _, _, h1, h2, _⟩
        · omega
        · exact ⟨g, cap, h0, h1, h2⟩
      obtain ⟨g, cap, rfl, hcap, hcm⟩ := hex
      have hrow := Row.of_own (l := l ++ (List.range 12).map markR) (by rw [hlen]) hown
      have Hrow := Lib.hid hrow
      clear hrow hown hlen hown2
      go_wp2
      go_ret
      exact ⟨.slice (some ⟨g, 0, none⟩) l.length cap, by simp, ⟨g, cap, rfl, Hrow.out⟩, hB3⟩

theorem eql_same (r : Win) (W : World) : (binOp .eql 31 (.agg #[.int .i64 r.part, .int .i64 r.start, .int .i64 r.len]) (.agg #[.int .i64 r.part, .int .i64 r.start, .int .i64 r.len])).run Try.prog W = .ok (.bool true) W := by
  rw [eql_Win, Win.eqB_iff.2 rfl]

set_option maxRecDepth 100000 in
set_option maxHeartbeats 1000000 in
theorem kept_c (v : Value) (l : List Win) (A : Option Addr) (c : Nat) (w : World) (hv : Lent w v l) (h : RdG Win.tri w w.heap.size A l) (hl : l.length ≤ 1000) :
    Calls Try.prog 19 #[v, .slice A l.length c] w fun e w' => e = .returned (.bool true) ∧ Below w.heap.size w w' := by
  obtain ⟨g, cap, rfl, hr⟩ := hv
  have hcap : l.length + 12 ≤ cap := by obtain ⟨_, _, h, _⟩ := hr; simpa using h
  have hcm : cap ≤ 9223372036854775807 := by obtain ⟨_, _, _, h, _⟩ := hr; exact h
  have hgl := hr.lt
  have hne : ((l.length : Int) != (l.length : Int)) = false := by simp
  have hgd := guard_Win
  go_enter Try.func19, Try.ntmps19
  go_wp2
  go_loopw [6] (fun i wr => ∃ k : Nat, k ≤ l.length + 12 ∧ i = .int .i64 k ∧ Below w.heap.size w wr) (fun i _ => l.length + 12 - (intOf i).toNat)
  case atStart => exact ⟨0, by omega, rfl, Below.refl _ _⟩
  case round =>
    obtain ⟨k, hk, rfl, hB⟩ := hrel
    have hr2 := hr.below hB hgl
    have hg2 := hr2.lt
    by_cases hlt : k < l.length
    · obtain ⟨b, o, rfl, hb, hc⟩ := h.keep hB (by omega)
      obtain ⟨c0, c1, c2⟩ := hc k hlt
      change _ = some (Value.int .i64 l[k].part) at c0
      change _ = some (Value.int .i64 l[k].start) at c1
      change _ = some (Value.int .i64 l[k].len) at c2
      obtain ⟨d0, d1, d2⟩ := hr2.cells k (by simp; omega)
      rw [List.getElem_append_left hlt] at d0 d1 d2
      have heq := eql_same l[k]
      clear hc h hr hr2
      generalize l[k] = r at c0 c1 c2 d0 d1 d2 heq
      have hi0 : (0 : Int) ≤ (k : Int) := by omega
      have hi1 : (k : Int) < (l.length : Int) := by omega
      have hi2 : (k : Int) < (l.length : Int) + 12 := by omega
      have t1 : decide (k < l.length) = true := by simp; omega
      have t2 : decide (l.length ≤ k) = false := by simp; omega
      go_wp2
      go_quiet (fail)
      go_wp2
      go_roundw
      case rel => exact ⟨k + 1, by omega, by go_num, below_drewN hB _⟩
      case measure => simp [intOf]; omega
    · by_cases hlt2 : k < l.length + 12
      · obtain ⟨d0, d1, d2⟩ := hr2.cells k (by simp; omega)
        rw [List.getElem_append_right (by omega)] at d0 d1 d2
        simp only [List.getElem_map, List.getElem_range] at d0 d1 d2
        have heq := eql_same (markR (k - l.length))
        have hmark := fun W => markWindow_c (k - l.length) W (by omega)
        have hcast : (((k - l.length : Nat) : Nat) : Int) = (k : Int) - (l.length : Int) := by omega
        rw [hcast] at hmark
        clear h hr hr2 hcast
        generalize markR (k - l.length) = r at d0 d1 d2 heq hmark
        have hi0 : (0 : Int) ≤ (k : Int) := by omega
        have hi2 : (k : Int) < (l.length : Int) + 12 := by omega
        have t1 : decide (k < l.length) = false := by simp; omega
        have t2 : decide (l.length ≤ k) = true := by simp; omega
        have hec := ext_cell wr
        have hw1 : IntKind.i64.wrap ((k : Int) - (l.length : Int)) = (k : Int) - (l.length : Int) := IntWalk.i64_in _ (by omega)
        go_wp2
        refine wp_region_ext (by kernel_rfl) (by kernel_rfl) ?_
        repeat (go_big_quiet_step ((go_at_call 36; exact ext_call (hmark _))))
        refine wpQuiet_nil ?_
        intro _ hw'
        obtain ⟨x, hw''⟩ := hw'
        subst hw''
        have hH := x.h
        generalize x.w = wx at hH ⊢
        clear x
        have hB5 := hB.trans (hH.mono hB.size)
        clear hw1 hmark hH hec
        go_wp2
        go_roundw
        case rel => exact ⟨k + 1, by omega, by go_num, hB5⟩
        case measure => simp [intOf]; omega
      · obtain rfl : k = l.length + 12 := by omega
        go_wp2
        go_ret
        exact ⟨rfl, hB⟩
end Go.Proofs.Ytlmbffnmjfbglaa
