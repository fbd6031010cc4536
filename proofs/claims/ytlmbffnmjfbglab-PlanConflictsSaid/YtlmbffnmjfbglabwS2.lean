/- Sorting nothing; the contract of ordered. -/
import Derived.Test.YtlmbffnmjfbglabwS1
import Derived.RangeFuncNested
namespace Go.Proofs.Ytlmbffnmjfbglab
open Go.ChangeShapes Go.WideShapes Go.ChangeAt Go.RowKit Go.Sort

theorem ins_nil_c (w : World) (f : Value) : Calls Try.prog 114 #[.slice none 0 0, .int .i64 0, .int .i64 0, f] w fun e w' => e = .returned (.tuple #[]) ∧ w = w' := by
  go_enter Try.func114, Try.ntmps114
  go_wp2
  refine wp_loop_rounds 1 ?_
  rw [rounds_succ]
  go_wp2
  go_end0
  exact ⟨rfl, rfl⟩
theorem pdq_nil_c (w : World) (f : Value) (lim : Int) : Calls Try.prog 104 #[.slice none 0 0, .int .i64 0, .int .i64 0, .int .i64 lim, f] w fun e w' => e = .returned (.tuple #[]) ∧ w = w' := by
  have hi := fun W => ins_nil_c W f
  go_enter Try.func104, Try.ntmps104
  go_wp2
  refine wp_loop_rounds 1 ?_
  rw [rounds_succ]
  go_wp2_with (go_at_call 114; refine (hi _).mono ?_; rintro e w' ⟨rfl, rfl⟩)
  exact bodyPost_ret (results_none rfl _ _ _) rfl ⟨rfl, rfl⟩
theorem sort_nil_c (w : World) (f : Value) : Calls Try.prog 93 #[.slice none 0 0, f] w fun e w' => e = .returned (.tuple #[]) ∧ w = w' := by
  have hp := fun lim W => pdq_nil_c W f lim
  have hb : ∀ W, Calls Try.prog 105 #[.int .u64 0] W fun e w' => e = .returned (.int .i64 (Lib.bitLen 0 : Nat)) ∧ w' = W := fun W =>
    Go.Proofs.Any.bits_Len (Go.Proofs.SlLaysF0.n15.bits (P := Try.prog) (ρ := Go.Proofs.Try.sortWins_ren) { Go.Proofs.Try.sortWins with }) 0 W (by omega) (by omega)
  go_enter Try.func93, Try.ntmps93
  go_wp2_with (first | (go_at_call 105; refine (hb _).mono ?_; rintro e w' ⟨rfl, rfl⟩) | (go_at_call 104; refine (hp _ _).mono ?_; rintro e w' ⟨rfl, rfl⟩))
  go_end0
  exact ⟨rfl, rfl⟩

/-- a slice of the call's own: nil, or the whole of a row from block B on. -/
def OwnWin (w : World) (B : Nat) (v : Value) (l : List Win) : Prop := (v = .slice none 0 0 ∧ l = []) ∨ ∃ g cap, v = .slice (some ⟨g, 0, none⟩) l.length cap ∧ B ≤ g ∧ Row w g cap l
theorem Row.of_own {w : World} {base g cap n : Nat} {l : List Win} (hn : n = l.length) (h : w.ownsRow base 107 3 (.slice (some ⟨g, 0, none⟩) n cap) n (l.flatMap (cellsG Win.tri))) : Row w g cap l := by
  subst hn
  rcases h.2 with ⟨h0, _⟩ | ⟨g', cap', cur, hv, _, hh, hnc, hcm, hsz, htk⟩
  · cases h0
  · injection hv with h1 h2 h3
    injection h1 with h1
    injection h1 with h1
    subst h1 h3
    refine ⟨cur, hh, hnc, hcm, hsz, fun i hi => ?_⟩
    obtain ⟨q0, q1, q2⟩ := cellsG_get (f := Win.tri) l i hi
    have e : ∀ j v, j < l.length * 3 → (l.flatMap (cellsG Win.tri))[j]? = some v → cur[j]? = some v := fun j v hj hq => by
      rw [← htk, List.getElem?_take, if_pos hj] at hq
      simpa using hq
    exact ⟨e _ _ (by omega) q0, e _ _ (by omega) q1, e _ _ (by omega) q2⟩
theorem OwnWin.of_own {w : World} {base n : Nat} {v : Value} {l : List Win} (hn : n = l.length) (h : w.ownsRow base 107 3 v n (l.flatMap (cellsG Win.tri))) : OwnWin w base v l := by
  rcases h.2 with ⟨rfl, h0⟩ | ⟨g, cap, cur, rfl, hb, _⟩
  · left
    refine ⟨rfl, List.eq_nil_of_length_eq_zero ?_⟩
    rw [h0] at hn; exact hn.symm
  · right
    exact ⟨g, cap, by rw [hn], hb, Row.of_own hn h⟩
theorem Row.lt {w : World} {g cap : Nat} {l : List Win} (h : Row w g cap l) : g < w.heap.size := by obtain ⟨cur, hh, _⟩ := h; exact Blk.lt (t := 107) hh
theorem Row.cells {w : World} {g cap : Nat} {l : List Win} (h : Row w g cap l) (i : Nat) (hi : i < l.length) : w.cell? ⟨g, i * 3, none⟩ = some (.int .i64 l[i].part) ∧ w.cell? ⟨g, i * 3 + 1, none⟩ = some (.int .i64 l[i].start) ∧ w.cell? ⟨g, i * 3 + 2, none⟩ = some (.int .i64 l[i].len) := by
  obtain ⟨cur, hh, hlc, hcm, hsz, hc⟩ := h
  have hB : Blk w g 107 cur := hh
  rw [hB.cell, hB.cell, hB.cell]
  exact hc i hi
theorem Row.rd {w : World} {g cap : Nat} {l : List Win} (h : Row w g cap l) : RdG Win.tri w w.heap.size (some ⟨g, 0, none⟩) l := fun _ =>
  ⟨g, 0, rfl, h.lt, fun i hi => by have := h.cells i hi; simpa [Win.tri] using this⟩
theorem Row.below {w w' : World} {g cap B : Nat} {l : List Win} (h : Row w g cap l) (hb : Below B w w') (hg : g < B) : Row w' g cap l := by
  obtain ⟨cur, hh, r⟩ := h
  exact ⟨cur, (hb.block g hg).trans hh, r⟩

/-- what ordered hands back: the windows, sorted by their starts; a row of the caller's own has turned. -/
def RetSorted (w : World) (B : Nat) (l : List Win) (e : Ending) (w' : World) : Prop := ∃ A c l', e = .returned (.slice A l.length c) ∧ l'.Perm l ∧ (∀ i j (h : i < j) (hj : j < l'.length), l'[i].start ≤ l'[j].start) ∧ RdG Win.tri w' w'.heap.size A l' ∧ Below B w w' ∧ KeepsOthers w w'

theorem ordered_c (v : Value) (l : List Win) (B : Nat) (w : World) (h : OwnWin w B v l) (hB : B ≤ w.heap.size) (hl : l.length ≤ 1000000) :
    Calls Try.prog 79 #[v, .func (.func 80) #[] #[]] w (RetSorted w B l) := by
  have hB0 : Below B w (w.alloc (.cells #[.func (.func 80) #[] #[]] 109)) := (Below.refl _ _).alloc hB _
  rcases h with ⟨rfl, rfl⟩ | ⟨g, cap, rfl, hBg, hrow⟩
  · have hs := fun f W => sort_nil_c W f
    go_enter Try.func79, Try.ntmps79
    go_wp2_with (go_at_call 93; refine (hs _ _).mono ?_; rintro e w' ⟨rfl, rfl⟩)
    go_ret
    exact ⟨none, 0, [], rfl, List.Perm.refl _, fun i j _ hj => absurd hj (by simp), RdG.nil, hB0, KeepsOthers.alloc _ _⟩
  · have hg := hrow.lt
    have hrow1 : Row (w.alloc (.cells #[.func (.func 80) #[] #[]] 109)) g cap l := hrow.below ((Below.refl _ w).alloc (Nat.le_refl _) _) hg
    have hs := sort_c g cap w.heap.size l _ hrow1 hl ((Blk.new w 109 #[.func (.func 80) #[] #[]]).cell 0) (by omega) (by simp)
    go_enter Try.func79, Try.ntmps79
    go_wp2_with fail
    refine hs.mono ?_
    rintro e w' ⟨l', rfl, hperm, hsort, hrow', hgr⟩
    have hB' : Below B w w' := hB0.grown hgr (by simp; omega) (fun k hk => by injection hk with hk; omega)
    have hko : KeepsOthers w w' := (KeepsOthers.alloc _ _).trans (KeepsOthers.of_grownBy hgr (fun j o e ho => by
      obtain ⟨cur, hh, _⟩ := hrow1
      injection e with e
      subst e
      rw [hh] at ho; cases ho; rfl))
    clear hs hrow hrow1 hgr hB0
    have hlen := hperm.length_eq
    have hrd := hrow'.rd
    have Hsort := Lib.hid hsort
    have Hlen := Lib.hid hlen
    clear hsort hlen hrow'
    go_wp2
    go_ret
    exact ⟨_, cap, l', rfl, hperm, Hsort.out, hrd, hB', hko⟩
end Go.Proofs.Ytlmbffnmjfbglab
