/- LentClaims and KeptClaims. -/
import Derived.Test.YtlmbffnmjfbglabE1
set_option linter.unusedSimpArgs false
set_option linter.unusedVariables false
namespace Go.Proofs.Ytlmbffnmjfbglab
open Go.ChangeShapes Go.WideShapes Go.ChangeAt Go.RowKit

theorem markClaim_c (i : Nat) (w : World) (h1 : i ≤ 1000000) : Calls Try.prog 72 #[.int .i64 1, .int .i64 i] w fun e w' => e = .returned (.agg #[.int .i64 (markI i), .int .i64 0, .int .i64 0, .slice none 0 0]) ∧ Below w.heap.size w w' := by
  have hI := fun W => mark_c i W (by omega) (by omega)
  have hb0 := Blk.new w 35 #[.int .i64 0, .int .i64 0, .int .i64 0, .slice none 0 0]
  go_enter Try.func72, Try.ntmps72
  go_wp2_with (go_at_call 70; refine (hI _).mono ?_; rintro e w' ⟨rfl, rfl⟩)
  refine bodyPost_ret (v := .agg #[.int .i64 (8000024 + i), .int .i64 0, .int .i64 0, .slice none 0 0]) (by simp [results, Try.results72, go_sem]) rfl ⟨rfl, ?_⟩
  exact (Below.refl _ _).alloc (Nat.le_refl _) _
/-- a call lends claims. -/
def LentCPost (w : World) (l : List Claim) (e : Ending) (w' : World) : Prop := ∃ V, e = .returned V ∧ LdS w' (MadeQ w.heap.size w') V l ∧ Below w.heap.size w w'

set_option maxRecDepth 100000 in
set_option maxHeartbeats 2000000 in
theorem lent1_c (f t wi : Int) (sub : List Claim) (A : Option Addr) (c : Nat) (w : World)
    (ih : ∀ W, Below w.heap.size w W → Calls Try.prog 49 #[.slice A sub.length c] W (LentCPost W sub)) :
    Calls Try.prog 71 #[.agg #[.int .i64 f, .int .i64 t, .int .i64 wi, .slice A sub.length c]] w fun e w' => ∃ V, e = .returned (.agg #[.int .i64 f, .int .i64 t, .int .i64 wi, V]) ∧ LdS w' (MadeQ w.heap.size w') V sub ∧ Below w.heap.size w w' := by
  have hB : Below w.heap.size w ((w.alloc (.cells #[.int .i64 f, .int .i64 t, .int .i64 wi, .slice A sub.length c] 35)).alloc (.cells #[.int .i64 0, .int .i64 0, .int .i64 0, .slice none 0 0] 35)) := ((Below.refl _ w).alloc (Nat.le_refl _) _).alloc (by simp) _
  have hb0 : Blk ((w.alloc (.cells #[.int .i64 f, .int .i64 t, .int .i64 wi, .slice A sub.length c] 35)).alloc (.cells #[.int .i64 0, .int .i64 0, .int .i64 0, .slice none 0 0] 35)) w.heap.size 35 #[.int .i64 f, .int .i64 t, .int .i64 wi, .slice A sub.length c] := (Blk.new w 35 _).alloc _
  have hb1 : Blk ((w.alloc (.cells #[.int .i64 f, .int .i64 t, .int .i64 wi, .slice A sub.length c] 35)).alloc (.cells #[.int .i64 0, .int .i64 0, .int .i64 0, .slice none 0 0] 35)) (w.heap.size + 1) 35 #[.int .i64 0, .int .i64 0, .int .i64 0, .slice none 0 0] := by
    have := Blk.new (w.alloc (.cells #[.int .i64 f, .int .i64 t, .int .i64 wi, .slice A sub.length c] 35)) 35 #[.int .i64 0, .int .i64 0, .int .i64 0, .slice none 0 0]
    simpa only [World.size_alloc] using this
  have hih := ih _ hB
  clear ih
  go_enter Try.func71, Try.ntmps71
  go_wp2_with fail
  generalize (w.alloc (.cells #[.int .i64 f, .int .i64 t, .int .i64 wi, .slice A sub.length c] 35)).alloc (.cells #[.int .i64 0, .int .i64 0, .int .i64 0, .slice none 0 0] 35) = W1 at *
  refine hih.mono ?_
  rintro e W2 ⟨V, rfl, hCR, hb2⟩
  have hz := hb1.lt
  replace hb0 := hb0.below hb2 hb0.lt
  replace hb1 := hb1.below hb2 hb1.lt
  have hB2 := hB.trans (hb2.mono hB.size)
  clear hih hb2 hB
  have q0 : W2.cell? ⟨w.heap.size, 0, none⟩ = some (.int .i64 f) := hb0.cell 0
  have q1 : W2.cell? ⟨w.heap.size, 1, none⟩ = some (.int .i64 t) := hb0.cell 1
  have q2 : W2.cell? ⟨w.heap.size, 2, none⟩ = some (.int .i64 wi) := hb0.cell 2
  have q3 : W2.cell? ⟨w.heap.size, 3, none⟩ = some (.slice A sub.length c) := hb0.cell 3
  have p0 : W2.cell? ⟨w.heap.size + 1, 0, none⟩ = some (.int .i64 0) := hb1.cell 0
  have p1 : W2.cell? ⟨w.heap.size + 1, 1, none⟩ = some (.int .i64 0) := hb1.cell 1
  have p2 : W2.cell? ⟨w.heap.size + 1, 2, none⟩ = some (.int .i64 0) := hb1.cell 2
  have p3 : W2.cell? ⟨w.heap.size + 1, 3, none⟩ = some (.slice none 0 0) := hb1.cell 3
  have f3 := hb0.frozen 3
  have g0 := hb1.frozen 0
  have g1 := hb1.frozen 1
  have g2 := hb1.frozen 2
  have g3 := hb1.frozen 3
  obtain ⟨A', c', rfl⟩ : ∃ A' c', V = .slice A' sub.length c' := by obtain ⟨g, c, e, _⟩ := hCR; exact ⟨_, c, e⟩
  have hz1 : w.heap.size + 1 < W1.heap.size := hz
  have HC := Lib.hid hCR
  have HB := Lib.hid hB2
  have Hb0 := Lib.hid hb0
  have Hb1 := Lib.hid hb1
  have Hz := Lib.hid hz
  clear hCR hB2 hb0 hb1 hz
  go_wp2_with fail
  have hgr : Gr (fun b => b = w.heap.size ∨ b = w.heap.size + 1) W2 (((((W2.setCell ⟨w.heap.size, 3, none⟩ (.slice A' sub.length c')).setCell ⟨w.heap.size + 1, 0, none⟩ (.int .i64 f)).setCell ⟨w.heap.size + 1, 1, none⟩ (.int .i64 t)).setCell ⟨w.heap.size + 1, 2, none⟩ (.int .i64 wi)).setCell ⟨w.heap.size + 1, 3, none⟩ (.slice A' sub.length c')) :=
    ((((Gr.setCell _ _ _ (by simp)).trans (Gr.setCell _ _ _ (by simp))).trans (Gr.setCell _ _ _ (by simp))).trans (Gr.setCell _ _ _ (by simp))).trans (Gr.setCell _ _ _ (by simp))
  have hr : Blk (((((W2.setCell ⟨w.heap.size, 3, none⟩ (.slice A' sub.length c')).setCell ⟨w.heap.size + 1, 0, none⟩ (.int .i64 f)).setCell ⟨w.heap.size + 1, 1, none⟩ (.int .i64 t)).setCell ⟨w.heap.size + 1, 2, none⟩ (.int .i64 wi)).setCell ⟨w.heap.size + 1, 3, none⟩ (.slice A' sub.length c')) (w.heap.size + 1) 35 #[.int .i64 f, .int .i64 t, .int .i64 wi, .slice A' sub.length c'] :=
    (((((Hb1.out.far (p := ⟨w.heap.size, 3, none⟩) (by simp) _).set_ 0 (.int .i64 f)).set_ 1 (.int .i64 t)).set_ 2 (.int .i64 wi)).set_ 3 (.slice A' sub.length c'))
  generalize ((((W2.setCell ⟨w.heap.size, 3, none⟩ (.slice A' sub.length c')).setCell ⟨w.heap.size + 1, 0, none⟩ (.int .i64 f)).setCell ⟨w.heap.size + 1, 1, none⟩ (.int .i64 t)).setCell ⟨w.heap.size + 1, 2, none⟩ (.int .i64 wi)).setCell ⟨w.heap.size + 1, 3, none⟩ (.slice A' sub.length c') = W3 at *
  have r0 : W3.cell? ⟨w.heap.size + 1, 0, none⟩ = some (.int .i64 f) := hr.cell 0
  have r1 : W3.cell? ⟨w.heap.size + 1, 1, none⟩ = some (.int .i64 t) := hr.cell 1
  have r2 : W3.cell? ⟨w.heap.size + 1, 2, none⟩ = some (.int .i64 wi) := hr.cell 2
  have r3 : W3.cell? ⟨w.heap.size + 1, 3, none⟩ = some (.slice A' sub.length c') := hr.cell 3
  have hz := Hz.out
  refine bodyPost_ret (v := .agg #[.int .i64 f, .int .i64 t, .int .i64 wi, .slice A' sub.length c']) (by simp [results, Try.results71, go_sem, r0, r1, r2, r3]) rfl ⟨_, rfl, HC.out.keep fun b ⟨h1, o, h2, h3⟩ => ?_, ((Gr.of_below (X := fun b => w.heap.size ≤ b) HB.out).trans (hgr.mono fun k _ x => by rcases x with x | x <;> omega)).below0 fun k hk x => by omega⟩
  have hb := (Array.getElem?_eq_some_iff.1 h2).1
  have e := hgr.block b hb (by omega)
  exact ⟨fun _ => World.cell?_of_block e, by omega, o, e.trans h2, h3⟩


/-- the values are those of claims that are lent. -/
def CVL (w : World) (Q : Nat → Prop) (L : List CV) (l : List Claim) : Prop := L.length = l.length ∧ ∀ i (h : i < L.length) (h' : i < l.length), L[i].f = l[i].frm ∧ L[i].t = l[i].to ∧ L[i].w = l[i].wth ∧ LdS w Q (.slice L[i].s.a L[i].s.n L[i].s.c) l[i].sub
theorem CVL.keep {w w' : World} {Q Q' : Nat → Prop} {L : List CV} {l : List Claim} (hc : CVL w Q L l) (h : ∀ b, Q b → (∀ o, w'.cell? ⟨b, o, none⟩ = w.cell? ⟨b, o, none⟩) ∧ Q' b) : CVL w' Q' L l :=
  ⟨hc.1, fun i hi hi' => by obtain ⟨a, b, c, d⟩ := hc.2 i hi hi'; exact ⟨a, b, c, d.keep h⟩⟩
theorem CVL.nil {w : World} {Q : Nat → Prop} : CVL w Q [] [] := ⟨rfl, fun i h => by simp at h⟩
theorem CVL.push {w : World} {Q : Nat → Prop} {L : List CV} {l : List Claim} (hc : CVL w Q L l) (x : CV) (y : Claim) (h : x.f = y.frm ∧ x.t = y.to ∧ x.w = y.wth ∧ LdS w Q (.slice x.s.a x.s.n x.s.c) y.sub) : CVL w Q (L ++ [x]) (l ++ [y]) := by
  refine ⟨by simp [hc.1], fun i hi hi' => ?_⟩
  by_cases e : i < L.length
  · rw [List.getElem_append_left e, List.getElem_append_left (by rw [← hc.1]; exact e)]
    exact hc.2 i e _
  · have : i = L.length := by simp at hi; omega
    subst this
    have e2 := hc.1
    simp only [List.getElem_append_right (Nat.le_refl _), Nat.sub_self]
    rw [List.getElem_append_right (by omega)]
    simpa [e2] using h
def mkCV (i : Nat) : CV := ⟨markI i, 0, 0, ⟨none, 0, 0⟩⟩
/-- a row that a call makes: claims, and j marks behind them. -/
structure LR (B : Nat) (W : World) (v : Value) (l : List Claim) (L : List CV) (j : Nat) : Prop where
  own : W.ownsRow B 35 4 v (l.length + j) ((L ++ (List.range j).map mkCV).flatMap CV.cells)
  cvl : CVL W (fun b => B ≤ b ∧ v.ownBlock ≠ some b ∧ ∃ o, W.heap[b]? = some o ∧ o.isCells = true) L l
section
variable {B : Nat} {W W' w2 : World} {v V : Value} {l : List Claim} {L : List CV} {j : Nat}
theorem LR.below (h : LR B W v l L j) (hb : Below W.heap.size W W') : LR B W' v l L j :=
  ⟨h.own.kept (below_grown (row := none) hb) (by cases v.ownBlock <;> simp), h.cvl.keep fun b ⟨q1, q2, o, q3, q4⟩ => by
    have e := hb.block b (Array.getElem?_eq_some_iff.1 q3).1
    exact ⟨fun _ => World.cell?_of_block e, q1, q2, o, e.trans q3, q4⟩⟩
theorem LR.keepQ (hgr : W.grownBy w2 v.ownBlock) (hg : V.ownBlock = v.ownBlock ∨ ∃ g, V.ownBlock = some g ∧ W.heap.size ≤ g) : ∀ b, (B ≤ b ∧ v.ownBlock ≠ some b ∧ ∃ o, W.heap[b]? = some o ∧ o.isCells = true) → (∀ o, w2.cell? ⟨b, o, none⟩ = W.cell? ⟨b, o, none⟩) ∧ (B ≤ b ∧ V.ownBlock ≠ some b ∧ ∃ o, w2.heap[b]? = some o ∧ o.isCells = true) := fun b ⟨q1, q2, o, q3, q4⟩ => by
  have hb := (Array.getElem?_eq_some_iff.1 q3).1
  have e := hgr.block b hb (fun e => q2 e.symm)
  refine ⟨fun _ => World.cell?_of_block e, q1, fun e2 => ?_, o, e.trans q3, q4⟩
  rcases hg with hg | ⟨g, hg, hgl⟩
  · exact q2 (by rw [← hg, e2])
  · rw [hg] at e2
    injection e2 with e2
    omega
theorem LR.push {x : CV} {y : Claim} (h : LR B W v l L 0) (hgr : W.grownBy w2 v.ownBlock) (hown : w2.ownsRow B 35 4 V (l.length + 1) (L.flatMap CV.cells ++ CV.cells x)) (hg : V.ownBlock = v.ownBlock ∨ ∃ g, V.ownBlock = some g ∧ W.heap.size ≤ g)
    (hx : x.f = y.frm ∧ x.t = y.to ∧ x.w = y.wth ∧ LdS W (fun b => B ≤ b ∧ v.ownBlock ≠ some b ∧ ∃ o, W.heap[b]? = some o ∧ o.isCells = true) (.slice x.s.a x.s.n x.s.c) y.sub) : LR B w2 V (l ++ [y]) (L ++ [x]) 0 := by
  obtain ⟨a1, a2, a3, a4⟩ := hx
  exact ⟨by simpa using hown, (h.cvl.keep (LR.keepQ hgr hg)).push x y ⟨a1, a2, a3, a4.keep (LR.keepQ hgr hg)⟩⟩
theorem LR.mark (h : LR B W v l L j) (hgr : W.grownBy w2 v.ownBlock) (hown : w2.ownsRow B 35 4 V (l.length + j + 1) ((L ++ (List.range j).map mkCV).flatMap CV.cells ++ CV.cells (mkCV j))) (hg : V.ownBlock = v.ownBlock ∨ ∃ g, V.ownBlock = some g ∧ W.heap.size ≤ g) : LR B w2 V l L (j + 1) := by
  refine ⟨?_, h.cvl.keep (LR.keepQ hgr hg)⟩
  rw [List.range_succ, List.map_append, ← List.append_assoc, List.flatMap_append]
  simpa [Nat.add_assoc] using hown
theorem LR.fin (h : LR B W v l L 12) : ∃ g cap, v = .slice (some ⟨g, 0, none⟩) (l.length + 12) cap ∧ LdS W (MadeQ B W) (.slice (some ⟨g, 0, none⟩) l.length cap) l := by
  obtain ⟨g, cap, cur, rfl, hb, hk, h1, h2, h3⟩ := own_form h.own (by omega)
  have hll := h.cvl.1
  have hcell : ∀ i (hi : i < (L ++ (List.range 12).map mkCV).length) r u, r < 4 → (CV.cells (L ++ (List.range 12).map mkCV)[i])[r]? = some u → W.cell? ⟨g, i * 4 + r, none⟩ = some u := fun i hi r u hr hu => by
    obtain ⟨q0, q1, q2, q3⟩ := CV.get _ i hi
    have hq : ((L ++ (List.range 12).map mkCV).flatMap CV.cells)[i * 4 + r]? = some u := by
      match r, hr, hu with
      | 0, _, hu => rw [Nat.add_zero, q0]; exact hu
      | 1, _, hu => rw [q1]; exact hu
      | 2, _, hu => rw [q2]; exact hu
      | 3, _, hu => rw [q3]; exact hu
    have := h.own.cells (g := g) rfl _ u hq
    rw [add_none, Nat.zero_add] at this
    exact this
  refine ⟨g, cap, rfl, g, cap, rfl, h1, h2, ⟨hb, _, hk, rfl⟩, LdL.of_ l 0 fun i hi => ?_, fun i hi => ?_⟩
  · have hiL : i < L.length := by omega
    have hi2 : i < (L ++ (List.range 12).map mkCV).length := by simp; omega
    have e : (L ++ (List.range 12).map mkCV)[i] = L[i] := List.getElem_append_left hiL
    obtain ⟨a1, a2, a3, a4⟩ := h.cvl.2 i hiL hi
    have c0 := hcell i hi2 0 (.int .i64 L[i].f) (by omega) (by rw [e]; rfl)
    have c1 := hcell i hi2 1 (.int .i64 L[i].t) (by omega) (by rw [e]; rfl)
    have c2 := hcell i hi2 2 (.int .i64 L[i].w) (by omega) (by rw [e]; rfl)
    have c3 := hcell i hi2 3 (.slice L[i].s.a L[i].s.n L[i].s.c) (by omega) (by rw [e]; rfl)
    obtain ⟨g', c', e1, e2, e3, e4, e5, e6⟩ := a4.keep (Q' := MadeQ B W) fun b ⟨q1, _, q3⟩ => ⟨fun _ => rfl, q1, q3⟩
    rw [e1] at c3
    rw [a1] at c0
    rw [a2] at c1
    rw [a3] at c2
    rw [Nat.zero_add]
    cases hx : l[i] with
    | mk fr to wi sub =>
      rw [hx] at c0 c1 c2 c3 e2 e5 e6
      simp only [Claim.frm, Claim.to, Claim.wth, Claim.sub] at c0 c1 c2 c3 e2 e5 e6
      simp only [LdC]
      exact ⟨by simpa using c0, c1, c2, g', c', c3, e2, e3, e4, e5, e6⟩
  · have hi2 : l.length + i < (L ++ (List.range 12).map mkCV).length := by simp; omega
    have e : (L ++ (List.range 12).map mkCV)[l.length + i] = mkCV i := by
      rw [List.getElem_append_right (by omega)]
      simp [hll]
    exact ⟨by simpa using hcell _ hi2 0 (.int .i64 (markI i)) (by omega) (by rw [e]; rfl), hcell _ hi2 1 (.int .i64 0) (by omega) (by rw [e]; rfl), hcell _ hi2 2 (.int .i64 0) (by omega) (by rw [e]; rfl), hcell _ hi2 3 (.slice none 0 0) (by omega) (by rw [e]; rfl)⟩
end

set_option maxRecDepth 100000 in
set_option maxHeartbeats 4000000 in
theorem lentC_c : ∀ (N : Nat) (l : List Claim), sizeL l < N → ∀ (A : Option Addr) (c : Nat) (w : World), RdK w A l → l.length ≤ maxC → smL maxC l → Calls Try.prog 49 #[.slice A l.length c] w (LentCPost w l) := by
  intro N
  induction N with
  | zero => intro l hl; omega
  | succ N ih =>
    intro l hl A c w h hlen hsm
    unfold maxC at hlen
    obtain ⟨i0, hi0, hz0, hz1, hz2⟩ := info_parts info35
    have hmk : ∀ W, (Instr.makeSlice 29 (.int .i64 0) (.int .i64 ((l.length : Int) + 12))).run Try.prog W = .ok (.slice (some ⟨W.heap.size, 0, none⟩) 0 (l.length + 12)) (W.alloc (.cells (madeCells #[.int .i64 0, .int .i64 0, .int .i64 0, .slice none 0 0] ((l.length + 12) * 4)) 35)) := fun W => by
      have e := run_make_rowN (P := Try.prog) 29 35 i0 _ Try.underlying29 hi0 hz0 .i64 .i64 0 (l.length + 12) (by omega) (by rw [hz2]; omega) (by omega) W
      rw [hz1] at e
      simpa [Value.cells] using e
    have hwr := IntWalk.i64_in ((l.length : Int) + 12) (by omega)
    obtain ⟨W1, hW1⟩ : ∃ W1, W1 = w.alloc (.cells (madeCells #[.int .i64 0, .int .i64 0, .int .i64 0, .slice none 0 0] ((l.length + 12) * 4)) 35) := ⟨_, rfl⟩
    have hB1 : Below w.heap.size w W1 := by rw [hW1]; exact (Below.refl _ w).alloc (Nat.le_refl _) _
    have hown1 : W1.ownsRow w.heap.size 35 4 (.slice (some ⟨w.heap.size, 0, none⟩) 0 (l.length + 12)) 0 [] := by rw [hW1]; exact World.ownsRow_made _ _ (l.length + 12) (Nat.le_refl _) (by simp [maxLen]; omega) (by simp [size_madeCells])
    have hLR1 : LR w.heap.size W1 (.slice (some ⟨w.heap.size, 0, none⟩) 0 (l.length + 12)) [] [] 0 := ⟨by simpa using hown1, CVL.nil⟩
    have IH := Lib.hid ih
    have H := Lib.hid h
    have HN := Lib.hid hl
    have HS := Lib.hid hsm
    have HW1 := Lib.hid hW1
    have HB1 := Lib.hid hB1
    have HLR1 := Lib.hid hLR1
    clear ih h hl hsm hW1 hB1 hLR1 hown1
    go_enter Try.func49, Try.ntmps49
    go_wp2_with fail
    rw [← HW1.out]
    go_loopw [3, 4] (fun v i wr => ∃ (k : Nat) (L : List CV), k ≤ l.length ∧ i = .int .i64 k ∧ Below w.heap.size w wr ∧ Hid (LR w.heap.size wr v (l.take k) L 0)) (fun _ i _ => l.length - (intOf i).toNat)
    case atStart => exact ⟨0, [], Nat.zero_le _, rfl, HB1.out, HLR1.out⟩
    case round =>
      obtain ⟨k, L, hk, rfl, hBr, hLR⟩ := hrel
      by_cases hlt : k < l.length
      · obtain ⟨b, o, rfl, hb, hrl⟩ := RdK.keep' hBr H.out (by omega)
        obtain ⟨c0, c1, c2, As, cs, c3, hs1, hs2, hsr⟩ := (RdL.at_ l o k hlt hrl).open'
        have hi0' : (0 : Int) ≤ (k : Int) := by omega
        have hi1' : (k : Int) < (l.length : Int) := by omega
        have hsz := sizeL_mem hlt
        rw [Claim.subN_sub] at hsz
        have hts : l.take (k + 1) = l.take k ++ [l[k]] := by rw [List.take_add_one, List.getElem?_eq_getElem hlt]; rfl
        have htl : (l.take k).length = k := by simp; omega
        have hsubN : sizeL l[k].sub < N := by have := HN.out; omega
        have hss := Claim.sm_sub (smL_get hlt HS.out)
        cases hcx : l[k] with
        | mk f t wi sub =>
        rw [hcx] at c0 c1 c2 c3 hs1 hsr hsz hts hsubN hss
        simp only [Claim.frm, Claim.to, Claim.wth, Claim.sub] at c0 c1 c2 c3 hs1 hsr hsz hsubN hss
        have hcp := lent1_c f t wi sub As cs wr (fun W hW => IH.out sub hsubN As cs W (RdK.keep' hW hsr) hss.1 hss.2)
        have Hcp := Lib.hid hcp
        have Hts := Lib.hid hts
        have Htl := Lib.hid htl
        clear hcp hts htl hrl hsr hcx hsz hsubN hb hss
        go_wp2_with fail
        refine Hcp.out.mono ?_
        rintro e W2 ⟨V', rfl, hLd, hb2⟩
        obtain ⟨g', c', rfl⟩ : ∃ g' c', V' = .slice (some ⟨g', 0, none⟩) sub.length c' := by obtain ⟨g, c, e, _⟩ := hLd; exact ⟨g, c, e⟩
        obtain ⟨X, hX⟩ : ∃ X, X = (W2.alloc (.cells #[.int .i64 f, .int .i64 t, .int .i64 wi, .slice (some ⟨g', 0, none⟩) sub.length c'] 35)).alloc (.cells #[.int .i64 f, .int .i64 t, .int .i64 wi, .slice (some ⟨g', 0, none⟩) sub.length c'] 35) := ⟨_, rfl⟩
        have hBX : Below W2.heap.size W2 X := by rw [hX]; exact ((Below.refl _ _).alloc (Nat.le_refl _) _).alloc (by simp) _
        have hbT : Blk X (W2.heap.size + 1) 35 #[.int .i64 f, .int .i64 t, .int .i64 wi, .slice (some ⟨g', 0, none⟩) sub.length c'] := by
          rw [hX]
          have := Blk.new (W2.alloc (.cells #[.int .i64 f, .int .i64 t, .int .i64 wi, .slice (some ⟨g', 0, none⟩) sub.length c'] 35)) 35 #[.int .i64 f, .int .i64 t, .int .i64 wi, .slice (some ⟨g', 0, none⟩) sub.length c']
          simpa only [World.size_alloc] using this
        have hBwX := hb2.trans (hBX.mono hb2.size)
        have hlr := hLR.out.below hBwX
        have hVlt : ∀ b, u3.ownBlock = some b → b < wr.heap.size := fun b hb => (hLR.out.own.lt b hb).2
        have hBr2 := hBr.trans (hBwX.mono hBr.size)
        have hldX : LdS X (fun b => w.heap.size ≤ b ∧ u3.ownBlock ≠ some b ∧ ∃ o, X.heap[b]? = some o ∧ o.isCells = true) (.slice (some ⟨g', 0, none⟩) sub.length c') sub := hLd.keep fun b ⟨g1, o, g2, g3⟩ => by
          have e := hBX.block b (Array.getElem?_eq_some_iff.1 g2).1
          exact ⟨fun _ => World.cell?_of_block e, by have := hBr.size; omega, fun e2 => by have := hVlt b e2; omega, o, e.trans g2, g3⟩
        have hown0 : X.ownsRow w.heap.size 35 4 u3 k (L.flatMap CV.cells) := by have := hlr.own; rw [Htl.out] at this; simpa using this
        have Hlr := Lib.hid hlr
        have HbT := Lib.hid hbT
        have HrX := Lib.hid hldX
        have HBX := Lib.hid hBr2
        have Hown0 := Lib.hid hown0
        have HX := Lib.hid hX
        clear hlr hbT hldX hBr2 hLR hLd hBwX hBX hb2 c0 c1 c2 c3 hown0 hX
        go_wp2_with (at_builtin; rw [← HX.out]; refine wpList_append_lies _ rfl _ _ 29 rfl w.heap.size 35 i0 _ 4 48 Try.underlying29 hi0 hz0 hz1 hz2 rfl (by decide) u3 k _ rfl Hown0.out ⟨W2.heap.size + 1, 0, none⟩ 1 1 (CV.cells ⟨f, t, wi, ⟨some ⟨g', 0, none⟩, sub.length, c'⟩⟩) rfl rfl (World.news_of_block HbT.out) (by simp [CV.cells, Value.oneCell']) (by omega) (by unfold maxLen; omega) (by omega) HBX.out.size _ rfl ?_)
        intro g cap w3 hown hgrow hg hgl
        have hpush := Hlr.out.push (x := ⟨f, t, wi, ⟨some ⟨g', 0, none⟩, sub.length, c'⟩⟩) (y := .mk f t wi sub) hgrow (by rw [Htl.out]; exact hown) (by rcases hg with hg | hg; exact .inl hg.symm; exact .inr ⟨g, rfl, by omega⟩) ⟨rfl, rfl, rfl, HrX.out⟩
        rw [← Hts.out] at hpush
        have hB5 : Below w.heap.size w w3 := HBX.out.grown hgrow HBX.out.size (fun b hb => (Hlr.out.own.lt b hb).1)
        have HP := Lib.hid hpush
        clear hown hgrow hg hpush Hlr HbT HrX HBX HX Hown0
        go_wp2_with fail
        go_roundw
        case rel => exact ⟨k + 1, _, by omega, by go_num, hB5, HP.out⟩
        case measure => simp [intOf]; omega
      · obtain rfl : k = l.length := by omega
        have hfin := hLR.out
        rw [List.take_length] at hfin
        have HF := Lib.hid hfin
        have HB := Lib.hid hBr
        clear hLR hfin hBr hlt
        go_wp2_with fail
        go_loopw [3, 6] (fun v i wr => ∃ j : Nat, j ≤ 12 ∧ i = .int .i64 j ∧ Below w.heap.size w wr ∧ Hid (LR w.heap.size wr v l L j)) (fun _ i _ => 12 - (intOf i).toNat)
        case atStart => exact ⟨0, by omega, rfl, HB.out, HF.out⟩
        case round =>
          obtain ⟨j, hj, rfl, hBm, hLR⟩ := hrel
          by_cases hlt : j < 12
          · have hmark := markClaim_c j wr (by omega)
            have hdj : decide ((j : Int) < 12) = true := decide_eq_true (by omega)
            have Hmark := Lib.hid hmark
            clear hmark
            go_wp2_with fail
            refine Hmark.out.mono ?_
            rintro e w3 ⟨rfl, hb3⟩
            obtain ⟨X, hX⟩ : ∃ X, X = w3.alloc (.cells #[.int .i64 (markI j), .int .i64 0, .int .i64 0, .slice none 0 0] 35) := ⟨_, rfl⟩
            have hBX : Below w3.heap.size w3 X := by rw [hX]; exact (Below.refl _ _).alloc (Nat.le_refl _) _
            have hbT : Blk X w3.heap.size 35 #[.int .i64 (markI j), .int .i64 0, .int .i64 0, .slice none 0 0] := by rw [hX]; exact Blk.new w3 35 _
            have hBwX := hb3.trans (hBX.mono hb3.size)
            have hlr := hLR.out.below hBwX
            have hBr2 := hBm.trans (hBwX.mono hBm.size)
            have Hlr := Lib.hid hlr
            have HbT := Lib.hid hbT
            have HBX := Lib.hid hBr2
            have HX := Lib.hid hX
            clear hlr hbT hBr2 hLR hBwX hBX hb3 hX Hmark
            go_wp2_with (at_builtin; rw [← HX.out]; refine wpList_append_lies _ rfl _ _ 29 rfl w.heap.size 35 i0 _ 4 48 Try.underlying29 hi0 hz0 hz1 hz2 rfl (by decide) _ (l.length + j) _ rfl Hlr.out.own ⟨w3.heap.size, 0, none⟩ 1 1 (CV.cells ⟨markI j, 0, 0, ⟨none, 0, 0⟩⟩) rfl rfl (World.news_of_block HbT.out) (by simp [CV.cells, Value.oneCell']) (by omega) (by unfold maxLen; omega) (by omega) HBX.out.size _ rfl ?_)
            intro g cap w4 hown hgrow hg hgl
            have hpush := Hlr.out.mark (V := .slice (some ⟨g, 0, none⟩) (l.length + j + 1) cap) hgrow (by rw [List.flatMap_append, List.append_assoc]; exact hown) (by rcases hg with hg | hg; exact .inl hg.symm; exact .inr ⟨g, rfl, by omega⟩)
            have hB5 : Below w.heap.size w w4 := HBX.out.grown hgrow HBX.out.size (fun b hb => (Hlr.out.own.lt b hb).1)
            have HP := Lib.hid hpush
            clear hown hgrow hg hpush Hlr HbT HBX HX
            go_wp2_with fail
            go_roundw
            case rel => exact ⟨j + 1, by omega, by go_num, hB5, HP.out⟩
            case measure => simp [intOf]; omega
          · obtain rfl : j = 12 := by omega
            have hdj : decide (((12 : Nat) : Int) < 12) = false := by decide
            have hfin := hLR.out
            obtain ⟨g, cap, rfl, hld⟩ := hfin.fin
            have hcap : l.length + 12 ≤ cap := by obtain ⟨g2, c2, e, h1, _⟩ := id hld; injection e with _ _ e; omega
            have HF2 := Lib.hid hld
            clear hLR hfin hld
            go_wp2_with fail
            go_ret
            exact ⟨_, rfl, HF2.out, hBm⟩

set_option maxRecDepth 100000 in
set_option maxHeartbeats 2000000 in
theorem kept1_c (f t wi : Int) (sub : List Claim) (A A' : Option Addr) (c c' : Nat) (w : World)
    (ih1 : ∀ W, Below w.heap.size w W → Calls Try.prog 31 #[.slice A sub.length c, .slice A' sub.length c'] W fun e W' => e = .returned (.bool (eqL sub sub)) ∧ Below W.heap.size W W')
    (ih2 : ∀ W, Below w.heap.size w W → Calls Try.prog 54 #[.slice A sub.length c, .slice A' sub.length c'] W fun e W' => e = .returned (.bool true) ∧ Below W.heap.size W W') :
    Calls Try.prog 76 #[.agg #[.int .i64 f, .int .i64 t, .int .i64 wi, .slice A sub.length c], .agg #[.int .i64 f, .int .i64 t, .int .i64 wi, .slice A' sub.length c']] w fun e w' => e = .returned (.bool true) ∧ Below w.heap.size w w' := by
  obtain ⟨W1, hW1⟩ : ∃ W1, W1 = (w.alloc (.cells #[.int .i64 f, .int .i64 t, .int .i64 wi, .slice A sub.length c] 35)).alloc (.cells #[.int .i64 f, .int .i64 t, .int .i64 wi, .slice A' sub.length c'] 35) := ⟨_, rfl⟩
  have hB : Below w.heap.size w W1 := by rw [hW1]; exact ((Below.refl _ w).alloc (Nat.le_refl _) _).alloc (by simp) _
  have hb0 : Blk W1 w.heap.size 35 #[.int .i64 f, .int .i64 t, .int .i64 wi, .slice A sub.length c] := by rw [hW1]; exact (Blk.new w 35 _).alloc _
  have hb1 : Blk W1 (w.heap.size + 1) 35 #[.int .i64 f, .int .i64 t, .int .i64 wi, .slice A' sub.length c'] := by
    rw [hW1]
    have := Blk.new (w.alloc (.cells #[.int .i64 f, .int .i64 t, .int .i64 wi, .slice A sub.length c] 35)) 35 #[.int .i64 f, .int .i64 t, .int .i64 wi, .slice A' sub.length c']
    simpa only [World.size_alloc] using this
  have hsc := sameClaim_c f t wi f t wi sub sub A A' c c' W1 (fun W hb => ih1 W (hB.trans (hb.mono hB.size)))
  rw [show (f == f && (t == t && (wi == wi && eqL sub sub))) = true by rw [(eqL_iff sub sub).2 rfl]; simp] at hsc
  have hk : ∀ W, Below W1.heap.size W1 W → _ := fun W hb => ih2 W (hB.trans (hb.mono hB.size))
  have HW1 := Lib.hid hW1
  have HB := Lib.hid hB
  have Hb0 := Lib.hid hb0
  have Hb1 := Lib.hid hb1
  have Hsc := Lib.hid hsc
  have Hk := Lib.hid hk
  clear ih1 ih2 hW1 hB hb0 hb1 hsc hk
  go_enter Try.func76, Try.ntmps76
  go_wp2_with fail
  rw [← HW1.out]
  refine Hsc.out.mono ?_
  rintro e W2 ⟨rfl, hb2⟩
  have hB2 := HB.out.trans (hb2.mono HB.out.size)
  have h0 := Hb0.out.below hb2 Hb0.out.lt
  have h1 := Hb1.out.below hb2 Hb1.out.lt
  have hk2 := Hk.out W2 hb2
  have Hk2 := Lib.hid hk2
  have q3 : W2.cell? ⟨w.heap.size, 3, none⟩ = some (.slice A sub.length c) := h0.cell 3
  have r3 : W2.cell? ⟨w.heap.size + 1, 3, none⟩ = some (.slice A' sub.length c') := h1.cell 3
  clear hb2 Hsc Hk hk2 h0 h1
  go_wp2_with fail
  refine Hk2.out.mono ?_
  rintro e W3 ⟨rfl, hb3⟩
  have hB3 := hB2.trans (hb3.mono hB2.size)
  clear Hk2 q3 r3 hb3
  go_wp2_with fail
  go_ret
  exact ⟨rfl, hB3⟩
end Go.Proofs.Ytlmbffnmjfbglab
