/- A claim in a tree: where it lies, and what the tree is once the claim is changed. -/
import Derived.Test.YtlmbffnmjfbglabS1
set_option linter.unusedSimpArgs false
set_option linter.unusedVariables false
namespace Go.Proofs.Ytlmbffnmjfbglab
open Go.ChangeShapes Go.WideShapes Go.ChangeAt Go.RowKit

/-- the values are those of a claim whose arrays below lie in blocks with Q. -/
def CVat (w : World) (Q : Nat → Prop) (x : CV) (y : Claim) : Prop := x.f = y.frm ∧ x.t = y.to ∧ x.w = y.wth ∧ x.s.n = y.sub.length ∧ x.s.n ≤ x.s.c ∧ x.s.c ≤ maxLen ∧ RdCls w Q x.s.a y.sub
theorem rdC_of {w : World} {Q : Nat → Prop} {b o : Nat} {x : CV} {y : Claim} (hc : ∀ j v, x.cells[j]? = some v → w.cell? ⟨b, o + j, none⟩ = some v) (h : CVat w Q x y) : RdC w Q b o y := by
  obtain ⟨a1, a2, a3, a4, a5, a6, a7⟩ := h
  cases y with
  | mk f t wi sub =>
    simp only [Claim.frm, Claim.to, Claim.wth, Claim.sub] at a1 a2 a3 a4 a7
    have c0 := hc 0 _ rfl
    have c1 := hc 1 _ rfl
    have c2 := hc 2 _ rfl
    have c3 := hc 3 _ rfl
    rw [a1, Nat.add_zero] at c0
    rw [a2] at c1
    rw [a3] at c2
    rw [a4] at c3
    simp only [RdC]
    exact ⟨c0, c1, c2, x.s.a, x.s.c, c3, by omega, a6, a7⟩
theorem CV.cells_lt {x : CV} {j : Nat} {v : Value} (h : x.cells[j]? = some v) : j < 4 := (List.getElem?_eq_some_iff.1 h).1
theorem CV.row {L : List CV} {i : Nat} (hi : i < L.length) {j : Nat} {v : Value} (hv : L[i].cells[j]? = some v) : (L.flatMap CV.cells)[i * 4 + j]? = some v := by
  obtain ⟨q0, q1, q2, q3⟩ := CV.get L i hi
  match j, hv with
  | 0, hv => exact q0.trans hv
  | 1, hv => exact q1.trans hv
  | 2, hv => exact q2.trans hv
  | 3, hv => exact q3.trans hv
  | n + 4, hv => exact absurd (CV.cells_lt hv) (by omega)
theorem OwC.apart {w : World} {g lo hi : Nat} {x : CV} {y : Claim} (h : OwC w (some g) lo hi x y) : g < lo ∨ hi ≤ g := by
  cases y with
  | mk f t wi sub =>
    simp only [OwC] at h
    exact h.2.2.2.2.1 g rfl
theorem sizeL_set : ∀ (l : List Claim) (k : Nat) (hk : k < l.length) (y : Claim), sizeL (l.set k y) + sizeL l[k].sub = sizeL l + sizeL y.sub
  | [], k, hk, _ => by simp at hk
  | x :: r, 0, _, y => by
    simp only [List.set_cons_zero, sizeL, List.getElem_cons_zero, Claim.subN_sub]
    omega
  | x :: r, k + 1, hk, y => by
    have := sizeL_set r k (by simpa using hk) y
    simp only [List.set_cons_succ, sizeL, List.getElem_cons_succ, Claim.subN_sub] at this ⊢
    omega
/-- a row of claims read again once one of them is changed. -/
theorem set_read {w : World} {V : Value} {l : List Claim} {L : List CV} {lo hi : Nat} (own : w.ownsRow lo 35 4 V l.length (L.flatMap CV.cells)) (ow : OwL w V.ownBlock lo hi L l) (hhi : hi ≤ w.heap.size) (k : Nat) (hk : k < l.length) (hk' : k < L.length) :
    ∃ g cap a b cs, V = .slice (some ⟨g, 0, none⟩) l.length cap ∧ lo ≤ g ∧ lo ≤ a ∧ a ≤ b ∧ b ≤ hi ∧ Blk w g 35 cs ∧ OwC w (some g) a b L[k] l[k] ∧ (∀ j v, L[k].cells[j]? = some v → w.cell? ⟨g, k * 4 + j, none⟩ = some v) ∧
      ∀ (w' : World) (x' : CV) (y' : Claim), w.heap.size ≤ w'.heap.size → (∀ n, n < w.heap.size → n ≠ g → ¬ (a ≤ n ∧ n < b) → w'.heap[n]? = w.heap[n]?) →
        (∀ i, (i < k * 4 ∨ k * 4 + 4 ≤ i) → w'.cell? ⟨g, i, none⟩ = w.cell? ⟨g, i, none⟩) → (∀ j v, x'.cells[j]? = some v → w'.cell? ⟨g, k * 4 + j, none⟩ = some v) → CVat w' (fun n => n < w'.heap.size) x' y' → RdL w' (fun n => n < w'.heap.size) g 0 (l.set k y') := by
  obtain ⟨g, cap, cur, rfl, hg, hb, _⟩ := own_form own (by omega)
  have hlen := ow.len
  have hcell : ∀ i (hi : i < L.length) j v, L[i].cells[j]? = some v → w.cell? ⟨g, i * 4 + j, none⟩ = some v := fun i hi j v hv => by
    have := own.cells (g := g) rfl (i * 4 + j) v (CV.row hi hv)
    rw [add_none] at this
    simpa using this
  obtain ⟨a, b, h1, h2, h3, h4, h5⟩ := ow.get k hk' hk
  refine ⟨g, cap, a, b, cur, rfl, hg, h1, h2, h3, hb, h4, hcell k hk', fun w' x' y' hs hblk hc1 hc2 hat => RdL.of_ _ _ fun i hi => ?_⟩
  by_cases e : i = k
  · subst e
    simp only [List.getElem_set_self]
    exact rdC_of (fun j v hv => by rw [Nat.zero_add]; exact hc2 j v hv) hat
  · rw [List.getElem_set_ne (Ne.symm e)]
    have hi2 : i < l.length := by simpa using hi
    obtain ⟨a', b', g1, g2, g3, g4, g5⟩ := h5 i (by omega) hi2 e
    have hap : g < a' ∨ b' ≤ g := OwC.apart g5
    obtain ⟨c1, c2, c3, c4, c5, c6, c7⟩ := g5.rd
    refine rdC_of (x := L[i]'(by omega)) (fun j v hv => ?_) ⟨c1, c2, c3, c4, c5, c6, c7.keep fun n ⟨n1, n2⟩ => ⟨fun _ => World.cell?_of_block (hblk n (by omega) (by omega) (by omega)), by omega⟩⟩
    have hj := CV.cells_lt hv
    rw [Nat.zero_add, hc1 (i * 4 + j) (by omega)]
    exact hcell i (by omega) j v hv
/-- a claim's place in a tree of claims, and the tree's reading once it is changed. -/
structure Spot (w : World) (A : Option Addr) (l : List Claim) (bd jd : Nat) (x : CV) (y : Claim) (a b : Nat) (L2 : List CV) : Prop where
  blk : ∃ cs, Blk w bd 35 cs
  cells : ∀ j v, x.cells[j]? = some v → w.cell? ⟨bd, jd * 4 + j, none⟩ = some v
  hab : a ≤ b
  hb : b ≤ w.heap.size
  apart : bd < a ∨ b ≤ bd
  val : x.f = y.frm ∧ x.t = y.to ∧ x.w = y.wth ∧ x.s.n = y.sub.length ∧ x.s.n ≤ x.s.c ∧ x.s.c ≤ maxLen ∧ RdCls w (InQ a b) x.s.a y.sub
  own : w.ownsRow a 35 4 x.s.val y.sub.length (L2.flatMap CV.cells)
  ownlt : ∀ g, x.s.val.ownBlock = some g → g < b
  ow : OwL w x.s.val.ownBlock a b L2 y.sub
  close : ∀ (w' : World) (x' : CV) (y' : Claim), w.heap.size ≤ w'.heap.size → (∀ n, n < w.heap.size → n ≠ bd → ¬ (a ≤ n ∧ n < b) → w'.heap[n]? = w.heap[n]?) →
    (∀ i, (i < jd * 4 ∨ jd * 4 + 4 ≤ i) → w'.cell? ⟨bd, i, none⟩ = w.cell? ⟨bd, i, none⟩) → (∀ j v, x'.cells[j]? = some v → w'.cell? ⟨bd, jd * 4 + j, none⟩ = some v) → CVat w' (fun n => n < w'.heap.size) x' y' →
    ∃ l' : List Claim, l'.length = l.length ∧ RdK w' A l' ∧ sizeL l' + sizeL y.sub = sizeL l + sizeL y'.sub
theorem OwC.open {w : World} {g a b : Nat} {x : CV} {y : Claim} (h : OwC w (some g) a b x y) : ∃ L2, w.ownsRow a 35 4 x.s.val y.sub.length (L2.flatMap CV.cells) ∧ (∀ g, x.s.val.ownBlock = some g → g < b) ∧ OwL w x.s.val.ownBlock a b L2 y.sub := by
  cases y with
  | mk f t wi sub =>
    simp only [OwC] at h
    exact h.2.2.2.2.2
theorem spot_one {B : Nat} {w : World} {V : Value} {l : List Claim} {L : List CV} (h : TR B w V l L) (k : Nat) (hk : k < l.length) : ∃ g cap x a b L2, V = .slice (some ⟨g, 0, none⟩) l.length cap ∧ B ≤ g ∧ B ≤ a ∧ Spot w (some ⟨g, 0, none⟩) l g k x l[k] a b L2 := by
  have hk' : k < L.length := by rw [h.ow.len]; exact hk
  obtain ⟨g, cap, a, b, cs, eV, hg, h1, h2, h3, hbk, how, hcell, hcl⟩ := set_read h.own h.ow (Nat.le_refl _) k hk hk'
  obtain ⟨L2, o1, o2, o3⟩ := how.open
  refine ⟨g, cap, L[k], a, b, L2, eV, hg, h1, ⟨cs, hbk⟩, hcell, h2, h3, how.apart, how.rd, o1, o2, o3, fun w' x' y' hs hblk hc1 hc2 hat => ⟨l.set k y', by simp, fun _ => ⟨g, 0, rfl, ?_, hcl w' x' y' hs hblk hc1 hc2 hat⟩, sizeL_set l k hk y'⟩⟩
  have := hbk.lt
  omega
theorem Spot.down {w : World} {A : Option Addr} {l : List Claim} {bd jd : Nat} {x : CV} {y : Claim} {a b : Nat} {L2 : List CV} (h : Spot w A l bd jd x y a b L2) (j : Nat) (hj : j < y.sub.length) :
    ∃ g cap x' a' b' L2', x.s.val = .slice (some ⟨g, 0, none⟩) y.sub.length cap ∧ a ≤ g ∧ a ≤ a' ∧ Spot w A l g j x' y.sub[j] a' b' L2' := by
  have hj' : j < L2.length := by rw [h.ow.len]; exact hj
  obtain ⟨g, cap, a2, b2, cs, eV, hg, h1, h2, h3, hbk, how, hcell, hcl⟩ := set_read h.own h.ow h.hb j hj hj'
  obtain ⟨L3, o1, o2, o3⟩ := how.open
  have hgb : g < b := h.ownlt g (by rw [eV]; rfl)
  have hgl := hbk.lt
  have hap := h.apart
  refine ⟨g, cap, L2[j], a2, b2, L3, eV, hg, h1, ⟨cs, hbk⟩, hcell, h2, Nat.le_trans h3 h.hb, how.apart, how.rd, o1, o2, o3, fun w' x' y' hs hblk hc1 hc2 hat => ?_⟩
  obtain ⟨cs0, hb0⟩ := h.blk
  have hl0 := hb0.lt
  have hsame : w'.heap[bd]? = w.heap[bd]? := hblk bd hl0 (by omega) (by omega)
  obtain ⟨v1, v2, v3, v4, v5, v6, v7⟩ := h.val
  have hA : x.s.a = some ⟨g, 0, none⟩ := by injection eV
  obtain ⟨l', q1, q2, q3⟩ := h.close w' x (.mk y.frm y.to y.wth (y.sub.set j y')) hs (fun n n1 n2 n3 => hblk n n1 (by omega) (by omega)) (fun i _ => World.cell?_of_block hsame) (fun i v hv => (World.cell?_of_block hsame).trans (h.cells i v hv))
    ⟨v1, v2, v3, by show x.s.n = (y.sub.set j y').length; simpa using v4, v5, v6, fun _ => ⟨g, 0, hA, by omega, hcl w' x' y' hs hblk hc1 hc2 hat⟩⟩
  have := sizeL_set y.sub j hj y'
  change sizeL l' + sizeL y.sub = sizeL l + sizeL (y.sub.set j y') at q3
  exact ⟨l', q1, q2, by omega⟩
section
variable {w : World} {A : Option Addr} {l : List Claim} {bd jd : Nat} {x : CV} {y : Claim} {a b : Nat} {L2 : List CV}
/-- one cell of the claim is changed, after other changes to the array below it alone. -/
theorem Spot.upd (h : Spot w A l bd jd x y a b L2) {w1 : World} (hs : w.heap.size ≤ w1.heap.size) (hw1 : ∀ n, n < w.heap.size → x.s.val.ownBlock ≠ some n → w1.heap[n]? = w.heap[n]?) {c : Nat} (hc : c < 4) {v : Value} {x' : CV} {y' : Claim} (hx' : x'.cells = x.cells.set c v)
    (hat : CVat (w1.setCell ⟨bd, jd * 4 + c, none⟩ v) (fun n => n < (w1.setCell ⟨bd, jd * 4 + c, none⟩ v).heap.size) x' y') :
    ∃ l' : List Claim, l'.length = l.length ∧ RdK (w1.setCell ⟨bd, jd * 4 + c, none⟩ v) A l' ∧ sizeL l' + sizeL y.sub = sizeL l + sizeL y'.sub := by
  obtain ⟨cs, hb0⟩ := h.blk
  have hl0 := hb0.lt
  have hap := h.apart
  have hol : ∀ g, x.s.val.ownBlock = some g → a ≤ g ∧ g < b := fun g hg => ⟨(h.own.lt g hg).1, h.ownlt g hg⟩
  have hb1 : Blk w1 bd 35 cs := (hw1 bd hl0 (fun e => by have := hol bd e; omega)).trans hb0
  have hb2 : Blk (w1.setCell ⟨bd, jd * 4 + c, none⟩ v) bd 35 _ := hb1.set_ (jd * 4 + c) v
  have hgr : Gr (fun n => n = bd) w1 (w1.setCell ⟨bd, jd * 4 + c, none⟩ v) := Gr.setCell _ _ _ rfl
  have hin : jd * 4 + c < cs.size := by
    have := h.cells c _ (List.getElem?_eq_getElem (show c < x.cells.length by simpa [CV.cells] using hc))
    rw [hb0.cell] at this
    exact (Array.getElem?_eq_some_iff.1 this).1
  have hsz := hgr.size
  refine h.close _ x' y' (by omega) (fun n n1 n2 n3 => ?_) (fun i hi => ?_) (fun j u hu => ?_) hat
  · rw [hgr.block n (by omega) (by omega)]
    exact hw1 n n1 fun e => n3 (hol n e)
  · rw [hb2.cell, hb0.cell, Array.getElem?_setIfInBounds_ne (by omega)]
  · have hj := CV.cells_lt hu
    rw [hx'] at hu
    rw [hb2.cell]
    by_cases e : c = j
    · subst e
      rw [List.getElem?_set_self (by simpa [CV.cells] using hc)] at hu
      rw [Array.getElem?_setIfInBounds_self_of_lt hin]
      exact hu
    · rw [List.getElem?_set_ne e] at hu
      rw [Array.getElem?_setIfInBounds_ne (by omega), ← hb0.cell]
      exact h.cells j u hu
theorem Spot.frozen (h : Spot w A l bd jd x y a b L2) (i : Nat) : w.frozen? ⟨bd, i, none⟩ = false := by
  obtain ⟨cs, hb⟩ := h.blk
  exact hb.frozen i
/-- the array below is still there. -/
theorem Spot.below (h : Spot w A l bd jd x y a b L2) {w' : World} (hb : ∀ n, a ≤ n → n < b → w'.heap[n]? = w.heap[n]?) (hs : w.heap.size ≤ w'.heap.size) : RdCls w' (fun n => n < w'.heap.size) x.s.a y.sub :=
  h.val.2.2.2.2.2.2.keep fun n ⟨n1, n2⟩ => ⟨fun _ => World.cell?_of_block (hb n n1 n2), by have := h.hb; omega⟩
theorem Spot.from_ (h : Spot w A l bd jd x y a b L2) (n : Int) : ∃ l' : List Claim, l'.length = l.length ∧ RdK (w.setCell ⟨bd, jd * 4, none⟩ (.int .i64 n)) A l' ∧ sizeL l' = sizeL l := by
  obtain ⟨v1, v2, v3, v4, v5, v6, v7⟩ := h.val
  have hap := h.apart
  have hgr : Gr (fun n => n = bd) w (w.setCell ⟨bd, jd * 4 + 0, none⟩ (.int .i64 n)) := Gr.setCell _ _ _ rfl
  obtain ⟨l', q1, q2, q3⟩ := h.upd (Nat.le_refl _) (fun _ _ _ => rfl) (c := 0) (by omega) (v := .int .i64 n) (x' := ⟨n, x.t, x.w, x.s⟩) (y' := .mk n y.to y.wth y.sub) rfl ⟨rfl, v2, v3, v4, v5, v6, h.below (fun k k1 k2 => hgr.block k (by have := h.hb; omega) (by omega)) hgr.size⟩
  exact ⟨l', q1, q2, by change sizeL l' + sizeL y.sub = sizeL l + sizeL y.sub at q3; omega⟩
theorem Spot.to_ (h : Spot w A l bd jd x y a b L2) (n : Int) : ∃ l' : List Claim, l'.length = l.length ∧ RdK (w.setCell ⟨bd, jd * 4 + 1, none⟩ (.int .i64 n)) A l' ∧ sizeL l' = sizeL l := by
  obtain ⟨v1, v2, v3, v4, v5, v6, v7⟩ := h.val
  have hap := h.apart
  have hgr : Gr (fun n => n = bd) w (w.setCell ⟨bd, jd * 4 + 1, none⟩ (.int .i64 n)) := Gr.setCell _ _ _ rfl
  obtain ⟨l', q1, q2, q3⟩ := h.upd (Nat.le_refl _) (fun _ _ _ => rfl) (c := 1) (by omega) (v := .int .i64 n) (x' := ⟨x.f, n, x.w, x.s⟩) (y' := .mk y.frm n y.wth y.sub) rfl ⟨v1, rfl, v3, v4, v5, v6, h.below (fun k k1 k2 => hgr.block k (by have := h.hb; omega) (by omega)) hgr.size⟩
  exact ⟨l', q1, q2, by change sizeL l' + sizeL y.sub = sizeL l + sizeL y.sub at q3; omega⟩
theorem Spot.with_ (h : Spot w A l bd jd x y a b L2) (n : Int) : ∃ l' : List Claim, l'.length = l.length ∧ RdK (w.setCell ⟨bd, jd * 4 + 2, none⟩ (.int .i64 n)) A l' ∧ sizeL l' = sizeL l := by
  obtain ⟨v1, v2, v3, v4, v5, v6, v7⟩ := h.val
  have hap := h.apart
  have hgr : Gr (fun n => n = bd) w (w.setCell ⟨bd, jd * 4 + 2, none⟩ (.int .i64 n)) := Gr.setCell _ _ _ rfl
  obtain ⟨l', q1, q2, q3⟩ := h.upd (Nat.le_refl _) (fun _ _ _ => rfl) (c := 2) (by omega) (v := .int .i64 n) (x' := ⟨x.f, x.t, n, x.s⟩) (y' := .mk y.frm y.to n y.sub) rfl ⟨v1, v2, rfl, v4, v5, v6, h.below (fun k k1 k2 => hgr.block k (by have := h.hb; omega) (by omega)) hgr.size⟩
  exact ⟨l', q1, q2, by change sizeL l' + sizeL y.sub = sizeL l + sizeL y.sub at q3; omega⟩
theorem Spot.nil_ (h : Spot w A l bd jd x y a b L2) : ∃ l' : List Claim, l'.length = l.length ∧ RdK (w.setCell ⟨bd, jd * 4 + 3, none⟩ (.slice none 0 0)) A l' ∧ sizeL l' ≤ sizeL l := by
  obtain ⟨v1, v2, v3, v4, v5, v6, v7⟩ := h.val
  obtain ⟨l', q1, q2, q3⟩ := h.upd (Nat.le_refl _) (fun _ _ _ => rfl) (c := 3) (by omega) (v := .slice none 0 0) (x' := ⟨x.f, x.t, x.w, ⟨none, 0, 0⟩⟩) (y' := .mk y.frm y.to y.wth []) rfl ⟨v1, v2, v3, rfl, Nat.le_refl _, by simp [maxLen], fun h => absurd h (by simp [Claim.sub])⟩
  exact ⟨l', q1, q2, by change sizeL l' + sizeL y.sub = sizeL l + sizeL [] at q3; simp only [sizeL] at q3; omega⟩
/-- a zero claim is appended to the array below it. -/
theorem Spot.app (h : Spot w A l bd jd x y a b L2) {w1 w2 : World} {g cap : Nat} (hs : w.heap.size ≤ w1.heap.size) (hw1 : ∀ n, n < w.heap.size → w1.heap[n]? = w.heap[n]?) (hgr : w1.grownBy w2 x.s.val.ownBlock) (hown : w2.ownsRow a 35 4 (.slice (some ⟨g, 0, none⟩) (y.sub.length + 1) cap) (y.sub.length + 1) (L2.flatMap CV.cells ++ CV.cells ⟨0, 0, 0, ⟨none, 0, 0⟩⟩))
    (hg : x.s.val.ownBlock = some g ∨ g = w1.heap.size) : ∃ l' : List Claim, l'.length = l.length ∧ RdK (w2.setCell ⟨bd, jd * 4 + 3, none⟩ (.slice (some ⟨g, 0, none⟩) (y.sub.length + 1) cap)) A l' ∧ sizeL l' = sizeL l + 1 := by
  obtain ⟨v1, v2, v3, v4, v5, v6, v7⟩ := h.val
  have hap := h.apart
  have hhb := h.hb
  obtain ⟨cs, hbb⟩ := h.blk
  have hbl := hbb.lt
  have hol : ∀ g, x.s.val.ownBlock = some g → a ≤ g ∧ g < b := fun g hg => ⟨(h.own.lt g hg).1, h.ownlt g hg⟩
  have hgs : Gr (fun n => n = bd) w2 (w2.setCell ⟨bd, jd * 4 + 3, none⟩ (.slice (some ⟨g, 0, none⟩) (y.sub.length + 1) cap)) := Gr.setCell _ _ _ rfl
  have hsz := hgr.size
  have hsz2 := hgs.size
  have hbg : bd ≠ g := fun e => by
    rcases hg with hg | hg
    · have := hol g hg; omega
    · omega
  have hown3 : (w2.setCell ⟨bd, jd * 4 + 3, none⟩ (.slice (some ⟨g, 0, none⟩) (y.sub.length + 1) cap)).ownsRow a 35 4 (.slice (some ⟨g, 0, none⟩) (y.sub.length + 1) cap) (y.sub.length + 1) (L2.flatMap CV.cells ++ CV.cells ⟨0, 0, 0, ⟨none, 0, 0⟩⟩) :=
    ownsRow_keep hown fun k hk => hgs.block k (hown.lt k hk).2 (fun e => hbg (by simp only [Value.ownBlock, Option.some.injEq] at hk; omega))
  have hol2 := hown.lt
  have how3 : OwL (w2.setCell ⟨bd, jd * 4 + 3, none⟩ (.slice (some ⟨g, 0, none⟩) (y.sub.length + 1) cap)) x.s.val.ownBlock a b L2 y.sub := h.ow.keep fun k k1 k2 k3 => by
    rw [hgs.block k (by omega) (by omega), hgr.block k (by omega) (fun e => k3 e.symm)]
    exact hw1 k (by omega)
  have hcv := (how3.rd.keep (Q' := fun n => n < (w2.setCell ⟨bd, jd * 4 + 3, none⟩ (.slice (some ⟨g, 0, none⟩) (y.sub.length + 1) cap)).heap.size) fun n ⟨n1, n2⟩ => ⟨fun _ => rfl, by omega⟩).push ⟨0, 0, 0, ⟨none, 0, 0⟩⟩ (.mk 0 0 0 []) ⟨rfl, rfl, rfl, rfl, Nat.le_refl _, by simp [maxLen], fun h => absurd h (by simp [Claim.sub])⟩
  obtain ⟨A', c', e, e1, e2, e3⟩ := rdCls_of_own (l := y.sub ++ [.mk 0 0 0 []]) (L := L2 ++ [⟨0, 0, 0, ⟨none, 0, 0⟩⟩]) (n := y.sub.length + 1) (by simp [h.ow.len]) (by simpa using hown3) hcv (fun k hk => by have := (hol2 k hk).2; omega)
  injection e with eA eN eC
  obtain ⟨l', q1, q2, q3⟩ := h.upd (w1 := w2) (by omega) (fun n n1 n2 => (hgr.block n (by omega) (fun e => n2 e.symm)).trans (hw1 n n1)) (c := 3) (by omega) (v := .slice (some ⟨g, 0, none⟩) (y.sub.length + 1) cap) (x' := ⟨x.f, x.t, x.w, ⟨some ⟨g, 0, none⟩, y.sub.length + 1, cap⟩⟩) (y' := .mk y.frm y.to y.wth (y.sub ++ [.mk 0 0 0 []])) rfl
    ⟨v1, v2, v3, by show y.sub.length + 1 = (y.sub ++ [Claim.mk 0 0 0 []]).length; simp, by simp at e1; simp only; omega, by simp only; omega, by rw [← eA] at e3; exact e3⟩
  have : sizeL (y.sub ++ [.mk 0 0 0 []]) = sizeL y.sub + 1 := by rw [sizeL_append]; simp [sizeL, Claim.subN]
  change sizeL l' + sizeL y.sub = sizeL l + sizeL (y.sub ++ [.mk 0 0 0 []]) at q3
  exact ⟨l', q1, q2, by omega⟩
end
end Go.Proofs.Ytlmbffnmjfbglab
