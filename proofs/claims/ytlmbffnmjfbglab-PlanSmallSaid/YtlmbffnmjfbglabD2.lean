/- A row that a call makes for a lent slice of any kind. -/
import Derived.Test.YtlmbffnmjfbglabD1
import Derived.Test.YtlmbffnmjfbglabE3
set_option linter.unusedSimpArgs false
set_option linter.unusedVariables false
namespace Go.Proofs.Ytlmbffnmjfbglab
open Go.ChangeShapes Go.WideShapes Go.ChangeAt Go.RowKit Go.Deep

theorem flatG_get {α : Type} {n : Nat} : ∀ (L : List (List α)) (i : Nat) (hi : i < L.length) (r : Nat), (∀ x ∈ L, x.length = n) → r < n → L.flatten[i * n + r]? = L[i][r]?
  | [], i, hi, _, _, _ => by simp at hi
  | x :: xs, 0, _, r, h, hr => by
    have : x.length = n := h x (by simp)
    rw [List.flatten_cons, Nat.zero_mul, Nat.zero_add, List.getElem?_append_left (by omega)]
    rfl
  | x :: xs, i + 1, hi, r, h, hr => by
    have hx : x.length = n := h x (by simp)
    rw [List.flatten_cons, List.getElem?_append_right (by rw [hx, Nat.add_mul]; omega), hx, show (i + 1) * n + r - n = i * n + r by rw [Nat.add_mul]; omega]
    exact flatG_get xs i (by simpa using hi) r (fun y hy => h y (by simp [hy])) hr
/-- the values are those of elements that are lent. -/
structure GVL (mk : Nat → Nat → List Value) (n : Nat) (w : World) (Q : Nat → Prop) (L : List (List Value)) (l : List (List G)) : Prop where
  len : L.length = l.length
  at_ : ∀ i (h : i < L.length) (h' : i < l.length), L[i].length = n ∧ l[i].length = n ∧ ∀ j (hj : j < L[i].length) (hj' : j < l[i].length), G.ld mk w Q L[i][j] l[i][j]
section
variable {mk : Nat → Nat → List Value} {t n : Nat} {e : TypeId} {B : Nat} {W W' w2 : World} {v V : Value} {l : List (List G)} {L : List (List Value)} {j : Nat} {Q Q' : Nat → Prop}
theorem GVL.keep (hc : GVL mk n W Q L l) (h : ∀ b, Q b → (∀ o, W'.cell? ⟨b, o, none⟩ = W.cell? ⟨b, o, none⟩) ∧ Q' b) : GVL mk n W' Q' L l :=
  ⟨hc.len, fun i hi hi' => by
    obtain ⟨a, b, c⟩ := hc.at_ i hi hi'
    exact ⟨a, b, fun j hj hj' => (c j hj hj').keep h _ _⟩⟩
theorem GVL.nil : GVL mk n W Q [] [] := ⟨rfl, fun i h => by simp at h⟩
theorem GVL.push (hc : GVL mk n W Q L l) (x : List Value) (y : List G) (hx : x.length = n) (hy : y.length = n) (h : ∀ j (hj : j < x.length) (hj' : j < y.length), G.ld mk W Q x[j] y[j]) : GVL mk n W Q (L ++ [x]) (l ++ [y]) := by
  refine ⟨by simp [hc.len], fun i hi hi' => ?_⟩
  by_cases e : i < L.length
  · have e2 : i < l.length := by rw [← hc.len]; exact e
    simp only [List.getElem_append_left e, List.getElem_append_left e2]
    exact hc.at_ i e e2
  · have : i = L.length := by simp at hi; omega
    subst this
    have e2 := hc.len
    have q1 : (L ++ [x])[L.length] = x := by simp
    have q2 : (l ++ [y])[L.length]'hi' = y := by
      rw [List.getElem_append_right (by omega)]
      simp [e2]
    simp only [q1, q2]
    exact ⟨hx, hy, h⟩
theorem GVL.all (hc : GVL mk n W Q L l) : ∀ x ∈ L, x.length = n := fun x hx => by
  obtain ⟨i, hi, rfl⟩ := List.getElem_of_mem hx
  exact (hc.at_ i hi (by rw [← hc.len]; exact hi)).1
/-- a row that a call makes: elements, and j marks behind them. -/
structure GR (mk : Nat → Nat → List Value) (t n : Nat) (e : TypeId) (B : Nat) (W : World) (v : Value) (l : List (List G)) (L : List (List Value)) (j : Nat) : Prop where
  own : W.ownsRow B e n v (l.length + j) ((L ++ (List.range j).map (mk t)).flatten)
  cvl : GVL mk n W (fun b => B ≤ b ∧ v.ownBlock ≠ some b ∧ ∃ o, W.heap[b]? = some o ∧ o.isCells = true) L l
theorem GR.below (h : GR mk t n e B W v l L j) (hb : Below W.heap.size W W') : GR mk t n e B W' v l L j :=
  ⟨h.own.kept (below_grown (row := none) hb) (by cases v.ownBlock <;> simp), h.cvl.keep fun b ⟨q1, q2, o, q3, q4⟩ => by
    have e := hb.block b (Array.getElem?_eq_some_iff.1 q3).1
    exact ⟨fun _ => World.cell?_of_block e, q1, q2, o, e.trans q3, q4⟩⟩
theorem GR.push {x : List Value} {y : List G} (h : GR mk t n e B W v l L 0) (hgr : W.grownBy w2 v.ownBlock) (hown : w2.ownsRow B e n V (l.length + 1) (L.flatten ++ x)) (hg : V.ownBlock = v.ownBlock ∨ ∃ g, V.ownBlock = some g ∧ W.heap.size ≤ g)
    (hx : x.length = n) (hy : y.length = n) (hxy : ∀ j (hj : j < x.length) (hj' : j < y.length), G.ld mk W (fun b => B ≤ b ∧ v.ownBlock ≠ some b ∧ ∃ o, W.heap[b]? = some o ∧ o.isCells = true) x[j] y[j]) : GR mk t n e B w2 V (l ++ [y]) (L ++ [x]) 0 :=
  ⟨by simpa using hown, (h.cvl.keep (LR.keepQ hgr hg)).push x y hx hy fun j hj hj' => (hxy j hj hj').keep (LR.keepQ hgr hg) _ _⟩
theorem GR.mark (h : GR mk t n e B W v l L j) (hgr : W.grownBy w2 v.ownBlock) (hown : w2.ownsRow B e n V (l.length + j + 1) ((L ++ (List.range j).map (mk t)).flatten ++ mk t j)) (hg : V.ownBlock = v.ownBlock ∨ ∃ g, V.ownBlock = some g ∧ W.heap.size ≤ g) : GR mk t n e B w2 V l L (j + 1) := by
  refine ⟨?_, h.cvl.keep (LR.keepQ hgr hg)⟩
  rw [List.range_succ, List.map_append, ← List.append_assoc, List.flatten_append]
  simpa [Nat.add_assoc] using hown
theorem GR.fin (hn : 0 < n) (hmk : ∀ i, (mk t i).length = n) (h : GR mk t n e B W v l L 12) : ∃ g cap, v = .slice (some ⟨g, 0, none⟩) (l.length + 12) cap ∧ G.ld mk W (MadeQ B W) (.slice (some ⟨g, 0, none⟩) l.length cap) (.row t l) := by
  obtain ⟨g, cap, cur, rfl, hb, hk, h1, h2, h3⟩ := own_form h.own (by omega)
  have hll := h.cvl.len
  have hall : ∀ x ∈ L ++ (List.range 12).map (mk t), x.length = n := fun x hx => by
    rcases List.mem_append.1 hx with hx | hx
    · exact h.cvl.all x hx
    · obtain ⟨i, _, rfl⟩ := List.mem_map.1 hx
      exact hmk i
  have hcell : ∀ i (hi : i < (L ++ (List.range 12).map (mk t)).length) r u, r < n → (L ++ (List.range 12).map (mk t))[i][r]? = some u → W.cell? ⟨g, i * n + r, none⟩ = some u := fun i hi r u hr hu => by
    have hq := (flatG_get _ i hi r hall hr).trans hu
    have := h.own.cells (g := g) rfl _ u hq
    rw [add_none, Nat.zero_add] at this
    exact this
  refine ⟨g, cap, rfl, ?_⟩
  simp only [G.ld]
  refine ⟨g, cap, rfl, h1, h2, ⟨hb, _, hk, rfl⟩, ldR_of (n := n) (fun j hj => (h.cvl.at_ j (by omega) hj).2.1) fun i hi => ?_, fun i j u hi hu => ?_⟩
  · have hiL : i < L.length := by omega
    have hi2 : i < (L ++ (List.range 12).map (mk t)).length := by simp; omega
    have e : (L ++ (List.range 12).map (mk t))[i] = L[i] := List.getElem_append_left hiL
    obtain ⟨a1, a2, a3⟩ := h.cvl.at_ i hiL hi
    rw [Nat.zero_add]
    refine ldE_of (vs := L[i]) (by omega) (fun j u hu => hcell i hi2 j u ?_ (by rw [e]; exact hu)) fun j hj hj' => ?_
    · have := (List.getElem?_eq_some_iff.1 hu).1
      omega
    · exact (a3 j hj hj').keep (fun b ⟨q1, _, q3⟩ => ⟨fun _ => rfl, q1, q3⟩) _ _
  · have hi2 : l.length + i < (L ++ (List.range 12).map (mk t)).length := by simp; omega
    have e : (L ++ (List.range 12).map (mk t))[l.length + i] = mk t i := by
      rw [List.getElem_append_right (by omega)]
      simp [hll]
    have hjn : j < n := by
      have := (List.getElem?_eq_some_iff.1 hu).1
      rw [hmk] at this
      exact this
    rw [hmk 0]
    exact hcell _ hi2 j u hjn (by rw [e]; exact hu)
end
end Go.Proofs.Ytlmbffnmjfbglab
