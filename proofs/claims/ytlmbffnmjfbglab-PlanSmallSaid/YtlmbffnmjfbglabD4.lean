/- Rows of flat elements. -/
import Derived.Test.YtlmbffnmjfbglabD3
set_option linter.unusedSimpArgs false
set_option linter.unusedVariables false
namespace Go.Proofs.Ytlmbffnmjfbglab
open Go.ChangeShapes Go.WideShapes Go.ChangeAt Go.RowKit Go.Deep

def G.val : G → Value
  | .one v => v
  | .row _ _ => .slice none 0 0
def K.flat : K → Bool
  | .sl _ => false
  | _ => true
theorem cf_flat {S : Nat → List K} {N : Nat → Nat} {k : K} {x : G} (hk : k.flat = true) (h : G.cf S N k x) : x = .one x.val ∧ x.val.oneCell' = true := by
  cases k <;> cases x <;> simp only [G.cf, K.flat] at h hk <;> first | exact h.elim | (obtain ⟨y, rfl⟩ := h; exact ⟨rfl, rfl⟩) | simp at hk
/-- the cells' values of flat elements. -/
def valsG (l : List (List G)) : List (List Value) := l.map (·.map G.val)
theorem valsG_len (l : List (List G)) : (valsG l).length = l.length := by simp [valsG]
theorem flatG_len {α : Type} {n : Nat} : ∀ (L : List (List α)), (∀ x ∈ L, x.length = n) → L.flatten.length = L.length * n
  | [], _ => by simp
  | x :: xs, h => by
    rw [List.flatten_cons, List.length_append, h x (by simp), flatG_len xs fun y hy => h y (by simp [hy]), List.length_cons, Nat.add_mul]
    omega
theorem rdE_at {w : World} {Q : Nat → Prop} {b : Nat} : ∀ {e : List G} {o j : Nat} (hj : j < e.length), rdE w Q b o e → ∃ v, w.cell? ⟨b, o + j, none⟩ = some v ∧ G.rd w Q v e[j]
  | [], _, _, hj, _ => by simp at hj
  | x :: r, o, 0, _, h => by simp only [rdE] at h; simpa using h.1
  | x :: r, o, j + 1, hj, h => by
    simp only [rdE] at h
    have := rdE_at (e := r) (o := o + 1) (j := j) (by simpa using hj) h.2
    rw [show o + 1 + j = o + (j + 1) by omega] at this
    simpa using this
theorem cfE_at {S : Nat → List K} {N : Nat → Nat} : ∀ {ks : List K} {e : List G} {j : Nat} (hk : j < ks.length) (hj : j < e.length), cfE S N ks e → G.cf S N ks[j] e[j]
  | [], _, _, hk, _, _ => by simp at hk
  | _ :: _, [], _, _, hj, _ => by simp at hj
  | k :: ks, x :: r, 0, _, _, h => by simp only [cfE] at h; simpa using h.1
  | k :: ks, x :: r, j + 1, hk, hj, h => by
    simp only [cfE] at h
    simpa using cfE_at (ks := ks) (e := r) (j := j) (by simpa using hk) (by simpa using hj) h.2
section
variable {S : Nat → List K} {N : Nat → Nat} {mk : Nat → Nat → List Value} {t n : Nat} {W : World} {Q : Nat → Prop} {l : List (List G)} {v : Value}
theorem cfR_len (h : cfR S N (S t) l) (i : Nat) (hi : i < l.length) : l[i].length = (S t).length := cfE_len (cfR_get hi h)
theorem flat_at (hf : ∀ k ∈ S t, k.flat = true) (h : cfR S N (S t) l) (i : Nat) (hi : i < l.length) (j : Nat) (hj : j < l[i].length) : l[i][j] = .one l[i][j].val ∧ l[i][j].val.oneCell' = true := by
  have h1 := cfR_len h i hi
  exact cf_flat (hf _ (List.getElem_mem (by omega))) (cfE_at (by omega) hj (cfR_get hi h))
theorem valsG_all (h : cfR S N (S t) l) : ∀ x ∈ valsG l, x.length = (S t).length := fun x hx => by
  obtain ⟨e, he, rfl⟩ := List.mem_map.1 hx
  obtain ⟨i, hi, rfl⟩ := List.getElem_of_mem he
  simpa using cfR_len h i hi
theorem valsG_one (hf : ∀ k ∈ S t, k.flat = true) (h : cfR S N (S t) l) : ∀ u ∈ (valsG l).flatten, u.oneCell' = true := fun u hu => by
  obtain ⟨x, hx, hu⟩ := List.mem_flatten.1 hu
  obtain ⟨e, he, rfl⟩ := List.mem_map.1 hx
  obtain ⟨i, hi, rfl⟩ := List.getElem_of_mem he
  obtain ⟨g, hg, rfl⟩ := List.mem_map.1 hu
  obtain ⟨j, hj, rfl⟩ := List.getElem_of_mem hg
  exact (flat_at hf h i hi j hj).2
theorem GVL_flat (hf : ∀ k ∈ S t, k.flat = true) (h : cfR S N (S t) l) : GVL mk (S t).length W Q (valsG l) l :=
  ⟨valsG_len l, fun i hi hi' => ⟨by simpa [valsG] using cfR_len h i hi', cfR_len h i hi', fun j hj hj' => by
    have := (flat_at hf h i hi' j hj').1
    rw [this]
    simp [G.ld, valsG]⟩⟩
theorem reads_flat (hf : ∀ k ∈ S t, k.flat = true) (hS : 0 < (S t).length) (h : cfR S N (S t) l) (hr : G.rdW W v (.row t l)) : ∃ A c, v = .slice A l.length c ∧ Reads W W.heap.size (S t).length A l.length (valsG l).flatten := by
  simp only [G.rdW, G.rd] at hr
  obtain ⟨A, c, rfl, _, _, hb⟩ := hr
  refine ⟨A, c, rfl, by rw [flatG_len _ (valsG_all h), valsG_len], fun hn => ?_⟩
  obtain ⟨b, o, rfl, hlt, hR⟩ := hb hn
  refine ⟨_, rfl, hlt, fun j u hu => ?_⟩
  have hj := (List.getElem?_eq_some_iff.1 hu).1
  rw [flatG_len _ (valsG_all h), valsG_len] at hj
  have hi : j / (S t).length < l.length := by rwa [Nat.div_lt_iff_lt_mul hS]
  have hm : j % (S t).length < (S t).length := Nat.mod_lt _ hS
  have e : j / (S t).length * (S t).length + j % (S t).length = j := Nat.div_add_mod' _ _
  rw [← e, flatG_get _ _ (by rw [valsG_len]; exact hi) _ (valsG_all h) hm] at hu
  have hl := cfR_len h _ hi
  obtain ⟨x, h1, h2⟩ := rdE_at (j := j % (S t).length) (by omega) (rdR_get hi (cfR_len h) hR)
  rw [(flat_at hf h _ hi _ (by omega)).1] at h2
  simp only [G.rd] at h2
  subst h2
  rw [add_none, ← e]
  rw [Nat.add_assoc] at h1
  rw [h1]
  simp only [valsG, List.getElem_map] at hu
  rw [List.getElem?_map, List.getElem?_eq_getElem (by omega)] at hu
  exact hu
end
end Go.Proofs.Ytlmbffnmjfbglab
