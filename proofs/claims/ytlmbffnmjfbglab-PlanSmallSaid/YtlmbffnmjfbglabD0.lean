/- Data in memory, of any types of structs and slices: a cell's value, or a slice of rows of data. -/
import Derived.Test.YtlmbffnmjfbglabE1
set_option linter.unusedSimpArgs false
set_option linter.unusedVariables false
namespace Go.Proofs.Ytlmbffnmjfbglab
open Go.ChangeShapes Go.WideShapes Go.ChangeAt Go.RowKit

/-- a datum in one cell: a value, or a slice (of kind t) whose elements are rows of such data. -/
inductive G where
  | one (v : Value)
  | row (t : Nat) (l : List (List G))
mutual
/-- a value is a datum; the arrays below lie in blocks with Q. -/
def G.rd (w : World) (Q : Nat → Prop) (v : Value) : G → Prop
  | .one u => v = u
  | .row _ l => ∃ A c, v = .slice A l.length c ∧ l.length ≤ c ∧ c ≤ maxLen ∧ (0 < l.length → ∃ b o, A = some ⟨b, o, none⟩ ∧ Q b ∧ rdR w Q b o l)
/-- cells one behind the other. -/
def rdE (w : World) (Q : Nat → Prop) (b o : Nat) : List G → Prop
  | [] => True
  | x :: r => (∃ v, w.cell? ⟨b, o, none⟩ = some v ∧ G.rd w Q v x) ∧ rdE w Q b (o + 1) r
/-- elements one behind the other. -/
def rdR (w : World) (Q : Nat → Prop) (b o : Nat) : List (List G) → Prop
  | [] => True
  | e :: r => rdE w Q b o e ∧ rdR w Q b (o + e.length) r
end
mutual
/-- a datum that is lent: each array below has twelve marks of its kind behind it. -/
def G.ld (mk : Nat → Nat → List Value) (w : World) (Q : Nat → Prop) (v : Value) : G → Prop
  | .one u => v = u
  | .row t l => ∃ g c, v = .slice (some ⟨g, 0, none⟩) l.length c ∧ l.length + 12 ≤ c ∧ c ≤ maxLen ∧ Q g ∧ ldR mk w Q g 0 l ∧ ∀ i j u, i < 12 → (mk t i)[j]? = some u → w.cell? ⟨g, (l.length + i) * (mk t 0).length + j, none⟩ = some u
def ldE (mk : Nat → Nat → List Value) (w : World) (Q : Nat → Prop) (b o : Nat) : List G → Prop
  | [] => True
  | x :: r => (∃ v, w.cell? ⟨b, o, none⟩ = some v ∧ G.ld mk w Q v x) ∧ ldE mk w Q b (o + 1) r
def ldR (mk : Nat → Nat → List Value) (w : World) (Q : Nat → Prop) (b o : Nat) : List (List G) → Prop
  | [] => True
  | e :: r => ldE mk w Q b o e ∧ ldR mk w Q b (o + e.length) r
end
mutual
theorem G.rd.keep {w w' : World} {Q Q' : Nat → Prop} (h : ∀ b, Q b → (∀ o, w'.cell? ⟨b, o, none⟩ = w.cell? ⟨b, o, none⟩) ∧ Q' b) (v : Value) : ∀ x : G, G.rd w Q v x → G.rd w' Q' v x
  | .one u, hx => by simpa only [G.rd] using hx
  | .row t l, hx => by
    simp only [G.rd] at hx ⊢
    obtain ⟨A, c, h1, h2, h3, h4⟩ := hx
    refine ⟨A, c, h1, h2, h3, fun hn => ?_⟩
    obtain ⟨b, o, e, hq, hr⟩ := h4 hn
    exact ⟨b, o, e, (h b hq).2, rdR.keep h b o (h b hq).1 l hr⟩
theorem rdE.keep {w w' : World} {Q Q' : Nat → Prop} (h : ∀ b, Q b → (∀ o, w'.cell? ⟨b, o, none⟩ = w.cell? ⟨b, o, none⟩) ∧ Q' b) (b o : Nat) (ht : ∀ o, w'.cell? ⟨b, o, none⟩ = w.cell? ⟨b, o, none⟩) : ∀ l : List G, rdE w Q b o l → rdE w' Q' b o l
  | [], _ => by simp only [rdE]
  | x :: r, hx => by
    simp only [rdE] at hx ⊢
    obtain ⟨⟨v, h1, h2⟩, h3⟩ := hx
    exact ⟨⟨v, (ht _).trans h1, G.rd.keep h v x h2⟩, rdE.keep h b (o + 1) ht r h3⟩
theorem rdR.keep {w w' : World} {Q Q' : Nat → Prop} (h : ∀ b, Q b → (∀ o, w'.cell? ⟨b, o, none⟩ = w.cell? ⟨b, o, none⟩) ∧ Q' b) (b o : Nat) (ht : ∀ o, w'.cell? ⟨b, o, none⟩ = w.cell? ⟨b, o, none⟩) : ∀ l : List (List G), rdR w Q b o l → rdR w' Q' b o l
  | [], _ => by simp only [rdR]
  | e :: r, hx => by
    simp only [rdR] at hx ⊢
    exact ⟨rdE.keep h b o ht e hx.1, rdR.keep h b (o + e.length) ht r hx.2⟩
end
mutual
theorem G.ld.keep {mk : Nat → Nat → List Value} {w w' : World} {Q Q' : Nat → Prop} (h : ∀ b, Q b → (∀ o, w'.cell? ⟨b, o, none⟩ = w.cell? ⟨b, o, none⟩) ∧ Q' b) (v : Value) : ∀ x : G, G.ld mk w Q v x → G.ld mk w' Q' v x
  | .one u, hx => by simpa only [G.ld] using hx
  | .row t l, hx => by
    simp only [G.ld] at hx ⊢
    obtain ⟨g, c, h1, h2, h3, h4, h5, h6⟩ := hx
    exact ⟨g, c, h1, h2, h3, (h g h4).2, ldR.keep h g 0 (h g h4).1 l h5, fun i j u hi hu => ((h g h4).1 _).trans (h6 i j u hi hu)⟩
theorem ldE.keep {mk : Nat → Nat → List Value} {w w' : World} {Q Q' : Nat → Prop} (h : ∀ b, Q b → (∀ o, w'.cell? ⟨b, o, none⟩ = w.cell? ⟨b, o, none⟩) ∧ Q' b) (b o : Nat) (ht : ∀ o, w'.cell? ⟨b, o, none⟩ = w.cell? ⟨b, o, none⟩) : ∀ l : List G, ldE mk w Q b o l → ldE mk w' Q' b o l
  | [], _ => by simp only [ldE]
  | x :: r, hx => by
    simp only [ldE] at hx ⊢
    obtain ⟨⟨v, h1, h2⟩, h3⟩ := hx
    exact ⟨⟨v, (ht _).trans h1, G.ld.keep h v x h2⟩, ldE.keep h b (o + 1) ht r h3⟩
theorem ldR.keep {mk : Nat → Nat → List Value} {w w' : World} {Q Q' : Nat → Prop} (h : ∀ b, Q b → (∀ o, w'.cell? ⟨b, o, none⟩ = w.cell? ⟨b, o, none⟩) ∧ Q' b) (b o : Nat) (ht : ∀ o, w'.cell? ⟨b, o, none⟩ = w.cell? ⟨b, o, none⟩) : ∀ l : List (List G), ldR mk w Q b o l → ldR mk w' Q' b o l
  | [], _ => by simp only [ldR]
  | e :: r, hx => by
    simp only [ldR] at hx ⊢
    exact ⟨ldE.keep h b o ht e hx.1, ldR.keep h b (o + e.length) ht r hx.2⟩
end
mutual
/-- what is lent reads as the same datum. -/
theorem G.ld.rd {mk : Nat → Nat → List Value} {w : World} {Q : Nat → Prop} (v : Value) : ∀ x : G, G.ld mk w Q v x → G.rd w Q v x
  | .one u, hx => by simpa only [G.ld, G.rd] using hx
  | .row t l, hx => by
    simp only [G.ld] at hx
    simp only [G.rd]
    obtain ⟨g, c, h1, h2, h3, h4, h5, h6⟩ := hx
    exact ⟨_, c, h1, by omega, h3, fun _ => ⟨g, 0, rfl, h4, ldR.rd g 0 l h5⟩⟩
theorem ldE.rd {mk : Nat → Nat → List Value} {w : World} {Q : Nat → Prop} (b o : Nat) : ∀ l : List G, ldE mk w Q b o l → rdE w Q b o l
  | [], _ => by simp only [rdE]
  | x :: r, hx => by
    simp only [ldE] at hx
    simp only [rdE]
    obtain ⟨⟨v, h1, h2⟩, h3⟩ := hx
    exact ⟨⟨v, h1, G.ld.rd v x h2⟩, ldE.rd b (o + 1) r h3⟩
theorem ldR.rd {mk : Nat → Nat → List Value} {w : World} {Q : Nat → Prop} (b o : Nat) : ∀ l : List (List G), ldR mk w Q b o l → rdR w Q b o l
  | [], _ => by simp only [rdR]
  | e :: r, hx => by
    simp only [ldR] at hx
    simp only [rdR]
    exact ⟨ldE.rd b o e hx.1, ldR.rd b (o + e.length) r hx.2⟩
end
/-- kinds of cells. -/
inductive K where
  | int | byte | bool | str
  | sl (t : Nat)
  deriving DecidableEq
mutual
/-- a datum is of a kind, by the kinds S of the elements' cells; no array of kind t has more than N t elements. -/
def G.cf (S : Nat → List K) (N : Nat → Nat) : K → G → Prop
  | .int, .one v => ∃ x : Int, v = .int .i64 x
  | .byte, .one v => ∃ x : Int, v = .int .u8 x
  | .bool, .one v => ∃ x : Bool, v = .bool x
  | .str, .one v => ∃ x : ByteArray, v = .string x
  | .sl t, .row t' l => t' = t ∧ l.length ≤ N t ∧ cfR S N (S t) l
  | _, _ => False
def cfE (S : Nat → List K) (N : Nat → Nat) : List K → List G → Prop
  | [], [] => True
  | k :: ks, x :: r => G.cf S N k x ∧ cfE S N ks r
  | _, _ => False
def cfR (S : Nat → List K) (N : Nat → Nat) (ks : List K) : List (List G) → Prop
  | [] => True
  | e :: r => cfE S N ks e ∧ cfR S N ks r
end
theorem cfE_len {S : Nat → List K} {N : Nat → Nat} : ∀ {ks : List K} {e : List G}, cfE S N ks e → e.length = ks.length
  | [], [], _ => rfl
  | k :: ks, x :: r, h => by
    simp only [cfE] at h
    simp [cfE_len h.2]
  | [], _ :: _, h => by simp only [cfE] at h
  | _ :: _, [], h => by simp only [cfE] at h
theorem cfR_get {S : Nat → List K} {N : Nat → Nat} {ks : List K} : ∀ {l : List (List G)} {i : Nat} (hi : i < l.length), cfR S N ks l → cfE S N ks l[i]
  | [], _, hi, _ => by simp at hi
  | e :: r, 0, _, h => by simp only [cfR] at h; exact h.1
  | e :: r, i + 1, hi, h => by simp only [cfR] at h; exact cfR_get (l := r) (by simpa using hi) h.2
theorem rdR_get {w : World} {Q : Nat → Prop} {b n : Nat} : ∀ {l : List (List G)} {o i : Nat} (hi : i < l.length), (∀ j (hj : j < l.length), l[j].length = n) → rdR w Q b o l → rdE w Q b (o + i * n) l[i]
  | [], _, _, hi, _, _ => by simp at hi
  | e :: r, o, 0, _, _, h => by simp only [rdR] at h; simpa using h.1
  | e :: r, o, i + 1, hi, hn, h => by
    simp only [rdR] at h
    have h0 : e.length = n := hn 0 (by simp)
    have := rdR_get (l := r) (o := o + e.length) (i := i) (by simpa using hi) (fun j hj => hn (j + 1) (by simpa using hj)) h.2
    rw [h0, show o + n + i * n = o + (i + 1) * n by rw [Nat.add_mul]; omega] at this
    exact this
theorem ldR_get {mk : Nat → Nat → List Value} {w : World} {Q : Nat → Prop} {b n : Nat} : ∀ {l : List (List G)} {o i : Nat} (hi : i < l.length), (∀ j (hj : j < l.length), l[j].length = n) → ldR mk w Q b o l → ldE mk w Q b (o + i * n) l[i]
  | [], _, _, hi, _, _ => by simp at hi
  | e :: r, o, 0, _, _, h => by simp only [ldR] at h; simpa using h.1
  | e :: r, o, i + 1, hi, hn, h => by
    simp only [ldR] at h
    have h0 : e.length = n := hn 0 (by simp)
    have := ldR_get (l := r) (o := o + e.length) (i := i) (by simpa using hi) (fun j hj => hn (j + 1) (by simpa using hj)) h.2
    rw [h0, show o + n + i * n = o + (i + 1) * n by rw [Nat.add_mul]; omega] at this
    exact this
theorem ldR_of {mk : Nat → Nat → List Value} {w : World} {Q : Nat → Prop} {b n : Nat} : ∀ {l : List (List G)} {o : Nat}, (∀ j (hj : j < l.length), l[j].length = n) → (∀ i (hi : i < l.length), ldE mk w Q b (o + i * n) l[i]) → ldR mk w Q b o l
  | [], _, _, _ => by simp only [ldR]
  | e :: r, o, hn, h => by
    simp only [ldR]
    have h0 : e.length = n := hn 0 (by simp)
    refine ⟨by have := h 0 (by simp); simpa using this, ldR_of (n := n) (fun j hj => hn (j + 1) (by simpa using hj)) fun i hi => ?_⟩
    have := h (i + 1) (by simpa using hi)
    rw [h0, show o + n + i * n = o + (i + 1) * n by rw [Nat.add_mul]; omega]
    simpa using this
/-- an element's cells, as values. -/
theorem rdE_vals {w : World} {Q : Nat → Prop} {b : Nat} : ∀ {e : List G} {o : Nat}, rdE w Q b o e → ∃ vs : List Value, vs.length = e.length ∧ (∀ j v, vs[j]? = some v → w.cell? ⟨b, o + j, none⟩ = some v) ∧ ∀ j (h : j < vs.length) (h' : j < e.length), G.rd w Q vs[j] e[j]
  | [], _, _ => ⟨[], rfl, fun j v h => by simp at h, fun j h => by simp at h⟩
  | x :: r, o, h => by
    simp only [rdE] at h
    obtain ⟨⟨v, h1, h2⟩, h3⟩ := h
    obtain ⟨vs, e1, e2, e3⟩ := rdE_vals h3
    refine ⟨v :: vs, by simp [e1], fun j u hu => ?_, fun j hj hj' => ?_⟩
    · match j with
      | 0 => simp at hu; subst hu; simpa using h1
      | j + 1 =>
        have := e2 j u (by simpa using hu)
        rw [show o + (j + 1) = o + 1 + j by omega]
        exact this
    · match j with
      | 0 => simpa using h2
      | j + 1 => simpa using e3 j (by simpa using hj) (by simpa using hj')
theorem ldE_vals {mk : Nat → Nat → List Value} {w : World} {Q : Nat → Prop} {b : Nat} : ∀ {e : List G} {o : Nat}, ldE mk w Q b o e → ∃ vs : List Value, vs.length = e.length ∧ (∀ j v, vs[j]? = some v → w.cell? ⟨b, o + j, none⟩ = some v) ∧ ∀ j (h : j < vs.length) (h' : j < e.length), G.ld mk w Q vs[j] e[j]
  | [], _, _ => ⟨[], rfl, fun j v h => by simp at h, fun j h => by simp at h⟩
  | x :: r, o, h => by
    simp only [ldE] at h
    obtain ⟨⟨v, h1, h2⟩, h3⟩ := h
    obtain ⟨vs, e1, e2, e3⟩ := ldE_vals h3
    refine ⟨v :: vs, by simp [e1], fun j u hu => ?_, fun j hj hj' => ?_⟩
    · match j with
      | 0 => simp at hu; subst hu; simpa using h1
      | j + 1 =>
        have := e2 j u (by simpa using hu)
        rw [show o + (j + 1) = o + 1 + j by omega]
        exact this
    · match j with
      | 0 => simpa using h2
      | j + 1 => simpa using e3 j (by simpa using hj) (by simpa using hj')
theorem ldE_of {mk : Nat → Nat → List Value} {w : World} {Q : Nat → Prop} {b : Nat} : ∀ {e : List G} {vs : List Value} {o : Nat}, vs.length = e.length → (∀ j v, vs[j]? = some v → w.cell? ⟨b, o + j, none⟩ = some v) → (∀ j (h : j < vs.length) (h' : j < e.length), G.ld mk w Q vs[j] e[j]) → ldE mk w Q b o e
  | [], _, _, _, _, _ => by simp only [ldE]
  | x :: r, [], _, h, _, _ => by simp at h
  | x :: r, v :: vs, o, h1, h2, h3 => by
    simp only [ldE]
    refine ⟨⟨v, by have := h2 0 v (by simp); simpa using this, by have := h3 0 (by simp) (by simp); simpa using this⟩, ldE_of (vs := vs) (by simpa using h1) (fun j u hu => ?_) fun j hj hj' => ?_⟩
    · have := h2 (j + 1) u (by simpa using hu)
      rw [show o + 1 + j = o + (j + 1) by omega]
      exact this
    · have := h3 (j + 1) (by simpa using hj) (by simpa using hj')
      simpa using this
/-- data that lie below what was there when a call began. -/
abbrev G.rdW (w : World) (v : Value) (x : G) : Prop := G.rd w (fun b => b < w.heap.size) v x
theorem G.rdW.next {w w' : World} {v : Value} {x : G} (h : G.rdW w v x) (hb : Below w.heap.size w w') : G.rdW w' v x :=
  G.rd.keep (fun b hlt => ⟨fun _ => World.cell?_of_block (hb.block b hlt), Nat.lt_of_lt_of_le hlt hb.size⟩) v x h
abbrev G.ldW (mk : Nat → Nat → List Value) (w : World) (v : Value) (x : G) : Prop := G.ld mk w (fun b => b < w.heap.size) v x
theorem G.ldW.next {mk : Nat → Nat → List Value} {w w' : World} {v : Value} {x : G} (h : G.ldW mk w v x) (hb : Below w.heap.size w w') : G.ldW mk w' v x :=
  G.ld.keep (fun b hlt => ⟨fun _ => World.cell?_of_block (hb.block b hlt), Nat.lt_of_lt_of_le hlt hb.size⟩) v x h
end Go.Proofs.Ytlmbffnmjfbglab
