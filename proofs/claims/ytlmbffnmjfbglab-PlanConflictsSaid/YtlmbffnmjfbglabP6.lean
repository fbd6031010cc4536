/- Claims in memory. -/
import Derived.Test.YtlmbffnmjfbglabP5
namespace Go.Proofs.Ytlmbffnmjfbglab
open Go.ChangeShapes Go.WideShapes Go.ChangeAt Go.RowKit

mutual
/-- a claim at a place; all arrays below it lie in blocks with Q. -/
def RdC (w : World) (Q : Nat → Prop) (b o : Nat) : Claim → Prop
  | .mk f t wi sub => w.cell? ⟨b, o, none⟩ = some (.int .i64 f) ∧ w.cell? ⟨b, o + 1, none⟩ = some (.int .i64 t) ∧ w.cell? ⟨b, o + 2, none⟩ = some (.int .i64 wi) ∧
      ∃ A c, w.cell? ⟨b, o + 3, none⟩ = some (.slice A sub.length c) ∧ sub.length ≤ c ∧ c ≤ maxLen ∧ (0 < sub.length → ∃ b' o', A = some ⟨b', o', none⟩ ∧ Q b' ∧ RdL w Q b' o' sub)
/-- claims one behind the other. -/
def RdL (w : World) (Q : Nat → Prop) (b o : Nat) : List Claim → Prop
  | [] => True
  | x :: r => RdC w Q b o x ∧ RdL w Q b (o + 4) r
end
/-- a slice of claims. -/
def RdCls (w : World) (Q : Nat → Prop) (A : Option Addr) (l : List Claim) : Prop := 0 < l.length → ∃ b o, A = some ⟨b, o, none⟩ ∧ Q b ∧ RdL w Q b o l

mutual
theorem RdC.keep {w w' : World} {Q Q' : Nat → Prop} (h : ∀ b, Q b → (∀ o, w'.cell? ⟨b, o, none⟩ = w.cell? ⟨b, o, none⟩) ∧ Q' b) (b o : Nat) (ht : ∀ o, w'.cell? ⟨b, o, none⟩ = w.cell? ⟨b, o, none⟩) : ∀ x : Claim, RdC w Q b o x → RdC w' Q' b o x
  | .mk f t wi sub, hx => by
    simp only [RdC] at hx ⊢
    obtain ⟨h0, h1, h2, A, c, h3, h4, h5, h6⟩ := hx
    refine ⟨(ht _).trans h0, (ht _).trans h1, (ht _).trans h2, A, c, (ht _).trans h3, h4, h5, fun hn => ?_⟩
    obtain ⟨b', o', e, hq, hl⟩ := h6 hn
    exact ⟨b', o', e, (h b' hq).2, RdL.keep h b' o' (h b' hq).1 sub hl⟩
theorem RdL.keep {w w' : World} {Q Q' : Nat → Prop} (h : ∀ b, Q b → (∀ o, w'.cell? ⟨b, o, none⟩ = w.cell? ⟨b, o, none⟩) ∧ Q' b) (b o : Nat) (ht : ∀ o, w'.cell? ⟨b, o, none⟩ = w.cell? ⟨b, o, none⟩) : ∀ l : List Claim, RdL w Q b o l → RdL w' Q' b o l
  | [], _ => by simp only [RdL]
  | x :: r, hx => by
    simp only [RdL] at hx ⊢
    exact ⟨RdC.keep h b o ht x hx.1, RdL.keep h b (o + 4) ht r hx.2⟩
end
theorem RdCls.keep {w w' : World} {Q Q' : Nat → Prop} {A : Option Addr} {l : List Claim} (h : ∀ b, Q b → (∀ o, w'.cell? ⟨b, o, none⟩ = w.cell? ⟨b, o, none⟩) ∧ Q' b) (hl : RdCls w Q A l) : RdCls w' Q' A l := fun hn => by
  obtain ⟨b, o, e, hq, hr⟩ := hl hn
  exact ⟨b, o, e, (h b hq).2, RdL.keep h b o (h b hq).1 l hr⟩
theorem RdL.at_ {w : World} {Q : Nat → Prop} {b : Nat} : ∀ (l : List Claim) (o i : Nat) (hi : i < l.length), RdL w Q b o l → RdC w Q b (o + i * 4) l[i]
  | [], _, _, hi, _ => by simp at hi
  | x :: r, o, 0, _, h => by simp only [RdL] at h; simpa using h.1
  | x :: r, o, i + 1, hi, h => by
    simp only [RdL] at h
    have := RdL.at_ r (o + 4) i (by simpa using hi) h.2
    have e : o + 4 + i * 4 = o + (i + 1) * 4 := by omega
    rw [e] at this
    simpa using this
theorem RdL.of_ {w : World} {Q : Nat → Prop} {b : Nat} : ∀ (l : List Claim) (o : Nat), (∀ i (hi : i < l.length), RdC w Q b (o + i * 4) l[i]) → RdL w Q b o l
  | [], _, _ => by simp only [RdL]
  | x :: r, o, h => by
    simp only [RdL]
    refine ⟨by have := h 0 (by simp); simpa using this, RdL.of_ r (o + 4) fun i hi => ?_⟩
    have := h (i + 1) (by simpa using hi)
    have e : o + 4 + i * 4 = o + (i + 1) * 4 := by omega
    rw [e]
    simpa using this

/-- a claim as its four cells' values. -/
structure CV where
  f : Int
  t : Int
  w : Int
  s : SlV
  deriving Inhabited
def CV.cells (x : CV) : List Value := [.int .i64 x.f, .int .i64 x.t, .int .i64 x.w, .slice x.s.a x.s.n x.s.c]
theorem CV.len (l : List CV) : (l.flatMap CV.cells).length = l.length * 4 := by
  induction l with
  | nil => simp
  | cons x l ih => simp [CV.cells, ih, Nat.add_mul]
theorem CV.get (l : List CV) (i : Nat) (hi : i < l.length) : (l.flatMap CV.cells)[i * 4]? = some (.int .i64 l[i].f) ∧ (l.flatMap CV.cells)[i * 4 + 1]? = some (.int .i64 l[i].t) ∧ (l.flatMap CV.cells)[i * 4 + 2]? = some (.int .i64 l[i].w) ∧ (l.flatMap CV.cells)[i * 4 + 3]? = some (.slice l[i].s.a l[i].s.n l[i].s.c) := by
  induction l generalizing i with
  | nil => simp at hi
  | cons x l ih =>
    match i with
    | 0 => simp [CV.cells]
    | i + 1 =>
      have := ih i (by simpa using hi)
      have e : (i + 1) * 4 = i * 4 + 4 := by omega
      simp only [List.flatMap_cons, List.getElem_cons_succ, e]
      have hc : (CV.cells x).length = 4 := rfl
      refine ⟨?_, ?_, ?_, ?_⟩ <;> (rw [List.getElem?_append_right (by omega), hc])
      · rw [show i * 4 + 4 - 4 = i * 4 by omega]; exact this.1
      · rw [show i * 4 + 4 + 1 - 4 = i * 4 + 1 by omega]; exact this.2.1
      · rw [show i * 4 + 4 + 2 - 4 = i * 4 + 2 by omega]; exact this.2.2.1
      · rw [show i * 4 + 4 + 3 - 4 = i * 4 + 3 by omega]; exact this.2.2.2
/-- the values are those of claims whose arrays below lie in blocks with Q. -/
def CVs (w : World) (Q : Nat → Prop) (L : List CV) (l : List Claim) : Prop := L.length = l.length ∧ ∀ i (h : i < L.length) (h' : i < l.length), L[i].f = l[i].frm ∧ L[i].t = l[i].to ∧ L[i].w = l[i].wth ∧ L[i].s.n = l[i].sub.length ∧ L[i].s.n ≤ L[i].s.c ∧ L[i].s.c ≤ maxLen ∧ RdCls w Q L[i].s.a l[i].sub
theorem CVs.keep {w w' : World} {Q Q' : Nat → Prop} {L : List CV} {l : List Claim} (h : ∀ b, Q b → (∀ o, w'.cell? ⟨b, o, none⟩ = w.cell? ⟨b, o, none⟩) ∧ Q' b) (hc : CVs w Q L l) : CVs w' Q' L l :=
  ⟨hc.1, fun i hi hi' => by obtain ⟨a, b, c, d, e, f, g⟩ := hc.2 i hi hi'; exact ⟨a, b, c, d, e, f, g.keep h⟩⟩
theorem CVs.nil {w : World} {Q : Nat → Prop} : CVs w Q [] [] := ⟨rfl, fun i h => by simp at h⟩
theorem CVs.push {w : World} {Q : Nat → Prop} {L : List CV} {l : List Claim} (hc : CVs w Q L l) (x : CV) (y : Claim) (h : x.f = y.frm ∧ x.t = y.to ∧ x.w = y.wth ∧ x.s.n = y.sub.length ∧ x.s.n ≤ x.s.c ∧ x.s.c ≤ maxLen ∧ RdCls w Q x.s.a y.sub) : CVs w Q (L ++ [x]) (l ++ [y]) := by
  refine ⟨by simp [hc.1], fun i hi hi' => ?_⟩
  by_cases e : i < L.length
  · rw [List.getElem_append_left e, List.getElem_append_left (by rw [← hc.1]; exact e)]
    exact hc.2 i e _
  · have : i = L.length := by simp at hi; omega
    subst this
    have e2 := hc.1
    simp only [List.getElem_append_right (Nat.le_refl _), Nat.sub_self]
    rw [List.getElem_append_right (by omega)]
    simpa [e2] using h
/-- a row of claims that the call owns, as a slice of claims. -/
theorem rdCls_of_own {w : World} {base n : Nat} {v : Value} {L : List CV} {l : List Claim} {Q : Nat → Prop} (hn : n = L.length) (h : w.ownsRow base 35 4 v n (L.flatMap CV.cells)) (hc : CVs w Q L l) (hQ : ∀ g, v.ownBlock = some g → Q g) : ∃ A c, v = .slice A l.length c ∧ l.length ≤ c ∧ c ≤ maxLen ∧ RdCls w Q A l := by
  subst hn
  have hl := hc.1
  rcases h.2 with ⟨rfl, h0⟩ | ⟨g, cap, cur, rfl, _, hh, h1, h2, _⟩
  · refine ⟨none, 0, by rw [← hl, h0], by omega, by simp [maxLen], fun hn => by omega⟩
  · refine ⟨_, cap, by rw [← hl], by omega, h2, fun hn => ⟨g, 0, rfl, hQ g rfl, RdL.of_ l 0 fun i hi => ?_⟩⟩
    obtain ⟨q0, q1, q2, q3⟩ := CV.get L i (by omega)
    have hcell : ∀ j v, (L.flatMap CV.cells)[j]? = some v → w.cell? ⟨g, j, none⟩ = some v := fun j v hv => by
      have := h.cells (g := g) rfl j v hv
      rw [add_none] at this
      simpa using this
    obtain ⟨a, b, c, d, e, f, k⟩ := hc.2 i (by omega) hi
    cases hx : l[i] with
    | mk fr to wi sub =>
      rw [hx] at a b c d k
      simp only [Claim.frm, Claim.to, Claim.wth, Claim.sub] at a b c d k
      simp only [RdC, Nat.zero_add]
      refine ⟨by rw [hcell _ _ q0, a], by rw [hcell _ _ q1, b], by rw [hcell _ _ q2, c], L[i].s.a, L[i].s.c, by rw [hcell _ _ q3, d], by omega, f, k⟩
end Go.Proofs.Ytlmbffnmjfbglab
