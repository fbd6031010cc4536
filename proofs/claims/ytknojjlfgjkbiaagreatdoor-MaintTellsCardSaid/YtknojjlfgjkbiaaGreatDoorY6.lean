/- Texts Y6, joined. -/
import Derived.Test.YtknojjlfgjkbiaaGreatDoorY4
import Derived.Test.YtknojjlfgjkbiaaGreatDoorY5
set_option linter.unusedSimpArgs false
set_option linter.unusedVariables false
set_option linter.unusedSectionVars false
/- MaintTells: the law function answers true. -/
namespace Go.Proofs.YtknojjlfgjkbiaaGreatDoor
open Go.ChangeShapes Go.WideShapes Go.ChangeAt Go.RowKit

theorem notLarge {l : List Cs} {n : Nat} (h : largeV l n = false) : l.length ≤ 60 ∧ n ≤ 60 ∧ ∀ c ∈ l, c.needs.length ≤ 20 ∧ c.excl.length ≤ 20 := by
  unfold largeV at h
  simp only [Bool.or_eq_false_iff, decide_eq_false_iff_not] at h
  refine ⟨by omega, by omega, fun c hc => ?_⟩
  have := List.any_eq_false.1 h.2 c hc
  unfold bigC at this
  simp only [Bool.or_eq_true, decide_eq_true_eq, not_or] at this
  omega
theorem maintTells_c (L : List CsV) (reps : List Rep) (us : List ByteArray) (A : Option Addr) (c : Nat) (A1 : Option Addr) (c1 : Nat) (A2 : Option Addr) (c2 : Nat) (w : World) (h : RdCs w w.heap.size A L) (ok : ∀ x ∈ L, OkC x.c) (hl : L.length ≤ 2199023255552)
    (g0 : G.cf GS GN (.sl 0) (csG (csOf L))) (r0 : G.rdW w (.slice A L.length c) (csG (csOf L))) (hr : RdRep w w.heap.size A1 reps) (okr : ∀ r ∈ reps, r.ok) (hl1 : reps.length ≤ 10000000000000) (g1 : G.cf GS GN (.sl 1) (repG reps)) (r1 : G.rdW w (.slice A1 reps.length c1) (repG reps))
    (hs : RdStr w w.heap.size A2 us) (oks : ∀ u ∈ us, u.size ≤ maxLen) (hsc : us.length ≤ c2) (hcm : c2 ≤ maxLen) :
    Calls Tryz.prog 3 #[.slice A L.length c, .slice A1 reps.length c1, .slice A2 us.length c2] w fun e w' => e = .returned (.bool true) ∧ Below w.heap.size w w' :=
  maintTells_of L reps.length us.length A c A1 c1 A2 c2 w h hl hl1 fun hlv hm => by
    obtain ⟨k1, k2, k3⟩ := notLarge hlv
    rw [csOf_len] at k1
    have O : ArgsOk L reps us := ⟨ok, okr, oks, k1, k2, hm, fun x hx => Nat.le_trans (k3 x.c (List.mem_map_of_mem hx)).1 (by decide)⟩
    have hq := start_of O g0 g1 _ _ A2 c2 w ⟨⟨A, c, rfl, h⟩, ⟨A1, c1, rfl, hr⟩, ⟨A2, c2, rfl, hs, hsc, hcm⟩⟩ r0 r1
    cases hok : okV (csOf L) with
    | true =>
      have hc : codeE L = 0 := by unfold codeE; rw [if_pos hok]
      rw [hc, hok] at hq
      exact lists_yes _ _ us A2 c2 _ _ _ _ _ _ w hm hq
    | false =>
      have hn : ¬ okV (csOf L) = true := by rw [hok]; decide
      have hc : codeE L = 400 := by unfold codeE; rw [if_neg hn]
      have h1 : ordE L = [] := by unfold ordE; rw [if_neg hn]
      have h2 : accE L reps = [] := by unfold accE; rw [if_neg hn]
      have h3 : openE L reps = [] := by unfold openE; rw [if_neg hn]
      rw [hc, hok] at hq
      exact lists_no _ _ us A2 c2 _ _ _ _ _ _ w hm h1 h2 h3 hq
section
variable {H : Type} {enc : TypeId × Value → H} {W : World} {v : Value} {d : DataW H} {p : List MemPlace} {r : Reach} {b0 : Nat}
set_option maxRecDepth 100000 in
theorem arg_css2 (hw : Value.okWide Tryz.prog W r b0 22 v) (h : DataW.Trod enc Tryz.prog W 0 (fun _ => true) true 22 v d p) (hz : ∀ n ∈ d.weights Tryz.prog 22, n ≤ reachBytes) :
    ∃ (A : Option Addr) (c : Nat) (l : List CsV), v = .slice A l.length c ∧ RdCs W W.heap.size A l ∧ (∀ s ∈ l, OkC s.c) ∧ l.length ≤ 2199023255552 ∧ G.cf GS GN (.sl 0) (csG (csOf l)) ∧ G.rdW W (.slice A l.length c) (csG (csOf l)) := by
  obtain ⟨a0, len0, cap0, rfl⟩ := okWide_slice Tryz.underlying22 hw
  obtain ⟨n, h⟩ := h
  obtain ⟨x, hc, hr⟩ := open_g tabG n (.sl 0) _ (d, p) (by simp [K.known]) h hz
  obtain ⟨A, c, l, h1, _, _, h4, h5, h6, h7⟩ := open_css2 hc hr
  subst h7
  rw [h1] at hr
  exact ⟨A, c, l, h1, h4, h5, h6, hc, hr⟩
set_option maxRecDepth 100000 in
theorem arg_reps2 (hw : Value.okWide Tryz.prog W r b0 23 v) (h : DataW.Trod enc Tryz.prog W 0 (fun _ => true) true 23 v d p) (hz : ∀ n ∈ d.weights Tryz.prog 23, n ≤ reachBytes) :
    ∃ (A : Option Addr) (c : Nat) (l : List Rep), v = .slice A l.length c ∧ RdRep W W.heap.size A l ∧ (∀ s ∈ l, s.ok) ∧ l.length ≤ 10000000000000 ∧ G.cf GS GN (.sl 1) (repG l) ∧ G.rdW W (.slice A l.length c) (repG l) := by
  obtain ⟨a0, len0, cap0, rfl⟩ := okWide_slice Tryz.underlying23 hw
  obtain ⟨n, h⟩ := h
  obtain ⟨x, hc, hr⟩ := open_g tabG n (.sl 1) _ (d, p) (by simp [K.known]) h hz
  obtain ⟨A, c, l, h1, _, _, h4, h5, h6, h7⟩ := open_reps2 hc hr
  subst h7
  rw [h1] at hr
  exact ⟨A, c, l, h1, h4, h5, Nat.le_trans h6 (by decide), hc, hr⟩
set_option maxRecDepth 100000 in
theorem arg_strs2 (hw : Value.okWide Tryz.prog W r b0 24 v) (h : DataW.Trod enc Tryz.prog W 0 (fun _ => true) true 24 v d p) (hz : ∀ n ∈ d.weights Tryz.prog 24, n ≤ reachBytes) :
    ∃ (A : Option Addr) (c : Nat) (l : List ByteArray), v = .slice A l.length c ∧ l.length ≤ c ∧ c ≤ maxLen ∧ RdStr W W.heap.size A l ∧ (∀ s ∈ l, s.size ≤ maxLen) := by
  obtain ⟨a0, len0, cap0, rfl⟩ := okWide_slice Tryz.underlying24 hw
  obtain ⟨n, h⟩ := h
  obtain ⟨x, hc, hr⟩ := open_g tabG n (.sl 2) _ (d, p) (by simp [K.known]) h hz
  obtain ⟨A, c, l, h1, h2, h3, h4, h5, _⟩ := open_strs2 hc hr
  exact ⟨A, c, l, h1, h2, h3, h4, h5⟩
end
end Go.Proofs.YtknojjlfgjkbiaaGreatDoor
