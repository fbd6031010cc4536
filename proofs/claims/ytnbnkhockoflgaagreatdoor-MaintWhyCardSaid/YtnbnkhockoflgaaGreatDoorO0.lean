/- Arguments opened: slices of strings, of reports and of causes. -/
import Derived.Test.YtnbnkhockoflgaaGreatDoorJ02
import Derived.Lib.SmallJoins
import Derived.Deep.Fields
set_option linter.unusedSimpArgs false
set_option linter.unusedVariables false
set_option linter.unusedSectionVars false
namespace Go.Proofs.YtnbnkhockoflgaaGreatDoor
open Go.ChangeShapes Go.WideShapes Go.ChangeAt Go.RowKit Go.Deep

theorem cf_str {x : G} (h : G.cf GS GN .str x) : ∃ s : ByteArray, x = .one (.string s) ∧ s.size ≤ maxLen := by
  cases x with
  | one v => simp only [G.cf] at h; obtain ⟨s, rfl, hs⟩ := h; exact ⟨s, rfl, hs⟩
  | row t l => exact absurd h (by simp [G.cf])
theorem cf_int {x : G} (h : G.cf GS GN .int x) : ∃ s : Int, x = .one (.int .i64 s) ∧ (Lit.int .i64 s).wf = true := by
  cases x with
  | one v => simp only [G.cf] at h; obtain ⟨s, rfl, hs⟩ := h; exact ⟨s, rfl, hs⟩
  | row t l => exact absurd h (by simp [G.cf])
theorem cf_sl {t : Nat} {x : G} (h : G.cf GS GN (.sl t) x) : ∃ l, x = .row t l ∧ l.length ≤ GN t ∧ cfR GS GN (GS t) l := by
  cases x with
  | one v => exact absurd h (by simp [G.cf])
  | row t' l => simp only [G.cf] at h; obtain ⟨rfl, h2, h3⟩ := h; exact ⟨l, rfl, h2, h3⟩
theorem strs_of {w : World} {Q : Nat → Prop} {b : Nat} : ∀ (l : List (List G)) (o : Nat), cfR GS GN (GS 2) l → rdR w Q b o l →
    ∃ ss : List ByteArray, ss.length = l.length ∧ (∀ s ∈ ss, s.size ≤ maxLen) ∧ ∀ i (hi : i < ss.length), w.cell? ⟨b, o + i, none⟩ = some (.string ss[i])
  | [], _, _, _ => ⟨[], rfl, by simp, fun i hi => absurd hi (by simp)⟩
  | [x] :: r, o, hc, h => by
    simp only [cfR] at hc
    simp only [rdR] at h
    obtain ⟨ss, h1, h2, h3⟩ := strs_of r (o + 1) hc.2 h.2
    have c0 := hc.1
    simp only [GS, cfE] at c0
    obtain ⟨s, rfl, hs⟩ := cf_str c0.1
    have r0 := h.1
    simp only [rdE, G.rd] at r0
    obtain ⟨⟨v, hv, rfl⟩, _⟩ := r0
    refine ⟨s :: ss, by simp [h1], fun y hy => (List.mem_cons.1 hy).elim (fun e => e ▸ hs) (h2 y), fun i hi => ?_⟩
    cases i with
    | zero => simpa using hv
    | succ i => have := h3 i (by simpa using hi); rw [show o + (i + 1) = o + 1 + i by omega]; simpa using this
  | [] :: r, o, hc, h => by simp [cfR, cfE, GS] at hc
  | (x :: y :: z) :: r, o, hc, h => by simp [cfR, cfE, GS] at hc
theorem reps_of {w : World} {Q : Nat → Prop} {b : Nat} : ∀ (l : List (List G)) (o : Nat), cfR GS GN (GS 1) l → rdR w Q b o l →
    ∃ ss : List Rep, ss.length = l.length ∧ (∀ s ∈ ss, s.ok) ∧ ∀ i (hi : i < ss.length), w.cell? ⟨b, o + i * 2, none⟩ = some (.string ss[i].unit) ∧ w.cell? ⟨b, o + i * 2 + 1, none⟩ = some (.int .i64 ss[i].code)
  | [], _, _, _ => ⟨[], rfl, by simp, fun i hi => absurd hi (by simp)⟩
  | [x, y] :: r, o, hc, h => by
    simp only [cfR] at hc
    simp only [rdR] at h
    obtain ⟨ss, h1, h2, h3⟩ := reps_of r (o + 2) hc.2 h.2
    have c0 := hc.1
    simp only [GS, cfE] at c0
    obtain ⟨s, rfl, hs⟩ := cf_str c0.1
    obtain ⟨n, rfl, hn⟩ := cf_int c0.2.1
    have r0 := h.1
    simp only [rdE, G.rd] at r0
    obtain ⟨⟨v, hv, rfl⟩, ⟨v2, hv2, rfl⟩, _⟩ := r0
    refine ⟨⟨s, n⟩ :: ss, by simp [h1], fun y hy => (List.mem_cons.1 hy).elim (fun e => e ▸ ⟨hs, hn⟩) (h2 y), fun i hi => ?_⟩
    cases i with
    | zero => simpa using ⟨hv, hv2⟩
    | succ i => have := h3 i (by simpa using hi); rw [show o + (i + 1) * 2 = o + 2 + i * 2 by omega]; simpa using this
  | [] :: r, o, hc, h => by simp [cfR, cfE, GS] at hc
  | [_] :: r, o, hc, h => by simp [cfR, cfE, GS] at hc
  | (x :: y :: z :: u) :: r, o, hc, h => by simp [cfR, cfE, GS] at hc
/-- a slice of strings among arguments. -/
theorem open_strs {w : World} {v : Value} {x : G} (hc : G.cf GS GN (.sl 2) x) (h : G.rdW w v x) :
    ∃ (A : Option Addr) (c : Nat) (l : List ByteArray), v = .slice A l.length c ∧ l.length ≤ c ∧ c ≤ maxLen ∧ RdStr w w.heap.size A l ∧ (∀ s ∈ l, s.size ≤ maxLen) := by
  obtain ⟨l, rfl, hn, hR⟩ := cf_sl hc
  simp only [G.rdW, G.rd] at h
  obtain ⟨A, c, rfl, h1, h2, h3⟩ := h
  by_cases h0 : 0 < l.length
  · obtain ⟨b, o, rfl, hb, hr⟩ := h3 h0
    obtain ⟨ss, e, hs, hcs⟩ := strs_of l o hR hr
    exact ⟨_, c, ss, by rw [e], by omega, h2, fun _ => ⟨b, o, rfl, hb, hcs⟩, hs⟩
  · have e : l = [] := List.eq_nil_of_length_eq_zero (by omega)
    subst e
    exact ⟨A, c, [], rfl, h1, h2, RdStr.nil, by simp⟩
/-- a slice of reports among arguments. -/
theorem open_reps {w : World} {v : Value} {x : G} (hc : G.cf GS GN (.sl 1) x) (h : G.rdW w v x) :
    ∃ (A : Option Addr) (c : Nat) (l : List Rep), v = .slice A l.length c ∧ l.length ≤ c ∧ c ≤ maxLen ∧ RdRep w w.heap.size A l ∧ (∀ s ∈ l, s.ok) ∧ l.length ≤ reachBytes / 24 := by
  obtain ⟨l, rfl, hn, hR⟩ := cf_sl hc
  simp only [G.rdW, G.rd] at h
  obtain ⟨A, c, rfl, h1, h2, h3⟩ := h
  by_cases h0 : 0 < l.length
  · obtain ⟨b, o, rfl, hb, hr⟩ := h3 h0
    obtain ⟨ss, e, hs, hcs⟩ := reps_of l o hR hr
    exact ⟨_, c, ss, by rw [e], by omega, h2, fun _ => ⟨b, o, rfl, hb, hcs⟩, hs, by rw [e]; exact hn⟩
  · have e : l = [] := List.eq_nil_of_length_eq_zero (by omega)
    subst e
    exact ⟨A, c, [], rfl, h1, h2, RdRep.nil, by simp, by simp⟩
theorem css_of {w : World} {b : Nat} : ∀ (l : List (List G)) (o : Nat), cfR GS GN (GS 0) l → rdR w (fun b => b < w.heap.size) b o l →
    ∃ ss : List CsV, ss.length = l.length ∧ (∀ s ∈ ss, OkC s.c) ∧ ∀ i (hi : i < ss.length), w.cell? ⟨b, o + i * 3, none⟩ = some (.string ss[i].c.unit) ∧ w.cell? ⟨b, o + i * 3 + 1, none⟩ = some ss[i].n.val ∧ w.cell? ⟨b, o + i * 3 + 2, none⟩ = some ss[i].x.val ∧ ss[i].rd w w.heap.size
  | [], _, _, _ => ⟨[], rfl, by simp, fun i hi => absurd hi (by simp)⟩
  | [x, y, z] :: r, o, hc, h => by
    simp only [cfR] at hc
    simp only [rdR] at h
    obtain ⟨ss, h1, h2, h3⟩ := css_of r (o + 3) hc.2 h.2
    have c0 := hc.1
    simp only [GS, cfE] at c0
    obtain ⟨s, rfl, hs⟩ := cf_str c0.1
    have r0 := h.1
    simp only [rdE] at r0
    obtain ⟨⟨v, hv, hx⟩, ⟨v2, hv2, hy⟩, ⟨v3, hv3, hz⟩, _⟩ := r0
    simp only [G.rd] at hx
    subst hx
    obtain ⟨An, cn, ln, rfl, n1, n2, n3, n4, _⟩ := open_reps c0.2.1 (by unfold G.rdW; exact hy)
    obtain ⟨Ax, cx, lx, rfl, x1, x2, x3, x4⟩ := open_strs c0.2.2.1 (by unfold G.rdW; exact hz)
    refine ⟨⟨⟨s, ln, lx⟩, ⟨An, ln.length, cn⟩, ⟨Ax, lx.length, cx⟩⟩ :: ss, by simp [h1], fun y hy => (List.mem_cons.1 hy).elim (fun e => e ▸ ⟨hs, n4, x4⟩) (h2 y), fun i hi => ?_⟩
    cases i with
    | zero => simpa using ⟨hv, hv2, hv3, ⟨rfl, n1, n2, n3, rfl, x1, x2, x3⟩⟩
    | succ i => have := h3 i (by simpa using hi); rw [show o + (i + 1) * 3 = o + 3 + i * 3 by omega]; simpa using this
  | [] :: r, o, hc, h => by simp [cfR, cfE, GS] at hc
  | [_] :: r, o, hc, h => by simp [cfR, cfE, GS] at hc
  | [_, _] :: r, o, hc, h => by simp [cfR, cfE, GS] at hc
  | (x :: y :: z :: u :: v) :: r, o, hc, h => by simp [cfR, cfE, GS] at hc
/-- a slice of causes among arguments. -/
theorem open_css {w : World} {v : Value} {x : G} (hc : G.cf GS GN (.sl 0) x) (h : G.rdW w v x) :
    ∃ (A : Option Addr) (c : Nat) (l : List CsV), v = .slice A l.length c ∧ l.length ≤ c ∧ c ≤ maxLen ∧ RdCs w w.heap.size A l ∧ (∀ s ∈ l, OkC s.c) ∧ l.length ≤ 2199023255552 := by
  obtain ⟨l, rfl, hn, hR⟩ := cf_sl hc
  have hn : l.length ≤ 2199023255552 := Nat.le_trans hn (by decide)
  simp only [G.rdW, G.rd] at h
  obtain ⟨A, c, rfl, h1, h2, h3⟩ := h
  by_cases h0 : 0 < l.length
  · obtain ⟨b, o, rfl, hb, hr⟩ := h3 h0
    obtain ⟨ss, e, hs, hcs⟩ := css_of l o hR hr
    exact ⟨_, c, ss, by rw [e], by omega, h2, fun _ => ⟨b, o, rfl, hb, hcs⟩, hs, by omega⟩
  · have e : l = [] := List.eq_nil_of_length_eq_zero (by omega)
    subst e
    exact ⟨A, c, [], rfl, h1, h2, RdCs.nil, by simp, by simp⟩
section
variable {H : Type} {enc : TypeId × Value → H} {W : World} {v : Value} {d : DataW H} {p : List MemPlace} {r : Reach} {b0 : Nat}
set_option maxRecDepth 100000 in
theorem arg_css (hw : Value.okWide Tryz.prog W r b0 22 v) (h : DataW.Trod enc Tryz.prog W 0 (fun _ => true) true 22 v d p) (hz : ∀ n ∈ d.weights Tryz.prog 22, n ≤ reachBytes) :
    ∃ (A : Option Addr) (c : Nat) (l : List CsV), v = .slice A l.length c ∧ l.length ≤ c ∧ c ≤ maxLen ∧ RdCs W W.heap.size A l ∧ (∀ s ∈ l, OkC s.c) ∧ l.length ≤ 2199023255552 := by
  obtain ⟨a0, len0, cap0, rfl⟩ := okWide_slice Tryz.underlying22 hw
  obtain ⟨n, h⟩ := h
  obtain ⟨x, hc, hr⟩ := open_g tabG n (.sl 0) _ (d, p) (by simp [K.known]) h hz
  exact open_css hc hr
set_option maxRecDepth 100000 in
theorem arg_reps (hw : Value.okWide Tryz.prog W r b0 31 v) (h : DataW.Trod enc Tryz.prog W 0 (fun _ => true) true 31 v d p) (hz : ∀ n ∈ d.weights Tryz.prog 31, n ≤ reachBytes) :
    ∃ (A : Option Addr) (c : Nat) (l : List Rep), v = .slice A l.length c ∧ l.length ≤ c ∧ c ≤ maxLen ∧ RdRep W W.heap.size A l ∧ (∀ s ∈ l, s.ok) ∧ l.length ≤ 10000000000000 := by
  obtain ⟨a0, len0, cap0, rfl⟩ := okWide_slice Tryz.underlying31 hw
  obtain ⟨n, h⟩ := h
  obtain ⟨x, hc, hr⟩ := open_g tabG n (.sl 1) _ (d, p) (by simp [K.known]) h hz
  obtain ⟨A, c, l, h1, h2, h3, h4, h5, h6⟩ := open_reps hc hr
  exact ⟨A, c, l, h1, h2, h3, h4, h5, Nat.le_trans h6 (by decide)⟩
end
end Go.Proofs.YtnbnkhockoflgaaGreatDoor
