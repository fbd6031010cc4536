/- Texts O0 L2, joined. -/
import Derived.Lib.SmallJoins
import Derived.Deep.Fields
import Derived.Test.YtknojjlfgjkbiaaGreatDoorH02
import Derived.Test.YtknojjlfgjkbiaaGreatDoorH13
import Derived.Test.YtknojjlfgjkbiaaGreatDoorH08
set_option linter.unusedSimpArgs false
set_option linter.unusedVariables false
set_option linter.unusedSectionVars false
/- Arguments opened: slices of strings, of reports and of causes. -/
namespace Go.Proofs.YtknojjlfgjkbiaaGreatDoor
open Go.ChangeShapes Go.WideShapes Go.ChangeAt Go.RowKit Go.Deep

theorem cf_str {x : G} (h : G.cf GS GN .str x) : ∃ s : ByteArray, x = .one (.string s) ∧ s.size ≤ maxLen := by
  cases x with
  | one v => simp only [G.cf] at h; obtain ⟨s, rfl, hs⟩ := h; exact ⟨s, rfl, hs⟩
  | row t l => exact absurd h (by simp [G.cf])
theorem cf_int {x : G} (h : G.cf GS GN .int x) : ∃ s : Int, x = .one (.int .i64 s) ∧ (Lit.int .i64 s).wf = true := by
  cases x with
  | one v => simp only [G.cf] at h; obtain ⟨s, rfl, hs⟩ := h; exact ⟨s, rfl, hs⟩
  | row t l => exact absurd h (by simp [G.cf])
theorem cf_sl {t : Nat} {x : G} (h : G.cf GS GN (.sl t) x) : ∃ l, x = .row t l ∧ l.length ≤ GN t ∧ cfR GS GN (GS t) l := by
  cases x with
  | one v => exact absurd h (by simp [G.cf])
  | row t' l => simp only [G.cf] at h; obtain ⟨rfl, h2, h3⟩ := h; exact ⟨l, rfl, h2, h3⟩
theorem strs_of {w : World} {Q : Nat → Prop} {b : Nat} : ∀ (l : List (List G)) (o : Nat), cfR GS GN (GS 2) l → rdR w Q b o l →
    ∃ ss : List ByteArray, ss.length = l.length ∧ (∀ s ∈ ss, s.size ≤ maxLen) ∧ ∀ i (hi : i < ss.length), w.cell? ⟨b, o + i, none⟩ = some (.string ss[i])
  | [], _, _, _ => ⟨[], rfl, by simp, fun i hi => absurd hi (by simp)⟩
  | [x] :: r, o, hc, h => by
    simp only [cfR] at hc
    simp only [rdR] at h
    obtain ⟨ss, h1, h2, h3⟩ := strs_of r (o + 1) hc.2 h.2
    have c0 := hc.1
    simp only [GS, cfE] at c0
    obtain ⟨s, rfl, hs⟩ := cf_str c0.1
    have r0 := h.1
    simp only [rdE, G.rd] at r0
    obtain ⟨⟨v, hv, rfl⟩, _⟩ := r0
    refine ⟨s :: ss, by simp [h1], fun y hy => (List.mem_cons.1 hy).elim (fun e => e ▸ hs) (h2 y), fun i hi => ?_⟩
    cases i with
    | zero => simpa using hv
    | succ i => have := h3 i (by simpa using hi); rw [show o + (i + 1) = o + 1 + i by omega]; simpa using this
  | [] :: r, o, hc, h => by simp [cfR, cfE, GS] at hc
  | (x :: y :: z) :: r, o, hc, h => by simp [cfR, cfE, GS] at hc
theorem reps_of {w : World} {Q : Nat → Prop} {b : Nat} : ∀ (l : List (List G)) (o : Nat), cfR GS GN (GS 1) l → rdR w Q b o l →
    ∃ ss : List Rep, ss.length = l.length ∧ (∀ s ∈ ss, s.ok) ∧ ∀ i (hi : i < ss.length), w.cell? ⟨b, o + i * 2, none⟩ = some (.string ss[i].unit) ∧ w.cell? ⟨b, o + i * 2 + 1, none⟩ = some (.int .i64 ss[i].code)
  | [], _, _, _ => ⟨[], rfl, by simp, fun i hi => absurd hi (by simp)⟩
  | [x, y] :: r, o, hc, h => by
    simp only [cfR] at hc
    simp only [rdR] at h
    obtain ⟨ss, h1, h2, h3⟩ := reps_of r (o + 2) hc.2 h.2
    have c0 := hc.1
    simp only [GS, cfE] at c0
    obtain ⟨s, rfl, hs⟩ := cf_str c0.1
    obtain ⟨n, rfl, hn⟩ := cf_int c0.2.1
    have r0 := h.1
    simp only [rdE, G.rd] at r0
    obtain ⟨⟨v, hv, rfl⟩, ⟨v2, hv2, rfl⟩, _⟩ := r0
    refine ⟨⟨s, n⟩ :: ss, by simp [h1], fun y hy => (List.mem_cons.1 hy).elim (fun e => e ▸ ⟨hs, hn⟩) (h2 y), fun i hi => ?_⟩
    cases i with
    | zero => simpa using ⟨hv, hv2⟩
    | succ i => have := h3 i (by simpa using hi); rw [show o + (i + 1) * 2 = o + 2 + i * 2 by omega]; simpa using this
  | [] :: r, o, hc, h => by simp [cfR, cfE, GS] at hc
  | [_] :: r, o, hc, h => by simp [cfR, cfE, GS] at hc
  | (x :: y :: z :: u) :: r, o, hc, h => by simp [cfR, cfE, GS] at hc
/-- a slice of strings among arguments. -/
theorem open_strs {w : World} {v : Value} {x : G} (hc : G.cf GS GN (.sl 2) x) (h : G.rdW w v x) :
    ∃ (A : Option Addr) (c : Nat) (l : List ByteArray), v = .slice A l.length c ∧ l.length ≤ c ∧ c ≤ maxLen ∧ RdStr w w.heap.size A l ∧ (∀ s ∈ l, s.size ≤ maxLen) := by
  obtain ⟨l, rfl, hn, hR⟩ := cf_sl hc
  simp only [G.rdW, G.rd] at h
  obtain ⟨A, c, rfl, h1, h2, h3⟩ := h
  by_cases h0 : 0 < l.length
  · obtain ⟨b, o, rfl, hb, hr⟩ := h3 h0
    obtain ⟨ss, e, hs, hcs⟩ := strs_of l o hR hr
    exact ⟨_, c, ss, by rw [e], by omega, h2, fun _ => ⟨b, o, rfl, hb, hcs⟩, hs⟩
  · have e : l = [] := List.eq_nil_of_length_eq_zero (by omega)
    subst e
    exact ⟨A, c, [], rfl, h1, h2, RdStr.nil, by simp⟩
/-- a slice of reports among arguments. -/
theorem open_reps {w : World} {v : Value} {x : G} (hc : G.cf GS GN (.sl 1) x) (h : G.rdW w v x) :
    ∃ (A : Option Addr) (c : Nat) (l : List Rep), v = .slice A l.length c ∧ l.length ≤ c ∧ c ≤ maxLen ∧ RdRep w w.heap.size A l ∧ (∀ s ∈ l, s.ok) ∧ l.length ≤ reachBytes / 24 := by
  obtain ⟨l, rfl, hn, hR⟩ := cf_sl hc
  simp only [G.rdW, G.rd] at h
  obtain ⟨A, c, rfl, h1, h2, h3⟩ := h
  by_cases h0 : 0 < l.length
  · obtain ⟨b, o, rfl, hb, hr⟩ := h3 h0
    obtain ⟨ss, e, hs, hcs⟩ := reps_of l o hR hr
    exact ⟨_, c, ss, by rw [e], by omega, h2, fun _ => ⟨b, o, rfl, hb, hcs⟩, hs, by rw [e]; exact hn⟩
  · have e : l = [] := List.eq_nil_of_length_eq_zero (by omega)
    subst e
    exact ⟨A, c, [], rfl, h1, h2, RdRep.nil, by simp, by simp⟩
theorem css_of {w : World} {b : Nat} : ∀ (l : List (List G)) (o : Nat), cfR GS GN (GS 0) l → rdR w (fun b => b < w.heap.size) b o l →
    ∃ ss : List CsV, ss.length = l.length ∧ (∀ s ∈ ss, OkC s.c) ∧ ∀ i (hi : i < ss.length), w.cell? ⟨b, o + i * 3, none⟩ = some (.string ss[i].c.unit) ∧ w.cell? ⟨b, o + i * 3 + 1, none⟩ = some ss[i].n.val ∧ w.cell? ⟨b, o + i * 3 + 2, none⟩ = some ss[i].x.val ∧ ss[i].rd w w.heap.size
  | [], _, _, _ => ⟨[], rfl, by simp, fun i hi => absurd hi (by simp)⟩
  | [x, y, z] :: r, o, hc, h => by
    simp only [cfR] at hc
    simp only [rdR] at h
    obtain ⟨ss, h1, h2, h3⟩ := css_of r (o + 3) hc.2 h.2
    have c0 := hc.1
    simp only [GS, cfE] at c0
    obtain ⟨s, rfl, hs⟩ := cf_str c0.1
    have r0 := h.1
    simp only [rdE] at r0
    obtain ⟨⟨v, hv, hx⟩, ⟨v2, hv2, hy⟩, ⟨v3, hv3, hz⟩, _⟩ := r0
    simp only [G.rd] at hx
    subst hx
    obtain ⟨An, cn, ln, rfl, n1, n2, n3, n4, _⟩ := open_reps c0.2.1 (by unfold G.rdW; exact hy)
    obtain ⟨Ax, cx, lx, rfl, x1, x2, x3, x4⟩ := open_strs c0.2.2.1 (by unfold G.rdW; exact hz)
    refine ⟨⟨⟨s, ln, lx⟩, ⟨An, ln.length, cn⟩, ⟨Ax, lx.length, cx⟩⟩ :: ss, by simp [h1], fun y hy => (List.mem_cons.1 hy).elim (fun e => e ▸ ⟨hs, n4, x4⟩) (h2 y), fun i hi => ?_⟩
    cases i with
    | zero => simpa using ⟨hv, hv2, hv3, ⟨rfl, n1, n2, n3, rfl, x1, x2, x3⟩⟩
    | succ i => have := h3 i (by simpa using hi); rw [show o + (i + 1) * 3 = o + 3 + i * 3 by omega]; simpa using this
  | [] :: r, o, hc, h => by simp [cfR, cfE, GS] at hc
  | [_] :: r, o, hc, h => by simp [cfR, cfE, GS] at hc
  | [_, _] :: r, o, hc, h => by simp [cfR, cfE, GS] at hc
  | (x :: y :: z :: u :: v) :: r, o, hc, h => by simp [cfR, cfE, GS] at hc
/-- a slice of causes among arguments. -/
theorem open_css {w : World} {v : Value} {x : G} (hc : G.cf GS GN (.sl 0) x) (h : G.rdW w v x) :
    ∃ (A : Option Addr) (c : Nat) (l : List CsV), v = .slice A l.length c ∧ l.length ≤ c ∧ c ≤ maxLen ∧ RdCs w w.heap.size A l ∧ (∀ s ∈ l, OkC s.c) ∧ l.length ≤ 2199023255552 := by
  obtain ⟨l, rfl, hn, hR⟩ := cf_sl hc
  have hn : l.length ≤ 2199023255552 := Nat.le_trans hn (by decide)
  simp only [G.rdW, G.rd] at h
  obtain ⟨A, c, rfl, h1, h2, h3⟩ := h
  by_cases h0 : 0 < l.length
  · obtain ⟨b, o, rfl, hb, hr⟩ := h3 h0
    obtain ⟨ss, e, hs, hcs⟩ := css_of l o hR hr
    exact ⟨_, c, ss, by rw [e], by omega, h2, fun _ => ⟨b, o, rfl, hb, hcs⟩, hs, by omega⟩
  · have e : l = [] := List.eq_nil_of_length_eq_zero (by omega)
    subst e
    exact ⟨A, c, [], rfl, h1, h2, RdCs.nil, by simp, by simp⟩
section
variable {H : Type} {enc : TypeId × Value → H} {W : World} {v : Value} {d : DataW H} {p : List MemPlace} {r : Reach} {b0 : Nat}
set_option maxRecDepth 100000 in
theorem arg_css (hw : Value.okWide Tryz.prog W r b0 22 v) (h : DataW.Trod enc Tryz.prog W 0 (fun _ => true) true 22 v d p) (hz : ∀ n ∈ d.weights Tryz.prog 22, n ≤ reachBytes) :
    ∃ (A : Option Addr) (c : Nat) (l : List CsV), v = .slice A l.length c ∧ l.length ≤ c ∧ c ≤ maxLen ∧ RdCs W W.heap.size A l ∧ (∀ s ∈ l, OkC s.c) ∧ l.length ≤ 2199023255552 := by
  obtain ⟨a0, len0, cap0, rfl⟩ := okWide_slice Tryz.underlying22 hw
  obtain ⟨n, h⟩ := h
  obtain ⟨x, hc, hr⟩ := open_g tabG n (.sl 0) _ (d, p) (by simp [K.known]) h hz
  exact open_css hc hr
set_option maxRecDepth 100000 in
theorem arg_reps (hw : Value.okWide Tryz.prog W r b0 23 v) (h : DataW.Trod enc Tryz.prog W 0 (fun _ => true) true 23 v d p) (hz : ∀ n ∈ d.weights Tryz.prog 23, n ≤ reachBytes) :
    ∃ (A : Option Addr) (c : Nat) (l : List Rep), v = .slice A l.length c ∧ l.length ≤ c ∧ c ≤ maxLen ∧ RdRep W W.heap.size A l ∧ (∀ s ∈ l, s.ok) ∧ l.length ≤ 10000000000000 := by
  obtain ⟨a0, len0, cap0, rfl⟩ := okWide_slice Tryz.underlying23 hw
  obtain ⟨n, h⟩ := h
  obtain ⟨x, hc, hr⟩ := open_g tabG n (.sl 1) _ (d, p) (by simp [K.known]) h hz
  obtain ⟨A, c, l, h1, h2, h3, h4, h5, h6⟩ := open_reps hc hr
  exact ⟨A, c, l, h1, h2, h3, h4, h5, Nat.le_trans h6 (by decide)⟩
end
end Go.Proofs.YtknojjlfgjkbiaaGreatDoor
/- MaintWhy and MaintMore in plain words. -/
namespace Go.Proofs.YtknojjlfgjkbiaaGreatDoor

theorem find_upTo {L : List CsV} {u : ByteArray} (p : CsV → Bool) : ∀ n, (∃ y, (upTo L u n).find? (fun y => p y.x) = some y ∧ y.i < n ∧ p y.x = true ∧ ∀ j x, j < y.i → L[j]? = some x → x.c.unit = u → p x = false) ∨
    ((upTo L u n).find? (fun y => p y.x) = none ∧ ∀ j x, j < n → L[j]? = some x → x.c.unit = u → p x = false)
  | 0 => .inr ⟨rfl, fun j x h => absurd h (by omega)⟩
  | n + 1 => by
    have ih := find_upTo (L := L) (u := u) p n
    cases hx : L[n]? with
    | none =>
      have e : upTo L u (n + 1) = upTo L u n := by
        simp only [upTo]
        split
        · rename_i y hy; rw [hx] at hy; cases hy
        · rfl
      rw [e]
      rcases ih with ⟨y, h1, h2, h3, h4⟩ | ⟨h1, h2⟩
      · exact .inl ⟨y, h1, by omega, h3, h4⟩
      · refine .inr ⟨h1, fun j x hj hl hu => ?_⟩
        by_cases he : j = n
        · subst he; rw [hx] at hl; cases hl
        · exact h2 j x (by omega) hl hu
    | some x0 =>
      by_cases hu : x0.c.unit = u
      · rw [upTo_yes hx hu, List.find?_append]
        rcases ih with ⟨y, h1, h2, h3, h4⟩ | ⟨h1, h2⟩
        · exact .inl ⟨y, by rw [h1]; rfl, by omega, h3, h4⟩
        · rw [h1]
          cases hp : p x0 with
          | true => exact .inl ⟨⟨n, x0, hx, hu⟩, by simp [hp], by simp, hp, fun j x hj => h2 j x hj⟩
          | false =>
            refine .inr ⟨by simp [hp], fun j x hj hl hu2 => ?_⟩
            by_cases he : j = n
            · subst he; rw [hx] at hl; injection hl with hl; subst hl; exact hp
            · exact h2 j x (by omega) hl hu2
      · rw [upTo_no hx hu]
        rcases ih with ⟨y, h1, h2, h3, h4⟩ | ⟨h1, h2⟩
        · exact .inl ⟨y, h1, by omega, h3, h4⟩
        · refine .inr ⟨h1, fun j x hj hl hu2 => ?_⟩
          by_cases he : j = n
          · subst he; rw [hx] at hl; injection hl with hl; subst hl; exact absurd hu2 hu
          · exact h2 j x (by omega) hl hu2
/-- a verdict on a unit. -/
def VerOk (L : List CsV) (reps : List Rep) (acc : List ByteArray) (u : ByteArray) (x : Ver) : Prop :=
  x.unit = u ∧ ∃ (k : Nat) (h : k < L.length), x.cause = k ∧ L[k].c.unit = u ∧ holdB reps acc L[k].c = true ∧ x.reps = L[k].c.needs ∧ ∀ j (hj : j < k), L[j].c.unit = u → holdB reps acc L[j].c = false
theorem verOf_ok {L : List CsV} {reps : List Rep} {acc : List ByteArray} {u : ByteArray} (h : hitV (csOf L) reps acc u = true) : ∃ x, verOf L reps acc u = [x] ∧ VerOk L reps acc u x := by
  obtain ⟨c, hc, hu, hh⟩ := hit_iff.1 h
  obtain ⟨x0, hx0, rfl⟩ := List.mem_map.1 hc
  obtain ⟨k0, hk0, rfl⟩ := List.getElem_of_mem hx0
  rcases find_upTo (L := L) (u := u) (fun x => holdB reps acc x.c) L.length with ⟨y, h1, h2, h3, h4⟩ | ⟨h1, h2⟩
  · obtain ⟨hyl, hye⟩ := List.getElem?_eq_some_iff.1 y.h
    refine ⟨⟨u, y.i, y.x.c.needs⟩, by unfold verOf; rw [h1], rfl, y.i, h2, rfl, by rw [hye]; exact y.hu, by rw [hye]; exact h3, by rw [hye], fun j hj hju => h4 j L[j] hj (List.getElem?_eq_getElem _) hju⟩
  · have := h2 k0 L[k0] hk0 (List.getElem?_eq_getElem hk0) hu
    have h9 : holdB reps acc L[k0].c = true := hh
    rw [this] at h9
    cases h9
theorem verL_ok {L : List CsV} {reps : List Rep} {acc : List ByteArray} : ∀ (l : List ByteArray), (∀ u ∈ l, hitV (csOf L) reps acc u = true) → (verL L reps acc l).length = l.length ∧ ∀ i (h : i < (verL L reps acc l).length) (h' : i < l.length), VerOk L reps acc l[i] (verL L reps acc l)[i]
  | [], _ => ⟨rfl, fun i h => absurd h (by simp [verL])⟩
  | u :: l, h => by
    obtain ⟨h1, h2⟩ := verL_ok l fun x hx => h x (by simp [hx])
    obtain ⟨x, hx, ho⟩ := verOf_ok (h u (by simp))
    have e : verL L reps acc (u :: l) = x :: verL L reps acc l := by
      show verOf L reps acc u ++ verL L reps acc l = _
      rw [hx]; rfl
    rw [e]
    refine ⟨by simp [h1], fun i hi hi' => ?_⟩
    cases i with
    | zero => exact ho
    | succ i => exact h2 i (by simpa using hi) (by simpa using hi')
/-- the verdicts of well-founded causes. -/
theorem verV_ok {L : List CsV} {reps : List Rep} (hok : okV (csOf L) = true) : (verV L reps).length = (accV (csOf L) reps).length ∧ ∀ i (h : i < (verV L reps).length) (h' : i < (accV (csOf L) reps).length), VerOk L reps (accV (csOf L) reps) (accV (csOf L) reps)[i] (verV L reps)[i] := by
  have e : verV L reps = verL L reps (accV (csOf L) reps) (accV (csOf L) reps) := by unfold verV; rw [if_pos hok]
  rw [e]
  exact verL_ok _ fun u hu => (acc_right reps hok u (acc_sub _ reps u hu)).1 hu
/-- a report is explained by a cause that holds. -/
def explB (L : List CsV) (reps : List Rep) (acc : List ByteArray) (r : Rep) : Bool := L.any fun x => (x.c.needs.any fun y => decide (y = r)) && holdB reps acc x.c
theorem expl_iff {L : List CsV} {reps : List Rep} {acc : List ByteArray} {r : Rep} : explB L reps acc r = true ↔ ∃ x ∈ L, r ∈ x.c.needs ∧ holdB reps acc x.c = true := by
  unfold explB
  simp only [List.any_eq_true, Bool.and_eq_true, decide_eq_true_eq]
  constructor
  · rintro ⟨x, hx, ⟨y, hy, rfl⟩, hh⟩; exact ⟨x, hx, hy, hh⟩
  · rintro ⟨x, hx, hy, hh⟩; exact ⟨x, hx, ⟨r, hy, rfl⟩, hh⟩
theorem open_expl {L : List CsV} {reps : List Rep} (hok : okV (csOf L) = true) {r : Rep} (hr : r ∈ reps) : openB L reps (accV (csOf L) reps) (accV (csOf L) reps) r ↔ explB L reps (accV (csOf L) reps) r = false := by
  unfold openB
  rw [← Bool.not_eq_true, expl_iff]
  constructor
  · rintro ⟨_, h⟩ ⟨x, hx, hn, hh⟩
    refine h ⟨x.c.unit, ?_, mem_explV.2 ⟨x.c, List.mem_map_of_mem hx, rfl, hh, hn⟩⟩
    exact (acc_right reps hok _ (mem_units.2 ⟨x.c, List.mem_map_of_mem hx, rfl⟩)).2 (hit_iff.2 ⟨x.c, List.mem_map_of_mem hx, rfl, hh⟩)
  · intro h
    refine ⟨hr, fun ⟨u, _, hx⟩ => h ?_⟩
    obtain ⟨c, hc, _, hh, hn⟩ := mem_explV.1 hx
    obtain ⟨x, hx, rfl⟩ := List.mem_map.1 hc
    exact ⟨x, hx, hn, hh⟩
/-- the reports turned round, each twice. -/
def turnV (reps : List Rep) : Nat → List Rep
  | 0 => []
  | k + 1 => match reps[reps.length - 1 - k]? with
    | some r => turnV reps k ++ [r, r]
    | none => turnV reps k
theorem turn_len (reps : List Rep) : ∀ k, k ≤ reps.length → (turnV reps k).length = 2 * k
  | 0, _ => rfl
  | k + 1, h => by
    simp only [turnV]
    rw [List.getElem?_eq_getElem (by omega)]
    simp [turn_len reps k (by omega)]
    omega
theorem turn_mem (reps : List Rep) : ∀ k, k ≤ reps.length → ∀ r, r ∈ turnV reps k ↔ ∃ i, reps.length - k ≤ i ∧ reps[i]? = some r
  | 0, _, r => by
    simp only [turnV, List.not_mem_nil, false_iff]
    rintro ⟨i, h1, h2⟩
    have := (List.getElem?_eq_some_iff.1 h2).1
    omega
  | k + 1, h, r => by
    have ih := turn_mem reps k (by omega) r
    simp only [turnV]
    rw [List.getElem?_eq_getElem (by omega)]
    simp only [List.mem_append, List.mem_cons, List.not_mem_nil, or_false, or_self, ih]
    constructor
    · rintro (⟨i, h1, h2⟩ | e)
      · exact ⟨i, by omega, h2⟩
      · exact ⟨reps.length - 1 - k, by omega, by rw [List.getElem?_eq_getElem (by omega), e]⟩
    · rintro ⟨i, h1, h2⟩
      by_cases e : i = reps.length - 1 - k
      · subst e
        rw [List.getElem?_eq_getElem (by omega)] at h2
        injection h2 with h2
        exact .inr h2.symm
      · exact .inl ⟨i, by omega, h2⟩
theorem turn_all (reps : List Rep) (r : Rep) : r ∈ turnV reps reps.length ↔ r ∈ reps := by
  rw [turn_mem reps _ (Nat.le_refl _)]
  constructor
  · rintro ⟨i, _, h⟩; exact List.mem_of_getElem? h
  · intro h
    obtain ⟨i, hi, rfl⟩ := List.getElem_of_mem h
    exact ⟨i, by omega, List.getElem?_eq_getElem hi⟩
theorem acc_turn (l : List Cs) (reps : List Rep) : accV l (turnV reps reps.length) = accV l reps := accL_congr (fun r => turn_all reps r) l _ _
/-- a cause without its exclusions. -/
def bare (x : CsV) : CsV := ⟨⟨x.c.unit, x.c.needs, []⟩, x.n, ⟨none, 0, 0⟩⟩
theorem bare_excl {L : List CsV} : ∀ c ∈ csOf (L.map bare), c.excl = [] := fun c hc => by
  obtain ⟨x, hx, rfl⟩ := List.mem_map.1 hc
  obtain ⟨y, _, rfl⟩ := List.mem_map.1 hx
  rfl
end Go.Proofs.YtknojjlfgjkbiaaGreatDoor
