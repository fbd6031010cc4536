/- Texts V3 W0 X0 X1, joined. -/
import Derived.Test.YtknojjlfgjkbiaaGreatDoorM4
import Derived.Test.YtknojjlfgjkbiaaGreatDoorH33
import Derived.Test.YtknojjlfgjkbiaaGreatDoorH06
import Derived.Test.YtknojjlfgjkbiaaGreatDoorH13
set_option linter.unusedSimpArgs false
set_option linter.unusedVariables false
set_option linter.unusedSectionVars false
/- The reference's Open. -/
namespace Go.Proofs.YtknojjlfgjkbiaaGreatDoor
open Go.ChangeShapes Go.WideShapes Go.ChangeAt Go.RowKit
attribute [local go_sem] Oper.semAt_some

set_option maxRecDepth 100000 in
set_option maxHeartbeats 4000000 in
theorem rOpen_c (L : List CsV) (reps : List Rep) (A : Option Addr) (c : Nat) (A1 : Option Addr) (c1 : Nat) (w : World) (h : RdCs w w.heap.size A L) (hr : RdRep w w.heap.size A1 reps) (hl : L.length ≤ 1000) (hl2 : reps.length ≤ 100000000) (hn : ∀ x ∈ L, x.c.needs.length ≤ 1000) :
    Calls Tryz.prog 23 #[.slice A L.length c, .slice A1 reps.length c1] w fun e w' => ∃ A' c' acc, e = .returned (.tuple #[.slice A' (openR (csOf L) reps acc).length c', .bool (okV (csOf L))]) ∧ acc = (if okV (csOf L) = true then accV (csOf L) reps else []) ∧ RdRep w' w'.heap.size A' (openR (csOf L) reps acc) ∧ Below w.heap.size w w' := by
  have ha := rAccused_c L reps A c A1 c1 w h hr (by omega) (by omega)
  have hal : ∀ acc, acc = (if okV (csOf L) = true then accV (csOf L) reps else []) → acc.length ≤ 1000 := fun acc he => by
    rw [he]
    split
    · have h1 := accL_len (csOf L) reps (orderV (csOf L)) []
      have h2 := order_len (csOf L); have h3 := len_units (csOf L); rw [csOf_len] at h3
      unfold accV
      simp at h1
      omega
    · simp
  have H := Lib.hid h
  have Hr := Lib.hid hr
  have Ha := Lib.hid ha
  have Hal := Lib.hid hal
  have Hn := Lib.hid hn
  clear h hr ha hal hn
  generalize (if okV (csOf L) = true then accV (csOf L) reps else []) = acc0 at *
  generalize okV (csOf L) = okb at *
  go_enter Tryz.func23, Tryz.ntmps23
  go_wp2_with fail
  refine Ha.out.mono ?_
  rintro e w1 ⟨Ao, co, acc, rfl, hacc, hro, hb1⟩
  have hlen := Hal.out acc hacc
  have he := rExplained_c L reps acc acc A c A1 c1 Ao co Ao co w1 (H.out.below hb1) (Hr.out.below hb1) hro hro hl Hn.out (by omega) (by omega) (by omega)
  have Hacc := Lib.hid hacc
  have Hro := Lib.hid hro
  have HB1 := Lib.hid hb1
  have He := Lib.hid he
  clear Ha Hal hacc hro hb1 he
  go_wp2_with fail
  refine He.out.mono ?_
  rintro e w2 ⟨Ae, ce, rfl, hre, hle, hb2⟩
  have hls := rLess_c reps (explR (csOf L) reps acc acc) A1 c1 Ae ce w2 (Hr.out.below (HB1.out.trans (hb2.mono HB1.out.size))) hre hl2 (by omega)
  have Hls := Lib.hid hls
  have HB2 := Lib.hid (HB1.out.trans (hb2.mono HB1.out.size))
  have hll := lessR_len reps (explR (csOf L) reps acc acc)
  have hso : ∀ A c w, RdRep w w.heap.size A (lessR reps (explR (csOf L) reps acc acc)) → _ := fun A c w h => rSorted_c (lessR reps (explR (csOf L) reps acc acc)) A c w h (by omega)
  have Hso := Lib.hid hso
  have Hop : Hid (openR (csOf L) reps acc = sortR (lessR reps (explR (csOf L) reps acc acc))) := Lib.hid rfl
  clear He hre hb2 hls hso
  generalize explR (csOf L) reps acc acc = ex at *
  generalize lessR reps ex = ls at *
  generalize hop : openR (csOf L) reps acc = op at *
  have Hx := Lib.hid hop
  clear hop
  go_wp2_with fail
  refine Hls.out.mono ?_
  rintro e w3 ⟨Al, cl, rfl, hrl, hb3⟩
  have hso := Hso.out Al cl w3 hrl
  rw [← Hop.out] at hso
  have Hs3 := Lib.hid hso
  have HB3 := Lib.hid (HB2.out.trans (hb3.mono HB2.out.size))
  clear Hls Hso hso hrl hb3
  go_wp2_with fail
  refine Hs3.out.mono ?_
  rintro e w4 ⟨As, cs, rfl, hrs, hb4⟩
  have HR := Lib.hid (And.intro hrs (HB3.out.trans (hb4.mono HB3.out.size)))
  clear Hs3 hrs hb4
  go_wp2_with fail
  refine bodyPost_ret (results_tmp2 rfl _ _ _) rfl ?_
  exact ⟨As, cs, acc, by rw [Hx.out]; first | done | rfl, Hacc.out, by rw [Hx.out]; exact HR.out.1, HR.out.2⟩
end Go.Proofs.YtknojjlfgjkbiaaGreatDoor
/- Arguments opened, with the datum's form. Printed by wip/gen/w0.py. -/
namespace Go.Proofs.YtknojjlfgjkbiaaGreatDoor
open Go.ChangeShapes Go.WideShapes Go.ChangeAt Go.RowKit
attribute [local go_sem] Oper.semAt_some

theorem strs_of2 {w : World} {Q : Nat → Prop} {b : Nat} : ∀ (l : List (List G)) (o : Nat), cfR GS GN (GS 2) l → rdR w Q b o l →
    ∃ ss : List ByteArray, ss.length = l.length ∧ (∀ s ∈ ss, s.size ≤ maxLen) ∧ (∀ i (hi : i < ss.length), w.cell? ⟨b, o + i, none⟩ = some (.string ss[i])) ∧ l = ss.map (fun s => [G.one (.string s)])
  | [], _, _, _ => ⟨[], rfl, by simp, fun i hi => absurd hi (by simp), rfl⟩
  | [x] :: r, o, hc, h => by
    simp only [cfR] at hc
    simp only [rdR] at h
    obtain ⟨ss, h1, h2, h3, h4⟩ := strs_of2 r (o + 1) hc.2 h.2
    have c0 := hc.1
    simp only [GS, cfE] at c0
    obtain ⟨s, rfl, hs⟩ := cf_str c0.1
    have r0 := h.1
    simp only [rdE, G.rd] at r0
    obtain ⟨⟨v, hv, rfl⟩, _⟩ := r0
    refine ⟨s :: ss, by simp [h1], fun y hy => (List.mem_cons.1 hy).elim (fun e => e ▸ hs) (h2 y), fun i hi => ?_, by subst h4; rfl⟩
    cases i with
    | zero => simpa using hv
    | succ i => have := h3 i (by simpa using hi); rw [show o + (i + 1) = o + 1 + i by omega]; simpa using this
  | [] :: r, o, hc, h => by simp [cfR, cfE, GS] at hc
  | (x :: y :: z) :: r, o, hc, h => by simp [cfR, cfE, GS] at hc
theorem reps_of2 {w : World} {Q : Nat → Prop} {b : Nat} : ∀ (l : List (List G)) (o : Nat), cfR GS GN (GS 1) l → rdR w Q b o l →
    ∃ ss : List Rep, ss.length = l.length ∧ (∀ s ∈ ss, s.ok) ∧ (∀ i (hi : i < ss.length), w.cell? ⟨b, o + i * 2, none⟩ = some (.string ss[i].unit) ∧ w.cell? ⟨b, o + i * 2 + 1, none⟩ = some (.int .i64 ss[i].code)) ∧ l = ss.map Rep.g
  | [], _, _, _ => ⟨[], rfl, by simp, fun i hi => absurd hi (by simp), rfl⟩
  | [x, y] :: r, o, hc, h => by
    simp only [cfR] at hc
    simp only [rdR] at h
    obtain ⟨ss, h1, h2, h3, h4⟩ := reps_of2 r (o + 2) hc.2 h.2
    have c0 := hc.1
    simp only [GS, cfE] at c0
    obtain ⟨s, rfl, hs⟩ := cf_str c0.1
    obtain ⟨n, rfl, hn⟩ := cf_int c0.2.1
    have r0 := h.1
    simp only [rdE, G.rd] at r0
    obtain ⟨⟨v, hv, rfl⟩, ⟨v2, hv2, rfl⟩, _⟩ := r0
    refine ⟨⟨s, n⟩ :: ss, by simp [h1], fun y hy => (List.mem_cons.1 hy).elim (fun e => e ▸ ⟨hs, hn⟩) (h2 y), fun i hi => ?_, by subst h4; rfl⟩
    cases i with
    | zero => simpa using ⟨hv, hv2⟩
    | succ i => have := h3 i (by simpa using hi); rw [show o + (i + 1) * 2 = o + 2 + i * 2 by omega]; simpa using this
  | [] :: r, o, hc, h => by simp [cfR, cfE, GS] at hc
  | [_] :: r, o, hc, h => by simp [cfR, cfE, GS] at hc
  | (x :: y :: z :: u) :: r, o, hc, h => by simp [cfR, cfE, GS] at hc
theorem open_strs2 {w : World} {v : Value} {x : G} (hc : G.cf GS GN (.sl 2) x) (h : G.rdW w v x) :
    ∃ (A : Option Addr) (c : Nat) (l : List ByteArray), v = .slice A l.length c ∧ l.length ≤ c ∧ c ≤ maxLen ∧ RdStr w w.heap.size A l ∧ (∀ s ∈ l, s.size ≤ maxLen) ∧ x = strG l := by
  obtain ⟨l, rfl, hn, hR⟩ := cf_sl hc
  simp only [G.rdW, G.rd] at h
  obtain ⟨A, c, rfl, h1, h2, h3⟩ := h
  by_cases h0 : 0 < l.length
  · obtain ⟨b, o, rfl, hb, hr⟩ := h3 h0
    obtain ⟨ss, e, hs, hcs, hml⟩ := strs_of2 l o hR hr
    exact ⟨_, c, ss, by rw [e], by omega, h2, fun _ => ⟨b, o, rfl, hb, hcs⟩, hs, by rw [hml]; rfl⟩
  · have e : l = [] := List.eq_nil_of_length_eq_zero (by omega)
    subst e
    exact ⟨A, c, [], rfl, h1, h2, RdStr.nil, by simp, rfl⟩
theorem open_reps2 {w : World} {v : Value} {x : G} (hc : G.cf GS GN (.sl 1) x) (h : G.rdW w v x) :
    ∃ (A : Option Addr) (c : Nat) (l : List Rep), v = .slice A l.length c ∧ l.length ≤ c ∧ c ≤ maxLen ∧ RdRep w w.heap.size A l ∧ (∀ s ∈ l, s.ok) ∧ l.length ≤ reachBytes / 24 ∧ x = repG l := by
  obtain ⟨l, rfl, hn, hR⟩ := cf_sl hc
  simp only [G.rdW, G.rd] at h
  obtain ⟨A, c, rfl, h1, h2, h3⟩ := h
  by_cases h0 : 0 < l.length
  · obtain ⟨b, o, rfl, hb, hr⟩ := h3 h0
    obtain ⟨ss, e, hs, hcs, hml⟩ := reps_of2 l o hR hr
    exact ⟨_, c, ss, by rw [e], by omega, h2, fun _ => ⟨b, o, rfl, hb, hcs⟩, hs, by rw [e]; exact hn, by rw [hml]; rfl⟩
  · have e : l = [] := List.eq_nil_of_length_eq_zero (by omega)
    subst e
    exact ⟨A, c, [], rfl, h1, h2, RdRep.nil, by simp, by simp, rfl⟩
theorem css_of2 {w : World} {b : Nat} : ∀ (l : List (List G)) (o : Nat), cfR GS GN (GS 0) l → rdR w (fun b => b < w.heap.size) b o l →
    ∃ ss : List CsV, ss.length = l.length ∧ (∀ s ∈ ss, OkC s.c) ∧ (∀ i (hi : i < ss.length), w.cell? ⟨b, o + i * 3, none⟩ = some (.string ss[i].c.unit) ∧ w.cell? ⟨b, o + i * 3 + 1, none⟩ = some ss[i].n.val ∧ w.cell? ⟨b, o + i * 3 + 2, none⟩ = some ss[i].x.val ∧ ss[i].rd w w.heap.size) ∧ l = (csOf ss).map CsG
  | [], _, _, _ => ⟨[], rfl, by simp, fun i hi => absurd hi (by simp), rfl⟩
  | [x, y, z] :: r, o, hc, h => by
    simp only [cfR] at hc
    simp only [rdR] at h
    obtain ⟨ss, h1, h2, h3, h4⟩ := css_of2 r (o + 3) hc.2 h.2
    have c0 := hc.1
    simp only [GS, cfE] at c0
    obtain ⟨s, rfl, hs⟩ := cf_str c0.1
    have r0 := h.1
    simp only [rdE] at r0
    obtain ⟨⟨v, hv, hx⟩, ⟨v2, hv2, hy⟩, ⟨v3, hv3, hz⟩, _⟩ := r0
    simp only [G.rd] at hx
    subst hx
    obtain ⟨An, cn, ln, rfl, n1, n2, n3, n4, _, rfl⟩ := open_reps2 c0.2.1 (by unfold G.rdW; exact hy)
    obtain ⟨Ax, cx, lx, rfl, x1, x2, x3, x4, rfl⟩ := open_strs2 c0.2.2.1 (by unfold G.rdW; exact hz)
    refine ⟨⟨⟨s, ln, lx⟩, ⟨An, ln.length, cn⟩, ⟨Ax, lx.length, cx⟩⟩ :: ss, by simp [h1], fun y hy => (List.mem_cons.1 hy).elim (fun e => e ▸ ⟨hs, n4, x4⟩) (h2 y), fun i hi => ?_, by subst h4; rfl⟩
    cases i with
    | zero => simpa using ⟨hv, hv2, hv3, ⟨rfl, n1, n2, n3, rfl, x1, x2, x3⟩⟩
    | succ i => have := h3 i (by simpa using hi); rw [show o + (i + 1) * 3 = o + 3 + i * 3 by omega]; simpa using this
  | [] :: r, o, hc, h => by simp [cfR, cfE, GS] at hc
  | [_] :: r, o, hc, h => by simp [cfR, cfE, GS] at hc
  | [_, _] :: r, o, hc, h => by simp [cfR, cfE, GS] at hc
  | (x :: y :: z :: u :: v) :: r, o, hc, h => by simp [cfR, cfE, GS] at hc
theorem open_css2 {w : World} {v : Value} {x : G} (hc : G.cf GS GN (.sl 0) x) (h : G.rdW w v x) :
    ∃ (A : Option Addr) (c : Nat) (l : List CsV), v = .slice A l.length c ∧ l.length ≤ c ∧ c ≤ maxLen ∧ RdCs w w.heap.size A l ∧ (∀ s ∈ l, OkC s.c) ∧ l.length ≤ 2199023255552 ∧ x = csG (csOf l) := by
  obtain ⟨l, rfl, hn, hR⟩ := cf_sl hc
  have hn : l.length ≤ 2199023255552 := Nat.le_trans hn (by decide)
  simp only [G.rdW, G.rd] at h
  obtain ⟨A, c, rfl, h1, h2, h3⟩ := h
  by_cases h0 : 0 < l.length
  · obtain ⟨b, o, rfl, hb, hr⟩ := h3 h0
    obtain ⟨ss, e, hs, hcs, hml⟩ := css_of2 l o hR hr
    exact ⟨_, c, ss, by rw [e], by omega, h2, fun _ => ⟨b, o, rfl, hb, hcs⟩, hs, by omega, by rw [hml]; rfl⟩
  · have e : l = [] := List.eq_nil_of_length_eq_zero (by omega)
    subst e
    exact ⟨A, c, [], rfl, h1, h2, RdCs.nil, by simp, by simp, rfl⟩
end Go.Proofs.YtknojjlfgjkbiaaGreatDoor
/- The program's Order, Accused and Open in the reference's words; causes by their datum. -/
namespace Go.Proofs.YtknojjlfgjkbiaaGreatDoor
open Go.ChangeShapes Go.WideShapes Go.ChangeAt Go.RowKit
attribute [local go_sem] Oper.semAt_some

theorem repG_inj {a b : List Rep} (h : a.map Rep.g = b.map Rep.g) : a = b := by
  refine List.map_inj_right ?_ |>.1 h
  rintro ⟨u, c⟩ ⟨u', c'⟩ e
  simp [Rep.g] at e
  simp [e]
theorem strG_inj {a b : List ByteArray} (h : strG a = strG b) : a = b := by
  unfold strG at h
  injection h with _ h
  refine List.map_inj_right ?_ |>.1 h
  intro u u' e
  simpa using e
theorem csG_inj {a b : List Cs} (h : csG a = csG b) : a = b := by
  unfold csG at h
  injection h with _ h
  refine List.map_inj_right ?_ |>.1 h
  rintro ⟨u, n, x⟩ ⟨u', n', x'⟩ e
  simp only [CsG, List.cons.injEq, G.one.injEq, Value.string.injEq, and_true] at e
  obtain ⟨rfl, e1, e2⟩ := e
  unfold repG at e1
  injection e1 with _ e1
  rw [repG_inj e1, strG_inj e2]
theorem Order_e (L : List CsV) (A : Option Addr) (c : Nat) (w : World) (h : RdCs w w.heap.size A L) (ok : ∀ x ∈ L, OkC x.c) (hl : L.length ≤ 100000) :
    Calls Tryz.prog 8 #[.slice A L.length c] w fun e w' => ∃ A' c', e = .returned (.tuple #[.slice A' (ordE L).length c', .int .i64 (if okV (csOf L) = true then 0 else 400)]) ∧ RdStr w' w'.heap.size A' (ordE L) ∧ Below w.heap.size w w' := by
  refine (Order_c L A c w h ok hl).mono fun e w' ⟨hb, he⟩ => ?_
  unfold ordE
  by_cases ho : okV (csOf L) = true
  · rw [if_pos ho] at he ⊢
    rw [if_pos ho]
    obtain ⟨A', c', rfl, hr⟩ := he
    exact ⟨A', c', rfl, hr, hb⟩
  · rw [if_neg ho] at he ⊢
    rw [if_neg ho]
    exact ⟨none, 0, he, RdStr.nil, hb⟩
/-- what the program's Open lists is what the reference's lists, where the causes have an order. -/
theorem Open_e (L : List CsV) (reps : List Rep) (A : Option Addr) (c : Nat) (A1 : Option Addr) (c1 : Nat) (w : World) (h : RdCs w w.heap.size A L) (ok : ∀ x ∈ L, OkC x.c) (hl : L.length ≤ 100000) (hn : ∀ x ∈ L, x.c.needs.length ≤ 1000)
    (hr : RdRep w w.heap.size A1 reps) (okr : ∀ r ∈ reps, r.ok) (hl2 : reps.length ≤ 100000000) :
    Calls Tryz.prog 11 #[.slice A L.length c, .slice A1 reps.length c1] w fun e w' => ∃ A' c' l, e = .returned (.tuple #[.slice A' l.length c', .int .i64 (if okV (csOf L) = true then 0 else 400)]) ∧ l = (if okV (csOf L) = true then openR (csOf L) reps (accV (csOf L) reps) else []) ∧ RdRep w' w'.heap.size A' l ∧ Below w.heap.size w w' := by
  refine (Open_c L reps A c A1 c1 w h ok hl hn hr okr hl2).mono fun e w' ⟨A', c', l, he, hrd, hnd, hasc, hm, hb⟩ => ⟨A', c', l, he, ?_, hrd, hb⟩
  by_cases ho : okV (csOf L) = true
  · rw [if_pos ho]
    exact open_ref hnd hasc fun x => by rw [hm, ho]; simp
  · rw [if_neg ho]
    refine List.eq_nil_iff_forall_not_mem.2 fun x hx => ?_
    exact ho ((hm x).1 hx).1
end Go.Proofs.YtknojjlfgjkbiaaGreatDoor
/- The program's Accused in one form. -/
namespace Go.Proofs.YtknojjlfgjkbiaaGreatDoor
open Go.ChangeShapes Go.WideShapes Go.ChangeAt Go.RowKit
attribute [local go_sem] Oper.semAt_some

/-- what Accused returns. -/
def accE (L : List CsV) (reps : List Rep) : List ByteArray := if okV (csOf L) = true then accV (csOf L) reps else []
def codeE (L : List CsV) : Int := if okV (csOf L) = true then 0 else 400
theorem Accused_e (L : List CsV) (reps : List Rep) (A : Option Addr) (c : Nat) (A2 : Option Addr) (c2 : Nat) (w : World) (h : RdCs w w.heap.size A L) (ok : ∀ x ∈ L, OkC x.c) (hl : L.length ≤ 100000)
    (hr : RdRep w w.heap.size A2 reps) (okr : ∀ r ∈ reps, r.ok) (hl2 : reps.length < maxLen) :
    Calls Tryz.prog 9 #[.slice A L.length c, .slice A2 reps.length c2] w fun e w' => ∃ A' c', e = .returned (.tuple #[.slice A' (accE L reps).length c', .int .i64 (codeE L)]) ∧ RdStr w' w'.heap.size A' (accE L reps) ∧ Below w.heap.size w w' ∧ (accE L reps).length ≤ c' ∧ c' ≤ maxLen := by
  refine (Accused_c3 L reps A c A2 c2 w h ok hl hr okr hl2).mono fun e w' ⟨hb, he⟩ => ?_
  unfold accE codeE
  by_cases ho : okV (csOf L) = true
  · rw [if_pos ho] at he ⊢
    rw [if_pos ho]
    obtain ⟨A', c', rfl, hr, hcap⟩ := he
    exact ⟨A', c', rfl, hr, hb, hcap⟩
  · rw [if_neg ho] at he ⊢
    rw [if_neg ho]
    exact ⟨none, 0, he, RdStr.nil, hb, by simp, by unfold maxLen; omega⟩
theorem accE_len (L : List CsV) (reps : List Rep) : (accE L reps).length ≤ L.length := by
  unfold accE
  split
  · refine Nat.le_trans (len_le _ _ (acc_nodup _ _) (acc_sub _ _)) (Nat.le_trans (len_units _) ?_)
    simp [csOf]
  · simp
end Go.Proofs.YtknojjlfgjkbiaaGreatDoor
