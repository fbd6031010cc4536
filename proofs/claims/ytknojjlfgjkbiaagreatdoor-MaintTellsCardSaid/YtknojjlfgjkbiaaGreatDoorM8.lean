/- Texts Y0 Y1 Y2 Y3, joined. -/
import Derived.Test.YtknojjlfgjkbiaaGreatDoorM5
import Derived.Test.YtknojjlfgjkbiaaGreatDoorH23
import Derived.Test.YtknojjlfgjkbiaaGreatDoorH31
import Derived.Test.YtknojjlfgjkbiaaGreatDoorM7
import Derived.Test.YtknojjlfgjkbiaaGreatDoorM6
import Derived.Test.YtknojjlfgjkbiaaGreatDoorM3
set_option linter.unusedSimpArgs false
set_option linter.unusedVariables false
set_option linter.unusedSectionVars false
/- MaintTells: the law function's walk, over `lists`. -/
namespace Go.Proofs.YtknojjlfgjkbiaaGreatDoor
open Go.ChangeShapes Go.WideShapes Go.ChangeAt Go.RowKit
attribute [local go_sem] Oper.semAt_some

set_option maxRecDepth 100000 in
set_option maxHeartbeats 4000000 in
theorem maintTells_of (L : List CsV) (n m : Nat) (A : Option Addr) (c : Nat) (A1 : Option Addr) (c1 : Nat) (A2 : Option Addr) (c2 : Nat) (w : World) (h : RdCs w w.heap.size A L) (hl : L.length ≤ 2199023255552) (hl2 : n ≤ 10000000000000)
    (hlists : largeV (csOf L) n = false → m ≤ 60 → Calls Tryz.prog 6 #[.slice A L.length c, .slice A1 n c1, .slice A2 m c2] w fun e w' => e = .returned (.bool true) ∧ Below w.heap.size w w') :
    Calls Tryz.prog 3 #[.slice A L.length c, .slice A1 n c1, .slice A2 m c2] w fun e w' => e = .returned (.bool true) ∧ Below w.heap.size w w' := by
  have hla := Large_c L A c A1 n c1 w h hl hl2
  have Hli := Lib.hid hlists
  have haw := fun W => awake_c W
  clear h hlists
  cases hlv : largeV (csOf L) n with
  | true =>
    rw [hlv] at hla
    have Hla := Lib.hid hla
    have Haw := Lib.hid haw
    clear hla hlv haw Hli
    go_enter Tryz.func3, Tryz.ntmps3
    go_wp2_with fail
    refine Hla.out.mono ?_
    rintro e w' ⟨rfl, hw'⟩
    subst hw'
    go_wp2_with fail
    refine (Haw.out _).mono ?_
    rintro e w1 ⟨rfl, hb1⟩
    have HB := Lib.hid hb1
    clear hb1
    go_wp2_with fail
    go_ret
    exact ⟨rfl, HB.out⟩
  | false =>
    rw [hlv] at hla
    have Hla := Lib.hid hla
    have Haw := Lib.hid haw
    have Hl2 := Lib.hid (Hli.out hlv)
    clear hla hlv haw Hli
    by_cases h60 : m ≤ 60
    · have hd1 : decide (m > 60) = false := decide_eq_false (by omega)
      have hd2 : decide ((m : Int) > 60) = false := decide_eq_false (by omega)
      have Hl3 := Lib.hid (Hl2.out h60)
      clear Hl2
      go_enter Tryz.func3, Tryz.ntmps3
      go_wp2_with fail
      refine Hla.out.mono ?_
      rintro e w' ⟨rfl, hw'⟩
      subst hw'
      go_wp2_with fail
      refine Hl3.out.mono ?_
      rintro e w1 ⟨rfl, hb1⟩
      have HB := Lib.hid hb1
      clear hb1
      go_wp2_with fail
      refine (Haw.out _).mono ?_
      rintro e w2 ⟨rfl, hb2⟩
      have HB2 := Lib.hid (HB.out.trans (hb2.mono HB.out.size))
      clear hb2
      go_wp2_with fail
      go_ret
      exact ⟨rfl, HB2.out⟩
    · have hd1 : decide (m > 60) = true := decide_eq_true (by omega)
      have hd2 : decide ((m : Int) > 60) = true := decide_eq_true (by omega)
      clear Hl2
      go_enter Tryz.func3, Tryz.ntmps3
      go_wp2_with fail
      refine Hla.out.mono ?_
      rintro e w' ⟨rfl, hw'⟩
      subst hw'
      go_wp2_with fail
      refine (Haw.out _).mono ?_
      rintro e w1 ⟨rfl, hb1⟩
      have HB := Lib.hid hb1
      clear hb1
      go_wp2_with fail
      go_ret
      exact ⟨rfl, HB.out⟩
end Go.Proofs.YtknojjlfgjkbiaaGreatDoor
/- lists (6): begun. -/
namespace Go.Proofs.YtknojjlfgjkbiaaGreatDoor
open Go.ChangeShapes Go.WideShapes Go.ChangeAt Go.RowKit
attribute [local go_sem] Oper.semAt_some

/-- causes read from a datum that is known. -/
theorem css_at {w : World} {v : Value} {l : List Cs} (hc : G.cf GS GN (.sl 0) (csG l)) (h : G.rdW w v (csG l)) : ∃ (A : Option Addr) (c : Nat) (L : List CsV), v = .slice A L.length c ∧ L.length ≤ c ∧ c ≤ maxLen ∧ RdCs w w.heap.size A L ∧ csOf L = l := by
  obtain ⟨A, c, L, h1, h2, h3, h4, _, _, h5⟩ := open_css2 hc h
  exact ⟨A, c, L, h1, h2, h3, h4, (csG_inj h5).symm⟩
theorem reps_at {w : World} {v : Value} {l : List Rep} (hc : G.cf GS GN (.sl 1) (repG l)) (h : G.rdW w v (repG l)) : ∃ (A : Option Addr) (c : Nat), v = .slice A l.length c ∧ l.length ≤ c ∧ c ≤ maxLen ∧ RdRep w w.heap.size A l := by
  obtain ⟨A, c, L, h1, h2, h3, h4, _, _, h5⟩ := open_reps2 hc h
  have e : l = L := by
    unfold repG at h5
    injection h5 with _ h5
    exact repG_inj h5
  subst e
  exact ⟨A, c, h1, h2, h3, h4⟩
end Go.Proofs.YtknojjlfgjkbiaaGreatDoor
/- lists (6): what its calls answer, in one place. -/
namespace Go.Proofs.YtknojjlfgjkbiaaGreatDoor
open Go.ChangeShapes Go.WideShapes Go.ChangeAt Go.RowKit
attribute [local go_sem] Oper.semAt_some

section
variable {L L' : List CsV}
theorem cs_len (h : csOf L' = csOf L) : L'.length = L.length := by
  have := congrArg List.length h
  simpa [csOf] using this
theorem cs_get (h : csOf L' = csOf L) {i : Nat} (h1 : i < L'.length) (h2 : i < L.length) : L'[i].c = L[i].c := by
  have h3 : (csOf L')[i]? = (csOf L)[i]? := by rw [h]
  simpa [csOf, h1, h2] using h3
theorem cs_mem (h : csOf L' = csOf L) {x : CsV} (hx : x ∈ L') : ∃ y ∈ L, y.c = x.c := by
  have h1 : x.c ∈ csOf L := by rw [← h]; exact List.mem_map_of_mem hx
  obtain ⟨y, hy, e⟩ := List.mem_map.1 h1
  exact ⟨y, hy, e⟩
end
theorem firstN_cs (L : List CsV) (reps : List Rep) (us : List ByteArray) (u : ByteArray) : firstN L reps us u = (csOf L).findIdx fun c => decide (c.unit = u) && holdB reps us c := by
  unfold firstN csOf
  rw [List.findIdx_map]
  rfl
/-- the program's verdicts are the reference's. -/
theorem ver_both {L L' : List CsV} {reps : List Rep} {vs : List VerV} {acc : List ByteArray} (hc : csOf L' = csOf L) (h : vs.map VerV.d = verV L' reps) (he : acc = if okV (csOf L) = true then accV (csOf L) reps else []) :
    vs.length = acc.length ∧ ∀ i (h1 : i < vs.length) (h2 : i < acc.length), vs[i].d = (vR L reps acc acc[i]).d := by
  by_cases hok : okV (csOf L) = true
  · rw [if_pos hok] at he
    have hok' : okV (csOf L') = true := by rw [hc]; exact hok
    have h12 := verV_ok (L := L') (reps := reps) hok'
    have ea : accV (csOf L') reps = acc := by rw [hc, he]
    rw [ea, ← h] at h12
    obtain ⟨h1, h2⟩ := h12
    rw [List.length_map] at h1
    refine ⟨h1, fun i hi hi2 => ?_⟩
    have v := h2 i (by rw [List.length_map]; exact hi) hi2
    rw [List.getElem_map] at v
    obtain ⟨hk, e1, e2, e3⟩ := ver_first v
    have hfi : firstN L' reps acc acc[i] = firstN L reps acc acc[i] := by rw [firstN_cs, firstN_cs, hc]
    have hk2 : firstN L reps acc acc[i] < L.length := by rw [← hfi, ← cs_len hc]; exact hk
    rw [vR_at hk2 rfl]
    have e4 : L'[firstN L' reps acc acc[i]].c = L[firstN L reps acc acc[i]].c := by
      simp only [hfi]
      exact cs_get hc _ _
    rw [e4] at e2
    rw [hfi] at e1
    revert e1 e2 e3
    generalize vs[i].d = x
    rcases x with ⟨a, b, c⟩
    intro e1 e2 e3
    simp only at e1 e2 e3
    subst e1 e2 e3
    rfl
  · rw [if_neg hok] at he
    subst he
    have e : verV L' reps = [] := by unfold verV; rw [if_neg (by rw [hc]; exact hok)]
    rw [e] at h
    have e2 : vs = [] := List.map_eq_nil_iff.1 h
    subst e2
    exact ⟨rfl, fun i h => absurd h (by simp)⟩
/-- the program's open reports. -/
def openE (L : List CsV) (reps : List Rep) : List Rep := if okV (csOf L) = true then openR (csOf L) reps (accV (csOf L) reps) else []
theorem openR_len (l : List Cs) (reps : List Rep) (us : List ByteArray) : (openR l reps us).length ≤ reps.length := by
  have h1 := sortR_len (lessR reps (explR l reps us us)) []
  have h2 : (lessR reps (explR l reps us us)).length ≤ reps.length := List.length_filter_le _ _
  simp only [List.length_nil, Nat.zero_add] at h1
  exact Nat.le_trans h1 h2
theorem ordE_len (L : List CsV) : (ordE L).length ≤ L.length := by
  unfold ordE
  split
  · have h1 := order_len (csOf L)
    have h2 := len_units (csOf L)
    rw [csOf_len] at h2
    omega
  · simp
theorem accE_size {L : List CsV} (ok : ∀ x ∈ L, OkC x.c) (reps : List Rep) : ∀ u ∈ accE L reps, u.size ≤ maxLen := fun x hx => by
  unfold accE at hx
  split at hx
  · have h1 := acc_sub (csOf L) reps x hx
    rw [mem_units] at h1
    obtain ⟨c, hc, rfl⟩ := h1
    obtain ⟨y, hy, rfl⟩ := List.mem_map.1 hc
    exact (ok y hy).u
  · cases hx
/-- arguments that the law looks at. -/
structure ArgsOk (L : List CsV) (reps : List Rep) (us : List ByteArray) : Prop where
  ok : ∀ x ∈ L, OkC x.c
  okr : ∀ r ∈ reps, r.ok
  oks : ∀ u ∈ us, u.size ≤ maxLen
  l : L.length ≤ 60
  r : reps.length ≤ 60
  u : us.length ≤ 60
  n : ∀ x ∈ L, x.c.needs.length ≤ 1000
/-- three arguments in memory. -/
structure Trip (L : List CsV) (reps : List Rep) (us : List ByteArray) (v0 v1 v2 : Value) (w : World) : Prop where
  a : ∃ A c, v0 = .slice A L.length c ∧ RdCs w w.heap.size A L
  b : ∃ A c, v1 = .slice A reps.length c ∧ RdRep w w.heap.size A reps
  d : ∃ A c, v2 = .slice A us.length c ∧ RdStr w w.heap.size A us ∧ us.length ≤ c ∧ c ≤ maxLen
theorem Trip.next {L : List CsV} {reps : List Rep} {us : List ByteArray} {v0 v1 v2 : Value} {w w' : World} (h : Trip L reps us v0 v1 v2 w) (hb : Below w.heap.size w w') : Trip L reps us v0 v1 v2 w' where
  a := let ⟨A, c, e, h⟩ := h.a; ⟨A, c, e, h.below hb⟩
  b := let ⟨A, c, e, h⟩ := h.b; ⟨A, c, e, h.below hb⟩
  d := let ⟨A, c, e, h, h2⟩ := h.d; ⟨A, c, e, h.below hb, h2⟩
/-- the arguments and their copies in memory. -/
structure Sc (L L' : List CsV) (reps : List Rep) (us : List ByteArray) (v0 v1 v2 V0 V1 V2 : Value) (w : World) : Prop where
  t : Trip L reps us v0 v1 v2 w
  t' : Trip L' reps us V0 V1 V2 w
  r0 : G.rdW w v0 (csG (csOf L))
  r1 : G.rdW w v1 (repG reps)
  l0 : G.ldW KM w V0 (csG (csOf L))
  l1 : G.ldW KM w V1 (repG reps)
theorem Sc.next {L L' : List CsV} {reps : List Rep} {us : List ByteArray} {v0 v1 v2 V0 V1 V2 : Value} {w w' : World} (h : Sc L L' reps us v0 v1 v2 V0 V1 V2 w) (hb : Below w.heap.size w w') : Sc L L' reps us v0 v1 v2 V0 V1 V2 w' where
  t := h.t.next hb
  t' := h.t'.next hb
  r0 := h.r0.next hb
  r1 := h.r1.next hb
  l0 := h.l0.next hb
  l1 := h.l1.next hb
/-- the program's verdicts in memory. -/
structure PVer (W W' : World) (al : List ByteArray) (rs : List VerV) (v : Value) (vs : List VerV) : Prop where
  below : Below W.heap.size W W'
  row : W'.ownsRow W.heap.size 60 3 v al.length (vs.flatMap VerV.cells)
  subs : ∀ x ∈ vs, W'.ownsRow W.heap.size 32 2 (.slice x.s.a x.s.n x.s.c) x.d.reps.length (x.d.reps.flatMap Rep.cells)
  len : ∀ x ∈ vs, x.s.n = x.d.reps.length
  apart : vs.Pairwise (fun x y : VerV => (Value.slice x.s.a x.s.n x.s.c).ownBlock = none ∨ (Value.slice x.s.a x.s.n x.s.c).ownBlock ≠ (Value.slice y.s.a y.s.n y.s.c).ownBlock)
  n : vs.length = al.length
  same : ∀ i (h1 : i < vs.length) (h2 : i < rs.length), vs[i].d = rs[i].d
/-- what the calls of lists answer. -/
structure Kt (v0 v1 v2 V0 V1 V2 : Value) (S : World → Prop) (ol al : List ByteArray) (pl : List Rep) (rs : List VerV) (cd : Int) (okb b1 b2 : Bool) : Prop where
  next : ∀ W W', S W → Below W.heap.size W W' → S W'
  order : ∀ W, S W → Calls Tryz.prog 8 #[V0] W fun e w' => ∃ A c, e = .returned (.tuple #[.slice A ol.length c, .int .i64 cd]) ∧ RdStr w' w'.heap.size A ol ∧ Below W.heap.size W w'
  rorder : ∀ W, S W → Calls Tryz.prog 21 #[v0] W fun e w' => ∃ A c, e = .returned (.tuple #[.slice A ol.length c, .bool okb]) ∧ RdStr w' w'.heap.size A ol ∧ Below W.heap.size W w'
  acc : ∀ W, S W → Calls Tryz.prog 9 #[V0, V1] W fun e w' => ∃ A c, e = .returned (.tuple #[.slice A al.length c, .int .i64 cd]) ∧ RdStr w' w'.heap.size A al ∧ Below W.heap.size W w' ∧ al.length ≤ c ∧ c ≤ maxLen
  racc : ∀ W, S W → Calls Tryz.prog 22 #[v0, v1] W fun e w' => ∃ A c, e = .returned (.tuple #[.slice A al.length c, .bool okb]) ∧ RdStr w' w'.heap.size A al ∧ Below W.heap.size W w'
  opn : ∀ W, S W → Calls Tryz.prog 11 #[V0, V1] W fun e w' => ∃ A c, e = .returned (.tuple #[.slice A pl.length c, .int .i64 cd]) ∧ RdRep w' w'.heap.size A pl ∧ Below W.heap.size W w'
  ropn : ∀ W, S W → Calls Tryz.prog 23 #[v0, v1] W fun e w' => ∃ A c ql, e = .returned (.tuple #[.slice A ql.length c, .bool okb]) ∧ (okb = true → ql = pl) ∧ RdRep w' w'.heap.size A ql ∧ Below W.heap.size W w'
  fits : ∀ W, Calls Tryz.prog 24 #[.int .i64 cd, .bool okb] W fun e w' => e = .returned (.bool true) ∧ W = w'
  chk : ∀ W, S W → Calls Tryz.prog 25 #[V0, V1, V2] W fun e w' => e = .returned (.bool b1) ∧ Below W.heap.size W w'
  rchk : ∀ W, S W → Calls Tryz.prog 26 #[v0, v1, v2] W fun e w' => e = .returned (.bool b1) ∧ Below W.heap.size W w'
  chk2 : ∀ W, S W → ∀ A c, RdStr W W.heap.size A al → al.length ≤ c → c ≤ maxLen → Calls Tryz.prog 25 #[V0, V1, .slice A al.length c] W fun e w' => e = .returned (.bool b2) ∧ Below W.heap.size W w'
  rchk2 : ∀ W, S W → ∀ A c, RdStr W W.heap.size A al → al.length ≤ c → c ≤ maxLen → Calls Tryz.prog 26 #[v0, v1, .slice A al.length c] W fun e w' => e = .returned (.bool b2) ∧ Below W.heap.size W w'
  ver : ∀ W, S W → Calls Tryz.prog 10 #[V0, V1] W fun e w' => ∃ A c vs, e = .returned (.tuple #[.slice A al.length c, .int .i64 cd]) ∧ PVer W w' al rs (.slice A al.length c) vs
  rver : ∀ W, S W → Calls Tryz.prog 27 #[v0, v1] W fun e w' => ∃ A c, e = .returned (.tuple #[.slice A al.length c, .bool okb]) ∧ w'.ownsRow W.heap.size 74 3 (.slice A al.length c) al.length (rs.flatMap VerV.cells) ∧ Below W.heap.size W w'
  rn : rs.length = al.length
  rsub : ∀ W, S W → ∀ k (h : k < rs.length), RdRep W W.heap.size rs[k].s.a rs[k].d.reps ∧ rs[k].s.n = rs[k].d.reps.length
  keptC : ∀ W, S W → Calls Tryz.prog 29 #[V0, v0] W fun e w' => e = .returned (.bool true) ∧ Below W.heap.size W w'
  keptR : ∀ W, S W → Calls Tryz.prog 30 #[V1, v1] W fun e w' => e = .returned (.bool true) ∧ Below W.heap.size W w'
  keptU : ∀ W, S W → Calls Tryz.prog 16 #[V2, v2] W fun e w' => e = .returned (.bool true) ∧ Below W.heap.size W w'
  lo : ol.length ≤ 60
  la : al.length ≤ 60
  lp : pl.length ≤ 60
  lr : ∀ x ∈ rs, x.d.reps.length ≤ 1000
theorem kt_of {L L' : List CsV} {reps : List Rep} {us : List ByteArray} (O : ArgsOk L reps us) (hc : csOf L' = csOf L) (h0 : G.cf GS GN (.sl 0) (csG (csOf L))) (h1 : G.cf GS GN (.sl 1) (repG reps)) (v0 v1 v2 V0 V1 V2 : Value) :
    Kt v0 v1 v2 V0 V1 V2 (Sc L L' reps us v0 v1 v2 V0 V1 V2) (ordE L) (accE L reps) (openE L reps) ((accE L reps).map (vR L reps (accE L reps))) (codeE L) (okV (csOf L)) (checkV (csOf L) reps us) (checkV (csOf L) reps (accE L reps)) := by
  have hl := O.l
  have hr := O.r
  have hu := O.u
  have hl' : L'.length ≤ 60 := by rw [cs_len hc]; exact hl
  have ok' : ∀ x ∈ L', OkC x.c := fun x hx => by
    obtain ⟨y, hy, e⟩ := cs_mem hc hx
    rw [← e]
    exact O.ok y hy
  have n' : ∀ x ∈ L', x.c.needs.length ≤ 1000 := fun x hx => by
    obtain ⟨y, hy, e⟩ := cs_mem hc hx
    rw [← e]
    exact O.n y hy
  have eo : ordE L' = ordE L := by unfold ordE; rw [hc]
  have ea : accE L' reps = accE L reps := by unfold accE; rw [hc]
  have ec : codeE L' = codeE L := by unfold codeE; rw [hc]
  have hal : (accE L reps).length ≤ 60 := Nat.le_trans (accE_len L reps) hl
  have has := accE_size O.ok reps
  refine { next := fun W W' h hb => h.next hb, order := ?order, rorder := ?rorder, acc := ?acc, racc := ?racc, opn := ?opn, ropn := ?ropn, fits := fun W => fits_c _ W, chk := ?chk, rchk := ?rchk, chk2 := ?chk2, rchk2 := ?rchk2, ver := ?ver, rver := ?rver, rn := by simp, rsub := ?rsub, keptC := ?keptC, keptR := ?keptR, keptU := ?keptU, lo := Nat.le_trans (ordE_len L) hl, la := hal, lp := ?lp, lr := ?lr }
  case order =>
    intro W h
    obtain ⟨A, c, e, hr⟩ := h.t'.a
    have := Order_e L' A c W hr ok' (by omega)
    rw [eo, hc, ← e] at this
    exact this
  case rorder =>
    intro W h
    obtain ⟨A, c, e, hr⟩ := h.t.a
    have := rOrder_c L A c W hr (by omega)
    rw [← e] at this
    exact this
  case acc =>
    intro W h
    obtain ⟨A, c, e, h1⟩ := h.t'.a
    obtain ⟨A1, c1, e1, h2⟩ := h.t'.b
    have := Accused_e L' reps A c A1 c1 W h1 ok' (by omega) h2 O.okr (by unfold maxLen; omega)
    rw [ea, ec, ← e, ← e1] at this
    exact this
  case racc =>
    intro W h
    obtain ⟨A, c, e, h1⟩ := h.t.a
    obtain ⟨A1, c1, e1, h2⟩ := h.t.b
    have := rAccused_c L reps A c A1 c1 W h1 h2 (by omega) (by omega)
    rw [← e, ← e1] at this
    refine this.mono ?_
    rintro e w' ⟨A', c', acc, he, hacc, hs, hb⟩
    subst hacc
    exact ⟨A', c', he, hs, hb⟩
  case opn =>
    intro W h
    obtain ⟨A, c, e, h1⟩ := h.t'.a
    obtain ⟨A1, c1, e1, h2⟩ := h.t'.b
    have := Open_e L' reps A c A1 c1 W h1 ok' (by omega) n' h2 O.okr (by omega)
    rw [hc, ← e, ← e1] at this
    refine this.mono ?_
    rintro e w' ⟨A', c', l, he, hacc, hs, hb⟩
    subst hacc
    exact ⟨A', c', he, hs, hb⟩
  case ropn =>
    intro W h
    obtain ⟨A, c, e, h1⟩ := h.t.a
    obtain ⟨A1, c1, e1, h2⟩ := h.t.b
    have := rOpen_c L reps A c A1 c1 W h1 h2 (by omega) (by omega) O.n
    rw [← e, ← e1] at this
    refine this.mono ?_
    rintro e w' ⟨A', c', acc, he, hacc, hs, hb⟩
    refine ⟨A', c', _, he, fun hok => ?_, hs, hb⟩
    rw [hacc, if_pos hok]
    unfold openE
    rw [if_pos hok]
  case chk =>
    intro W h
    obtain ⟨A, c, e, h1⟩ := h.t'.a
    obtain ⟨A1, c1, e1, h2⟩ := h.t'.b
    obtain ⟨A2, c2, e2, h3, _⟩ := h.t'.d
    have := Check_c L' reps us A c A1 c1 A2 c2 W h1 ok' (by omega) h2 O.okr (by unfold maxLen; omega) h3 O.oks (by omega)
    rw [hc, ← e, ← e1, ← e2] at this
    exact this
  case rchk =>
    intro W h
    obtain ⟨A, c, e, h1⟩ := h.t.a
    obtain ⟨A1, c1, e1, h2⟩ := h.t.b
    obtain ⟨A2, c2, e2, h3, h4, h5⟩ := h.t.d
    have := rCheck_c L reps us A c A1 c1 A2 c2 W h1 h2 h3 (by omega) (by omega) (by omega) h4 h5
    rw [← e, ← e1, ← e2] at this
    exact this
  case chk2 =>
    intro W h A2 c2 h3 h4 h5
    obtain ⟨A, c, e, h1⟩ := h.t'.a
    obtain ⟨A1, c1, e1, h2⟩ := h.t'.b
    have := Check_c L' reps (accE L reps) A c A1 c1 A2 c2 W h1 ok' (by omega) h2 O.okr (by unfold maxLen; omega) h3 has (by omega)
    rw [hc, ← e, ← e1] at this
    exact this
  case rchk2 =>
    intro W h A2 c2 h3 h4 h5
    obtain ⟨A, c, e, h1⟩ := h.t.a
    obtain ⟨A1, c1, e1, h2⟩ := h.t.b
    have := rCheck_c L reps (accE L reps) A c A1 c1 A2 c2 W h1 h2 h3 (by omega) (by omega) (by omega) h4 h5
    rw [← e, ← e1] at this
    exact this
  case ver =>
    intro W h
    obtain ⟨A, c, e, h1⟩ := h.t'.a
    obtain ⟨A1, c1, e1, h2⟩ := h.t'.b
    have := Verdicts_s L' reps A c A1 c1 W h1 ok' (by omega) n' h2 O.okr (by unfold maxLen; omega)
    rw [hc, ← e, ← e1] at this
    refine this.mono ?_
    rintro e w' ⟨A', c', vs, he, hrd, hmap, hb, hown, hsub, hap⟩
    obtain ⟨hn, hsame⟩ := ver_both hc hmap (acc := accE L reps) rfl
    rw [hn] at he hown
    refine ⟨A', c', vs, he, ⟨hb, hown, hsub, fun x hx => ?_, hap, hn, fun i h1 h2 => ?_⟩⟩
    · obtain ⟨i, hi, rfl⟩ := List.getElem_of_mem hx
      obtain ⟨b, o, _, _, hcl⟩ := hrd (by omega)
      exact (hcl i hi).2.2.2.1
    · rw [List.getElem_map]
      exact hsame i h1 (by simpa using h2)
  case rver =>
    intro W h
    obtain ⟨A, c, e, h1⟩ := h.t.a
    obtain ⟨A1, c1, e1, h2⟩ := h.t.b
    have := rVerdicts_c L reps A c A1 c1 W h1 h2 (by omega) (by omega)
    rw [← e, ← e1] at this
    refine this.mono ?_
    rintro e w' ⟨A', c', acc, he, hacc, hs, hb⟩
    have hacc : acc = accE L reps := hacc
    subst hacc
    rw [List.length_map] at he hs
    exact ⟨A', c', he, hs, hb⟩
  case rsub =>
    intro W h k hk
    have hk' : k < (accE L reps).length := by simpa using hk
    have hi := accR_hit (L := L) (reps := reps) (acc := accE L reps) rfl _ (List.getElem_mem hk')
    rw [List.getElem_map, vR_at hi rfl]
    obtain ⟨A, c, e, h1⟩ := h.t.a
    obtain ⟨bl, ol, hA, hbl, hcl⟩ := h1 (by omega)
    obtain ⟨_, _, _, hx⟩ := hcl _ hi
    exact ⟨hx.n, hx.nl⟩
  case keptC =>
    intro W h
    exact keptCauses_c _ V0 v0 W h0 h.l0 h.r0
  case keptR =>
    intro W h
    exact keptReports_c _ V1 v1 W h1 h.l1 h.r1
  case keptU =>
    intro W h
    obtain ⟨A, c, e, h3, _⟩ := h.t.d
    obtain ⟨A', c', e', h3', _⟩ := h.t'.d
    have := sameTexts_c us us A' A c' c W h3' h3 (by omega)
    rw [eqL_true rfl, ← e, ← e'] at this
    exact this
  case lp =>
    unfold openE
    split
    · exact Nat.le_trans (openR_len _ _ _) hr
    · simp
  case lr =>
    intro x hx
    obtain ⟨u, hu, rfl⟩ := List.mem_map.1 hx
    have hi := accR_hit (L := L) (reps := reps) (acc := accE L reps) rfl u hu
    rw [vR_at hi rfl]
    exact O.n _ (List.getElem_mem hi)
end Go.Proofs.YtknojjlfgjkbiaaGreatDoor
/- lists (6): the loop's state. -/
namespace Go.Proofs.YtknojjlfgjkbiaaGreatDoor
open Go.ChangeShapes Go.WideShapes Go.ChangeAt Go.RowKit
attribute [local go_sem] Oper.semAt_some

theorem reads_str {w : World} {A : Option Addr} {l : List ByteArray} (h : RdStr w w.heap.size A l) : Reads w w.heap.size 1 A l.length (l.map Value.string) := ⟨by simp, fun hn => by
  obtain ⟨b, o, rfl, hb, hc⟩ := h hn
  refine ⟨_, rfl, hb, fun j u hu => ?_⟩
  obtain ⟨hj, rfl⟩ := List.getElem?_eq_some_iff.1 hu
  rw [List.getElem_map, add_none]
  exact hc j (by simpa using hj)⟩
theorem str_one (l : List ByteArray) : ∀ u ∈ l.map Value.string, u.oneCell' = true := fun u hu => by
  obtain ⟨s, _, rfl⟩ := List.mem_map.1 hu
  rfl
/-- a row of verdicts, read at a place. -/
theorem own3 {W : World} {b n c k : Nat} {e : TypeId} {A : Option Addr} {l : List VerV} (h : W.ownsRow b e 3 (.slice A n c) n (l.flatMap VerV.cells)) (hn : l.length = n) (hk : k < l.length) :
    ∃ g, A = some ⟨g, 0, none⟩ ∧ g < W.heap.size ∧ W.cell? ⟨g, k * 3, none⟩ = some (.string l[k].d.unit) ∧ W.cell? ⟨g, k * 3 + 1, none⟩ = some (.int .i64 l[k].d.cause) ∧ W.cell? ⟨g, k * 3 + 2, none⟩ = some (.slice l[k].s.a l[k].s.n l[k].s.c) := by
  obtain ⟨g, cap, hv, _, hlt⟩ := h.form (by omega)
  have hA : A = some ⟨g, 0, none⟩ := by injection hv
  subst hA
  obtain ⟨c0, c1, c2⟩ := cellsV_get l k hk
  have e0 := h.cells (g := g) rfl _ _ c0
  have e1 := h.cells (g := g) rfl _ _ c1
  have e2 := h.cells (g := g) rfl _ _ c2
  rw [add_none, Nat.zero_add] at e0 e1 e2
  exact ⟨g, rfl, hlt, e0, e1, e2⟩
structure LoopSt (W0 : World) (al : List ByteArray) (vs rs : List VerV) (v r : Value) (k : Nat) (W : World) : Prop where
  below : Below W0.heap.size W0 W
  row : W.ownsRow W0.heap.size 60 3 v al.length (vs.flatMap VerV.cells)
  ref : W.ownsRow W0.heap.size 74 3 r al.length (rs.flatMap VerV.cells)
  subs : ∀ x ∈ vs.drop k, W.ownsRow W0.heap.size 32 2 (.slice x.s.a x.s.n x.s.c) x.d.reps.length (x.d.reps.flatMap Rep.cells)
section
variable {W0 W W' : World} {al : List ByteArray} {vs rs : List VerV} {v r : Value} {k : Nat}
theorem LoopSt.ext (h : LoopSt W0 al vs rs v r k W) (hb : Below W.heap.size W W') : LoopSt W0 al vs rs v r k W' where
  below := h.below.trans (hb.mono h.below.size)
  row := own_keep h.row (below_grown (row := none) hb) (fun r e => by cases e)
  ref := own_keep h.ref (below_grown (row := none) hb) (fun r e => by cases e)
  subs := fun x hx => own_keep (h.subs x hx) (below_grown (row := none) hb) (fun r e => by cases e)
theorem LoopSt.sub (h : LoopSt W0 al vs rs v r k W) (hk : k < vs.length) : W.ownsRow W0.heap.size 32 2 (.slice vs[k].s.a vs[k].s.n vs[k].s.c) vs[k].d.reps.length (vs[k].d.reps.flatMap Rep.cells) :=
  h.subs _ (by rw [List.drop_eq_getElem_cons hk]; exact List.mem_cons_self)
theorem LoopSt.step (h : LoopSt W0 al vs rs v r k W) (hk : k < vs.length)
    (hap : vs.Pairwise (fun x y : VerV => (Value.slice x.s.a x.s.n x.s.c).ownBlock = none ∨ (Value.slice x.s.a x.s.n x.s.c).ownBlock ≠ (Value.slice y.s.a y.s.n y.s.c).ownBlock))
    (hg : W.grownBy W' (Value.slice vs[k].s.a vs[k].s.n vs[k].s.c).ownBlock) : LoopSt W0 al vs rs v r (k + 1) W' where
  below := h.below.grown hg h.below.size (fun j e => ((h.sub hk).lt j e).1)
  row := h.row.kept hg (own_apart h.row (h.sub hk) (by decide))
  ref := h.ref.kept hg (own_apart h.ref (h.sub hk) (by decide))
  subs := fun y hy => by
    have hy0 : y ∈ vs.drop k := by rw [List.drop_eq_getElem_cons hk]; exact List.mem_cons_of_mem _ hy
    refine (h.subs y hy0).kept hg ?_
    obtain ⟨i, hi, rfl⟩ := List.getElem_of_mem hy
    rw [List.length_drop] at hi
    rw [List.getElem_drop]
    rw [List.pairwise_iff_getElem] at hap
    rcases hap k (k + 1 + i) hk (by omega) (by omega) with e | e
    · rw [e]
      cases hq : (Value.slice vs[k + 1 + i].s.a vs[k + 1 + i].s.n vs[k + 1 + i].s.c).ownBlock with
      | none => exact .inl rfl
      | some g => exact .inr (by simp)
    · exact .inr (Ne.symm e)
theorem LoopSt.init {W1 : World} (h : PVer W0 W1 al rs v vs) (hr : W.ownsRow W1.heap.size 74 3 r al.length (rs.flatMap VerV.cells)) (hb : Below W1.heap.size W1 W) : LoopSt W0 al vs rs v r 0 W where
  below := h.below.trans (hb.mono h.below.size)
  row := own_keep h.row (below_grown (row := none) hb) (fun r e => by cases e)
  ref := own_base hr h.below.size
  subs := fun x hx => own_keep (h.subs x (by simpa using hx)) (below_grown (row := none) hb) (fun r e => by cases e)
end
theorem sameT (l : List ByteArray) (A1 A2 : Option Addr) (c1 c2 : Nat) (w : World) (h1 : RdStr w w.heap.size A1 l) (h2 : RdStr w w.heap.size A2 l) (hl : l.length ≤ 60) :
    Calls Tryz.prog 16 #[.slice A1 l.length c1, .slice A2 l.length c2] w fun e w' => e = .returned (.bool true) ∧ Below w.heap.size w w' := by
  have := sameTexts_c l l A1 A2 c1 c2 w h1 h2 (by omega)
  rw [eqL_true rfl] at this
  exact this
theorem sameT0 (l : List ByteArray) (hn : l = []) (A1 : Option Addr) (c1 : Nat) (w : World) :
    Calls Tryz.prog 16 #[.slice A1 l.length c1, .slice none 0 0] w fun e w' => e = .returned (.bool true) ∧ Below w.heap.size w w' := by
  subst hn
  exact sameT [] A1 none c1 0 w RdStr.nil RdStr.nil (by simp)
theorem sameR (l : List Rep) (A1 A2 : Option Addr) (c1 c2 : Nat) (w : World) (h1 : RdRep w w.heap.size A1 l) (h2 : RdRep w w.heap.size A2 l) (hl : l.length ≤ 1000) :
    Calls Tryz.prog 17 #[.slice A1 l.length c1, .slice A2 l.length c2] w fun e w' => e = .returned (.bool true) ∧ Below w.heap.size w w' := by
  have := sameReports_c l l A1 A2 c1 c2 w h1 h2 (by omega)
  rw [eqL_true rfl] at this
  exact this
theorem sameR0 (l : List Rep) (hn : l = []) (A1 : Option Addr) (c1 : Nat) (w : World) :
    Calls Tryz.prog 17 #[.slice A1 l.length c1, .slice none 0 0] w fun e w' => e = .returned (.bool true) ∧ Below w.heap.size w w' := by
  subst hn
  exact sameR [] A1 none c1 0 w RdRep.nil RdRep.nil (by simp)
/-- what lists begins with: copies of the arguments. -/
def StartQ (v0 v1 : Value) (us : List ByteArray) (Au : Option Addr) (cu : Nat) (ol al : List ByteArray) (pl : List Rep) (rs : List VerV) (cd : Int) (okb b1 b2 : Bool) (w : World) : Prop :=
  Calls Tryz.prog 19 #[v0] w fun e w1 => ∃ V0, e = .returned V0 ∧ Below w.heap.size w w1 ∧
    Calls Tryz.prog 20 #[v1] w1 fun e w2 => ∃ V1, e = .returned V1 ∧ Below w1.heap.size w1 w2 ∧ RdStr w2 w2.heap.size Au us ∧
      ∀ (w3 : World) (V2 : Value), Below w2.heap.size w2 w3 → w3.ownsRow w2.heap.size 9 1 V2 us.length (us.map Value.string) →
        ∃ (S : World → Prop), Kt v0 v1 (.slice Au us.length cu) V0 V1 V2 S ol al pl rs cd okb b1 b2 ∧ S w3
theorem start_of {L : List CsV} {reps : List Rep} {us : List ByteArray} (O : ArgsOk L reps us) (h0 : G.cf GS GN (.sl 0) (csG (csOf L))) (h1 : G.cf GS GN (.sl 1) (repG reps)) (v0 v1 : Value) (Au : Option Addr) (cu : Nat) (w : World)
    (hT : Trip L reps us v0 v1 (.slice Au us.length cu) w) (r0 : G.rdW w v0 (csG (csOf L))) (r1 : G.rdW w v1 (repG reps)) :
    StartQ v0 v1 us Au cu (ordE L) (accE L reps) (openE L reps) ((accE L reps).map (vR L reps (accE L reps))) (codeE L) (okV (csOf L)) (checkV (csOf L) reps us) (checkV (csOf L) reps (accE L reps)) w := by
  refine (lentCauses_c _ v0 w h0 r0).mono ?_
  rintro e w1 ⟨V0, rfl, hld, hb1⟩
  refine ⟨V0, rfl, hb1, ?_⟩
  have hT1 := hT.next hb1
  have r01 := r0.next hb1
  have r11 := r1.next hb1
  have hl1 : G.ldW KM w1 V0 (csG (csOf L)) := G.ld.keep (fun b ⟨_, o, hq, _⟩ => ⟨fun _ => rfl, (Array.getElem?_eq_some_iff.1 hq).1⟩) V0 _ hld
  refine (lentReports_c _ v1 w1 h1 r11).mono ?_
  rintro e w2 ⟨V1, rfl, hld2, hb2⟩
  have hT2 := hT1.next hb2
  have hl2 : G.ldW KM w2 V1 (repG reps) := G.ld.keep (fun b ⟨_, o, hq, _⟩ => ⟨fun _ => rfl, (Array.getElem?_eq_some_iff.1 hq).1⟩) V1 _ hld2
  obtain ⟨A2, c2, e2, hs2, _⟩ := hT2.d
  have hA : Au = A2 := by injection e2
  subst hA
  refine ⟨V1, rfl, hb2, hs2, fun w3 V2 hb3 hown => ?_⟩
  have hl13 := (hl1.next hb2).next hb3
  have hl23 := hl2.next hb3
  obtain ⟨A', c', L', hV0, _, _, hrd, hcs⟩ := css_at h0 (G.ld.rd _ _ hl13)
  obtain ⟨A1', c1', hV1, _, _, hrr⟩ := reps_at h1 (G.ld.rd _ _ hl23)
  obtain ⟨A2', c2', hV2, k1, k2⟩ := own_caps hown
  rw [hV2] at hown
  have hrs : RdStr w3 w3.heap.size A2' us := by
    have : w3.ownsRow w2.heap.size 9 1 (.slice A2' us.length c2') us.length (us.map Value.string) := hown
    exact rdStr_of_own this
  exact ⟨_, kt_of O hcs h0 h1 v0 v1 _ V0 V1 V2, ⟨hT2.next hb3, ⟨⟨A', c', hV0, hrd⟩, ⟨A1', c1', hV1, hrr⟩, ⟨A2', c2', hV2, hrs, k1, k2⟩⟩, (r01.next hb2).next hb3, (r11.next hb2).next hb3, hl13, hl23⟩⟩
end Go.Proofs.YtknojjlfgjkbiaaGreatDoor
