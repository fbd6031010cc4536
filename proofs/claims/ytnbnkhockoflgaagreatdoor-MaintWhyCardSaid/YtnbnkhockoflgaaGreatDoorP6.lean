/- MaintWhy: the walk. -/
import Derived.Test.YtnbnkhockoflgaaGreatDoorP5
set_option linter.unusedSimpArgs false
set_option linter.unusedVariables false
set_option linter.unusedSectionVars false
namespace Go.Proofs.YtnbnkhockoflgaaGreatDoor
open Go.ChangeShapes Go.WideShapes Go.ChangeAt Go.RowKit
attribute [local go_sem] Oper.semAt_some

theorem asc_pair {p q : Rep} (h : repLt q p = false) (hne : p ≠ q) : (p.unit = q.unit ∧ p.code < q.code) ∨ (p.unit ≠ q.unit ∧ ltS p.unit q.unit = true) := by
  cases hk : repLt p q with
  | false => exact absurd (repLt_tri h hk).symm hne
  | true =>
    by_cases hu : p.unit = q.unit
    · refine .inl ⟨hu, ?_⟩
      unfold repLt at hk
      rw [hu, ltS_irrefl] at hk
      simpa using hk
    · refine .inr ⟨hu, ?_⟩
      unfold repLt at hk
      rw [decide_eq_false hu] at hk
      simpa using hk
theorem RdVer.below {w w' : World} {A : Option Addr} {l : List VerV} (h : RdVer w w.heap.size A l) (hb : Below w.heap.size w w') : RdVer w' w'.heap.size A l := fun hn => by
  obtain ⟨b, o, rfl, hlt, hc⟩ := h hn
  refine ⟨b, o, rfl, Nat.lt_of_lt_of_le hlt hb.size, fun i hi => ?_⟩
  obtain ⟨h1, h2, h3, h4, h5⟩ := hc i hi
  exact ⟨(bcell hb b _ hlt).trans h1, (bcell hb b _ hlt).trans h2, (bcell hb b _ hlt).trans h3, h4, h5.below hb⟩
theorem Verdicts_e (L : List CsV) (reps : List Rep) (A : Option Addr) (c : Nat) (A1 : Option Addr) (c1 : Nat) (w : World) (h : RdCs w w.heap.size A L) (ok : ∀ x ∈ L, OkC x.c) (hl : L.length ≤ 100000) (hn : ∀ x ∈ L, x.c.needs.length ≤ 1000)
    (hr : RdRep w w.heap.size A1 reps) (okr : ∀ r ∈ reps, r.ok) (hl2 : reps.length < maxLen) :
    Calls Tryz.prog 14 #[.slice A L.length c, .slice A1 reps.length c1] w fun e w' => ∃ A' c' vs, e = .returned (.tuple #[.slice A' vs.length c', .int .i64 (codeE L)]) ∧ RdVer w' w'.heap.size A' vs ∧ vs.map VerV.d = verV L reps ∧ Below w.heap.size w w' :=
  Verdicts_c L reps A c A1 c1 w h ok hl hn hr okr hl2
theorem Open_e (L : List CsV) (reps : List Rep) (A : Option Addr) (c : Nat) (A1 : Option Addr) (c1 : Nat) (w : World) (h : RdCs w w.heap.size A L) (ok : ∀ x ∈ L, OkC x.c) (hl : L.length ≤ 100000) (hn : ∀ x ∈ L, x.c.needs.length ≤ 1000)
    (hr : RdRep w w.heap.size A1 reps) (okr : ∀ r ∈ reps, r.ok) (hl2 : reps.length ≤ 100000000) :
    Calls Tryz.prog 15 #[.slice A L.length c, .slice A1 reps.length c1] w fun e w' => ∃ A' c' l, e = .returned (.tuple #[.slice A' l.length c', .int .i64 (codeE L)]) ∧ RdRep w' w'.heap.size A' l ∧ l.Nodup ∧ Asc l ∧
      (∀ x, x ∈ l ↔ okV (csOf L) = true ∧ openB L reps (accV (csOf L) reps) (accV (csOf L) reps) x) ∧ Below w.heap.size w w' :=
  Open_c L reps A c A1 c1 w h ok hl hn hr okr hl2
/-- what the open reports are. -/
structure OpenOk (L : List CsV) (reps : List Rep) (acc : List ByteArray) (l : List Rep) : Prop where
  mem : ∀ r ∈ reps, memB r l = !explB L reps acc r
  len : l.length ≤ reps.length
  asc : ∀ i (h : i + 1 < l.length), (l[i].unit = l[i + 1].unit ∧ l[i].code < l[i + 1].code) ∨ (l[i].unit ≠ l[i + 1].unit ∧ ltS l[i].unit l[i + 1].unit = true)
theorem rep_len_le : ∀ (a b : List Rep), a.Nodup → (∀ x ∈ a, x ∈ b) → a.length ≤ b.length := fun a b h1 h2 => len_le a b h1 h2
theorem openOk {L : List CsV} {reps l : List Rep} (hok : okV (csOf L) = true) (hnd : l.Nodup) (hasc : Asc l) (hmem : ∀ x, x ∈ l ↔ okV (csOf L) = true ∧ openB L reps (accV (csOf L) reps) (accV (csOf L) reps) x) : OpenOk L reps (accV (csOf L) reps) l := by
  refine ⟨fun r hr => ?_, rep_len_le _ _ hnd fun x hx => ((hmem x).1 hx).2.1, fun i h => ?_⟩
  · rw [Bool.eq_iff_iff, memB_iff, hmem, open_expl hok hr, Bool.not_eq_true']
    exact ⟨fun h => h.2, fun h => ⟨hok, h⟩⟩
  · refine asc_pair (hasc i (i + 1) (by omega) h) fun e => ?_
    have := (List.getElem_inj hnd).1 e
    omega
def stepE (e0 hb : Bool) (l : List Rep) (r : Rep) (j : Nat) : Bool := e0 || (((l.take j).any fun y => decide (y = r)) && hb)
theorem stepE_succ (e0 hb : Bool) (l : List Rep) (r : Rep) (j : Nat) (h : j < l.length) : stepE e0 hb l r (j + 1) = (stepE e0 hb l r j || (decide (l[j] = r) && hb)) := by
  unfold stepE
  rw [List.take_succ_eq_append_getElem h, List.any_append]
  cases e0 <;> cases hb <;> simp
theorem stepE_all (L : List CsV) (reps : List Rep) (acc : List ByteArray) (r : Rep) (m : Nat) (h : m < L.length) :
    explB (L.take (m + 1)) reps acc r = stepE (explB (L.take m) reps acc r) (holdB reps acc L[m].c) L[m].c.needs r L[m].c.needs.length := by
  unfold explB stepE
  rw [List.take_succ_eq_append_getElem h, List.any_append, List.take_length]; simp
theorem stepE_zero (e0 hb : Bool) (l : List Rep) (r : Rep) : stepE e0 hb l r 0 = e0 := by simp [stepE]
theorem ver_at {L : List CsV} {reps : List Rep} {vs : List VerV} (hok : okV (csOf L) = true) (hvd : vs.map VerV.d = verV L reps) : vs.length = (accV (csOf L) reps).length ∧ ∀ i (h : i < vs.length) (h' : i < (accV (csOf L) reps).length), VerOk L reps (accV (csOf L) reps) (accV (csOf L) reps)[i] vs[i].d := by
  obtain ⟨h1, h2⟩ := verV_ok (reps := reps) hok
  rw [← hvd] at h1 h2
  refine ⟨by simpa using h1, fun i h h' => ?_⟩
  have := h2 i (by simpa using h) h'
  simpa using this
theorem ver_none {L : List CsV} {reps : List Rep} {vs : List VerV} (hok : okV (csOf L) = false) (hvd : vs.map VerV.d = verV L reps) : vs = [] := by
  have e : verV L reps = [] := by unfold verV; rw [if_neg (by rw [hok]; simp)]
  rw [e] at hvd
  exact List.map_eq_nil_iff.1 hvd
theorem open_none {L : List CsV} {reps l : List Rep} (hok : okV (csOf L) = false) (hmem : ∀ x, x ∈ l ↔ okV (csOf L) = true ∧ openB L reps (accV (csOf L) reps) (accV (csOf L) reps) x) : l = [] :=
  List.eq_nil_iff_forall_not_mem.2 fun x hx => by
    have := ((hmem x).1 hx).1
    rw [hok] at this
    cases this

set_option maxRecDepth 100000 in
set_option maxHeartbeats 8000000 in
theorem maintWhy_c (L : List CsV) (reps : List Rep) (A : Option Addr) (c : Nat) (A1 : Option Addr) (c1 : Nat) (w : World) (h : RdCs w w.heap.size A L) (ok : ∀ x ∈ L, OkC x.c) (hl : L.length ≤ 2199023255552) (hcap : L.length ≤ c) (hcm : c ≤ maxLen)
    (hr : RdRep w w.heap.size A1 reps) (okr : ∀ r ∈ reps, r.ok) (hl2 : reps.length ≤ 10000000000000) :
    Calls Tryz.prog 4 #[.slice A L.length c, .slice A1 reps.length c1] w fun e w' => e = .returned (.bool true) ∧ Below w.heap.size w w' := by
  have H := Lib.hid h
  have Hr := Lib.hid hr
  clear h hr
  go_enter Tryz.func4, Tryz.ntmps4
  go_wp2_with fail
  refine (awake_c _).mono ?_
  rintro e w1 ⟨rfl, hb1⟩
  have hla := Large_c L A c A1 reps.length c1 w1 (H.out.below hb1) hl hl2
  have HB1 := Lib.hid hb1
  clear hb1
  cases hlv : largeV (csOf L) reps.length with
  | true =>
    rw [hlv] at hla
    have Hla := Lib.hid hla
    clear hla hlv
    go_wp2_with fail
    refine Hla.out.mono ?_
    rintro e w' ⟨rfl, hw'⟩
    subst hw'
    go_wp2_with fail
    go_ret
    exact ⟨rfl, HB1.out⟩
  | false =>
    rw [hlv] at hla
    obtain ⟨hn0, hn1, hsm⟩ := notLarge hlv
    have hn : L.length ≤ 60 := by simpa using hn0
    have hnn : ∀ x ∈ L, x.c.needs.length ≤ 1000 := fun x hx => by have := (hsm x.c (List.mem_map_of_mem hx)).1; omega
    have Hsm := Lib.hid hsm
    have Hnn := Lib.hid hnn
    have Hla := Lib.hid hla
    clear hla hlv hn0 hsm hnn
    go_wp2_with fail
    refine Hla.out.mono ?_
    rintro e w' ⟨rfl, hw'⟩
    subst hw'
    clear Hla
    have Hac := Lib.hid (Accused_e L reps A c A1 c1 w1 (H.out.below HB1.out) ok (by omega) (Hr.out.below HB1.out) okr (by unfold maxLen; omega))
    have hal := accE_len L reps
    have hae : accE L reps = if okV (csOf L) = true then accV (csOf L) reps else [] := rfl
    have Hae := Lib.hid hae
    have hce : codeE L = if okV (csOf L) = true then 0 else 400 := rfl
    have Hce := Lib.hid hce
    clear hae hce
    generalize hacc : accE L reps = acc at *
    have Hacc := Lib.hid hacc
    clear hacc
    have hve := fun w2 hb2 => Verdicts_e L reps A c A1 c1 w2 (H.out.below hb2) ok (by omega) Hnn.out (Hr.out.below hb2) okr (by unfold maxLen; omega)
    have hop := fun w3 hb3 => Open_e L reps A c A1 c1 w3 (H.out.below hb3) ok (by omega) Hnn.out (Hr.out.below hb3) okr (by omega)
    have Hve := Lib.hid hve
    have Hop := Lib.hid hop
    clear hve hop
    generalize codeE L = cd at *
    go_wp2_with fail
    refine Hac.out.mono ?_
    rintro e w2 ⟨Aa, ca, rfl, hra, hb2⟩
    have HB2 := Lib.hid (HB1.out.trans (hb2.mono HB1.out.size))
    have Hra := Lib.hid hra
    clear hb2 hra Hac
    go_wp2_with fail
    refine (Hve.out _ HB2.out).mono ?_
    rintro e w3 ⟨Av, cv, vs, rfl, hrv, hvd, hb3⟩
    have HB3 := Lib.hid (HB2.out.trans (hb3.mono HB2.out.size))
    have Hra3 := Lib.hid (Hra.out.below hb3)
    have Hrv := Lib.hid hrv
    have Hvd := Lib.hid hvd
    clear hb3 hrv hvd Hve Hra
    go_wp2_with fail
    refine (Hop.out _ HB3.out).mono ?_
    rintro e w4 ⟨Ao, co, ol, rfl, hro, hnd, hasc, hmem, hb4⟩
    have HB4 := Lib.hid (HB3.out.trans (hb4.mono HB3.out.size))
    have Hra4 := Lib.hid (Hra3.out.below hb4)
    have Hrv4 := Lib.hid (Hrv.out.below hb4)
    have Hro := Lib.hid hro
    have Hop2 := Lib.hid (And.intro hnd (And.intro hasc hmem))
    clear hb4 hro hnd hasc hmem Hop Hra3 Hrv
    cases hok : okV (csOf L) with
    | false =>
      have hcd : cd = 400 := Hce.out.trans (if_neg (by rw [hok]; simp))
      have hvs := ver_none hok Hvd.out
      have hol := open_none hok Hop2.out.2.2
      subst hcd hvs hol
      go_wp2_with fail
      go_ret
      exact ⟨rfl, HB4.out⟩
    | true =>
      have hcd : cd = 0 := Hce.out.trans (if_pos hok)
      have hav : acc = accV (csOf L) reps := Hae.out.trans (if_pos hok)
      obtain ⟨hvl, hva⟩ := ver_at hok Hvd.out
      have hoo := openOk hok Hop2.out.1 Hop2.out.2.1 Hop2.out.2.2
      rw [← hav] at hvl hva hoo
      have Hva := Lib.hid hva
      have Hoo := Lib.hid hoo
      subst hcd
      have hne : ((vs.length : Int) != (acc.length : Int)) = false := by rw [hvl]; simp
      have Hvl := Lib.hid hvl
      clear hva hoo hav Hvd Hop2 Hce Hae Hacc hok hvl
      go_wp2_with fail
      go_loopw [73] (fun t wr => ∃ k : Nat, k ≤ vs.length ∧ t = .int .i64 k ∧ Below w4.heap.size w4 wr) (fun t wr => vs.length - (intOf t).toNat)
      case atStart => exact ⟨0, Nat.zero_le _, rfl, Below.refl _ _⟩
      case round =>
        obtain ⟨k, hk, rfl, hB⟩ := hrel
        by_cases hlt : k < vs.length
        · have hka : k < acc.length := by have := Hvl.out; omega
          obtain ⟨bv, ov, hAv, hbv, hcv⟩ := (Hrv4.out.below hB) (by omega)
          obtain ⟨v0, v1, v2, hsn, hrs⟩ := hcv k hlt
          obtain ⟨hu, kk, hkk, hcs, hLu, hLh, hrp, hbef⟩ := Hva.out k hlt hka
          obtain ⟨ba, oa, hAa, hba, hca⟩ := (Hra4.out.below hB) (by omega)
          have a0 := hca k hka
          have hBw := HB4.out.trans (hB.mono HB4.out.size)
          obtain ⟨bl, ol2, hA, hbl, hcl⟩ := (H.out.below hBw) (by omega)
          obtain ⟨d0, d1, d2, hx⟩ := hcl kk hkk
          rw [hu] at v0
          rw [hcs] at v1
          rw [hLu] at d0
          rw [hrp] at hsn hrs
          have hxn := Hsm.out L[kk].c (List.mem_map_of_mem (List.getElem_mem hkk))
          have hxu := hLu
          have Hbef := Lib.hid hbef
          have HB := Lib.hid hB
          have HBw := Lib.hid hBw
          clear hcv hca hcl hbef hB hBw hu hcs hLu hrp
          generalize vs[k].s = sv at *
          generalize vs[k].d = dv at *
          generalize acc[k] = u at *
          generalize L[kk] = x at *
          replace d1 : wr.cell? ⟨bl, ol2 + kk * 3 + 1, none⟩ = some (.slice x.n.a x.n.n x.n.c) := d1
          replace d2 : wr.cell? ⟨bl, ol2 + kk * 3 + 2, none⟩ = some (.slice x.x.a x.x.n x.x.c) := d2
          rw [hx.nl] at d1
          rw [hsn] at v2
          obtain ⟨w5, hw5⟩ : ∃ w5, w5 = wr.alloc (.cells #[.string u, .int .i64 kk, .slice sv.a x.c.needs.length sv.c] 42) := ⟨_, rfl⟩
          have hB5 : Below wr.heap.size wr w5 := by rw [hw5]; exact (Below.refl _ _).alloc (Nat.le_refl _) _
          have hby : Blk w5 wr.heap.size 42 #[.string u, .int .i64 kk, .slice sv.a x.c.needs.length sv.c] := by rw [hw5]; exact Blk.new wr _ _
          have e0 : w5.cell? ⟨wr.heap.size, 0, none⟩ = some (.string u) := hby.cell 0
          have e1 : w5.cell? ⟨wr.heap.size, 1, none⟩ = some (.int .i64 kk) := hby.cell 1
          have e2 : w5.cell? ⟨wr.heap.size, 2, none⟩ = some (.slice sv.a x.c.needs.length sv.c) := hby.cell 2
          have a5 : w5.cell? ⟨ba, oa + k, none⟩ = some (.string u) := below_cell0 hB5 a0
          have f0 : w5.cell? ⟨bl, ol2 + kk * 3, none⟩ = some (.string u) := below_cell0 hB5 d0
          have f1 : w5.cell? ⟨bl, ol2 + kk * 3 + 1, none⟩ = some (.slice x.n.a x.c.needs.length x.n.c) := below_cell0 hB5 d1
          have f2 : w5.cell? ⟨bl, ol2 + kk * 3 + 2, none⟩ = some (.slice x.x.a x.x.n x.x.c) := below_cell0 hB5 d2
          have hbz := HB.out.size
          have hB45 := HB.out.trans (hB5.mono hbz)
          have hBw5 := HBw.out.trans (hB5.mono HBw.out.size)
          have h16 : ∀ z : Ext w5, Calls Tryz.prog 16 #[.agg #[.string u, .slice x.n.a x.c.needs.length x.n.c, .slice x.x.a x.x.n x.x.c], .slice A1 reps.length c1, .slice Aa acc.length ca] z.w fun e w' => e = .returned (.bool true) ∧ Below z.w.heap.size z.w w' := fun z => by
            have := lawHolds_c x reps acc A1 c1 Aa ca z.w ((hx.below hB5).below z.h) ((Hr.out.below hBw5).below z.h) ((Hra4.out.below hB45).below z.h) (by omega) (by omega) (by omega) (by omega)
            rw [hLh] at this
            unfold CsV.val at this
            rw [hxu, hx.nl] at this
            exact this
          have h17 : ∀ z : Ext w5, Calls Tryz.prog 17 #[.slice sv.a x.c.needs.length sv.c, .slice x.n.a x.c.needs.length x.n.c] z.w fun e w' => e = .returned (.bool true) ∧ Below z.w.heap.size z.w w' := fun z => by
            have := sameReports_c x.c.needs x.c.needs sv.a x.n.a sv.c x.n.c z.w ((hrs.below hB5).below z.h) ((hx.n.below hB5).below z.h) (by omega)
            rw [eqL_true rfl] at this
            exact this
          have hs0 : (0 : Int) ≤ (k : Int) := by omega
          have hs1 : (k : Int) < (acc.length : Int) := by omega
          have hs2 : (0 : Int) ≤ (kk : Int) := by omega
          have hs3 : (kk : Int) < (L.length : Int) := by omega
          have hs4 : decide ((kk : Int) < 0) = false := decide_eq_false (by omega)
          have hs5 : decide ((kk : Int) ≥ (L.length : Int)) = false := decide_eq_false (by omega)
          have hs6 : decide (L.length ≤ kk) = false := decide_eq_false (by omega)
          have hs7 : decide ((L.length : Int) ≤ (kk : Int)) = false := decide_eq_false (by omega)
          have H16 := Lib.hid h16
          have H17 := Lib.hid h17
          have HY := Lib.hid hby
          have HB45 := Lib.hid hB45
          have HBw5 := Lib.hid hBw5
          have Hw5 := Lib.hid hw5
          have hec := ext_cell w5
          have hgz : wr.heap.size < w5.heap.size := hby.lt
          have hb5s := hB5.size
          have hba5 : ba < w5.heap.size := by omega
          have hbl5 : bl < w5.heap.size := by omega
          clear h16 h17 hby hB45 hBw5 hw5 hB5 hx hrs HB HBw hxu hLh
          subst hAv hAa hA
          go_wp2_with fail
          rw [← Hw5.out]
          clear Hw5 v0 v1 v2 a0 d0 d1 d2
          refine wp_region_ext (by kernel_rfl) (by kernel_rfl) ?_
          repeat (go_big_quiet_step ((first | (go_at_call 16; with_reducible exact ext_call (H16.out _)) | (go_at_call 17; with_reducible exact ext_call (H17.out _)))))
          refine wpQuiet_nil ?_
          intro _ hw'
          obtain ⟨xx, hw''⟩ := hw'
          subst hw''
          have hy6 := HY.out.below xx.h HY.out.lt
          have g0 : xx.w.cell? ⟨wr.heap.size, 0, none⟩ = some (.string u) := hy6.cell 0
          have g1 : xx.w.cell? ⟨wr.heap.size, 1, none⟩ = some (.int .i64 kk) := hy6.cell 1
          have HB6 := Lib.hid (HB45.out.trans (xx.h.mono HB45.out.size))
          have HBw6 := Lib.hid (HBw5.out.trans (xx.h.mono HBw5.out.size))
          have HY6 := Lib.hid hy6
          clear hec e0 e1 e2 a5 f0 f1 f2 H16 H17 HB45 HBw5 hy6 HY
          generalize xx.w = w6 at *
          clear xx
          go_wp2_with fail
          clear g1 hbz hgz hb5s hba5 hbl5
          generalize wr.heap.size = gv at *
          clear wr
          clear w5
          go_loopw [136] (fun t wr => ∃ j : Nat, j ≤ kk ∧ t = .int .i64 j ∧ Below w6.heap.size w6 wr) (fun t wr => kk - (intOf t).toNat)
          case atStart => exact ⟨0, Nat.zero_le _, rfl, Below.refl _ _⟩
          case round =>
            obtain ⟨j, hj, rfl, hBj⟩ := hrel
            by_cases hlj : j < kk
            · obtain ⟨bl', ol', hA', hbl', hcl⟩ := (H.out.below (HBw6.out.trans (hBj.mono HBw6.out.size))) (by omega)
              injection hA' with hA'
              injection hA' with hA1 hA2
              subst hA1 hA2
              have hjL : j < L.length := by omega
              obtain ⟨d0, d1, d2, hx⟩ := hcl j hjL
              have hxn2 := Hsm.out L[j].c (List.mem_map_of_mem (List.getElem_mem hjL))
              have hbf := Hbef.out j hlj
              have Hbf := Lib.hid hbf
              have hjz := hBj.size
              clear hcl hbf
              generalize L[j] = y at *
              replace d1 : wr.cell? ⟨bl, ol2 + j * 3 + 1, none⟩ = some (.slice y.n.a y.n.n y.n.c) := d1
              replace d2 : wr.cell? ⟨bl, ol2 + j * 3 + 2, none⟩ = some (.slice y.x.a y.x.n y.x.c) := d2
              obtain ⟨w7, hw7⟩ : ∃ w7, w7 = wr.alloc (.cells #[.string y.c.unit, .slice y.n.a y.n.n y.n.c, .slice y.x.a y.x.n y.x.c] 33) := ⟨_, rfl⟩
              have hB7 : Below wr.heap.size wr w7 := by rw [hw7]; exact (Below.refl _ _).alloc (Nat.le_refl _) _
              have hby : Blk w7 wr.heap.size 33 #[.string y.c.unit, .slice y.n.a y.n.n y.n.c, .slice y.x.a y.x.n y.x.c] := by rw [hw7]; exact Blk.new wr _ _
              have q0 : w7.cell? ⟨wr.heap.size, 0, none⟩ = some (.string y.c.unit) := hby.cell 0
              have q1 : w7.cell? ⟨wr.heap.size, 1, none⟩ = some (.slice y.n.a y.n.n y.n.c) := hby.cell 1
              have q2 : w7.cell? ⟨wr.heap.size, 2, none⟩ = some (.slice y.x.a y.x.n y.x.c) := hby.cell 2
              have hB67 := hBj.trans (hB7.mono hjz)
              have gw : wr.cell? ⟨gv, 0, none⟩ = some (.string u) := below_cell0 hBj g0
              have hgv : gv < wr.heap.size := World.block_lt_of_cell? _ _ gw
              have hB47 := HB6.out.trans (hB67.mono HB6.out.size)
              have hBw7 := HBw6.out.trans (hB67.mono HBw6.out.size)
              have hcall := lawHolds_c y reps acc A1 c1 (some ⟨ba, oa, none⟩) ca w7 (hx.below hB7) (Hr.out.below hBw7) (Hra4.out.below hB47) (by omega) (by omega) (by omega) (by omega)
              have Hcall := Lib.hid hcall
              have HB67 := Lib.hid hB67
              have Hw7 := Lib.hid hw7
              clear hw7 hB7 hby hx hB67 hB47 hBw7 hcall hBj
              by_cases hun : y.c.unit = u
              · have hst := str_eq hun
                have hf := Hbf.out hun
                rw [hf] at Hcall
                clear Hbf hf hun
                go_wp2_with fail
                rw [← Hw7.out]
                refine Hcall.out.mono ?_
                rintro e w8 ⟨rfl, hb8⟩
                have HB8 := Lib.hid (HB67.out.trans (hb8.mono HB67.out.size))
                clear hb8
                go_wp2_with fail
                go_roundw
                case rel => exact ⟨j + 1, by omega, by go_num, HB8.out⟩
                case measure => simp [intOf]; omega
              · have hst := str_ne hun
                clear Hbf Hcall hun
                go_wp2_with fail
                rw [← Hw7.out]
                go_wp2_with fail
                go_roundw
                case rel => exact ⟨j + 1, by omega, by go_num, HB67.out⟩
                case measure => simp [intOf]; omega
            · obtain rfl : j = kk := by omega
              have HB9 := Lib.hid (HB6.out.trans (hBj.mono HB6.out.size))
              clear hBj
              go_wp2_with fail
              go_roundw
              case rel => exact ⟨k + 1, by omega, by go_num, HB9.out⟩
              case measure => simp [intOf]; omega
        · obtain rfl : k = vs.length := by omega
          have HB5 := Lib.hid (HB4.out.trans (hB.mono HB4.out.size))
          have Hra5 := Lib.hid (Hra4.out.below hB)
          have Hro5 := Lib.hid (Hro.out.below hB)
          have hol := Hoo.out.len
          clear hB Hrv4 Hro Hra4 Hva HB1 HB2 HB3 HB4
          go_wp2_with fail
          generalize wr = w5 at *
          go_loopw [155] (fun t wr => ∃ k : Nat, k ≤ reps.length ∧ t = .int .i64 k ∧ Below w5.heap.size w5 wr) (fun t wr => reps.length - (intOf t).toNat)
          case atStart => exact ⟨0, Nat.zero_le _, rfl, Below.refl _ _⟩
          case round =>
            obtain ⟨k, hk, rfl, hB⟩ := hrel
            by_cases hlt : k < reps.length
            · obtain ⟨br, or_, hA1, hbr, hcr⟩ := (Hr.out.below (HB5.out.trans (hB.mono HB5.out.size))) (by omega)
              obtain ⟨p0, p1⟩ := hcr k hlt
              have hmr := Hoo.out.mem reps[k] (List.getElem_mem hlt)
              have Hmr := Lib.hid hmr
              clear hcr hmr
              generalize reps[k] = r at *
              obtain ⟨w6, hw6⟩ : ∃ w6, w6 = wr.alloc (.cells #[.string r.unit, .int .i64 r.code] 46) := ⟨_, rfl⟩
              have hB6 : Below wr.heap.size wr w6 := by rw [hw6]; exact (Below.refl _ _).alloc (Nat.le_refl _) _
              have hby : Blk w6 wr.heap.size 46 #[.string r.unit, .int .i64 r.code] := by rw [hw6]; exact Blk.new wr _ _
              have hB56 := hB.trans (hB6.mono hB.size)
              have hBw6 := HB5.out.trans (hB56.mono HB5.out.size)
              have HY := Lib.hid hby
              have HL6 := Lib.hid (H.out.below hBw6)
              have HR6 := Lib.hid (Hr.out.below hBw6)
              have HA6 := Lib.hid (Hra5.out.below hB56)
              have HO6 := Lib.hid (Hro5.out.below hB56)
              have HB56 := Lib.hid hB56
              have Hw6 := Lib.hid hw6
              clear hB6 hby hB56 hBw6 hw6 hB
              subst hA1
              go_wp2_with fail
              rw [← Hw6.out]
              clear Hw6 p0 p1
              generalize wr.heap.size = gr at *
              clear wr
              go_loopw [17, 161] (fun v t wr => ∃ m : Nat, m ≤ L.length ∧ t = .int .i64 m ∧ v = .bool (explB (L.take m) reps acc r) ∧ Below w6.heap.size w6 wr) (fun _ t wr => L.length - (intOf t).toNat)
              case atStart => exact ⟨0, Nat.zero_le _, rfl, by simp [explB], Below.refl _ _⟩
              case round =>
                obtain ⟨m, hm, rfl, rfl, hBm⟩ := hrel
                by_cases hlm : m < L.length
                · obtain ⟨bl, ol2, hA, hbl, hcl⟩ := (HL6.out.below hBm) (by omega)
                  obtain ⟨d0, d1, d2, hx⟩ := hcl m hlm
                  have hxn := Hsm.out L[m].c (List.mem_map_of_mem (List.getElem_mem hlm))
                  have hsa := stepE_all L reps acc r m hlm
                  have Hsa := Lib.hid hsa
                  have hmz := hBm.size
                  clear hcl hsa
                  generalize explB (L.take m) reps acc r = t0 at *
                  generalize L[m] = x at *
                  replace d1 : wr.cell? ⟨bl, ol2 + m * 3 + 1, none⟩ = some (.slice x.n.a x.n.n x.n.c) := d1
                  replace d2 : wr.cell? ⟨bl, ol2 + m * 3 + 2, none⟩ = some (.slice x.x.a x.x.n x.x.c) := d2
                  rw [hx.nl] at d1
                  generalize hna : x.n.a = na at *
                  have Hna := Lib.hid hna
                  clear hna
                  obtain ⟨w7, hw7⟩ : ∃ w7, w7 = wr.alloc (.cells #[.string x.c.unit, .slice na x.c.needs.length x.n.c, .slice x.x.a x.x.n x.x.c] 33) := ⟨_, rfl⟩
                  have hB7 : Below wr.heap.size wr w7 := by rw [hw7]; exact (Below.refl _ _).alloc (Nat.le_refl _) _
                  have hby : Blk w7 wr.heap.size 33 #[.string x.c.unit, .slice na x.c.needs.length x.n.c, .slice x.x.a x.x.n x.x.c] := by rw [hw7]; exact Blk.new wr _ _
                  have q1 : w7.cell? ⟨wr.heap.size, 1, none⟩ = some (.slice na x.c.needs.length x.n.c) := hby.cell 1
                  have hB67 := hBm.trans (hB7.mono hmz)
                  have HX7 := Lib.hid (hx.below hB7)
                  have HYx := Lib.hid hby
                  have HY7 := Lib.hid (HY.out.below hB67 HY.out.lt)
                  have HR7 := Lib.hid (HR6.out.below hB67)
                  have HA7 := Lib.hid (HA6.out.below hB67)
                  have hnl := hx.nl
                  have HB67 := Lib.hid hB67
                  have Hw7 := Lib.hid hw7
                  clear hw7 hB7 hby hx hB67 hBm
                  subst hA
                  go_wp2_with fail
                  rw [← Hw7.out]
                  go_wp2_with fail
                  clear Hw7 d0 d1 d2 q1
                  generalize wr.heap.size = gx at *
                  clear wr
                  generalize hhb : holdB reps acc x.c = hb at *
                  have Hhb := Lib.hid hhb
                  clear hhb
                  go_loopw [17, 168] (fun v t wr => ∃ j : Nat, j ≤ x.c.needs.length ∧ t = .int .i64 j ∧ v = .bool (stepE t0 hb x.c.needs r j) ∧ Below w7.heap.size w7 wr) (fun _ t wr => x.c.needs.length - (intOf t).toNat)
                  case atStart => exact ⟨0, Nat.zero_le _, rfl, by rw [stepE_zero], Below.refl _ _⟩
                  case round =>
                    obtain ⟨j, hj, rfl, rfl, hBj⟩ := hrel
                    by_cases hlj : j < x.c.needs.length
                    · obtain ⟨bn, on, hN, hbn, hcn⟩ := (HX7.out.n.below hBj) (by omega)
                      rw [Hna.out] at hN
                      subst hN
                      obtain ⟨n0, n1⟩ := hcn j hlj
                      have hss := stepE_succ t0 hb x.c.needs r j hlj
                      have Hss := Lib.hid hss
                      have hjz := hBj.size
                      have hyb := HY7.out.below hBj HY7.out.lt
                      have hxb := HYx.out.below hBj HYx.out.lt
                      clear hcn hss
                      generalize stepE t0 hb x.c.needs r j = s0 at *
                      generalize x.c.needs[j] = y at *
                      obtain ⟨w8, hw8⟩ : ∃ w8, w8 = wr.alloc (.cells #[.string y.unit, .int .i64 y.code] 46) := ⟨_, rfl⟩
                      have hB8 : Below wr.heap.size wr w8 := by rw [hw8]; exact (Below.refl _ _).alloc (Nat.le_refl _) _
                      have hby : Blk w8 wr.heap.size 46 #[.string y.unit, .int .i64 y.code] := by rw [hw8]; exact Blk.new wr _ _
                      have y0 : w8.cell? ⟨wr.heap.size, 0, none⟩ = some (.string y.unit) := hby.cell 0
                      have y1 : w8.cell? ⟨wr.heap.size, 1, none⟩ = some (.int .i64 y.code) := hby.cell 1
                      have r0 : w8.cell? ⟨gr, 0, none⟩ = some (.string r.unit) := below_cell0 hB8 (hyb.cell 0)
                      have r1 : w8.cell? ⟨gr, 1, none⟩ = some (.int .i64 r.code) := below_cell0 hB8 (hyb.cell 1)
                      have x0 : w8.cell? ⟨gx, 0, none⟩ = some (.string x.c.unit) := below_cell0 hB8 (hxb.cell 0)
                      have x1 : w8.cell? ⟨gx, 1, none⟩ = some (.slice (some ⟨bn, on, none⟩) x.c.needs.length x.n.c) := below_cell0 hB8 (hxb.cell 1)
                      have x2 : w8.cell? ⟨gx, 2, none⟩ = some (.slice x.x.a x.x.n x.x.c) := below_cell0 hB8 (hxb.cell 2)
                      have r0' : wr.cell? ⟨gr, 0, none⟩ = some (.string r.unit) := hyb.cell 0
                      have r1' : wr.cell? ⟨gr, 1, none⟩ = some (.int .i64 r.code) := hyb.cell 1
                      have x0' : wr.cell? ⟨gx, 0, none⟩ = some (.string x.c.unit) := hxb.cell 0
                      have x1' : wr.cell? ⟨gx, 1, none⟩ = some (.slice (some ⟨bn, on, none⟩) x.c.needs.length x.n.c) := hxb.cell 1
                      have x2' : wr.cell? ⟨gx, 2, none⟩ = some (.slice x.x.a x.x.n x.x.c) := hxb.cell 2
                      have hgr := hyb.lt
                      have hgx := hxb.lt
                      have hB78 := hBj.trans (hB8.mono hjz)
                      have hcall := lawHolds_c x reps acc (some ⟨br, or_, none⟩) c1 Aa ca w8 (HX7.out.below hB78) (HR7.out.below hB78) (HA7.out.below hB78) (by omega) (by omega) (by omega) (by omega)
                      rw [Hhb.out] at hcall
                      unfold CsV.val at hcall
                      rw [hnl, Hna.out] at hcall
                      have Hcall := Lib.hid hcall
                      have HB78 := Lib.hid hB78
                      have Hw8 := Lib.hid hw8
                      clear hw8 hB8 hby hyb hxb hB78 hcall hBj
                      cases s0 with
                      | true =>
                        have hf := Lib.hid (Hss.out.trans (Bool.true_or _))
                        clear Hss Hcall
                        go_wp2_with fail
                        rw [← Hw8.out]
                        go_roundw
                        case rel => exact ⟨j + 1, by omega, by go_num, by rw [hf.out], HB78.out⟩
                        case measure => simp [intOf]; omega
                      | false =>
                        have hqk := rep_eql y r
                        have hgk := fun a b => rep_guard y r a b
                        by_cases hyr : y = r
                        · rw [decide_eq_true hyr] at hqk
                          have hf := Lib.hid (Hss.out.trans (by rw [decide_eq_true hyr, Bool.false_or, Bool.true_and]))
                          clear Hss hyr
                          go_wp2_with fail
                          rw [← Hw8.out]
                          refine Hcall.out.mono ?_
                          rintro e w9 ⟨rfl, hb9⟩
                          have HB9 := Lib.hid (HB78.out.trans (hb9.mono HB78.out.size))
                          clear hb9
                          go_wp2_with fail
                          go_roundw
                          case rel => exact ⟨j + 1, by omega, by go_num, by rw [hf.out], HB9.out⟩
                          case measure => simp [intOf]; omega
                        · rw [decide_eq_false hyr] at hqk
                          have hf := Lib.hid (Hss.out.trans (by rw [decide_eq_false hyr, Bool.false_or, Bool.false_and]))
                          clear Hss hyr Hcall
                          go_wp2_with fail
                          rw [← Hw8.out]
                          go_wp2_with fail
                          go_roundw
                          case rel => exact ⟨j + 1, by omega, by go_num, by rw [hf.out], HB78.out⟩
                          case measure => simp [intOf]; omega
                    · obtain rfl : j = x.c.needs.length := by omega
                      have HB9 := Lib.hid (HB67.out.trans (hBj.mono HB67.out.size))
                      clear hBj
                      go_wp2_with fail
                      go_roundw
                      case rel => exact ⟨m + 1, by omega, by go_num, by rw [Hsa.out], HB9.out⟩
                      case measure => simp [intOf]; omega
                · obtain rfl : m = L.length := by omega
                  rw [List.take_length]
                  have HBm := Lib.hid hBm
                  have HYm := Lib.hid (HY.out.below hBm HY.out.lt)
                  have HOm := Lib.hid (HO6.out.below hBm)
                  clear hBm HL6 HR6 HA6 HO6 HY
                  generalize explB L reps acc r = ex at *
                  go_wp2_with fail
                  generalize wr = w7 at *
                  go_loopw [18, 188] (fun v t wr => ∃ j : Nat, j ≤ ol.length ∧ t = .int .i64 j ∧ v = .bool (memB r (ol.take j)) ∧ Below w7.heap.size w7 wr) (fun _ t wr => ol.length - (intOf t).toNat)
                  case atStart => exact ⟨0, Nat.zero_le _, rfl, by simp [memB], Below.refl _ _⟩
                  case round =>
                    obtain ⟨j, hj, rfl, rfl, hBj⟩ := hrel
                    by_cases hlj : j < ol.length
                    · obtain ⟨bo, oo, hO, hbo, hco⟩ := (HOm.out.below hBj) (by omega)
                      rcases j with _ | jj
                      · obtain ⟨o0, o1⟩ := hco 0 hlj
                        rw [Nat.zero_mul, Nat.add_zero] at o0 o1
                        have htk := memB_take r ol 0 hlj
                        have Htk := Lib.hid htk
                        have hyb := HYm.out.below hBj HYm.out.lt
                        have hjz := hBj.size
                        clear hco htk
                        generalize memB r (ol.take 0) = v0 at *
                        generalize ol[0] = q at *
                        obtain ⟨w8, hw8⟩ : ∃ w8, w8 = wr.alloc (.cells #[.string q.unit, .int .i64 q.code] 46) := ⟨_, rfl⟩
                        have hB8 : Below wr.heap.size wr w8 := by rw [hw8]; exact (Below.refl _ _).alloc (Nat.le_refl _) _
                        have hby : Blk w8 wr.heap.size 46 #[.string q.unit, .int .i64 q.code] := by rw [hw8]; exact Blk.new wr _ _
                        have y0 : w8.cell? ⟨wr.heap.size, 0, none⟩ = some (.string q.unit) := hby.cell 0
                        have y1 : w8.cell? ⟨wr.heap.size, 1, none⟩ = some (.int .i64 q.code) := hby.cell 1
                        have r0 : w8.cell? ⟨gr, 0, none⟩ = some (.string r.unit) := below_cell0 hB8 (hyb.cell 0)
                        have r1 : w8.cell? ⟨gr, 1, none⟩ = some (.int .i64 r.code) := below_cell0 hB8 (hyb.cell 1)
                        have r0' : wr.cell? ⟨gr, 0, none⟩ = some (.string r.unit) := hyb.cell 0
                        have r1' : wr.cell? ⟨gr, 1, none⟩ = some (.int .i64 r.code) := hyb.cell 1
                        have hgr := hyb.lt
                        have HB78 := Lib.hid (hBj.trans (hB8.mono hjz))
                        have Hw8 := Lib.hid hw8
                        clear hw8 hB8 hby hyb hBj
                        subst hO
                        cases v0 with
                        | true =>
                          have hf := Lib.hid (Htk.out.trans (Bool.true_or _))
                          clear Htk
                          go_wp2_with fail
                          rw [← Hw8.out]
                          go_quiet (fail)
                          go_wp2_with fail
                          go_roundw
                          case rel => exact ⟨0 + 1, by omega, by go_num, by rw [hf.out], only_below HB78.out⟩
                          case measure => simp [intOf]; omega
                        | false =>
                          have hqk := rep_eql q r
                          have hgk := fun a b => rep_guard q r a b
                          have hf := Lib.hid (Htk.out.trans (Bool.false_or _))
                          clear Htk
                          go_wp2_with fail
                          rw [← Hw8.out]
                          go_quiet (fail)
                          go_wp2_with fail
                          go_roundw
                          case rel => exact ⟨0 + 1, by omega, by go_num, by rw [hf.out], only_below HB78.out⟩
                          case measure => simp [intOf]; omega
                      · obtain ⟨o0, o1⟩ := hco (jj + 1) hlj
                        have htk := memB_take r ol (jj + 1) hlj
                        have hpq := Hoo.out.asc jj hlj
                        obtain ⟨p0, p1⟩ := hco jj (by omega)
                        have Htk := Lib.hid htk
                        have hyb := HYm.out.below hBj HYm.out.lt
                        have hjz := hBj.size
                        clear hco htk
                        generalize memB r (ol.take (jj + 1)) = v0 at *
                        generalize ol[(jj + 1)] = q at *
                        obtain ⟨w8, hw8⟩ : ∃ w8, w8 = wr.alloc (.cells #[.string q.unit, .int .i64 q.code] 46) := ⟨_, rfl⟩
                        have hB8 : Below wr.heap.size wr w8 := by rw [hw8]; exact (Below.refl _ _).alloc (Nat.le_refl _) _
                        have hby : Blk w8 wr.heap.size 46 #[.string q.unit, .int .i64 q.code] := by rw [hw8]; exact Blk.new wr _ _
                        have y0 : w8.cell? ⟨wr.heap.size, 0, none⟩ = some (.string q.unit) := hby.cell 0
                        have y1 : w8.cell? ⟨wr.heap.size, 1, none⟩ = some (.int .i64 q.code) := hby.cell 1
                        have r0 : w8.cell? ⟨gr, 0, none⟩ = some (.string r.unit) := below_cell0 hB8 (hyb.cell 0)
                        have r1 : w8.cell? ⟨gr, 1, none⟩ = some (.int .i64 r.code) := below_cell0 hB8 (hyb.cell 1)
                        have r0' : wr.cell? ⟨gr, 0, none⟩ = some (.string r.unit) := hyb.cell 0
                        have r1' : wr.cell? ⟨gr, 1, none⟩ = some (.int .i64 r.code) := hyb.cell 1
                        have hgr := hyb.lt
                        have HB78 := Lib.hid (hBj.trans (hB8.mono hjz))
                        have Hw8 := Lib.hid hw8
                        generalize ol[jj] = p at *
                        have p0' := below_cell0 hB8 p0
                        have p1' := below_cell0 hB8 p1
                        have hi0 : (0 : Int) ≤ (jj : Int) := by omega
                        have hi1 : (jj : Int) < (ol.length : Int) := by omega
                        clear hw8 hB8 hby hyb hBj p0 p1
                        subst hO
                        rcases hpq with ⟨hpu, hpc⟩ | ⟨hpu, hpl⟩
                        · have hst := str_eq hpu
                          have hls : Op.bytesLess p.unit.toList q.unit.toList = false := by rw [hpu]; exact ltS_irrefl _
                          have hge : decide (p.code ≥ q.code) = false := decide_eq_false (by omega)
                          cases v0 with
                          | true =>
                            have hf := Lib.hid (Htk.out.trans (Bool.true_or _))
                            clear Htk
                            go_wp2_with fail
                            rw [← Hw8.out]
                            go_quiet (fail)
                            go_wp2_with fail
                            go_roundw
                            case rel => exact ⟨(jj + 1) + 1, by omega, by go_num, by rw [hf.out], only_below HB78.out⟩
                            case measure => simp [intOf]; omega
                          | false =>
                            have hqk := rep_eql q r
                            have hgk := fun a b => rep_guard q r a b
                            have hf := Lib.hid (Htk.out.trans (Bool.false_or _))
                            clear Htk
                            go_wp2_with fail
                            rw [← Hw8.out]
                            go_quiet (fail)
                            go_wp2_with fail
                            go_roundw
                            case rel => exact ⟨(jj + 1) + 1, by omega, by go_num, by rw [hf.out], only_below HB78.out⟩
                            case measure => simp [intOf]; omega
                        · have hst := str_ne hpu
                          have hls : Op.bytesLess p.unit.toList q.unit.toList = true := hpl
                          cases v0 with
                          | true =>
                            have hf := Lib.hid (Htk.out.trans (Bool.true_or _))
                            clear Htk
                            go_wp2_with fail
                            rw [← Hw8.out]
                            go_quiet (fail)
                            go_wp2_with fail
                            go_roundw
                            case rel => exact ⟨(jj + 1) + 1, by omega, by go_num, by rw [hf.out], only_below HB78.out⟩
                            case measure => simp [intOf]; omega
                          | false =>
                            have hqk := rep_eql q r
                            have hgk := fun a b => rep_guard q r a b
                            have hf := Lib.hid (Htk.out.trans (Bool.false_or _))
                            clear Htk
                            go_wp2_with fail
                            rw [← Hw8.out]
                            go_quiet (fail)
                            go_wp2_with fail
                            go_roundw
                            case rel => exact ⟨(jj + 1) + 1, by omega, by go_num, by rw [hf.out], only_below HB78.out⟩
                            case measure => simp [intOf]; omega
                    · obtain rfl : j = ol.length := by omega
                      rw [List.take_length, Hmr.out]
                      have HB9 := Lib.hid (HB56.out.trans ((HBm.out.trans (hBj.mono HBm.out.size)).mono HB56.out.size))
                      clear hBj Hmr
                      cases ex <;>
                      · go_wp2_with fail
                        go_roundw
                        case rel => exact ⟨k + 1, by omega, by go_num, HB9.out⟩
                        case measure => simp [intOf]; omega
            · obtain rfl : k = reps.length := by omega
              have HB9 := Lib.hid (HB5.out.trans (hB.mono HB5.out.size))
              clear hB
              go_wp2_with fail
              go_ret
              exact ⟨rfl, HB9.out⟩
end Go.Proofs.YtnbnkhockoflgaaGreatDoor
