/- MaintMore: the walk. -/
import Derived.Test.YtnbnkhockoflgaaGreatDoorP4
import Derived.Test.YtnbnkhockoflgaaGreatDoorL2
import Derived.Test.YtnbnkhockoflgaaGreatDoorJ19
set_option linter.unusedSimpArgs false
set_option linter.unusedVariables false
set_option linter.unusedSectionVars false
namespace Go.Proofs.YtnbnkhockoflgaaGreatDoor
open Go.ChangeShapes Go.WideShapes Go.ChangeAt Go.RowKit
attribute [local go_sem] Oper.semAt_some

/-- what Accused returns. -/
def accE (L : List CsV) (reps : List Rep) : List ByteArray := if okV (csOf L) = true then accV (csOf L) reps else []
def codeE (L : List CsV) : Int := if okV (csOf L) = true then 0 else 400
theorem Accused_e (L : List CsV) (reps : List Rep) (A : Option Addr) (c : Nat) (A2 : Option Addr) (c2 : Nat) (w : World) (h : RdCs w w.heap.size A L) (ok : ∀ x ∈ L, OkC x.c) (hl : L.length ≤ 100000)
    (hr : RdRep w w.heap.size A2 reps) (okr : ∀ r ∈ reps, r.ok) (hl2 : reps.length < maxLen) :
    Calls Tryz.prog 13 #[.slice A L.length c, .slice A2 reps.length c2] w fun e w' => ∃ A' c', e = .returned (.tuple #[.slice A' (accE L reps).length c', .int .i64 (codeE L)]) ∧ RdStr w' w'.heap.size A' (accE L reps) ∧ Below w.heap.size w w' := by
  refine (Accused_c L reps A c A2 c2 w h ok hl hr okr hl2).mono fun e w' ⟨hb, he⟩ => ?_
  unfold accE codeE
  by_cases ho : okV (csOf L) = true
  · rw [if_pos ho] at he ⊢
    rw [if_pos ho]
    obtain ⟨A', c', rfl, hr⟩ := he
    exact ⟨A', c', rfl, hr, hb⟩
  · rw [if_neg ho] at he ⊢
    rw [if_neg ho]
    exact ⟨none, 0, he, RdStr.nil, hb⟩
theorem accE_len (L : List CsV) (reps : List Rep) : (accE L reps).length ≤ L.length := by
  unfold accE
  split
  · refine Nat.le_trans (len_le _ _ (acc_nodup _ _) (acc_sub _ _)) (Nat.le_trans (len_units _) ?_)
    simp [csOf]
  · simp
theorem accE_turn (L : List CsV) (reps : List Rep) : accE L (turnV reps reps.length) = accE L reps := by unfold accE; rw [acc_turn]
theorem codeE_bare (L : List CsV) : codeE (L.map bare) = 0 := if_pos (ok_plain bare_excl)
theorem accE_more (L : List CsV) (reps : List Rep) (x : Rep) : ∀ u ∈ accE (L.map bare) reps, u ∈ accE (L.map bare) (reps ++ [x]) := fun u hu => by
  unfold accE at hu ⊢
  rw [if_pos (ok_plain bare_excl)] at hu ⊢
  exact acc_more bare_excl (fun r hr => by simp [hr]) u hu
theorem bare_rd {W : World} {B : Nat} {x : CsV} (h : x.rd W B) : (bare x).rd W B := ⟨h.nl, h.nc, h.nm, h.n, rfl, Nat.le_refl _, by simp [bare, maxLen], RdStr.nil⟩
theorem bare_ok {x : CsV} (h : OkC x.c) : OkC (bare x).c := ⟨h.u, h.n, fun s hs => by simp [bare] at hs⟩
theorem rdCs_of_own {W : World} {base c : Nat} {A : Option Addr} {l : List CsV} (h : W.ownsRow base 33 3 (.slice A l.length c) l.length (l.flatMap CsV.cells)) (hs : ∀ x ∈ l, x.rd W W.heap.size) : RdCs W W.heap.size A l := fun hn => by
  obtain ⟨g, cap, hv, _, hlt⟩ := h.form hn
  have hA : A = some ⟨g, 0, none⟩ := by injection hv
  subst hA
  refine ⟨g, 0, rfl, hlt, fun i hi => ?_⟩
  obtain ⟨q0, q1, q2⟩ := cellsC_get l i hi
  have c0 := h.cells (g := g) rfl _ _ q0
  have c1 := h.cells (g := g) rfl _ _ q1
  have c2 := h.cells (g := g) rfl _ _ q2
  rw [add_none] at c0 c1 c2
  exact ⟨by simpa using c0, by simpa using c1, by simpa using c2, hs _ (List.getElem_mem hi)⟩
theorem rep_one (l : List Rep) : ∀ u ∈ l.flatMap Rep.cells, u.oneCell' = true := fun u hu => by
  obtain ⟨r, _, hr⟩ := List.mem_flatMap.1 hu
  simp [Rep.cells] at hr
  rcases hr with rfl | rfl <;> rfl
theorem reads_rep {w : World} {A : Option Addr} {l : List Rep} (h : RdRep w w.heap.size A l) : Reads w w.heap.size 2 A l.length (l.flatMap Rep.cells) := ⟨cells2_length l, fun hn => by
  obtain ⟨b, o, rfl, hb, hc⟩ := h hn
  exact ⟨_, rfl, hb, rep_flat (B := 0) hc⟩⟩
theorem blk_flat {w : World} {g t : Nat} {cs : Array Value} (h : Blk w g t cs) : ∀ j u, cs.toList[j]? = some u → w.cell? ((⟨g, 0, none⟩ : Addr).add j) = some u := fun j u hu => by
  rw [addr_add_none, Nat.zero_add, h.cell j]
  simpa using hu
theorem turn_ok {reps : List Rep} (h : ∀ r ∈ reps, r.ok) : ∀ r ∈ turnV reps reps.length, r.ok := fun r hr => h r ((turn_all reps r).1 hr)

set_option maxRecDepth 100000 in
set_option maxHeartbeats 8000000 in
theorem maintMore_c (L : List CsV) (reps : List Rep) (x : Rep) (A : Option Addr) (c : Nat) (A1 : Option Addr) (c1 : Nat) (w : World) (h : RdCs w w.heap.size A L) (ok : ∀ x ∈ L, OkC x.c) (hl : L.length ≤ 2199023255552)
    (hr : RdRep w w.heap.size A1 reps) (okr : ∀ r ∈ reps, r.ok) (hl2 : reps.length ≤ 10000000000000) (okx : x.ok) :
    Calls Tryz.prog 5 #[.slice A L.length c, .slice A1 reps.length c1, x.val] w fun e w' => e = .returned (.bool true) ∧ Below w.heap.size w w' := by
  have H := Lib.hid h
  have Hr := Lib.hid hr
  clear h hr
  go_enter Tryz.func5, Tryz.ntmps5
  go_wp2_with fail
  refine (awake_c _).mono ?_
  rintro e w1 ⟨rfl, hb1⟩
  have hbx : Blk w1 w.heap.size 46 #[.string x.unit, .int .i64 x.code] := (Blk.new w 46 #[.string x.unit, .int .i64 x.code]).below hb1 (by simp)
  have hB1 : Below w.heap.size w w1 := ((Below.refl _ w).alloc (Nat.le_refl _) (.cells #[.string x.unit, .int .i64 x.code] 46)).trans (hb1.mono (by simp))
  have hla := Large_c L A c A1 reps.length c1 w1 (H.out.below hB1) hl hl2
  have HB1 := Lib.hid hB1
  have Hbx := Lib.hid hbx
  clear hb1 hB1 hbx
  cases hlv : largeV (csOf L) reps.length with
  | true =>
    rw [hlv] at hla
    have Hla := Lib.hid hla
    clear hla hlv
    go_wp2_with fail
    refine Hla.out.mono ?_
    rintro e w' ⟨rfl, hw'⟩
    subst hw'
    go_wp2_with fail
    go_ret
    exact ⟨rfl, HB1.out⟩
  | false =>
    rw [hlv] at hla
    obtain ⟨hn0, hn1, hsm⟩ := notLarge hlv
    have hn : L.length ≤ 60 := by simpa using hn0
    have Hla := Lib.hid hla
    clear hla hlv hn0 hsm
    by_cases h60 : reps.length = 60
    · have e60 : ((reps.length : Int) == 60) = true := by rw [h60]; rfl
      clear h60
      go_wp2_with fail
      refine Hla.out.mono ?_
      rintro e w' ⟨rfl, hw'⟩
      subst hw'
      go_wp2_with fail
      go_ret
      exact ⟨rfl, HB1.out⟩
    · obtain ⟨i0, hi0, hz0, hz1, hz2⟩ := info_parts info46
      have e60 : ((reps.length : Int) == 60) = false := by rw [beq_eq_false_iff_ne]; omega
      clear h60
      go_wp2_with fail
      refine Hla.out.mono ?_
      rintro e w' ⟨rfl, hw'⟩
      subst hw'
      go_wp2_with fail
      go_loopw [7, 8] (fun v t wr => ∃ k : Nat, k ≤ reps.length ∧ t = .int .i64 ((reps.length : Int) - 1 - k) ∧ Below w1.heap.size w1 wr ∧ wr.ownsRow w1.heap.size 46 2 v (turnV reps k).length ((turnV reps k).flatMap Rep.cells)) (fun _ t wr => (intOf t + 1).toNat)
      case atStart => exact ⟨0, Nat.zero_le _, by simp, Below.refl _ _, World.ownsRow_nil _ _ _ _⟩
      case round =>
        obtain ⟨k, hk, rfl, hB, hown⟩ := hrel
        obtain ⟨Av, cv, rfl, _⟩ := own_caps hown
        by_cases hlt : k < reps.length
        · obtain ⟨i, hi⟩ : ∃ i : Nat, i = reps.length - 1 - k := ⟨_, rfl⟩
          have hie : (reps.length : Int) - 1 - k = (i : Int) := by omega
          have hil : i < reps.length := by omega
          obtain ⟨bo, oo, hA, hbo, hc⟩ := (Hr.out.below (HB1.out.trans (hB.mono HB1.out.size))) (by omega)
          obtain ⟨d0, d1⟩ := hc i hil
          have hts : turnV reps (k + 1) = turnV reps k ++ [reps[i], reps[i]] := by
            simp only [turnV]
            rw [List.getElem?_eq_getElem (by omega)]
            subst hi
            rfl
          have htl := turn_len reps k hk
          have htl2 : (turnV reps k).length ≤ 120 := by omega
          have hBz := hB.size
          have hs0 : (0 : Int) ≤ (i : Int) := by omega
          have hs1 : (i : Int) < (reps.length : Int) := by omega
          have Hts := Lib.hid hts
          have Hown := Lib.hid hown
          have HB := Lib.hid hB
          rw [hie]
          have Hie := Lib.hid hie
          clear hc hts hown hB hi hie htl
          generalize turnV reps k = tk at *
          generalize reps[i] = y at *
          subst hA
          go_wp2_with fail
          go_region_law (refine step_append_lies _ rfl (.tmp 39) (.tmp 48) 31 rfl w1.heap.size 46 i0 _ 2 24 Tryz.underlying31 hi0 hz0 hz1 hz2 rfl (by decide) (.slice Av tk.length cv) tk.length _ (by simp [Act.eval, Act.put]) ((Hown.out.alloc _).drew) ⟨wr.heap.size, 0, none⟩ 2 2 [.string y.unit, .int .i64 y.code, .string y.unit, .int .i64 y.code] (by simp [Act.eval, Act.put]) rfl (World.news_of_block (cs := #[.string y.unit, .int .i64 y.code, .string y.unit, .int .i64 y.code]) (t := 46) (fr := (0, 0)) (heap_alloc_new wr _)) (by simp [Value.oneCell']) (by omega) (by unfold maxLen; omega) (by omega) (by simp; omega) (wr.heap.size + 1) (by simp) ?_; intro g cap w2 hown2 hgrow hg hgl)
          -- PRINTED BELOW
          all_goals
            have hnew : ∀ g, (Value.slice Av tk.length cv).ownBlock = some g → w1.heap.size ≤ g := fun g hg => (Hown.out.lt g hg).1
            have hB2 := ((HB.out.alloc hBz (.cells #[.string y.unit, .int .i64 y.code, .string y.unit, .int .i64 y.code] 46)).drew).grown hgrow (by simp; omega) hnew
            have HB2 := Lib.hid hB2
            have Hown2 := Lib.hid hown2
            clear hB2 hown2 hgrow hg hgl hnew
            go_wp2_with fail
            go_roundw
            case rel => exact ⟨k + 1, by omega, by have := Hie.out; go_num, HB2.out, by rw [Hts.out]; simpa [Rep.cells] using Hown2.out⟩
            case measure => simp [intOf]; try omega
        · obtain rfl : k = reps.length := by omega
          have hm1 : (reps.length : Int) - 1 - (reps.length : Int) = -1 := by omega
          rw [hm1]
          have htl := turn_len reps reps.length (Nat.le_refl _)
          have hRT := rdRep_of_own hown
          have hto := turn_ok okr
          have hat := accE_turn L reps
          have hB2 := HB1.out.trans (hB.mono HB1.out.size)
          have hal := accE_len L reps
          have H1 := Lib.hid (Accused_e L reps A c A1 c1 wr (H.out.below hB2) ok (by omega) (Hr.out.below hB2) okr (by unfold maxLen; omega))
          have h2 := fun w3 (hb3 : Below wr.heap.size wr w3) => Accused_e L (turnV reps reps.length) A c Av cv w3 (H.out.below (hB2.trans (hb3.mono hB2.size))) ok (by omega) (hRT.below hb3) hto (by unfold maxLen; omega)
          rw [hat] at h2
          have H2 := Lib.hid h2
          have Hbx2 := Lib.hid (Hbx.out.below hB Hbx.out.lt)
          have HB2 := Lib.hid hB2
          clear hto hat hRT h2 hB2 hown hB Hbx htl hm1
          generalize (turnV reps reps.length).length = tn at *
          generalize accE L reps = acc at *
          generalize codeE L = cd at *
          go_wp2_with fail
          refine H1.out.mono ?_
          rintro e w3 ⟨Aa, ca, rfl, hra, hb3⟩
          have Hra := Lib.hid hra
          have Hb3 := Lib.hid hb3
          clear H1 hra hb3
          go_wp2_with fail
          refine (H2.out _ Hb3.out).mono ?_
          rintro e w4 ⟨Ab, cb, rfl, hrb, hb4⟩
          have h3 := sameTexts_c acc acc Aa Ab ca cb w4 (Hra.out.below hb4) hrb (by omega)
          rw [eqL_true rfl] at h3
          have H3 := Lib.hid h3
          have hb24 := Hb3.out.trans (hb4.mono Hb3.out.size)
          have Hb4 := Lib.hid hb24
          clear H2 hrb hb4 h3 hb24 Hra Hb3
          have hcd : (cd != cd) = false := by simp
          go_wp2_with fail
          refine H3.out.mono ?_
          rintro e w5 ⟨rfl, hb5⟩
          have hb25 := Hb4.out.trans (hb5.mono Hb4.out.size)
          have HB5 := Lib.hid (HB2.out.trans (hb25.mono HB2.out.size))
          have Hbx5 := Lib.hid (Hbx2.out.below hb25 Hbx2.out.lt)
          clear H3 hb5 hb25 Hb4 Hbx2 HB2 HB1
          obtain ⟨i1, hj0, hj1, hj2, hj3⟩ := info_parts info33
          go_wp2_with fail
          go_loopw [13, 73] (fun v t wr => ∃ k : Nat, k ≤ L.length ∧ t = .int .i64 k ∧ Below w5.heap.size w5 wr ∧ wr.ownsRow w5.heap.size 33 3 v ((L.take k).map bare).length (((L.take k).map bare).flatMap CsV.cells)) (fun _ t wr => L.length - (intOf t).toNat)
          case atStart => exact ⟨0, Nat.zero_le _, rfl, Below.refl _ _, World.ownsRow_nil _ _ _ _⟩
          case round =>
            obtain ⟨m, hm, rfl, hBm, hown⟩ := hrel
            obtain ⟨Ap, cp, rfl, _⟩ := own_caps hown
            by_cases hlm : m < L.length
            · obtain ⟨bl, ol, hA, hbl, hcl⟩ := (H.out.below (HB5.out.trans (hBm.mono HB5.out.size))) (by omega)
              obtain ⟨d0, d1, d2, hx⟩ := hcl m hlm
              have hts : (L.take (m + 1)).map bare = (L.take m).map bare ++ [bare L[m]] := by rw [List.take_succ_eq_append_getElem hlm, List.map_append]; rfl
              have hpl : ((L.take m).map bare).length ≤ 60 := by simp; omega
              have Hts := Lib.hid hts
              have Hown := Lib.hid hown
              have HBm := Lib.hid hBm
              have hmz := hBm.size
              clear hcl hx hts hown hBm
              generalize (L.take m).map bare = pm at *
              generalize L[m] = x at *
              replace d1 : wr.cell? ⟨bl, ol + m * 3 + 1, none⟩ = some (.slice x.n.a x.n.n x.n.c) := d1
              replace d2 : wr.cell? ⟨bl, ol + m * 3 + 2, none⟩ = some (.slice x.x.a x.x.n x.x.c) := d2
              subst hA
              go_wp2_with (at_builtin; refine wpList_append_own _ rfl (.tmp 77) (.tmp 83) 22 rfl w5.heap.size 33 i1 (.agg #[.string ⟨#[]⟩, .slice none 0 0, .slice none 0 0]) 3 64 Tryz.underlying22 hj0 hj1 hj2 hj3 rfl (by decide) _ _ _ rfl ((Hown.out.alloc _).alloc _) ⟨wr.heap.size + 1, 0, none⟩ 1 1 [.string x.c.unit, .slice x.n.a x.n.n x.n.c, .slice none 0 0] rfl rfl ?c1 ?c2 ?c3 ?c4 ?c5 ?_)
              case c1 =>
                intro j u' hj
                have hbk := (Blk.new (wr.alloc (.cells #[.string x.c.unit, .slice x.n.a x.n.n x.n.c, .slice x.x.a x.x.n x.x.c] 33)) 33 #[.string x.c.unit, .slice x.n.a x.n.n x.n.c, .slice none 0 0]).cell j
                rw [World.size_alloc] at hbk
                rw [addr_add_none, Nat.zero_add, hbk]
                simpa using hj
              case c2 => intro u' hu'; simp at hu'; rcases hu' with rfl | rfl | rfl <;> rfl
              case c3 => unfold maxLen; omega
              case c4 => omega
              case c5 => simp; omega
              intro v6 w6 hown6 hg6 _
              have hb6 := ((HBm.out.alloc hmz (.cells #[.string x.c.unit, .slice x.n.a x.n.n x.n.c, .slice x.x.a x.x.n x.x.c] 33)).alloc (by simp; omega) (.cells #[.string x.c.unit, .slice x.n.a x.n.n x.n.c, .slice none 0 0] 33)).grown hg6 (by simp; omega) (fun g hg => (Hown.out.lt g hg).1)
              have HR := Lib.hid (And.intro hb6 hown6)
              clear hown6 hg6 hb6
              go_wp2_with fail
              go_roundw
              case rel => exact ⟨m + 1, by omega, by go_num, HR.out.1, by rw [Hts.out]; simpa [CsV.cells, bare] using HR.out.2⟩
              case measure => simp [intOf]; omega
            · obtain rfl : m = L.length := by omega
              rw [List.take_length] at hown ⊢
              have hB6 := HB5.out.trans (hBm.mono HB5.out.size)
              have hpr : ∀ x ∈ L.map bare, x.rd wr wr.heap.size := fun x hx => by
                obtain ⟨y, hy, rfl⟩ := List.mem_map.1 hx
                obtain ⟨i, hi, rfl⟩ := List.getElem_of_mem hy
                obtain ⟨_, _, _, _, hcl⟩ := (H.out.below hB6) (by omega)
                exact bare_rd (hcl i hi).2.2.2
              have hrp := rdCs_of_own hown hpr
              have hpo : ∀ x ∈ L.map bare, OkC x.c := fun x hx => by
                obtain ⟨y, hy, rfl⟩ := List.mem_map.1 hx
                exact bare_ok (ok y hy)
              have hpl : (L.map bare).length = L.length := by simp
              have hcz := codeE_bare L
              have hmo := accE_more L reps x
              have hox : ∀ r ∈ reps ++ [x], r.ok := fun r hr => by
                rcases List.mem_append.1 hr with hr | hr
                · exact okr r hr
                · simp at hr; subst hr; exact okx
              have hal2 := Nat.le_trans (accE_len (L.map bare) (reps ++ [x])) (show (L.map bare).length ≤ 60 by omega)
              have hal3 := Nat.le_trans (accE_len (L.map bare) reps) (show (L.map bare).length ≤ 60 by omega)
              have h1 := Accused_e (L.map bare) reps Ap cp A1 c1 wr hrp hpo (by omega) (Hr.out.below hB6) okr (by unfold maxLen; omega)
              have h2 := fun W (hb : Below wr.heap.size wr W) A9 c9 (hr9 : RdRep W W.heap.size A9 (reps ++ [x])) => Accused_e (L.map bare) (reps ++ [x]) Ap cp A9 c9 W (hrp.below hb) hpo (by omega) hr9 hox (by unfold maxLen; simp; omega)
              rw [hcz] at h1 h2
              have Hrxs : Hid (∃ rx, rx = reps ++ [x]) := Lib.hid ⟨_, rfl⟩
              obtain ⟨rx, hrxs⟩ := Hrxs.out
              rw [← hrxs] at h2 hmo hal2
              have Hrx := Lib.hid hrxs
              have H1 := Lib.hid h1
              have H2 := Lib.hid h2
              have Hmo := Lib.hid hmo
              have Hbx6 := Lib.hid (Hbx5.out.below hBm Hbx5.out.lt)
              have HB6 := Lib.hid hB6
              have Hrr := Lib.hid (Hr.out.below hB6)
              clear hrp hpr hpo h1 h2 hmo hBm hown Hbx5 HB5 hcz hox hB6 hpl hrxs Hrxs
              generalize accE (L.map bare) rx = ay at *
              generalize accE (L.map bare) reps = ax at *
              generalize (L.map bare).length = pl at *
              go_wp2_with fail
              refine H1.out.mono ?_
              rintro e w7 ⟨Ax, cx, rfl, hrx, hb7⟩
              have hbx7 := Hbx6.out.below hb7 Hbx6.out.lt
              have hHeld : w7.drew.cell? ⟨w.heap.size, 0, none⟩ = some (.string x.unit) ∧ w7.drew.cell? ⟨w.heap.size, 1, none⟩ = some (.int .i64 x.code) := ⟨hbx7.cell 0, hbx7.cell 1⟩
              have hz7 := hb7.drew
              have hrr7 := (Hrr.out.below hb7).below (w' := w7.drew) (Below.refl _ _).drew
              have hrx7 := hrx.below (w' := w7.drew) (Below.refl _ _).drew
              have HZ7 := Lib.hid hz7
              have Hrr7 := Lib.hid hrr7
              have Hrx7 := Lib.hid hrx7
              clear H1 hrx hb7 hbx7 hz7 hrr7 hrx7 Hbx6 Hrr
              go_wp2_with fail
              refine wp_region_S (fun W' => W'.cell? ⟨w.heap.size, 0, none⟩ = some (.string x.unit) ∧ W'.cell? ⟨w.heap.size, 1, none⟩ = some (.int .i64 x.code)) 12 (by kernel_rfl) hHeld (fun hHeld => ?_)
              generalize w7.drew = z at *
              have hHz := hHeld
              have hzw : w.heap.size < z.heap.size := World.block_lt_of_cell? _ _ hHeld.1
              have hrd := reads_rep Hrr7.out
              refine wpAnyS_take (i := 0) (v := ?_) rfl (by kernel_rfl) (by kernel_rfl) (by kernel_rfl) (by kernel_rfl) (fun c a w h => h) (Or.inl ⟨by rfl, ?_⟩) hHeld ?_
              rotate_left
              · intro w hSw
                (try obtain ⟨hSw1, hSw2⟩ := hSw)
                go_simp
                first | done | with_reducible rfl
              simp only [Act.put, List.setIfInBounds_toArray, List.set_cons_zero, List.set_cons_succ]
              refine wpAnyS_take (i := 2) (v := ?_) rfl (by kernel_rfl) (by kernel_rfl) (by kernel_rfl) (by kernel_rfl) (fun c a w h => h) (Or.inl ⟨by rfl, ?_⟩) hHeld ?_
              rotate_left
              · intro w hSw
                (try obtain ⟨hSw1, hSw2⟩ := hSw)
                go_simp
                first | done | with_reducible rfl
              simp only [Act.put, List.setIfInBounds_toArray, List.set_cons_zero, List.set_cons_succ]
              refine wpAnyS_take (i := 4) (v := ?_) rfl (by kernel_rfl) (by kernel_rfl) (by kernel_rfl) (by kernel_rfl) (fun c a w h => h) (Or.inl ⟨by rfl, ?_⟩) hHeld ?_
              rotate_left
              · intro w hSw
                (try obtain ⟨hSw1, hSw2⟩ := hSw)
                go_simp
                first | done | with_reducible rfl
              simp only [Act.put, List.setIfInBounds_toArray, List.set_cons_zero, List.set_cons_succ]
              refine wpAnyS_ready (rs := [1, 5]) (by kernel_rfl) (by simp) ?_
              refine AllReadyS.cons rfl (fun K hK => ?_) (AllReadyS.cons rfl (fun K hK => ?_) AllReadyS.nil)
              · go_simp
                have hal1 := fun (p : Addr) (y : Value) (hp : z.cell? p = some y) => (World.cell?_alloc_lt z (.cells #[] 46) p (World.block_lt_of_cell? _ _ hp)).trans hp
                have hHeld1 := And.intro (hal1 _ _ hHeld.1) (hal1 _ _ hHeld.2)
                refine hK.out _ _ (fun _ => hHeld1) ?_
                clear hK hal1 K hHeld
                have hHeld := hHeld1
                try simp only [Act.put, List.setIfInBounds_toArray, List.set_cons_zero, List.set_cons_succ]
                have hown1 := World.ownsRow_made (base := z.heap.size) (e := 46) (size := 2) z #[] 0 (Nat.le_refl _) (by simp [maxLen]) rfl
                refine wpAnyS_ready (rs := [3, 5]) (by kernel_rfl) (by simp) ?_
                refine AllReadyS.cons rfl (fun K hK => ?_) (AllReadyS.cons rfl (fun K hK => ?_) AllReadyS.nil)
                · refine step_append_any _ (by rfl) (.tmp 94) (.tmp 95) 31 (by rfl) z.heap.size 46 i0 _ 2 24 Tryz.underlying31 hi0 hz0 hz1 hz2 rfl (by decide) _ 0 [] (by rfl) (hown1) z.heap.size A1 reps.length c1 (reps.flatMap Rep.cells) (by rfl) (hrd.alloc (Nat.le_refl _) _) (rep_one reps) (by unfold maxLen; omega) (by omega) (by simp) ?_
                  intro v3 W3 hown3 hg3 _
                  rw [Nat.zero_add, List.nil_append] at hown3
                  have hbel3 := ((Below.refl _ z).alloc (Nat.le_refl _) (.cells #[] 46)).grown hg3 (by simp) (fun g hg => by simp [Value.ownBlock] at hg; omega)
                  have hHeld3 := And.intro ((hbel3.cell (p := ⟨w.heap.size, 0, none⟩) hzw).trans hHz.1) ((hbel3.cell (p := ⟨w.heap.size, 1, none⟩) hzw).trans hHz.2)
                  refine hK.out _ _ (fun _ => hHeld3) ?_
                  clear hK K hHeld hown1 hg3
                  have hHeld := hHeld3
                  try simp only [Act.put, List.setIfInBounds_toArray, List.set_cons_zero, List.set_cons_succ]
                  refine wpAnyS_ready (rs := [5]) (by kernel_rfl) (by simp) ?_
                  refine AllReadyS.cons rfl (fun K hK => ?_) AllReadyS.nil
                  go_simp
                  have hal5 := fun (p : Addr) (y : Value) (hp : W3.cell? p = some y) => (World.cell?_alloc_lt W3 (.cells #[.string x.unit, .int .i64 x.code] 46) p (World.block_lt_of_cell? _ _ hp)).trans hp
                  have hHeld5 := And.intro (hal5 _ _ hHeld.1) (hal5 _ _ hHeld.2)
                  refine hK.out _ _ (fun _ => hHeld5) ?_
                  clear hK hal5 K hHeld
                  have hHeld := hHeld5
                  try simp only [Act.put, List.setIfInBounds_toArray, List.set_cons_zero, List.set_cons_succ]
                  have hblk : Blk (W3.alloc (.cells #[.string x.unit, .int .i64 x.code] 46)) W3.heap.size 46 #[.string x.unit, .int .i64 x.code] := Blk.new W3 46 _
                  have hown3 := hown3.alloc (.cells #[.string x.unit, .int .i64 x.code] 46)
                  have hbel := hbel3.alloc hbel3.size (.cells #[.string x.unit, .int .i64 x.code] 46)
                  generalize W3.alloc (.cells #[.string x.unit, .int .i64 x.code] 46) = W6 at *
                  generalize W3.heap.size = g98 at *
                  clear hbel3 hrd
                  refine wpAnyS_ready (rs := [6]) (by kernel_rfl) (by simp) ?_
                  refine AllReadyS.cons rfl (fun K hK => ?_) AllReadyS.nil
                  refine step_append_any _ (by rfl) (.tmp 96) (.tmp 98) 31 (by rfl) z.heap.size 46 i0 _ 2 24 Tryz.underlying31 hi0 hz0 hz1 hz2 rfl (by decide) v3 reps.length (reps.flatMap Rep.cells) (by rfl) hown3 (g98 + 1) (some ⟨g98, 0, none⟩) 1 1 [.string x.unit, .int .i64 x.code] (by rfl) ⟨rfl, fun _ => ⟨_, rfl, Nat.lt_succ_self _, blk_flat hblk⟩⟩ (by intro u hu; simp at hu; rcases hu with rfl | rfl <;> rfl) (by unfold maxLen; omega) (by omega) hbel.size ?_
                  intro v6 W7 hown7 hg7 _
                  have hbel7 := hbel.grown hg7 hbel.size (fun g hg => (hown3.lt g hg).1)
                  have hHeld7 := And.intro ((hbel7.cell (p := ⟨w.heap.size, 0, none⟩) hzw).trans hHz.1) ((hbel7.cell (p := ⟨w.heap.size, 1, none⟩) hzw).trans hHz.2)
                  refine hK.out _ _ (fun _ => hHeld7) ?_
                  clear hK K
                  have hle : reps.length + 1 = rx.length := by rw [Hrx.out]; simp
                  have hfl : reps.flatMap Rep.cells ++ [.string x.unit, .int .i64 x.code] = rx.flatMap Rep.cells := by rw [Hrx.out]; simp [Rep.cells]
                  rw [hle, hfl] at hown7
                  obtain ⟨A9, c9, rfl, _⟩ := own_caps hown7
                  have hr9 := rdRep_of_own hown7
                  have Hbel7 := Lib.hid hbel7
                  clear hle hfl hown7 hg7 hown3 hblk hHeld
                  try simp only [Act.put, List.setIfInBounds_toArray, List.set_cons_zero, List.set_cons_succ]
                  refine wpAnyS_ready (rs := [7]) (by kernel_rfl) (by simp) ?_
                  refine AllReadyS.cons rfl (fun K hK => ?_) AllReadyS.nil
                  go_simp
                  refine (H2.out W7 (HZ7.out.trans (Hbel7.out.mono HZ7.out.size)) A9 c9 hr9).mono ?_
                  rintro e W8 ⟨Ay, cy, rfl, hry, hb8⟩
                  have hbel8 := Hbel7.out.trans (hb8.mono Hbel7.out.size)
                  have hHeld8 := And.intro ((hbel8.cell (p := ⟨w.heap.size, 0, none⟩) hzw).trans hHz.1) ((hbel8.cell (p := ⟨w.heap.size, 1, none⟩) hzw).trans hHz.2)
                  refine hK.out _ _ (fun _ => hHeld8) ?_
                  have Hrx8 := Lib.hid (Hrx7.out.below hbel8)
                  have Hry8 := Lib.hid hry
                  have HB8 := Lib.hid (HB6.out.trans ((HZ7.out.trans (hbel8.mono HZ7.out.size)).mono HB6.out.size))
                  clear hK K hbel8 hry hb8 Hbel7 hHeld7 hr9 H2
                  try simp only [Act.put, List.setIfInBounds_toArray, List.set_cons_zero, List.set_cons_succ]
                  refine wpAnyS_take (i := 8) (v := ?_) rfl (by kernel_rfl) (by kernel_rfl) (by kernel_rfl) (by kernel_rfl) (fun c a w h => h) (Or.inl ⟨by rfl, ?_⟩) hHeld8 ?_
                  rotate_left
                  · intro w hSw
                    (try obtain ⟨hSw1, hSw2⟩ := hSw)
                    go_simp
                    first | done | with_reducible rfl
                  simp only [Act.put, List.setIfInBounds_toArray, List.set_cons_zero, List.set_cons_succ]
                  refine wpAnyS_take (i := 9) (v := ?_) rfl (by kernel_rfl) (by kernel_rfl) (by kernel_rfl) (by kernel_rfl) (fun c a w h => h) (Or.inl ⟨by rfl, ?_⟩) hHeld8 ?_
                  rotate_left
                  · intro w hSw
                    (try obtain ⟨hSw1, hSw2⟩ := hSw)
                    go_simp
                    first | done | with_reducible rfl
                  simp only [Act.put, List.setIfInBounds_toArray, List.set_cons_zero, List.set_cons_succ]
                  refine wpAnyS_take (i := 10) (v := ?_) rfl (by kernel_rfl) (by kernel_rfl) (by kernel_rfl) (by kernel_rfl) (fun c a w h => h) (Or.inl ⟨by rfl, ?_⟩) hHeld8 ?_
                  rotate_left
                  · intro w hSw
                    (try obtain ⟨hSw1, hSw2⟩ := hSw)
                    go_simp
                    first | done | with_reducible rfl
                  simp only [Act.put, List.setIfInBounds_toArray, List.set_cons_zero, List.set_cons_succ]
                  refine wpAnyS_take (i := 11) (v := ?_) rfl (by kernel_rfl) (by kernel_rfl) (by kernel_rfl) (by kernel_rfl) (fun c a w h => h) (Or.inl ⟨by rfl, ?_⟩) hHeld8 ?_
                  rotate_left
                  · intro w hSw
                    (try obtain ⟨hSw1, hSw2⟩ := hSw)
                    go_simp
                    first | done | with_reducible rfl
                  simp only [Act.put, List.setIfInBounds_toArray, List.set_cons_zero, List.set_cons_succ]
                  refine wpAnyS_ready (rs := [12]) (by kernel_rfl) (by simp) ?_
                  refine AllReadyS.cons rfl (fun K hK => ?_) AllReadyS.nil
                  go_simp
                  refine hK.out _ _ (fun h => absurd h (by decide)) ?_
                  clear hK K hHeld8 hHz
                  refine wpAnyS_done (by kernel_rfl) ?_ _
                  go_wp2_with fail
                  generalize W8 = w8 at *
                  go_loopw [105] (fun t wr => ∃ k : Nat, k ≤ ax.length ∧ t = .int .i64 k ∧ wr = w8) (fun t wr => ax.length - (intOf t).toNat)
                  case atStart => exact ⟨0, Nat.zero_le _, rfl, rfl⟩
                  case round =>
                    obtain ⟨k, hk, rfl, rfl⟩ := hrel
                    by_cases hlk : k < ax.length
                    · obtain ⟨bx, ox, hAx, hbx, hcx⟩ := Hrx8.out (by omega)
                      have x0 := hcx k hlk
                      have hhas := has_c ay Ay cy ax[k] wr Hry8.out (by omega)
                      rw [memB_iff.2 (Hmo.out _ (List.getElem_mem hlk))] at hhas
                      have Hhas := Lib.hid hhas
                      clear hhas hcx
                      generalize ax[k] = u at *
                      subst hAx
                      go_wp2_with fail
                      refine Hhas.out.mono ?_
                      rintro e w' ⟨rfl, hw'⟩
                      subst hw'
                      go_wp2_with fail
                      go_roundw
                      case rel => exact ⟨k + 1, by omega, by go_num, trivial⟩
                      case measure => simp [intOf]; omega
                    · obtain rfl : k = ax.length := by omega
                      go_wp2_with fail
                      go_ret
                      exact ⟨rfl, HB8.out⟩
                · go_simp
                  have hal5 := fun (p : Addr) (y : Value) (hp : (z.alloc (.cells #[] 46)).cell? p = some y) => (World.cell?_alloc_lt (z.alloc (.cells #[] 46)) (.cells #[.string x.unit, .int .i64 x.code] 46) p (World.block_lt_of_cell? _ _ hp)).trans hp
                  have hHeld5 := And.intro (hal5 _ _ hHeld.1) (hal5 _ _ hHeld.2)
                  refine hK.out _ _ (fun _ => hHeld5) ?_
                  clear hK hal5 K hHeld
                  have hHeld := hHeld5
                  try simp only [Act.put, List.setIfInBounds_toArray, List.set_cons_zero, List.set_cons_succ]
                  have hblk := Blk.new (z.alloc (.cells #[] 46)) 46 #[.string x.unit, .int .i64 x.code]
                  rw [World.size_alloc] at hblk
                  have hown1' := hown1.alloc (.cells #[.string x.unit, .int .i64 x.code] 46)
                  refine wpAnyS_ready (rs := [3]) (by kernel_rfl) (by simp) ?_
                  refine AllReadyS.cons rfl (fun K hK => ?_) AllReadyS.nil
                  refine step_append_any _ (by rfl) (.tmp 94) (.tmp 95) 31 (by rfl) z.heap.size 46 i0 _ 2 24 Tryz.underlying31 hi0 hz0 hz1 hz2 rfl (by decide) _ 0 [] (by rfl) (hown1') z.heap.size A1 reps.length c1 (reps.flatMap Rep.cells) (by rfl) ((hrd.alloc (Nat.le_refl _) _).alloc (by simp) _) (rep_one reps) (by unfold maxLen; omega) (by omega) (by simp; omega) ?_
                  intro v3 W3 hown3 hg3 _
                  rw [Nat.zero_add, List.nil_append] at hown3
                  have hbel := (((Below.refl _ z).alloc (Nat.le_refl _) (.cells #[] 46)).alloc (by simp) (.cells #[.string x.unit, .int .i64 x.code] 46)).grown hg3 (by simp; omega) (fun g hg => by simp [Value.ownBlock] at hg; omega)
                  have hblk := hblk.grown hg3 (by simp [Value.ownBlock])
                  have hHeld3 := And.intro ((hbel.cell (p := ⟨w.heap.size, 0, none⟩) hzw).trans hHz.1) ((hbel.cell (p := ⟨w.heap.size, 1, none⟩) hzw).trans hHz.2)
                  refine hK.out _ _ (fun _ => hHeld3) ?_
                  clear hK K hHeld hown1 hown1' hg3
                  have hHeld := hHeld3
                  try simp only [Act.put, List.setIfInBounds_toArray, List.set_cons_zero, List.set_cons_succ]
                  generalize z.heap.size + 1 = g98 at *
                  clear hrd
                  refine wpAnyS_ready (rs := [6]) (by kernel_rfl) (by simp) ?_
                  refine AllReadyS.cons rfl (fun K hK => ?_) AllReadyS.nil
                  refine step_append_any _ (by rfl) (.tmp 96) (.tmp 98) 31 (by rfl) z.heap.size 46 i0 _ 2 24 Tryz.underlying31 hi0 hz0 hz1 hz2 rfl (by decide) v3 reps.length (reps.flatMap Rep.cells) (by rfl) hown3 (g98 + 1) (some ⟨g98, 0, none⟩) 1 1 [.string x.unit, .int .i64 x.code] (by rfl) ⟨rfl, fun _ => ⟨_, rfl, Nat.lt_succ_self _, blk_flat hblk⟩⟩ (by intro u hu; simp at hu; rcases hu with rfl | rfl <;> rfl) (by unfold maxLen; omega) (by omega) hbel.size ?_
                  intro v6 W7 hown7 hg7 _
                  have hbel7 := hbel.grown hg7 hbel.size (fun g hg => (hown3.lt g hg).1)
                  have hHeld7 := And.intro ((hbel7.cell (p := ⟨w.heap.size, 0, none⟩) hzw).trans hHz.1) ((hbel7.cell (p := ⟨w.heap.size, 1, none⟩) hzw).trans hHz.2)
                  refine hK.out _ _ (fun _ => hHeld7) ?_
                  clear hK K
                  have hle : reps.length + 1 = rx.length := by rw [Hrx.out]; simp
                  have hfl : reps.flatMap Rep.cells ++ [.string x.unit, .int .i64 x.code] = rx.flatMap Rep.cells := by rw [Hrx.out]; simp [Rep.cells]
                  rw [hle, hfl] at hown7
                  obtain ⟨A9, c9, rfl, _⟩ := own_caps hown7
                  have hr9 := rdRep_of_own hown7
                  have Hbel7 := Lib.hid hbel7
                  clear hle hfl hown7 hg7 hown3 hblk hHeld
                  try simp only [Act.put, List.setIfInBounds_toArray, List.set_cons_zero, List.set_cons_succ]
                  refine wpAnyS_ready (rs := [7]) (by kernel_rfl) (by simp) ?_
                  refine AllReadyS.cons rfl (fun K hK => ?_) AllReadyS.nil
                  go_simp
                  refine (H2.out W7 (HZ7.out.trans (Hbel7.out.mono HZ7.out.size)) A9 c9 hr9).mono ?_
                  rintro e W8 ⟨Ay, cy, rfl, hry, hb8⟩
                  have hbel8 := Hbel7.out.trans (hb8.mono Hbel7.out.size)
                  have hHeld8 := And.intro ((hbel8.cell (p := ⟨w.heap.size, 0, none⟩) hzw).trans hHz.1) ((hbel8.cell (p := ⟨w.heap.size, 1, none⟩) hzw).trans hHz.2)
                  refine hK.out _ _ (fun _ => hHeld8) ?_
                  have Hrx8 := Lib.hid (Hrx7.out.below hbel8)
                  have Hry8 := Lib.hid hry
                  have HB8 := Lib.hid (HB6.out.trans ((HZ7.out.trans (hbel8.mono HZ7.out.size)).mono HB6.out.size))
                  clear hK K hbel8 hry hb8 Hbel7 hHeld7 hr9 H2
                  try simp only [Act.put, List.setIfInBounds_toArray, List.set_cons_zero, List.set_cons_succ]
                  refine wpAnyS_take (i := 8) (v := ?_) rfl (by kernel_rfl) (by kernel_rfl) (by kernel_rfl) (by kernel_rfl) (fun c a w h => h) (Or.inl ⟨by rfl, ?_⟩) hHeld8 ?_
                  rotate_left
                  · intro w hSw
                    (try obtain ⟨hSw1, hSw2⟩ := hSw)
                    go_simp
                    first | done | with_reducible rfl
                  simp only [Act.put, List.setIfInBounds_toArray, List.set_cons_zero, List.set_cons_succ]
                  refine wpAnyS_take (i := 9) (v := ?_) rfl (by kernel_rfl) (by kernel_rfl) (by kernel_rfl) (by kernel_rfl) (fun c a w h => h) (Or.inl ⟨by rfl, ?_⟩) hHeld8 ?_
                  rotate_left
                  · intro w hSw
                    (try obtain ⟨hSw1, hSw2⟩ := hSw)
                    go_simp
                    first | done | with_reducible rfl
                  simp only [Act.put, List.setIfInBounds_toArray, List.set_cons_zero, List.set_cons_succ]
                  refine wpAnyS_take (i := 10) (v := ?_) rfl (by kernel_rfl) (by kernel_rfl) (by kernel_rfl) (by kernel_rfl) (fun c a w h => h) (Or.inl ⟨by rfl, ?_⟩) hHeld8 ?_
                  rotate_left
                  · intro w hSw
                    (try obtain ⟨hSw1, hSw2⟩ := hSw)
                    go_simp
                    first | done | with_reducible rfl
                  simp only [Act.put, List.setIfInBounds_toArray, List.set_cons_zero, List.set_cons_succ]
                  refine wpAnyS_take (i := 11) (v := ?_) rfl (by kernel_rfl) (by kernel_rfl) (by kernel_rfl) (by kernel_rfl) (fun c a w h => h) (Or.inl ⟨by rfl, ?_⟩) hHeld8 ?_
                  rotate_left
                  · intro w hSw
                    (try obtain ⟨hSw1, hSw2⟩ := hSw)
                    go_simp
                    first | done | with_reducible rfl
                  simp only [Act.put, List.setIfInBounds_toArray, List.set_cons_zero, List.set_cons_succ]
                  refine wpAnyS_ready (rs := [12]) (by kernel_rfl) (by simp) ?_
                  refine AllReadyS.cons rfl (fun K hK => ?_) AllReadyS.nil
                  go_simp
                  refine hK.out _ _ (fun h => absurd h (by decide)) ?_
                  clear hK K hHeld8 hHz
                  refine wpAnyS_done (by kernel_rfl) ?_ _
                  go_wp2_with fail
                  generalize W8 = w8 at *
                  go_loopw [105] (fun t wr => ∃ k : Nat, k ≤ ax.length ∧ t = .int .i64 k ∧ wr = w8) (fun t wr => ax.length - (intOf t).toNat)
                  case atStart => exact ⟨0, Nat.zero_le _, rfl, rfl⟩
                  case round =>
                    obtain ⟨k, hk, rfl, rfl⟩ := hrel
                    by_cases hlk : k < ax.length
                    · obtain ⟨bx, ox, hAx, hbx, hcx⟩ := Hrx8.out (by omega)
                      have x0 := hcx k hlk
                      have hhas := has_c ay Ay cy ax[k] wr Hry8.out (by omega)
                      rw [memB_iff.2 (Hmo.out _ (List.getElem_mem hlk))] at hhas
                      have Hhas := Lib.hid hhas
                      clear hhas hcx
                      generalize ax[k] = u at *
                      subst hAx
                      go_wp2_with fail
                      refine Hhas.out.mono ?_
                      rintro e w' ⟨rfl, hw'⟩
                      subst hw'
                      go_wp2_with fail
                      go_roundw
                      case rel => exact ⟨k + 1, by omega, by go_num, trivial⟩
                      case measure => simp [intOf]; omega
                    · obtain rfl : k = ax.length := by omega
                      go_wp2_with fail
                      go_ret
                      exact ⟨rfl, HB8.out⟩
              · go_simp
                have hal5 := fun (p : Addr) (y : Value) (hp : z.cell? p = some y) => (World.cell?_alloc_lt z (.cells #[.string x.unit, .int .i64 x.code] 46) p (World.block_lt_of_cell? _ _ hp)).trans hp
                have hHeld5 := And.intro (hal5 _ _ hHeld.1) (hal5 _ _ hHeld.2)
                refine hK.out _ _ (fun _ => hHeld5) ?_
                clear hK hal5 K hHeld
                have hHeld := hHeld5
                try simp only [Act.put, List.setIfInBounds_toArray, List.set_cons_zero, List.set_cons_succ]
                refine wpAnyS_ready (rs := [1]) (by kernel_rfl) (by simp) ?_
                refine AllReadyS.cons rfl (fun K hK => ?_) AllReadyS.nil
                have hblk := Blk.new z 46 #[.string x.unit, .int .i64 x.code]
                go_simp
                have hal1 := fun (p : Addr) (y : Value) (hp : (z.alloc (.cells #[.string x.unit, .int .i64 x.code] 46)).cell? p = some y) => (World.cell?_alloc_lt (z.alloc (.cells #[.string x.unit, .int .i64 x.code] 46)) (.cells #[] 46) p (World.block_lt_of_cell? _ _ hp)).trans hp
                have hHeld1 := And.intro (hal1 _ _ hHeld.1) (hal1 _ _ hHeld.2)
                refine hK.out _ _ (fun _ => hHeld1) ?_
                clear hK hal1 K hHeld
                have hHeld := hHeld1
                try simp only [Act.put, List.setIfInBounds_toArray, List.set_cons_zero, List.set_cons_succ]
                have hblk := hblk.alloc (.cells #[] 46)
                have hown1 := World.ownsRow_made (base := z.heap.size) (e := 46) (size := 2) (z.alloc (.cells #[.string x.unit, .int .i64 x.code] 46)) #[] 0 (by simp) (by simp [maxLen]) rfl
                rw [World.size_alloc] at hown1
                refine wpAnyS_ready (rs := [3]) (by kernel_rfl) (by simp) ?_
                refine AllReadyS.cons rfl (fun K hK => ?_) AllReadyS.nil
                refine step_append_any _ (by rfl) (.tmp 94) (.tmp 95) 31 (by rfl) z.heap.size 46 i0 _ 2 24 Tryz.underlying31 hi0 hz0 hz1 hz2 rfl (by decide) _ 0 [] (by rfl) (hown1) z.heap.size A1 reps.length c1 (reps.flatMap Rep.cells) (by rfl) ((hrd.alloc (Nat.le_refl _) _).alloc (by simp) _) (rep_one reps) (by unfold maxLen; omega) (by omega) (by simp; omega) ?_
                intro v3 W3 hown3 hg3 _
                rw [Nat.zero_add, List.nil_append] at hown3
                have hbel := (((Below.refl _ z).alloc (Nat.le_refl _) (.cells #[.string x.unit, .int .i64 x.code] 46)).alloc (by simp) (.cells #[] 46)).grown hg3 (by simp; omega) (fun g hg => by simp [Value.ownBlock] at hg; omega)
                have hblk := hblk.grown hg3 (by simp [Value.ownBlock])
                have hHeld3 := And.intro ((hbel.cell (p := ⟨w.heap.size, 0, none⟩) hzw).trans hHz.1) ((hbel.cell (p := ⟨w.heap.size, 1, none⟩) hzw).trans hHz.2)
                refine hK.out _ _ (fun _ => hHeld3) ?_
                clear hK K hHeld hown1 hg3
                have hHeld := hHeld3
                try simp only [Act.put, List.setIfInBounds_toArray, List.set_cons_zero, List.set_cons_succ]
                generalize z.heap.size = g98 at hblk ⊢
                clear hrd
                refine wpAnyS_ready (rs := [6]) (by kernel_rfl) (by simp) ?_
                refine AllReadyS.cons rfl (fun K hK => ?_) AllReadyS.nil
                refine step_append_any _ (by rfl) (.tmp 96) (.tmp 98) 31 (by rfl) z.heap.size 46 i0 _ 2 24 Tryz.underlying31 hi0 hz0 hz1 hz2 rfl (by decide) v3 reps.length (reps.flatMap Rep.cells) (by rfl) hown3 (g98 + 1) (some ⟨g98, 0, none⟩) 1 1 [.string x.unit, .int .i64 x.code] (by rfl) ⟨rfl, fun _ => ⟨_, rfl, Nat.lt_succ_self _, blk_flat hblk⟩⟩ (by intro u hu; simp at hu; rcases hu with rfl | rfl <;> rfl) (by unfold maxLen; omega) (by omega) hbel.size ?_
                intro v6 W7 hown7 hg7 _
                have hbel7 := hbel.grown hg7 hbel.size (fun g hg => (hown3.lt g hg).1)
                have hHeld7 := And.intro ((hbel7.cell (p := ⟨w.heap.size, 0, none⟩) hzw).trans hHz.1) ((hbel7.cell (p := ⟨w.heap.size, 1, none⟩) hzw).trans hHz.2)
                refine hK.out _ _ (fun _ => hHeld7) ?_
                clear hK K
                have hle : reps.length + 1 = rx.length := by rw [Hrx.out]; simp
                have hfl : reps.flatMap Rep.cells ++ [.string x.unit, .int .i64 x.code] = rx.flatMap Rep.cells := by rw [Hrx.out]; simp [Rep.cells]
                rw [hle, hfl] at hown7
                obtain ⟨A9, c9, rfl, _⟩ := own_caps hown7
                have hr9 := rdRep_of_own hown7
                have Hbel7 := Lib.hid hbel7
                clear hle hfl hown7 hg7 hown3 hblk hHeld
                try simp only [Act.put, List.setIfInBounds_toArray, List.set_cons_zero, List.set_cons_succ]
                refine wpAnyS_ready (rs := [7]) (by kernel_rfl) (by simp) ?_
                refine AllReadyS.cons rfl (fun K hK => ?_) AllReadyS.nil
                go_simp
                refine (H2.out W7 (HZ7.out.trans (Hbel7.out.mono HZ7.out.size)) A9 c9 hr9).mono ?_
                rintro e W8 ⟨Ay, cy, rfl, hry, hb8⟩
                have hbel8 := Hbel7.out.trans (hb8.mono Hbel7.out.size)
                have hHeld8 := And.intro ((hbel8.cell (p := ⟨w.heap.size, 0, none⟩) hzw).trans hHz.1) ((hbel8.cell (p := ⟨w.heap.size, 1, none⟩) hzw).trans hHz.2)
                refine hK.out _ _ (fun _ => hHeld8) ?_
                have Hrx8 := Lib.hid (Hrx7.out.below hbel8)
                have Hry8 := Lib.hid hry
                have HB8 := Lib.hid (HB6.out.trans ((HZ7.out.trans (hbel8.mono HZ7.out.size)).mono HB6.out.size))
                clear hK K hbel8 hry hb8 Hbel7 hHeld7 hr9 H2
                try simp only [Act.put, List.setIfInBounds_toArray, List.set_cons_zero, List.set_cons_succ]
                refine wpAnyS_take (i := 8) (v := ?_) rfl (by kernel_rfl) (by kernel_rfl) (by kernel_rfl) (by kernel_rfl) (fun c a w h => h) (Or.inl ⟨by rfl, ?_⟩) hHeld8 ?_
                rotate_left
                · intro w hSw
                  (try obtain ⟨hSw1, hSw2⟩ := hSw)
                  go_simp
                  first | done | with_reducible rfl
                simp only [Act.put, List.setIfInBounds_toArray, List.set_cons_zero, List.set_cons_succ]
                refine wpAnyS_take (i := 9) (v := ?_) rfl (by kernel_rfl) (by kernel_rfl) (by kernel_rfl) (by kernel_rfl) (fun c a w h => h) (Or.inl ⟨by rfl, ?_⟩) hHeld8 ?_
                rotate_left
                · intro w hSw
                  (try obtain ⟨hSw1, hSw2⟩ := hSw)
                  go_simp
                  first | done | with_reducible rfl
                simp only [Act.put, List.setIfInBounds_toArray, List.set_cons_zero, List.set_cons_succ]
                refine wpAnyS_take (i := 10) (v := ?_) rfl (by kernel_rfl) (by kernel_rfl) (by kernel_rfl) (by kernel_rfl) (fun c a w h => h) (Or.inl ⟨by rfl, ?_⟩) hHeld8 ?_
                rotate_left
                · intro w hSw
                  (try obtain ⟨hSw1, hSw2⟩ := hSw)
                  go_simp
                  first | done | with_reducible rfl
                simp only [Act.put, List.setIfInBounds_toArray, List.set_cons_zero, List.set_cons_succ]
                refine wpAnyS_take (i := 11) (v := ?_) rfl (by kernel_rfl) (by kernel_rfl) (by kernel_rfl) (by kernel_rfl) (fun c a w h => h) (Or.inl ⟨by rfl, ?_⟩) hHeld8 ?_
                rotate_left
                · intro w hSw
                  (try obtain ⟨hSw1, hSw2⟩ := hSw)
                  go_simp
                  first | done | with_reducible rfl
                simp only [Act.put, List.setIfInBounds_toArray, List.set_cons_zero, List.set_cons_succ]
                refine wpAnyS_ready (rs := [12]) (by kernel_rfl) (by simp) ?_
                refine AllReadyS.cons rfl (fun K hK => ?_) AllReadyS.nil
                go_simp
                refine hK.out _ _ (fun h => absurd h (by decide)) ?_
                clear hK K hHeld8 hHz
                refine wpAnyS_done (by kernel_rfl) ?_ _
                go_wp2_with fail
                generalize W8 = w8 at *
                go_loopw [105] (fun t wr => ∃ k : Nat, k ≤ ax.length ∧ t = .int .i64 k ∧ wr = w8) (fun t wr => ax.length - (intOf t).toNat)
                case atStart => exact ⟨0, Nat.zero_le _, rfl, rfl⟩
                case round =>
                  obtain ⟨k, hk, rfl, rfl⟩ := hrel
                  by_cases hlk : k < ax.length
                  · obtain ⟨bx, ox, hAx, hbx, hcx⟩ := Hrx8.out (by omega)
                    have x0 := hcx k hlk
                    have hhas := has_c ay Ay cy ax[k] wr Hry8.out (by omega)
                    rw [memB_iff.2 (Hmo.out _ (List.getElem_mem hlk))] at hhas
                    have Hhas := Lib.hid hhas
                    clear hhas hcx
                    generalize ax[k] = u at *
                    subst hAx
                    go_wp2_with fail
                    refine Hhas.out.mono ?_
                    rintro e w' ⟨rfl, hw'⟩
                    subst hw'
                    go_wp2_with fail
                    go_roundw
                    case rel => exact ⟨k + 1, by omega, by go_num, trivial⟩
                    case measure => simp [intOf]; omega
                  · obtain rfl : k = ax.length := by omega
                    go_wp2_with fail
                    go_ret
                    exact ⟨rfl, HB8.out⟩
end Go.Proofs.YtnbnkhockoflgaaGreatDoor
