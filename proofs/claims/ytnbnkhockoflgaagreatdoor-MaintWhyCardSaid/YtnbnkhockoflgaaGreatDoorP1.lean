/- MaintOrder: the walk. -/
import Derived.Test.YtnbnkhockoflgaaGreatDoorJ31
import Derived.Test.YtnbnkhockoflgaaGreatDoorP0
set_option linter.unusedSimpArgs false
set_option linter.unusedVariables false
set_option linter.unusedSectionVars false
namespace Go.Proofs.YtnbnkhockoflgaaGreatDoor
open Go.ChangeShapes Go.WideShapes Go.ChangeAt Go.RowKit
attribute [local go_sem] Oper.semAt_some

theorem rdTake {w : World} {B : Nat} {A : Option Addr} {l : List ByteArray} (h : RdStr w B A l) (k : Nat) : RdStr w B A (l.take k) := fun hn => by
  obtain ⟨b, o, rfl, hb, hc⟩ := h (by simp at hn; omega)
  exact ⟨b, o, rfl, hb, fun i hi => by
    have hi' : i < l.length := by simp at hi; omega
    rw [hc i hi']; simp⟩
theorem nodup_take {α : Type} [DecidableEq α] {l : List α} {k : Nat} (h : l.Nodup) (hk : k < l.length) : l[k] ∉ l.take k := fun hm => by
  obtain ⟨j, hj, e⟩ := List.mem_iff_getElem.1 hm
  have hj' : j < k := by simp at hj; omega
  rw [List.getElem_take] at e
  have := nodup_inj h (u := l[k]) (i := j) (j := k) (by rw [List.getElem?_eq_getElem (by omega), e]) (List.getElem?_eq_getElem hk)
  omega
/-- c lets u go, by its first units. -/
def stepX (c : Cs) (g : List ByteArray) (u : ByteArray) (j : Nat) : Bool := !decide (c.unit = u) || (c.excl.take j).all fun x => memB x g
theorem stepX_succ (c : Cs) (g : List ByteArray) (u : ByteArray) (j : Nat) (h : j < c.excl.length) : stepX c g u (j + 1) = (stepX c g u j && (!decide (c.unit = u) || memB c.excl[j] g)) := by
  unfold stepX
  rw [List.take_succ_eq_append_getElem h, List.all_append]
  cases decide (c.unit = u) <;> simp
theorem notLarge {l : List Cs} {n : Nat} (h : largeV l n = false) : l.length ≤ 60 ∧ n ≤ 60 ∧ ∀ c ∈ l, c.needs.length ≤ 20 ∧ c.excl.length ≤ 20 := by
  unfold largeV at h
  simp only [Bool.or_eq_false_iff, decide_eq_false_iff_not] at h
  refine ⟨by omega, by omega, fun c hc => ?_⟩
  have := List.any_eq_false.1 h.2 c hc
  unfold bigC at this
  simp only [Bool.or_eq_true, decide_eq_true_eq, not_or] at this
  omega
set_option maxRecDepth 100000 in
set_option maxHeartbeats 8000000 in
theorem maintOrder_c (L : List CsV) (A : Option Addr) (c : Nat) (w : World) (h : RdCs w w.heap.size A L) (ok : ∀ x ∈ L, OkC x.c) (hl : L.length ≤ 2199023255552) :
    Calls Tryz.prog 3 #[.slice A L.length c] w fun e w' => e = .returned (.bool true) ∧ Below w.heap.size w w' := by
  have H := Lib.hid h
  clear h
  go_enter Tryz.func3, Tryz.ntmps3
  go_wp2_with fail
  refine (awake_c _).mono ?_
  rintro e w1 ⟨rfl, hb1⟩
  have hla := Large_c L A c none 0 0 w1 (H.out.below hb1) hl (by omega)
  have HB1 := Lib.hid hb1
  clear hb1
  cases hlv : largeV (csOf L) 0 with
  | true =>
    rw [hlv] at hla
    have Hla := Lib.hid hla
    clear hla hlv
    go_wp2_with fail
    refine Hla.out.mono ?_
    rintro e w' ⟨rfl, rfl⟩
    go_wp2_with fail
    go_ret
    exact ⟨rfl, HB1.out⟩
  | false =>
    rw [hlv] at hla
    obtain ⟨hn0, _, hsm⟩ := notLarge hlv
    have hn : L.length ≤ 60 := by simpa using hn0
    have Hsm := Lib.hid hsm
    have Hla := Lib.hid hla
    clear hla hlv hn0 hsm
    go_wp2_with fail
    refine Hla.out.mono ?_
    rintro e w' ⟨rfl, hw'⟩
    subst hw'
    have hor := Order_c2 L A c w1 (H.out.below HB1.out) ok (by omega)
    clear Hla
    cases hok : okV (csOf L) with
    | true =>
      rw [hok] at hor
      simp only [if_true] at hor
      have hlen : (orderV (csOf L)).length = (unitsV (csOf L)).length := of_decide_eq_true hok
      have hoo := order_ok (csOf L)
      have hoa := ok_all hok
      have Hor := Lib.hid hor
      clear hor
      go_wp2_with fail
      refine Hor.out.mono ?_
      rintro e w2 ⟨hb2, Ao, co, rfl, hro, hcap⟩
      rw [hlen] at hcap
      have hun := units_c L A c w2 ((H.out.below HB1.out).below hb2) (by omega)
      have Hun := Lib.hid hun
      have Hro := Lib.hid hro
      have HB2 := Lib.hid (HB1.out.trans (hb2.mono HB1.out.size))
      clear hun hro hb2 Hor
      go_wp2_with fail
      refine Hun.out.mono ?_
      rintro e w3 ⟨Au, cu, rfl, hru, hb3⟩
      have Hru := Lib.hid hru
      have Hro3 := Lib.hid (Hro.out.below hb3)
      have HB3 := Lib.hid (HB2.out.trans (hb3.mono HB2.out.size))
      have Hoo := Lib.hid hoo
      have Hoa := Lib.hid hoa
      have Hok := Lib.hid hok
      have hou := (order_ok (csOf L)).sub
      have Hou := Lib.hid hou
      have hul : (unitsV (csOf L)).length ≤ 60 := Nat.le_trans (len_units _) (by simpa using hn)
      clear hru hb3 Hun Hro HB2 hoo hoa hok hou
      generalize orderV (csOf L) = ord at *
      generalize unitsV (csOf L) = us at *
      go_wp2_with fail
      go_loopw [102] (fun t wr => ∃ k : Nat, k ≤ us.length ∧ t = .int .i64 k ∧ Below w3.heap.size w3 wr) (fun t wr => us.length - (intOf t).toNat)
      case atStart => exact ⟨0, Nat.zero_le _, rfl, Below.refl _ _⟩
      case round =>
        obtain ⟨k, hk, rfl, hb⟩ := hrel
        have HBr := Lib.hid hb
        by_cases hlt : k < us.length
        · have hro := (Hro3.out.below hb)
          have hru := (Hru.out.below hb)
          have hlo : k < ord.length := by omega
          obtain ⟨bo, oo, hA, hbo, hc⟩ := hro (by omega)
          subst hA
          have d0 := hc k hlo
          have h1 := has_c (ord.take k) (some ⟨bo, oo, none⟩) co ord[k] wr (rdTake hro k) (by simp; omega)
          have h2 := has_c us Au cu ord[k] wr hru (by omega)
          rw [memB_false (nodup_take Hoo.out.nodup hlo), List.length_take_of_le (by omega)] at h1
          rw [memB_iff.2 (Hou.out _ (List.getElem_mem hlo))] at h2
          have hbef := Hoo.out.before k hlo
          have H1 := Lib.hid h1
          have H2 := Lib.hid h2
          have Hbef := Lib.hid hbef
          have Hro4 := Lib.hid hro
          clear hc hru hro h1 h2 hbef hb
          generalize ord[k] = u at *
          have hkc : k ≤ co := by omega
          go_wp2_with fail
          refine H1.out.mono ?_
          rintro e w' ⟨rfl, hw'⟩
          subst hw'
          go_wp2_with fail
          refine H2.out.mono ?_
          rintro e w' ⟨rfl, hw'⟩
          subst hw'
          go_wp2_with fail
          clear H1 H2 d0
          generalize wr = w4 at *
          go_loopw [120] (fun t wr => ∃ m : Nat, m ≤ L.length ∧ t = .int .i64 m ∧ Below w4.heap.size w4 wr) (fun t wr => L.length - (intOf t).toNat)
          case atStart => exact ⟨0, Nat.zero_le _, rfl, Below.refl _ _⟩
          case round =>
            obtain ⟨m, hm, rfl, hb⟩ := hrel
            by_cases hlm : m < L.length
            · have hB5 := (HB3.out.trans (HBr.out.mono HB3.out.size)).trans (hb.mono (HB3.out.trans (HBr.out.mono HB3.out.size)).size)
              have hro5 := Hro4.out.below hb
              obtain ⟨bc, oc, hA, hbc, hc⟩ := (H.out.below hB5) (by omega)
              subst hA
              obtain ⟨d0, d1, d2, hx⟩ := hc m hlm
              have hxl := hx.xl
              have hxs := (Hsm.out L[m].c (List.mem_map_of_mem (List.getElem_mem hlm))).2
              have hbx := Hbef.out L[m].c (List.mem_map_of_mem (List.getElem_mem hlm))
              have HBb := Lib.hid hb
              clear hc hb
              generalize L[m] = x at *
              replace d2 : wr.cell? ⟨bc, oc + m * 3 + 2, none⟩ = some (.slice x.x.a x.x.n x.x.c) := d2
              rw [hxl] at d2
              obtain ⟨w5, hw5⟩ : ∃ w5, w5 = wr.alloc (.cells #[.string x.c.unit, .slice x.n.a x.n.n x.n.c, .slice x.x.a x.c.excl.length x.x.c] 33) := ⟨_, rfl⟩
              have hB6 : Below wr.heap.size wr w5 := by rw [hw5]; exact (Below.refl _ _).alloc (Nat.le_refl _) _
              have hby : Blk w5 wr.heap.size 33 #[.string x.c.unit, .slice x.n.a x.n.n x.n.c, .slice x.x.a x.c.excl.length x.x.c] := by rw [hw5]; exact Blk.new wr _ _
              have e0 : w5.cell? ⟨wr.heap.size, 0, none⟩ = some (.string x.c.unit) := hby.cell 0
              have e2 : w5.cell? ⟨wr.heap.size, 2, none⟩ = some (.slice x.x.a x.c.excl.length x.x.c) := hby.cell 2
              have Hxx := Lib.hid (hx.x.below hB6)
              have Hro6 := Lib.hid (hro5.below hB6)
              have HB6 := Lib.hid (HBb.out.trans (hB6.mono HBb.out.size))
              have Hw5 := Lib.hid hw5
              have Hbx := Lib.hid hbx
              clear hw5 hB6 hby hx hro5 hB5 hbx HBb Hbef
              go_wp2_with fail
              rw [← Hw5.out]
              clear Hw5 d0 d1 d2 hbc
              generalize wr.heap.size = gz at *
              clear wr
              go_loopw [127] (fun t wr => ∃ j : Nat, j ≤ x.c.excl.length ∧ t = .int .i64 j ∧ wr = w5) (fun t wr => x.c.excl.length - (intOf t).toNat)
              case atStart => exact ⟨0, Nat.zero_le _, rfl, rfl⟩
              case round =>
                obtain ⟨j, hj, rfl, rfl⟩ := hrel
                by_cases hlj : j < x.c.excl.length
                · obtain ⟨be, oe, hE, hbe, hce⟩ := Hxx.out (by omega)
                  rw [hE]
                  have f0 := hce j hlj
                  by_cases hun : x.c.unit = u
                  · have hin : memB x.c.excl[j] (ord.take k) = true := memB_iff.2 (Hbx.out hun _ (List.getElem_mem hlj))
                    have h3 := has_c (ord.take k) (some ⟨bo, oo, none⟩) co x.c.excl[j] wr (rdTake Hro6.out k) (by simp; omega)
                    rw [hin, List.length_take_of_le (by omega)] at h3
                    have H3 := Lib.hid h3
                    have hst := str_eq hun
                    clear h3 hin hce hun
                    generalize x.c.excl[j] = y at *
                    go_wp2_with fail
                    refine H3.out.mono ?_
                    rintro e w' ⟨rfl, hw'⟩
                    subst hw'
                    go_wp2_with fail
                    go_roundw
                    case rel => exact ⟨j + 1, by omega, by go_num, trivial⟩
                    case measure => simp [intOf]; omega
                  · have hst := str_ne hun
                    clear hce
                    generalize x.c.excl[j] = y at *
                    go_wp2_with fail
                    go_roundw
                    case rel => exact ⟨j + 1, by omega, by go_num, trivial⟩
                    case measure => simp [intOf]; omega
                · obtain rfl : j = x.c.excl.length := by omega
                  go_wp2_with fail
                  go_roundw
                  case rel => exact ⟨m + 1, by omega, by go_num, HB6.out⟩
                  case measure => simp [intOf]; omega
            · obtain rfl : m = L.length := by omega
              have HB9 := Lib.hid (HBr.out.trans (hb.mono HBr.out.size))
              clear hb
              go_wp2_with fail
              go_roundw
              case rel => exact ⟨k + 1, by omega, by go_num, HB9.out⟩
              case measure => simp [intOf]; omega
        · obtain rfl : k = us.length := by omega
          go_wp2_with fail
          go_ret
          exact ⟨rfl, HB3.out.trans (HBr.out.mono HB3.out.size)⟩
    | false =>
      rw [hok] at hor
      simp only [Bool.false_eq_true, if_false] at hor
      have hless := gone_less hok (unitsV (csOf L)).length
      have Hor := Lib.hid hor
      have Hok := Lib.hid ok
      obtain ⟨i0, hi0, hz0, hz1, hz2⟩ := info_parts info9
      clear hor hok ok
      go_wp2_with fail
      refine Hor.out.mono ?_
      rintro e w2 ⟨hb2, rfl⟩
      have hun := units_c L A c w2 ((H.out.below HB1.out).below hb2) (by omega)
      have Hun := Lib.hid hun
      have HB2 := Lib.hid (HB1.out.trans (hb2.mono HB1.out.size))
      clear hun hb2 Hor
      go_wp2_with fail
      refine Hun.out.mono ?_
      rintro e w3 ⟨Au, cu, rfl, hru, hb3⟩
      have Hru := Lib.hid hru
      have HB3 := Lib.hid (HB2.out.trans (hb3.mono HB2.out.size))
      have hul : (unitsV (csOf L)).length ≤ 60 := Nat.le_trans (len_units _) (by simpa using hn)
      have hgl : ∀ n, (goneV (csOf L) n).length ≤ 60 := fun n => Nat.le_trans (len_le _ _ (goneV_ok (csOf L) n).nodup (goneV_ok (csOf L) n).sub) hul
      have hgs : ∀ n, goneV (csOf L) (n + 1) = goneR (csOf L) (unitsV (csOf L)) (goneV (csOf L) n) := fun n => rfl
      have hgo := fun n => goneV_ok (csOf L) n
      have hus : ∀ x ∈ unitsV (csOf L), x ∈ unitsV (csOf L) := fun x h => h
      have Hgs := Lib.hid hgs
      have Hgo := Lib.hid hgo
      have Hgl := Lib.hid hgl
      have Hless := Lib.hid hless
      have Hus := Lib.hid hus
      clear hru hb3 Hun HB2 hgs hgo hgl hless hus
      have h0 : (goneV (csOf L) 0) = [] := rfl
      have hmem : ∀ x ∈ unitsV (csOf L), x ∈ unitsV (csOf L) := fun x h => h
      generalize hus' : unitsV (csOf L) = us at *
      have Hus' := Lib.hid hus'
      clear hus' hmem
      go_wp2_with fail
      go_loopw [6, 35] (fun v t wr => ∃ k : Nat, k ≤ us.length ∧ t = .int .i64 k ∧ Below w3.heap.size w3 wr ∧ wr.ownsRow w3.heap.size 9 1 v (goneV (csOf L) k).length ((goneV (csOf L) k).map Value.string)) (fun _ t wr => us.length - (intOf t).toNat)
      case atStart => exact ⟨0, Nat.zero_le _, rfl, Below.refl _ _, World.ownsRow_nil _ _ _ _⟩
      case round =>
        obtain ⟨k, hk, rfl, hB, hown⟩ := hrel
        by_cases hlt : k < us.length
        · have Hown := Lib.hid hown
          have HB := Lib.hid hB
          have hok0 := Hgo.out k
          have Hnx := Lib.hid (Hgs.out k)
          have Hok0 := Lib.hid hok0
          clear hown hB hok0
          generalize goneV (csOf L) k = g0 at *
          go_wp2_with fail
          generalize wr = w4 at *
          go_loopw [6, 39] (fun v t wr => ∃ j : Nat, j ≤ us.length ∧ t = .int .i64 j ∧ Below w3.heap.size w3 wr ∧ wr.ownsRow w3.heap.size 9 1 v (goneR (csOf L) (us.take j) g0).length ((goneR (csOf L) (us.take j) g0).map Value.string)) (fun _ t wr => us.length - (intOf t).toNat)
          case atStart => exact ⟨0, Nat.zero_le _, rfl, HB.out, Hown.out⟩
          case round =>
            obtain ⟨j, hj, rfl, hBj, hownj⟩ := hrel
            by_cases hlj : j < us.length
            · obtain ⟨Ag, cg, rfl, hgc, _⟩ := own_caps hownj
              have hstep : goneR (csOf L) (us.take (j + 1)) g0 = goneStep (csOf L) (goneR (csOf L) (us.take j) g0) us[j] := by
                unfold goneR
                rw [List.take_succ_eq_append_getElem hlj, List.foldl_append]; rfl
              have hgj := goneR_ok (us.take j) g0 Hok0.out (fun x hx => by rw [Hus'.out]; exact List.mem_of_mem_take hx)
              have hgjl : (goneR (csOf L) (us.take j) g0).length ≤ 60 := Nat.le_trans (len_le _ _ hgj.nodup (fun x hx => by rw [← Hus'.out]; exact hgj.sub x hx)) hul
              obtain ⟨bu, ou, hAu, hbu, hcu⟩ := (Hru.out.below hBj) (by omega)
              subst hAu
              have u0 := hcu j hlj
              have Hstep := Lib.hid hstep
              have Hownj := Lib.hid hownj
              have HBj := Lib.hid hBj
              have hbw : w3.heap.size ≤ wr.heap.size := hBj.size
              clear hstep hownj hBj hcu hgj Hown HB
              generalize goneR (csOf L) (us.take j) g0 = g at *
              generalize us[j] = u at *
              have hhas := has_c g Ag cg u wr (rdStr_of_own Hownj.out) (by omega)
              have Hhas := Lib.hid hhas
              clear hhas
              go_wp2_with fail
              refine Hhas.out.mono ?_
              rintro e w' ⟨rfl, hw'⟩
              subst hw'
              clear Hhas
              generalize hb0 : (!memB u g) = b0 at *
              have Hb0 := Lib.hid hb0
              clear hb0
              go_wp2_with fail
              generalize wr = w6 at *
              go_loopw [9, 49] (fun v t wr => ∃ m : Nat, m ≤ L.length ∧ t = .int .i64 m ∧ v = .bool (b0 && freeV (csOf (L.take m)) g u) ∧ Below w3.heap.size w3 wr ∧ wr.ownsRow w3.heap.size 9 1 (.slice Ag g.length cg) g.length (g.map Value.string)) (fun _ t wr => L.length - (intOf t).toNat)
              case atStart => exact ⟨0, Nat.zero_le _, rfl, by rw [← Hb0.out]; simp [freeV], HBj.out, Hownj.out⟩
              case round =>
                obtain ⟨m, hm, rfl, rfl, hBm, hownm⟩ := hrel
                by_cases hlm : m < L.length
                · obtain ⟨bc, oc, hA, hbc, hc⟩ := (H.out.below (HB3.out.trans (hBm.mono HB3.out.size))) (by omega)
                  subst hA
                  obtain ⟨d0, d1, d2, hx⟩ := hc m hlm
                  have hxl := hx.xl
                  have hxs := (Hsm.out L[m].c (List.mem_map_of_mem (List.getElem_mem hlm))).2
                  have hfr : freeV (csOf (L.take (m + 1))) g u = (freeV (csOf (L.take m)) g u && stepX L[m].c g u L[m].c.excl.length) := by
                    unfold csOf freeV stepX
                    rw [List.take_succ_eq_append_getElem hlm, List.map_append, List.all_append, List.take_length]; simp [memB]
                  have Hfr := Lib.hid hfr
                  have hzm := hBm.size
                  have HBm := Lib.hid hBm
                  have Hownm := Lib.hid hownm
                  clear hc hfr hBm hownm
                  generalize freeV (csOf (L.take m)) g u = f0 at *
                  generalize L[m] = x at *
                  replace d2 : wr.cell? ⟨bc, oc + m * 3 + 2, none⟩ = some (.slice x.x.a x.x.n x.x.c) := d2
                  rw [hxl] at d2
                  obtain ⟨w5, hw5⟩ : ∃ w5, w5 = wr.alloc (.cells #[.string x.c.unit, .slice x.n.a x.n.n x.n.c, .slice x.x.a x.c.excl.length x.x.c] 33) := ⟨_, rfl⟩
                  have hB6 : Below wr.heap.size wr w5 := by rw [hw5]; exact (Below.refl _ _).alloc (Nat.le_refl _) _
                  have hby : Blk w5 wr.heap.size 33 #[.string x.c.unit, .slice x.n.a x.n.n x.n.c, .slice x.x.a x.c.excl.length x.x.c] := by rw [hw5]; exact Blk.new wr _ _
                  have e0 : w5.cell? ⟨wr.heap.size, 0, none⟩ = some (.string x.c.unit) := hby.cell 0
                  have e2 : w5.cell? ⟨wr.heap.size, 2, none⟩ = some (.slice x.x.a x.c.excl.length x.x.c) := hby.cell 2
                  have Hxx := Lib.hid (hx.x.below hB6)
                  have hown6 : w5.ownsRow w3.heap.size 9 1 (.slice Ag g.length cg) g.length (g.map Value.string) := by rw [hw5]; exact Hownm.out.alloc _
                  have HB6 := Lib.hid (HBm.out.trans (hB6.mono hzm))
                  have Hown6 := Lib.hid hown6
                  have Hw5 := Lib.hid hw5
                  clear hw5 hB6 hby hx hown6 HBm Hownm
                  go_wp2_with fail
                  rw [← Hw5.out]
                  clear Hw5 d0 d1 d2 hbc hzm
                  generalize wr.heap.size = gz at *
                  clear wr
                  go_loopw [9, 56] (fun v t wr => ∃ i : Nat, i ≤ x.c.excl.length ∧ t = .int .i64 i ∧ v = .bool ((b0 && f0) && stepX x.c g u i) ∧ wr = w5) (fun _ t wr => x.c.excl.length - (intOf t).toNat)
                  case atStart => exact ⟨0, Nat.zero_le _, rfl, by simp [stepX], rfl⟩
                  case round =>
                    obtain ⟨i, hi, rfl, rfl, rfl⟩ := hrel
                    by_cases hli : i < x.c.excl.length
                    · obtain ⟨be, oe, hE, hbe, hce⟩ := Hxx.out (by omega)
                      rw [hE]
                      have f9 := hce i hli
                      have hs1 := stepX_succ x.c g u i hli
                      have hv : ((b0 && f0) && stepX x.c g u (i + 1)) = (((b0 && f0) && stepX x.c g u i) && (!decide (x.c.unit = u) || memB x.c.excl[i] g)) := by rw [hs1, ← Bool.and_assoc]
                      have Hv := Lib.hid hv
                      clear hce hs1 hv
                      generalize ((b0 && f0) && stepX x.c g u i) = s0 at *
                      have h3 := has_c g Ag cg x.c.excl[i] wr (rdStr_of_own Hown6.out) (by omega)
                      have H3 := Lib.hid h3
                      clear h3
                      generalize x.c.excl[i] = y at *
                      cases s0 with
                      | false =>
                        have hf := Lib.hid (Hv.out.trans (Bool.false_and _))
                        clear Hv H3
                        go_wp2_with fail
                        go_roundw
                        case rel => exact ⟨i + 1, by omega, by go_num, by rw [hf.out], trivial⟩
                        case measure => simp [intOf]; omega
                      | true =>
                        by_cases hun : x.c.unit = u
                        · have hst := str_eq hun
                          have hf := Lib.hid (Hv.out.trans (by rw [decide_eq_true hun, Bool.not_true, Bool.false_or, Bool.true_and]))
                          clear Hv hun
                          go_wp2_with fail
                          refine H3.out.mono ?_
                          rintro e w' ⟨rfl, hw'⟩
                          subst hw'
                          go_wp2_with fail
                          go_roundw
                          case rel => exact ⟨i + 1, by omega, by go_num, by rw [hf.out], trivial⟩
                          case measure => simp [intOf]; omega
                        · have hst := str_ne hun
                          have hf := Lib.hid (Hv.out.trans (by rw [decide_eq_false hun, Bool.not_false, Bool.true_or, Bool.true_and]))
                          clear Hv hun H3
                          go_wp2_with fail
                          go_roundw
                          case rel => exact ⟨i + 1, by omega, by go_num, by rw [hf.out], trivial⟩
                          case measure => simp [intOf]; omega
                    · obtain rfl : i = x.c.excl.length := by omega
                      go_wp2_with fail
                      go_roundw
                      case rel => exact ⟨m + 1, by omega, by go_num, by rw [Hfr.out, Bool.and_assoc], HB6.out, Hown6.out⟩
                      case measure => simp [intOf]; omega
                · obtain rfl : m = L.length := by omega
                  rw [List.take_length]
                  have hgn : goneR (csOf L) (us.take (j + 1)) g0 = if (b0 && freeV (csOf L) g u) = true then g ++ [u] else g := by rw [Hstep.out, ← Hb0.out]; rfl
                  have Hgn := Lib.hid hgn
                  have HBm := Lib.hid hBm
                  have Hownm := Lib.hid hownm
                  have hzm := hBm.size
                  clear hgn hBm hownm Hstep Hb0
                  generalize (b0 && freeV (csOf L) g u) = fr at *
                  cases fr with
                  | false =>
                    have hf : Hid (goneR (csOf L) (us.take (j + 1)) g0 = g) := Lib.hid (Hgn.out.trans (if_neg (by simp)))
                    clear Hgn
                    go_wp2_with fail
                    go_roundw
                    case rel => exact ⟨j + 1, by omega, by go_num, HBm.out, by rw [hf.out]; exact Hownm.out⟩
                    case measure => simp [intOf]; omega
                  | true =>
                    have hf : Hid (goneR (csOf L) (us.take (j + 1)) g0 = g ++ [u]) := Lib.hid (Hgn.out.trans (if_pos rfl))
                    clear Hgn
                    go_wp2_with (at_builtin; refine wpList_append_own _ rfl (.tmp 75) (.tmp 77) 25 rfl w3.heap.size 9 i0 (.string ⟨#[]⟩) 1 16 Tryz.underlying25 hi0 hz0 hz1 hz2 rfl (by decide) _ _ _ rfl (Hownm.out.alloc _) ⟨wr.heap.size, 0, none⟩ 1 1 [.string u] rfl rfl ?c1 ?c2 ?c3 ?c4 ?c5 ?_)
                    case c1 =>
                      intro j u' hj
                      rcases j with _ | j
                      · simp at hj
                        subst hj
                        exact (Blk.new wr 9 #[.string u]).cell 0
                      · simp at hj
                    case c2 => simp [Value.oneCell']
                    case c3 => unfold maxLen; omega
                    case c4 => omega
                    case c5 => simp; omega
                    intro v5 w5 hown5 hg5 _
                    have hb5 := (HBm.out.alloc hzm (.cells #[.string u] 9)).grown hg5 (by simp; omega) (fun g hg => ((Hownm.out.alloc (.cells #[.string u] 9)).lt g hg).1)
                    have HR := Lib.hid (And.intro hb5 hown5)
                    clear hown5 hg5 hb5
                    go_wp2_with fail
                    go_roundw
                    case rel => exact ⟨j + 1, by omega, by go_num, HR.out.1, by rw [hf.out]; simpa using HR.out.2⟩
                    case measure => simp [intOf]; omega
            · obtain rfl : j = us.length := by omega
              rw [List.take_length] at hownj
              have HBn := Lib.hid hBj
              have Hownn := Lib.hid hownj
              clear hBj hownj
              go_wp2_with fail
              go_roundw
              case rel => exact ⟨k + 1, by omega, by go_num, HBn.out, by rw [Hnx.out]; exact Hownn.out⟩
              case measure => simp [intOf]; omega
        · obtain rfl : k = us.length := by omega
          obtain ⟨Av, cv, rfl, _⟩ := own_caps hown
          have HB9 := Lib.hid (HB3.out.trans (hB.mono HB3.out.size))
          have hls : (goneV (csOf L) us.length).length < us.length := Hless.out
          clear hown hB
          generalize (goneV (csOf L) us.length).length = gl at *
          go_wp2_with fail
          go_ret
          exact ⟨rfl, HB9.out⟩
end Go.Proofs.YtnbnkhockoflgaaGreatDoor
