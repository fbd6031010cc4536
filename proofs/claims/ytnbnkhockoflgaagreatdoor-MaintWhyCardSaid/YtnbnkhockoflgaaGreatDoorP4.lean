/- MaintOnly: the walk. -/
import Derived.Test.YtnbnkhockoflgaaGreatDoorJ31
import Derived.Test.YtnbnkhockoflgaaGreatDoorP1
import Derived.Test.YtnbnkhockoflgaaGreatDoorJ15
set_option linter.unusedSimpArgs false
set_option linter.unusedVariables false
set_option linter.unusedSectionVars false
namespace Go.Proofs.YtnbnkhockoflgaaGreatDoor
open Go.ChangeShapes Go.WideShapes Go.ChangeAt Go.RowKit
attribute [local go_sem] Oper.semAt_some

theorem hitV_succ (l : List CsV) (reps : List Rep) (s : List ByteArray) (u : ByteArray) (m : Nat) (h : m < l.length) :
    hitV (csOf (l.take (m + 1))) reps s u = (hitV (csOf (l.take m)) reps s u || (decide (l[m].c.unit = u) && holdB reps s l[m].c)) := by
  unfold hitV csOf holdB
  rw [List.take_succ_eq_append_getElem h, List.map_append, List.any_append]; simp
def rightTo (l : List Cs) (reps : List Rep) (us s : List ByteArray) (k : Nat) : Bool := rightV l reps (us.take k) s
theorem rightTo_succ (l : List Cs) (reps : List Rep) (us s : List ByteArray) (k : Nat) (h : k < us.length) :
    rightTo l reps us s (k + 1) = (rightTo l reps us s k && (hitV l reps s us[k] == memB us[k] s)) := by
  unfold rightTo rightV memB
  rw [List.take_succ_eq_append_getElem h, List.all_append]; simp
def sameTo (s acc : List ByteArray) (k : Nat) : Bool := decide (s.length = acc.length) && (s.take k).all fun u => memB u acc
theorem sameTo_succ (s acc : List ByteArray) (k : Nat) (h : k < s.length) : sameTo s acc (k + 1) = (sameTo s acc k && memB s[k] acc) := by
  unfold sameTo
  rw [List.take_succ_eq_append_getElem h, List.all_append, ← Bool.and_assoc]; simp
theorem sameTo_zero (s acc : List ByteArray) : (((s.length : Nat) : Int) == ((acc.length : Nat) : Int)) = sameTo s acc 0 := by
  unfold sameTo
  rw [Bool.eq_iff_iff]
  simp
  try omega
theorem sameTo_all (s acc : List ByteArray) : sameTo s acc s.length = sameV s acc := by
  unfold sameTo sameV memB
  rw [List.take_length]
theorem setTo_succ (us : List ByteArray) (n k : Nat) (h : k < us.length) : setTo us n (k + 1) = if n.testBit k = true then setTo us n k ++ [us[k]] else setTo us n k := by
  simp only [setTo]
  rw [List.getElem?_eq_getElem h]
theorem setTo_len (us : List ByteArray) (n : Nat) : ∀ k, (setTo us n k).length ≤ k
  | 0 => by simp [setTo]
  | k + 1 => by
    have := setTo_len us n k
    simp only [setTo]
    split
    · split
      · simp; omega
      · omega
    · omega
theorem pow8 {k : Nat} (h : k ≤ 8) : ∃ p : Nat, p = 2 ^ k ∧ 1 ≤ p ∧ p ≤ 256 ∧ wrap64 ((2 : Int) ^ k) = (p : Int) := by
  have h1 : 2 ^ k ≤ 256 := Nat.le_trans (Nat.pow_le_pow_right (by omega) h) (by decide)
  refine ⟨2 ^ k, rfl, Nat.one_le_two_pow, h1, ?_⟩
  have e : (2 : Int) ^ k = ((2 ^ k : Nat) : Int) := by push_cast; rfl
  rw [e]
  exact wrap64_small _ (by omega)
theorem bit_table : ∀ m : Fin 257, (bits BinOp.and IntKind.i64 ((m.val : Nat) : Int) 1 == 1) = decide (m.val % 2 = 1) := by decide +kernel
theorem bit_test (n i : Nat) (hn : n ≤ 256) : (bits BinOp.and IntKind.i64 ((n : Int) / 2 ^ i) 1 == 1) = n.testBit i := by
  have e : (n : Int) / 2 ^ i = ((n / 2 ^ i : Nat) : Int) := by push_cast; rfl
  have hm : n / 2 ^ i ≤ 256 := Nat.le_trans (Nat.div_le_self _ _) hn
  rw [e, Nat.testBit_eq_decide_div_mod_eq]
  exact bit_table ⟨n / 2 ^ i, by omega⟩
theorem size_units {L : List CsV} (ok : ∀ x ∈ L, OkC x.c) : ∀ u ∈ unitsV (csOf L), u.size ≤ maxLen := fun u hu => by
  obtain ⟨c, hc, rfl⟩ := mem_units.1 hu
  obtain ⟨x, hx, rfl⟩ := List.mem_map.1 hc
  exact (ok x hx).u

set_option maxRecDepth 100000 in
set_option maxHeartbeats 8000000 in
theorem maintOnly_c (L : List CsV) (reps : List Rep) (A : Option Addr) (c : Nat) (A1 : Option Addr) (c1 : Nat) (w : World) (h : RdCs w w.heap.size A L) (ok : ∀ x ∈ L, OkC x.c) (hl : L.length ≤ 2199023255552)
    (hr : RdRep w w.heap.size A1 reps) (okr : ∀ r ∈ reps, r.ok) (hl2 : reps.length ≤ 10000000000000) :
    Calls Tryz.prog 7 #[.slice A L.length c, .slice A1 reps.length c1] w fun e w' => e = .returned (.bool true) ∧ Below w.heap.size w w' := by
  have H := Lib.hid h
  have Hr := Lib.hid hr
  clear h hr
  go_enter Tryz.func7, Tryz.ntmps7
  go_wp2_with fail
  refine (awake_c _).mono ?_
  rintro e w1 ⟨rfl, hb1⟩
  have hun := units_c L A c w1 (H.out.below hb1) hl
  have Hun := Lib.hid hun
  have HB1 := Lib.hid hb1
  clear hb1 hun
  go_wp2_with fail
  refine Hun.out.mono ?_
  rintro e w2 ⟨Au, cu, rfl, hru, hb2⟩
  have hB2 := HB1.out.trans (hb2.mono HB1.out.size)
  have hla := Large_c L A c A1 reps.length c1 w2 (H.out.below hB2) hl hl2
  have Hru := Lib.hid hru
  have HB2 := Lib.hid hB2
  clear hru hb2 hB2 Hun HB1
  cases hlv : largeV (csOf L) reps.length with
  | true =>
    rw [hlv] at hla
    have Hla := Lib.hid hla
    clear hla hlv
    go_wp2_with fail
    refine Hla.out.mono ?_
    rintro e w' ⟨rfl, hw'⟩
    subst hw'
    go_wp2_with fail
    go_ret
    exact ⟨rfl, HB2.out⟩
  | false =>
    rw [hlv] at hla
    obtain ⟨hn0, hn1, hsm⟩ := notLarge hlv
    have hn : L.length ≤ 60 := by simpa using hn0
    have Hsm := Lib.hid hsm
    have Hla := Lib.hid hla
    clear hla hlv hn0 hsm
    by_cases h8 : (unitsV (csOf L)).length ≤ 8
    · have hac := Accused_c L reps A c A1 c1 w2 (H.out.below HB2.out) ok (by omega) (Hr.out.below HB2.out) okr (by unfold maxLen; omega)
      have hzu := size_units ok
      have hnd := nodup_units (csOf L)
      have Hzu := Lib.hid hzu
      have Hnd := Lib.hid hnd
      obtain ⟨pw, hpw, hp1, hp2, hw8⟩ := pow8 h8
      cases hok : okV (csOf L) with
      | false =>
        rw [hok] at hac
        simp only [Bool.false_eq_true, if_false] at hac
        have Hac := Lib.hid hac
        clear hac hok hzu hnd hp1 hp2 hw8 hpw
        generalize unitsV (csOf L) = us at *
        go_wp2_with fail
        refine Hla.out.mono ?_
        rintro e w' ⟨rfl, hw'⟩
        subst hw'
        go_wp2_with fail
        refine Hac.out.mono ?_
        rintro e w3 ⟨hb3, rfl⟩
        have HB3 := Lib.hid (HB2.out.trans (hb3.mono HB2.out.size))
        clear hb3
        go_wp2_with fail
        go_ret
        exact ⟨rfl, HB3.out⟩
      | true =>
        rw [hok] at hac
        simp only [if_true] at hac
        have Hac := Lib.hid hac
        have hgood := good_one reps hok
        rw [← hpw] at hgood
        have hrs := fun (s : List ByteArray) => right_same (reps := reps) hok (s := s)
        have hck := fun (s : List ByteArray) => check_right (l := csOf L) (reps := reps) (s := s)
        have hsd := fun n => setV_nodup hnd n
        have hss : ∀ n, ∀ u ∈ setV (unitsV (csOf L)) n, u ∈ unitsV (csOf L) := fun n u hu => setV_sub hu
        have hgs : ∀ n, goodV (csOf L) reps (n + 1) = goodV (csOf L) reps n + if rightV (csOf L) reps (unitsV (csOf L)) (setV (unitsV (csOf L)) n) then 1 else 0 := fun n => rfl
        have hgl : ∀ n, goodV (csOf L) reps n ≤ n := fun n => by
          induction n with
          | zero => simp [goodV]
          | succ n ih => rw [hgs]; split <;> omega
        have hal : (accV (csOf L) reps).length ≤ 60 := Nat.le_trans (len_le _ _ (acc_nodup _ _) (acc_sub _ _)) (by omega)
        have Hgood := Lib.hid hgood
        have Hrs := Lib.hid hrs
        have Hck := Lib.hid hck
        have Hsd := Lib.hid hsd
        have Hss := Lib.hid hss
        have Hgs := Lib.hid hgs
        have Hgl := Lib.hid hgl
        obtain ⟨i0, hi0, hz0, hz1, hz2⟩ := info_parts info9
        clear hac hok hgood hrs hck hsd hss hgs hgl hzu hnd hpw
        generalize accV (csOf L) reps = acc at *
        generalize unitsV (csOf L) = us at *
        go_wp2_with fail
        refine Hla.out.mono ?_
        rintro e w' ⟨rfl, hw'⟩
        subst hw'
        go_wp2_with fail
        refine Hac.out.mono ?_
        rintro e w3 ⟨hb3, Aa, ca, rfl, hra⟩
        have HB3 := Lib.hid (HB2.out.trans (hb3.mono HB2.out.size))
        have Hru3 := Lib.hid (Hru.out.below hb3)
        have Hra := Lib.hid hra
        clear hb3 hra Hac Hla Hru
        have h8i : decide (8 < (us.length : Int)) = false := decide_eq_false (by omega)
        go_wp2_with fail
        rw [hw8]
        clear hw8 h8i
        go_loopw [8, 52] (fun v t wr => ∃ n : Nat, n ≤ pw ∧ t = .int .i64 n ∧ v = .int .i64 (goodV (csOf L) reps n) ∧ Below w3.heap.size w3 wr) (fun _ t wr => pw - (intOf t).toNat)
        case atStart => exact ⟨0, Nat.zero_le _, rfl, rfl, Below.refl _ _⟩
        case round =>
          obtain ⟨n, hn2, rfl, rfl, hb⟩ := hrel
          by_cases hlt : n < pw
          · have HBr := Lib.hid hb
            clear hb
            go_wp2_with fail
            go_loopw [10, 57] (fun v t wr => ∃ i : Nat, i ≤ us.length ∧ t = .int .i64 i ∧ Below w3.heap.size w3 wr ∧ wr.ownsRow w3.heap.size 9 1 v (setTo us n i).length ((setTo us n i).map Value.string)) (fun _ t wr => us.length - (intOf t).toNat)
            case atStart => exact ⟨0, Nat.zero_le _, rfl, HBr.out, World.ownsRow_nil _ _ _ _⟩
            case round =>
              obtain ⟨i, hi, rfl, hBi, howni⟩ := hrel
              by_cases hli : i < us.length
              · obtain ⟨As, cs, rfl, _⟩ := own_caps howni
                obtain ⟨bu, ou, hAu, hbu, hcu⟩ := (Hru3.out.below hBi) (by omega)
                subst hAu
                have u0 := hcu i hli
                have hst := setTo_succ us n i hli
                have hsl := setTo_len us n i
                have hbz := hBi.size
                have hbt := bit_test n i (by omega)
                have Hst := Lib.hid hst
                have Howni := Lib.hid howni
                have HBi := Lib.hid hBi
                clear hcu hst howni hBi HBr
                generalize setTo us n i = s at *
                generalize us[i] = u at *
                generalize hbb : n.testBit i = bb at *
                cases bb with
                | false =>
                  have hf : Hid (setTo us n (i + 1) = s) := Lib.hid (Hst.out.trans (if_neg (by simp)))
                  clear Hst hbb
                  go_wp2_with fail
                  go_roundw
                  case rel => exact ⟨i + 1, by omega, by go_num, HBi.out, by rw [hf.out]; exact Howni.out⟩
                  case measure => simp [intOf]; omega
                | true =>
                  have hf : Hid (setTo us n (i + 1) = s ++ [u]) := Lib.hid (Hst.out.trans (if_pos rfl))
                  clear Hst hbb
                  go_wp2_with (at_builtin; refine wpList_append_own _ rfl (.tmp 67) (.tmp 69) 25 rfl w3.heap.size 9 i0 (.string ⟨#[]⟩) 1 16 Tryz.underlying25 hi0 hz0 hz1 hz2 rfl (by decide) _ _ _ rfl (Howni.out.alloc _) ⟨wr.heap.size, 0, none⟩ 1 1 [.string u] rfl rfl ?c1 ?c2 ?c3 ?c4 ?c5 ?_)
                  case c1 =>
                    intro j u' hj
                    rcases j with _ | j
                    · simp at hj
                      subst hj
                      exact (Blk.new wr 9 #[.string u]).cell 0
                    · simp at hj
                  case c2 => simp [Value.oneCell']
                  case c3 => unfold maxLen; omega
                  case c4 => omega
                  case c5 => simp; omega
                  intro v5 w5 hown5 hg5 _
                  have hb5 := (HBi.out.alloc hbz (.cells #[.string u] 9)).grown hg5 (by simp; omega) (fun g hg => ((Howni.out.alloc (.cells #[.string u] 9)).lt g hg).1)
                  have HR := Lib.hid (And.intro hb5 hown5)
                  clear hown5 hg5 hb5
                  go_wp2_with fail
                  go_roundw
                  case rel => exact ⟨i + 1, by omega, by go_num, HR.out.1, by rw [hf.out]; simpa using HR.out.2⟩
                  case measure => simp [intOf]; omega
              · obtain rfl : i = us.length := by omega
                have hsv : setTo us n us.length = setV us n := rfl
                rw [hsv] at howni
                obtain ⟨As, cs, rfl, _⟩ := own_caps howni
                have hsl : (setV us n).length ≤ us.length := setTo_len us n us.length
                have Hs := Lib.hid (rdStr_of_own howni)
                have hsn := Hsd.out n
                have hsu := Hss.out n
                have hr1 := Hrs.out (setV us n) hsn hsu
                have hc1 := Hck.out (setV us n) hsn hsu
                have hzs : ∀ u ∈ setV us n, u.size ≤ maxLen := fun u hu => Hzu.out u (hsu u hu)
                have hgn := Hgs.out n
                have hglm := Hgl.out n
                have HBi := Lib.hid hBi
                have Hr1 := Lib.hid hr1
                have Hc1 := Lib.hid hc1
                have Hgn := Lib.hid hgn
                have Hzs := Lib.hid hzs
                clear howni hBi hsn hsu hr1 hc1 hzs hgn hsv HBr
                generalize setV us n = s at *
                generalize goodV (csOf L) reps n = gs0 at *
                go_wp2_with fail
                generalize wr = w5 at *
                go_loopw [13, 79] (fun v t wr => ∃ j : Nat, j ≤ s.length ∧ t = .int .i64 j ∧ v = .bool (sameTo s acc j) ∧ wr = w5) (fun _ t wr => s.length - (intOf t).toNat)
                case atStart => exact ⟨0, Nat.zero_le _, rfl, by rw [sameTo_zero], rfl⟩
                case round =>
                  obtain ⟨j, hj, rfl, rfl, rfl⟩ := hrel
                  by_cases hlj : j < s.length
                  · obtain ⟨bs, os, hAs, hbs, hcs⟩ := Hs.out (by omega)
                    subst hAs
                    have s0 := hcs j hlj
                    have hsu := sameTo_succ s acc j hlj
                    have hhas := has_c acc Aa ca s[j] wr (Hra.out.below HBi.out) (by omega)
                    have Hsu := Lib.hid hsu
                    have Hhas := Lib.hid hhas
                    clear hcs hsu hhas
                    generalize sameTo s acc j = v0 at *
                    generalize s[j] = u at *
                    cases v0 with
                    | false =>
                      have hf := Lib.hid (Hsu.out.trans (Bool.false_and _))
                      clear Hsu Hhas
                      go_wp2_with fail
                      go_roundw
                      case rel => exact ⟨j + 1, by omega, by go_num, by rw [hf.out], trivial⟩
                      case measure => simp [intOf]; omega
                    | true =>
                      have hf := Lib.hid (Hsu.out.trans (Bool.true_and _))
                      clear Hsu
                      go_wp2_with fail
                      refine Hhas.out.mono ?_
                      rintro e w' ⟨rfl, hw'⟩
                      subst hw'
                      go_wp2_with fail
                      go_roundw
                      case rel => exact ⟨j + 1, by omega, by go_num, by rw [hf.out], trivial⟩
                      case measure => simp [intOf]; omega
                  · obtain rfl : j = s.length := by omega
                    rw [sameTo_all, ← Hr1.out]
                    have hri : rightV (csOf L) reps us s = rightTo (csOf L) reps us s us.length := by unfold rightTo; rw [List.take_length]
                    rw [hri]
                    rw [hri] at Hc1 Hgn
                    have HL5 := Lib.hid (H.out.below (HB3.out.trans (HBi.out.mono HB3.out.size)))
                    have HR5 := Lib.hid (Hr.out.below (HB3.out.trans (HBi.out.mono HB3.out.size)))
                    have HU5 := Lib.hid (Hru3.out.below HBi.out)
                    clear Hr1 hri
                    go_wp2_with fail
                    generalize wr = w5 at *
                    go_loopw [16, 92] (fun v t wr => ∃ k : Nat, k ≤ us.length ∧ t = .int .i64 k ∧ v = .bool (rightTo (csOf L) reps us s k) ∧ Below w5.heap.size w5 wr) (fun _ t wr => us.length - (intOf t).toNat)
                    case atStart => exact ⟨0, Nat.zero_le _, rfl, by simp [rightTo, rightV], Below.refl _ _⟩
                    case round =>
                      obtain ⟨k, hk, rfl, rfl, hBk⟩ := hrel
                      by_cases hlk : k < us.length
                      · obtain ⟨bu, ou, hAu, hbu, hcu⟩ := (HU5.out.below hBk) (by omega)
                        subst hAu
                        have u0 := hcu k hlk
                        have hsu := rightTo_succ (csOf L) reps us s k hlk
                        have Hsu := Lib.hid hsu
                        have HBk := Lib.hid hBk
                        clear hcu hsu hBk
                        generalize rightTo (csOf L) reps us s k = v0 at *
                        generalize us[k] = u at *
                        go_wp2_with fail
                        generalize wr = w6 at *
                        go_loopw [19, 98] (fun v t wr => ∃ m : Nat, m ≤ L.length ∧ t = .int .i64 m ∧ v = .bool (hitV (csOf (L.take m)) reps s u) ∧ Below w5.heap.size w5 wr) (fun _ t wr => L.length - (intOf t).toNat)
                        case atStart => exact ⟨0, Nat.zero_le _, rfl, by simp [hitV], HBk.out⟩
                        case round =>
                          obtain ⟨m, hm, rfl, rfl, hBm⟩ := hrel
                          by_cases hlm : m < L.length
                          · obtain ⟨bc, oc, hA, hbc, hc⟩ := (HL5.out.below hBm) (by omega)
                            subst hA
                            obtain ⟨d0, d1, d2, hx⟩ := hc m hlm
                            have hxs := Hsm.out L[m].c (List.mem_map_of_mem (List.getElem_mem hlm))
                            have hsu := hitV_succ L reps s u m hlm
                            have Hsu2 := Lib.hid hsu
                            have hmz := hBm.size
                            clear hc hsu
                            generalize hitV (csOf (L.take m)) reps s u = t0 at *
                            generalize L[m] = x at *
                            replace d1 : wr.cell? ⟨bc, oc + m * 3 + 1, none⟩ = some (.slice x.n.a x.n.n x.n.c) := d1
                            replace d2 : wr.cell? ⟨bc, oc + m * 3 + 2, none⟩ = some (.slice x.x.a x.x.n x.x.c) := d2
                            obtain ⟨w7, hw7⟩ : ∃ w7, w7 = wr.alloc (.cells #[.string x.c.unit, .slice x.n.a x.n.n x.n.c, .slice x.x.a x.x.n x.x.c] 33) := ⟨_, rfl⟩
                            have hB7 : Below wr.heap.size wr w7 := by rw [hw7]; exact (Below.refl _ _).alloc (Nat.le_refl _) _
                            have hby : Blk w7 wr.heap.size 33 #[.string x.c.unit, .slice x.n.a x.n.n x.n.c, .slice x.x.a x.x.n x.x.c] := by rw [hw7]; exact Blk.new wr _ _
                            have e0 : w7.cell? ⟨wr.heap.size, 0, none⟩ = some (.string x.c.unit) := hby.cell 0
                            have e1 : w7.cell? ⟨wr.heap.size, 1, none⟩ = some (.slice x.n.a x.n.n x.n.c) := hby.cell 1
                            have e2 : w7.cell? ⟨wr.heap.size, 2, none⟩ = some (.slice x.x.a x.x.n x.x.c) := hby.cell 2
                            have hB57 := hBm.trans (hB7.mono hmz)
                            have hcall := lawHolds_c x reps s A1 c1 As cs w7 (hx.below hB7) (HR5.out.below hB57) (Hs.out.below hB57) (by omega) (by omega) (by omega) (by omega)
                            have Hcall := Lib.hid hcall
                            have HB57 := Lib.hid hB57
                            have Hw7 := Lib.hid hw7
                            clear hw7 hB7 hby hx hB57 hcall hBm HBk
                            cases t0 with
                            | true =>
                              have hf := Lib.hid (Hsu2.out.trans (Bool.true_or _))
                              clear Hsu2 Hcall
                              go_wp2_with fail
                              rw [← Hw7.out]
                              go_roundw
                              case rel => exact ⟨m + 1, by omega, by go_num, by rw [hf.out], HB57.out⟩
                              case measure => simp [intOf]; omega
                            | false =>
                              by_cases hun : x.c.unit = u
                              · have hst := str_eq hun
                                have hf := Lib.hid (Hsu2.out.trans (by rw [decide_eq_true hun, Bool.false_or, Bool.true_and]))
                                clear Hsu2 hun
                                go_wp2_with fail
                                rw [← Hw7.out]
                                refine Hcall.out.mono ?_
                                rintro e w8 ⟨rfl, hb8⟩
                                have HB8 := Lib.hid (HB57.out.trans (hb8.mono HB57.out.size))
                                clear hb8
                                go_wp2_with fail
                                go_roundw
                                case rel => exact ⟨m + 1, by omega, by go_num, by rw [hf.out], HB8.out⟩
                                case measure => simp [intOf]; omega
                              · have hst := str_ne hun
                                have hf := Lib.hid (Hsu2.out.trans (by rw [decide_eq_false hun, Bool.false_or, Bool.false_and]))
                                clear Hsu2 hun Hcall
                                go_wp2_with fail
                                rw [← Hw7.out]
                                go_wp2_with fail
                                go_roundw
                                case rel => exact ⟨m + 1, by omega, by go_num, by rw [hf.out], HB57.out⟩
                                case measure => simp [intOf]; omega
                          · obtain rfl : m = L.length := by omega
                            rw [List.take_length]
                            have hhas := has_c s As cs u wr (Hs.out.below hBm) (by omega)
                            have Hhas := Lib.hid hhas
                            have HBm := Lib.hid hBm
                            clear hhas hBm HBk
                            generalize hitV (csOf L) reps s u = hv at *
                            cases v0 with
                            | false =>
                              have hf := Lib.hid (Hsu.out.trans (Bool.false_and _))
                              clear Hsu Hhas
                              go_wp2_with fail
                              go_roundw
                              case rel => exact ⟨k + 1, by omega, by go_num, by rw [hf.out], HBm.out⟩
                              case measure => simp [intOf]; omega
                            | true =>
                              have hf := Lib.hid (Hsu.out.trans (Bool.true_and _))
                              clear Hsu
                              generalize memB u s = mu at *
                              go_wp2_with fail
                              refine Hhas.out.mono ?_
                              rintro e w' ⟨rfl, hw'⟩
                              subst hw'
                              go_wp2_with fail
                              go_roundw
                              case rel => exact ⟨k + 1, by omega, by go_num, by rw [hf.out], HBm.out⟩
                              case measure => simp [intOf]; omega
                      · obtain rfl : k = us.length := by omega
                        have hck := Check_c L reps s A c A1 c1 As cs wr (HL5.out.below hBk) ok (by omega) (HR5.out.below hBk) okr (by unfold maxLen; omega) (Hs.out.below hBk) Hzs.out (by omega)
                        rw [Hc1.out] at hck
                        have Hck2 := Lib.hid hck
                        have HB8 := Lib.hid (HBi.out.trans (hBk.mono HBi.out.size))
                        clear hck hBk
                        generalize rightTo (csOf L) reps us s us.length = rg at *
                        cases rg with
                        | true =>
                          have hg9 : Hid (goodV (csOf L) reps (n + 1) = gs0 + 1) := Lib.hid (Hgn.out.trans (by simp))
                          clear Hgn
                          go_wp2_with fail
                          refine Hck2.out.mono ?_
                          rintro e w9 ⟨rfl, hb9⟩
                          have HB9 := Lib.hid (HB8.out.trans (hb9.mono HB8.out.size))
                          clear hb9
                          go_wp2_with fail
                          go_roundw
                          case rel => exact ⟨n + 1, by omega, by go_num, by rw [hg9.out]; go_num, HB9.out⟩
                          case measure => simp [intOf]; omega
                        | false =>
                          have hg9 : Hid (goodV (csOf L) reps (n + 1) = gs0) := Lib.hid (Hgn.out.trans (by simp))
                          clear Hgn
                          go_wp2_with fail
                          refine Hck2.out.mono ?_
                          rintro e w9 ⟨rfl, hb9⟩
                          have HB9 := Lib.hid (HB8.out.trans (hb9.mono HB8.out.size))
                          clear hb9
                          go_wp2_with fail
                          go_roundw
                          case rel => exact ⟨n + 1, by omega, by go_num, by rw [hg9.out], HB9.out⟩
                          case measure => simp [intOf]; omega
          · obtain rfl : n = pw := by omega
            have HB9 := Lib.hid (HB3.out.trans (hb.mono HB3.out.size))
            have hg1 := Hgood.out
            clear hb
            generalize goodV (csOf L) reps n = gd at *
            go_wp2_with fail
            go_ret
            exact ⟨rfl, HB9.out⟩
    · have h8i : (8 : Int) < ((unitsV (csOf L)).length : Int) := by omega
      generalize unitsV (csOf L) = us at *
      go_wp2_with fail
      refine Hla.out.mono ?_
      rintro e w' ⟨rfl, hw'⟩
      subst hw'
      go_wp2_with fail
      go_ret
      exact ⟨rfl, HB2.out⟩
end Go.Proofs.YtnbnkhockoflgaaGreatDoor
