/- Texts Y5, joined. -/
import Derived.Test.YtknojjlfgjkbiaaGreatDoorM8
set_option linter.unusedSimpArgs false
set_option linter.unusedVariables false
set_option linter.unusedSectionVars false
/- lists (6), causes without an order. Printed by wip/gen/lists.py no. -/
namespace Go.Proofs.YtknojjlfgjkbiaaGreatDoor
open Go.ChangeShapes Go.WideShapes Go.ChangeAt Go.RowKit
attribute [local go_sem] Oper.semAt_some

set_option maxRecDepth 100000 in
set_option maxHeartbeats 40000000 in
theorem lists_no (v0 v1 : Value) (us : List ByteArray) (Au : Option Addr) (cu : Nat) (ol al : List ByteArray) (pl : List Rep) (rs : List VerV) (b1 b2 : Bool) (w : World) (hus : us.length ≤ 60) (hol : ol = []) (hal : al = []) (hpl : pl = [])
    (h : StartQ v0 v1 us Au cu ol al pl rs 400 false b1 b2 w) : Calls Tryz.prog 6 #[v0, v1, .slice Au us.length cu] w fun e w' => e = .returned (.bool true) ∧ Below w.heap.size w w' := by
  obtain ⟨i0, hi0, hz0, hz1, hz2⟩ := info_parts info9
  unfold StartQ at h
  have HA := Lib.hid h
  have Hol := Lib.hid hol
  have Hal := Lib.hid hal
  have Hpl := Lib.hid hpl
  have hz14 : ((al.length : Int) != 0) = false := by rw [hal]; rfl
  have hz15 : decide ((al.length : Int) = 0) = true := by rw [hal]; rfl
  clear hol hal hpl
  clear h
  go_enter Tryz.func6, Tryz.ntmps6
  go_wp2_with fail
  refine HA.out.mono ?_
  rintro e w1 ⟨V0, rfl, hb1, hB⟩
  have HB1 := Lib.hid hb1
  have HB := Lib.hid hB
  clear hb1 hB HA
  go_wp2_with fail
  refine HB.out.mono ?_
  rintro e w2 ⟨V1, rfl, hb2, hru, hK⟩
  have hown : (w2.alloc (.cells #[] 9)).ownsRow w2.heap.size 9 1 (.slice (some ⟨w2.heap.size, 0, none⟩) 0 0) 0 [] := World.ownsRow_made w2 #[] 0 (Nat.le_refl _) (by simp [maxLen]) rfl
  have hread : Reads (w2.alloc (.cells #[] 9)) w2.heap.size 1 Au us.length (us.map Value.string) := (reads_str hru).alloc (Nat.le_refl _) _
  have Hown := Lib.hid hown
  have Hread := Lib.hid hread
  have Hone := Lib.hid (str_one us)
  have HB2 := Lib.hid (HB1.out.trans (hb2.mono HB1.out.size))
  have HK := Lib.hid hK
  clear hb2 hru hK hown hread HB1 HB
  go_wp2_with (at_builtin; refine wpList_append_any _ rfl _ _ 24 rfl w2.heap.size 9 i0 (.string ⟨#[]⟩) 1 16 Tryz.underlying24 hi0 hz0 hz1 hz2 rfl (by decide) _ 0 [] rfl Hown.out w2.heap.size Au us.length cu (us.map Value.string) rfl Hread.out Hone.out ?c3 ?c4 ?c5 ?_)
  case c3 => unfold maxLen; omega
  case c4 => omega
  case c5 => simp
  intro V2 w3 hown3 hgrow hwhere
  have hb3 : Below w2.heap.size w2 w3 := ((Below.refl _ w2).alloc (Nat.le_refl _) _).grown hgrow (by simp) (fun k hk => by simp [Value.ownBlock] at hk; omega)
  obtain ⟨S, hKt, hS⟩ := HK.out w3 V2 hb3 (by simpa using hown3)
  have K := Lib.hid hKt
  have HS3 := Lib.hid hS
  have HB3 := Lib.hid (HB2.out.trans (hb3.mono HB2.out.size))
  have hla := hKt.la
  clear hgrow hwhere hown3 hb3 hKt hS Hown Hread Hone HK HB2
  go_wp2_with fail
  refine (K.out.order _ HS3.out).mono ?_
  rintro e w4 ⟨Ao, co, rfl, hr, hb⟩
  have HS4 := Lib.hid (K.out.next _ _ HS3.out hb)
  have HB4 := Lib.hid (HB3.out.trans (hb.mono HB3.out.size))
  clear hb HS3 HB3
  have FO := Lib.hid hr
  clear hr
  go_wp2_with fail
  refine (K.out.rorder _ HS4.out).mono ?_
  rintro e w5 ⟨Ar, cr, rfl, hr, hb⟩
  have HS5 := Lib.hid (K.out.next _ _ HS4.out hb)
  have HB5 := Lib.hid (HB4.out.trans (hb.mono HB4.out.size))
  have FOn := Lib.hid (FO.out.below hb)
  clear hb HS4 HB4 FO
  have FR := Lib.hid hr
  clear hr
  go_wp2_with fail
  refine (K.out.acc _ HS5.out).mono ?_
  rintro e w6 ⟨Aa, ca, rfl, hr, hb, hcap⟩
  have HS6 := Lib.hid (K.out.next _ _ HS5.out hb)
  have HB6 := Lib.hid (HB5.out.trans (hb.mono HB5.out.size))
  have FOnn := Lib.hid (FOn.out.below hb)
  have FRn := Lib.hid (FR.out.below hb)
  clear hb HS5 HB5 FOn FR
  have FA := Lib.hid hr
  clear hr
  have Hcap := Lib.hid hcap
  clear hcap
  go_wp2_with fail
  refine (K.out.racc _ HS6.out).mono ?_
  rintro e w7 ⟨Ab, cb, rfl, hr, hb⟩
  have HS7 := Lib.hid (K.out.next _ _ HS6.out hb)
  have HB7 := Lib.hid (HB6.out.trans (hb.mono HB6.out.size))
  have FOnnn := Lib.hid (FOnn.out.below hb)
  have FRnn := Lib.hid (FRn.out.below hb)
  have FAn := Lib.hid (FA.out.below hb)
  clear hb HS6 HB6 FOnn FRn FA
  have FB := Lib.hid hr
  clear hr
  go_wp2_with fail
  refine (K.out.opn _ HS7.out).mono ?_
  rintro e w8 ⟨Ap, cp, rfl, hr, hb⟩
  have HS8 := Lib.hid (K.out.next _ _ HS7.out hb)
  have HB8 := Lib.hid (HB7.out.trans (hb.mono HB7.out.size))
  have FOnnnn := Lib.hid (FOnnn.out.below hb)
  have FRnnn := Lib.hid (FRnn.out.below hb)
  have FAnn := Lib.hid (FAn.out.below hb)
  have FBn := Lib.hid (FB.out.below hb)
  clear hb HS7 HB7 FOnnn FRnn FAn FB
  have FP := Lib.hid hr
  clear hr
  go_wp2_with fail
  refine (K.out.ropn _ HS8.out).mono ?_
  rintro e w9 ⟨Aq, cq, ql, rfl, hql, hr, hb⟩
  have HS9 := Lib.hid (K.out.next _ _ HS8.out hb)
  have HB9 := Lib.hid (HB8.out.trans (hb.mono HB8.out.size))
  have FOnnnnn := Lib.hid (FOnnnn.out.below hb)
  have FRnnnn := Lib.hid (FRnnn.out.below hb)
  have FAnnn := Lib.hid (FAnn.out.below hb)
  have FBnn := Lib.hid (FBn.out.below hb)
  have FPn := Lib.hid (FP.out.below hb)
  clear hb HS8 HB8 FOnnnn FRnnn FAnn FBn FP
  have FQ := Lib.hid hr
  clear hr
  clear hql
  go_wp2_with fail
  refine (K.out.fits _).mono ?_
  rintro e w' ⟨rfl, hw'⟩
  subst hw'
  go_wp2_with fail
  refine (K.out.fits _).mono ?_
  rintro e w' ⟨rfl, hw'⟩
  subst hw'
  go_wp2_with fail
  refine (K.out.fits _).mono ?_
  rintro e w' ⟨rfl, hw'⟩
  subst hw'
  go_wp2_with fail
  refine (sameT0 ol Hol.out Ao co _).mono ?_
  rintro e w10 ⟨rfl, hb⟩
  have HS10 := Lib.hid (K.out.next _ _ HS9.out hb)
  have HB10 := Lib.hid (HB9.out.trans (hb.mono HB9.out.size))
  have FOnnnnnn := Lib.hid (FOnnnnn.out.below hb)
  have FRnnnnn := Lib.hid (FRnnnn.out.below hb)
  have FAnnnn := Lib.hid (FAnnn.out.below hb)
  have FBnnn := Lib.hid (FBnn.out.below hb)
  have FPnn := Lib.hid (FPn.out.below hb)
  have FQn := Lib.hid (FQ.out.below hb)
  clear hb HS9 HB9 FOnnnnn FRnnnn FAnnn FBnn FPn FQ
  go_wp2_with fail
  refine (sameT0 al Hal.out Aa ca _).mono ?_
  rintro e w11 ⟨rfl, hb⟩
  have HS11 := Lib.hid (K.out.next _ _ HS10.out hb)
  have HB11 := Lib.hid (HB10.out.trans (hb.mono HB10.out.size))
  have FOnnnnnnn := Lib.hid (FOnnnnnn.out.below hb)
  have FRnnnnnn := Lib.hid (FRnnnnn.out.below hb)
  have FAnnnnn := Lib.hid (FAnnnn.out.below hb)
  have FBnnnn := Lib.hid (FBnnn.out.below hb)
  have FPnnn := Lib.hid (FPnn.out.below hb)
  have FQnn := Lib.hid (FQn.out.below hb)
  clear hb HS10 HB10 FOnnnnnn FRnnnnn FAnnnn FBnnn FPnn FQn
  go_wp2_with fail
  refine (sameR0 pl Hpl.out Ap cp _).mono ?_
  rintro e w12 ⟨rfl, hb⟩
  have HS12 := Lib.hid (K.out.next _ _ HS11.out hb)
  have HB12 := Lib.hid (HB11.out.trans (hb.mono HB11.out.size))
  have FOnnnnnnnn := Lib.hid (FOnnnnnnn.out.below hb)
  have FRnnnnnnn := Lib.hid (FRnnnnnn.out.below hb)
  have FAnnnnnn := Lib.hid (FAnnnnn.out.below hb)
  have FBnnnnn := Lib.hid (FBnnnn.out.below hb)
  have FPnnnn := Lib.hid (FPnnn.out.below hb)
  have FQnnn := Lib.hid (FQnn.out.below hb)
  clear hb HS11 HB11 FOnnnnnnn FRnnnnnn FAnnnnn FBnnnn FPnnn FQnn
  go_wp2_with fail
  clear FOnnnnnnnn FRnnnnnnn FBnnnnn FPnnnn FQnnn
  refine (K.out.chk _ HS12.out).mono ?_
  rintro e w13 ⟨rfl, hb⟩
  have HS13 := Lib.hid (K.out.next _ _ HS12.out hb)
  have HB13 := Lib.hid (HB12.out.trans (hb.mono HB12.out.size))
  have FAnnnnnnn := Lib.hid (FAnnnnnn.out.below hb)
  clear hb HS12 HB12 FAnnnnnn
  go_wp2_with fail
  refine (K.out.rchk _ HS13.out).mono ?_
  rintro e w14 ⟨rfl, hb⟩
  have HS14 := Lib.hid (K.out.next _ _ HS13.out hb)
  have HB14 := Lib.hid (HB13.out.trans (hb.mono HB13.out.size))
  have FAnnnnnnnn := Lib.hid (FAnnnnnnn.out.below hb)
  clear hb HS13 HB13 FAnnnnnnn
  go_wp2_with fail
  refine (K.out.chk2 _ HS14.out Aa ca FAnnnnnnnn.out Hcap.out.1 Hcap.out.2).mono ?_
  rintro e w15 ⟨rfl, hb⟩
  have HS15 := Lib.hid (K.out.next _ _ HS14.out hb)
  have HB15 := Lib.hid (HB14.out.trans (hb.mono HB14.out.size))
  have FAnnnnnnnnn := Lib.hid (FAnnnnnnnn.out.below hb)
  clear hb HS14 HB14 FAnnnnnnnn
  go_wp2_with fail
  refine (K.out.rchk2 _ HS15.out Aa ca FAnnnnnnnnn.out Hcap.out.1 Hcap.out.2).mono ?_
  rintro e w16 ⟨rfl, hb⟩
  have HS16 := Lib.hid (K.out.next _ _ HS15.out hb)
  have HB16 := Lib.hid (HB15.out.trans (hb.mono HB15.out.size))
  have FAnnnnnnnnnn := Lib.hid (FAnnnnnnnnn.out.below hb)
  clear hb HS15 HB15 FAnnnnnnnnn
  go_wp2_with fail
  clear Hcap FAnnnnnnnnnn
  refine (K.out.ver _ HS16.out).mono ?_
  rintro e wb ⟨Av, cv, vs, rfl, hP⟩
  have HP := Lib.hid hP
  have HSb := Lib.hid (K.out.next _ _ HS16.out hP.below)
  clear hP
  go_wp2_with fail
  refine (K.out.rver _ HSb.out).mono ?_
  rintro e wc ⟨Aw, cw, rfl, hown, hb⟩
  have hL0 : LoopSt w16 al vs rs (.slice Av al.length cv) (.slice Aw al.length cw) 0 wc := LoopSt.init HP.out hown hb
  have HL0 := Lib.hid hL0
  clear hown hb hL0 HSb
  go_wp2_with fail
  refine (K.out.fits _).mono ?_
  rintro e w' ⟨rfl, hw'⟩
  subst hw'
  go_wp2_with fail
  go_loopw [26] (fun t wr => ∃ k : Nat, k ≤ al.length ∧ t = .int .i64 k ∧ LoopSt w16 al vs rs (.slice Av al.length cv) (.slice Aw al.length cw) k wr) (fun t wr => al.length - (intOf t).toNat)
  case atStart => exact ⟨0, Nat.zero_le _, rfl, HL0.out⟩
  case round =>
    obtain ⟨k, hk, rfl, hL⟩ := hrel
    by_cases hlt : k < al.length
    · have hkv : k < vs.length := by rw [HP.out.n]; exact hlt
      have hkr : k < rs.length := by rw [K.out.rn]; exact hlt
      obtain ⟨gv, hAv, hgv, p0, p1, p2⟩ := own3 hL.row HP.out.n hkv
      obtain ⟨gw, hAw, hgw, q0, q1, q2⟩ := own3 hL.ref K.out.rn hkr
      have hxy := HP.out.same k hkv hkr
      have hS := K.out.next _ _ HS16.out hL.below
      obtain ⟨hrd, hyn⟩ := K.out.rsub _ hS k hkr
      have hxn := HP.out.len _ (List.getElem_mem hkv)
      have hyl := K.out.lr _ (List.getElem_mem hkr)
      have hstep := fun (W' W'' : World) (h1 : Below wr.heap.size wr W') (h2 : W'.grownBy W'' (Value.slice vs[k].s.a vs[k].s.n vs[k].s.c).ownBlock) => (hL.ext h1).step hkv HP.out.apart h2
      have hsub := fun (W' : World) (h1 : Below wr.heap.size wr W') => (hL.ext h1).sub hkv
      generalize vs[k] = x at *
      generalize rs[k] = y at *
      rw [← hxy] at q0 q1 hrd hyl
      rw [hyn, ← hxy] at q2
      rw [hxn] at p2 hstep hsub
      have h17 : ∀ z : Ext wr, Calls Tryz.prog 17 #[.slice x.s.a x.d.reps.length x.s.c, .slice y.s.a x.d.reps.length y.s.c] z.w fun e w' => e = .returned (.bool true) ∧ Below z.w.heap.size z.w w' := fun z =>
        sameR x.d.reps x.s.a y.s.a x.s.c y.s.c z.w (rdRep_of_own (hsub z.w z.h)) (hrd.below z.h) hyl
      have hi0 : (0 : Int) ≤ (k : Int) := by omega
      have hi1 : (k : Int) < (al.length : Int) := by omega
      have H17 := Lib.hid h17
      have Hstep := Lib.hid hstep
      have Hsub := Lib.hid hsub
      have Hyl := Lib.hid hyl
      have hec := ext_cell wr
      clear h17 hstep hsub hyl hrd hxn hyn hxy hS hkv hkr HL0 hL
      subst hAv hAw
      go_wp2_with fail
      refine wp_region_ext (by kernel_rfl) (by kernel_rfl) ?_
      repeat (go_big_quiet_step ((go_at_call 17; with_reducible exact ext_call (H17.out _))))
      refine wpQuiet_nil ?_
      intro _ hw'
      obtain ⟨xx, hw''⟩ := hw'
      subst hw''
      have hst2 := fun (W'' : World) (h2 : xx.w.grownBy W'' (Value.slice x.s.a x.d.reps.length x.s.c).ownBlock) => Hstep.out xx.w W'' xx.h h2
      have hov := over_c x.s.a x.d.reps.length x.s.c w16.heap.size _ xx.w (Hsub.out xx.w xx.h) (Nat.le_trans Hyl.out (by decide))
      have p2' : xx.w.cell? ⟨gv, k * 3 + 2, none⟩ = some (.slice x.s.a x.d.reps.length x.s.c) := below_cell0 xx.h p2
      have Hst2 := Lib.hid hst2
      have Hov := Lib.hid hov
      clear hec hst2 hov p0 p1 p2 q0 q1 q2 H17 Hstep Hsub Hyl hgv hgw
      generalize xx.w = wx at *
      clear xx
      go_wp2_with fail
      refine Hov.out.mono ?_
      rintro e w5 ⟨rfl, hg⟩
      have HL5 := Lib.hid (Hst2.out w5 hg)
      clear hg Hst2 Hov p2'
      go_wp2_with fail
      go_roundw
      case rel => exact ⟨k + 1, by omega, by go_num, HL5.out⟩
      case measure => simp [intOf]; omega
    · obtain rfl : k = al.length := by omega
      have hS := K.out.next _ _ HS16.out hL.below
      have HSe := Lib.hid hS
      have HBe := Lib.hid (HB16.out.trans (hL.below.mono HB16.out.size))
      clear hS hL HL0
      go_wp2_with fail
      refine (K.out.keptC _ HSe.out).mono ?_
      rintro e w5 ⟨rfl, hb⟩
      have HS5 := Lib.hid (K.out.next _ _ HSe.out hb)
      have HB5 := Lib.hid (HBe.out.trans (hb.mono HBe.out.size))
      clear hb
      go_wp2_with fail
      refine (K.out.keptR _ HS5.out).mono ?_
      rintro e w6 ⟨rfl, hb⟩
      have HS6 := Lib.hid (K.out.next _ _ HS5.out hb)
      have HB6 := Lib.hid (HB5.out.trans (hb.mono HB5.out.size))
      clear hb
      go_wp2_with fail
      refine (K.out.keptU _ HS6.out).mono ?_
      rintro e w7 ⟨rfl, hb⟩
      have HB7 := Lib.hid (HB6.out.trans (hb.mono HB6.out.size))
      clear hb
      go_wp2_with fail
      go_ret
      exact ⟨rfl, HB7.out⟩
end Go.Proofs.YtknojjlfgjkbiaaGreatDoor
