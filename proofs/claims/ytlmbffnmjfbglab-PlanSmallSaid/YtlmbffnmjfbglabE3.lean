/- KeptClaims. -/
import Derived.Test.YtlmbffnmjfbglabE2
set_option linter.unusedSimpArgs false
set_option linter.unusedVariables false
namespace Go.Proofs.Ytlmbffnmjfbglab
open Go.ChangeShapes Go.WideShapes Go.ChangeAt Go.RowKit

section
attribute [-go_sem] run_sliceAt_slice
set_option maxRecDepth 100000 in
set_option maxHeartbeats 4000000 in
theorem keptC_c : ∀ (N : Nat) (l : List Claim), sizeL l < N → ∀ (v : Value) (A : Option Addr) (c : Nat) (w : World), LdK w v l → RdK w A l → l.length ≤ maxC → smL maxC l →
    Calls Try.prog 54 #[v, .slice A l.length c] w fun e w' => e = .returned (.bool true) ∧ Below w.heap.size w w' := by
  intro N
  induction N with
  | zero => intro l hl; omega
  | succ N ih =>
    intro l hl v A c w hv h hlen hsm
    unfold maxC at hlen
    obtain ⟨g, cap, rfl, hcap, hcm, hg0, hld, hmk⟩ := id hv
    have hne : ((l.length : Int) != (l.length : Int)) = false := by simp
    have hwr := IntWalk.i64_in ((l.length : Int) + 12) (by omega)
    have hsl : ∀ W, (Instr.sliceAt 29 (.slice (some ⟨g, 0, none⟩) l.length cap) none (some (.int .i64 ((l.length : Int) + 12))) none).run Try.prog W = .ok (.slice (some ⟨g, 0, none⟩) (l.length + 12) cap) W := fun W => by
      have := slice_to29 (some ⟨g, 0, none⟩) l.length (l.length + 12) cap hcap W
      simpa using this
    have IH := Lib.hid ih
    have H := Lib.hid h
    have HV := Lib.hid hv
    have HN := Lib.hid hl
    have HS := Lib.hid hsm
    clear ih h hl hsm hv hld hmk
    go_enter Try.func54, Try.ntmps54
    go_wp2_with fail
    go_loopw [6] (fun i wr => ∃ k : Nat, k ≤ l.length + 12 ∧ i = .int .i64 k ∧ Below w.heap.size w wr) (fun i _ => l.length + 12 - (intOf i).toNat)
    case atStart => exact ⟨0, by omega, rfl, Below.refl _ _⟩
    case round =>
      obtain ⟨k, hk, rfl, hBr⟩ := hrel
      obtain ⟨g2, cap2, e2, _, _, hg2, hld, hmk⟩ := LdK.next HV.out hBr
      injection e2 with e2 _ e3
      injection e2 with e2
      injection e2 with e2
      subst e2 e3
      have hec := ext_cell wr
      have hi0 : (0 : Int) ≤ (k : Int) := by omega
      by_cases hlt : k < l.length
      · obtain ⟨b, o, rfl, hb, hrl⟩ := RdK.keep' hBr H.out (by omega)
        obtain ⟨d0, d1, d2, As, cs, d3, hs1, hs2, hsr⟩ := (RdL.at_ l o k hlt hrl).open'
        have hsz := sizeL_mem hlt
        rw [Claim.subN_sub] at hsz
        have hsubN : sizeL l[k].sub < N := by have := HN.out; omega
        have hss := Claim.sm_sub (smL_get hlt HS.out)
        have hlc := LdL.at_ l 0 k hlt hld
        cases hcx : l[k] with
        | mk f t wi sub =>
        rw [hcx] at d0 d1 d2 d3 hs1 hsr hsz hsubN hss hlc
        simp only [Claim.frm, Claim.to, Claim.wth, Claim.sub] at d0 d1 d2 d3 hs1 hsr hsz hsubN hss
        simp only [LdC, Nat.zero_add] at hlc
        obtain ⟨c0, c1, c2, g', c', c3, h1, h2, h3, h4, h5⟩ := hlc
        have hldk : LdK wr (.slice (some ⟨g', 0, none⟩) sub.length c') sub := ⟨g', c', rfl, h1, h2, h3, h4, h5⟩
        have hi1 : (k : Int) < (l.length : Int) + 12 := by omega
        have hi2 : (k : Int) < (l.length : Int) := by omega
        have t1 : decide ((k : Int) < (l.length : Int)) = true := decide_eq_true hi2
        have t2 : decide ((k : Int) ≥ (l.length : Int)) = false := decide_eq_false (by omega)
        have t3 : decide (k < l.length) = true := decide_eq_true hlt
        have t4 : decide (l.length ≤ k) = false := decide_eq_false (by omega)
        have hk1 : ∀ y : Ext wr, Calls Try.prog 76 #[.agg #[.int .i64 f, .int .i64 t, .int .i64 wi, .slice (some ⟨g', 0, none⟩) sub.length c'], .agg #[.int .i64 f, .int .i64 t, .int .i64 wi, .slice As sub.length cs]] y.w fun e w' => e = .returned (.bool true) ∧ Below y.w.heap.size y.w w' := fun y => kept1_c f t wi sub _ As c' cs y.w
          (fun W hb => by
            have hbw := y.h.trans (hb.mono y.h.size)
            obtain ⟨A2, c2, e2, _, _, hrd⟩ := (LdK.next hldk hbw).rd
            injection e2 with e2 _ _
            rw [e2]
            exact sameClaims_c (sizeL sub + 1) sub sub (by omega) A2 As c' cs W hrd (RdK.keep' hbw hsr) (by unfold maxLen at hs2; omega) (by unfold maxLen at hs2; omega))
          (fun W hb => by
            have hbw := y.h.trans (hb.mono y.h.size)
            exact IH.out sub hsubN _ As cs W (LdK.next hldk hbw) (RdK.keep' hbw hsr) hss.1 hss.2)
        have Hk1 := Lib.hid hk1
        clear hk1 hldk hrl hsr hcx hsz hsubN hss hld hmk h4 h5 hlt
        go_wp2_with fail
        refine wp_region_ext (by kernel_rfl) (by kernel_rfl) ?_
        repeat (go_big_quiet_step ((go_at_call 76; with_reducible exact ext_call (Hk1.out _))))
        refine wpQuiet_nil ?_
        intro _ hw'
        obtain ⟨xx, hw''⟩ := hw'
        subst hw''
        have hB2 := hBr.trans (xx.h.mono hBr.size)
        clear hec c0 c1 c2 c3 d0 d1 d2 d3 Hk1
        generalize xx.w = w9 at hB2 ⊢
        go_wp2_with fail
        go_roundw
        case rel => exact ⟨k + 1, by omega, by go_num, hB2⟩
        case measure => simp [intOf]; omega
      · by_cases hlt2 : k < l.length + 12
        · have hmc := hmk (k - l.length) (by omega)
          rw [show l.length + (k - l.length) = k by omega] at hmc
          obtain ⟨c0, c1, c2, c3⟩ := hmc
          have hi1 : (k : Int) < (l.length : Int) + 12 := by omega
          have t1 : decide ((k : Int) < (l.length : Int)) = false := decide_eq_false (by omega)
          have t2 : decide ((k : Int) ≥ (l.length : Int)) = true := decide_eq_true (by omega)
          have t3 : decide (k < l.length) = false := decide_eq_false hlt
          have t4 : decide (l.length ≤ k) = true := decide_eq_true (by omega)
          have hmark : ∀ y : Ext wr, Calls Try.prog 72 #[.int .i64 1, .int .i64 ((k - l.length : Nat) : Int)] y.w fun e w' => e = .returned (.agg #[.int .i64 (markI (k - l.length)), .int .i64 0, .int .i64 0, .slice none 0 0]) ∧ Below y.w.heap.size y.w w' := fun y => markClaim_c _ y.w (by omega)
          have hsame : ∀ y : Ext wr, Calls Try.prog 58 #[.agg #[.int .i64 (markI (k - l.length)), .int .i64 0, .int .i64 0, .slice none 0 0], .agg #[.int .i64 (markI (k - l.length)), .int .i64 0, .int .i64 0, .slice none 0 0]] y.w fun e w' => e = .returned (.bool true) ∧ Below y.w.heap.size y.w w' := fun y => by
            have := sameClaim_c (markI (k - l.length)) 0 0 (markI (k - l.length)) 0 0 [] [] none none 0 0 y.w (fun W hb => sameClaims_c 1 [] [] (by simp [sizeL]) none none 0 0 W (fun h => absurd h (by simp)) (fun h => absurd h (by simp)) (by simp) (by simp))
            rw [show (markI (k - l.length) == markI (k - l.length) && ((0 : Int) == 0 && ((0 : Int) == 0 && eqL [] []))) = true by simp [eqL]] at this
            exact this
          have hcast : (((k - l.length : Nat) : Nat) : Int) = (k : Int) - (l.length : Int) := by omega
          rw [hcast] at hmark
          have hw1 : IntKind.i64.wrap ((k : Int) - (l.length : Int)) = (k : Int) - (l.length : Int) := IntWalk.i64_in _ (by omega)
          have Hmark := Lib.hid hmark
          have Hsame := Lib.hid hsame
          clear hmark hsame hcast hld hmk
          generalize markI (k - l.length) = m9 at *
          go_wp2_with fail
          refine wp_region_ext (by kernel_rfl) (by kernel_rfl) ?_
          repeat (go_big_quiet_step ((first | (go_at_call 72; with_reducible exact ext_call (Hmark.out _)) | (go_at_call 58; with_reducible exact ext_call (Hsame.out _)))))
          refine wpQuiet_nil ?_
          intro _ hw'
          obtain ⟨xx, hw''⟩ := hw'
          subst hw''
          have hB2 := hBr.trans (xx.h.mono hBr.size)
          clear hec c0 c1 c2 c3 Hmark Hsame hw1
          generalize xx.w = w9 at hB2 ⊢
          go_wp2_with fail
          go_roundw
          case rel => exact ⟨k + 1, by omega, by go_num, hB2⟩
          case measure => simp [intOf]; omega
        · obtain rfl : k = l.length + 12 := by omega
          clear hld hmk hec
          go_wp2_with fail
          go_ret
          exact ⟨rfl, hBr⟩
end
end Go.Proofs.Ytlmbffnmjfbglab
