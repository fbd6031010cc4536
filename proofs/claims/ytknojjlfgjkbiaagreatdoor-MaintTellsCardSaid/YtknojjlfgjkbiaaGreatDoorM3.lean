/- Texts T3 T4 T5, joined. -/
import Derived.Deep.AppendLies
import Derived.Test.YtknojjlfgjkbiaaGreatDoorM2
import Derived.Test.YtknojjlfgjkbiaaGreatDoorH08
set_option linter.unusedSimpArgs false
set_option linter.unusedVariables false
set_option linter.unusedSectionVars false
/- The reference's less, explained, Check. -/
namespace Go.Proofs.YtknojjlfgjkbiaaGreatDoor
open Go.ChangeShapes Go.WideShapes Go.ChangeAt Go.RowKit
attribute [local go_sem] Oper.semAt_some

theorem lessR_succ (l out : List Rep) (k : Nat) (h : k < l.length) : lessR (l.take (k + 1)) out = if memB l[k] out = true then lessR (l.take k) out else lessR (l.take k) out ++ [l[k]] := by
  unfold lessR
  rw [List.take_succ_eq_append_getElem h, List.filter_append]
  cases hq : memB l[k] out <;> simp [hq]
theorem lessR_len (l out : List Rep) : (lessR l out).length ≤ l.length := List.length_filter_le _ _
theorem explR_succ (L : List CsV) (reps : List Rep) (us of : List ByteArray) (k : Nat) (h : k < L.length) : explR (csOf (L.take (k + 1))) reps us of = explR (csOf (L.take k)) reps us of ++ if (memB L[k].c.unit of && holdB reps us L[k].c) = true then L[k].c.needs else [] := by
  unfold explR csOf
  rw [List.take_succ_eq_append_getElem h, List.map_append, List.flatMap_append]; simp
theorem explR_len (L : List CsV) (reps : List Rep) (us of : List ByteArray) (hn : ∀ x ∈ L, x.c.needs.length ≤ 1000) : ∀ k, k ≤ L.length → (explR (csOf (L.take k)) reps us of).length ≤ 1000 * k
  | 0, _ => by simp [explR, csOf]
  | k + 1, hk => by
    rw [explR_succ L reps us of k (by omega), List.length_append]
    have := explR_len L reps us of hn k (by omega)
    have h2 := hn L[k] (List.getElem_mem _)
    split
    · omega
    · rw [List.length_nil]; omega
set_option maxRecDepth 100000 in
set_option maxHeartbeats 2000000 in
theorem rLess_c (l out : List Rep) (A : Option Addr) (c : Nat) (A1 : Option Addr) (c1 : Nat) (w : World) (h : RdRep w w.heap.size A l) (ho : RdRep w w.heap.size A1 out) (hl : l.length ≤ 100000000) (hl1 : out.length ≤ 2199023255552) :
    Calls Tryz.prog 54 #[.slice A l.length c, .slice A1 out.length c1] w fun e w' => ∃ A' c', e = .returned (.slice A' (lessR l out).length c') ∧ RdRep w' w'.heap.size A' (lessR l out) ∧ Below w.heap.size w w' := by
  have H := Lib.hid h
  have Ho := Lib.hid ho
  obtain ⟨i0, hi0, hz0, hz1, hz2⟩ := info_parts info46
  clear h ho
  go_enter Tryz.func54, Tryz.ntmps54
  go_wp2_with fail
  go_loopw [5, 6] (fun v t wr => ∃ k : Nat, k ≤ l.length ∧ t = .int .i64 k ∧ Below w.heap.size w wr ∧ wr.ownsRow w.heap.size 32 2 v (lessR (l.take k) out).length ((lessR (l.take k) out).flatMap Rep.cells)) (fun _ t wr => l.length - (intOf t).toNat)
  case atStart => exact ⟨0, Nat.zero_le _, rfl, Below.refl _ _, World.ownsRow_nil _ _ _ _⟩
  case round =>
    obtain ⟨k, hk, rfl, hB, hown⟩ := hrel
    obtain ⟨Av, cv, rfl, _⟩ := own_caps hown
    by_cases hlt : k < l.length
    · obtain ⟨bo, oo, hA, hbo, hc⟩ := (H.out.below hB) (by omega)
      subst hA
      obtain ⟨d0, d1⟩ := hc k hlt
      have hst := lessR_succ l out k hlt
      have hsl : (lessR (l.take k) out).length ≤ 100000000 := by have := lessR_len (l.take k) out; simp at this; omega
      have hcall := rHasReport_c out A1 c1 l[k] wr (Ho.out.below hB) (by omega)
      have Hst := Lib.hid hst
      have Hcall := Lib.hid hcall
      have Hown := Lib.hid hown
      have HB := Lib.hid hB
      clear hc hst hcall hown hB
      generalize lessR (l.take k) out = s at *
      generalize l[k] = r at *
      cases hq : memB r out with
      | true =>
        rw [hq] at Hcall Hst
        have hn : Hid (lessR (l.take (k + 1)) out = s) := Lib.hid (Hst.out.trans (if_pos rfl))
        clear Hst hq
        go_wp2_with fail
        refine Hcall.out.mono ?_
        rintro e w2 ⟨rfl, hb2⟩
        have HB2 := Lib.hid (HB.out.trans (hb2.mono HB.out.size))
        have Hown2 := Lib.hid (own_keep Hown.out (below_grown (row := none) hb2) (fun r e => by cases e))
        clear hb2
        go_wp2_with fail
        go_roundw
        case rel => exact ⟨k + 1, by omega, by go_num, HB2.out, by rw [hn.out]; exact Hown2.out⟩
        case measure => simp [intOf]; omega
      | false =>
        rw [hq] at Hcall Hst
        have hn : Hid (lessR (l.take (k + 1)) out = s ++ [r]) := Lib.hid (Hst.out.trans (if_neg (by simp)))
        clear Hst hq
        go_wp2_with fail
        refine Hcall.out.mono ?_
        rintro e w2 ⟨rfl, hb2⟩
        have HB2 := Lib.hid (HB.out.trans (hb2.mono HB.out.size))
        have Hown2 := Lib.hid (own_keep Hown.out (below_grown (row := none) hb2) (fun r e => by cases e))
        have hz2' := HB2.out.size
        have e0 : w2.cell? ⟨bo, oo + k * 2, none⟩ = some (.string r.unit) := below_cell0 hb2 d0
        have e1 : w2.cell? ⟨bo, oo + k * 2 + 1, none⟩ = some (.int .i64 r.code) := below_cell0 hb2 d1
        clear hb2 d0 d1
        go_wp2_with (at_builtin; refine wpList_append_own _ rfl (.tmp 20) (.tmp 25) 23 rfl w.heap.size 32 i0 _ 2 24 Tryz.underlying23 hi0 hz0 hz1 hz2 rfl (by decide) _ _ _ rfl (Hown2.out.alloc _) ⟨w2.heap.size, 0, none⟩ 1 1 [.string r.unit, .int .i64 r.code] rfl rfl ?c1 ?c2 ?c3 ?c4 ?c5 ?_)
        case c1 =>
          intro j u' hj
          rw [addr_add_none, Nat.zero_add, (Blk.new w2 32 #[.string r.unit, .int .i64 r.code]).cell j]
          simpa using hj
        case c2 => intro u' hu'; simp at hu'; rcases hu' with rfl | rfl <;> rfl
        case c3 => unfold maxLen; omega
        case c4 => omega
        case c5 => simp; omega
        intro v5 w5 hown5 hg5 _
        have hb5 := (HB2.out.alloc hz2' (.cells #[.string r.unit, .int .i64 r.code] 32)).grown hg5 (by simp; omega) (fun g hg => (Hown2.out.lt g hg).1)
        have HR := Lib.hid (And.intro hb5 hown5)
        clear hown5 hg5 hb5
        go_wp2_with fail
        go_roundw
        case rel => exact ⟨k + 1, by omega, by go_num, HR.out.1, by rw [hn.out]; simpa [Rep.cells] using HR.out.2⟩
        case measure => simp [intOf]; omega
    · obtain rfl : k = l.length := by omega
      rw [List.take_length] at hown ⊢
      have HR := Lib.hid (And.intro (rdRep_of_own hown) hB)
      clear hown hB
      go_wp2_with fail
      go_ret
      exact ⟨Av, cv, rfl, HR.out⟩
set_option maxRecDepth 100000 in
set_option maxHeartbeats 2000000 in
theorem rExplained_c (L : List CsV) (reps : List Rep) (us of : List ByteArray) (A : Option Addr) (c : Nat) (A1 : Option Addr) (c1 : Nat) (A2 : Option Addr) (c2 : Nat) (A3 : Option Addr) (c3 : Nat) (w : World) (h : RdCs w w.heap.size A L) (hr : RdRep w w.heap.size A1 reps) (hs : RdStr w w.heap.size A2 us) (ho : RdStr w w.heap.size A3 of)
    (hlL : L.length ≤ 1000) (hn : ∀ x ∈ L, x.c.needs.length ≤ 1000) (hl : reps.length ≤ 2199023255552) (hu : us.length ≤ 2199023255552) (hof : of.length ≤ 2199023255552) :
    Calls Tryz.prog 55 #[.slice A L.length c, .slice A1 reps.length c1, .slice A2 us.length c2, .slice A3 of.length c3] w fun e w' => ∃ A' c', e = .returned (.slice A' (explR (csOf L) reps us of).length c') ∧ RdRep w' w'.heap.size A' (explR (csOf L) reps us of) ∧ (explR (csOf L) reps us of).length ≤ 1000000 ∧ Below w.heap.size w w' := by
  have H := Lib.hid h
  have Hr := Lib.hid hr
  have Hs := Lib.hid hs
  have Ho := Lib.hid ho
  have hel := explR_len L reps us of hn
  have Hel := Lib.hid hel
  have Hn := Lib.hid hn
  obtain ⟨i0, hi0, hz0, hz1, hz2⟩ := info_parts info46
  clear h hr hs ho hel hn
  go_enter Tryz.func55, Tryz.ntmps55
  go_wp2_with fail
  go_loopw [9, 10] (fun v t wr => ∃ k : Nat, k ≤ L.length ∧ t = .int .i64 k ∧ Below w.heap.size w wr ∧ wr.ownsRow w.heap.size 32 2 v (explR (csOf (L.take k)) reps us of).length ((explR (csOf (L.take k)) reps us of).flatMap Rep.cells)) (fun _ t wr => L.length - (intOf t).toNat)
  case atStart => exact ⟨0, Nat.zero_le _, rfl, Below.refl _ _, World.ownsRow_nil _ _ _ _⟩
  case round =>
    obtain ⟨k, hk, rfl, hB, hown⟩ := hrel
    obtain ⟨Av, cv, rfl, _⟩ := own_caps hown
    by_cases hlt : k < L.length
    · obtain ⟨bo, oo, hA, hbo, hc⟩ := (H.out.below hB) (by omega)
      subst hA
      obtain ⟨d0, d1, d2, hx⟩ := hc k hlt
      have hst := explR_succ L reps us of k hlt
      have hsl := Hel.out k hk
      have hxn := Hn.out L[k] (List.getElem_mem hlt)
      have hhas := rHas_c of A3 c3 L[k].c.unit wr (Ho.out.below hB) (by omega)
      have hhold := rHolds_c L[k] reps us A1 c1 A2 c2 wr hx (Hr.out.below hB) (Hs.out.below hB) hl hu
      have Hst := Lib.hid hst
      have Hhas := Lib.hid hhas
      have Hhold := Lib.hid hhold
      have Hown := Lib.hid hown
      have HB := Lib.hid hB
      have Hx := Lib.hid hx
      clear hc hst hhas hhold hown hB hx
      generalize explR (csOf (L.take k)) reps us of = s at *
      generalize L[k] = x at *
      replace d1 : wr.cell? ⟨bo, oo + k * 3 + 1, none⟩ = some (.slice x.n.a x.n.n x.n.c) := d1
      replace d2 : wr.cell? ⟨bo, oo + k * 3 + 2, none⟩ = some (.slice x.x.a x.x.n x.x.c) := d2
      cases hq : memB x.c.unit of with
      | false =>
        rw [hq] at Hhas Hst
        have hn : Hid (explR (csOf (L.take (k + 1))) reps us of = s) := Lib.hid (Hst.out.trans (by simp))
        clear Hst hq Hhold
        go_wp2_with fail
        refine Hhas.out.mono ?_
        rintro e w' ⟨rfl, hw'⟩
        subst hw'
        go_wp2_with fail
        go_roundw
        case rel => exact ⟨k + 1, by omega, by go_num, HB.out, by rw [hn.out]; exact Hown.out⟩
        case measure => simp [intOf]; omega
      | true =>
        rw [hq] at Hhas Hst
        cases hh : holdB reps us x.c with
        | false =>
          rw [hh] at Hhold Hst
          have hn : Hid (explR (csOf (L.take (k + 1))) reps us of = s) := Lib.hid (Hst.out.trans (by simp))
          clear Hst hq hh
          go_wp2_with fail
          refine Hhas.out.mono ?_
          rintro e w' ⟨rfl, hw'⟩
          subst hw'
          go_wp2_with fail
          refine Hhold.out.mono ?_
          rintro e w2 ⟨rfl, hb2⟩
          have HB2 := Lib.hid (HB.out.trans (hb2.mono HB.out.size))
          have Hown2 := Lib.hid (own_keep Hown.out (below_grown (row := none) hb2) (fun r e => by cases e))
          clear hb2
          go_wp2_with fail
          go_roundw
          case rel => exact ⟨k + 1, by omega, by go_num, HB2.out, by rw [hn.out]; exact Hown2.out⟩
          case measure => simp [intOf]; omega
        | true =>
          rw [hh] at Hhold Hst
          have hn : Hid (explR (csOf (L.take (k + 1))) reps us of = s ++ x.c.needs) := Lib.hid (Hst.out.trans (by simp))
          clear Hst hq hh
          go_wp2_with fail
          refine Hhas.out.mono ?_
          rintro e w' ⟨rfl, hw'⟩
          subst hw'
          go_wp2_with fail
          refine Hhold.out.mono ?_
          rintro e w2 ⟨rfl, hb2⟩
          have HB2 := Lib.hid (HB.out.trans (hb2.mono HB.out.size))
          have Hown2 := Lib.hid (own_keep Hown.out (below_grown (row := none) hb2) (fun r e => by cases e))
          have hz2' := HB2.out.size
          have e1 : w2.cell? ⟨bo, oo + k * 3 + 1, none⟩ = some (.slice x.n.a x.n.n x.n.c) := below_cell0 hb2 d1
          have hrd : Reads w2 w2.heap.size 2 x.n.a x.n.n (x.c.needs.flatMap Rep.cells) := by rw [Hx.out.nl]; exact reads_rep (Hx.out.n.below hb2)
          have hxm : x.n.n ≤ 1000 := by rw [Hx.out.nl]; exact hxn
          have Hrd := Lib.hid hrd
          clear hb2 d0 d1 d2 hrd
          go_wp2_with (at_builtin; refine wpList_append_any _ rfl (.tmp 33) (.tmp 38) 23 rfl w.heap.size 32 i0 _ 2 24 Tryz.underlying23 hi0 hz0 hz1 hz2 rfl (by decide) _ s.length _ rfl Hown2.out w2.heap.size x.n.a x.n.n x.n.c (x.c.needs.flatMap Rep.cells) rfl Hrd.out (rep_one _) ?c3 ?c4 hz2' ?_)
          case c3 => unfold maxLen; omega
          case c4 => omega
          intro v5 w5 hown5 hg5 _
          have hb5 := HB2.out.grown hg5 hz2' (fun g hg => (Hown2.out.lt g hg).1)
          have HR := Lib.hid (And.intro hb5 hown5)
          clear hown5 hg5 hb5
          go_wp2_with fail
          go_roundw
          case rel => exact ⟨k + 1, by omega, by go_num, HR.out.1, by rw [hn.out, List.length_append, ← Hx.out.nl, List.flatMap_append]; exact HR.out.2⟩
          case measure => simp [intOf]; omega
    · obtain rfl : k = L.length := by omega
      rw [List.take_length] at hown ⊢
      have hle := Hel.out L.length (Nat.le_refl _)
      rw [List.take_length] at hle
      have hle2 : (explR (csOf L) reps us of).length ≤ 1000000 := by omega
      have HR := Lib.hid (And.intro (rdRep_of_own hown) (And.intro hle2 hB))
      clear hown hB hle hle2
      go_wp2_with fail
      go_ret
      exact ⟨Av, cv, rfl, HR.out⟩
end Go.Proofs.YtknojjlfgjkbiaaGreatDoor
/- The reference's Check and Verdicts. -/
namespace Go.Proofs.YtknojjlfgjkbiaaGreatDoor
open Go.ChangeShapes Go.WideShapes Go.ChangeAt Go.RowKit
attribute [local go_sem] Oper.semAt_some

theorem nodup_takes {α : Type} [DecidableEq α] : ∀ {s : List α}, (∀ j (h : j < s.length), memB s[j] (s.take j) = false) → s.Nodup := fun {s} h => by
  rw [List.nodup_iff_pairwise_ne, List.pairwise_iff_getElem]
  intro i j hi hj hij e
  have := h j hj
  rw [← Bool.not_eq_true, memB_iff] at this
  refine this ?_
  rw [← e]
  exact List.mem_iff_getElem.2 ⟨i, by simp; omega, by simp⟩
theorem rd_take {w : World} {B : Nat} {A : Option Addr} {l : List ByteArray} (h : RdStr w B A l) (k : Nat) : RdStr w B A (l.take k) := fun hn => by
  obtain ⟨b, o, rfl, hb, hc⟩ := h (by simp at hn; omega)
  exact ⟨b, o, rfl, hb, fun i hi => by
    have hi' : i < l.length := by simp at hi; omega
    rw [hc i hi']; simp⟩
set_option maxRecDepth 100000 in
set_option maxHeartbeats 4000000 in
theorem rCheck_c (L : List CsV) (reps : List Rep) (s : List ByteArray) (A : Option Addr) (c : Nat) (A1 : Option Addr) (c1 : Nat) (A2 : Option Addr) (c2 : Nat) (w : World) (h : RdCs w w.heap.size A L) (hr : RdRep w w.heap.size A1 reps) (hs : RdStr w w.heap.size A2 s)
    (hlL : L.length ≤ 100000) (hl : reps.length ≤ 2199023255552) (hu : s.length ≤ 100000) (hcap : s.length ≤ c2) (hcm : c2 ≤ maxLen) :
    Calls Tryz.prog 26 #[.slice A L.length c, .slice A1 reps.length c1, .slice A2 s.length c2] w fun e w' => e = .returned (.bool (checkV (csOf L) reps s)) ∧ Below w.heap.size w w' := by
  have hno : ¬ CheckR (csOf L) reps s → checkV (csOf L) reps s = false := fun h => by
    rw [← Bool.not_eq_true, check_ref]; exact h
  have hyes : CheckR (csOf L) reps s → checkV (csOf L) reps s = true := fun h => check_ref.2 h
  have H := Lib.hid h
  have Hr := Lib.hid hr
  have Hs := Lib.hid hs
  have Hno := Lib.hid hno
  have Hyes := Lib.hid hyes
  clear h hr hs hno hyes
  generalize checkV (csOf L) reps s = res at *
  go_enter Tryz.func26, Tryz.ntmps26
  go_wp2_with fail
  go_loopw [7] (fun t wr => ∃ k : Nat, k ≤ s.length ∧ t = .int .i64 k ∧ Below w.heap.size w wr ∧ Hid (∀ j (h : j < s.length), j < k → memB s[j] (s.take j) = false ∧ hitV (csOf L) reps s s[j] = true)) (fun t wr => s.length - (intOf t).toNat)
  case atStart => exact ⟨0, Nat.zero_le _, rfl, Below.refl _ _, fun j _ h => absurd h (by omega)⟩
  case round =>
    obtain ⟨k, hk, rfl, hB, hdone⟩ := hrel
    by_cases hlt : k < s.length
    · obtain ⟨bo, oo, hA, hbo, hc⟩ := (Hs.out.below hB) (by omega)
      subst hA
      have d0 := hc k hlt
      have hbad1 : memB s[k] (s.take k) = true → res = false := fun hq => Hno.out fun hc => by
        have := nodup_take hc.nodup hlt
        exact this (memB_iff.1 hq)
      have hbad2 : hitV (csOf L) reps s s[k] = false → res = false := fun hq => Hno.out fun hc => by
        rw [hc.hit _ (List.getElem_mem hlt)] at hq; cases hq
      have hnx : memB s[k] (s.take k) = false → hitV (csOf L) reps s s[k] = true → ∀ j (h : j < s.length), j < k + 1 → memB s[j] (s.take j) = false ∧ hitV (csOf L) reps s s[j] = true := fun h1 h2 j hj hjk => by
        by_cases e : j = k
        · subst e; exact ⟨h1, h2⟩
        · exact hdone.out j hj (by omega)
      have hge := first_ge (L := L) (reps := reps) (us := s) (u := s[k])
      have hhas : ∀ z : Ext wr, Calls Tryz.prog 50 #[.slice (some ⟨bo, oo, none⟩) k c2, .string s[k]] z.w fun e w' => e = .returned (.bool (memB s[k] (s.take k))) ∧ z.w = w' := fun z => by
        have := rHas_c (s.take k) (some ⟨bo, oo, none⟩) c2 s[k] z.w (rd_take ((Hs.out.below hB).below z.h) k) (by simp; omega)
        rw [List.length_take_of_le hk] at this
        exact this
      have hfirst : ∀ z : Ext wr, Calls Tryz.prog 52 #[.slice A L.length c, .string s[k], .slice A1 reps.length c1, .slice (some ⟨bo, oo, none⟩) s.length c2] z.w fun e w' => e = .returned (.int .i64 (firstI L reps s s[k])) ∧ Below z.w.heap.size z.w w' := fun z =>
        rFirst_c L s[k] reps s A c A1 c1 (some ⟨bo, oo, none⟩) c2 z.w ((H.out.below hB).below z.h) ((Hr.out.below hB).below z.h) ((Hs.out.below hB).below z.h) (by omega) hl (by omega)
      have Hbad1 := Lib.hid hbad1
      have Hbad2 := Lib.hid hbad2
      have Hnx := Lib.hid hnx
      have Hhas := Lib.hid hhas
      have Hfirst := Lib.hid hfirst
      have HB := Lib.hid hB
      have hec := ext_cell wr
      have hi0 : (0 : Int) ≤ (k : Int) := by omega
      have hi1 : (k : Int) < (s.length : Int) := by omega
      clear hc hbad1 hbad2 hnx hhas hfirst hdone hB
      generalize memB s[k] (s.take k) = m at *
      generalize hitV (csOf L) reps s s[k] = hv at *
      generalize firstI L reps s s[k] = fi at *
      generalize s[k] = u at *
      cases m with
      | true =>
        have hres := Lib.hid (Hbad1.out rfl)
        clear Hbad1 Hbad2 Hnx
        go_wp2_with fail
        refine wp_region_ext (by kernel_rfl) (by kernel_rfl) ?_
        repeat (go_big_quiet_step ((first | (go_at_call 50; with_reducible exact ext_call_same (Hhas.out _)) | (go_at_call 52; with_reducible exact ext_call (Hfirst.out _)))))
        refine wpQuiet_nil ?_
        intro _ hw'
        obtain ⟨xx, hw''⟩ := hw'
        subst hw''
        have HB2 := Lib.hid (HB.out.trans (xx.h.mono HB.out.size))
        clear hec
        generalize xx.w = w2 at *
        go_wp2_with fail
        go_ret
        exact ⟨ret_bool hres.out.symm, HB2.out⟩
      | false =>
        cases hv with
        | false =>
          have hres := Lib.hid (Hbad2.out rfl)
          have hlt0 : decide (fi < 0) = true := by
            have h9 : ¬ fi ≥ 0 := of_decide_eq_false hge
            exact decide_eq_true (by omega)
          clear Hbad1 Hbad2 Hnx hge
          go_wp2_with fail
          refine wp_region_ext (by kernel_rfl) (by kernel_rfl) ?_
          repeat (go_big_quiet_step ((first | (go_at_call 50; with_reducible exact ext_call_same (Hhas.out _)) | (go_at_call 52; with_reducible exact ext_call (Hfirst.out _)))))
          refine wpQuiet_nil ?_
          intro _ hw'
          obtain ⟨xx, hw''⟩ := hw'
          subst hw''
          have HB2 := Lib.hid (HB.out.trans (xx.h.mono HB.out.size))
          clear hec
          generalize xx.w = w2 at *
          go_wp2_with fail
          go_ret
          exact ⟨ret_bool hres.out.symm, HB2.out⟩
        | true =>
          have hn := Lib.hid (Hnx.out rfl rfl)
          have hlt0 : decide (fi < 0) = false := by
            have h9 : fi ≥ 0 := of_decide_eq_true hge
            exact decide_eq_false (by omega)
          clear Hbad1 Hbad2 Hnx hge
          go_wp2_with fail
          refine wp_region_ext (by kernel_rfl) (by kernel_rfl) ?_
          repeat (go_big_quiet_step ((first | (go_at_call 50; with_reducible exact ext_call_same (Hhas.out _)) | (go_at_call 52; with_reducible exact ext_call (Hfirst.out _)))))
          refine wpQuiet_nil ?_
          intro _ hw'
          obtain ⟨xx, hw''⟩ := hw'
          subst hw''
          have HB2 := Lib.hid (HB.out.trans (xx.h.mono HB.out.size))
          clear hec
          generalize xx.w = w2 at *
          go_wp2_with fail
          go_roundw
          case rel => exact ⟨k + 1, by omega, by go_num, HB2.out, hn⟩
          case measure => simp [intOf]; omega
    · obtain rfl : k = s.length := by omega
      have hnd : s.Nodup := nodup_takes fun j hj => (hdone.out j hj hj).1
      have hht : ∀ u ∈ s, hitV (csOf L) reps s u = true := fun u hu => by
        obtain ⟨j, hj, rfl⟩ := List.getElem_of_mem hu
        exact (hdone.out j hj hj).2
      have Hnd := Lib.hid hnd
      have Hht := Lib.hid hht
      have HB1 := Lib.hid hB
      clear hdone hnd hht hB
      go_wp2_with fail
      generalize wr = w1 at *
      go_loopw [8] (fun t wr => ∃ k : Nat, k ≤ L.length ∧ t = .int .i64 k ∧ Below w1.heap.size w1 wr ∧ Hid (∀ j (h : j < L.length), j < k → memB L[j].c.unit s = true ∨ holdB reps s L[j].c = false)) (fun t wr => L.length - (intOf t).toNat)
      case atStart => exact ⟨0, Nat.zero_le _, rfl, Below.refl _ _, fun j _ h => absurd h (by omega)⟩
      case round =>
        obtain ⟨k, hk, rfl, hB, hdone⟩ := hrel
        have hBw := HB1.out.trans (hB.mono HB1.out.size)
        by_cases hlt : k < L.length
        · obtain ⟨bo, oo, hA, hbo, hc⟩ := (H.out.below hBw) (by omega)
          subst hA
          obtain ⟨d0, d1, d2, hx⟩ := hc k hlt
          have hbad : memB L[k].c.unit s = false → holdB reps s L[k].c = true → res = false := fun h1 h2 => Hno.out fun hc => by
            rcases hc.all L[k].c (List.mem_map_of_mem (List.getElem_mem hlt)) with h | h
            · rw [memB_iff.2 h] at h1; cases h1
            · rw [show holdB reps s L[k].c = holdsV reps s L[k].c from rfl, h] at h2; cases h2
          have hnx : (memB L[k].c.unit s = true ∨ holdB reps s L[k].c = false) → ∀ j (h : j < L.length), j < k + 1 → memB L[j].c.unit s = true ∨ holdB reps s L[j].c = false := fun h1 j hj hjk => by
            by_cases e : j = k
            · subst e; exact h1
            · exact hdone.out j hj (by omega)
          have hhas := rHas_c s A2 c2 L[k].c.unit wr (Hs.out.below hBw) (by omega)
          have hhold := rHolds_c L[k] reps s A1 c1 A2 c2 wr hx (Hr.out.below hBw) (Hs.out.below hBw) hl (by omega)
          have Hbad := Lib.hid hbad
          have Hnx := Lib.hid hnx
          have Hhas := Lib.hid hhas
          have Hhold := Lib.hid hhold
          have HB := Lib.hid hB
          clear hc hx hbad hnx hhas hhold hdone hB hBw
          generalize L[k] = x at *
          replace d1 : wr.cell? ⟨bo, oo + k * 3 + 1, none⟩ = some (.slice x.n.a x.n.n x.n.c) := d1
          replace d2 : wr.cell? ⟨bo, oo + k * 3 + 2, none⟩ = some (.slice x.x.a x.x.n x.x.c) := d2
          cases hq : memB x.c.unit s with
          | true =>
            have hn := Lib.hid (Hnx.out (.inl hq))
            rw [hq] at Hhas
            clear Hbad Hnx Hhold hq
            go_wp2_with fail
            refine Hhas.out.mono ?_
            rintro e w' ⟨rfl, hw'⟩
            subst hw'
            go_wp2_with fail
            go_roundw
            case rel => exact ⟨k + 1, by omega, by go_num, HB.out, hn⟩
            case measure => simp [intOf]; omega
          | false =>
            rw [hq] at Hhas
            cases hh : holdB reps s x.c with
            | false =>
              have hn := Lib.hid (Hnx.out (.inr hh))
              rw [hh] at Hhold
              clear Hbad Hnx hq hh
              go_wp2_with fail
              refine Hhas.out.mono ?_
              rintro e w' ⟨rfl, hw'⟩
              subst hw'
              go_wp2_with fail
              refine Hhold.out.mono ?_
              rintro e w2 ⟨rfl, hb2⟩
              have HB2 := Lib.hid (HB.out.trans (hb2.mono HB.out.size))
              clear hb2
              go_wp2_with fail
              go_roundw
              case rel => exact ⟨k + 1, by omega, by go_num, HB2.out, hn⟩
              case measure => simp [intOf]; omega
            | true =>
              have hres := Lib.hid (Hbad.out hq hh)
              rw [hh] at Hhold
              clear Hbad Hnx hq hh
              go_wp2_with fail
              refine Hhas.out.mono ?_
              rintro e w' ⟨rfl, hw'⟩
              subst hw'
              go_wp2_with fail
              refine Hhold.out.mono ?_
              rintro e w2 ⟨rfl, hb2⟩
              have HB2 := Lib.hid (HB1.out.trans ((HB.out.trans (hb2.mono HB.out.size)).mono HB1.out.size))
              clear hb2
              go_wp2_with fail
              go_ret
              exact ⟨ret_bool hres.out.symm, HB2.out⟩
        · obtain rfl : k = L.length := by omega
          have hres : res = true := Hyes.out ⟨Hnd.out, Hht.out, fun c hc => by
            obtain ⟨x, hx, rfl⟩ := List.mem_map.1 hc
            obtain ⟨j, hj, rfl⟩ := List.getElem_of_mem hx
            rcases hdone.out j hj hj with h | h
            · exact .inl (memB_iff.1 h)
            · exact .inr h⟩
          have Hres := Lib.hid hres
          have HBw := Lib.hid hBw
          clear hdone hres hB hBw
          go_wp2_with fail
          go_ret
          exact ⟨ret_bool Hres.out.symm, HBw.out⟩
end Go.Proofs.YtknojjlfgjkbiaaGreatDoor
/- The reference's Verdicts. -/
namespace Go.Proofs.YtknojjlfgjkbiaaGreatDoor
open Go.ChangeShapes Go.WideShapes Go.ChangeAt Go.RowKit
attribute [local go_sem] Oper.semAt_some

theorem info74 : (Tryz.prog.info? 74).map (fun i => (i.zero, i.size, i.bytes)) = some (some (.agg #[.string ⟨#[]⟩, .int .i64 0, .slice none 0 0]), 3, 48) := by kernel_rfl
/-- the reference's verdict on a unit. -/
def vR (L : List CsV) (reps : List Rep) (us : List ByteArray) (u : ByteArray) : VerV := match L[firstN L reps us u]? with
  | some x => ⟨⟨u, firstN L reps us u, x.c.needs⟩, x.n⟩
  | none => ⟨⟨u, 0, []⟩, ⟨none, 0, 0⟩⟩
theorem vR_at {L : List CsV} {reps : List Rep} {us : List ByteArray} {u : ByteArray} {i : Nat} (h : i < L.length) (e : firstN L reps us u = i) : vR L reps us u = ⟨⟨u, i, L[i].c.needs⟩, L[i].n⟩ := by
  unfold vR
  rw [e, List.getElem?_eq_getElem h]
theorem accR_hit {L : List CsV} {reps : List Rep} {acc : List ByteArray} (he : acc = if okV (csOf L) = true then accV (csOf L) reps else []) : ∀ u ∈ acc, firstN L reps acc u < L.length := fun u hu => by
  by_cases hok : okV (csOf L) = true
  · rw [if_pos hok] at he
    rw [first_hit]
    rw [he] at hu ⊢
    exact (acc_right reps hok u (acc_sub _ _ u hu)).1 hu
  · rw [if_neg hok] at he
    rw [he] at hu
    cases hu
theorem rdVer_of_own {W : World} {base c : Nat} {A : Option Addr} {l : List VerV} (h : W.ownsRow base 74 3 (.slice A l.length c) l.length (l.flatMap VerV.cells)) (hs : ∀ x ∈ l, x.s.n = x.d.reps.length ∧ RdRep W W.heap.size x.s.a x.d.reps) : RdVer W W.heap.size A l := fun hn => by
  obtain ⟨g, cap, hv, _, hlt⟩ := h.form hn
  have hA : A = some ⟨g, 0, none⟩ := by injection hv
  subst hA
  refine ⟨g, 0, rfl, hlt, fun i hi => ?_⟩
  obtain ⟨c0, c1, c2⟩ := cellsV_get l i hi
  have e0 := h.cells (g := g) rfl _ _ c0
  have e1 := h.cells (g := g) rfl _ _ c1
  have e2 := h.cells (g := g) rfl _ _ c2
  rw [add_none, Nat.zero_add] at e0 e1 e2
  rw [Nat.zero_add]
  exact ⟨e0, e1, e2, hs _ (List.getElem_mem hi)⟩
set_option maxRecDepth 100000 in
set_option maxHeartbeats 4000000 in
theorem rVerdicts_c (L : List CsV) (reps : List Rep) (A : Option Addr) (c : Nat) (A1 : Option Addr) (c1 : Nat) (w : World) (h : RdCs w w.heap.size A L) (hr : RdRep w w.heap.size A1 reps) (hl : L.length ≤ 100000) (hl2 : reps.length ≤ 2199023255552) :
    Calls Tryz.prog 27 #[.slice A L.length c, .slice A1 reps.length c1] w fun e w' => ∃ A' c' acc, e = .returned (.tuple #[.slice A' (acc.map (vR L reps acc)).length c', .bool (okV (csOf L))]) ∧ acc = (if okV (csOf L) = true then accV (csOf L) reps else []) ∧ w'.ownsRow w.heap.size 74 3 (.slice A' (acc.map (vR L reps acc)).length c') (acc.map (vR L reps acc)).length ((acc.map (vR L reps acc)).flatMap VerV.cells) ∧ Below w.heap.size w w' := by
  have ha := rAccused_c L reps A c A1 c1 w h hr hl hl2
  have hal : ∀ acc, acc = (if okV (csOf L) = true then accV (csOf L) reps else []) → acc.length ≤ 100000 := fun acc he => by
    rw [he]
    split
    · have := acc_nodup (csOf L) reps
      have h1 := accL_len (csOf L) reps (orderV (csOf L)) []
      have h2 := order_len (csOf L); have h3 := len_units (csOf L); rw [csOf_len] at h3
      unfold accV
      simp at h1
      omega
    · simp
  have hhit : ∀ acc, acc = (if okV (csOf L) = true then accV (csOf L) reps else []) → ∀ u ∈ acc, firstN L reps acc u < L.length := fun acc he => accR_hit he
  have H := Lib.hid h
  have Hr := Lib.hid hr
  have Ha := Lib.hid ha
  have Hal := Lib.hid hal
  have Hhit := Lib.hid hhit
  obtain ⟨i0, hi0, hz0, hz1, hz2⟩ := info_parts info74
  clear h hr ha hal hhit
  generalize (if okV (csOf L) = true then accV (csOf L) reps else []) = acc0 at *
  generalize okV (csOf L) = okb at *
  go_enter Tryz.func27, Tryz.ntmps27
  go_wp2_with fail
  refine Ha.out.mono ?_
  rintro e w1 ⟨Ao, co, acc, rfl, hacc, hro, hb1⟩
  have hlen := Hal.out acc hacc
  have Hf := Lib.hid (Hhit.out acc hacc)
  have Hacc := Lib.hid hacc
  have Hro := Lib.hid hro
  have HB1 := Lib.hid hb1
  clear Ha Hal Hhit hacc hro hb1
  go_wp2_with fail
  go_loopw [8, 9] (fun v t wr => ∃ k : Nat, k ≤ acc.length ∧ t = .int .i64 k ∧ Below w1.heap.size w1 wr ∧ wr.ownsRow w1.heap.size 74 3 v ((acc.take k).map (vR L reps acc)).length (((acc.take k).map (vR L reps acc)).flatMap VerV.cells)) (fun _ t wr => acc.length - (intOf t).toNat)
  case atStart => exact ⟨0, Nat.zero_le _, rfl, Below.refl _ _, World.ownsRow_nil _ _ _ _⟩
  case round =>
    obtain ⟨k, hk, rfl, hB, hown⟩ := hrel
    obtain ⟨Av, cv, rfl, _⟩ := own_caps hown
    by_cases hlt : k < acc.length
    · obtain ⟨bo, oo, hA, hbo, hc⟩ := (Hro.out.below hB) (by omega)
      subst hA
      have d0 := hc k hlt
      have hi := Hf.out _ (List.getElem_mem hlt)
      obtain ⟨i, hie⟩ : ∃ i, i = firstN L reps acc acc[k] := ⟨_, rfl⟩
      rw [← hie] at hi
      have hfi : firstI L reps acc acc[k] = (i : Int) := by
        unfold firstI
        rw [← hie, if_pos hi]
      have hst : (acc.take (k + 1)).map (vR L reps acc) = (acc.take k).map (vR L reps acc) ++ [⟨⟨acc[k], i, L[i].c.needs⟩, L[i].n⟩] := by
        rw [List.take_succ_eq_append_getElem hlt, List.map_append, List.map_singleton, vR_at hi hie.symm]
      have hsl : ((acc.take k).map (vR L reps acc)).length ≤ 100000 := by simp; omega
      obtain ⟨bl, ol, hA, hbl, hcl⟩ := (H.out.below (HB1.out.trans (hB.mono HB1.out.size))) (by omega)
      subst hA
      obtain ⟨g0, g1, g2, _⟩ := hcl i hi
      have hf := rFirst_c L acc[k] reps acc (some ⟨bl, ol, none⟩) c A1 c1 (some ⟨bo, oo, none⟩) co wr (H.out.below (HB1.out.trans (hB.mono HB1.out.size))) (Hr.out.below (HB1.out.trans (hB.mono HB1.out.size))) (Hro.out.below hB) (by omega) hl2 (by omega)
      rw [hfi] at hf
      have hi0' : (0 : Int) ≤ (i : Int) := by omega
      have hi1' : (i : Int) < (L.length : Int) := by omega
      have Hst := Lib.hid hst
      have Hcall := Lib.hid hf
      have Hown := Lib.hid hown
      have HB := Lib.hid hB
      clear hc hcl hst hf hfi hie hown hB g0 g2
      generalize (acc.take k).map (vR L reps acc) = s at *
      generalize acc[k] = u at *
      generalize L[i] = x at *
      replace g1 : wr.cell? ⟨bl, ol + i * 3 + 1, none⟩ = some (.slice x.n.a x.n.n x.n.c) := g1
      go_wp2_with fail
      refine Hcall.out.mono ?_
      rintro e w2 ⟨rfl, hb2⟩
      have HB2 := Lib.hid (HB.out.trans (hb2.mono HB.out.size))
      have Hown2 := Lib.hid (own_keep Hown.out (below_grown (row := none) hb2) (fun r e => by cases e))
      have hBz := HB2.out.size
      have e0 : w2.cell? ⟨bo, oo + k, none⟩ = some (.string u) := below_cell0 hb2 d0
      have e1 : w2.cell? ⟨bl, ol + i * 3 + 1, none⟩ = some (.slice x.n.a x.n.n x.n.c) := below_cell0 hb2 g1
      clear hb2 Hown HB Hcall d0 g1
      go_wp2_with fail
      go_region_law (refine step_append_lies _ rfl (.tmp 31) (.tmp 43) 71 rfl w1.heap.size 74 i0 _ 3 48 Tryz.underlying71 hi0 hz0 hz1 hz2 rfl (by decide) (.slice Av s.length cv) s.length _ (by simp [Act.eval, Act.put]) ((Hown2.out.alloc _).drew) ⟨w2.heap.size, 0, none⟩ 1 1 [.string u, .int .i64 i, .slice x.n.a x.n.n x.n.c] (by simp [Act.eval, Act.put]) rfl (World.news_of_block (cs := #[.string u, .int .i64 i, .slice x.n.a x.n.n x.n.c]) (t := 74) (fr := (0, 0)) (heap_alloc_new w2 _)) (by simp [Value.oneCell']) (by omega) (by unfold maxLen; omega) (by omega) (by simp; omega) (w2.heap.size + 1) (by simp) ?_; intro g cap w3 hown3 hgrow hg hgl)
      all_goals
        have hnew : ∀ g, (Value.slice Av s.length cv).ownBlock = some g → w1.heap.size ≤ g := fun g hg => (Hown2.out.lt g hg).1
        have hB3 := ((HB2.out.alloc hBz (.cells #[.string u, .int .i64 i, .slice x.n.a x.n.n x.n.c] 74)).drew).grown hgrow (by simp; omega) hnew
        have HB3 := Lib.hid hB3
        have Hown3 := Lib.hid hown3
        clear hB3 hown3 hgrow hg hgl hnew
        go_wp2_with fail
        go_roundw
        case rel => exact ⟨k + 1, by omega, by go_num, HB3.out, by rw [Hst.out]; simpa [VerV.cells] using Hown3.out⟩
        case measure => simp [intOf]; try omega
    · obtain rfl : k = acc.length := by omega
      rw [List.take_length] at hown ⊢
      have HR := Lib.hid (And.intro (own_base hown HB1.out.size) (HB1.out.trans (hB.mono HB1.out.size)))
      clear hown hB
      go_wp2_with fail
      refine bodyPost_ret (results_tmp2 rfl _ _ _) rfl ?_
      exact ⟨Av, cv, acc, rfl, Hacc.out, HR.out.1, HR.out.2⟩
end Go.Proofs.YtknojjlfgjkbiaaGreatDoor
