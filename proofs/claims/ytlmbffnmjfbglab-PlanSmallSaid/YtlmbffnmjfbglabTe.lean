/- PlanTells: for every module, Plan returns the offsets, claims and error of the reference, and leaves the module unchanged; modules whose frame is at most 48, or not valid, and that have at most 7 partitions. -/
import Derived.Test.YtlmbffnmjfbglabDo
import Derived.Test.YtlmbffnmjfbglabCk
set_option linter.unusedSimpArgs false
set_option linter.unusedVariables false
namespace Go.Proofs.Ytlmbffnmjfbglab
open Go.ChangeShapes Go.WideShapes Go.ChangeAt Go.RowKit Go.Deep

/-- an answer of the search holds an offset for each partition at most. -/
theorem prefR_slen {ps : List Part} {rec : List Int → Nat → Res} {os : List Int} {t n : Nat} (hr : ∀ x t a e, rec (os ++ [x]) t = .stop a e → a.length ≤ n) : ∀ (k : Nat) (a : List Int) (e : Int), prefR ps rec os t k = .stop a e → a.length ≤ n
  | 0, a, e, h => by simp [prefR] at h
  | k + 1, a, e, h => by
    simp only [prefR] at h
    split at h
    · rename_i a' e' hk
      injection h with h1 h2
      subst h1
      exact prefR_slen hr k _ _ hk
    · rename_i cl t' hk
      unfold oneR at h
      split at h
      · injection h with h1 h2
        subst h1
        simp
      · split at h
        · split at h
          · rename_i a' e' hk2
            injection h with h1 h2
            subst h1
            exact hr _ _ _ _ hk2
          · cases h
        · cases h
theorem tryR_slen {ps : List Part} : ∀ (r : Nat) (os : List Int) (t : Nat) (a : List Int) (e : Int), tryR ps r os t = .stop a e → a.length ≤ os.length + r
  | 0, os, t, a, e, h => by
    simp only [tryR] at h
    injection h with h1 h2
    subst h1
    simp
  | r + 1, os, t, a, e, h => by
    simp only [tryR] at h
    refine prefR_slen (n := os.length + (r + 1)) (fun x t a e h => ?_) _ a e h
    have := tryR_slen r (os ++ [x]) t a e h
    simp at this
    omega
theorem planV_olen (F : Int) (ps : List Part) : (planV F ps).1.length ≤ ps.length := by
  unfold planV
  split
  · split
    · rename_i os e h
      have := tryR_slen _ _ _ _ _ h
      simpa using this
    · split <;> simp
  · simp
theorem eqL_refl (l : List Claim) : eqL l l = true := (eqL_iff l l).2 rfl

set_option maxRecDepth 100000 in
set_option maxHeartbeats 4000000 in
theorem plans_c (name : ByteArray) (mem F : Int) (v : Value) (l : List (List G)) (w : World) (hc : G.cf KS KN (.sl 4) (.row 4 l)) (h : G.rdW w v (.row 4 l)) :
    Calls Try.prog 14 #[.agg #[.string name, .int .i64 mem, .int .i64 F, v]] w fun e w' => e = .returned (.bool true) ∧ Below w.heap.size w w' := by
  obtain ⟨A, c, ps, e0, hpl, hR, hl8⟩ := partsW hc h
  have hlen : ps.length = l.length := by simpa using congrArg List.length hpl
  subst e0
  rw [hlen] at h ⊢
  obtain ⟨W1, hW1⟩ : ∃ W1, W1 = w.alloc (.cells #[.string name, .int .i64 mem, .int .i64 F, .slice A l.length c] 24) := ⟨_, rfl⟩
  have hB1 : Below w.heap.size w W1 := by rw [hW1]; exact (Below.refl _ w).alloc (Nat.le_refl _) _
  have hb0 : Blk W1 w.heap.size 24 #[.string name, .int .i64 mem, .int .i64 F, .slice A l.length c] := by rw [hW1]; exact Blk.new w 24 _
  have hlm := lentModule_c name mem F _ l W1 hc (h.next hB1)
  have HW1 := Lib.hid hW1
  have H := Lib.hid h
  have HC := Lib.hid hc
  have HR := Lib.hid hR
  have HL8 := Lib.hid hl8
  have HPL := Lib.hid hpl
  have Hlen := Lib.hid hlen
  have Hlm := Lib.hid hlm
  clear hW1 h hc hlm hR hl8 hpl hlen
  go_enter Try.func14, Try.ntmps14
  go_wp2_with fail
  rw [← HW1.out]
  refine Hlm.out.mono ?_
  rintro e W2 ⟨V, rfl, hld, hb2⟩
  have hB2 := hB1.trans (hb2.mono hB1.size)
  have hbx := hb0.below hb2 hb0.lt
  have hV : G.ldW KM W2 V (.row 4 l) := G.ld.keep (fun b ⟨_, o, g2, _⟩ => ⟨fun _ => rfl, (Array.getElem?_eq_some_iff.1 g2).1⟩) _ _ hld
  obtain ⟨g, C, rfl⟩ := ld_slice hV
  obtain ⟨W3, hW3⟩ : ∃ W3, W3 = W2.alloc (.cells #[.string name, .int .i64 mem, .int .i64 F, .slice (some ⟨g, 0, none⟩) l.length C] 24) := ⟨_, rfl⟩
  have hB23 : Below W2.heap.size W2 W3 := by rw [hW3]; exact (Below.refl _ W2).alloc (Nat.le_refl _) _
  have hbi : Blk W3 W2.heap.size 24 #[.string name, .int .i64 mem, .int .i64 F, .slice (some ⟨g, 0, none⟩) l.length C] := by rw [hW3]; exact Blk.new W2 24 _
  have hB3 := hB2.trans (hB23.mono hB2.size)
  replace hbx := hbx.below hB23 hbx.lt
  have hV3 := hV.next hB23
  obtain ⟨Av, cv, ps', eV, hpl', hR', hl'⟩ := partsW HC.out (G.ld.rd _ _ hV3)
  have hlen' : ps'.length = l.length := by simpa using congrArg List.length hpl'
  injection eV with e1 e2 e3
  subst e1 e3
  have hpc := plan_c name mem F ps' (some ⟨g, 0, none⟩) C W3 hR' hl'
  have hol := planV_olen F ps
  have hcl := planV_size F ps
  rw [cong_plan (hpl'.trans HPL.out.symm) F, hlen'] at hpc
  have hrp := fun W (hb : Below W3.heap.size W3 W) => rplan_c name mem F ps A c W (HR.out.below (hB3.trans (hb.mono hB3.size))) HL8.out
  rw [Hlen.out] at hrp hol
  generalize planV F ps = q at hpc hrp hol hcl
  obtain ⟨qa, qb, qe⟩ := q
  dsimp only at hpc hrp hol hcl
  have hql := sizeL_len qb
  have e1 : (qe == qe) = true := by simp
  have Hz2 := Lib.hid (show w.heap.size ≠ W2.heap.size by have := hb2.size; have := hb0.lt; omega)
  have Hpc := Lib.hid hpc
  have Hrp := Lib.hid hrp
  have HW3 := Lib.hid hW3
  have HV3 := Lib.hid hV3
  have HB3 := Lib.hid hB3
  have Hbx := Lib.hid hbx
  have Hbi := Lib.hid hbi
  have Hol := Lib.hid hol
  have Hcl := Lib.hid hcl
  have Hql := Lib.hid hql
  clear hpc hrp hW3 hV3 hB3 hbx hbi hld hV hB23 hB2 hb2 hB1 hb0 hR' hl' hpl' hlen' e2 hol hcl hql HW1 Hlm
  have z2 := Hz2.out
  go_wp2_with fail
  rw [← HW3.out]
  clear HW3
  refine Hpc.out.mono ?_
  rintro e W4 ⟨Ao, co, Ac, cc, rfl, hri, hrc, hcc, hco, hb4⟩
  have hrk : RdK W4 Ac qb := hrc.keep fun b ⟨_, o, g2, _⟩ => ⟨fun _ => rfl, (Array.getElem?_eq_some_iff.1 g2).1⟩
  have hbx := Hbx.out.below hb4 Hbx.out.lt
  have hbi := Hbi.out.below hb4 Hbi.out.lt
  have hrp := Hrp.out W4 hb4
  have q0 : W4.cell? ⟨w.heap.size, 0, none⟩ = some (.string name) := hbx.cell 0
  have q1 : W4.cell? ⟨w.heap.size, 1, none⟩ = some (.int .i64 mem) := hbx.cell 1
  have q2 : W4.cell? ⟨w.heap.size, 2, none⟩ = some (.int .i64 F) := hbx.cell 2
  have q3 : W4.cell? ⟨w.heap.size, 3, none⟩ = some (.slice A l.length c) := hbx.cell 3
  have Hrp4 := Lib.hid hrp
  have Hri := Lib.hid hri
  have Hrk := Lib.hid hrk
  have Hb4 := Lib.hid hb4
  have Hbx4 := Lib.hid hbx
  have Hbi4 := Lib.hid hbi
  clear hrp hri hrk hb4 hbx hbi hrc hcc hco Hrp Hpc Hbx Hbi
  go_wp2_with fail
  refine Hrp4.out.mono ?_
  rintro e W5 ⟨Ao2, co2, Ac2, cc2, rfl, hri2, hrk2, hb5⟩
  have hb35 := Hb4.out.trans (hb5.mono Hb4.out.size)
  have hbx := Hbx4.out.below hb5 Hbx4.out.lt
  have hbi := Hbi4.out.below hb5 Hbi4.out.lt
  have h30 := sameInts_c qa qa Ao Ao2 co co2 W5 (Hri.out.below hb5) hri2 (by have := Hol.out; have := HL8.out; rw [Hlen.out] at this; omega) (by have := Hol.out; have := HL8.out; rw [Hlen.out] at this; omega)
  rw [decide_eq_true (show qa = qa from rfl)] at h30
  have h31 := fun W (hb : Below W5.heap.size W5 W) => sameClaims_c (sizeL qb + 1) qb qb (by omega) Ac Ac2 cc cc2 W (RdK.keep' (hb5.trans (hb.mono hb5.size)) Hrk.out) (RdK.keep' hb hrk2) (by have := Hcl.out; have := Hql.out; omega) (by have := Hcl.out; have := Hql.out; omega)
  simp only [eqL_refl] at h31
  have h34 := fun W (hb : Below W5.heap.size W5 W) => keptModule_c name mem F _ (.slice A l.length c) l W HC.out (HV3.out.next (hb35.trans (hb.mono hb35.size))) (H.out.next (HB3.out.trans ((hb35.trans (hb.mono hb35.size)).mono HB3.out.size)))
  have Hb35 := Lib.hid hb35
  have Hbx5 := Lib.hid hbx
  have Hbi5 := Lib.hid hbi
  have H30 := Lib.hid h30
  have H31 := Lib.hid h31
  have H34 := Lib.hid h34
  clear h30 h31 h34 hb35 hbx hbi hb5 hri2 hrk2 Hrp4 Hri Hrk Hb4 Hbx4 Hbi4 q0 q1 q2 q3
  go_wp2_with fail
  refine H30.out.mono ?_
  rintro e W6 ⟨rfl, hb6⟩
  have h31 := H31.out W6 hb6
  have Hb6 := Lib.hid hb6
  have Hbx6 := Lib.hid (Hbx5.out.below hb6 Hbx5.out.lt)
  have Hbi6 := Lib.hid (Hbi5.out.below hb6 Hbi5.out.lt)
  have H316 := Lib.hid h31
  clear h31 hb6 Hbx5 Hbi5 H30 H31
  go_wp2_with fail
  refine H316.out.mono ?_
  rintro e W7 ⟨rfl, hb7⟩
  have hb57 := Hb6.out.trans (hb7.mono Hb6.out.size)
  have hbx := Hbx6.out.below hb7 Hbx6.out.lt
  have hbi := Hbi6.out.below hb7 Hbi6.out.lt
  have h34 := H34.out W7 hb57
  have q0 : W7.cell? ⟨w.heap.size, 0, none⟩ = some (.string name) := hbx.cell 0
  have q1 : W7.cell? ⟨w.heap.size, 1, none⟩ = some (.int .i64 mem) := hbx.cell 1
  have q2 : W7.cell? ⟨w.heap.size, 2, none⟩ = some (.int .i64 F) := hbx.cell 2
  have q3 : W7.cell? ⟨w.heap.size, 3, none⟩ = some (.slice A l.length c) := hbx.cell 3
  have r0 : W7.cell? ⟨W2.heap.size, 0, none⟩ = some (.string name) := hbi.cell 0
  have r1 : W7.cell? ⟨W2.heap.size, 1, none⟩ = some (.int .i64 mem) := hbi.cell 1
  have r2 : W7.cell? ⟨W2.heap.size, 2, none⟩ = some (.int .i64 F) := hbi.cell 2
  have r3 : W7.cell? ⟨W2.heap.size, 3, none⟩ = some (.slice (some ⟨g, 0, none⟩) l.length C) := hbi.cell 3
  have H347 := Lib.hid h34
  have hB7 := HB3.out.trans ((Hb35.out.trans (hb57.mono Hb35.out.size)).mono HB3.out.size)
  have HB7 := Lib.hid hB7
  clear h34 hbx hbi hb57 hb7 hB7 H34 H316 Hb6 Hbx6 Hbi6 Hb35 HB3
  go_wp2_with fail
  refine H347.out.mono ?_
  rintro e W8 ⟨rfl, hb8⟩
  have hB8 := HB7.out.trans (hb8.mono HB7.out.size)
  clear q0 q1 q2 q3 r0 r1 r2 r3 hb8 H347
  go_wp2_with fail
  go_ret
  exact ⟨rfl, hB8⟩

set_option maxRecDepth 100000 in
set_option maxHeartbeats 4000000 in
theorem planTells_walk (name : ByteArray) (mem F : Int) (v : Value) (l : List (List G)) (w : World) (hc : G.cf KS KN (.sl 4) (.row 4 l)) (h : G.rdW w v (.row 4 l)) :
    Calls Try.prog 3 #[.agg #[.string name, .int .i64 mem, .int .i64 F, v]] w fun e w' => e = .returned (.bool true) ∧ Below w.heap.size w w' := by
  obtain ⟨A, c, rfl⟩ := rd_slice h
  obtain ⟨W1, hW1⟩ : ∃ W1, W1 = w.alloc (.cells #[.string name, .int .i64 mem, .int .i64 F, .slice A l.length c] 24) := ⟨_, rfl⟩
  have hB1 : Below w.heap.size w W1 := by rw [hW1]; exact (Below.refl _ w).alloc (Nat.le_refl _) _
  have hb0 : Blk W1 w.heap.size 24 #[.string name, .int .i64 mem, .int .i64 F, .slice A l.length c] := by rw [hW1]; exact Blk.new w 24 _
  have hsc := small_c name mem F l.length A c W1
  have HW1 := Lib.hid hW1
  have H := Lib.hid h
  have HC := Lib.hid hc
  clear hW1 h hc
  generalize smallV F l.length = sm at *
  have Hsc := Lib.hid hsc
  clear hsc
  go_enter Try.func3, Try.ntmps3
  go_wp2_with fail
  rw [← HW1.out]
  refine Hsc.out.mono ?_
  rintro e W2 ⟨rfl, hb2⟩
  have hB2 := hB1.trans (hb2.mono hB1.size)
  replace hb0 := hb0.below hb2 hb0.lt
  clear Hsc hb2 hB1 HW1
  cases sm with
  | false =>
    go_wp2_with fail
    refine (awake_c W2).mono ?_
    rintro e W3 ⟨rfl, hb3⟩
    have hB3 := hB2.trans (hb3.mono hB2.size)
    clear hb3
    go_wp2_with fail
    go_ret
    exact ⟨rfl, hB3⟩
  | true =>
    have q0 : W2.cell? ⟨w.heap.size, 0, none⟩ = some (.string name) := hb0.cell 0
    have q1 : W2.cell? ⟨w.heap.size, 1, none⟩ = some (.int .i64 mem) := hb0.cell 1
    have q2 : W2.cell? ⟨w.heap.size, 2, none⟩ = some (.int .i64 F) := hb0.cell 2
    have q3 : W2.cell? ⟨w.heap.size, 3, none⟩ = some (.slice A l.length c) := hb0.cell 3
    have hpl := plans_c name mem F _ l W2 HC.out (H.out.next hB2)
    have Hpl := Lib.hid hpl
    clear hpl hb0
    go_wp2_with fail
    refine Hpl.out.mono ?_
    rintro e W3 ⟨rfl, hb3⟩
    have hB3 := hB2.trans (hb3.mono hB2.size)
    clear hb3 hB2 Hpl q0 q1 q2 q3
    go_wp2_with fail
    refine (awake_c W3).mono ?_
    rintro e W4 ⟨rfl, hb4⟩
    have hB4 := hB3.trans (hb4.mono hB3.size)
    clear hb4
    go_wp2_with fail
    go_ret
    exact ⟨rfl, hB4⟩

-- THE ROW
set_option maxRecDepth 100000 in
theorem planTells_lifted (os : Os) (started : os.Started) (H : Type) (enc : TypeId × Value → H) :
    ReturnsInHanded {} Try.checked os 3 .any (Rows.planTellsSpec.pre6 enc Try.prog Try.f3 Rows.planTellsRow.domain false) (Rows.planTellsSpec.post enc Try.prog Try.f3 false true false false) := by
  refine returnsInHanded_of_change_sized (C := Try.checked) own started (by kernel_rfl) Try.func3
    (ChangeSpec.witness6 (enc := enc) (C := Try.checked) false ⟨#[], #[.agg #[.string ⟨#[]⟩, .int .i64 0, .int .i64 0, .slice none 0 0]], []⟩ 8 (by kernel_rfl) (by kernel_rfl) (by kernel_rfl) (by kernel_rfl)) ?_
  intro W base args ds gs before hval0 hW hcnd hsz0 _
  have hval : ∀ (j : Nat) t v, Try.f3.params[j]? = some t → args[j]? = some v → Value.okWide Try.prog W .any base t v := hval0
  have hW' := hW
  obtain ⟨p, q, hA0, hV, rfl, hfz, hnd⟩ := hW
  have hA : DataW.TrodAll enc Try.prog W 0 (fun _ => true) true Try.f3.params.toList args.toList ds p := hA0
  rw [Try.params3] at hA hval
  obtain ⟨v0, vs0, d0, ds0, p0, q0, hargs, rfl, rfl, h0, r0⟩ := trodAll_cons hA
  obtain ⟨rfl, rfl, rfl⟩ := trodAll_nil r0
  obtain rfl : args = #[v0] := by cases args; simp_all
  obtain ⟨name0, mem0, frame0, A0, c0, l0, rfl, km0, kf0, hlc0, hcm0, hR0, hP0⟩ := open_module (hval 0 24 v0 rfl rfl) h0
  have hsz := hsz0
  rw [Try.params3] at hsz
  obtain ⟨lg, hgc, hgr⟩ := open_moduleG (hval 0 24 _ rfl rfl) h0 (fun n hn => by simpa using List.all_eq_true.1 hsz n (DataW.weights_mem_each (j := 0) (t := 24) rfl rfl n hn)) rfl
  clear hA0 hval0
  refine (planTells_walk name0 mem0 frame0 _ lg W hgc hgr).mono fun e W' ⟨he, hg⟩ => ?_
  subst he
  refine ⟨_, rfl, law_post (tb := 4) laid ?_ ?_ Try.underlying4 rfl hW' ⟨rfl, rfl, rfl⟩ hg⟩
  · rw [Try.params3]; intro t ht; simp at ht; subst ht; exact ⟨by kernel_rfl, of_decide_eq_true (by kernel_rfl)⟩
  · kernel_rfl

theorem planTells_holds : Rows.PlanTellsSaid :=
  OpenClaim.holds_of_wide 3 Try.f3 rfl rfl rfl rfl rfl rfl rfl ⟨rfl, rfl, rfl, rfl, rfl⟩ rfl rfl rfl rfl rfl (by kernel_rfl) Try.func3 (by kernel_rfl)
    (of_decide_eq_true (by kernel_rfl)) (by unfold Func.isWrapper; first | (rw [if_pos (by decide +kernel)]; kernel_rfl) | (rw [if_neg (by decide +kernel)]; exact ⟨rfl, rfl⟩))
    (fun os started H enc _ => planTells_lifted os started H enc)
#print axioms planTells_holds
end Go.Proofs.Ytlmbffnmjfbglab
