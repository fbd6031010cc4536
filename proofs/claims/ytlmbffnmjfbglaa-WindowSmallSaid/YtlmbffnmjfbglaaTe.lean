/- WindowTells: for any module, offsets and table, the statement's call returns true and leaves its arguments alone. -/
import Derived.Test.YtlmbffnmjfbglaaR3
import Derived.Test.YtlmbffnmjfbglaaL1
import Derived.SizedLaws
namespace Go.Proofs.Ytlmbffnmjfbglaa
open Go.ChangeShapes Go.WideShapes Go.ChangeAt Go.RowKit Go.Deep

theorem lentW_rd {w : World} {v : Value} {l : List Win} (h : Lent w v l) : ∃ A c, v = .slice A l.length c ∧ RdG Win.tri w w.heap.size A l := by
  obtain ⟨g, cap, rfl, hr⟩ := h
  refine ⟨_, _, rfl, fun _ => ⟨g, 0, rfl, hr.lt, fun i hi => ?_⟩⟩
  obtain ⟨d0, d1, d2⟩ := hr.cells i (by simp; omega)
  rw [List.getElem_append_left hi] at d0 d1 d2
  simp only [Nat.zero_add]
  exact ⟨d0, d1, d2⟩
/-- all that the call looks at, behind some calls. -/
structure TT (w : World) (name : ByteArray) (mem F : Int) (ps : List Part) (A : Option Addr) (c : Nat) (os : List Int) (A' : Option Addr) (tb : List Win) (A'' : Option Addr) (W : World) : Prop where
  bm : Blk W w.heap.size 44 #[.string name, .int .i64 mem, .int .i64 F, .slice A ps.length c]
  pt : RdPart W W.heap.size A ps
  os_ : RdInt W W.heap.size A' os
  tb_ : RdG Win.tri W W.heap.size A'' tb
  hb : Below w.heap.size w W
section
variable {w : World} {name : ByteArray} {mem F : Int} {ps : List Part} {A : Option Addr} {c : Nat} {os : List Int} {A' : Option Addr} {tb : List Win} {A'' : Option Addr} {W W' : World}
theorem TT.next (h : TT w name mem F ps A c os A' tb A'' W) (hb : Below W.heap.size W W') : TT w name mem F ps A c os A' tb A'' W' :=
  ⟨h.bm.below hb h.bm.lt, h.pt.below hb, h.os_.below hb, h.tb_.below hb, h.hb.trans (hb.mono h.hb.size)⟩
theorem TT.cells (h : TT w name mem F ps A c os A' tb A'' W) : W.cell? ⟨w.heap.size, 0, none⟩ = some (.string name) ∧ W.cell? ⟨w.heap.size, 1, none⟩ = some (.int .i64 mem) ∧ W.cell? ⟨w.heap.size, 2, none⟩ = some (.int .i64 F) ∧ W.cell? ⟨w.heap.size, 3, none⟩ = some (.slice A ps.length c) :=
  ⟨h.bm.cell 0, h.bm.cell 1, h.bm.cell 2, h.bm.cell 3⟩
end

set_option maxRecDepth 100000 in
set_option maxHeartbeats 4000000 in
theorem tables_c (name : ByteArray) (mem F : Int) (ps : List Part) (A : Option Addr) (c : Nat) (os : List Int) (A' : Option Addr) (c' : Nat) (tb : List Win) (A'' : Option Addr) (c'' : Nat) (w : World) (h : RdPart w w.heap.size A ps) (h' : RdInt w w.heap.size A' os) (h'' : RdG Win.tri w w.heap.size A'' tb) (hl : ps.length * 8 ≤ 140737488355328) (hl' : os.length ≤ 1000) (hl'' : tb.length ≤ 1000) :
    Calls Try.prog 28 #[.agg #[.string name, .int .i64 mem, .int .i64 F, .slice A ps.length c], .slice A' os.length c', .slice A'' tb.length c''] w fun e w' => e = .returned (.bool true) ∧ Below w.heap.size w w' := by
  have hB : Below w.heap.size w (w.alloc (.cells #[.string name, .int .i64 mem, .int .i64 F, .slice A ps.length c] 44)) := (Below.refl _ w).alloc (Nat.le_refl _) _
  have hT0 : TT w name mem F ps A c os A' tb A'' (w.alloc (.cells #[.string name, .int .i64 mem, .int .i64 F, .slice A ps.length c] 44)) := ⟨Blk.new w 44 _, h.below hB, h'.below hB, h''.below hB, hB⟩
  clear hB h h' h''
  go_enter Try.func28, Try.ntmps28
  go_wp2_with fail
  generalize w.alloc (.cells #[.string name, .int .i64 mem, .int .i64 F, .slice A ps.length c] 44) = W0 at hT0 ⊢
  refine (lentI_c os A' c' W0 hT0.os_ hl').mono ?_
  rintro e W1 ⟨v1, rfl, hv1, hb1⟩
  have hT1 := hT0.next hb1
  clear hT0 hb1
  go_wp2_with fail
  refine (lent_c tb A'' c'' W1 hT1.tb_ hl'').mono ?_
  rintro e W2 ⟨v2, rfl, hv2, hb2⟩
  have hT2 := hT1.next hb2
  have hv1 := hv1.below hb2
  clear hT1 hb2
  obtain ⟨q0, q1, q2, q3⟩ := hT2.cells
  obtain ⟨Ai, ci, rfl, hri⟩ := hv1.rd
  have hsl := slots_c name mem F ps A c os Ai ci W2 hT2.pt hri (by omega) (by omega)
  go_wp2_with fail
  refine hsl.mono ?_
  rintro e W3 ⟨A3, c3, rfl, hr3, hb3⟩
  have hT3 := hT2.next hb3
  have hv1 := hv1.below hb3
  have hv2 := hv2.below hb3
  clear hT2 hb3 hsl hri q0 q1 q2 q3
  obtain ⟨q0, q1, q2, q3⟩ := hT3.cells
  have hrs := refSlots_c name mem F ps A c os A' c' W3 hT3.pt hT3.os_ (by omega) (by omega)
  go_wp2_with fail
  refine hrs.mono ?_
  rintro e W4 ⟨A4, c4, rfl, hr4, hb4⟩
  have hT4 := hT3.next hb4
  have hv1 := hv1.below hb4
  have hv2 := hv2.below hb4
  have hr3 := hr3.below hb4
  clear hT3 hb4 hrs q0 q1 q2 q3
  obtain ⟨q0, q1, q2, q3⟩ := hT4.cells
  obtain ⟨Aj, cj, e1, hri⟩ := hv1.rd
  injection e1 with e1 _ e2
  subst e1 e2
  have hta := table_c name mem F ps A c os Ai ci W4 hT4.pt hri (by omega) (by omega)
  go_wp2_with fail
  refine hta.mono ?_
  rintro e W5 ⟨A5, c5, q, rfl, hq, hr5, hb5⟩
  obtain rfl := tableV_eq hq
  have hT5 := hT4.next hb5
  have hv1 := hv1.below hb5
  have hv2 := hv2.below hb5
  have hr3 := hr3.below hb5
  have hr4 := hr4.below hb5
  clear hT4 hb5 hta q0 q1 q2 q3 hri hq
  obtain ⟨q0, q1, q2, q3⟩ := hT5.cells
  have hrt := refTable_c name mem F ps A c os A' c' W5 hT5.pt hT5.os_ (by omega) (by omega)
  go_wp2_with fail
  refine hrt.mono ?_
  rintro e W6 ⟨A6, c6, rfl, hr6, hb6⟩
  have hT6 := hT5.next hb6
  have hv1 := hv1.below hb6
  have hv2 := hv2.below hb6
  have hr3 := hr3.below hb6
  have hr4 := hr4.below hb6
  have hr5 := hr5.below hb6
  clear hT5 hb6 hrt q0 q1 q2 q3
  obtain ⟨q0, q1, q2, q3⟩ := hT6.cells
  obtain ⟨Aw, cw, rfl, _⟩ := lentW_rd hv2
  have hsll : (slotsV F ps os).1.length ≤ 1000 := by
    unfold slotsV
    split
    · split
      · simp
      · simp [zipS]; omega
    · simp
  have htl := tableF_len F ps os
  have hb := fun x : Ext W6 => hT6.next x.h
  have hec := ext_cell W6
  have k1 : ∀ x : Ext W6, Calls Try.prog 50 #[.slice A3 (slotsV F ps os).1.length c3, .slice A4 (slotsV F ps os).1.length c4] x.w fun e w' => e = .returned (.bool true) ∧ Below x.w.heap.size x.w w' := fun x => by
    have := sameSlot_c _ _ A3 A4 c3 c4 x.w (hr3.below x.h) (hr4.below x.h) (by omega) (by omega)
    rwa [sameSlot_iff.2 rfl] at this
  have k2 : ∀ x : Ext W6, Calls Try.prog 32 #[.slice A5 (tableF F ps os).1.length c5, .slice A6 (tableF F ps os).1.length c6] x.w fun e w' => e = .returned (.bool true) ∧ Below x.w.heap.size x.w w' := fun x => by
    have := sameWin_c _ _ A5 A6 c5 c6 x.w (hr5.below x.h) (hr6.below x.h) (by omega) (by omega)
    rwa [sameWin_iff.2 rfl] at this
  have k3 : ∀ x : Ext W6, Calls Try.prog 31 #[.agg #[.string name, .int .i64 mem, .int .i64 F, .slice A ps.length c], .slice Aw tb.length cw] x.w fun e w' => e = .returned (.bool (fitsV F ps tb)) ∧ Below x.w.heap.size x.w w' := fun x => by
    obtain ⟨Aw', cw', e1, hrw⟩ := lentW_rd (hv2.below x.h)
    injection e1 with e1 _ e2
    subst e1 e2
    exact fits_c name mem F ps A c tb Aw cw x.w (hb x).pt hrw (by omega) (by omega)
  have k4 : ∀ x : Ext W6, Calls Try.prog 51 #[.agg #[.string name, .int .i64 mem, .int .i64 F, .slice A ps.length c], .slice A'' tb.length c''] x.w fun e w' => e = .returned (.bool (fitsV F ps tb)) ∧ Below x.w.heap.size x.w w' := fun x =>
    refFits_c name mem F ps A c tb A'' c'' x.w (hb x).pt (hb x).tb_ hl (by omega)
  have k5 : ∀ x : Ext W6, Calls Try.prog 52 #[.slice Ai os.length ci, .slice A' os.length c'] x.w fun e w' => e = .returned (.bool true) ∧ Below x.w.heap.size x.w w' := fun x =>
    keptI_c _ os A' c' x.w (hv1.below x.h) (hb x).os_ hl'
  have k6 : ∀ x : Ext W6, Calls Try.prog 19 #[.slice Aw tb.length cw, .slice A'' tb.length c''] x.w fun e w' => e = .returned (.bool true) ∧ Below x.w.heap.size x.w w' := fun x =>
    kept_c _ tb A'' c'' x.w (hv2.below x.h) (hb x).tb_ hl''
  have hB6 := hT6.hb
  have z6 := hT6.bm.lt
  clear hT6 hv1 hv2 hr3 hr4 hr5 hr6 hb hsll htl
  generalize slotsV F ps os = sv at *
  generalize tableF F ps os = tv at *
  generalize fitsV F ps tb = fv at *
  obtain ⟨s1, s2⟩ := sv
  obtain ⟨u1, u2⟩ := tv
  simp only at *
  have t1 : (s2 == s2) = true := by simp
  have t2 : (u2 == u2) = true := by simp
  have t3 : (fv == fv) = true := by simp
  go_wp2_with fail
  refine wp_region_ext (by kernel_rfl) (by kernel_rfl) ?_
  repeat (go_big_quiet_step ((first | (go_at_call 50; exact ext_call (k1 _)) | (go_at_call 32; exact ext_call (k2 _)) | (go_at_call 31; exact ext_call (k3 _)) | (go_at_call 51; exact ext_call (k4 _)) | (go_at_call 52; exact ext_call (k5 _)) | (go_at_call 19; exact ext_call (k6 _)))))
  refine wpQuiet_nil ?_
  intro _ hw'
  obtain ⟨xx, hw''⟩ := hw'
  subst hw''
  have hB7 := hB6.trans (xx.h.mono hB6.size)
  clear hec k1 k2 k3 k4 k5 k6 t1 t2 t3 q0 q1 q2 q3 z6
  generalize xx.w = w7 at hB7 ⊢
  go_wp2
  go_ret
  exact ⟨rfl, hB7⟩
theorem tells_walk (name : ByteArray) (mem F : Int) (ps : List Part) (A : Option Addr) (c : Nat) (os : List Int) (A' : Option Addr) (c' : Nat) (tb : List Win) (A'' : Option Addr) (c'' : Nat) (w : World) (h : RdPart w w.heap.size A ps) (h' : RdInt w w.heap.size A' os) (h'' : RdG Win.tri w w.heap.size A'' tb) (hl : ps.length * 8 ≤ 140737488355328) (hl' : os.length ≤ 9223372036854775807) (hl'' : tb.length ≤ 9223372036854775807) :
    Calls Try.prog 9 #[.agg #[.string name, .int .i64 mem, .int .i64 F, .slice A ps.length c], .slice A' os.length c', .slice A'' tb.length c''] w fun e w' => e = .returned (.bool true) ∧ Below w.heap.size w w' := by
  have haw := fun W => awake_c W
  have hB : Below w.heap.size w (w.alloc (.cells #[.string name, .int .i64 mem, .int .i64 F, .slice A ps.length c] 44)) := (Below.refl _ w).alloc (Nat.le_refl _) _
  have hblk := Blk.new w 44 #[.string name, .int .i64 mem, .int .i64 F, .slice A ps.length c]
  by_cases hb1 : 200 < os.length
  · have hd : (200 : Int) < (os.length : Int) := by omega
    clear h h' h''
    go_enter Try.func9, Try.ntmps9
    go_wp2_with fail
    refine (haw _).mono ?_
    rintro e w1 ⟨rfl, hb1⟩
    have hB1 := hB.trans (hb1.mono hB.size)
    clear haw hblk hb1 hB
    go_wp2
    go_ret
    exact ⟨rfl, hB1⟩
  · have hd : ¬ (200 : Int) < (os.length : Int) := by omega
    have hd' : decide ((200 : Int) < (os.length : Int)) = false := decide_eq_false hd
    by_cases hb2 : 200 < tb.length
    · have hd2 : (200 : Int) < (tb.length : Int) := by omega
      clear h h' h''
      go_enter Try.func9, Try.ntmps9
      go_wp2_with fail
      refine (haw _).mono ?_
      rintro e w1 ⟨rfl, hb1⟩
      have hB1 := hB.trans (hb1.mono hB.size)
      clear haw hblk hb1 hB
      go_wp2
      go_ret
      exact ⟨rfl, hB1⟩
    · have hd2 : ¬ (200 : Int) < (tb.length : Int) := by omega
      have hd2' : decide ((200 : Int) < (tb.length : Int)) = false := decide_eq_false hd2
      have hta := tables_c name mem F ps A c os A' c' tb A'' c'' _ (h.below hB) (h'.below hB) (h''.below hB) hl (by omega) (by omega)
      clear h h' h''
      go_enter Try.func9, Try.ntmps9
      go_wp2_with fail
      refine hta.mono ?_
      rintro e w1 ⟨rfl, hb1⟩
      have hB1 := hB.trans (hb1.mono hB.size)
      clear hblk hb1 hB hta
      go_wp2_with fail
      refine (haw _).mono ?_
      rintro e w2 ⟨rfl, hb2⟩
      have hB2 := hB1.trans (hb2.mono hB1.size)
      clear haw hb2 hB1
      go_wp2
      go_ret
      exact ⟨rfl, hB2⟩

theorem bytes53 : Try.prog.bytesOf 53 = 152 := by kernel_rfl
set_option maxRecDepth 100000 in
theorem sz_module {H : Type} {enc : TypeId × Value → H} {W : World} {r : Reach} {b0 : Nat} {v : Value} {d : DataW H} {p : List MemPlace} (hok : Value.okWide Try.prog W r b0 44 v) (h : DataW.Trod enc Try.prog W 0 (fun _ => true) true 44 v d p)
    (hz : ∀ n ∈ d.weights Try.prog 44, n ≤ reachBytes) {a b c : Value} {A : Option Addr} {len cap : Nat} (e : v = .agg #[a, b, c, .slice A len cap]) : len * 8 ≤ 140737488355328 := by
  obtain ⟨f0, f1, f2, f3, hs, ht0, ht1, ht2, ht3⟩ : ∃ f0 f1 f2 f3 : Field, Try.prog.underlying 44 = some (.struct #[f0, f1, f2, f3]) ∧ f0.type = 9 ∧ f1.type = 3 ∧ f2.type = 3 ∧ f3.type = 42 := ⟨_, _, _, _, Try.underlying44, rfl, rfl, rfl, rfl⟩
  have hone : oneCellFields Try.prog #[f0, f1, f2, f3] = true := by
    have e : oneCellFields Try.prog (Try.prog.fieldsOf 44) = true := by kernel_rfl
    have e2 : Try.prog.fieldsOf 44 = #[f0, f1, f2, f3] := by simp [Program.fieldsOf, hs]
    rw [e2] at e; exact e
  obtain ⟨v0, v1, v2, v3, y0, y1, y2, y3, n, hv, hd, hp, g0, g1, g2, g3⟩ := Joins.open_agg4 hs hone (by kernel_rfl) hok h
  rw [ht3] at g3
  subst e
  injection hv with hv
  have e3 : v3 = .slice A len cap := by
    have := congrArg (fun (x : Array Value) => x[3]?) hv
    simpa using this.symm
  subst e3
  subst hd
  have hu : Try.prog.underlying 53 = some (.struct (Try.prog.fieldsOf 53)) := by kernel_rfl
  rcases open_slice_fields Try.underlying42 hu (by kernel_rfl) (by kernel_rfl) g3 with ⟨hcs, _⟩ | ⟨a', len', cap', m, D, Pl, hcs, _, hl, hm, hmm, hx, _⟩
  · injection hcs with hcs
    injection hcs with _ h2 _
    subst h2
    omega
  · injection hcs with hcs
    injection hcs with _ h2 h3
    subst h2 h3
    have hw := hz ((((List.range len).map D).length + ((List.range (m - len)).map fun j => D (len + j)).length) * Try.prog.bytesOf 53) (by
      simp only [DataW.weights, hs]
      refine DataW.weights_mem_each (j := 3) (t := 42) (d := y3.1) (by simp [ht3]) (by simp) _ ?_
      rw [hx]
      simp [DataW.weights, Try.underlying42])
    rw [bytes53] at hw
    have hr := reachBytes_lt
    simp at hw
    omega

-- THE ROW
set_option maxRecDepth 100000 in
theorem windowTells_lifted (os : Os) (started : os.Started) (H : Type) (enc : TypeId × Value → H) :
    ReturnsInHanded {} Try.checked os 9 .any (Rows.windowTellsSpec.pre6 enc Try.prog Try.f9 Rows.windowTellsRow.domain false) (Rows.windowTellsSpec.post enc Try.prog Try.f9 false true false false) := by
  refine returnsInHanded_of_change_sized (C := Try.checked) own started (by kernel_rfl) Try.func9
    (ChangeSpec.witness6 (enc := enc) (C := Try.checked) false ⟨#[], #[.agg #[.string ⟨#[]⟩, .int .i64 0, .int .i64 0, .slice none 0 0], .slice none 0 0, .slice none 0 0], []⟩ 8 (by kernel_rfl) (by kernel_rfl) (by kernel_rfl) (by kernel_rfl)) ?_
  intro W base args ds gs before hval0 hW hcnd hsz0 _
  have hval : ∀ (j : Nat) t v, Try.f9.params[j]? = some t → args[j]? = some v → Value.okWide Try.prog W .any base t v := hval0
  have hW' := hW
  obtain ⟨p, q, hA0, hV, rfl, hfz, hnd⟩ := hW
  have hA : DataW.TrodAll enc Try.prog W 0 (fun _ => true) true Try.f9.params.toList args.toList ds p := hA0
  rw [Try.params9] at hA hval
  obtain ⟨v0, vs0, d0, ds0, p0, q0, hargs, rfl, rfl, h0, r0⟩ := trodAll_cons hA
  obtain ⟨v1, vs1, d1, ds1, p1, q1, rfl, rfl, rfl, h1, r1⟩ := trodAll_cons r0
  obtain ⟨v2, vs2, d2, ds2, p2, q2, rfl, rfl, rfl, h2, r2⟩ := trodAll_cons r1
  obtain ⟨rfl, rfl, rfl⟩ := trodAll_nil r2
  obtain rfl : args = #[v0, v1, v2] := by cases args; simp_all
  obtain ⟨name0, mem0, frame0, A0, c0, l0, rfl, km0, kf0, hlc0, hcm0, hR0, hP0⟩ := open_module (hval 0 44 v0 rfl rfl) h0
  obtain ⟨A1, c1, l1, rfl, hlc1, hcm1, hR1, hP1⟩ := open_ints1 (hval 1 45 v1 rfl rfl) h1
  obtain ⟨A2, c2, l2, rfl, hlc2, hcm2, hR2, hP2⟩ := open_wins (hval 2 26 v2 rfl rfl) h2
  have hsz := hsz0
  rw [Try.params9] at hsz
  have hz0 := sz_module (hval 0 44 _ rfl rfl) h0 (fun n hn => by simpa using List.all_eq_true.1 hsz n (DataW.weights_mem_each (j := 0) (t := 44) rfl rfl n hn)) rfl
  clear hA0 hval0
  refine (tells_walk name0 mem0 frame0 l0 A0 c0 l1 A1 c1 l2 A2 c2 W hR0 hR1 hR2 hz0 (Nat.le_trans hlc1 hcm1) (Nat.le_trans hlc2 hcm2)).mono fun e W' ⟨he, hg⟩ => ?_
  subst he
  refine ⟨_, rfl, law_post (tb := 4) laid ?_ ?_ Try.underlying4 rfl hW' ⟨rfl, rfl, rfl⟩ hg⟩
  · rw [Try.params9]; intro t ht; simp at ht; rcases ht with rfl | rfl | rfl <;> exact ⟨by kernel_rfl, of_decide_eq_true (by kernel_rfl)⟩
  · kernel_rfl

theorem windowTells_holds : Rows.WindowTellsSaid :=
  OpenClaim.holds_of_wide 9 Try.f9 rfl rfl rfl rfl rfl rfl rfl ⟨rfl, rfl, rfl, rfl, rfl⟩ rfl rfl rfl rfl rfl (by kernel_rfl) Try.func9 (by kernel_rfl)
    (of_decide_eq_true (by kernel_rfl)) (by unfold Func.isWrapper; first | (rw [if_pos (by decide +kernel)]; kernel_rfl) | (rw [if_neg (by decide +kernel)]; exact ⟨rfl, rfl⟩))
    (fun os started H enc _ => windowTells_lifted os started H enc)
#print axioms windowTells_holds
end Go.Proofs.Ytlmbffnmjfbglaa
