/- PlanChecks: for every module, all offsets and claims, Fits, Conflict, Check and Size return what the document specifies, and leave their arguments unchanged. -/
import Derived.Test.YtlmbffnmjfbglabH4
import Derived.Test.YtlmbffnmjfbglabH3
import Derived.Test.YtlmbffnmjfbglabE3
set_option linter.unusedSimpArgs false
set_option linter.unusedVariables false
namespace Go.Proofs.Ytlmbffnmjfbglab
open Go.ChangeShapes Go.WideShapes Go.ChangeAt Go.RowKit

/-- what small returns. -/
def smallV (F : Int) (n : Nat) : Bool := (decide (F ≤ 48) || decide (F > 2000)) && decide ((n : Int) ≤ 7)
set_option maxRecDepth 100000 in
set_option maxHeartbeats 2000000 in
theorem small_c (name : ByteArray) (mem F : Int) (n : Nat) (A : Option Addr) (c : Nat) (w : World) :
    Calls Try.prog 12 #[.agg #[.string name, .int .i64 mem, .int .i64 F, .slice A n c]] w fun e w' => e = .returned (.bool (smallV F n)) ∧ Below w.heap.size w w' := by
  have hB : Below w.heap.size w (w.alloc (.cells #[.string name, .int .i64 mem, .int .i64 F, .slice A n c] 24)) := (Below.refl _ w).alloc (Nat.le_refl _) _
  by_cases h1 : F ≤ 48
  · have d1 : decide (F ≤ 48) = true := decide_eq_true h1
    have Hv := Lib.hid (show smallV F n = decide ((n : Int) ≤ 7) by rw [smallV, d1]; rfl)
    clear h1
    go_enter Try.func12, Try.ntmps12
    go_wp2_with fail
    go_ret
    exact ⟨by rw [Hv.out]; simp, hB⟩
  · have d1 : decide (F ≤ 48) = false := decide_eq_false h1
    by_cases h2 : F > 2000
    · have d2 : decide (F > 2000) = true := decide_eq_true h2
      have Hv := Lib.hid (show smallV F n = decide ((n : Int) ≤ 7) by rw [smallV, d1, d2]; rfl)
      clear h1 h2
      go_enter Try.func12, Try.ntmps12
      go_wp2_with fail
      go_ret
      exact ⟨by rw [Hv.out]; simp, hB⟩
    · have d2 : decide (F > 2000) = false := decide_eq_false h2
      have Hv := Lib.hid (show smallV F n = false by rw [smallV, d1, d2]; rfl)
      clear h1 h2
      go_enter Try.func12, Try.ntmps12
      go_wp2_with fail
      go_ret
      exact ⟨by rw [Hv.out]; rfl, hB⟩

set_option maxRecDepth 100000 in
set_option maxHeartbeats 8000000 in
theorem checks_c (name : ByteArray) (mem F : Int) (ps : List Part) (A : Option Addr) (c : Nat) (os : List Int) (Ao : Option Addr) (co : Nat) (x : Int) (l : List Claim) (Al : Option Addr) (cl : Nat) (w : World) (h : RdPart w w.heap.size A ps) (ho : RdInt w w.heap.size Ao os) (hk : RdK w Al l) (hco : os.length ≤ co) (hl : ps.length * 8 ≤ 140737488355328) (hlo : os.length ≤ 1000) (hll : l.length ≤ maxC) (hsm : smL maxC l) :
    Calls Try.prog 24 #[.agg #[.string name, .int .i64 mem, .int .i64 F, .slice A ps.length c], .slice Ao os.length co, .int .i64 x, .slice Al l.length cl] w fun e w' => e = .returned (.bool true) ∧ Below w.heap.size w w' := by
  have hll2 : l.length ≤ 9223372036854775807 := by unfold maxC at hll; omega
  obtain ⟨W1, hW1⟩ : ∃ W1, W1 = w.alloc (.cells #[.string name, .int .i64 mem, .int .i64 F, .slice A ps.length c] 24) := ⟨_, rfl⟩
  have hB1 : Below w.heap.size w W1 := by rw [hW1]; exact (Below.refl _ w).alloc (Nat.le_refl _) _
  have hb0 : Blk W1 w.heap.size 24 #[.string name, .int .i64 mem, .int .i64 F, .slice A ps.length c] := by rw [hW1]; exact Blk.new w 24 _
  have hli := lentI_c os Ao co W1 (ho.below hB1) hlo
  have HW1 := Lib.hid hW1
  have H := Lib.hid h
  have HO := Lib.hid ho
  have HK := Lib.hid hk
  have HSM := Lib.hid hsm
  have HLL := Lib.hid hll
  have Hli := Lib.hid hli
  clear hW1 h ho hk hsm hll hli
  go_enter Try.func24, Try.ntmps24
  go_wp2_with fail
  rw [← HW1.out]
  refine Hli.out.mono ?_
  rintro e W2 ⟨v2, rfl, hLI, hb2⟩
  have hB2 := hB1.trans (hb2.mono hB1.size)
  replace hb0 := hb0.below hb2 hb0.lt
  have hlc := lentC_c (sizeL l + 1) l (by omega) Al cl W2 (RdK.keep' hB2 HK.out) HLL.out HSM.out
  have Hlc := Lib.hid hlc
  have HLI := Lib.hid hLI
  clear hlc hLI Hli hb2 hB1 HW1
  go_wp2_with fail
  refine Hlc.out.mono ?_
  rintro e W3 ⟨v3, rfl, hLC, hb3⟩
  have hB3 := hB2.trans (hb3.mono hB2.size)
  replace hb0 := hb0.below hb3 hb0.lt
  have hLI := HLI.out.below hb3
  have hLK : LdK W3 v3 l := hLC.keep fun b ⟨_, o, g2, _⟩ => ⟨fun _ => rfl, (Array.getElem?_eq_some_iff.1 g2).1⟩
  obtain ⟨gi, ci, rfl, hri⟩ := id hLI
  obtain ⟨gk, ck, rfl, _⟩ := id hLK
  have hci : os.length ≤ ci := by have := hri.1; simp at this; omega
  have hrdi : ∀ W, Below W3.heap.size W3 W → RdInt W W.heap.size (some ⟨gi, 0, none⟩) os := fun W hb => by
    obtain ⟨A2, c2, e2, hr⟩ := (hLI.below hb).rd
    injection e2 with e2 _ _
    rw [e2]; exact hr
  have hrdk : ∀ W, Below W3.heap.size W3 W → RdK W (some ⟨gk, 0, none⟩) l := fun W hb => by
    obtain ⟨A2, c2, e2, _, _, hr⟩ := (LdK.next hLK hb).rd
    injection e2 with e2 _ _
    rw [e2]; exact hr
  have hp3 : ∀ W, Below W3.heap.size W3 W → RdPart W W.heap.size A ps := fun W hb => H.out.below (hB3.trans (hb.mono hB3.size))
  have ho3 : ∀ W, Below W3.heap.size W3 W → RdInt W W.heap.size Ao os := fun W hb => HO.out.below (hB3.trans (hb.mono hB3.size))
  have hk3 : ∀ W, Below W3.heap.size W3 W → RdK W Al l := fun W hb => RdK.keep' (hB3.trans (hb.mono hB3.size)) HK.out
  have hcf := conflict_c name mem F ps A c os (some ⟨gi, 0, none⟩) ci x W3 (hp3 W3 (Below.refl _ _)) (hrdi W3 (Below.refl _ _)) hci hl (by omega)
  have hrf := fun W hb => rconflict_c name mem F ps A c os Ao co x W (hp3 W hb) (ho3 W hb) hl hlo
  have c27 := fun W hb => fits_c name mem F ps A c os (some ⟨gi, 0, none⟩) ci W (hp3 W hb) (hrdi W hb) hci hl (by omega)
  have c51 := fun W hb => rfits_c name mem F ps A c os Ao co W (hp3 W hb) (ho3 W hb) hco hl (by omega)
  have c19 := fun W hb => check_c name mem F ps A c l (some ⟨gk, 0, none⟩) ck W (hp3 W hb) (hrdk W hb) hl hll2
  have c52 := fun W hb => rcheck_c name mem F ps A c l Al cl W (hp3 W hb) (hk3 W hb) hl hll2
  have c32 := fun W hb => size_c (sizeL l + 1) l (by omega) (some ⟨gk, 0, none⟩) ck W (hrdk W hb) hll2
  have c23 := fun W hb => rsize_c (sizeL l + 1) l (by omega) Al cl W (hk3 W hb) hll2
  have c53 := fun W (hb : Below W3.heap.size W3 W) => keptI_c (.slice (some ⟨gi, 0, none⟩) os.length ci) os Ao co W (hLI.below hb) (ho3 W hb) hlo
  have c54 := fun W (hb : Below W3.heap.size W3 W) => keptC_c (sizeL l + 1) l (by omega) (.slice (some ⟨gk, 0, none⟩) l.length ck) Al cl W (LdK.next hLK hb) (hk3 W hb) HLL.out HSM.out
  generalize conflV F ps os x = y at *
  generalize fitsV F ps os = q1 at *
  generalize checkV F ps l = q2 at *
  generalize IntKind.i64.wrap (sizeL l) = sz at *
  have Hcf := Lib.hid hcf
  have Hrf := Lib.hid hrf
  have C27 := Lib.hid c27
  have C51 := Lib.hid c51
  have C19 := Lib.hid c19
  have C52 := Lib.hid c52
  have C32 := Lib.hid c32
  have C23 := Lib.hid c23
  have C53 := Lib.hid c53
  have C54 := Lib.hid c54
  clear hcf hrf c27 c51 c19 c52 c32 c23 c53 c54 hp3 ho3 hk3 hrdi hrdk hLI hLK hLC hri Hlc HLI hb3 hB2
  have q0 : W3.cell? ⟨w.heap.size, 0, none⟩ = some (.string name) := hb0.cell 0
  have q1' : W3.cell? ⟨w.heap.size, 1, none⟩ = some (.int .i64 mem) := hb0.cell 1
  have q2' : W3.cell? ⟨w.heap.size, 2, none⟩ = some (.int .i64 F) := hb0.cell 2
  have q3 : W3.cell? ⟨w.heap.size, 3, none⟩ = some (.slice A ps.length c) := hb0.cell 3
  go_wp2_with fail
  refine Hcf.out.mono ?_
  rintro e W4 ⟨rfl, hb4⟩
  replace hb0 := hb0.below hb4 hb0.lt
  have hrf := Hrf.out W4 hb4
  have Hrf4 := Lib.hid hrf
  clear q0 q1' q2' q3 Hcf Hrf hrf
  have q0 : W4.cell? ⟨w.heap.size, 0, none⟩ = some (.string name) := hb0.cell 0
  have q1' : W4.cell? ⟨w.heap.size, 1, none⟩ = some (.int .i64 mem) := hb0.cell 1
  have q2' : W4.cell? ⟨w.heap.size, 2, none⟩ = some (.int .i64 F) := hb0.cell 2
  have q3 : W4.cell? ⟨w.heap.size, 3, none⟩ = some (.slice A ps.length c) := hb0.cell 3
  go_wp2_with fail
  refine Hrf4.out.mono ?_
  rintro e W5 ⟨rfl, hb5⟩
  replace hb0 := hb0.below hb5 hb0.lt
  have hb35 := hb4.trans (hb5.mono hb4.size)
  have hBw5 := hB3.trans (hb35.mono hB3.size)
  clear q0 q1' q2' q3 Hrf4 hb5 hb4
  have q0 : W5.cell? ⟨w.heap.size, 0, none⟩ = some (.string name) := hb0.cell 0
  have q1' : W5.cell? ⟨w.heap.size, 1, none⟩ = some (.int .i64 mem) := hb0.cell 1
  have q2' : W5.cell? ⟨w.heap.size, 2, none⟩ = some (.int .i64 F) := hb0.cell 2
  have q3 : W5.cell? ⟨w.heap.size, 3, none⟩ = some (.slice A ps.length c) := hb0.cell 3
  have hbz := hb0.lt
  have hec := ext_cell W5
  have e1 : (y == y) = true := by simp
  have e2 : ∀ b : Bool, (b == b) = true := fun b => by simp
  have e3 : (sz == sz) = true := by simp
  have hx : ∀ z : Ext W5, Below W3.heap.size W3 z.w := fun z => hb35.trans (z.h.mono hb35.size)
  go_wp2_with fail
  refine wp_region_ext (by kernel_rfl) (by kernel_rfl) ?_
  repeat (go_big_quiet_step ((first | (go_at_call 27; with_reducible exact ext_call (C27.out _ (hx _))) | (go_at_call 51; with_reducible exact ext_call (C51.out _ (hx _))) | (go_at_call 19; with_reducible exact ext_call (C19.out _ (hx _))) | (go_at_call 52; with_reducible exact ext_call (C52.out _ (hx _))) | (go_at_call 32; with_reducible exact ext_call (C32.out _ (hx _))) | (go_at_call 23; with_reducible exact ext_call (C23.out _ (hx _))) | (go_at_call 53; with_reducible exact ext_call (C53.out _ (hx _))) | (go_at_call 54; with_reducible exact ext_call (C54.out _ (hx _))))))
  refine wpQuiet_nil ?_
  intro _ hw'
  obtain ⟨xx, hw''⟩ := hw'
  subst hw''
  have hBf := hBw5.trans (xx.h.mono hBw5.size)
  clear hec q0 q1' q2' q3 C27 C51 C19 C52 C32 C23 C53 C54 hx
  generalize xx.w = w9 at hBf ⊢
  go_wp2_with fail
  go_ret
  exact ⟨rfl, hBf⟩

set_option maxRecDepth 100000 in
set_option maxHeartbeats 4000000 in
theorem planChecks_walk (name : ByteArray) (mem F : Int) (ps : List Part) (A : Option Addr) (c : Nat) (os : List Int) (Ao : Option Addr) (co : Nat) (x : Int) (l : List Claim) (Al : Option Addr) (cl : Nat) (w : World) (h : RdPart w w.heap.size A ps) (ho : RdInt w w.heap.size Ao os) (hk : RdK w Al l) (hco : os.length ≤ co) (hl : ps.length * 8 ≤ 140737488355328) (hll : l.length ≤ maxC) (hsm : smL maxC l) :
    Calls Try.prog 6 #[.agg #[.string name, .int .i64 mem, .int .i64 F, .slice A ps.length c], .slice Ao os.length co, .int .i64 x, .slice Al l.length cl] w fun e w' => e = .returned (.bool true) ∧ Below w.heap.size w w' := by
  have hll2 : l.length ≤ 9223372036854775807 := by unfold maxC at hll; omega
  obtain ⟨W1, hW1⟩ : ∃ W1, W1 = w.alloc (.cells #[.string name, .int .i64 mem, .int .i64 F, .slice A ps.length c] 24) := ⟨_, rfl⟩
  have hB1 : Below w.heap.size w W1 := by rw [hW1]; exact (Below.refl _ w).alloc (Nat.le_refl _) _
  have hb0 : Blk W1 w.heap.size 24 #[.string name, .int .i64 mem, .int .i64 F, .slice A ps.length c] := by rw [hW1]; exact Blk.new w 24 _
  have hsc := small_c name mem F ps.length A c W1
  have HW1 := Lib.hid hW1
  have H := Lib.hid h
  have HO := Lib.hid ho
  have HK := Lib.hid hk
  have HSM := Lib.hid hsm
  have HLL := Lib.hid hll
  clear hW1 h ho hk hsm hll
  generalize smallV F ps.length = sm at *
  have Hsc := Lib.hid hsc
  clear hsc
  go_enter Try.func6, Try.ntmps6
  go_wp2_with fail
  rw [← HW1.out]
  refine Hsc.out.mono ?_
  rintro e W2 ⟨rfl, hb2⟩
  have hB2 := hB1.trans (hb2.mono hB1.size)
  replace hb0 := hb0.below hb2 hb0.lt
  clear Hsc hb2 hB1 HW1
  cases sm with
  | false =>
    go_wp2_with fail
    refine (awake_c W2).mono ?_
    rintro e W3 ⟨rfl, hb3⟩
    have hB3 := hB2.trans (hb3.mono hB2.size)
    clear hb3
    go_wp2_with fail
    go_ret
    exact ⟨rfl, hB3⟩
  | true =>
    by_cases h200 : os.length > 200
    · have hd : decide ((os.length : Int) > 200) = true := decide_eq_true (by omega)
      go_wp2_with fail
      refine (awake_c W2).mono ?_
      rintro e W3 ⟨rfl, hb3⟩
      have hB3 := hB2.trans (hb3.mono hB2.size)
      clear hb3
      go_wp2_with fail
      go_ret
      exact ⟨rfl, hB3⟩
    have hd : decide ((os.length : Int) > 200) = false := decide_eq_false (by omega)
    have hsz := rsize_c (sizeL l + 1) l (by omega) Al cl W2 (RdK.keep' hB2 HK.out) hll2
    generalize IntKind.i64.wrap (sizeL l) = sz at *
    have Hsz := Lib.hid hsz
    clear hsz
    go_wp2_with fail
    refine Hsz.out.mono ?_
    rintro e W3 ⟨rfl, hb3⟩
    have hB3 := hB2.trans (hb3.mono hB2.size)
    replace hb0 := hb0.below hb3 hb0.lt
    clear hb3 Hsz hB2
    by_cases h2000 : sz > 2000
    · have hd2 : decide (sz > 2000) = true := decide_eq_true h2000
      clear h2000
      go_wp2_with fail
      refine (awake_c W3).mono ?_
      rintro e W4 ⟨rfl, hb4⟩
      have hB4 := hB3.trans (hb4.mono hB3.size)
      clear hb4
      go_wp2_with fail
      go_ret
      exact ⟨rfl, hB4⟩
    have hd2 : decide (sz > 2000) = false := decide_eq_false h2000
    have q0 : W3.cell? ⟨w.heap.size, 0, none⟩ = some (.string name) := hb0.cell 0
    have q1 : W3.cell? ⟨w.heap.size, 1, none⟩ = some (.int .i64 mem) := hb0.cell 1
    have q2 : W3.cell? ⟨w.heap.size, 2, none⟩ = some (.int .i64 F) := hb0.cell 2
    have q3 : W3.cell? ⟨w.heap.size, 3, none⟩ = some (.slice A ps.length c) := hb0.cell 3
    have hck := checks_c name mem F ps A c os Ao co x l Al cl W3 (H.out.below hB3) (HO.out.below hB3) (RdK.keep' hB3 HK.out) hco hl (by omega) HLL.out HSM.out
    have Hck := Lib.hid hck
    clear hck h2000 hb0
    go_wp2_with fail
    refine Hck.out.mono ?_
    rintro e W4 ⟨rfl, hb4⟩
    have hB4 := hB3.trans (hb4.mono hB3.size)
    clear hb4 Hck q0 q1 q2 q3
    go_wp2_with fail
    refine (awake_c W4).mono ?_
    rintro e W5 ⟨rfl, hb5⟩
    have hB5 := hB4.trans (hb5.mono hB4.size)
    clear hb5
    go_wp2_with fail
    go_ret
    exact ⟨rfl, hB5⟩
/-- an argument of claims, and how large its arrays may be. -/
theorem sz_claims {H : Type} {enc : TypeId × Value → H} {W : World} {d : DataW H} {p : List MemPlace} {A : Option Addr} {c : Nat} {l : List Claim} (h : DataW.Trod enc Try.prog W 0 (fun _ => true) true 29 (.slice A l.length c) d p)
    (hz : ∀ n ∈ d.weights Try.prog 29, n ≤ reachBytes) : ∃ l' : List Claim, l'.length = l.length ∧ RdK W A l' ∧ l'.length ≤ maxC ∧ smL maxC l' := by
  obtain ⟨fuel, hf⟩ := h
  obtain ⟨A', c', l', e, _, _, hr, h1, h2⟩ := open_sized_at fuel (.slice A l.length c) (d, p) (by simpa [Value.cells] using hf) hz
  injection e with e1 e2 _
  subst e1
  exact ⟨l', e2.symm, hr, h1, h2⟩
theorem planChecks_walk' (name : ByteArray) (mem F : Int) (ps : List Part) (A : Option Addr) (c : Nat) (os : List Int) (Ao : Option Addr) (co : Nat) (x : Int) (l : List Claim) (Al : Option Addr) (cl n : Nat) (hn : l.length = n) (w : World) (h : RdPart w w.heap.size A ps) (ho : RdInt w w.heap.size Ao os) (hk : RdK w Al l) (hco : os.length ≤ co) (hl : ps.length * 8 ≤ 140737488355328) (hll : l.length ≤ maxC) (hsm : smL maxC l) :
    Calls Try.prog 6 #[.agg #[.string name, .int .i64 mem, .int .i64 F, .slice A ps.length c], .slice Ao os.length co, .int .i64 x, .slice Al n cl] w fun e w' => e = .returned (.bool true) ∧ Below w.heap.size w w' := by
  subst hn
  exact planChecks_walk name mem F ps A c os Ao co x l Al cl w h ho hk hco hl hll hsm

-- THE ROW
set_option maxRecDepth 100000 in
theorem planChecks_lifted (os : Os) (started : os.Started) (H : Type) (enc : TypeId × Value → H) :
    ReturnsInHanded {} Try.checked os 6 .any (Rows.planChecksSpec.pre6 enc Try.prog Try.f6 Rows.planChecksRow.domain false) (Rows.planChecksSpec.post enc Try.prog Try.f6 false true false false) := by
  refine returnsInHanded_of_change_sized (C := Try.checked) own started (by kernel_rfl) Try.func6
    (ChangeSpec.witness6 (enc := enc) (C := Try.checked) false ⟨#[], #[.agg #[.string ⟨#[]⟩, .int .i64 0, .int .i64 0, .slice none 0 0], .slice none 0 0, .int .i64 0, .slice none 0 0], []⟩ 8 (by kernel_rfl) (by kernel_rfl) (by kernel_rfl) (by kernel_rfl)) ?_
  intro W base args ds gs before hval0 hW hcnd hsz0 _
  have hval : ∀ (j : Nat) t v, Try.f6.params[j]? = some t → args[j]? = some v → Value.okWide Try.prog W .any base t v := hval0
  have hW' := hW
  obtain ⟨p, q, hA0, hV, rfl, hfz, hnd⟩ := hW
  have hA : DataW.TrodAll enc Try.prog W 0 (fun _ => true) true Try.f6.params.toList args.toList ds p := hA0
  rw [Try.params6] at hA hval
  obtain ⟨v0, vs0, d0, ds0, p0, q0, hargs, rfl, rfl, h0, r0⟩ := trodAll_cons hA
  obtain ⟨v1, vs1, d1, ds1, p1, q1, rfl, rfl, rfl, h1, r1⟩ := trodAll_cons r0
  obtain ⟨v2, vs2, d2, ds2, p2, q2, rfl, rfl, rfl, h2, r2⟩ := trodAll_cons r1
  obtain ⟨v3, vs3, d3, ds3, p3, q3, rfl, rfl, rfl, h3, r3⟩ := trodAll_cons r2
  obtain ⟨rfl, rfl, rfl⟩ := trodAll_nil r3
  obtain rfl : args = #[v0, v1, v2, v3] := by cases args; simp_all
  obtain ⟨name0, mem0, frame0, A0, c0, l0, rfl, km0, kf0, hlc0, hcm0, hR0, hP0⟩ := open_module (hval 0 24 v0 rfl rfl) h0
  obtain ⟨A1, c1, l1, rfl, hlc1, hcm1, hR1, hP1⟩ := open_ints1 (hval 1 28 v1 rfl rfl) h1
  obtain ⟨a2, rfl, rfl, rfl, w2⟩ := open_int Try.underlying3 (hval 2 3 v2 rfl rfl) h2
  obtain ⟨A3, c3, l3, rfl, hlc3, hcm3, hR3, hP3⟩ := open_claims (hval 3 29 v3 rfl rfl) h3
  have hsz := hsz0
  rw [Try.params6] at hsz
  have hz0 := sz_module (hval 0 24 _ rfl rfl) h0 (fun n hn => by simpa using List.all_eq_true.1 hsz n (DataW.weights_mem_each (j := 0) (t := 24) rfl rfl n hn)) rfl
  obtain ⟨l3', hl3', hr3', hm3', hs3'⟩ := sz_claims h3 (fun n hn => by simpa using List.all_eq_true.1 hsz n (DataW.weights_mem_each (j := 3) (t := 29) rfl rfl n hn))
  clear hA0 hval0
  refine (planChecks_walk' name0 mem0 frame0 l0 A0 c0 l1 A1 c1 a2 l3' A3 c3 l3.length hl3' W hR0 hR1 hr3' hlc1 hz0 hm3' hs3').mono fun e W' ⟨he, hg⟩ => ?_
  subst he
  refine ⟨_, rfl, law_post (tb := 4) laid ?_ ?_ Try.underlying4 rfl hW' ⟨rfl, rfl, rfl⟩ hg⟩
  · rw [Try.params6]; intro t ht; simp at ht; rcases ht with rfl | rfl | rfl | rfl <;> exact ⟨by kernel_rfl, of_decide_eq_true (by kernel_rfl)⟩
  · kernel_rfl

theorem planChecks_holds : Rows.PlanChecksSaid :=
  OpenClaim.holds_of_wide 6 Try.f6 rfl rfl rfl rfl rfl rfl rfl ⟨rfl, rfl, rfl, rfl, rfl⟩ rfl rfl rfl rfl rfl (by kernel_rfl) Try.func6 (by kernel_rfl)
    (of_decide_eq_true (by kernel_rfl)) (by unfold Func.isWrapper; first | (rw [if_pos (by decide +kernel)]; kernel_rfl) | (rw [if_neg (by decide +kernel)]; exact ⟨rfl, rfl⟩))
    (fun os started H enc _ => planChecks_lifted os started H enc)
#print axioms planChecks_holds
end Go.Proofs.Ytlmbffnmjfbglab
