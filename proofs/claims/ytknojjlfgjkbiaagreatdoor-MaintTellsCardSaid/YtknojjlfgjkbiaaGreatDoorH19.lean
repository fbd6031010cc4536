/- Texts G4 G5 H0, joined. -/
import Derived.Test.YtknojjlfgjkbiaaGreatDoorH18
set_option linter.unusedSimpArgs false
set_option linter.unusedVariables false
set_option linter.unusedSectionVars false
/- desk.Replace. -/
namespace Go.Proofs.YtknojjlfgjkbiaaGreatDoor
open Go.ChangeShapes Go.WideShapes Go.ChangeAt Go.RowKit
attribute [local go_sem] Oper.semAt_some

set_option maxRecDepth 100000 in
set_option maxHeartbeats 4000000 in
/-- a unit that is not accused. -/
theorem replace_none (L : List CsV) (reps : List Rep) (u : ByteArray) (g mb : Nat) (A : Option Addr) (c : Nat) (w : World) (hg : Blk w g 95 #[.slice A L.length c, .map (some mb)]) (h : RdCs w w.heap.size A L) (ok : ∀ x ∈ L, OkC x.c) (hl : L.length ≤ 100000) (hm : CntMap KR w mb reps) (hk : okV (csOf L) = true)
    (hu : u.size ≤ maxLen) (hun : memB u (accV (csOf L) reps) = false) :
    Calls Tryz.prog 15 #[.pointer (some ⟨g, 0, none⟩), .string u] w fun e w' => e = .returned (.tuple #[.int .i64 0, .int .i64 6]) ∧ Below w.heap.size w w' := by
  have hmade := made_c g A L.length c (some mb) w hg
  have hac := accused_c L reps mb A c w.drew (h.to_ (Nat.le_refl _) fun _ _ _ => rfl) ok hl hm.drew
  have hHeld : w.drew.cell? ⟨g, 0, none⟩ = some (.slice A L.length c) ∧ w.drew.cell? ⟨g, 1, none⟩ = some (.map (some mb)) := ⟨hg.cell 0, hg.cell 1⟩
  have hz := cnt_eq0 u (accV (csOf L) reps)
  rw [hun, Bool.not_false] at hz
  have Hmade := Lib.hid hmade
  have Hac := Lib.hid hac
  have Hk := Lib.hid hk
  clear hg h ok hm hmade hac hk hun
  go_enter Tryz.func15, Tryz.ntmps15
  go_wp2_with (go_at_call 43; refine Hmade.out.mono ?_; rintro e w' ⟨rfl, rfl⟩)
  refine wp_region_S (fun W' => W'.cell? ⟨g, 0, none⟩ = some (.slice A L.length c) ∧ W'.cell? ⟨g, 1, none⟩ = some (.map (some mb))) 15 (by kernel_rfl) hHeld (fun hHeld => ?_)
  refine wpAnyS_take (i := 0) (v := ?_) rfl (by kernel_rfl) (by kernel_rfl) (by kernel_rfl) (by kernel_rfl) (fun c a w h => h) (Or.inl ⟨by rfl, ?_⟩) hHeld ?_
  rotate_left
  · intro w hSw
    (try obtain ⟨hSw1, hSw2⟩ := hSw)
    go_simp
    first | done | with_reducible rfl
  simp only [Act.put, List.setIfInBounds_toArray, List.set_cons_zero, List.set_cons_succ]
  refine wpAnyS_take (i := 1) (v := ?_) rfl (by kernel_rfl) (by kernel_rfl) (by kernel_rfl) (by kernel_rfl) (fun c a w h => h) (Or.inl ⟨by rfl, ?_⟩) hHeld ?_
  rotate_left
  · intro w hSw
    (try obtain ⟨hSw1, hSw2⟩ := hSw)
    go_simp
    first | done | with_reducible rfl
  simp only [Act.put, List.setIfInBounds_toArray, List.set_cons_zero, List.set_cons_succ]
  refine wpAnyS_take (i := 2) (v := ?_) rfl (by kernel_rfl) (by kernel_rfl) (by kernel_rfl) (by kernel_rfl) (fun c a w h => h) (Or.inl ⟨by rfl, ?_⟩) hHeld ?_
  rotate_left
  · intro w hSw
    (try obtain ⟨hSw1, hSw2⟩ := hSw)
    go_simp
    first | done | with_reducible rfl
  simp only [Act.put, List.setIfInBounds_toArray, List.set_cons_zero, List.set_cons_succ]
  refine wpAnyS_take (i := 3) (v := ?_) rfl (by kernel_rfl) (by kernel_rfl) (by kernel_rfl) (by kernel_rfl) (fun c a w h => h) (Or.inl ⟨by rfl, ?_⟩) hHeld ?_
  rotate_left
  · intro w hSw
    (try obtain ⟨hSw1, hSw2⟩ := hSw)
    go_simp
    first | done | with_reducible rfl
  simp only [Act.put, List.setIfInBounds_toArray, List.set_cons_zero, List.set_cons_succ]
  refine wpAnyS_take (i := 4) (v := ?_) rfl (by kernel_rfl) (by kernel_rfl) (by kernel_rfl) (by kernel_rfl) (fun c a w h => h) (Or.inl ⟨by rfl, ?_⟩) hHeld ?_
  rotate_left
  · intro w hSw
    (try obtain ⟨hSw1, hSw2⟩ := hSw)
    go_simp
    first | done | with_reducible rfl
  simp only [Act.put, List.setIfInBounds_toArray, List.set_cons_zero, List.set_cons_succ]
  refine wpAnyS_take (i := 5) (v := ?_) rfl (by kernel_rfl) (by kernel_rfl) (by kernel_rfl) (by kernel_rfl) (fun c a w h => h) (Or.inl ⟨by rfl, ?_⟩) hHeld ?_
  rotate_left
  · intro w hSw
    (try obtain ⟨hSw1, hSw2⟩ := hSw)
    go_simp
    first | done | with_reducible rfl
  simp only [Act.put, List.setIfInBounds_toArray, List.set_cons_zero, List.set_cons_succ]
  refine wpAnyS_take (i := 6) (v := ?_) rfl (by kernel_rfl) (by kernel_rfl) (by kernel_rfl) (by kernel_rfl) (fun c a w h => h) (Or.inl ⟨by rfl, ?_⟩) hHeld ?_
  rotate_left
  · intro w hSw
    (try obtain ⟨hSw1, hSw2⟩ := hSw)
    go_simp
    first | done | with_reducible rfl
  simp only [Act.put, List.setIfInBounds_toArray, List.set_cons_zero, List.set_cons_succ]
  refine wpAnyS_take (i := 7) (v := ?_) rfl (by kernel_rfl) (by kernel_rfl) (by kernel_rfl) (by kernel_rfl) (fun c a w h => h) (Or.inl ⟨by rfl, ?_⟩) hHeld ?_
  rotate_left
  · intro w hSw
    (try obtain ⟨hSw1, hSw2⟩ := hSw)
    go_simp
    first | done | with_reducible rfl
  simp only [Act.put, List.setIfInBounds_toArray, List.set_cons_zero, List.set_cons_succ]
  refine wpAnyS_ready (rs := [8]) (by kernel_rfl) (by simp) ?_
  refine AllReadyS.cons rfl (fun K hK => ?_) AllReadyS.nil
  go_simp
  refine Hac.out.mono ?_
  rintro e w5 ⟨hb5, he⟩
  rw [Hk.out] at he
  simp only [if_true] at he
  obtain ⟨A', c', b', rfl, hrd, hm'⟩ := he
  have hc5 := fun (p : Addr) (x : Value) (hp : w.drew.cell? p = some x) => (hb5.cell (p := p) (World.block_lt_of_cell? _ _ hp)).trans hp
  have hHeld5 := And.intro (hc5 _ _ hHeld.1) (hc5 _ _ hHeld.2)
  have hbb : Below w.heap.size w w5 := ⟨hb5.os, hb5.tape, hb5.output, hb5.size, hb5.block⟩
  have HB := Lib.hid hbb
  have HM' := Lib.hid hm'
  refine hK.out _ _ (fun _ => hHeld5) ?_
  clear hK hc5 hbb hrd hm' hb5 Hac hHeld
  refine wpAnyS_takeT (i := 9) (v := ?_) rfl (by kernel_rfl) (by kernel_rfl) (by kernel_rfl) (by decide) (fun c a w h => h) (Or.inl ⟨by rfl, ?_⟩) hHeld5 ?_
  rotate_left
  · intro w hSw
    go_simp
    first | done | with_reducible rfl
  simp only [Act.put, List.setIfInBounds_toArray, List.set_cons_zero, List.set_cons_succ]
  refine wpAnyS_takeT (i := 10) (v := ?_) rfl (by kernel_rfl) (by kernel_rfl) (by kernel_rfl) (by decide) (fun c a w h => h) (Or.inl ⟨by rfl, ?_⟩) hHeld5 ?_
  rotate_left
  · intro w hSw
    go_simp
    first | done | with_reducible rfl
  simp only [Act.put, List.setIfInBounds_toArray, List.set_cons_zero, List.set_cons_succ]
  refine wpAnyS_takeT (i := 11) (v := ?_) rfl (by kernel_rfl) (by kernel_rfl) (by kernel_rfl) (by decide) (fun c a w h => h) (Or.inl ⟨by rfl, ?_⟩) hHeld5 ?_
  rotate_left
  · intro w hSw
    go_simp
    first | done | with_reducible rfl
  simp only [Act.put, List.setIfInBounds_toArray, List.set_cons_zero, List.set_cons_succ]
  refine wpAnyS_takeT (i := 12) (v := ?_) rfl (by kernel_rfl) (by kernel_rfl) (by kernel_rfl) (by decide) (fun c a w h => h) (Or.inl ⟨by rfl, ?_⟩) hHeld5 ?_
  rotate_left
  · intro w hSw
    go_simp
    first | done | with_reducible rfl
  simp only [Act.put, List.setIfInBounds_toArray, List.set_cons_zero, List.set_cons_succ]
  refine wpAnyS_ready (rs := [13]) (by kernel_rfl) (by simp) ?_
  refine AllReadyS.cons rfl (fun K hK => ?_) AllReadyS.nil
  go_simp
  refine hK.out _ _ (fun _ => hHeld5) ?_
  clear hK
  refine wpAnyS_ready (rs := [14]) (by kernel_rfl) (by simp) ?_
  refine AllReadyS.cons rfl (fun K hK => ?_) AllReadyS.nil
  go_simp
  refine hK.out _ _ (fun _ => hHeld5) ?_
  clear hK
  refine wpAnyS_ready (rs := [15]) (by kernel_rfl) (by simp) ?_
  refine AllReadyS.cons rfl (fun K hK => ?_) AllReadyS.nil
  go_simp
  refine hK.out _ _ (fun h => absurd h (by decide)) ?_
  clear hK
  refine wpAnyS_done (by kernel_rfl) ?_ _
  go_wp2_with (at_lookup; refine wpList_cnt (M := KS) rfl (.tmp 27) (.tmp 28) rfl rfl HM'.out u hu rfl ?_)
  refine bodyPost_ret (results_tmp2 rfl _ _ _) rfl ?_
  exact ⟨rfl, HB.out⟩
end Go.Proofs.YtknojjlfgjkbiaaGreatDoor
/- desk.Replace of an accused unit. -/
namespace Go.Proofs.YtknojjlfgjkbiaaGreatDoor
open Go.ChangeShapes Go.WideShapes Go.ChangeAt Go.RowKit
attribute [local go_sem] Oper.semAt_some

theorem KeyD.perm {ks ks' : List Rep} {f f' : Rep → Int} {D : DataW Unit} (h : KeyD KR ks f D) (hn : ks'.Nodup) (hm : ∀ x, x ∈ ks' ↔ x ∈ ks) (hf : ∀ x, KR.good x → f x = f' x) : KeyD KR ks' f' D where
  nodup := hn
  good := fun x hx => h.good x ((hm x).1 hx)
  size := by rw [h.size]; exact Nat.le_antisymm (len_le _ _ h.nodup fun x hx => (hm x).2 hx) (len_le _ _ hn fun x hx => (hm x).1 hx)
  has := fun x hx => by
    rw [h.has x hx, decide_eq_decide]
    exact (hm x).symm
  at_ := fun x hx => by rw [h.at_ x hx, hf x hx]
  map := h.map
  tidy := h.tidy
theorem OnMap.tight {w : World} {b n : Nat} {ks : List Rep} {f : Rep → Int} (h : OnMap KR w b n ks f) : OnMap KR w b ks.length ks f := by
  obtain ⟨D, ⟨es, clock, hb, F, hsz, rfl⟩, hK⟩ := h
  refine ⟨_, ⟨es, clock, hb, F, ?_, rfl⟩, hK⟩
  rw [← hK.size]
  simp [Maps.size, DataW.length_sorted]
theorem Rng.onMap {w : World} {b r cnt : Nat} {ks got : List Rep} {f : Rep → Int} (h : Rng KR w b r ks f got cnt) : ∃ n, OnMap KR w b n ks f := let ⟨n, D, _, h1, h2, _⟩ := h; ⟨n, D, h1.owns, h2⟩
theorem restR_ext {ex got : List Rep} (h : ∀ x, x ∈ got ↔ x ∈ ex) (x : Rep) : memB x got = memB x ex := by rw [Bool.eq_iff_iff, memB_iff, memB_iff, h x]
/-- what is left of a list of reports. -/
def restR (reps ex : List Rep) : List Rep := reps.filter fun x => !memB x ex
theorem mem_restR {reps ex : List Rep} {x : Rep} : x ∈ restR reps ex ↔ x ∈ reps ∧ x ∉ ex := by
  unfold restR
  rw [List.mem_filter]
  constructor
  · rintro ⟨h1, h2⟩
    exact ⟨h1, fun hc => by rw [memB_iff.2 hc] at h2; cases h2⟩
  · rintro ⟨h1, h2⟩
    exact ⟨h1, by rw [memB_false h2]; rfl⟩
theorem cnt_restR (reps ex : List Rep) (x : Rep) : cntB x (restR reps ex) = if memB x ex then 0 else cntB x reps := by
  unfold cntB
  cases h : memB x ex with
  | true =>
    rw [if_pos rfl, List.count_eq_zero]
    exact fun hc => (mem_restR.1 hc).2 (memB_iff.1 h)
  | false =>
    rw [if_neg (by simp)]
    unfold restR
    exact List.count_filter (by rw [h]; rfl)
theorem CntMap.rest {w : World} {b n : Nat} {ks : List Rep} {f : Rep → Int} {reps ex : List Rep} (h : OnMap KR w b n ks f) (hk : ∀ x, x ∈ ks ↔ x ∈ reps ∧ x ∉ ex) (hf : ∀ x, f x = if memB x ex then 0 else (cntB x reps : Int)) : CntMap KR w b (restR reps ex) := by
  have h2 := h.tight
  refine ⟨ks.length, len_le _ _ h.nodup fun x hx => mem_restR.2 ((hk x).1 hx), ?_⟩
  obtain ⟨D, h3, h4⟩ := h2
  refine ⟨D, h3, h4.perm (nodup_fold _ _ List.nodup_nil) (fun x => by rw [fold_mem, mem_restR, hk x]) fun x _ => ?_⟩
  rw [hf x, cnt_restR]
  split <;> rfl
set_option maxRecDepth 100000 in
set_option maxHeartbeats 4000000 in
/-- an accused unit: its reports go. -/
theorem replace_yes (L : List CsV) (reps : List Rep) (u : ByteArray) (g mb : Nat) (A : Option Addr) (c : Nat) (w : World) (hg : Blk w g 95 #[.slice A L.length c, .map (some mb)]) (h : RdCs w w.heap.size A L) (ok : ∀ x ∈ L, OkC x.c) (hl : L.length ≤ 100000) (hn : ∀ x ∈ L, x.c.needs.length ≤ 1000) (hm : CntMap KR w mb reps) (hk : okV (csOf L) = true)
    (hu : u.size ≤ maxLen) (hun : memB u (accV (csOf L) reps) = true) :
    Calls Tryz.prog 15 #[.pointer (some ⟨g, 0, none⟩), .string u] w fun e w' => e = .returned (.tuple #[.int .i64 ((explV L reps (accV (csOf L) reps) u).foldl addU []).length, .int .i64 0]) ∧ CntMap KR w' mb (restR reps (explV L reps (accV (csOf L) reps) u)) ∧ w.grownBy w' (some mb) := by
  have hmade := made_c g A L.length c (some mb) w hg
  have hac := accused_c L reps mb A c w.drew (h.to_ (Nat.le_refl _) fun _ _ _ => rfl) ok hl hm.drew
  have hHeld : w.drew.cell? ⟨g, 0, none⟩ = some (.slice A L.length c) ∧ w.drew.cell? ⟨g, 1, none⟩ = some (.map (some mb)) := ⟨hg.cell 0, hg.cell 1⟩
  have hz := cnt_eq0 u (accV (csOf L) reps)
  rw [hun, Bool.not_true] at hz
  have hgne : g ≠ mb := fun e => by
    obtain ⟨es, clock, ho⟩ := hm.obj
    rw [← e, show w.heap[g]? = _ from hg] at ho
    cases ho
  have hexp := fun W b2 (hh : RdCs W W.heap.size A L) (hm1 : CntMap KR W mb reps) (hm2 : CntMap KS W b2 (accV (csOf L) reps)) => explained_c L reps (accV (csOf L) reps) mb b2 u A c W hh ok hl hn hm1 hm2 hu
  have Hmade := Lib.hid hmade
  have Hac := Lib.hid hac
  have Hk := Lib.hid hk
  have H := Lib.hid h
  have Hm := Lib.hid hm
  have Hg := Lib.hid hg
  have Hexp := Lib.hid hexp
  have hltm := hm.lt
  have hltg := hg.lt
  clear hg h ok hn hm hmade hac hk hun hexp
  generalize accV (csOf L) reps = acc at *
  go_enter Tryz.func15, Tryz.ntmps15
  go_wp2_with (go_at_call 43; refine Hmade.out.mono ?_; rintro e w' ⟨rfl, rfl⟩)
  refine wp_region_S (fun W' => W'.cell? ⟨g, 0, none⟩ = some (.slice A L.length c) ∧ W'.cell? ⟨g, 1, none⟩ = some (.map (some mb))) 15 (by kernel_rfl) hHeld (fun hHeld => ?_)
  refine wpAnyS_take (i := 0) (v := ?_) rfl (by kernel_rfl) (by kernel_rfl) (by kernel_rfl) (by kernel_rfl) (fun c a w h => h) (Or.inl ⟨by rfl, ?_⟩) hHeld ?_
  rotate_left
  · intro w hSw
    (try obtain ⟨hSw1, hSw2⟩ := hSw)
    go_simp
    first | done | with_reducible rfl
  simp only [Act.put, List.setIfInBounds_toArray, List.set_cons_zero, List.set_cons_succ]
  refine wpAnyS_take (i := 1) (v := ?_) rfl (by kernel_rfl) (by kernel_rfl) (by kernel_rfl) (by kernel_rfl) (fun c a w h => h) (Or.inl ⟨by rfl, ?_⟩) hHeld ?_
  rotate_left
  · intro w hSw
    (try obtain ⟨hSw1, hSw2⟩ := hSw)
    go_simp
    first | done | with_reducible rfl
  simp only [Act.put, List.setIfInBounds_toArray, List.set_cons_zero, List.set_cons_succ]
  refine wpAnyS_take (i := 2) (v := ?_) rfl (by kernel_rfl) (by kernel_rfl) (by kernel_rfl) (by kernel_rfl) (fun c a w h => h) (Or.inl ⟨by rfl, ?_⟩) hHeld ?_
  rotate_left
  · intro w hSw
    (try obtain ⟨hSw1, hSw2⟩ := hSw)
    go_simp
    first | done | with_reducible rfl
  simp only [Act.put, List.setIfInBounds_toArray, List.set_cons_zero, List.set_cons_succ]
  refine wpAnyS_take (i := 3) (v := ?_) rfl (by kernel_rfl) (by kernel_rfl) (by kernel_rfl) (by kernel_rfl) (fun c a w h => h) (Or.inl ⟨by rfl, ?_⟩) hHeld ?_
  rotate_left
  · intro w hSw
    (try obtain ⟨hSw1, hSw2⟩ := hSw)
    go_simp
    first | done | with_reducible rfl
  simp only [Act.put, List.setIfInBounds_toArray, List.set_cons_zero, List.set_cons_succ]
  refine wpAnyS_take (i := 4) (v := ?_) rfl (by kernel_rfl) (by kernel_rfl) (by kernel_rfl) (by kernel_rfl) (fun c a w h => h) (Or.inl ⟨by rfl, ?_⟩) hHeld ?_
  rotate_left
  · intro w hSw
    (try obtain ⟨hSw1, hSw2⟩ := hSw)
    go_simp
    first | done | with_reducible rfl
  simp only [Act.put, List.setIfInBounds_toArray, List.set_cons_zero, List.set_cons_succ]
  refine wpAnyS_take (i := 5) (v := ?_) rfl (by kernel_rfl) (by kernel_rfl) (by kernel_rfl) (by kernel_rfl) (fun c a w h => h) (Or.inl ⟨by rfl, ?_⟩) hHeld ?_
  rotate_left
  · intro w hSw
    (try obtain ⟨hSw1, hSw2⟩ := hSw)
    go_simp
    first | done | with_reducible rfl
  simp only [Act.put, List.setIfInBounds_toArray, List.set_cons_zero, List.set_cons_succ]
  refine wpAnyS_take (i := 6) (v := ?_) rfl (by kernel_rfl) (by kernel_rfl) (by kernel_rfl) (by kernel_rfl) (fun c a w h => h) (Or.inl ⟨by rfl, ?_⟩) hHeld ?_
  rotate_left
  · intro w hSw
    (try obtain ⟨hSw1, hSw2⟩ := hSw)
    go_simp
    first | done | with_reducible rfl
  simp only [Act.put, List.setIfInBounds_toArray, List.set_cons_zero, List.set_cons_succ]
  refine wpAnyS_take (i := 7) (v := ?_) rfl (by kernel_rfl) (by kernel_rfl) (by kernel_rfl) (by kernel_rfl) (fun c a w h => h) (Or.inl ⟨by rfl, ?_⟩) hHeld ?_
  rotate_left
  · intro w hSw
    (try obtain ⟨hSw1, hSw2⟩ := hSw)
    go_simp
    first | done | with_reducible rfl
  simp only [Act.put, List.setIfInBounds_toArray, List.set_cons_zero, List.set_cons_succ]
  refine wpAnyS_ready (rs := [8]) (by kernel_rfl) (by simp) ?_
  refine AllReadyS.cons rfl (fun K hK => ?_) AllReadyS.nil
  go_simp
  refine Hac.out.mono ?_
  rintro e w5 ⟨hb5, he⟩
  rw [Hk.out] at he
  simp only [if_true] at he
  obtain ⟨A', c', b', rfl, hrd, hm'⟩ := he
  have hc5 := fun (p : Addr) (x : Value) (hp : w.drew.cell? p = some x) => (hb5.cell (p := p) (World.block_lt_of_cell? _ _ hp)).trans hp
  have hHeld5 := And.intro (hc5 _ _ hHeld.1) (hc5 _ _ hHeld.2)
  have hbb : Below w.heap.size w w5 := ⟨hb5.os, hb5.tape, hb5.output, hb5.size, hb5.block⟩
  have HB := Lib.hid hbb
  have HM' := Lib.hid hm'
  refine hK.out _ _ (fun _ => hHeld5) ?_
  clear hK hc5 hbb hrd hm' hb5 Hac hHeld
  refine wpAnyS_takeT (i := 9) (v := ?_) rfl (by kernel_rfl) (by kernel_rfl) (by kernel_rfl) (by decide) (fun c a w h => h) (Or.inl ⟨by rfl, ?_⟩) hHeld5 ?_
  rotate_left
  · intro w hSw
    go_simp
    first | done | with_reducible rfl
  simp only [Act.put, List.setIfInBounds_toArray, List.set_cons_zero, List.set_cons_succ]
  refine wpAnyS_takeT (i := 10) (v := ?_) rfl (by kernel_rfl) (by kernel_rfl) (by kernel_rfl) (by decide) (fun c a w h => h) (Or.inl ⟨by rfl, ?_⟩) hHeld5 ?_
  rotate_left
  · intro w hSw
    go_simp
    first | done | with_reducible rfl
  simp only [Act.put, List.setIfInBounds_toArray, List.set_cons_zero, List.set_cons_succ]
  refine wpAnyS_takeT (i := 11) (v := ?_) rfl (by kernel_rfl) (by kernel_rfl) (by kernel_rfl) (by decide) (fun c a w h => h) (Or.inl ⟨by rfl, ?_⟩) hHeld5 ?_
  rotate_left
  · intro w hSw
    go_simp
    first | done | with_reducible rfl
  simp only [Act.put, List.setIfInBounds_toArray, List.set_cons_zero, List.set_cons_succ]
  refine wpAnyS_takeT (i := 12) (v := ?_) rfl (by kernel_rfl) (by kernel_rfl) (by kernel_rfl) (by decide) (fun c a w h => h) (Or.inl ⟨by rfl, ?_⟩) hHeld5 ?_
  rotate_left
  · intro w hSw
    go_simp
    first | done | with_reducible rfl
  simp only [Act.put, List.setIfInBounds_toArray, List.set_cons_zero, List.set_cons_succ]
  refine wpAnyS_ready (rs := [13]) (by kernel_rfl) (by simp) ?_
  refine AllReadyS.cons rfl (fun K hK => ?_) AllReadyS.nil
  go_simp
  refine hK.out _ _ (fun _ => hHeld5) ?_
  clear hK
  refine wpAnyS_ready (rs := [14]) (by kernel_rfl) (by simp) ?_
  refine AllReadyS.cons rfl (fun K hK => ?_) AllReadyS.nil
  go_simp
  refine hK.out _ _ (fun _ => hHeld5) ?_
  clear hK
  refine wpAnyS_ready (rs := [15]) (by kernel_rfl) (by simp) ?_
  refine AllReadyS.cons rfl (fun K hK => ?_) AllReadyS.nil
  go_simp
  refine hK.out _ _ (fun h => absurd h (by decide)) ?_
  clear hK
  refine wpAnyS_done (by kernel_rfl) ?_ _
  go_wp2_with (at_lookup; refine wpList_cnt (M := KS) rfl (.tmp 27) (.tmp 28) rfl rfl HM'.out u hu rfl ?_)
  have hB6 : Below w.heap.size w w5.drew := HB.out.drew
  have hs5 := HB.out.size
  have hex := Hexp.out w5.drew b' ((H.out.keep hB6).more hs5) (Hm.out.below hB6 hltm) HM'.out.drew
  have Hex := Lib.hid hex
  have hHeld6 : w5.drew.cell? ⟨g, 0, none⟩ = some (.slice A L.length c) ∧ w5.drew.cell? ⟨g, 1, none⟩ = some (.map (some mb)) := hHeld5
  clear hex Hexp HM' hHeld5
  refine wp_region_S (fun W' => W'.cell? ⟨g, 0, none⟩ = some (.slice A L.length c) ∧ W'.cell? ⟨g, 1, none⟩ = some (.map (some mb))) 11 (by kernel_rfl) hHeld6 (fun hHeld6 => ?_)
  refine wpAnyS_take (i := 0) (v := ?_) rfl (by kernel_rfl) (by kernel_rfl) (by kernel_rfl) (by kernel_rfl) (fun c a w h => h) (Or.inl ⟨by rfl, ?_⟩) hHeld6 ?_
  rotate_left
  · intro w hSw
    (try obtain ⟨hSw1, hSw2⟩ := hSw)
    go_simp
    first | done | with_reducible rfl
  simp only [Act.put, List.setIfInBounds_toArray, List.set_cons_zero, List.set_cons_succ]
  refine wpAnyS_take (i := 1) (v := ?_) rfl (by kernel_rfl) (by kernel_rfl) (by kernel_rfl) (by kernel_rfl) (fun c a w h => h) (Or.inl ⟨by rfl, ?_⟩) hHeld6 ?_
  rotate_left
  · intro w hSw
    (try obtain ⟨hSw1, hSw2⟩ := hSw)
    go_simp
    first | done | with_reducible rfl
  simp only [Act.put, List.setIfInBounds_toArray, List.set_cons_zero, List.set_cons_succ]
  refine wpAnyS_take (i := 2) (v := ?_) rfl (by kernel_rfl) (by kernel_rfl) (by kernel_rfl) (by kernel_rfl) (fun c a w h => h) (Or.inl ⟨by rfl, ?_⟩) hHeld6 ?_
  rotate_left
  · intro w hSw
    (try obtain ⟨hSw1, hSw2⟩ := hSw)
    go_simp
    first | done | with_reducible rfl
  simp only [Act.put, List.setIfInBounds_toArray, List.set_cons_zero, List.set_cons_succ]
  refine wpAnyS_take (i := 3) (v := ?_) rfl (by kernel_rfl) (by kernel_rfl) (by kernel_rfl) (by kernel_rfl) (fun c a w h => h) (Or.inl ⟨by rfl, ?_⟩) hHeld6 ?_
  rotate_left
  · intro w hSw
    (try obtain ⟨hSw1, hSw2⟩ := hSw)
    go_simp
    first | done | with_reducible rfl
  simp only [Act.put, List.setIfInBounds_toArray, List.set_cons_zero, List.set_cons_succ]
  refine wpAnyS_take (i := 4) (v := ?_) rfl (by kernel_rfl) (by kernel_rfl) (by kernel_rfl) (by kernel_rfl) (fun c a w h => h) (Or.inl ⟨by rfl, ?_⟩) hHeld6 ?_
  rotate_left
  · intro w hSw
    (try obtain ⟨hSw1, hSw2⟩ := hSw)
    go_simp
    first | done | with_reducible rfl
  simp only [Act.put, List.setIfInBounds_toArray, List.set_cons_zero, List.set_cons_succ]
  refine wpAnyS_take (i := 5) (v := ?_) rfl (by kernel_rfl) (by kernel_rfl) (by kernel_rfl) (by kernel_rfl) (fun c a w h => h) (Or.inl ⟨by rfl, ?_⟩) hHeld6 ?_
  rotate_left
  · intro w hSw
    (try obtain ⟨hSw1, hSw2⟩ := hSw)
    go_simp
    first | done | with_reducible rfl
  simp only [Act.put, List.setIfInBounds_toArray, List.set_cons_zero, List.set_cons_succ]
  refine wpAnyS_take (i := 6) (v := ?_) rfl (by kernel_rfl) (by kernel_rfl) (by kernel_rfl) (by kernel_rfl) (fun c a w h => h) (Or.inl ⟨by rfl, ?_⟩) hHeld6 ?_
  rotate_left
  · intro w hSw
    (try obtain ⟨hSw1, hSw2⟩ := hSw)
    go_simp
    first | done | with_reducible rfl
  simp only [Act.put, List.setIfInBounds_toArray, List.set_cons_zero, List.set_cons_succ]
  refine wpAnyS_take (i := 7) (v := ?_) rfl (by kernel_rfl) (by kernel_rfl) (by kernel_rfl) (by kernel_rfl) (fun c a w h => h) (Or.inl ⟨by rfl, ?_⟩) hHeld6 ?_
  rotate_left
  · intro w hSw
    (try obtain ⟨hSw1, hSw2⟩ := hSw)
    go_simp
    first | done | with_reducible rfl
  simp only [Act.put, List.setIfInBounds_toArray, List.set_cons_zero, List.set_cons_succ]
  refine wpAnyS_take (i := 8) (v := ?_) rfl (by kernel_rfl) (by kernel_rfl) (by kernel_rfl) (by kernel_rfl) (fun c a w h => h) (Or.inl ⟨by rfl, ?_⟩) hHeld6 ?_
  rotate_left
  · intro w hSw
    (try obtain ⟨hSw1, hSw2⟩ := hSw)
    go_simp
    first | done | with_reducible rfl
  simp only [Act.put, List.setIfInBounds_toArray, List.set_cons_zero, List.set_cons_succ]
  refine wpAnyS_take (i := 9) (v := ?_) rfl (by kernel_rfl) (by kernel_rfl) (by kernel_rfl) (by kernel_rfl) (fun c a w h => h) (Or.inl ⟨by rfl, ?_⟩) hHeld6 ?_
  rotate_left
  · intro w hSw
    (try obtain ⟨hSw1, hSw2⟩ := hSw)
    go_simp
    first | done | with_reducible rfl
  simp only [Act.put, List.setIfInBounds_toArray, List.set_cons_zero, List.set_cons_succ]
  refine wpAnyS_ready (rs := [10]) (by kernel_rfl) (by simp) ?_
  refine AllReadyS.cons rfl (fun K hK => ?_) AllReadyS.nil
  go_simp
  refine Hex.out.mono ?_
  rintro e w7 ⟨rfl, hm7, hb7⟩
  have hc7 := fun (p : Addr) (x : Value) (hp : w5.drew.cell? p = some x) => (hb7.cell (p := p) (World.block_lt_of_cell? _ _ hp)).trans hp
  have hHeld7 := And.intro (hc7 _ _ hHeld6.1) (hc7 _ _ hHeld6.2)
  have hbb : Below w.heap.size w w7 := hB6.trans (hb7.mono hs5)
  have HB7 := Lib.hid hbb
  have HM7 := Lib.hid hm7
  refine hK.out _ _ (fun _ => hHeld7) ?_
  clear hK hc7 hbb hm7 hb7 Hex hHeld6
  refine wpAnyS_ready (rs := [11]) (by kernel_rfl) (by simp) ?_
  refine AllReadyS.cons rfl (fun K hK => ?_) AllReadyS.nil
  go_simp
  refine hK.out _ _ (fun h => absurd h (by decide)) ?_
  clear hK
  refine wpAnyS_done (by kernel_rfl) ?_ _
  obtain ⟨n4, _, hOe⟩ := HM7.out
  obtain ⟨w8, cnt, hrun, hrg, hg8, hs8⟩ := hOe.range
  obtain ⟨n5, _, hOm⟩ := Hm.out
  have hOm8 : OnMap KR w8 mb n5 (reps.foldl addU []) (fun x => (cntB x reps : Int)) := (hOm.below HB7.out hltm).kept hg8 (by simp)
  have hgb8 : w.grownBy w8 (some mb) := only_grow (only_of_below HB7.out (some mb)) hg8 (fun r e => by cases e)
  have hbe : w5.drew.heap.size + 2 = w5.heap.size + 2 := rfl
  have hs7 := HB7.out.size
  have hlr := hrg.lt
  obtain ⟨be, hbee⟩ : ∃ be, be = w5.heap.size + 2 := ⟨_, rfl⟩
  rw [hbe, ← hbee] at hrg hrun
  have hrun : (Instr.range 83 (.map (some be))).run Tryz.prog w7 = .ok (.pointer (some ⟨w7.heap.size, 0, none⟩)) w8 := hrun
  have hbw : w.heap.size + 2 ≤ be := by omega
  have hke : ∀ x, x ∈ (explV L reps acc u).foldl addU [] ↔ x ∈ explV L reps acc u := fun x => fold_mem
  have HI := Lib.hid (And.intro hrg (And.intro hOm8 hgb8))
  have Hke := Lib.hid hke
  rw [← hbee]
  clear hOe hrg hg8 hOm hOm8 hgb8 hke hHeld7 HM7 hbe hbee
  go_wp2_with fail
  go_loopw [10] (fun _ wx => ∃ (got : List Rep) (cnt : Nat) (kt : List Rep) (ft : Rep → Int), Rng KR wx be w7.heap.size ((explV L reps acc u).foldl addU []) (fun x => (cntB x (explV L reps acc u) : Int)) got cnt ∧ OnMap KR wx mb n5 kt ft ∧ (∀ x, x ∈ kt ↔ x ∈ reps ∧ x ∉ got) ∧ (∀ x, ft x = if memB x got then 0 else (cntB x reps : Int)) ∧ w.grownBy wx (some mb)) (fun _ wx => wx.rangeLeft be w7.heap.size)
  case atStart => exact ⟨[], cnt, _, _, HI.out.1, HI.out.2.1, fun x => by rw [fold_mem]; simp, fun x => rfl, HI.out.2.2⟩
  case round =>
    clear hrun HI
    obtain ⟨got, cnt, kt, ft, hrg, hOt, hkt, hft, hGt⟩ := hrel
    have hle := hrg.left_eq
    rcases hrg.next 0 with ⟨hall, hrun⟩ | ⟨x, c, w6, cnt2, hx, hxk, hxg, hrun0, hrg2, hlt2, hg2, hs2, hen0⟩
    · have hge : ∀ x, x ∈ got ↔ x ∈ explV L reps acc u := fun x => ⟨fun h => (Hke.out x).1 (hrg.sub x h), fun h => hall x ((Hke.out x).2 h)⟩
      have hcr : CntMap KR wr mb (restR reps (explV L reps acc u)) := CntMap.rest hOt (fun x => by rw [hkt x, hge x]) (fun x => by rw [hft x, restR_ext hge x])
      obtain ⟨n6, hOb⟩ := hrg.onMap
      have hlen : ∀ ty, (Builtin.len_ #[83] ty #[.map (some be)]).run Tryz.prog wr = .ok (.int .i64 ((explV L reps acc u).foldl addU []).length) wr := fun ty => hOb.run_len ty
      have HR := Lib.hid (And.intro hcr hGt)
      clear hrg hOt hkt hft hGt hle hge hcr hOb
      go_wp2_with fail
      refine bodyPost_ret (results_tmp2 rfl _ _ _) rfl ?_
      exact ⟨rfl, HR.out⟩
    · have hlr2 := hrg.lt
      have hO6 := hOt.kept hg2 (by simp; omega)
      have hG6 : w.grownBy w6 (some mb) := only_grow hGt hg2 (fun r e => by cases e; right; omega)
      have hO7 := (hO6.alloc (.cells #[.string x.unit, .int .i64 x.code] 32)).drew
      have hrg7 : Rng KR (w6.alloc (.cells #[.string x.unit, .int .i64 x.code] 32)).drew be w7.heap.size _ _ _ _ := (hrg2.alloc (.cells #[.string x.unit, .int .i64 x.code] 32)).same rfl rfl
      obtain ⟨w9, hdel, hO8, htu⟩ := hO7.run_del hx 0
      have hg9 := htu.grown
      have hdel : (Builtin.delete_ #[83, 32] 0 #[.map (some mb), .agg #[.string x.unit, .int .i64 x.code]]).run Tryz.prog (w6.alloc (.cells #[.string x.unit, .int .i64 x.code] 32)).drew = .ok (.tuple #[]) w9 := hdel
      have hen : (Instr.entry (.pointer (some ⟨w7.heap.size, 0, none⟩))).run Tryz.prog w6 = .ok (.tuple #[.agg #[.string x.unit, .int .i64 x.code], .int .i64 c]) w6 := hen0
      have hrun : (Instr.next (.pointer (some ⟨w7.heap.size, 0, none⟩)) false 0).run Tryz.prog wr = .ok (.tuple #[.bool true, .agg #[.string x.unit, .int .i64 x.code], .int .i64 c]) w6 := hrun0
      have hnew : ∀ z, z ∈ kt.erase x ↔ z ∈ reps ∧ z ∉ got ++ [x] := fun z => by
        rw [List.Nodup.mem_erase_iff hO7.nodup, hkt z]
        simp only [List.mem_append, List.mem_singleton, not_or]
        exact ⟨fun ⟨a, b, c⟩ => ⟨b, c, a⟩, fun ⟨b, c, a⟩ => ⟨a, b, c⟩⟩
      have hnf : ∀ z, setF ft x 0 z = if memB z (got ++ [x]) then 0 else (cntB z reps : Int) := fun z => by
        unfold setF
        by_cases e : z = x
        · subst e
          rw [if_pos rfl, if_pos (memB_iff.2 (by simp))]
        · rw [if_neg e, hft z]
          have : memB z (got ++ [x]) = memB z got := by rw [Bool.eq_iff_iff, memB_iff, memB_iff]; simp [e]
          rw [this]
      have hrg8 := hrg7.kept hg9 (by simp; omega) (by simp; omega)
      have hG9 : w.grownBy w9 (some mb) := only_grow (only_alloc hG6 (.cells #[.string x.unit, .int .i64 x.code] 32)) (row := some mb) ⟨hg9.os, hg9.tape, hg9.output, hg9.size, hg9.block⟩ (fun r e => by cases e; exact .inl rfl)
      have b0 : (w6.alloc (.cells #[.string x.unit, .int .i64 x.code] 32)).drew.cell? ⟨w6.heap.size, 0, none⟩ = some (.string x.unit) := (Blk.new w6 32 #[.string x.unit, .int .i64 x.code]).cell 0
      have b1 : (w6.alloc (.cells #[.string x.unit, .int .i64 x.code] 32)).drew.cell? ⟨w6.heap.size, 1, none⟩ = some (.int .i64 x.code) := (Blk.new w6 32 #[.string x.unit, .int .i64 x.code]).cell 1
      have hg6' := (Hg.out.grown hG6 (by simp; exact hgne)).alloc (.cells #[.string x.unit, .int .i64 x.code] 32)
      have b2 : (w6.alloc (.cells #[.string x.unit, .int .i64 x.code] 32)).drew.cell? ⟨g, 1, none⟩ = some (.map (some mb)) := hg6'.cell 1
      have hle8 := hrg8.left_eq
      have HR := Lib.hid (And.intro hrg8 (And.intro hO8 (And.intro hnew (And.intro hnf hG9))))
      have Hle8 := Lib.hid hle8
      have Hle := Lib.hid hle
      clear hrg hOt hkt hft hGt hrun0 hen0 hrg2 hO6 hG6 hO7 hrg7 hO8 htu hg9 hnew hnf hrg8 hG9 hle8 hle hg2 hg6'
      go_wp2_with fail
      go_region
      go_wp2_with fail
      go_roundw
      case rel => exact ⟨_, _, _, _, HR.out⟩
      case measure => rw [Hle8.out, Hle.out]; exact hlt2
end Go.Proofs.YtknojjlfgjkbiaaGreatDoor
/- maint.New, where the check is passed. -/
namespace Go.Proofs.YtknojjlfgjkbiaaGreatDoor
open Go.ChangeShapes Go.WideShapes Go.ChangeAt Go.RowKit
attribute [local go_sem] Oper.semAt_some

theorem info33 : (Tryz.prog.info? 29).map (fun i => (i.zero, i.size, i.bytes)) = some (some (.agg #[.string ⟨#[]⟩, .slice none 0 0, .slice none 0 0]), 3, 64) := by kernel_rfl
def CsV.cells (x : CsV) : List Value := [.string x.c.unit, .slice x.n.a x.n.n x.n.c, .slice x.x.a x.x.n x.x.c]
theorem cellsC_length (l : List CsV) : (l.flatMap CsV.cells).length = l.length * 3 := by
  induction l with
  | nil => rfl
  | cons r l ih => simp [CsV.cells, ih]; omega
theorem cellsC_get : ∀ (l : List CsV) (i : Nat) (h : i < l.length), (l.flatMap CsV.cells)[i * 3]? = some (.string l[i].c.unit) ∧ (l.flatMap CsV.cells)[i * 3 + 1]? = some l[i].n.val ∧ (l.flatMap CsV.cells)[i * 3 + 2]? = some l[i].x.val
  | r :: l, 0, _ => ⟨rfl, rfl, rfl⟩
  | r :: l, i + 1, h => by
    have ih := cellsC_get l i (by simpa using h)
    have e : ∀ j, (List.flatMap CsV.cells (r :: l))[j + 3]? = (List.flatMap CsV.cells l)[j]? := fun j => by simp [CsV.cells]
    rw [show (i + 1) * 3 = i * 3 + 3 from by omega, show i * 3 + 3 + 1 = i * 3 + 1 + 3 from by omega, show i * 3 + 3 + 2 = i * 3 + 2 + 3 from by omega, e, e, e]
    simpa using ih
/-- a cause whose two slices are rows of the call's own. -/
structure OwnCs (W : World) (B : Nat) (x : CsV) : Prop where
  nl : x.n.n = x.c.needs.length
  nc : x.n.n ≤ x.n.c
  nm : x.n.c ≤ maxLen
  n : W.ownsRow B 32 2 (.slice x.n.a x.n.n x.n.c) x.c.needs.length (x.c.needs.flatMap Rep.cells)
  xl : x.x.n = x.c.excl.length
  xc : x.x.n ≤ x.x.c
  xm : x.x.c ≤ maxLen
  x : W.ownsRow B 9 1 (.slice x.x.a x.x.n x.x.c) x.c.excl.length (x.c.excl.map Value.string)
theorem OwnCs.rd {W : World} {B : Nat} {x : CsV} (h : OwnCs W B x) : x.rd W W.heap.size := by
  obtain ⟨h1, h2, h3, h4, h5, h6, h7, h8⟩ := h
  rw [h1] at h4
  rw [h5] at h8
  exact ⟨h1, h2, h3, rdRep_of_own h4, h5, h6, h7, rdStr_of_own h8⟩
/-- the causes so far, in a row of the call's own. -/
structure NewSt (w : World) (B : Nat) (L : List CsV) (v : Value) (W : World) : Prop where
  below : Below B w W
  size : B ≤ W.heap.size
  own : W.ownsRow B 29 3 v L.length (L.flatMap CsV.cells)
  subs : ∀ x ∈ L, OwnCs W B x
theorem OwnCs.kept {W W' : World} {B : Nat} {x : CsV} {row : Option Nat} (h : OwnCs W B x) (hg : W.grownBy W' row) (hr : ∀ r, row = some r → ∃ cur t, W.heap[r]? = some (.cells cur t (0, 0)) ∧ t ≠ 32 ∧ t ≠ 9) : OwnCs W' B x := by
  have key : ∀ {e s n : Nat} {v : Value} {xs : List Value}, W.ownsRow B e s v n xs → (e = 32 ∨ e = 9) → W'.ownsRow B e s v n xs := fun {e s n v xs} ho he => ho.kept hg (by
    cases row with
    | none =>
      rcases ho.2 with ⟨rfl, _⟩ | ⟨g, cap, cur, rfl, _⟩
      · exact .inl rfl
      · exact .inr (fun e => by simp [Value.ownBlock] at e)
    | some r =>
      obtain ⟨cur, t, hh, h46, h9⟩ := hr r rfl
      exact .inr (own_blk_ne ho (show Blk W r t cur from hh) (by rcases he with rfl | rfl <;> (first | exact Ne.symm h46 | exact Ne.symm h9))))
  exact ⟨h.nl, h.nc, h.nm, key h.n (.inl rfl), h.xl, h.xc, h.xm, key h.x (.inr rfl)⟩
theorem NewSt.next {w W W' : World} {B : Nat} {L : List CsV} {v : Value} (h : NewSt w B L v W) (hb : Below W.heap.size W W') : NewSt w B L v W' :=
  ⟨h.below.trans (hb.mono h.size), Nat.le_trans h.size hb.size, own_keep h.own (below_grown (row := none) hb) (fun r e => by cases e), fun x hx => (h.subs x hx).kept (below_grown (row := none) hb) (fun r e => by cases e)⟩
theorem NewSt.rd {w W : World} {B : Nat} {L : List CsV} {A : Option Addr} {c : Nat} (h : NewSt w B L (.slice A L.length c) W) : RdCs W W.heap.size A L := fun hn => by
  obtain ⟨g, cap, hv, _, hlt⟩ := h.own.form hn
  have hA : A = some ⟨g, 0, none⟩ := by injection hv
  subst hA
  refine ⟨g, 0, rfl, hlt, fun i hi => ?_⟩
  obtain ⟨q0, q1, q2⟩ := cellsC_get L i hi
  have c0 := h.own.cells (g := g) rfl _ _ q0
  have c1 := h.own.cells (g := g) rfl _ _ q1
  have c2 := h.own.cells (g := g) rfl _ _ q2
  rw [add_none] at c0 c1 c2
  exact ⟨by simpa using c0, by simpa using c1, by simpa using c2, (h.subs _ (List.getElem_mem hi)).rd⟩
/-- one more. -/
theorem NewSt.step {w Wc wo : World} {B : Nat} {L : List CsV} {v v' : Value} {x : CsV} {o : Obj} (h : NewSt w B L v Wc) (hx : OwnCs Wc B x) (hown : wo.ownsRow B 29 3 v' (L.length + 1) (L.flatMap CsV.cells ++ x.cells)) (hg2 : (Wc.alloc o).grownBy wo v.ownBlock) : NewSt w B (L ++ [x]) v' wo := by
  have h1 := h.next (W' := Wc.alloc o) ((Below.refl _ _).alloc (Nat.le_refl _) _)
  have hx1 := hx.kept (World.grownBy_alloc Wc o none) (fun r e => by cases e)
  have hr : ∀ r, v.ownBlock = some r → ∃ cur t, (Wc.alloc o).heap[r]? = some (.cells cur t (0, 0)) ∧ t ≠ 32 ∧ t ≠ 9 := fun r e => by
    rcases h1.own.2 with ⟨rfl, _⟩ | ⟨g, cap, cur, rfl, _, hh, _⟩
    · cases e
    · simp [Value.ownBlock] at e
      subst e
      exact ⟨cur, 29, hh, by decide, by decide⟩
  refine ⟨h1.below.grown hg2 h1.size (fun g hg => (h1.own.lt g hg).1), Nat.le_trans h1.size hg2.size, by simpa using hown, fun y hy => ?_⟩
  rcases List.mem_append.1 hy with hy | hy
  · exact (h1.subs y hy).kept hg2 hr
  · simp at hy; subst hy; exact hx1.kept hg2 hr
end Go.Proofs.YtknojjlfgjkbiaaGreatDoor
