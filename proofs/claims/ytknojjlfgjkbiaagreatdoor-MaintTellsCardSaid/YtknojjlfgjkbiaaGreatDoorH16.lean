/- Texts G0 G1 G2, joined. -/
import Derived.Laws.StructEq
import Derived.Test.YtknojjlfgjkbiaaGreatDoorH15
set_option linter.unusedSimpArgs false
set_option linter.unusedVariables false
set_option linter.unusedSectionVars false
/- The desk: whether it is made; Accused; Report. -/
namespace Go.Proofs.YtknojjlfgjkbiaaGreatDoor
open Go.ChangeShapes Go.WideShapes Go.ChangeAt Go.RowKit
attribute [local go_sem] Oper.semAt_some

set_option maxRecDepth 100000 in
theorem made_nil (w : World) : Calls Tryz.prog 43 #[.pointer none] w fun e w' => e = .returned (.bool false) ∧ w = w' := by
  go_enter Tryz.func43, Tryz.ntmps43
  go_wp2
  go_ret
  exact ⟨rfl, rfl⟩
set_option maxRecDepth 100000 in
theorem made_c (g : Nat) (A : Option Addr) (n c : Nat) (mv : Option Nat) (w : World) (h : Blk w g 95 #[.slice A n c, .map mv]) : Calls Tryz.prog 43 #[.pointer (some ⟨g, 0, none⟩)] w fun e w' => e = .returned (.bool mv.isSome) ∧ w = w' := by
  have c1 : w.cell? ⟨g, 1, none⟩ = some (.map mv) := h.cell 1
  have hq : ∀ W, (binOp .neq 83 (.map mv) (.map none)).run Tryz.prog W = .ok (.bool mv.isSome) W := fun W => by
    have := run_neq_map_nil (P := Tryz.prog) (w := W) (t := 83) (k := 32) (e := 3) mv Tryz.underlying83
    rw [this]; cases mv <;> rfl
  go_enter Tryz.func43, Tryz.ntmps43
  go_wp2
  go_ret
  exact ⟨rfl, rfl⟩
/-- a desk that New did not return. -/
def NoDesk (p : Option Addr) (w : World) : Prop := ∀ W, Below w.heap.size w W → Calls Tryz.prog 43 #[.pointer p] W fun e w' => e = .returned (.bool false) ∧ W = w'
theorem noDesk_nil (w : World) : NoDesk none w := fun W _ => made_nil W
theorem noDesk_empty (g : Nat) (A : Option Addr) (n c : Nat) (w : World) (h : Blk w g 95 #[.slice A n c, .map none]) : NoDesk (some ⟨g, 0, none⟩) w := fun W hW => made_c g A n c none W (h.below hW h.lt)
set_option maxRecDepth 100000 in
theorem no_accused (p : Option Addr) (w : World) (h : NoDesk p w) : Calls Tryz.prog 18 #[.pointer p] w fun e w' => e = .returned (.slice none 0 0) ∧ w = w' := by
  have H := Lib.hid (h w (Below.refl _ _))
  clear h
  go_enter Tryz.func18, Tryz.ntmps18
  go_wp2_with (go_at_call 43; refine H.out.mono ?_; rintro e w' ⟨rfl, rfl⟩)
  go_ret
  exact ⟨rfl, rfl⟩
set_option maxRecDepth 100000 in
theorem no_report (p : Option Addr) (r : Rep) (w : World) (h : NoDesk p w) : Calls Tryz.prog 14 #[.pointer p, r.val] w fun e w' => e = .returned (.int .i64 1) ∧ Below w.heap.size w w' := by
  have H := Lib.hid (h (w.alloc (.cells #[.string r.unit, .int .i64 r.code] 32)) ((Below.refl _ _).alloc (Nat.le_refl _) _))
  clear h
  go_enter Tryz.func14, Tryz.ntmps14
  go_wp2_with (go_at_call 43; refine H.out.mono ?_; rintro e w' ⟨rfl, rfl⟩)
  go_ret
  exact ⟨rfl, (Below.refl _ _).alloc (Nat.le_refl _) _⟩
set_option maxRecDepth 100000 in
theorem no_replace (p : Option Addr) (u : ByteArray) (w : World) (h : NoDesk p w) : Calls Tryz.prog 15 #[.pointer p, .string u] w fun e w' => e = .returned (.tuple #[.int .i64 0, .int .i64 1]) ∧ w = w' := by
  have H := Lib.hid (h w (Below.refl _ _))
  clear h
  go_enter Tryz.func15, Tryz.ntmps15
  go_wp2_with (go_at_call 43; refine H.out.mono ?_; rintro e w' ⟨rfl, rfl⟩)
  refine bodyPost_ret (results_tmp2 rfl _ _ _) rfl ?_
  exact ⟨rfl, rfl⟩
end Go.Proofs.YtknojjlfgjkbiaaGreatDoor
/- The desk that New returned: Accused. -/
namespace Go.Proofs.YtknojjlfgjkbiaaGreatDoor
open Go.ChangeShapes Go.WideShapes Go.ChangeAt Go.RowKit
attribute [local go_sem] Oper.semAt_some

set_option maxRecDepth 100000 in
set_option maxHeartbeats 1000000 in
theorem deskAcc_c (L : List CsV) (reps : List Rep) (g mb : Nat) (A : Option Addr) (c : Nat) (w : World) (hg : Blk w g 95 #[.slice A L.length c, .map (some mb)]) (h : RdCs w w.heap.size A L) (ok : ∀ x ∈ L, OkC x.c) (hl : L.length ≤ 100000) (hm : CntMap KR w mb reps) (hk : okV (csOf L) = true) :
    Calls Tryz.prog 18 #[.pointer (some ⟨g, 0, none⟩)] w fun e w' => ∃ A' c', e = .returned (.slice A' (accV (csOf L) reps).length c') ∧ RdStr w' w'.heap.size A' (accV (csOf L) reps) ∧ Below w.heap.size w w' := by
  have hmade := made_c g A L.length c (some mb) w hg
  have hac := accused_c L reps mb A c w.drew (h.to_ (Nat.le_refl _) fun _ _ _ => rfl) ok hl hm.drew
  have hHeld : w.drew.cell? ⟨g, 0, none⟩ = some (.slice A L.length c) ∧ w.drew.cell? ⟨g, 1, none⟩ = some (.map (some mb)) := ⟨hg.cell 0, hg.cell 1⟩
  have Hmade := Lib.hid hmade
  have Hac := Lib.hid hac
  have Hk := Lib.hid hk
  clear hg h ok hm hmade hac hk
  go_enter Tryz.func18, Tryz.ntmps18
  go_wp2_with (go_at_call 43; refine Hmade.out.mono ?_; rintro e w' ⟨rfl, rfl⟩)
  refine wp_region_S (fun W' => W'.cell? ⟨g, 0, none⟩ = some (.slice A L.length c) ∧ W'.cell? ⟨g, 1, none⟩ = some (.map (some mb))) 15 (by kernel_rfl) hHeld (fun hHeld => ?_)
  refine wpAnyS_take (i := 0) (v := ?_) rfl (by kernel_rfl) (by kernel_rfl) (by kernel_rfl) (by kernel_rfl) (fun c a w h => h) (Or.inl ⟨by rfl, ?_⟩) hHeld ?_
  rotate_left
  · intro w hSw
    (try obtain ⟨hSw1, hSw2⟩ := hSw)
    go_simp
    first | done | with_reducible rfl
  simp only [Act.put, List.setIfInBounds_toArray, List.set_cons_zero, List.set_cons_succ]
  refine wpAnyS_take (i := 1) (v := ?_) rfl (by kernel_rfl) (by kernel_rfl) (by kernel_rfl) (by kernel_rfl) (fun c a w h => h) (Or.inl ⟨by rfl, ?_⟩) hHeld ?_
  rotate_left
  · intro w hSw
    (try obtain ⟨hSw1, hSw2⟩ := hSw)
    go_simp
    first | done | with_reducible rfl
  simp only [Act.put, List.setIfInBounds_toArray, List.set_cons_zero, List.set_cons_succ]
  refine wpAnyS_take (i := 2) (v := ?_) rfl (by kernel_rfl) (by kernel_rfl) (by kernel_rfl) (by kernel_rfl) (fun c a w h => h) (Or.inl ⟨by rfl, ?_⟩) hHeld ?_
  rotate_left
  · intro w hSw
    (try obtain ⟨hSw1, hSw2⟩ := hSw)
    go_simp
    first | done | with_reducible rfl
  simp only [Act.put, List.setIfInBounds_toArray, List.set_cons_zero, List.set_cons_succ]
  refine wpAnyS_take (i := 3) (v := ?_) rfl (by kernel_rfl) (by kernel_rfl) (by kernel_rfl) (by kernel_rfl) (fun c a w h => h) (Or.inl ⟨by rfl, ?_⟩) hHeld ?_
  rotate_left
  · intro w hSw
    (try obtain ⟨hSw1, hSw2⟩ := hSw)
    go_simp
    first | done | with_reducible rfl
  simp only [Act.put, List.setIfInBounds_toArray, List.set_cons_zero, List.set_cons_succ]
  refine wpAnyS_take (i := 4) (v := ?_) rfl (by kernel_rfl) (by kernel_rfl) (by kernel_rfl) (by kernel_rfl) (fun c a w h => h) (Or.inl ⟨by rfl, ?_⟩) hHeld ?_
  rotate_left
  · intro w hSw
    (try obtain ⟨hSw1, hSw2⟩ := hSw)
    go_simp
    first | done | with_reducible rfl
  simp only [Act.put, List.setIfInBounds_toArray, List.set_cons_zero, List.set_cons_succ]
  refine wpAnyS_take (i := 5) (v := ?_) rfl (by kernel_rfl) (by kernel_rfl) (by kernel_rfl) (by kernel_rfl) (fun c a w h => h) (Or.inl ⟨by rfl, ?_⟩) hHeld ?_
  rotate_left
  · intro w hSw
    (try obtain ⟨hSw1, hSw2⟩ := hSw)
    go_simp
    first | done | with_reducible rfl
  simp only [Act.put, List.setIfInBounds_toArray, List.set_cons_zero, List.set_cons_succ]
  refine wpAnyS_take (i := 6) (v := ?_) rfl (by kernel_rfl) (by kernel_rfl) (by kernel_rfl) (by kernel_rfl) (fun c a w h => h) (Or.inl ⟨by rfl, ?_⟩) hHeld ?_
  rotate_left
  · intro w hSw
    (try obtain ⟨hSw1, hSw2⟩ := hSw)
    go_simp
    first | done | with_reducible rfl
  simp only [Act.put, List.setIfInBounds_toArray, List.set_cons_zero, List.set_cons_succ]
  refine wpAnyS_take (i := 7) (v := ?_) rfl (by kernel_rfl) (by kernel_rfl) (by kernel_rfl) (by kernel_rfl) (fun c a w h => h) (Or.inl ⟨by rfl, ?_⟩) hHeld ?_
  rotate_left
  · intro w hSw
    (try obtain ⟨hSw1, hSw2⟩ := hSw)
    go_simp
    first | done | with_reducible rfl
  simp only [Act.put, List.setIfInBounds_toArray, List.set_cons_zero, List.set_cons_succ]
  refine wpAnyS_ready (rs := [8]) (by kernel_rfl) (by simp) ?_
  refine AllReadyS.cons rfl (fun K hK => ?_) AllReadyS.nil
  go_simp
  refine Hac.out.mono ?_
  rintro e w5 ⟨hb5, he⟩
  rw [Hk.out] at he
  simp only [if_true] at he
  obtain ⟨A', c', b', rfl, hrd, hm'⟩ := he
  have hc5 := fun (p : Addr) (x : Value) (hp : w.drew.cell? p = some x) => (hb5.cell (p := p) (World.block_lt_of_cell? _ _ hp)).trans hp
  have hHeld5 := And.intro (hc5 _ _ hHeld.1) (hc5 _ _ hHeld.2)
  have hbb : Below w.heap.size w w5 := ⟨hb5.os, hb5.tape, hb5.output, hb5.size, hb5.block⟩
  have HR := Lib.hid (And.intro hrd hbb)
  refine hK.out _ _ (fun _ => hHeld5) ?_
  clear hK hc5 hbb hrd hm' hb5 Hac
  refine wpAnyS_takeT (i := 9) (v := ?_) rfl (by kernel_rfl) (by kernel_rfl) (by kernel_rfl) (by decide) (fun c a w h => h) (Or.inl ⟨by rfl, ?_⟩) hHeld5 ?_
  rotate_left
  · intro w hSw
    go_simp
    first | done | with_reducible rfl
  simp only [Act.put, List.setIfInBounds_toArray, List.set_cons_zero, List.set_cons_succ]
  refine wpAnyS_takeT (i := 10) (v := ?_) rfl (by kernel_rfl) (by kernel_rfl) (by kernel_rfl) (by decide) (fun c a w h => h) (Or.inl ⟨by rfl, ?_⟩) hHeld5 ?_
  rotate_left
  · intro w hSw
    go_simp
    first | done | with_reducible rfl
  simp only [Act.put, List.setIfInBounds_toArray, List.set_cons_zero, List.set_cons_succ]
  refine wpAnyS_takeT (i := 11) (v := ?_) rfl (by kernel_rfl) (by kernel_rfl) (by kernel_rfl) (by decide) (fun c a w h => h) (Or.inl ⟨by rfl, ?_⟩) hHeld5 ?_
  rotate_left
  · intro w hSw
    go_simp
    first | done | with_reducible rfl
  simp only [Act.put, List.setIfInBounds_toArray, List.set_cons_zero, List.set_cons_succ]
  refine wpAnyS_takeT (i := 12) (v := ?_) rfl (by kernel_rfl) (by kernel_rfl) (by kernel_rfl) (by decide) (fun c a w h => h) (Or.inl ⟨by rfl, ?_⟩) hHeld5 ?_
  rotate_left
  · intro w hSw
    go_simp
    first | done | with_reducible rfl
  simp only [Act.put, List.setIfInBounds_toArray, List.set_cons_zero, List.set_cons_succ]
  refine wpAnyS_ready (rs := [13]) (by kernel_rfl) (by simp) ?_
  refine AllReadyS.cons rfl (fun K hK => ?_) AllReadyS.nil
  go_simp
  refine hK.out _ _ (fun _ => hHeld5) ?_
  clear hK
  refine wpAnyS_ready (rs := [14]) (by kernel_rfl) (by simp) ?_
  refine AllReadyS.cons rfl (fun K hK => ?_) AllReadyS.nil
  go_simp
  refine hK.out _ _ (fun _ => hHeld5) ?_
  clear hK
  refine wpAnyS_ready (rs := [15]) (by kernel_rfl) (by simp) ?_
  refine AllReadyS.cons rfl (fun K hK => ?_) AllReadyS.nil
  go_simp
  refine hK.out _ _ (fun h => absurd h (by decide)) ?_
  clear hK
  refine wpAnyS_done (by kernel_rfl) ?_ _
  go_wp2_with fail
  go_ret
  exact ⟨A', c', rfl, HR.out⟩
end Go.Proofs.YtknojjlfgjkbiaaGreatDoor
/- slices.Contains at reports. -/
namespace Go.Proofs.YtknojjlfgjkbiaaGreatDoor
open Go.ChangeShapes Go.WideShapes Go.ChangeAt Go.RowKit
attribute [local go_sem] Oper.semAt_some

set_option maxRecDepth 100000 in
theorem rep_eql (r x : Rep) (W : World) : (binOp .eql 32 (.agg #[.string r.unit, .int .i64 r.code]) (.agg #[.string x.unit, .int .i64 x.code])).run Tryz.prog W = .ok (.bool (decide (r = x))) W := by
  have hu : Tryz.prog.underlying 32 = some (.struct (Tryz.prog.fieldsOf 32)) := by kernel_rfl
  have hp : Tryz.prog.stoodInHeld 32 = false := by kernel_rfl
  have h2 := Tryz.underlying9
  have h3 := Tryz.underlying3
  rw [run_eql_struct, run_equalIn_struct W 9999 32 _ _ hu hp]
  have hf : (Tryz.prog.fieldsOf 32).toList = (match Tryz.prog.underlying 32 with | some (.struct fs) => fs.toList | _ => []) := by rw [hu]
  rw [hf, Tryz.underlying32]
  have e1 : (Op.equalIn 9999 9 (.string r.unit) (.string x.unit)).run Tryz.prog W = .ok (r.unit.toList == x.unit.toList) W := run_equalIn_string W 9998 9 _ _ h2
  have e2 : (Op.equalIn 9999 3 (.int .i64 r.code) (.int .i64 x.code)).run Tryz.prog W = .ok (r.code == x.code) W := run_equalIn_int W 9998 3 .i64 .i64 _ _ h3
  have q9 : ∀ (cs : Array Value) (off : Nat) (v : Value), cs[off]? = some v → (part 9 cs off).run Tryz.prog W = .ok v W := fun cs off v h => by simp [part, Go.Proofs.Tryz.isAgg9, h, Result.andThen]
  have q3 : ∀ (cs : Array Value) (off : Nat) (v : Value), cs[off]? = some v → (part 3 cs off).run Tryz.prog W = .ok v W := fun cs off v h => by simp [part, Go.Proofs.Tryz.isAgg3, h, Result.andThen]
  have b1 := q9 #[.string r.unit, .int .i64 r.code] 0 _ rfl
  have b2 := q9 #[.string x.unit, .int .i64 x.code] 0 _ rfl
  have b3 := q3 #[.string r.unit, .int .i64 r.code] 1 _ rfl
  have b4 := q3 #[.string x.unit, .int .i64 x.code] 1 _ rfl
  clear q9 q3 hf hu hp h2 h3
  obtain ⟨ru, rc⟩ := r
  obtain ⟨xu, xc⟩ := x
  simp only at *
  by_cases h : ru = xu
  · subst h
    rw [str_eq rfl] at e1
    by_cases h2 : rc = xc
    · subst h2
      have e3 : (rc == rc) = true := by simp
      rw [e3] at e2
      simp [Op.eqFields, b1, b2, b3, b4, e1, e2, Result.andThen]
    · have e3 : (rc == xc) = false := by simpa using h2
      rw [e3] at e2
      simp [Op.eqFields, b1, b2, b3, b4, e1, e2, Result.andThen, h2]
  · rw [str_ne h] at e1
    simp [Op.eqFields, b1, b2, b3, b4, e1, e2, Result.andThen, h]
theorem rep_guard (r x : Rep) (a b : Operand) (W : World) : (eqGuard .eql 32 a b (.agg #[.string r.unit, .int .i64 r.code]) (.agg #[.string x.unit, .int .i64 x.code])).run Tryz.prog W = .ok () W := run_eqGuard_agg W .eql 32 a b _ _ (by kernel_rfl)

theorem only_below {B n : Nat} {w w' : World} (h : Below B w w') : Below B w (w'.drewN n) := ⟨h.os, h.tape, h.output, h.size, h.block⟩
set_option maxRecDepth 100000 in
theorem index57 (l : List Rep) (r : Rep) (A : Option Addr) (c : Nat) (w : World) (h : RdRep w w.heap.size A l) (hl : l.length ≤ 9223372036854775807) :
    Calls Tryz.prog 85 #[.slice A l.length c, r.val] w fun e w' => e = .returned (.int .i64 (idxI (fun x => decide (r = x)) l)) ∧ Below w.heap.size w w' := by
  have hq := fun x W => rep_eql r x W
  have hg := fun x a b W => rep_guard r x a b W
  have hB := Blk.new w 32 #[.string r.unit, .int .i64 r.code]
  have H := Lib.hid h
  have HB := Lib.hid hB
  clear h hB
  go_enter Tryz.func85, Tryz.ntmps85
  go_wp2
  go_loopw [5, 8] (fun _ i wr => ∃ k : Nat, k ≤ l.length ∧ i = .int .i64 k ∧ Below (w.heap.size + 1) (w.alloc (.cells #[.string r.unit, .int .i64 r.code] 32)) wr ∧ Hid (∀ j (h : j < l.length), j < k → decide (r = l[j]) = false)) (fun _ i _ => l.length - (intOf i).toNat)
  case atStart => exact ⟨0, Nat.zero_le _, rfl, Below.refl _ _, fun j _ h => absurd h (by omega)⟩
  case round =>
    obtain ⟨k, hk, rfl, hb, hall⟩ := hrel
    have hwb : Below w.heap.size w wr := ((Below.refl _ w).alloc (Nat.le_refl _) (.cells #[.string r.unit, .int .i64 r.code] 32)).trans (hb.mono (by omega))
    by_cases hlt : k < l.length
    · obtain ⟨b, o, rfl, hbb, hc⟩ := H.out.keep hwb (by omega)
      have hck := hc k hlt
      have hbx := HB.out.below hb (by omega)
      have b0 : wr.cell? ⟨w.heap.size, 0, none⟩ = some (.string r.unit) := hbx.cell 0
      have b1 : wr.cell? ⟨w.heap.size, 1, none⟩ = some (.int .i64 r.code) := hbx.cell 1
      have hfin : decide (r = l[k]) = true → idxI (fun x => decide (r = x)) l = k := fun hq => idxI_hit (p := fun x => decide (r = x)) hlt hq hall.out
      have hnext : decide (r = l[k]) = false → ∀ j (h : j < l.length), j < k + 1 → decide (r = l[j]) = false := fun hq => forall_succ (p := fun x => decide (r = x) = false) hall.out hq
      have hqk := hq l[k]
      have hgk := hg l[k]
      have Hfin := Lib.hid hfin
      have Hnext := Lib.hid hnext
      have Hb := Lib.hid hb
      have HW := Lib.hid hwb
      obtain ⟨c0, c1⟩ := hck
      clear hfin hnext hall hc hbx hb hwb hq hg
      generalize l[k] = x at *
      cases he : decide (r = x) with
      | true =>
        have hfin := Lib.hid (Hfin.out he)
        rw [he] at hqk
        clear Hfin Hnext he
        go_wp2_with fail
        go_quiet (fail)
        go_wp2_with fail
        go_ret
        exact ⟨ret_int hfin.out.symm, only_below HW.out⟩
      | false =>
        have hnext := Lib.hid (Hnext.out he)
        rw [he] at hqk
        clear Hfin Hnext he
        go_wp2_with fail
        go_quiet (fail)
        go_wp2_with fail
        go_roundw
        case rel => exact ⟨k + 1, by omega, by go_num, only_below Hb.out, hnext⟩
        case measure => simp [intOf]; omega
    · clear hq hg
      go_wp2
      go_ret
      exact ⟨ret_int (idxI_miss (p := fun x => decide (r = x)) fun j hj => hall.out j hj (by omega)).symm, hwb⟩
theorem contains39 (l : List Rep) (r : Rep) (A : Option Addr) (c : Nat) (w : World) (h : RdRep w w.heap.size A l) (hl : l.length ≤ 9223372036854775807) :
    Calls Tryz.prog 46 #[.slice A l.length c, r.val] w fun e w' => e = .returned (.bool (l.any fun x => decide (r = x))) ∧ Below w.heap.size w w' := by
  have hI := index57 l r A c (w.alloc (.cells #[.string r.unit, .int .i64 r.code] 32)) (h.below ((Below.refl _ _).alloc (Nat.le_refl _) _)) hl
  rw [← idxI_ge]
  generalize idxI (fun x => decide (r = x)) l = q at hI ⊢
  have HI := Lib.hid hI
  clear hI h
  go_enter Tryz.func46, Tryz.ntmps46
  go_wp2_with fail
  refine HI.out.mono ?_
  rintro e w1 ⟨rfl, hb1⟩
  have HB := Lib.hid (((Below.refl _ w).alloc (Nat.le_refl _) (.cells #[.string r.unit, .int .i64 r.code] 32)).trans (hb1.mono (by simp)))
  clear HI hb1
  go_wp2
  go_ret
  exact ⟨rfl, HB.out⟩
end Go.Proofs.YtknojjlfgjkbiaaGreatDoor
