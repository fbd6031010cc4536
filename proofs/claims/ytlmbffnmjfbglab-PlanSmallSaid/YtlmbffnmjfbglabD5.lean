/- Marks, and functions that lend flat slices. Printed by wip/tools/gen/lentflat.py. -/
import Derived.Test.YtlmbffnmjfbglabD4
set_option linter.unusedSimpArgs false
set_option linter.unusedVariables false
namespace Go.Proofs.Ytlmbffnmjfbglab
open Go.ChangeShapes Go.WideShapes Go.ChangeAt Go.RowKit Go.Deep

theorem infoZ128 : (Try.prog.info? 128).map (fun i => (i.zero, i.size, i.bytes)) = some (some (.agg #[.string ⟨#[]⟩, .int .u8 0, .bool false, .int .i64 0, .int .i64 0, .int .i64 0]), 6, 48) := by kernel_rfl
theorem markPort_c (i : Nat) (w : World) (h1 : i ≤ 1000000) : Calls Try.prog 107 #[.int .i64 1, .int .i64 i] w fun e w' => e = .returned (.agg #[.string ⟨#[]⟩, .int .u8 0, .bool false, .int .i64 (markI i), .int .i64 0, .int .i64 0]) ∧ Below w.heap.size w w' := by
  have hI := fun W => mark_c i W (by omega) (by omega)
  have hb0 := Blk.new w 128 #[.string ⟨#[]⟩, .int .u8 0, .bool false, .int .i64 0, .int .i64 0, .int .i64 0]
  go_enter Try.func107, Try.ntmps107
  go_wp2_with (go_at_call 70; refine (hI _).mono ?_; rintro e w' ⟨rfl, rfl⟩)
  refine bodyPost_ret (v := .agg #[.string ⟨#[]⟩, .int .u8 0, .bool false, .int .i64 (8000024 + i), .int .i64 0, .int .i64 0]) (by simp [results, Try.results107, go_sem]) rfl ⟨rfl, ?_⟩
  exact (Below.refl _ _).alloc (Nat.le_refl _) _

theorem infoZ158 : (Try.prog.info? 158).map (fun i => (i.zero, i.size, i.bytes)) = some (some (.agg #[.int .u8 0, .int .i64 0, .int .i64 0, .int .i64 0]), 4, 32) := by kernel_rfl
theorem markIns_c (i : Nat) (w : World) (h1 : i ≤ 1000000) : Calls Try.prog 132 #[.int .i64 1, .int .i64 i] w fun e w' => e = .returned (.agg #[.int .u8 0, .int .i64 (markI i), .int .i64 0, .int .i64 0]) ∧ Below w.heap.size w w' := by
  have hI := fun W => mark_c i W (by omega) (by omega)
  have hb0 := Blk.new w 158 #[.int .u8 0, .int .i64 0, .int .i64 0, .int .i64 0]
  go_enter Try.func132, Try.ntmps132
  go_wp2_with (go_at_call 70; refine (hI _).mono ?_; rintro e w' ⟨rfl, rfl⟩)
  refine bodyPost_ret (v := .agg #[.int .u8 0, .int .i64 (8000024 + i), .int .i64 0, .int .i64 0]) (by simp [results, Try.results132, go_sem]) rfl ⟨rfl, ?_⟩
  exact (Below.refl _ _).alloc (Nat.le_refl _) _

theorem infoZ132 : (Try.prog.info? 132).map (fun i => (i.zero, i.size, i.bytes)) = some (some (.agg #[.string ⟨#[]⟩, .int .i64 0, .int .i64 0, .int .i64 0, .slice none 0 0]), 5, 64) := by kernel_rfl
theorem markProc_c (i : Nat) (w : World) (h1 : i ≤ 1000000) : Calls Try.prog 109 #[.int .i64 1, .int .i64 i] w fun e w' => e = .returned (.agg #[.string ⟨#[]⟩, .int .i64 (markI i), .int .i64 0, .int .i64 0, .slice none 0 0]) ∧ Below w.heap.size w w' := by
  have hI := fun W => mark_c i W (by omega) (by omega)
  have hb0 := Blk.new w 132 #[.string ⟨#[]⟩, .int .i64 0, .int .i64 0, .int .i64 0, .slice none 0 0]
  go_enter Try.func109, Try.ntmps109
  go_wp2_with (go_at_call 70; refine (hI _).mono ?_; rintro e w' ⟨rfl, rfl⟩)
  refine bodyPost_ret (v := .agg #[.string ⟨#[]⟩, .int .i64 (8000024 + i), .int .i64 0, .int .i64 0, .slice none 0 0]) (by simp [results, Try.results109, go_sem]) rfl ⟨rfl, ?_⟩
  exact (Below.refl _ _).alloc (Nat.le_refl _) _

theorem infoZ56 : (Try.prog.info? 56).map (fun i => (i.zero, i.size, i.bytes)) = some (some (.agg #[.string ⟨#[]⟩, .int .i64 0, .int .i64 0, .int .i64 0, .slice none 0 0, .int .i64 0, .int .i64 0, .slice none 0 0, .slice none 0 0, .slice none 0 0]), 10, 152) := by kernel_rfl
theorem markPart_c (i : Nat) (w : World) (h1 : i ≤ 1000000) : Calls Try.prog 82 #[.int .i64 1, .int .i64 i] w fun e w' => e = .returned (.agg #[.string ⟨#[]⟩, .int .i64 (markI i), .int .i64 0, .int .i64 0, .slice none 0 0, .int .i64 0, .int .i64 0, .slice none 0 0, .slice none 0 0, .slice none 0 0]) ∧ Below w.heap.size w w' := by
  have hI := fun W => mark_c i W (by omega) (by omega)
  have hb0 := Blk.new w 56 #[.string ⟨#[]⟩, .int .i64 0, .int .i64 0, .int .i64 0, .slice none 0 0, .int .i64 0, .int .i64 0, .slice none 0 0, .slice none 0 0, .slice none 0 0]
  go_enter Try.func82, Try.ntmps82
  go_wp2_with (go_at_call 70; refine (hI _).mono ?_; rintro e w' ⟨rfl, rfl⟩)
  refine bodyPost_ret (v := .agg #[.string ⟨#[]⟩, .int .i64 (8000024 + i), .int .i64 0, .int .i64 0, .slice none 0 0, .int .i64 0, .int .i64 0, .slice none 0 0, .slice none 0 0, .slice none 0 0]) (by simp [results, Try.results82, go_sem]) rfl ⟨rfl, ?_⟩
  exact (Below.refl _ _).alloc (Nat.le_refl _) _

theorem markInt_c (i : Nat) (w : World) (h1 : i ≤ 1000000) : Calls Try.prog 70 #[.int .i64 1, .int .i64 i] w fun e w' => e = .returned (.int .i64 (markI i)) ∧ Below w.heap.size w w' :=
  (mark_c i w (by omega) (by omega)).mono fun _ _ h => ⟨h.1, h.2 ▸ Below.refl _ _⟩
/-- a call lends a datum. -/
def LentGPost (w : World) (x : G) (e : Ending) (w' : World) : Prop := ∃ V, e = .returned V ∧ G.ld KM w' (MadeQ w.heap.size w') V x ∧ Below w.heap.size w w'

set_option maxRecDepth 100000 in
set_option maxHeartbeats 4000000 in
theorem lentInts_c (l : List (List G)) (v : Value) (w : World) (hcf : G.cf KS KN (.sl 0) (.row 0 l)) (h : G.rdW w v (.row 0 l)) : Calls Try.prog 48 #[v] w (LentGPost w (.row 0 l)) := by
  obtain ⟨i0, hi0, hz0, hz1, hz2⟩ := info_parts info3
  simp only [G.cf] at hcf
  obtain ⟨_, hlen, hcR⟩ := hcf
  have hlen : l.length ≤ 17592186043904 := hlen
  have hflat : ∀ k ∈ KS 0, k.flat = true := by decide
  obtain ⟨A, c, rfl, hread⟩ := reads_flat hflat (by decide) hcR h
  have hread : Reads w w.heap.size 1 A l.length (valsG l).flatten := hread
  have hone := valsG_one hflat hcR
  have hmk : ∀ W, (Instr.makeSlice 28 (.int .i64 0) (.int .i64 ((l.length : Int) + 12))).run Try.prog W = .ok (.slice (some ⟨W.heap.size, 0, none⟩) 0 (l.length + 12)) (W.alloc (.cells (madeCells #[.int .i64 0] (l.length + 12)) 3)) := fun W => by
    have e := run_make_rowN (P := Try.prog) 28 3 i0 _ Try.underlying28 hi0 hz0 .i64 .i64 0 (l.length + 12) (by omega) (by rw [hz2]; omega) (by omega) W
    rw [hz1] at e
    simpa [Value.cells] using e
  have hwr := IntWalk.i64_in ((l.length : Int) + 12) (by omega)
  obtain ⟨W1, hW1⟩ : ∃ W1, W1 = w.alloc (.cells (madeCells #[.int .i64 0] (l.length + 12)) 3) := ⟨_, rfl⟩
  have hB1 : Below w.heap.size w W1 := by rw [hW1]; exact (Below.refl _ w).alloc (Nat.le_refl _) _
  have hown1 : W1.ownsRow w.heap.size 3 1 (.slice (some ⟨w.heap.size, 0, none⟩) 0 (l.length + 12)) 0 [] := by rw [hW1]; exact World.ownsRow_made _ _ (l.length + 12) (Nat.le_refl _) (by simp [maxLen]; omega) (by simp [size_madeCells])
  have hread1 : Reads W1 w.heap.size 1 A l.length (valsG l).flatten := by rw [hW1]; exact hread.alloc (Nat.le_refl _) _
  have hgv : ∀ (W : World) (Q : Nat → Prop), GVL KM 1 W Q (valsG l) l := fun W Q => GVL_flat (S := KS) (t := 0) hflat hcR
  have Hgv := Lib.hid hgv
  have HW1 := Lib.hid hW1
  have HB1 := Lib.hid hB1
  have Hread := Lib.hid hread1
  have Hone := Lib.hid hone
  have Hown := Lib.hid hown1
  clear hread hread1 hone h hcR hflat hgv hW1 hB1 hown1
  go_enter Try.func48, Try.ntmps48
  go_wp2_with (at_builtin; rw [← HW1.out]; refine wpList_append_any _ rfl _ _ 28 rfl w.heap.size 3 i0 (.int .i64 0) 1 8 Try.underlying28 hi0 hz0 hz1 hz2 rfl (by decide) _ 0 [] rfl Hown.out w.heap.size A l.length c (valsG l).flatten rfl Hread.out Hone.out ?c3 ?c4 ?c5 ?_)
  case c3 => unfold maxLen; omega
  case c4 => omega
  case c5 => exact HB1.out.size
  intro v' w2 hown2 hgrow hwhere
  have hB : Below w.heap.size w w2 := HB1.out.grown hgrow HB1.out.size (fun k hk => by simp [Value.ownBlock] at hk; omega)
  have hown2 : w2.ownsRow w.heap.size 3 1 v' l.length (valsG l).flatten := by simpa using hown2
  have hGR : GR KM 0 1 3 w.heap.size w2 v' l (valsG l) 0 := ⟨by simpa using hown2, Hgv.out _ _⟩
  have HGR := Lib.hid hGR
  clear hGR hgrow hwhere Hread Hone hmk hown2 Hown HW1 HB1 Hgv
  go_wp2_with fail
  go_loopw [3, 4] (fun v i wr => ∃ k : Nat, k ≤ 12 ∧ i = .int .i64 k ∧ Below w.heap.size w wr ∧ Hid (GR KM 0 1 3 w.heap.size wr v l (valsG l) k)) (fun _ i _ => 12 - (intOf i).toNat)
  case atStart => exact ⟨0, by omega, rfl, hB, HGR.out⟩
  case round =>
    obtain ⟨k, hk, rfl, hBm, hLR⟩ := hrel
    by_cases hlt : k < 12
    · have hmark := markInt_c k wr (by omega)
      have hdj : decide ((k : Int) < 12) = true := decide_eq_true (by omega)
      have Hmark := Lib.hid hmark
      clear hmark HGR
      go_wp2_with fail
      refine Hmark.out.mono ?_
      rintro e w3 ⟨rfl, hb3⟩
      obtain ⟨X, hX⟩ : ∃ X, X = w3.alloc (.cells #[.int .i64 (markI k)] 3) := ⟨_, rfl⟩
      have hBX : Below w3.heap.size w3 X := by rw [hX]; exact (Below.refl _ _).alloc (Nat.le_refl _) _
      have hbT : Blk X w3.heap.size 3 #[.int .i64 (markI k)] := by rw [hX]; exact Blk.new w3 3 _
      have hBwX := hb3.trans (hBX.mono hb3.size)
      have hlr := hLR.out.below hBwX
      have hBr2 := hBm.trans (hBwX.mono hBm.size)
      have Hlr := Lib.hid hlr
      have HbT := Lib.hid hbT
      have HBX := Lib.hid hBr2
      have HX := Lib.hid hX
      clear hlr hbT hBr2 hLR hBwX hBX hb3 hX Hmark
      go_wp2_with (at_builtin; rw [← HX.out]; refine wpList_append_lies _ rfl _ _ 28 rfl w.heap.size 3 i0 _ 1 8 Try.underlying28 hi0 hz0 hz1 hz2 rfl (by decide) _ (l.length + k) _ rfl Hlr.out.own ⟨w3.heap.size, 0, none⟩ 1 1 (KM 0 k) rfl rfl (World.news_of_block HbT.out) (by simp [KM, Value.oneCell']) (by omega) (by unfold maxLen; omega) (by omega) HBX.out.size X.heap.size rfl ?_)
      intro g cap w4 hown hgrow hg hgl
      have hpush := Hlr.out.mark (V := .slice (some ⟨g, 0, none⟩) (l.length + k + 1) cap) hgrow (by rw [List.flatten_append, List.append_assoc]; exact hown) (by rcases hg with hg | hg; exact .inl hg.symm; exact .inr ⟨g, rfl, by omega⟩)
      have hB5 : Below w.heap.size w w4 := HBX.out.grown hgrow HBX.out.size (fun b hb => (Hlr.out.own.lt b hb).1)
      have HP := Lib.hid hpush
      clear hown hgrow hg hpush Hlr HbT HBX HX
      go_wp2_with fail
      go_roundw
      case rel => exact ⟨k + 1, by omega, by go_num, hB5, HP.out⟩
      case measure => simp [intOf]; omega
    · obtain rfl : k = 12 := by omega
      have hdj : decide (((12 : Nat) : Int) < 12) = false := by decide
      obtain ⟨g, cap, rfl, hld⟩ := hLR.out.fin (by decide) (fun i => rfl)
      have hcap : l.length + 12 ≤ cap := by
        have := hld
        simp only [G.ld] at this
        obtain ⟨g2, c2, e, h1, _⟩ := this
        injection e with _ _ e; omega
      have HF2 := Lib.hid hld
      clear hLR hld HGR
      go_wp2_with fail
      go_ret
      exact ⟨_, rfl, HF2.out, hBm⟩

set_option maxRecDepth 100000 in
set_option maxHeartbeats 4000000 in
theorem lentPorts_c (l : List (List G)) (v : Value) (w : World) (hcf : G.cf KS KN (.sl 2) (.row 2 l)) (h : G.rdW w v (.row 2 l)) : Calls Try.prog 96 #[v] w (LentGPost w (.row 2 l)) := by
  obtain ⟨i0, hi0, hz0, hz1, hz2⟩ := info_parts infoZ128
  simp only [G.cf] at hcf
  obtain ⟨_, hlen, hcR⟩ := hcf
  have hlen : l.length ≤ 2932031007317 := hlen
  have hflat : ∀ k ∈ KS 2, k.flat = true := by decide
  obtain ⟨A, c, rfl, hread⟩ := reads_flat hflat (by decide) hcR h
  have hread : Reads w w.heap.size 6 A l.length (valsG l).flatten := hread
  have hone := valsG_one hflat hcR
  have hmk : ∀ W, (Instr.makeSlice 53 (.int .i64 0) (.int .i64 ((l.length : Int) + 12))).run Try.prog W = .ok (.slice (some ⟨W.heap.size, 0, none⟩) 0 (l.length + 12)) (W.alloc (.cells (madeCells #[.string ⟨#[]⟩, .int .u8 0, .bool false, .int .i64 0, .int .i64 0, .int .i64 0] ((l.length + 12) * 6)) 128)) := fun W => by
    have e := run_make_rowN (P := Try.prog) 53 128 i0 _ Try.underlying53 hi0 hz0 .i64 .i64 0 (l.length + 12) (by omega) (by rw [hz2]; omega) (by omega) W
    rw [hz1] at e
    simpa [Value.cells] using e
  have hwr := IntWalk.i64_in ((l.length : Int) + 12) (by omega)
  obtain ⟨W1, hW1⟩ : ∃ W1, W1 = w.alloc (.cells (madeCells #[.string ⟨#[]⟩, .int .u8 0, .bool false, .int .i64 0, .int .i64 0, .int .i64 0] ((l.length + 12) * 6)) 128) := ⟨_, rfl⟩
  have hB1 : Below w.heap.size w W1 := by rw [hW1]; exact (Below.refl _ w).alloc (Nat.le_refl _) _
  have hown1 : W1.ownsRow w.heap.size 128 6 (.slice (some ⟨w.heap.size, 0, none⟩) 0 (l.length + 12)) 0 [] := by rw [hW1]; exact World.ownsRow_made _ _ (l.length + 12) (Nat.le_refl _) (by simp [maxLen]; omega) (by simp [size_madeCells])
  have hread1 : Reads W1 w.heap.size 6 A l.length (valsG l).flatten := by rw [hW1]; exact hread.alloc (Nat.le_refl _) _
  have hgv : ∀ (W : World) (Q : Nat → Prop), GVL KM 6 W Q (valsG l) l := fun W Q => GVL_flat (S := KS) (t := 2) hflat hcR
  have Hgv := Lib.hid hgv
  have HW1 := Lib.hid hW1
  have HB1 := Lib.hid hB1
  have Hread := Lib.hid hread1
  have Hone := Lib.hid hone
  have Hown := Lib.hid hown1
  clear hread hread1 hone h hcR hflat hgv hW1 hB1 hown1
  go_enter Try.func96, Try.ntmps96
  go_wp2_with (at_builtin; rw [← HW1.out]; refine wpList_append_any _ rfl _ _ 53 rfl w.heap.size 128 i0 (.agg #[.string ⟨#[]⟩, .int .u8 0, .bool false, .int .i64 0, .int .i64 0, .int .i64 0]) 6 48 Try.underlying53 hi0 hz0 hz1 hz2 rfl (by decide) _ 0 [] rfl Hown.out w.heap.size A l.length c (valsG l).flatten rfl Hread.out Hone.out ?c3 ?c4 ?c5 ?_)
  case c3 => unfold maxLen; omega
  case c4 => omega
  case c5 => exact HB1.out.size
  intro v' w2 hown2 hgrow hwhere
  have hB : Below w.heap.size w w2 := HB1.out.grown hgrow HB1.out.size (fun k hk => by simp [Value.ownBlock] at hk; omega)
  have hown2 : w2.ownsRow w.heap.size 128 6 v' l.length (valsG l).flatten := by simpa using hown2
  have hGR : GR KM 2 6 128 w.heap.size w2 v' l (valsG l) 0 := ⟨by simpa using hown2, Hgv.out _ _⟩
  have HGR := Lib.hid hGR
  clear hGR hgrow hwhere Hread Hone hmk hown2 Hown HW1 HB1 Hgv
  go_wp2_with fail
  go_loopw [3, 4] (fun v i wr => ∃ k : Nat, k ≤ 12 ∧ i = .int .i64 k ∧ Below w.heap.size w wr ∧ Hid (GR KM 2 6 128 w.heap.size wr v l (valsG l) k)) (fun _ i _ => 12 - (intOf i).toNat)
  case atStart => exact ⟨0, by omega, rfl, hB, HGR.out⟩
  case round =>
    obtain ⟨k, hk, rfl, hBm, hLR⟩ := hrel
    by_cases hlt : k < 12
    · have hmark := markPort_c k wr (by omega)
      have hdj : decide ((k : Int) < 12) = true := decide_eq_true (by omega)
      have Hmark := Lib.hid hmark
      clear hmark HGR
      go_wp2_with fail
      refine Hmark.out.mono ?_
      rintro e w3 ⟨rfl, hb3⟩
      obtain ⟨X, hX⟩ : ∃ X, X = w3.alloc (.cells #[.string ⟨#[]⟩, .int .u8 0, .bool false, .int .i64 (markI k), .int .i64 0, .int .i64 0] 128) := ⟨_, rfl⟩
      have hBX : Below w3.heap.size w3 X := by rw [hX]; exact (Below.refl _ _).alloc (Nat.le_refl _) _
      have hbT : Blk X w3.heap.size 128 #[.string ⟨#[]⟩, .int .u8 0, .bool false, .int .i64 (markI k), .int .i64 0, .int .i64 0] := by rw [hX]; exact Blk.new w3 128 _
      have hBwX := hb3.trans (hBX.mono hb3.size)
      have hlr := hLR.out.below hBwX
      have hBr2 := hBm.trans (hBwX.mono hBm.size)
      have Hlr := Lib.hid hlr
      have HbT := Lib.hid hbT
      have HBX := Lib.hid hBr2
      have HX := Lib.hid hX
      clear hlr hbT hBr2 hLR hBwX hBX hb3 hX Hmark
      go_wp2_with (at_builtin; rw [← HX.out]; refine wpList_append_lies _ rfl _ _ 53 rfl w.heap.size 128 i0 _ 6 48 Try.underlying53 hi0 hz0 hz1 hz2 rfl (by decide) _ (l.length + k) _ rfl Hlr.out.own ⟨w3.heap.size, 0, none⟩ 1 1 (KM 2 k) rfl rfl (World.news_of_block HbT.out) (by simp [KM, Value.oneCell']) (by omega) (by unfold maxLen; omega) (by omega) HBX.out.size X.heap.size rfl ?_)
      intro g cap w4 hown hgrow hg hgl
      have hpush := Hlr.out.mark (V := .slice (some ⟨g, 0, none⟩) (l.length + k + 1) cap) hgrow (by rw [List.flatten_append, List.append_assoc]; exact hown) (by rcases hg with hg | hg; exact .inl hg.symm; exact .inr ⟨g, rfl, by omega⟩)
      have hB5 : Below w.heap.size w w4 := HBX.out.grown hgrow HBX.out.size (fun b hb => (Hlr.out.own.lt b hb).1)
      have HP := Lib.hid hpush
      clear hown hgrow hg hpush Hlr HbT HBX HX
      go_wp2_with fail
      go_roundw
      case rel => exact ⟨k + 1, by omega, by go_num, hB5, HP.out⟩
      case measure => simp [intOf]; omega
    · obtain rfl : k = 12 := by omega
      have hdj : decide (((12 : Nat) : Int) < 12) = false := by decide
      obtain ⟨g, cap, rfl, hld⟩ := hLR.out.fin (by decide) (fun i => rfl)
      have hcap : l.length + 12 ≤ cap := by
        have := hld
        simp only [G.ld] at this
        obtain ⟨g2, c2, e, h1, _⟩ := this
        injection e with _ _ e; omega
      have HF2 := Lib.hid hld
      clear hLR hld HGR
      go_wp2_with fail
      go_ret
      exact ⟨_, rfl, HF2.out, hBm⟩

set_option maxRecDepth 100000 in
set_option maxHeartbeats 4000000 in
theorem lentInss_c (l : List (List G)) (v : Value) (w : World) (hcf : G.cf KS KN (.sl 1) (.row 1 l)) (h : G.rdW w v (.row 1 l)) : Calls Try.prog 124 #[v] w (LentGPost w (.row 1 l)) := by
  obtain ⟨i0, hi0, hz0, hz1, hz2⟩ := info_parts infoZ158
  simp only [G.cf] at hcf
  obtain ⟨_, hlen, hcR⟩ := hcf
  have hlen : l.length ≤ 4398046510976 := hlen
  have hflat : ∀ k ∈ KS 1, k.flat = true := by decide
  obtain ⟨A, c, rfl, hread⟩ := reads_flat hflat (by decide) hcR h
  have hread : Reads w w.heap.size 4 A l.length (valsG l).flatten := hread
  have hone := valsG_one hflat hcR
  have hmk : ∀ W, (Instr.makeSlice 130 (.int .i64 0) (.int .i64 ((l.length : Int) + 12))).run Try.prog W = .ok (.slice (some ⟨W.heap.size, 0, none⟩) 0 (l.length + 12)) (W.alloc (.cells (madeCells #[.int .u8 0, .int .i64 0, .int .i64 0, .int .i64 0] ((l.length + 12) * 4)) 158)) := fun W => by
    have e := run_make_rowN (P := Try.prog) 130 158 i0 _ Try.underlying130 hi0 hz0 .i64 .i64 0 (l.length + 12) (by omega) (by rw [hz2]; omega) (by omega) W
    rw [hz1] at e
    simpa [Value.cells] using e
  have hwr := IntWalk.i64_in ((l.length : Int) + 12) (by omega)
  obtain ⟨W1, hW1⟩ : ∃ W1, W1 = w.alloc (.cells (madeCells #[.int .u8 0, .int .i64 0, .int .i64 0, .int .i64 0] ((l.length + 12) * 4)) 158) := ⟨_, rfl⟩
  have hB1 : Below w.heap.size w W1 := by rw [hW1]; exact (Below.refl _ w).alloc (Nat.le_refl _) _
  have hown1 : W1.ownsRow w.heap.size 158 4 (.slice (some ⟨w.heap.size, 0, none⟩) 0 (l.length + 12)) 0 [] := by rw [hW1]; exact World.ownsRow_made _ _ (l.length + 12) (Nat.le_refl _) (by simp [maxLen]; omega) (by simp [size_madeCells])
  have hread1 : Reads W1 w.heap.size 4 A l.length (valsG l).flatten := by rw [hW1]; exact hread.alloc (Nat.le_refl _) _
  have hgv : ∀ (W : World) (Q : Nat → Prop), GVL KM 4 W Q (valsG l) l := fun W Q => GVL_flat (S := KS) (t := 1) hflat hcR
  have Hgv := Lib.hid hgv
  have HW1 := Lib.hid hW1
  have HB1 := Lib.hid hB1
  have Hread := Lib.hid hread1
  have Hone := Lib.hid hone
  have Hown := Lib.hid hown1
  clear hread hread1 hone h hcR hflat hgv hW1 hB1 hown1
  go_enter Try.func124, Try.ntmps124
  go_wp2_with (at_builtin; rw [← HW1.out]; refine wpList_append_any _ rfl _ _ 130 rfl w.heap.size 158 i0 (.agg #[.int .u8 0, .int .i64 0, .int .i64 0, .int .i64 0]) 4 32 Try.underlying130 hi0 hz0 hz1 hz2 rfl (by decide) _ 0 [] rfl Hown.out w.heap.size A l.length c (valsG l).flatten rfl Hread.out Hone.out ?c3 ?c4 ?c5 ?_)
  case c3 => unfold maxLen; omega
  case c4 => omega
  case c5 => exact HB1.out.size
  intro v' w2 hown2 hgrow hwhere
  have hB : Below w.heap.size w w2 := HB1.out.grown hgrow HB1.out.size (fun k hk => by simp [Value.ownBlock] at hk; omega)
  have hown2 : w2.ownsRow w.heap.size 158 4 v' l.length (valsG l).flatten := by simpa using hown2
  have hGR : GR KM 1 4 158 w.heap.size w2 v' l (valsG l) 0 := ⟨by simpa using hown2, Hgv.out _ _⟩
  have HGR := Lib.hid hGR
  clear hGR hgrow hwhere Hread Hone hmk hown2 Hown HW1 HB1 Hgv
  go_wp2_with fail
  go_loopw [3, 4] (fun v i wr => ∃ k : Nat, k ≤ 12 ∧ i = .int .i64 k ∧ Below w.heap.size w wr ∧ Hid (GR KM 1 4 158 w.heap.size wr v l (valsG l) k)) (fun _ i _ => 12 - (intOf i).toNat)
  case atStart => exact ⟨0, by omega, rfl, hB, HGR.out⟩
  case round =>
    obtain ⟨k, hk, rfl, hBm, hLR⟩ := hrel
    by_cases hlt : k < 12
    · have hmark := markIns_c k wr (by omega)
      have hdj : decide ((k : Int) < 12) = true := decide_eq_true (by omega)
      have Hmark := Lib.hid hmark
      clear hmark HGR
      go_wp2_with fail
      refine Hmark.out.mono ?_
      rintro e w3 ⟨rfl, hb3⟩
      obtain ⟨X, hX⟩ : ∃ X, X = w3.alloc (.cells #[.int .u8 0, .int .i64 (markI k), .int .i64 0, .int .i64 0] 158) := ⟨_, rfl⟩
      have hBX : Below w3.heap.size w3 X := by rw [hX]; exact (Below.refl _ _).alloc (Nat.le_refl _) _
      have hbT : Blk X w3.heap.size 158 #[.int .u8 0, .int .i64 (markI k), .int .i64 0, .int .i64 0] := by rw [hX]; exact Blk.new w3 158 _
      have hBwX := hb3.trans (hBX.mono hb3.size)
      have hlr := hLR.out.below hBwX
      have hBr2 := hBm.trans (hBwX.mono hBm.size)
      have Hlr := Lib.hid hlr
      have HbT := Lib.hid hbT
      have HBX := Lib.hid hBr2
      have HX := Lib.hid hX
      clear hlr hbT hBr2 hLR hBwX hBX hb3 hX Hmark
      go_wp2_with (at_builtin; rw [← HX.out]; refine wpList_append_lies _ rfl _ _ 130 rfl w.heap.size 158 i0 _ 4 32 Try.underlying130 hi0 hz0 hz1 hz2 rfl (by decide) _ (l.length + k) _ rfl Hlr.out.own ⟨w3.heap.size, 0, none⟩ 1 1 (KM 1 k) rfl rfl (World.news_of_block HbT.out) (by simp [KM, Value.oneCell']) (by omega) (by unfold maxLen; omega) (by omega) HBX.out.size X.heap.size rfl ?_)
      intro g cap w4 hown hgrow hg hgl
      have hpush := Hlr.out.mark (V := .slice (some ⟨g, 0, none⟩) (l.length + k + 1) cap) hgrow (by rw [List.flatten_append, List.append_assoc]; exact hown) (by rcases hg with hg | hg; exact .inl hg.symm; exact .inr ⟨g, rfl, by omega⟩)
      have hB5 : Below w.heap.size w w4 := HBX.out.grown hgrow HBX.out.size (fun b hb => (Hlr.out.own.lt b hb).1)
      have HP := Lib.hid hpush
      clear hown hgrow hg hpush Hlr HbT HBX HX
      go_wp2_with fail
      go_roundw
      case rel => exact ⟨k + 1, by omega, by go_num, hB5, HP.out⟩
      case measure => simp [intOf]; omega
    · obtain rfl : k = 12 := by omega
      have hdj : decide (((12 : Nat) : Int) < 12) = false := by decide
      obtain ⟨g, cap, rfl, hld⟩ := hLR.out.fin (by decide) (fun i => rfl)
      have hcap : l.length + 12 ≤ cap := by
        have := hld
        simp only [G.ld] at this
        obtain ⟨g2, c2, e, h1, _⟩ := this
        injection e with _ _ e; omega
      have HF2 := Lib.hid hld
      clear hLR hld HGR
      go_wp2_with fail
      go_ret
      exact ⟨_, rfl, HF2.out, hBm⟩

end Go.Proofs.Ytlmbffnmjfbglab
