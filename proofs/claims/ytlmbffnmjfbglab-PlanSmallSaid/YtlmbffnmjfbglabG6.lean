/- Texts U4 U5 U6, joined. -/
import Derived.Deep.AppendLies
import Derived.Test.YtlmbffnmjfbglabG5
import Derived.Test.YtlmbffnmjfbglabG4
set_option linter.unusedSimpArgs false
set_option linter.unusedVariables false
/- Conflict. -/
namespace Go.Proofs.Ytlmbffnmjfbglab
open Go.ChangeShapes Go.WideShapes Go.ChangeAt Go.RowKit

/-- a drawn region, plain. -/
theorem wp_region_S {P : Program} {id : Nat} {ops : Array Oper} {Q : Exit → Act → World → Prop} {a : Act} {w : World} (S : World → Prop) (s : Nat) (hm : P.follows .mixedOrders = true) (hS : S w.drew)
    (h : S w.drew → wpAnyS P .any ops Q S s ops.size (Array.replicate ops.size false) a w.drew) : (Code.region id ops true).wp P Q a w :=
  wp_region_any hm (wpAny_of_S _ _ _ _ (h hS))

theorem cloneI_own (l : List Int) (A : Option Addr) (c : Nat) (w : World) (h : RdInt w w.heap.size A l) (hl : l.length * 8 ≤ 140737488351232) :
    Calls Try.prog 41 #[.slice A l.length c] w fun e w' => ∃ v, e = .returned v ∧ w'.ownsRow w.heap.size 3 1 v l.length (l.map (Value.int .i64)) ∧ Below w.heap.size w w' := by
  obtain ⟨i0, hi0, hz0, hz1, hz2⟩ := info_parts info3
  have hnil := fun (n c : Nat) W => Lib.run_eql_slice_nil (P := Try.prog) W 28 3 A n c 0 0 Try.underlying28
  have hread := (rdInt_reads h).alloc (Nat.le_refl _) (.cells #[] 3)
  have hone := ints_one l
  have Hread := Lib.hid hread
  have Hone := Lib.hid hone
  have Hh := Lib.hid h
  clear hread hone h
  cases A with
  | none =>
    have h0 : l = [] := by
      cases l with
      | nil => rfl
      | cons x r => obtain ⟨b, o, e, _⟩ := Hh.out (by simp); cases e
    subst h0
    simp only [List.length_nil] at hnil ⊢
    go_enter Try.func41, Try.ntmps41
    go_wp2
    go_ret
    exact ⟨_, rfl, World.ownsRow_nil _ _ _ _, Below.refl _ _⟩
  | some ad =>
    go_enter Try.func41, Try.ntmps41
    go_wp2_with (at_builtin; refine wpList_append_any _ rfl _ _ 28 rfl w.heap.size 3 i0 (.int .i64 0) 1 8 Try.underlying28 hi0 hz0 hz1 hz2 rfl (by decide) _ 0 [] rfl (World.ownsRow_made _ #[] 0 (Nat.le_refl _) (by simp [maxLen]) (by simp)) w.heap.size (some ad) l.length c (l.map (Value.int .i64)) rfl Hread.out Hone.out ?c3 ?c4 ?c5 ?_)
    case c3 => unfold maxLen; omega
    case c4 => omega
    case c5 => simp
    intro v' w2 hown2 hgrow hwhere
    have hB : Below w.heap.size w w2 := ((Below.refl _ w).alloc (Nat.le_refl _) _).grown hgrow (by simp) (fun k hk => by simp [Value.ownBlock] at hk; omega)
    try rw [List.nil_append, Nat.zero_add] at hown2
    have Ho := Lib.hid hown2
    clear hgrow hwhere Hread Hone hown2
    go_wp2
    go_ret
    exact ⟨_, rfl, Ho.out, hB⟩

/-- a search with other offsets. -/
theorem SB.setOff {W : World} {Bs : Nat} {name : ByteArray} {mem F : Int} {A : Option Addr} {ps : List Part} {c : Nat} {Ao Ao' : Option Addr} {os os' : List Int} {co co' : Nat} {t : Int} (h : SB W Bs name mem F A ps c Ao os co t) (ho : RdInt W W.heap.size Ao' os') (hne : ∀ b o, Ao' = some ⟨b, o, none⟩ → 0 < os'.length → b ≠ Bs) (hcap : os'.length ≤ co') :
    SB (W.setCell ⟨Bs, 4, none⟩ (.slice Ao' os'.length co')) Bs name mem F A ps c Ao' os' co' t := by
  have hz : (W.setCell ⟨Bs, 4, none⟩ (.slice Ao' os'.length co')).heap.size = W.heap.size := by simp [World.setCell]
  refine ⟨h.blk.set_ 4 _, fun hn => ?_, fun hn => ?_, hne, hcap⟩
  · obtain ⟨b, o, e, hb, hc⟩ := h.pt hn
    have hne : b ≠ Bs := by
      rintro rfl
      have h9 := hc 0 hn 9 _ rfl
      rw [h.blk.cell, Array.getElem?_eq_none (by simp)] at h9
      cases h9
    exact ⟨b, o, e, by rw [hz]; exact hb, fun i hi j v hv => by
      rw [World.cell?_setCell_other _ _ _ _ (fun e => hne (congrArg Addr.block e).symm)]; exact hc i hi j v hv⟩
  · obtain ⟨b, o, e, hb, hc⟩ := ho hn
    have hne := hne b o e hn
    exact ⟨b, o, e, by rw [hz]; exact hb, fun i hi => by
      rw [World.cell?_setCell_other _ _ _ _ (fun e => hne (congrArg Addr.block e).symm)]; exact hc i hi⟩
/-- what Conflict returns. -/
def conflV (F : Int) (ps : List Part) (os : List Int) (x : Int) : Int := if prefixOk F ps (os ++ [x]) = true then conflP ps os x else -1

set_option maxRecDepth 100000 in
set_option maxHeartbeats 4000000 in
theorem conflict_c (name : ByteArray) (mem F : Int) (ps : List Part) (A : Option Addr) (c : Nat) (os : List Int) (Ao : Option Addr) (co : Nat) (x : Int) (w : World) (h : RdPart w w.heap.size A ps) (ho : RdInt w w.heap.size Ao os) (hcap : os.length ≤ co) (hl : ps.length * 8 ≤ 140737488355328) (hlo : os.length * 8 ≤ 140737488351232) :
    Calls Try.prog 20 #[.agg #[.string name, .int .i64 mem, .int .i64 F, .slice A ps.length c], .slice Ao os.length co, .int .i64 x] w fun e w' => e = .returned (.tuple #[.int .i64 (conflV F ps os x), .bool (decide (0 ≤ conflV F ps os x))]) ∧ Below w.heap.size w w' := by
  obtain ⟨i0, hi0, hz0, hz1, hz2⟩ := info_parts info3
  have hB : Below w.heap.size w (w.alloc (.cells #[.string name, .int .i64 mem, .int .i64 F, .slice A ps.length c] 24)) := (Below.refl _ w).alloc (Nat.le_refl _) _
  have hb0 := Blk.new w 24 #[.string name, .int .i64 mem, .int .i64 F, .slice A ps.length c]
  have H := Lib.hid h
  have HO := Lib.hid ho
  clear h ho
  go_enter Try.func20, Try.ntmps20
  go_wp2_with fail
  revert hB hb0
  generalize hz0 : w.alloc (.cells #[.string name, .int .i64 mem, .int .i64 F, .slice A ps.length c] 24) = W1
  intro hB hb0
  have q0 : W1.cell? ⟨w.heap.size, 0, none⟩ = some (.string name) := hb0.cell 0
  have q1 : W1.cell? ⟨w.heap.size, 1, none⟩ = some (.int .i64 mem) := hb0.cell 1
  have q2 : W1.cell? ⟨w.heap.size, 2, none⟩ = some (.int .i64 F) := hb0.cell 2
  have q3 : W1.cell? ⟨w.heap.size, 3, none⟩ = some (.slice A ps.length c) := hb0.cell 3
  have hzw : w.heap.size < W1.heap.size := hb0.lt
  clear hz0
  refine wp_region_S (fun W' => W'.cell? ⟨w.heap.size, 0, none⟩ = some (.string name) ∧ W'.cell? ⟨w.heap.size, 1, none⟩ = some (.int .i64 mem) ∧ W'.cell? ⟨w.heap.size, 2, none⟩ = some (.int .i64 F) ∧ W'.cell? ⟨w.heap.size, 3, none⟩ = some (.slice A ps.length c)) 11 (by kernel_rfl) ⟨q0, q1, q2, q3⟩ (fun hHeld => ?_)
  have hB4 : Below w.heap.size w W1.drew := hB.drew
  have hS4 : ∀ W', Below W1.drew.heap.size W1.drew W' → (fun W' => W'.cell? ⟨w.heap.size, 0, none⟩ = some (.string name) ∧ W'.cell? ⟨w.heap.size, 1, none⟩ = some (.int .i64 mem) ∧ W'.cell? ⟨w.heap.size, 2, none⟩ = some (.int .i64 F) ∧ W'.cell? ⟨w.heap.size, 3, none⟩ = some (.slice A ps.length c)) W' := fun W' hb => ⟨(hb.cell (p := ⟨w.heap.size, 0, none⟩) hzw).trans q0, (hb.cell (p := ⟨w.heap.size, 1, none⟩) hzw).trans q1, (hb.cell (p := ⟨w.heap.size, 2, none⟩) hzw).trans q2, (hb.cell (p := ⟨w.heap.size, 3, none⟩) hzw).trans q3⟩
  have hzw4 : w.heap.size < W1.drew.heap.size := hzw
  have HS := Lib.hid hS4
  clear hS4 q0 q1 q2 q3 hB hb0 hzw
  generalize W1.drew = W4 at *
  refine wpAnyS_take (i := 0) (v := ?_) rfl (by kernel_rfl) (by kernel_rfl) (by kernel_rfl) (by kernel_rfl) (fun _ _ _ h => h) (Or.inl ⟨by rfl, ?_⟩) hHeld ?_
  rotate_left
  · intro w hSw
    obtain ⟨hs0, hs1, hs2, hs3⟩ := hSw
    go_simp
    first | done | with_reducible rfl
  simp only [Act.put, List.setIfInBounds_toArray, List.set_cons_zero, List.set_cons_succ]
  refine wpAnyS_take (i := 1) (v := ?_) rfl (by kernel_rfl) (by kernel_rfl) (by kernel_rfl) (by kernel_rfl) (fun _ _ _ h => h) (Or.inl ⟨by rfl, ?_⟩) hHeld ?_
  rotate_left
  · intro w hSw
    obtain ⟨hs0, hs1, hs2, hs3⟩ := hSw
    go_simp
    first | done | with_reducible rfl
  simp only [Act.put, List.setIfInBounds_toArray, List.set_cons_zero, List.set_cons_succ]
  refine wpAnyS_take (i := 3) (v := ?_) rfl (by kernel_rfl) (by kernel_rfl) (by kernel_rfl) (by kernel_rfl) (fun _ _ _ h => h) (Or.inl ⟨by rfl, ?_⟩) hHeld ?_
  rotate_left
  · intro w hSw
    obtain ⟨hs0, hs1, hs2, hs3⟩ := hSw
    go_simp
    first | done | with_reducible rfl
  simp only [Act.put, List.setIfInBounds_toArray, List.set_cons_zero, List.set_cons_succ]
  refine wpAnyS_ready (rs := [2, 4]) (by kernel_rfl) (by simp) ?_
  refine AllReadyS.cons rfl (fun K hK => ?_) (AllReadyS.cons rfl (fun K hK => ?_) AllReadyS.nil)
  · go_simp
    refine (cloneI_own os Ao co W4 (HO.out.below hB4) (by omega)).mono ?_
    rintro e W5 ⟨v, rfl, hown, hb5⟩
    dsimp only
    refine hK.out _ _ (fun _ => HS.out _ hb5) ?_
    have hb6 : Below W4.heap.size W4 (W5.alloc (.cells #[.int .i64 x] 3)) := hb5.alloc hb5.size _
    clear hK
    try simp only [Act.put, List.setIfInBounds_toArray, List.set_cons_zero, List.set_cons_succ]
    refine wpAnyS_ready (rs := [4]) (by kernel_rfl) (by simp) ?_
    refine AllReadyS.cons rfl (fun K hK => ?_) AllReadyS.nil
    go_simp
    refine hK.out _ _ (fun _ => HS.out _ hb6) ?_
    clear hK hHeld
    have hG0 : Blk (W5.alloc (.cells #[.int .i64 x] 3)) W5.heap.size 3 _ := Blk.new W5 3 #[.int .i64 x]
    replace hown := hown.kept (below_grown (row := none) ((Below.refl _ W5).alloc (Nat.le_refl _) (.cells #[.int .i64 x] 3))) (by cases v.ownBlock <;> simp)
    clear hb5
    generalize hG : W5.heap.size = G0 at *
    clear hG
    generalize W5.alloc (.cells #[.int .i64 x] 3) = W6 at *
    try simp only [Act.put, List.setIfInBounds_toArray, List.set_cons_zero, List.set_cons_succ]
    refine wpAnyS_ready (rs := [5]) (by kernel_rfl) (by simp) ?_
    refine AllReadyS.cons rfl (fun K hK => ?_) AllReadyS.nil
    refine step_append_lies _ (by rfl) (.tmp 14) (.tmp 16) 28 (by rfl) W4.heap.size 3 i0 _ 1 8 Try.underlying28 hi0 hz0 hz1 hz2 (by rfl) (by decide) v os.length _ (by rfl) hown ⟨G0, 0, none⟩ 1 1 [.int .i64 x] (by rfl) (by rfl) (World.news_of_block (cs := #[.int .i64 x]) (t := 3) (fr := (0, 0)) hG0) (by simp [Value.oneCell']) (by omega) (by unfold maxLen; omega) (by omega) hb6.size _ rfl ?_
    intro g cap w2 hown2 hgrow hg hgl
    have hb7 : Below W4.heap.size W4 w2 := hb6.grown hgrow hb6.size (fun k hk => (hown.lt k hk).1)
    refine hK.out _ _ (fun _ => HS.out _ hb7) ?_
    clear hK
    have hcap2 : os.length + 1 ≤ cap := by
      rcases hown2.2 with ⟨e, _⟩ | ⟨g', cap', cur, e, _, _, hc, _⟩
      · cases e
      · injection e with _ _ e
        subst e
        exact hc
    have hri : RdInt w2 w2.heap.size (some ⟨g, 0, none⟩) (os ++ [x]) := by
      obtain ⟨A2, c2, e, hr⟩ := RdInt.of_own (n := os.length + 1) (l := os ++ [x]) (by simp) (by simpa using hown2)
      injection e with e
      subst e
      exact hr
    have hpc := prefix_c name mem F ps A c (os ++ [x]) (some ⟨g, 0, none⟩) cap w2 (H.out.below (hB4.trans (hb7.mono (Nat.le_of_lt hzw4)))) hri (by simp; omega) hl (by simp; omega)
    have hB7 : Below w.heap.size w w2 := hB4.trans (hb7.mono (Nat.le_of_lt hzw4))
    have hs7 := HS.out _ hb7
    rw [show (os ++ [x]).length = os.length + 1 by simp] at hpc
    have Hpc := Lib.hid hpc
    clear hown hown2 hgrow hg hG0 hb6 hri hpc hb7
    try simp only [Act.put, List.setIfInBounds_toArray, List.set_cons_zero, List.set_cons_succ]
    refine wpAnyS_ready (rs := [6]) (by kernel_rfl) (by simp) ?_
    refine AllReadyS.cons rfl (fun K hK => ?_) AllReadyS.nil
    go_simp
    refine Hpc.out.mono ?_
    rintro e w3 ⟨Bs, rfl, hBs, hSB, hb8⟩
    dsimp only
    have hs8 : (fun W' => W'.cell? ⟨w.heap.size, 0, none⟩ = some (.string name) ∧ W'.cell? ⟨w.heap.size, 1, none⟩ = some (.int .i64 mem) ∧ W'.cell? ⟨w.heap.size, 2, none⟩ = some (.int .i64 F) ∧ W'.cell? ⟨w.heap.size, 3, none⟩ = some (.slice A ps.length c)) w3 := ⟨(hb8.cell (p := ⟨w.heap.size, 0, none⟩) (World.block_lt_of_cell? _ _ hs7.1)).trans hs7.1, (hb8.cell (p := ⟨w.heap.size, 1, none⟩) (World.block_lt_of_cell? _ _ hs7.2.1)).trans hs7.2.1, (hb8.cell (p := ⟨w.heap.size, 2, none⟩) (World.block_lt_of_cell? _ _ hs7.2.2.1)).trans hs7.2.2.1, (hb8.cell (p := ⟨w.heap.size, 3, none⟩) (World.block_lt_of_cell? _ _ hs7.2.2.2)).trans hs7.2.2.2⟩
    have hB8 : Below w.heap.size w w3 := hB7.trans (hb8.mono hB7.size)
    have hBs0 : w.heap.size < Bs := Nat.lt_of_lt_of_le (World.block_lt_of_cell? _ _ hs7.1) hBs
    refine hK.out _ _ (fun _ => hs8) ?_
    clear hK Hpc hs7 hB7 hb8 HS hB4
    try simp only [Act.put, List.setIfInBounds_toArray, List.set_cons_zero, List.set_cons_succ]
    refine wpAnyS_takeT (i := 7) (v := ?_) rfl (by kernel_rfl) (by kernel_rfl) (by kernel_rfl) (by kernel_rfl) (fun _ _ _ h => h) (Or.inl ⟨by rfl, ?_⟩) hs8 ?_
    rotate_left
    · intro w hSw
      (try dsimp only at hSw)
      go_simp
      first | done | with_reducible rfl
    simp only [Act.put, List.setIfInBounds_toArray, List.set_cons_zero, List.set_cons_succ]
    refine wpAnyS_takeT (i := 8) (v := ?_) rfl (by kernel_rfl) (by kernel_rfl) (by kernel_rfl) (by kernel_rfl) (fun _ _ _ h => h) (Or.inl ⟨by rfl, ?_⟩) hs8 ?_
    rotate_left
    · intro w hSw
      (try dsimp only at hSw)
      go_simp
      first | done | with_reducible rfl
    simp only [Act.put, List.setIfInBounds_toArray, List.set_cons_zero, List.set_cons_succ]
    refine wpAnyS_takeT (i := 9) (v := ?_) rfl (by kernel_rfl) (by kernel_rfl) (by kernel_rfl) (by kernel_rfl) (fun _ _ _ h => h) (Or.inl ⟨by rfl, ?_⟩) hs8 ?_
    rotate_left
    · intro w hSw
      (try dsimp only at hSw)
      go_simp
      first | done | with_reducible rfl
    simp only [Act.put, List.setIfInBounds_toArray, List.set_cons_zero, List.set_cons_succ]
    refine wpAnyS_takeT (i := 10) (v := ?_) rfl (by kernel_rfl) (by kernel_rfl) (by kernel_rfl) (by kernel_rfl) (fun _ _ _ h => h) (Or.inl ⟨by rfl, ?_⟩) hs8 ?_
    rotate_left
    · intro w hSw
      (try dsimp only at hSw)
      go_simp
      first | done | with_reducible rfl
    simp only [Act.put, List.setIfInBounds_toArray, List.set_cons_zero, List.set_cons_succ]
    refine wpAnyS_ready (rs := [11]) (by kernel_rfl) (by simp) ?_
    refine AllReadyS.cons rfl (fun K hK => ?_) AllReadyS.nil
    go_simp
    refine hK.out _ _ (fun h => absurd h (by decide)) ?_
    refine wpAnyS_done (by kernel_rfl) ?_ _
    clear hK hs8
    cases hpx : prefixOk F ps (os ++ [x]) with
    | false =>
      have Hv := Lib.hid (show conflV F ps os x = -1 by simp [conflV, hpx])
      clear hpx hSB
      go_wp2_with fail
      refine bodyPost_ret (v := .tuple #[.int .i64 (-1), .bool false]) (by simp [results, Try.results20, go_sem]) rfl ⟨by rw [Hv.out]; rfl, hB8⟩
    | true =>
      have Hv := Lib.hid (show conflV F ps os x = conflP ps os x by simp [conflV, hpx])
      have hlt : os.length < ps.length := by
        simp only [prefixOk, Bool.and_eq_true, decide_eq_true_eq, List.length_append, List.length_cons, List.length_nil] at hpx
        omega
      have hps : ps.length ≤ 6 := by
        simp only [prefixOk, Bool.and_eq_true] at hpx
        exact (timesV_ok hpx.2.1).few
      have hst := hSB.setOff (HO.out.below hB8) (fun b o e hn => by
        obtain ⟨b', o', e', hb, _⟩ := HO.out hn
        rw [e] at e'; cases e'
        omega) hcap
      have hB9 : Below w.heap.size w (w3.setCell ⟨Bs, 4, none⟩ (.slice Ao os.length co)) := ⟨hB8.os, hB8.tape, hB8.output, by simpa [World.setCell] using hB8.size, fun k hk => (Below.heap_setCell _ _ _ _ (by simp; omega)).trans (hB8.block k hk)⟩
      have hcf := conflict_m hst hlt hps x
      have hc4 : w3.cell? ⟨Bs, 4, none⟩ = some (.slice (some ⟨g, 0, none⟩) (os ++ [x]).length cap) := hSB.blk.cell 4
      have hf4 := hSB.blk.frozen 4
      clear hpx hSB hst
      generalize conflP ps os x = y at *
      go_wp2_with fail
      refine hcf.mono ?_
      rintro e w4 ⟨rfl, hb9⟩
      have hB10 := hB9.trans (hb9.mono hB9.size)
      clear hcf hc4 hf4 hb9 hB9 hB8
      have Hy : Hid (Ending.returned (.tuple #[.int .i64 y, .bool (decide (0 ≤ y))]) = .returned (.tuple #[.int .i64 (conflV F ps os x), .bool (decide (0 ≤ conflV F ps os x))])) := by unfold Hid; rw [Hv.out]
      clear Hv
      go_wp2_with fail
      refine bodyPost_ret (v := .tuple #[.int .i64 y, .bool (decide (0 ≤ y))]) (by simp [results, Try.results20, go_sem]) rfl ⟨Hy.out, hB10⟩
  · go_simp
    have hb5 : Below W4.heap.size W4 (W4.alloc (.cells #[.int .i64 x] 3)) := (Below.refl _ W4).alloc (Nat.le_refl _) _
    refine hK.out _ _ (fun _ => HS.out _ hb5) ?_
    clear hK hHeld
    have hG0 : Blk (W4.alloc (.cells #[.int .i64 x] 3)) W4.heap.size 3 _ := Blk.new W4 3 #[.int .i64 x]
    have hGz := hG0.lt
    generalize W4.alloc (.cells #[.int .i64 x] 3) = W5 at *
    generalize hG : W4.heap.size = G0 at hG0 ⊢
    try simp only [Act.put, List.setIfInBounds_toArray, List.set_cons_zero, List.set_cons_succ]
    refine wpAnyS_ready (rs := [2]) (by kernel_rfl) (by simp) ?_
    refine AllReadyS.cons rfl (fun K hK => ?_) AllReadyS.nil
    go_simp
    refine (cloneI_own os Ao co W5 (HO.out.below (hB4.trans (hb5.mono (Nat.le_of_lt hzw4)))) (by omega)).mono ?_
    rintro e W6 ⟨v, rfl, hown, hb6'⟩
    dsimp only
    have hb6 : Below W4.heap.size W4 W6 := hb5.trans (hb6'.mono hb5.size)
    replace hG0 := hG0.below hb6' hG0.lt
    replace hown : W6.ownsRow W4.heap.size 3 1 v os.length (os.map (Value.int .i64)) := ⟨hown.1, hown.2.imp id fun ⟨g, cap, cur, e, hg, r⟩ => ⟨g, cap, cur, e, Nat.le_trans hb5.size hg, r⟩⟩
    refine hK.out _ _ (fun _ => HS.out _ hb6) ?_
    clear hK hb6' hb5 hG hGz
    try simp only [Act.put, List.setIfInBounds_toArray, List.set_cons_zero, List.set_cons_succ]
    refine wpAnyS_ready (rs := [5]) (by kernel_rfl) (by simp) ?_
    refine AllReadyS.cons rfl (fun K hK => ?_) AllReadyS.nil
    refine step_append_lies _ (by rfl) (.tmp 14) (.tmp 16) 28 (by rfl) W4.heap.size 3 i0 _ 1 8 Try.underlying28 hi0 hz0 hz1 hz2 (by rfl) (by decide) v os.length _ (by rfl) hown ⟨G0, 0, none⟩ 1 1 [.int .i64 x] (by rfl) (by rfl) (World.news_of_block (cs := #[.int .i64 x]) (t := 3) (fr := (0, 0)) hG0) (by simp [Value.oneCell']) (by omega) (by unfold maxLen; omega) (by omega) hb6.size _ rfl ?_
    intro g cap w2 hown2 hgrow hg hgl
    have hb7 : Below W4.heap.size W4 w2 := hb6.grown hgrow hb6.size (fun k hk => (hown.lt k hk).1)
    refine hK.out _ _ (fun _ => HS.out _ hb7) ?_
    clear hK
    have hcap2 : os.length + 1 ≤ cap := by
      rcases hown2.2 with ⟨e, _⟩ | ⟨g', cap', cur, e, _, _, hc, _⟩
      · cases e
      · injection e with _ _ e
        subst e
        exact hc
    have hri : RdInt w2 w2.heap.size (some ⟨g, 0, none⟩) (os ++ [x]) := by
      obtain ⟨A2, c2, e, hr⟩ := RdInt.of_own (n := os.length + 1) (l := os ++ [x]) (by simp) (by simpa using hown2)
      injection e with e
      subst e
      exact hr
    have hpc := prefix_c name mem F ps A c (os ++ [x]) (some ⟨g, 0, none⟩) cap w2 (H.out.below (hB4.trans (hb7.mono (Nat.le_of_lt hzw4)))) hri (by simp; omega) hl (by simp; omega)
    have hB7 : Below w.heap.size w w2 := hB4.trans (hb7.mono (Nat.le_of_lt hzw4))
    have hs7 := HS.out _ hb7
    rw [show (os ++ [x]).length = os.length + 1 by simp] at hpc
    have Hpc := Lib.hid hpc
    clear hown hown2 hgrow hg hG0 hb6 hri hpc hb7
    try simp only [Act.put, List.setIfInBounds_toArray, List.set_cons_zero, List.set_cons_succ]
    refine wpAnyS_ready (rs := [6]) (by kernel_rfl) (by simp) ?_
    refine AllReadyS.cons rfl (fun K hK => ?_) AllReadyS.nil
    go_simp
    refine Hpc.out.mono ?_
    rintro e w3 ⟨Bs, rfl, hBs, hSB, hb8⟩
    dsimp only
    have hs8 : (fun W' => W'.cell? ⟨w.heap.size, 0, none⟩ = some (.string name) ∧ W'.cell? ⟨w.heap.size, 1, none⟩ = some (.int .i64 mem) ∧ W'.cell? ⟨w.heap.size, 2, none⟩ = some (.int .i64 F) ∧ W'.cell? ⟨w.heap.size, 3, none⟩ = some (.slice A ps.length c)) w3 := ⟨(hb8.cell (p := ⟨w.heap.size, 0, none⟩) (World.block_lt_of_cell? _ _ hs7.1)).trans hs7.1, (hb8.cell (p := ⟨w.heap.size, 1, none⟩) (World.block_lt_of_cell? _ _ hs7.2.1)).trans hs7.2.1, (hb8.cell (p := ⟨w.heap.size, 2, none⟩) (World.block_lt_of_cell? _ _ hs7.2.2.1)).trans hs7.2.2.1, (hb8.cell (p := ⟨w.heap.size, 3, none⟩) (World.block_lt_of_cell? _ _ hs7.2.2.2)).trans hs7.2.2.2⟩
    have hB8 : Below w.heap.size w w3 := hB7.trans (hb8.mono hB7.size)
    have hBs0 : w.heap.size < Bs := Nat.lt_of_lt_of_le (World.block_lt_of_cell? _ _ hs7.1) hBs
    refine hK.out _ _ (fun _ => hs8) ?_
    clear hK Hpc hs7 hB7 hb8 HS hB4
    try simp only [Act.put, List.setIfInBounds_toArray, List.set_cons_zero, List.set_cons_succ]
    refine wpAnyS_takeT (i := 7) (v := ?_) rfl (by kernel_rfl) (by kernel_rfl) (by kernel_rfl) (by kernel_rfl) (fun _ _ _ h => h) (Or.inl ⟨by rfl, ?_⟩) hs8 ?_
    rotate_left
    · intro w hSw
      (try dsimp only at hSw)
      go_simp
      first | done | with_reducible rfl
    simp only [Act.put, List.setIfInBounds_toArray, List.set_cons_zero, List.set_cons_succ]
    refine wpAnyS_takeT (i := 8) (v := ?_) rfl (by kernel_rfl) (by kernel_rfl) (by kernel_rfl) (by kernel_rfl) (fun _ _ _ h => h) (Or.inl ⟨by rfl, ?_⟩) hs8 ?_
    rotate_left
    · intro w hSw
      (try dsimp only at hSw)
      go_simp
      first | done | with_reducible rfl
    simp only [Act.put, List.setIfInBounds_toArray, List.set_cons_zero, List.set_cons_succ]
    refine wpAnyS_takeT (i := 9) (v := ?_) rfl (by kernel_rfl) (by kernel_rfl) (by kernel_rfl) (by kernel_rfl) (fun _ _ _ h => h) (Or.inl ⟨by rfl, ?_⟩) hs8 ?_
    rotate_left
    · intro w hSw
      (try dsimp only at hSw)
      go_simp
      first | done | with_reducible rfl
    simp only [Act.put, List.setIfInBounds_toArray, List.set_cons_zero, List.set_cons_succ]
    refine wpAnyS_takeT (i := 10) (v := ?_) rfl (by kernel_rfl) (by kernel_rfl) (by kernel_rfl) (by kernel_rfl) (fun _ _ _ h => h) (Or.inl ⟨by rfl, ?_⟩) hs8 ?_
    rotate_left
    · intro w hSw
      (try dsimp only at hSw)
      go_simp
      first | done | with_reducible rfl
    simp only [Act.put, List.setIfInBounds_toArray, List.set_cons_zero, List.set_cons_succ]
    refine wpAnyS_ready (rs := [11]) (by kernel_rfl) (by simp) ?_
    refine AllReadyS.cons rfl (fun K hK => ?_) AllReadyS.nil
    go_simp
    refine hK.out _ _ (fun h => absurd h (by decide)) ?_
    refine wpAnyS_done (by kernel_rfl) ?_ _
    clear hK hs8
    cases hpx : prefixOk F ps (os ++ [x]) with
    | false =>
      have Hv := Lib.hid (show conflV F ps os x = -1 by simp [conflV, hpx])
      clear hpx hSB
      go_wp2_with fail
      refine bodyPost_ret (v := .tuple #[.int .i64 (-1), .bool false]) (by simp [results, Try.results20, go_sem]) rfl ⟨by rw [Hv.out]; rfl, hB8⟩
    | true =>
      have Hv := Lib.hid (show conflV F ps os x = conflP ps os x by simp [conflV, hpx])
      have hlt : os.length < ps.length := by
        simp only [prefixOk, Bool.and_eq_true, decide_eq_true_eq, List.length_append, List.length_cons, List.length_nil] at hpx
        omega
      have hps : ps.length ≤ 6 := by
        simp only [prefixOk, Bool.and_eq_true] at hpx
        exact (timesV_ok hpx.2.1).few
      have hst := hSB.setOff (HO.out.below hB8) (fun b o e hn => by
        obtain ⟨b', o', e', hb, _⟩ := HO.out hn
        rw [e] at e'; cases e'
        omega) hcap
      have hB9 : Below w.heap.size w (w3.setCell ⟨Bs, 4, none⟩ (.slice Ao os.length co)) := ⟨hB8.os, hB8.tape, hB8.output, by simpa [World.setCell] using hB8.size, fun k hk => (Below.heap_setCell _ _ _ _ (by simp; omega)).trans (hB8.block k hk)⟩
      have hcf := conflict_m hst hlt hps x
      have hc4 : w3.cell? ⟨Bs, 4, none⟩ = some (.slice (some ⟨g, 0, none⟩) (os ++ [x]).length cap) := hSB.blk.cell 4
      have hf4 := hSB.blk.frozen 4
      clear hpx hSB hst
      generalize conflP ps os x = y at *
      go_wp2_with fail
      refine hcf.mono ?_
      rintro e w4 ⟨rfl, hb9⟩
      have hB10 := hB9.trans (hb9.mono hB9.size)
      clear hcf hc4 hf4 hb9 hB9 hB8
      have Hy : Hid (Ending.returned (.tuple #[.int .i64 y, .bool (decide (0 ≤ y))]) = .returned (.tuple #[.int .i64 (conflV F ps os x), .bool (decide (0 ≤ conflV F ps os x))])) := by unfold Hid; rw [Hv.out]
      clear Hv
      go_wp2_with fail
      refine bodyPost_ret (v := .tuple #[.int .i64 y, .bool (decide (0 ≤ y))]) (by simp [results, Try.results20, go_sem]) rfl ⟨Hy.out, hB10⟩
end Go.Proofs.Ytlmbffnmjfbglab
/- A certificate: right, one. -/
namespace Go.Proofs.Ytlmbffnmjfbglab
open Go.ChangeShapes Go.WideShapes Go.ChangeAt Go.RowKit

/-- all offsets from f to t conflict with partition j. -/
def allP (ps : List Part) (os : List Int) (j : Nat) (f t : Int) : Bool := (List.range (t - f + 1).toNat).all fun i => clashP ps os j (f + i)
theorem allP_no {ps : List Part} {os : List Int} {j : Nat} {f t x : Int} (h1 : f ≤ x) (h2 : x ≤ t) (h : clashP ps os j x = false) : allP ps os j f t = false := by
  unfold allP
  rw [List.all_eq_false]
  refine ⟨(x - f).toNat, by simp; omega, ?_⟩
  rw [show f + ((x - f).toNat : Int) = x by omega, h]
  simp
theorem allP_yes {ps : List Part} {os : List Int} {j : Nat} {f t : Int} (h : ∀ x, f ≤ x → x ≤ t → clashP ps os j x = true) : allP ps os j f t = true := by
  unfold allP
  rw [List.all_eq_true]
  intro i hi
  simp at hi
  exact h _ (by omega) (by omega)
mutual
def oneP (ps : List Part) (os : List Int) : Claim → Bool
  | .mk f t w sub => if w = -1 then decide (f = t) && (decide (os.length + 1 < ps.length) && goP ps (os ++ [f]) 0 sub)
      else if w < 0 ∨ (os.length : Int) ≤ w ∨ 0 < sub.length then false else allP ps os w.toNat f t
def goP (ps : List Part) (os : List Int) (next : Int) : List Claim → Bool
  | [] => decide (next = lastP ps os.length + 1)
  | x :: r => decide (x.frm = next) && (decide (x.frm ≤ x.to) && (decide (x.to ≤ lastP ps os.length) && (oneP ps os x && goP ps os (x.to + 1) r)))
end
/-- claims about the next partition are right. -/
def rightP (ps : List Part) (os : List Int) (l : List Claim) : Bool := decide (os.length < ps.length) && goP ps os 0 l
/-- a search whose offsets are its own row; whatever lies below B0 is old. -/
structure SO (W : World) (Bs : Nat) (name : ByteArray) (mem F : Int) (A : Option Addr) (ps : List Part) (c B0 : Nat) (V : Value) (os : List Int) : Prop where
  blk : Blk W Bs 67 #[.string name, .int .i64 mem, .int .i64 F, .slice A ps.length c, V, .int .i64 0]
  pt : RdPart W B0 A ps
  own : W.ownsRow B0 3 1 V os.length (os.map (Value.int .i64))
  le : B0 ≤ Bs
  ne : V.ownBlock ≠ some Bs
/-- what the search's steps change: the object, and the offsets' own row. -/
structure RG (Bs : Nat) (W : World) (V : Value) (W' : World) (V' : Value) : Prop where
  gr : Gr (fun b => b = Bs ∨ V.ownBlock = some b) W W'
  ob : V'.ownBlock = V.ownBlock ∨ ∃ g, V'.ownBlock = some g ∧ W.heap.size ≤ g
theorem RG.trans {Bs : Nat} {W W1 W2 : World} {V V1 V2 : Value} (h : RG Bs W V W1 V1) (k : RG Bs W1 V1 W2 V2) : RG Bs W V W2 V2 := by
  refine ⟨⟨k.gr.os.trans h.gr.os, k.gr.tape.trans h.gr.tape, k.gr.output.trans h.gr.output, Nat.le_trans h.gr.size k.gr.size, fun b hb hx => (k.gr.block b (Nat.lt_of_lt_of_le hb h.gr.size) (fun x => ?_)).trans (h.gr.block b hb hx)⟩, ?_⟩
  · rcases x with x | x
    · exact hx (.inl x)
    · rcases h.ob with e | ⟨g, e, hg⟩
      · exact hx (.inr (e ▸ x))
      · rw [e] at x; injection x with x; omega
  · rcases k.ob with e | ⟨g, e, hg⟩
    · rcases h.ob with e' | ⟨g, e', hg⟩
      · exact .inl (e.trans e')
      · exact .inr ⟨g, e.trans e', hg⟩
    · exact .inr ⟨g, e, Nat.le_trans h.gr.size hg⟩
theorem RG.of_below {Bs : Nat} {W W' : World} {V : Value} (h : Below W.heap.size W W') : RG Bs W V W' V := ⟨.of_below h, .inl rfl⟩
theorem grown_set (W : World) (a : Addr) (v : Value) : W.grownBy (W.setCell a v) (some a.block) := ⟨rfl, rfl, rfl, by simp [World.setCell], fun k _ hk => Below.heap_setCell W a v k (fun e => hk (by rw [e]))⟩
section
variable {W W' w2 : World} {Bs : Nat} {name : ByteArray} {mem F : Int} {A : Option Addr} {ps : List Part} {c B0 : Nat} {V : Value} {os : List Int} {g cap : Nat}
theorem SO.form (h : SO W Bs name mem F A ps c B0 V os) : ∃ Ao co, V = .slice Ao os.length co ∧ SB W Bs name mem F A ps c Ao os co 0 := by
  have hb0 : B0 ≤ W.heap.size := Nat.le_trans h.le (Nat.le_of_lt h.blk.lt)
  obtain ⟨Ao, co, rfl, hr⟩ := RdInt.of_own rfl h.own
  have hcap : os.length ≤ co := by
    rcases h.own.2 with ⟨e, h0⟩ | ⟨g, cap, cur, e, _, _, hc, _⟩
    · omega
    · injection e with _ _ e
      subst e; exact hc
  refine ⟨Ao, co, rfl, h.blk, fun hn => ?_, hr, fun b o e _ x => h.ne (by rw [e, x]; rfl), hcap⟩
  obtain ⟨b, o, e, hb, hc⟩ := h.pt hn
  exact ⟨b, o, e, by omega, hc⟩
theorem SO.next (h : SO W Bs name mem F A ps c B0 V os) (hb : Below W.heap.size W W') : SO W' Bs name mem F A ps c B0 V os := by
  have hb0 : B0 ≤ W.heap.size := Nat.le_trans h.le (Nat.le_of_lt h.blk.lt)
  refine ⟨h.blk.below hb h.blk.lt, fun hn => ?_, h.own.kept (below_grown (row := none) hb) (by cases V.ownBlock <;> simp), h.le, h.ne⟩
  obtain ⟨b, o, e, hlt, hc⟩ := h.pt hn
  exact ⟨b, o, e, hlt, fun i hi j v hv => (hb.cell (p := ⟨b, o + i * 10 + j, none⟩) (by simp; omega)).trans (hc i hi j v hv)⟩
theorem SO.old {V' : Value} (h : SO W Bs name mem F A ps c B0 V os) (hr : RG Bs W V W' V') : Below B0 W W' :=
  ⟨hr.gr.os, hr.gr.tape, hr.gr.output, hr.gr.size, fun k hk => hr.gr.block k (by have := h.le; have := h.blk.lt; omega) (fun x => by
    rcases x with x | x
    · have := h.le; omega
    · have := (h.own.lt k x).1; omega)⟩
/-- an offset appended. -/
theorem SO.push (h : SO W Bs name mem F A ps c B0 V os) (f : Int) (hgr : W.grownBy w2 V.ownBlock) (hown : w2.ownsRow B0 3 1 (.slice (some ⟨g, 0, none⟩) (os.length + 1) cap) (os.length + 1) (os.map (Value.int .i64) ++ [.int .i64 f])) (hg : V.ownBlock = some g ∨ g = W.heap.size) :
    SO (w2.setCell ⟨Bs, 4, none⟩ (.slice (some ⟨g, 0, none⟩) (os.length + 1) cap)) Bs name mem F A ps c B0 (.slice (some ⟨g, 0, none⟩) (os.length + 1) cap) (os ++ [f]) ∧ RG Bs W V (w2.setCell ⟨Bs, 4, none⟩ (.slice (some ⟨g, 0, none⟩) (os.length + 1) cap)) (.slice (some ⟨g, 0, none⟩) (os.length + 1) cap) := by
  have hblt := h.blk.lt
  have hle := h.le
  have hob : ∀ k, V.ownBlock = some k → B0 ≤ k := fun k hk => (h.own.lt k hk).1
  have hgne : g ≠ Bs := fun e => by
    rcases hg with hg | hg
    · exact h.ne (by rw [hg, e])
    · omega
  have hBl : Below B0 W (w2.setCell ⟨Bs, 4, none⟩ (.slice (some ⟨g, 0, none⟩) (os.length + 1) cap)) := ⟨hgr.os, hgr.tape, hgr.output, by simpa [World.setCell] using hgr.size, fun k hk => (Below.heap_setCell _ _ _ _ (by simp; omega)).trans (hgr.block k (by omega) (fun e => by have := hob k e.symm; omega))⟩
  have hRG : RG Bs W V (w2.setCell ⟨Bs, 4, none⟩ (.slice (some ⟨g, 0, none⟩) (os.length + 1) cap)) (.slice (some ⟨g, 0, none⟩) (os.length + 1) cap) := ⟨(Gr.of_grown hgr fun k e => .inr e).trans (Gr.setCell _ _ _ (.inl rfl)), by
    rcases hg with hg | hg
    · exact .inl (by rw [hg]; rfl)
    · exact .inr ⟨g, rfl, by omega⟩⟩
  refine ⟨⟨?_, fun hn => ?_, ?_, hle, by simp [Value.ownBlock, hgne]⟩, hRG⟩
  · exact (h.blk.grown hgr (fun e => h.ne e.symm)).set_ 4 _
  · obtain ⟨b, o, e, hlt, hc⟩ := h.pt hn
    exact ⟨b, o, e, hlt, fun i hi j v hv => (hBl.cell (p := ⟨b, o + i * 10 + j, none⟩) hlt).trans (hc i hi j v hv)⟩
  · have hk := hown.kept (grown_set w2 ⟨Bs, 4, none⟩ (.slice (some ⟨g, 0, none⟩) (os.length + 1) cap)) (.inr (by simp [Value.ownBlock, hgne]))
    simpa using hk
/-- the last offset cut off. -/
theorem SO.cut {f : Int} {Ao : Option Addr} {co : Nat} (h : SO W Bs name mem F A ps c B0 (.slice Ao (os.length + 1) co) (os ++ [f])) :
    SO (W.setCell ⟨Bs, 4, none⟩ (.slice Ao os.length co)) Bs name mem F A ps c B0 (.slice Ao os.length co) os ∧ RG Bs W (.slice Ao (os.length + 1) co) (W.setCell ⟨Bs, 4, none⟩ (.slice Ao os.length co)) (.slice Ao os.length co) := by
  have hle := h.le
  have hBl : Below B0 W (W.setCell ⟨Bs, 4, none⟩ (.slice Ao os.length co)) := ⟨rfl, rfl, rfl, by simp [World.setCell], fun k hk => Below.heap_setCell _ _ _ _ (by simp; omega)⟩
  have hne : (Value.slice Ao os.length co).ownBlock ≠ some Bs := by
    have := h.ne
    cases Ao with
    | none => simp [Value.ownBlock]
    | some a => simpa [Value.ownBlock] using this
  refine ⟨⟨h.blk.set_ 4 _, fun hn => ?_, ?_, hle, hne⟩, ⟨Gr.setCell _ _ _ (.inl rfl), .inl (by cases Ao <;> rfl)⟩⟩
  · obtain ⟨b, o, e, hlt, hc⟩ := h.pt hn
    exact ⟨b, o, e, hlt, fun i hi j v hv => (hBl.cell (p := ⟨b, o + i * 10 + j, none⟩) hlt).trans (hc i hi j v hv)⟩
  · have h0 : W.ownsRow B0 3 1 (.slice Ao os.length co) os.length (os.map (Value.int .i64)) := by
      refine ⟨by simp, .inr ?_⟩
      rcases h.own.2 with ⟨e, _⟩ | ⟨g, cap, cur, e, hb, hh, hc, hm, hs, ht⟩
      · cases e
      · injection e with e1 _ e2
        subst e1 e2
        refine ⟨g, co, cur, rfl, hb, hh, by simp at hc; omega, hm, hs, ?_⟩
        have := congrArg (List.take os.length) ht
        simpa [List.take_take] using this
    exact h0.kept (grown_set W ⟨Bs, 4, none⟩ (.slice Ao os.length co)) (.inr hne)
end
/-- what right and one do. -/
def RPost (W : World) (V : Value) (Bs : Nat) (name : ByteArray) (mem F : Int) (A : Option Addr) (ps : List Part) (c B0 : Nat) (os : List Int) (b : Bool) (e : Ending) (W' : World) : Prop := e = .returned (.bool b) ∧ ∃ V', RG Bs W V W' V' ∧ SO W' Bs name mem F A ps c B0 V' os

section
attribute [-go_sem] run_sliceAt_slice
set_option maxRecDepth 100000 in
set_option maxHeartbeats 4000000 in
theorem one_c {W : World} {Bs : Nat} {name : ByteArray} {mem F : Int} {A : Option Addr} {ps : List Part} {c B0 : Nat} {V : Value} {os : List Int} (hPT : PT ps) (f t wi : Int) (sub : List Claim) (As : Option Addr) (cs : Nat)
    (ih : ∀ W V os', SO W Bs name mem F A ps c B0 V os' → os'.length ≤ ps.length → RdCls W (fun b => b < B0) As sub → Calls Try.prog 39 #[.pointer (some ⟨Bs, 0, none⟩), .slice As sub.length cs] W (RPost W V Bs name mem F A ps c B0 os' (rightP ps os' sub)))
    (h : SO W Bs name mem F A ps c B0 V os) (hn : os.length < ps.length) (hf : 0 ≤ f) (ht : t ≤ 2000) (hft : f ≤ t) (hsub : sub.length ≤ 9223372036854775807) (hrd : RdCls W (fun b => b < B0) As sub) :
    Calls Try.prog 64 #[.pointer (some ⟨Bs, 0, none⟩), .agg #[.int .i64 f, .int .i64 t, .int .i64 wi, .slice As sub.length cs]] W (RPost W V Bs name mem F A ps c B0 os (oneP ps os (.mk f t wi sub))) := by
  obtain ⟨i0, hi0, hz0, hz1, hz2⟩ := info_parts info3
  have hB : Below W.heap.size W (W.alloc (.cells #[.int .i64 f, .int .i64 t, .int .i64 wi, .slice As sub.length cs] 35)) := (Below.refl _ W).alloc (Nat.le_refl _) _
  have hb0 := Blk.new W 35 #[.int .i64 f, .int .i64 t, .int .i64 wi, .slice As sub.length cs]
  have hle : B0 ≤ W.heap.size := Nat.le_trans h.le (Nat.le_of_lt h.blk.lt)
  have h1 := h.next hB
  obtain ⟨Ao, co, rfl, hSB⟩ := h1.form
  obtain ⟨_, _, _, _, q4, _⟩ := hSB.cells
  have hrd1 : RdCls (W.alloc (.cells #[.int .i64 f, .int .i64 t, .int .i64 wi, .slice As sub.length cs] 35)) (fun b => b < B0) As sub := hrd.keep fun b hb => ⟨fun _ => World.cell?_of_block (hB.block b (by omega)), hb⟩
  have hBsl := h.blk.lt
  have hVlt : ∀ b, (Value.slice Ao os.length co).ownBlock = some b → b < W.heap.size := fun b hb => (h.own.lt b hb).2
  clear h hrd
  by_cases hwi : wi = -1
  · have hd1 : (wi == (-1 : Int)) = true := by simp [hwi]
    have Hv := Lib.hid (show oneP ps os (.mk f t wi sub) = (decide (f = t) && rightP ps (os ++ [f]) sub) by
      rw [oneP, if_pos hwi]; simp [rightP])
    clear hwi
    go_enter Try.func64, Try.ntmps64
    go_wp2_with fail
    have q5 : (W.alloc (.cells #[.int .i64 f, .int .i64 t, .int .i64 wi, .slice As sub.length cs] 35)).cell? ⟨W.heap.size, 0, none⟩ = some (.int .i64 f) := hb0.cell 0
    generalize W.alloc (.cells #[.int .i64 f, .int .i64 t, .int .i64 wi, .slice As sub.length cs] 35) = W1 at *
    refine wp_region_S (fun W' => W'.cell? ⟨Bs, 4, none⟩ = some (.slice Ao os.length co) ∧ W'.cell? ⟨W.heap.size, 0, none⟩ = some (.int .i64 f)) 11 (by kernel_rfl) ⟨q4, q5⟩ (fun hHeld => ?_)
    replace hB := hB.drew
    replace hb0 := hb0.drew
    replace h1 := h1.next (Below.refl _ W1).drew
    replace hrd1 : RdCls W1.drew (fun b => b < B0) As sub := RdCls.keep (w := W1) (w' := W1.drew) (fun b hb => ⟨fun _ => rfl, hb⟩) hrd1
    clear q4 q5 hSB
    generalize W1.drew = W4 at *
    refine wpAnyS_take (i := 0) (v := ?_) rfl (by kernel_rfl) (by kernel_rfl) (by kernel_rfl) (by kernel_rfl) (fun _ _ _ h => h) (Or.inl ⟨by rfl, ?_⟩) hHeld ?_
    rotate_left
    · intro w hSw
      obtain ⟨hs0, hs1⟩ := hSw
      go_simp
      first | done | with_reducible rfl
    simp only [Act.put, List.setIfInBounds_toArray, List.set_cons_zero, List.set_cons_succ]
    refine wpAnyS_take (i := 1) (v := ?_) rfl (by kernel_rfl) (by kernel_rfl) (by kernel_rfl) (by kernel_rfl) (fun _ _ _ h => h) (Or.inl ⟨by rfl, ?_⟩) hHeld ?_
    rotate_left
    · intro w hSw
      obtain ⟨hs0, hs1⟩ := hSw
      go_simp
      first | done | with_reducible rfl
    simp only [Act.put, List.setIfInBounds_toArray, List.set_cons_zero, List.set_cons_succ]
    refine wpAnyS_take (i := 2) (v := ?_) rfl (by kernel_rfl) (by kernel_rfl) (by kernel_rfl) (by kernel_rfl) (fun _ _ _ h => h) (Or.inl ⟨by rfl, ?_⟩) hHeld ?_
    rotate_left
    · intro w hSw
      obtain ⟨hs0, hs1⟩ := hSw
      go_simp
      first | done | with_reducible rfl
    simp only [Act.put, List.setIfInBounds_toArray, List.set_cons_zero, List.set_cons_succ]
    refine wpAnyS_take (i := 3) (v := ?_) rfl (by kernel_rfl) (by kernel_rfl) (by kernel_rfl) (by kernel_rfl) (fun _ _ _ h => h) (Or.inl ⟨by rfl, ?_⟩) hHeld ?_
    rotate_left
    · intro w hSw
      obtain ⟨hs0, hs1⟩ := hSw
      go_simp
      first | done | with_reducible rfl
    simp only [Act.put, List.setIfInBounds_toArray, List.set_cons_zero, List.set_cons_succ]
    refine wpAnyS_take (i := 4) (v := ?_) rfl (by kernel_rfl) (by kernel_rfl) (by kernel_rfl) (by kernel_rfl) (fun _ _ _ h => h) (Or.inl ⟨by rfl, ?_⟩) hHeld ?_
    rotate_left
    · intro w hSw
      obtain ⟨hs0, hs1⟩ := hSw
      go_simp
      first | done | with_reducible rfl
    simp only [Act.put, List.setIfInBounds_toArray, List.set_cons_zero, List.set_cons_succ]
    refine wpAnyS_take (i := 5) (v := ?_) rfl (by kernel_rfl) (by kernel_rfl) (by kernel_rfl) (by kernel_rfl) (fun _ _ _ h => h) (Or.inl ⟨by rfl, ?_⟩) hHeld ?_
    rotate_left
    · intro w hSw
      obtain ⟨hs0, hs1⟩ := hSw
      go_simp
      first | done | with_reducible rfl
    simp only [Act.put, List.setIfInBounds_toArray, List.set_cons_zero, List.set_cons_succ]
    refine wpAnyS_take (i := 6) (v := ?_) rfl (by kernel_rfl) (by kernel_rfl) (by kernel_rfl) (by kernel_rfl) (fun _ _ _ h => h) (Or.inl ⟨by rfl, ?_⟩) hHeld ?_
    rotate_left
    · intro w hSw
      obtain ⟨hs0, hs1⟩ := hSw
      go_simp
      first | done | with_reducible rfl
    simp only [Act.put, List.setIfInBounds_toArray, List.set_cons_zero, List.set_cons_succ]
    refine wpAnyS_ready (rs := [7]) (by kernel_rfl) (by simp) ?_
    refine AllReadyS.cons rfl (fun K hK => ?_) AllReadyS.nil
    go_simp
    have hz4 : B0 ≤ W4.heap.size := by have := hb0.lt; omega
    have hB6 : Below W4.heap.size W4 (W4.alloc (.cells #[.int .i64 f] 3)) := (Below.refl _ W4).alloc (Nat.le_refl _) _
    have hG0 : Blk (W4.alloc (.cells #[.int .i64 f] 3)) W4.heap.size 3 _ := Blk.new W4 3 #[.int .i64 f]
    have hs6 : (W4.alloc (.cells #[.int .i64 f] 3)).cell? ⟨Bs, 4, none⟩ = some (.slice Ao os.length co) ∧ (W4.alloc (.cells #[.int .i64 f] 3)).cell? ⟨W.heap.size, 0, none⟩ = some (.int .i64 f) := ⟨(h1.next hB6).blk.cell 4, (hb0.alloc _).cell 0⟩
    refine hK.out _ _ (fun _ => hs6) ?_
    replace h1 := h1.next hB6
    replace hB := hB.trans (hB6.mono hB.size)
    replace hb0 := hb0.alloc (.cells #[.int .i64 f] 3)
    replace hrd1 : RdCls (W4.alloc (.cells #[.int .i64 f] 3)) (fun b => b < B0) As sub := hrd1.keep fun b hb => ⟨fun _ => World.cell?_of_block (hB6.block b (by omega)), hb⟩
    clear hK hHeld hB6 hz4
    generalize hGz : W4.heap.size = G0 at *
    clear hGz
    generalize W4.alloc (.cells #[.int .i64 f] 3) = W6 at *
    try simp only [Act.put, List.setIfInBounds_toArray, List.set_cons_zero, List.set_cons_succ]
    refine wpAnyS_ready (rs := [8]) (by kernel_rfl) (by simp) ?_
    refine AllReadyS.cons rfl (fun K hK => ?_) AllReadyS.nil
    refine step_append_lies _ (by rfl) (.tmp 20) (.tmp 23) 28 (by rfl) B0 3 i0 _ 1 8 Try.underlying28 hi0 hz0 hz1 hz2 (by rfl) (by decide) (.slice Ao os.length co) os.length _ (by rfl) h1.own ⟨G0, 0, none⟩ 1 1 [.int .i64 f] (by rfl) (by rfl) (World.news_of_block (cs := #[.int .i64 f]) (t := 3) (fr := (0, 0)) hG0) (by simp [Value.oneCell']) (by omega) (by have := hPT.1; unfold maxLen; omega) (by have := hPT.1; omega) (by have := hB.size; omega) _ rfl ?_
    intro g cap w2 hown2 hgrow hg hgl
    have hs7 : w2.cell? ⟨Bs, 4, none⟩ = some (.slice Ao os.length co) ∧ w2.cell? ⟨W.heap.size, 0, none⟩ = some (.int .i64 f) := ⟨(World.cell?_of_block (hgrow.block Bs h1.blk.lt (fun e => h1.ne e.symm))).trans hs6.1, (World.cell?_of_block (hgrow.block W.heap.size hb0.lt (fun e => by have := hVlt _ e.symm; omega))).trans hs6.2⟩
    have hpush := h1.push f hgrow hown2 hg
    have hf4 : w2.frozen? ⟨Bs, 4, none⟩ = false := (h1.blk.grown hgrow (fun e => h1.ne e.symm)).frozen 4
    have hb9 : Blk (w2.setCell ⟨Bs, 4, none⟩ (.slice (some ⟨g, 0, none⟩) (os.length + 1) cap)) W.heap.size 35 _ := (hb0.grown hgrow (fun e => by have := hVlt _ e.symm; omega)).far (p := ⟨Bs, 4, none⟩) (by simp; omega) _
    have hb6B : RG Bs W (.slice Ao os.length co) W6 (.slice Ao os.length co) := .of_below hB
    have hold := h1.old hpush.2
    refine hK.out _ _ (fun _ => hs7) ?_
    have HP := Lib.hid hpush
    clear hK hs6 hown2 hgrow hpush h1 hb0 hB hG0 hg
    try simp only [Act.put, List.setIfInBounds_toArray, List.set_cons_zero, List.set_cons_succ]
    refine wpAnyS_take (i := 9) (v := ?_) rfl (by kernel_rfl) (by kernel_rfl) (by kernel_rfl) (by kernel_rfl) (fun _ _ _ h => h) (Or.inl ⟨by rfl, ?_⟩) hs7 ?_
    rotate_left
    · intro w hSw
      obtain ⟨hs0, hs1⟩ := hSw
      go_simp
      first | done | with_reducible rfl
    simp only [Act.put, List.setIfInBounds_toArray, List.set_cons_zero, List.set_cons_succ]
    refine wpAnyS_take (i := 10) (v := ?_) rfl (by kernel_rfl) (by kernel_rfl) (by kernel_rfl) (by kernel_rfl) (fun _ _ _ h => h) (Or.inl ⟨by rfl, ?_⟩) hs7 ?_
    rotate_left
    · intro w hSw
      obtain ⟨hs0, hs1⟩ := hSw
      go_simp
      first | done | with_reducible rfl
    simp only [Act.put, List.setIfInBounds_toArray, List.set_cons_zero, List.set_cons_succ]
    refine wpAnyS_ready (rs := [11]) (by kernel_rfl) (by simp) ?_
    obtain ⟨hq4, _⟩ := hs7
    refine AllReadyS.cons rfl (fun K hK => ?_) AllReadyS.nil
    go_simp
    refine hK.out _ _ (fun h => absurd h (by decide)) ?_
    refine wpAnyS_done (by kernel_rfl) ?_ _
    obtain ⟨hS9, hBl9⟩ := HP.out
    have hBW9 := hb6B.trans hBl9
    have hrd9 : RdCls (w2.setCell ⟨Bs, 4, none⟩ (.slice (some ⟨g, 0, none⟩) (os.length + 1) cap)) (fun b => b < B0) As sub := hrd1.keep fun b hb => ⟨fun _ => World.cell?_of_block (hold.block b hb), hb⟩
    clear hK HP hq4 hf4 hb6B hBl9 hrd1 hold
    generalize w2.setCell ⟨Bs, 4, none⟩ (.slice (some ⟨g, 0, none⟩) (os.length + 1) cap) = W9 at *
    have r0 : W9.cell? ⟨W.heap.size, 0, none⟩ = some (.int .i64 f) := hb9.cell 0
    have r1 : W9.cell? ⟨W.heap.size, 1, none⟩ = some (.int .i64 t) := hb9.cell 1
    have r3 : W9.cell? ⟨W.heap.size, 3, none⟩ = some (.slice As sub.length cs) := hb9.cell 3
    by_cases hft2 : f = t
    · have hd2 : (f == t) = true := by simp [hft2]
      have Hv2 := Lib.hid (show oneP ps os (.mk f t wi sub) = rightP ps (os ++ [f]) sub by rw [Hv.out, decide_eq_true hft2]; rfl)
      have hcall := ih W9 _ (os ++ [f]) hS9 (by simp; omega) hrd9
      generalize rightP ps (os ++ [f]) sub = q at *
      clear hft2 hft hb9 hS9 hrd9 ih Hv
      go_wp2_with fail
      refine hcall.mono ?_
      rintro e W10 ⟨rfl, V', hBl, hS10⟩
      obtain ⟨A5, c5, rfl, hSB5⟩ := hS10.form
      have hcap5 := hSB5.cap
      simp only [List.length_append, List.length_cons, List.length_nil, Nat.zero_add] at hS10 hcap5 hBl
      have hq : W10.cell? ⟨Bs, 4, none⟩ = some (.slice A5 (os.length + 1) c5) := hS10.blk.cell 4
      have hfz := hS10.blk.frozen 4
      have hsl := fun W => slice_to A5 (os.length + 1) os.length c5 (by omega) W
      obtain ⟨hS11, hBl11⟩ := hS10.cut
      have hBf := (hBW9.trans hBl).trans hBl11
      clear hcall hSB5 hS10 hBl hBl11 hBW9 r0 r1 r3
      go_wp2_with fail
      go_ret
      exact ⟨ret_bool Hv2.out.symm, _, hBf, hS11⟩
    · have hd2 : (f == t) = false := by simp [hft2]
      have Hv2 := Lib.hid (show oneP ps os (.mk f t wi sub) = false by rw [Hv.out, decide_eq_false hft2]; rfl)
      have hq : W9.cell? ⟨Bs, 4, none⟩ = some (.slice (some ⟨g, 0, none⟩) (os.length + 1) cap) := hS9.blk.cell 4
      have hfz := hS9.blk.frozen 4
      have hcap5 : os.length + 1 ≤ cap := by
        obtain ⟨A5, c5, e, hSB5⟩ := hS9.form
        injection e with _ _ e
        subst e
        simpa using hSB5.cap
      have hsl := fun W => slice_to (some ⟨g, 0, none⟩) (os.length + 1) os.length cap (by omega) W
      obtain ⟨hS11, hBl11⟩ := hS9.cut
      have hBf := hBW9.trans hBl11
      clear hft2 hft hb9 hS9 hrd9 ih Hv hBl11 hBW9
      go_wp2_with fail
      go_ret
      exact ⟨ret_bool Hv2.out.symm, _, hBf, hS11⟩
  · have hd1 : (wi == (-1 : Int)) = false := by simp [hwi]
    obtain ⟨W1, hW1⟩ : ∃ W1, W1 = W.alloc (.cells #[.int .i64 f, .int .i64 t, .int .i64 wi, .slice As sub.length cs] 35) := ⟨_, rfl⟩
    rw [← hW1] at hB hb0 h1 hSB
    have hBB : ∀ W', Below W1.heap.size W1 W' → RPost W (.slice Ao os.length co) Bs name mem F A ps c B0 os true (.returned (.bool true)) W' := fun W' hb =>
      ⟨rfl, _, .of_below (hB.trans (hb.mono hB.size)), h1.next hb⟩
    have HBB := Lib.hid hBB
    have H1 := Lib.hid h1
    have HSB := Lib.hid hSB
    have Hwi := Lib.hid hwi
    clear hBB h1 hB hrd1 hVlt ih hSB hwi
    by_cases hw0 : wi < 0
    · have hd2 : decide (wi < 0) = true := decide_eq_true hw0
      have Hv := Lib.hid (show oneP ps os (.mk f t wi sub) = false by rw [oneP, if_neg Hwi.out, if_pos (.inl hw0)])
      go_enter Try.func64, Try.ntmps64
      go_wp2_with fail
      go_ret
      exact ⟨ret_bool Hv.out.symm, hW1 ▸ (HBB.out _ (Below.refl _ _)).2⟩
    · have hd2 : decide (wi < 0) = false := decide_eq_false hw0
      by_cases hwn : (os.length : Int) ≤ wi
      · have hd3 : decide (wi ≥ (os.length : Int)) = true := decide_eq_true hwn
        have Hv := Lib.hid (show oneP ps os (.mk f t wi sub) = false by rw [oneP, if_neg Hwi.out, if_pos (.inr (.inl hwn))])
        go_enter Try.func64, Try.ntmps64
        go_wp2_with fail
        go_ret
        exact ⟨ret_bool Hv.out.symm, hW1 ▸ (HBB.out _ (Below.refl _ _)).2⟩
      · have hd3 : decide (wi ≥ (os.length : Int)) = false := decide_eq_false hwn
        by_cases hs0 : 0 < sub.length
        · have hd4 : decide ((sub.length : Int) > 0) = true := by simp; omega
          have Hv := Lib.hid (show oneP ps os (.mk f t wi sub) = false by rw [oneP, if_neg Hwi.out, if_pos (.inr (.inr hs0))])
          go_enter Try.func64, Try.ntmps64
          go_wp2_with fail
          go_ret
          exact ⟨ret_bool Hv.out.symm, hW1 ▸ (HBB.out _ (Below.refl _ _)).2⟩
        · have hd4 : decide ((sub.length : Int) > 0) = false := decide_eq_false (by omega)
          have Hv := Lib.hid (show oneP ps os (.mk f t wi sub) = allP ps os wi.toNat f t by rw [oneP, if_neg Hwi.out, if_neg (fun h => h.elim hw0 (fun h => h.elim hwn hs0))])
          obtain ⟨j, rfl⟩ : ∃ j : Nat, wi = j := ⟨wi.toNat, by omega⟩
          have hj : j < os.length := by omega
          simp only [Int.toNat_natCast] at Hv
          have hd5 : ¬ (os.length ≤ j ∨ 0 < sub.length) := fun h => h.elim (fun h => hwn (by omega)) hs0
          have hd6 : ¬ os.length ≤ j := fun h => hwn (by omega)
          have hd7 : ¬ 0 < sub.length := hs0
          clear hw0 hwn hs0 Hwi
          go_enter Try.func64, Try.ntmps64
          go_wp2_with fail
          rw [← hW1]
          clear hW1 q4
          go_loopw [7] (fun o wr => ∃ x : Int, f ≤ x ∧ x ≤ t + 1 ∧ o = .int .i64 x ∧ Below W1.heap.size W1 wr ∧ Hid (∀ y, f ≤ y → y < x → clashP ps os j y = true)) (fun o _ => (t + 1 - intOf o).toNat)
          case atStart => exact ⟨f, Int.le_refl _, by omega, rfl, Below.refl _ _, fun y h1 h2 => absurd h1 (by omega)⟩
          case round =>
            obtain ⟨x, hx1, hx2, rfl, hBr, hall⟩ := hrel
            have s1 : wr.cell? ⟨W.heap.size, 1, none⟩ = some (.int .i64 t) := (hb0.below hBr hb0.lt).cell 1
            have s2 : wr.cell? ⟨W.heap.size, 2, none⟩ = some (.int .i64 j) := (hb0.below hBr hb0.lt).cell 2
            by_cases hxt : x ≤ t
            · have hxd : decide (x ≤ t) = true := decide_eq_true hxt
              have hcl := clash_m (HSB.out.next hBr) j hj hn x
              have hwr := IntWalk.i64_in (x + 1) (by omega)
              cases hq : clashP ps os j x with
              | true =>
                have Hnx : Hid (∀ y, f ≤ y → y < x + 1 → clashP ps os j y = true) := fun y h1 h2 => by
                  by_cases e : y = x
                  · subst e; exact hq
                  · exact hall.out y h1 (by omega)
                rw [hq] at hcl
                clear hall hq
                go_wp2_with fail
                refine hcl.mono ?_
                rintro e w3 ⟨rfl, hb⟩
                have hB3 := hBr.trans (hb.mono hBr.size)
                clear hcl hb hBr s1 s2
                go_wp2_with fail
                go_roundw
                case rel => exact ⟨x + 1, by omega, by omega, by go_num, hB3, Hnx⟩
                case measure => simp [intOf]; omega
              | false =>
                have Hno := Lib.hid (Hv.out.trans (allP_no hx1 hxt hq))
                rw [hq] at hcl
                clear hall hq
                go_wp2_with fail
                refine hcl.mono ?_
                rintro e w3 ⟨rfl, hb⟩
                have hB3 := hBr.trans (hb.mono hBr.size)
                clear hcl hb hBr s1 s2
                go_wp2_with fail
                go_ret
                exact ⟨ret_bool Hno.out.symm, (HBB.out _ hB3).2⟩
            · have hxd : decide (x ≤ t) = false := decide_eq_false hxt
              have Hyes := Lib.hid (Hv.out.trans (allP_yes fun y h1 h2 => hall.out y h1 (by omega)))
              clear hall
              go_wp2_with fail
              go_ret
              exact ⟨ret_bool Hyes.out.symm, (HBB.out _ hBr).2⟩
end
end Go.Proofs.Ytlmbffnmjfbglab
/- A certificate: right, Check. -/
namespace Go.Proofs.Ytlmbffnmjfbglab
open Go.ChangeShapes Go.WideShapes Go.ChangeAt Go.RowKit

theorem and_no1 {p : Prop} [Decidable p] {b : Bool} (h : ¬ p) : (decide p && b) = false := by simp [h]
theorem and_no2 {a p : Prop} [Decidable a] [Decidable p] {b : Bool} (h : ¬ p) : (decide a && (decide p && b)) = false := by simp [h]
theorem and_no3 {a c p : Prop} [Decidable a] [Decidable c] [Decidable p] {b : Bool} (h : ¬ p) : (decide a && (decide c && (decide p && b))) = false := by simp [h]
theorem and_yes {a c p : Prop} [Decidable a] [Decidable c] [Decidable p] {b : Bool} (h1 : a) (h2 : c) (h3 : p) : (decide a && (decide c && (decide p && b))) = b := by simp [h1, h2, h3]

set_option maxRecDepth 100000 in
set_option maxHeartbeats 4000000 in
theorem right_c (Bs : Nat) (name : ByteArray) (mem F : Int) (A : Option Addr) (ps : List Part) (c B0 : Nat) (hPT : PT ps) : ∀ (N : Nat) (l : List Claim), sizeL l < N → ∀ (W : World) (V : Value) (os : List Int) (Ac : Option Addr) (cc : Nat), SO W Bs name mem F A ps c B0 V os → os.length ≤ ps.length → RdCls W (fun b => b < B0) Ac l → l.length ≤ 9223372036854775807 →
    Calls Try.prog 39 #[.pointer (some ⟨Bs, 0, none⟩), .slice Ac l.length cc] W (RPost W V Bs name mem F A ps c B0 os (rightP ps os l)) := by
  intro N
  induction N with
  | zero => intro l hl; omega
  | succ N ih =>
    intro l hN W V os Ac cc h hn hrd hlen
    obtain ⟨Ao, co, rfl, hSB⟩ := h.form
    obtain ⟨_, _, _, q3, q4, _⟩ := hSB.cells
    have IH := Lib.hid ih
    clear ih
    have hBs := h.blk.lt
    by_cases hlt : os.length < ps.length
    · have hd : decide ((os.length : Int) ≥ (ps.length : Int)) = false := decide_eq_false (by omega)
      have hd0 : ¬ ps.length ≤ os.length := by omega
      have hrp : rightP ps os l = goP ps os 0 l := by simp [rightP, hlt]
      obtain ⟨p, hp⟩ : ∃ p, p = ps[os.length] := ⟨_, rfl⟩
      obtain ⟨hp1, hp2, hp3⟩ := hPT.2 p (hp ▸ List.getElem_mem _)
      have hlp : lastP ps os.length = p.period - p.length := by simp [lastP, hlt, hp]
      have hla : ∀ W' V', SO W' Bs name mem F A ps c B0 V' os → Calls Try.prog 63 #[.pointer (some ⟨Bs, 0, none⟩), .int .i64 os.length] W' fun e w' => e = .returned (.int .i64 (lastP ps os.length)) ∧ ∃ n, w' = W'.drewN n := fun W' V' hS => by
        obtain ⟨A2, c2, _, hSB2⟩ := hS.form
        have := last_c hSB2 os.length hlt (by rw [← hp]; omega) (by rw [← hp]; omega) (by rw [← hp]; omega) (by rw [← hp]; omega)
        rw [← hp, ← hlp] at this
        exact this
      have hla0 : 0 ≤ lastP ps os.length ∧ lastP ps os.length ≤ 2000 := by rw [hlp]; omega
      have Hla := Lib.hid hla
      have Hrp := Lib.hid hrp
      have H := Lib.hid h
      have HN := Lib.hid hN
      have Hrd := Lib.hid hrd
      have Hlt := Lib.hid hlt
      clear hla hrp hlp hp1 hp2 hp3 hp hSB h hrd hN
      generalize hLA : lastP ps os.length = la at *
      have HLA := Lib.hid hLA
      clear hLA
      go_enter Try.func39, Try.ntmps39
      go_wp2_with fail
      go_loopw [6, 24] (fun nx i wr => ∃ (k : Nat) (x : Int) (V' : Value), k ≤ l.length ∧ i = .int .i64 k ∧ nx = .int .i64 x ∧ 0 ≤ x ∧ x ≤ 2001 ∧ Hid (RG Bs W (.slice Ao os.length co) wr V') ∧ Hid (SO wr Bs name mem F A ps c B0 V' os) ∧ Hid (goP ps os 0 l = goP ps os x (l.drop k))) (fun _ i _ => l.length - (intOf i).toNat)
      case atStart => exact ⟨0, 0, _, Nat.zero_le _, rfl, rfl, Int.le_refl _, by omega, .of_below (Below.refl _ _), H.out, rfl⟩
      case round =>
        obtain ⟨k, x, V', hk, rfl, rfl, hx0, hx1, hRG, hSO, hgo⟩ := hrel
        by_cases hkl : k < l.length
        · have hold := H.out.old hRG.out
          obtain ⟨b, o, rfl, hb, hrl⟩ := (Hrd.out.keep fun b hb => ⟨fun _ => World.cell?_of_block (hold.block b hb), hb⟩ : RdCls wr (fun b => b < B0) Ac l) (by omega)
          obtain ⟨c0, c1, c2, As, cs, c3, hs1, hs2, hsr⟩ := (RdL.at_ l o k hkl hrl).open'
          have hi0 : (0 : Int) ≤ (k : Int) := by omega
          have hi1 : (k : Int) < (l.length : Int) := by omega
          have hsz := sizeL_mem hkl
          rw [Claim.subN_sub] at hsz
          have hdr : l.drop k = l[k] :: l.drop (k + 1) := List.drop_eq_getElem_cons hkl
          have hgo2 : goP ps os 0 l = (decide (l[k].frm = x) && (decide (l[k].frm ≤ l[k].to) && (decide (l[k].to ≤ la) && (oneP ps os l[k] && goP ps os (l[k].to + 1) (l.drop (k + 1)))))) := by
            rw [hgo.out, hdr, goP, HLA.out]
          have hsub : sizeL l[k].sub < N := by have := HN.out; omega
          cases hcx : l[k] with
          | mk f t wi sub =>
          rw [hcx] at c0 c1 c2 c3 hs1 hsr hgo2 hsub
          simp only [Claim.frm, Claim.to, Claim.wth, Claim.sub] at c0 c1 c2 c3 hs1 hs2 hsr hgo2 hsub
          clear hdr hgo hsz hrl hold hcx hb
          go_wp2_with fail
          have hBl : Below wr.heap.size wr (wr.alloc (.cells #[.int .i64 f, .int .i64 t, .int .i64 wi, .slice As sub.length cs] 35)) := (Below.refl _ _).alloc (Nat.le_refl _) _
          have hbx : Blk (wr.alloc (.cells #[.int .i64 f, .int .i64 t, .int .i64 wi, .slice As sub.length cs] 35)) wr.heap.size 35 #[.int .i64 f, .int .i64 t, .int .i64 wi, .slice As sub.length cs] := Blk.new wr 35 _
          generalize wr.alloc (.cells #[.int .i64 f, .int .i64 t, .int .i64 wi, .slice As sub.length cs] 35) = W1 at *
          refine wp_region_S (fun W' => W'.cell? ⟨wr.heap.size, 0, none⟩ = some (.int .i64 f) ∧ W'.cell? ⟨wr.heap.size, 1, none⟩ = some (.int .i64 t) ∧ W'.cell? ⟨wr.heap.size, 2, none⟩ = some (.int .i64 wi) ∧ W'.cell? ⟨wr.heap.size, 3, none⟩ = some (.slice As sub.length cs)) 22 (by kernel_rfl) ⟨hbx.cell 0, hbx.cell 1, hbx.cell 2, hbx.cell 3⟩ (fun hHeld => ?_)
          replace hBl := hBl.drew
          replace hbx := hbx.drew
          generalize W1.drew = W4 at *
          have hRG4 : RG Bs W (.slice Ao os.length co) W4 V' := hRG.out.trans (.of_below hBl)
          have hSO4 := hSO.out.next hBl
          have hVX : ∀ b, V'.ownBlock = some b → b < wr.heap.size := fun b hb => (hSO.out.own.lt b hb).2
          have hBX : Bs < wr.heap.size := hSO.out.blk.lt
          have hsr4 : RdCls W4 (fun b => b < B0) As sub := RdCls.keep (w := wr) (w' := W4) (fun b hb => ⟨fun _ => World.cell?_of_block (hBl.block b (by have := hSO.out.le; omega)), hb⟩) hsr
          clear c0 c1 c2 c3 hsr hRG hSO hBl
          have hz4 := hbx.lt
          have hwrX : wr.heap.size = wr.heap.size := rfl
          clear hwrX
          generalize wr.heap.size = X at *
          refine wpAnyS_take (i := 0) (v := ?_) rfl (by kernel_rfl) (by kernel_rfl) (by kernel_rfl) (by kernel_rfl) (fun _ _ _ h => h) (Or.inl ⟨by kernel_rfl, ?_⟩) hHeld ?_
          rotate_left
          · intro w hSw
            obtain ⟨hs0, hs1, hs2, hs3⟩ := hSw
            go_simp
            first | done | with_reducible rfl
          simp only [Act.put, List.setIfInBounds_toArray, List.set_cons_zero, List.set_cons_succ]
          refine wpAnyS_take (i := 1) (v := ?_) rfl (by kernel_rfl) (by kernel_rfl) (by kernel_rfl) (by kernel_rfl) (fun _ _ _ h => h) (Or.inl ⟨by kernel_rfl, ?_⟩) hHeld ?_
          rotate_left
          · intro w hSw
            obtain ⟨hs0, hs1, hs2, hs3⟩ := hSw
            go_simp
            first | done | with_reducible rfl
          simp only [Act.put, List.setIfInBounds_toArray, List.set_cons_zero, List.set_cons_succ]
          refine wpAnyS_take (i := 2) (v := ?_) rfl (by kernel_rfl) (by kernel_rfl) (by kernel_rfl) (by kernel_rfl) (fun _ _ _ h => h) (Or.inl ⟨by kernel_rfl, ?_⟩) hHeld ?_
          rotate_left
          · intro w hSw
            obtain ⟨hs0, hs1, hs2, hs3⟩ := hSw
            go_simp
            first | done | with_reducible rfl
          simp only [Act.put, List.setIfInBounds_toArray, List.set_cons_zero, List.set_cons_succ]
          by_cases hfx : f = x
          · have hne : (f != x) = false := by simp [hfx]
            have hf0 : 0 ≤ f := by omega
            have HF := Lib.hid hfx
            clear hfx
            refine wpAnyS_take (i := 3) (v := ?_) rfl (by kernel_rfl) (by kernel_rfl) (by kernel_rfl) (by kernel_rfl) (fun _ _ _ h => h) (Or.inl ⟨by kernel_rfl, ?_⟩) hHeld ?_
            rotate_left
            · intro w hSw
              obtain ⟨hs0, hs1, hs2, hs3⟩ := hSw
              go_simp
              first | done | with_reducible rfl
            simp only [Act.put, List.setIfInBounds_toArray, List.set_cons_zero, List.set_cons_succ]
            refine wpAnyS_take (i := 4) (v := ?_) rfl (by kernel_rfl) (by kernel_rfl) (by kernel_rfl) (by kernel_rfl) (fun _ _ _ h => h) (Or.inl ⟨by kernel_rfl, ?_⟩) hHeld ?_
            rotate_left
            · intro w hSw
              obtain ⟨hs0, hs1, hs2, hs3⟩ := hSw
              go_simp
              first | done | with_reducible rfl
            simp only [Act.put, List.setIfInBounds_toArray, List.set_cons_zero, List.set_cons_succ]
            refine wpAnyS_take (i := 5) (v := ?_) rfl (by kernel_rfl) (by kernel_rfl) (by kernel_rfl) (by kernel_rfl) (fun _ _ _ h => h) (Or.inl ⟨by kernel_rfl, ?_⟩) hHeld ?_
            rotate_left
            · intro w hSw
              obtain ⟨hs0, hs1, hs2, hs3⟩ := hSw
              go_simp
              first | done | with_reducible rfl
            simp only [Act.put, List.setIfInBounds_toArray, List.set_cons_zero, List.set_cons_succ]
            refine wpAnyS_take (i := 6) (v := ?_) rfl (by kernel_rfl) (by kernel_rfl) (by kernel_rfl) (by kernel_rfl) (fun _ _ _ h => h) (Or.inl ⟨by kernel_rfl, ?_⟩) hHeld ?_
            rotate_left
            · intro w hSw
              obtain ⟨hs0, hs1, hs2, hs3⟩ := hSw
              go_simp
              first | done | with_reducible rfl
            simp only [Act.put, List.setIfInBounds_toArray, List.set_cons_zero, List.set_cons_succ]
            refine wpAnyS_take (i := 7) (v := ?_) rfl (by kernel_rfl) (by kernel_rfl) (by kernel_rfl) (by kernel_rfl) (fun _ _ _ h => h) (Or.inl ⟨by kernel_rfl, ?_⟩) hHeld ?_
            rotate_left
            · intro w hSw
              obtain ⟨hs0, hs1, hs2, hs3⟩ := hSw
              go_simp
              first | done | with_reducible rfl
            simp only [Act.put, List.setIfInBounds_toArray, List.set_cons_zero, List.set_cons_succ]
            refine wpAnyS_take (i := 8) (v := ?_) rfl (by kernel_rfl) (by kernel_rfl) (by kernel_rfl) (by kernel_rfl) (fun _ _ _ h => h) (Or.inl ⟨by kernel_rfl, ?_⟩) hHeld ?_
            rotate_left
            · intro w hSw
              obtain ⟨hs0, hs1, hs2, hs3⟩ := hSw
              go_simp
              first | done | with_reducible rfl
            simp only [Act.put, List.setIfInBounds_toArray, List.set_cons_zero, List.set_cons_succ]
            by_cases htf : t < f
            · have hlt2 : decide (t < f) = true := decide_eq_true htf
              have Hv := Lib.hid (show rightP ps os l = false from Hrp.out.trans (hgo2.trans (and_no2 (show ¬ f ≤ t by omega))))
              refine wpAnyS_take (i := 9) (v := ?_) rfl (by kernel_rfl) (by kernel_rfl) (by kernel_rfl) (by kernel_rfl) (fun _ _ _ h => h) (Or.inl ⟨by kernel_rfl, ?_⟩) hHeld ?_
              rotate_left
              · intro w hSw
                obtain ⟨hs0, hs1, hs2, hs3⟩ := hSw
                go_simp
                first | done | with_reducible rfl
              simp only [Act.put, List.setIfInBounds_toArray, List.set_cons_zero, List.set_cons_succ]
              refine wpAnyS_take (i := 10) (v := ?_) rfl (by kernel_rfl) (by kernel_rfl) (by kernel_rfl) (by kernel_rfl) (fun _ _ _ h => h) (Or.inl ⟨by kernel_rfl, ?_⟩) hHeld ?_
              rotate_left
              · intro w hSw
                obtain ⟨hs0, hs1, hs2, hs3⟩ := hSw
                go_simp
                first | done | with_reducible rfl
              simp only [Act.put, List.setIfInBounds_toArray, List.set_cons_zero, List.set_cons_succ]
              refine wpAnyS_take (i := 11) (v := ?_) rfl (by kernel_rfl) (by kernel_rfl) (by kernel_rfl) (by kernel_rfl) (fun _ _ _ h => h) (Or.inl ⟨by kernel_rfl, ?_⟩) hHeld ?_
              rotate_left
              · intro w hSw
                obtain ⟨hs0, hs1, hs2, hs3⟩ := hSw
                go_simp
                first | done | with_reducible rfl
              simp only [Act.put, List.setIfInBounds_toArray, List.set_cons_zero, List.set_cons_succ]
              refine wpAnyS_take (i := 12) (v := undef) rfl (by kernel_rfl) (by kernel_rfl) (by kernel_rfl) (by kernel_rfl) (fun _ _ _ h => h) (Or.inr ⟨by kernel_rfl, rfl⟩) hHeld ?_
              simp only [Act.put, List.setIfInBounds_toArray, List.set_cons_zero, List.set_cons_succ]
              refine wpAnyS_take (i := 13) (v := undef) rfl (by kernel_rfl) (by kernel_rfl) (by kernel_rfl) (by kernel_rfl) (fun _ _ _ h => h) (Or.inr ⟨by kernel_rfl, rfl⟩) hHeld ?_
              simp only [Act.put, List.setIfInBounds_toArray, List.set_cons_zero, List.set_cons_succ]
              refine wpAnyS_take (i := 14) (v := undef) rfl (by kernel_rfl) (by kernel_rfl) (by kernel_rfl) (by kernel_rfl) (fun _ _ _ h => h) (Or.inr ⟨by kernel_rfl, rfl⟩) hHeld ?_
              simp only [Act.put, List.setIfInBounds_toArray, List.set_cons_zero, List.set_cons_succ]
              refine wpAnyS_take (i := 15) (v := undef) rfl (by kernel_rfl) (by kernel_rfl) (by kernel_rfl) (by kernel_rfl) (fun _ _ _ h => h) (Or.inr ⟨by kernel_rfl, rfl⟩) hHeld ?_
              simp only [Act.put, List.setIfInBounds_toArray, List.set_cons_zero, List.set_cons_succ]
              refine wpAnyS_take (i := 16) (v := undef) rfl (by kernel_rfl) (by kernel_rfl) (by kernel_rfl) (by kernel_rfl) (fun _ _ _ h => h) (Or.inr ⟨by kernel_rfl, rfl⟩) hHeld ?_
              simp only [Act.put, List.setIfInBounds_toArray, List.set_cons_zero, List.set_cons_succ]
              refine wpAnyS_take (i := 17) (v := undef) rfl (by kernel_rfl) (by kernel_rfl) (by kernel_rfl) (by kernel_rfl) (fun _ _ _ h => h) (Or.inr ⟨by kernel_rfl, rfl⟩) hHeld ?_
              simp only [Act.put, List.setIfInBounds_toArray, List.set_cons_zero, List.set_cons_succ]
              refine wpAnyS_take (i := 18) (v := ?_) rfl (by kernel_rfl) (by kernel_rfl) (by kernel_rfl) (by kernel_rfl) (fun _ _ _ h => h) (Or.inl ⟨by kernel_rfl, ?_⟩) hHeld ?_
              rotate_left
              · intro w hSw
                obtain ⟨hs0, hs1, hs2, hs3⟩ := hSw
                go_simp
                first | done | with_reducible rfl
              simp only [Act.put, List.setIfInBounds_toArray, List.set_cons_zero, List.set_cons_succ]
              refine wpAnyS_take (i := 19) (v := ?_) rfl (by kernel_rfl) (by kernel_rfl) (by kernel_rfl) (by kernel_rfl) (fun _ _ _ h => h) (Or.inl ⟨by kernel_rfl, ?_⟩) hHeld ?_
              rotate_left
              · intro w hSw
                obtain ⟨hs0, hs1, hs2, hs3⟩ := hSw
                go_simp
                first | done | with_reducible rfl
              simp only [Act.put, List.setIfInBounds_toArray, List.set_cons_zero, List.set_cons_succ]
              refine wpAnyS_take (i := 20) (v := undef) rfl (by kernel_rfl) (by kernel_rfl) (by kernel_rfl) (by kernel_rfl) (fun _ _ _ h => h) (Or.inr ⟨by kernel_rfl, rfl⟩) hHeld ?_
              simp only [Act.put, List.setIfInBounds_toArray, List.set_cons_zero, List.set_cons_succ]
              refine wpAnyS_take (i := 21) (v := undef) rfl (by kernel_rfl) (by kernel_rfl) (by kernel_rfl) (by kernel_rfl) (fun _ _ _ h => h) (Or.inr ⟨by kernel_rfl, rfl⟩) hHeld ?_
              simp only [Act.put, List.setIfInBounds_toArray, List.set_cons_zero, List.set_cons_succ]
              refine wpAnyS_ready (rs := [22]) (by kernel_rfl) (by simp) ?_
              refine AllReadyS.cons rfl (fun K hK => ?_) AllReadyS.nil
              go_simp
              refine hK.out _ _ (fun h => absurd h (by decide)) ?_
              clear hK
              try simp only [Act.put, List.setIfInBounds_toArray, List.set_cons_zero, List.set_cons_succ]
              refine wpAnyS_ready (rs := [23]) (by kernel_rfl) (by simp) ?_
              refine AllReadyS.cons rfl (fun K hK => ?_) AllReadyS.nil
              go_simp
              refine hK.out _ _ (fun h => absurd h (by decide)) ?_
              clear hK
              try simp only [Act.put, List.setIfInBounds_toArray, List.set_cons_zero, List.set_cons_succ]
              refine wpAnyS_ready (rs := [24]) (by kernel_rfl) (by simp) ?_
              refine AllReadyS.cons rfl (fun K hK => ?_) AllReadyS.nil
              go_simp
              refine hK.out _ _ (fun h => absurd h (by decide)) ?_
              clear hK
              try simp only [Act.put, List.setIfInBounds_toArray, List.set_cons_zero, List.set_cons_succ]
              refine wpAnyS_done (by kernel_rfl) ?_ _
              have HR4 := Lib.hid hRG4
              have HS4 := Lib.hid hSO4
              clear hRG4 hSO4 hgo2
              go_wp2_with fail
              go_ret
              exact ⟨ret_bool Hv.out.symm, _, HR4.out, HS4.out⟩
            · have hlt2 : decide (t < f) = false := decide_eq_false htf
              refine wpAnyS_take (i := 9) (v := ?_) rfl (by kernel_rfl) (by kernel_rfl) (by kernel_rfl) (by kernel_rfl) (fun _ _ _ h => h) (Or.inl ⟨by kernel_rfl, ?_⟩) hHeld ?_
              rotate_left
              · intro w hSw
                obtain ⟨hs0, hs1, hs2, hs3⟩ := hSw
                go_simp
                first | done | with_reducible rfl
              simp only [Act.put, List.setIfInBounds_toArray, List.set_cons_zero, List.set_cons_succ]
              refine wpAnyS_take (i := 10) (v := ?_) rfl (by kernel_rfl) (by kernel_rfl) (by kernel_rfl) (by kernel_rfl) (fun _ _ _ h => h) (Or.inl ⟨by kernel_rfl, ?_⟩) hHeld ?_
              rotate_left
              · intro w hSw
                obtain ⟨hs0, hs1, hs2, hs3⟩ := hSw
                go_simp
                first | done | with_reducible rfl
              simp only [Act.put, List.setIfInBounds_toArray, List.set_cons_zero, List.set_cons_succ]
              refine wpAnyS_take (i := 11) (v := ?_) rfl (by kernel_rfl) (by kernel_rfl) (by kernel_rfl) (by kernel_rfl) (fun _ _ _ h => h) (Or.inl ⟨by kernel_rfl, ?_⟩) hHeld ?_
              rotate_left
              · intro w hSw
                obtain ⟨hs0, hs1, hs2, hs3⟩ := hSw
                go_simp
                first | done | with_reducible rfl
              simp only [Act.put, List.setIfInBounds_toArray, List.set_cons_zero, List.set_cons_succ]
              refine wpAnyS_take (i := 12) (v := ?_) rfl (by kernel_rfl) (by kernel_rfl) (by kernel_rfl) (by kernel_rfl) (fun _ _ _ h => h) (Or.inl ⟨by kernel_rfl, ?_⟩) hHeld ?_
              rotate_left
              · intro w hSw
                obtain ⟨hs0, hs1, hs2, hs3⟩ := hSw
                go_simp
                first | done | with_reducible rfl
              simp only [Act.put, List.setIfInBounds_toArray, List.set_cons_zero, List.set_cons_succ]
              refine wpAnyS_take (i := 13) (v := ?_) rfl (by kernel_rfl) (by kernel_rfl) (by kernel_rfl) (by kernel_rfl) (fun _ _ _ h => h) (Or.inl ⟨by kernel_rfl, ?_⟩) hHeld ?_
              rotate_left
              · intro w hSw
                obtain ⟨hs0, hs1, hs2, hs3⟩ := hSw
                go_simp
                first | done | with_reducible rfl
              simp only [Act.put, List.setIfInBounds_toArray, List.set_cons_zero, List.set_cons_succ]
              refine wpAnyS_take (i := 14) (v := ?_) rfl (by kernel_rfl) (by kernel_rfl) (by kernel_rfl) (by kernel_rfl) (fun _ _ _ h => h) (Or.inl ⟨by kernel_rfl, ?_⟩) hHeld ?_
              rotate_left
              · intro w hSw
                obtain ⟨hs0, hs1, hs2, hs3⟩ := hSw
                go_simp
                first | done | with_reducible rfl
              simp only [Act.put, List.setIfInBounds_toArray, List.set_cons_zero, List.set_cons_succ]
              refine wpAnyS_take (i := 15) (v := ?_) rfl (by kernel_rfl) (by kernel_rfl) (by kernel_rfl) (by kernel_rfl) (fun _ _ _ h => h) (Or.inl ⟨by kernel_rfl, ?_⟩) hHeld ?_
              rotate_left
              · intro w hSw
                obtain ⟨hs0, hs1, hs2, hs3⟩ := hSw
                go_simp
                first | done | with_reducible rfl
              simp only [Act.put, List.setIfInBounds_toArray, List.set_cons_zero, List.set_cons_succ]
              refine wpAnyS_ready (rs := [16]) (by kernel_rfl) (by simp) ?_
              refine AllReadyS.cons rfl (fun K hK => ?_) AllReadyS.nil
              go_simp
              refine (Hla.out W4 V' hSO4).mono ?_
              rintro e W5 ⟨rfl, nq, rfl⟩
              dsimp only
              replace hRG4 := hRG4.trans (.of_below (below_drewN (Below.refl _ _) nq))
              replace hSO4 := hSO4.next (below_drewN (Below.refl _ _) nq)
              replace hbx := hbx.drewN nq
              replace hsr4 : RdCls (W4.drewN nq) (fun b => b < B0) As sub := RdCls.keep (w := W4) (w' := W4.drewN nq) (fun b hb => ⟨fun _ => rfl, hb⟩) hsr4
              replace hz4 := hbx.lt
              generalize W4.drewN nq = W5 at *
              have hH5 : W5.cell? ⟨X, 0, none⟩ = some (.int .i64 f) ∧ W5.cell? ⟨X, 1, none⟩ = some (.int .i64 t) ∧ W5.cell? ⟨X, 2, none⟩ = some (.int .i64 wi) ∧ W5.cell? ⟨X, 3, none⟩ = some (.slice As sub.length cs) := ⟨hbx.cell 0, hbx.cell 1, hbx.cell 2, hbx.cell 3⟩
              refine hK.out _ _ (fun _ => hH5) ?_
              clear hK hHeld
              try simp only [Act.put, List.setIfInBounds_toArray, List.set_cons_zero, List.set_cons_succ]
              by_cases htl : la < t
              · have hgt2 : decide (t > la) = true := decide_eq_true htl
                have Hv := Lib.hid (show rightP ps os l = false from Hrp.out.trans (hgo2.trans (and_no3 (show ¬ t ≤ la by omega))))
                refine wpAnyS_take (i := 17) (v := ?_) rfl (by kernel_rfl) (by kernel_rfl) (by kernel_rfl) (by kernel_rfl) (fun _ _ _ h => h) (Or.inl ⟨by kernel_rfl, ?_⟩) hH5 ?_
                rotate_left
                · intro w hSw
                  obtain ⟨hs0, hs1, hs2, hs3⟩ := hSw
                  go_simp
                  first | done | with_reducible rfl
                simp only [Act.put, List.setIfInBounds_toArray, List.set_cons_zero, List.set_cons_succ]
                refine wpAnyS_take (i := 18) (v := ?_) rfl (by kernel_rfl) (by kernel_rfl) (by kernel_rfl) (by kernel_rfl) (fun _ _ _ h => h) (Or.inl ⟨by kernel_rfl, ?_⟩) hH5 ?_
                rotate_left
                · intro w hSw
                  obtain ⟨hs0, hs1, hs2, hs3⟩ := hSw
                  go_simp
                  first | done | with_reducible rfl
                simp only [Act.put, List.setIfInBounds_toArray, List.set_cons_zero, List.set_cons_succ]
                refine wpAnyS_take (i := 19) (v := ?_) rfl (by kernel_rfl) (by kernel_rfl) (by kernel_rfl) (by kernel_rfl) (fun _ _ _ h => h) (Or.inl ⟨by kernel_rfl, ?_⟩) hH5 ?_
                rotate_left
                · intro w hSw
                  obtain ⟨hs0, hs1, hs2, hs3⟩ := hSw
                  go_simp
                  first | done | with_reducible rfl
                simp only [Act.put, List.setIfInBounds_toArray, List.set_cons_zero, List.set_cons_succ]
                refine wpAnyS_take (i := 20) (v := undef) rfl (by kernel_rfl) (by kernel_rfl) (by kernel_rfl) (by kernel_rfl) (fun _ _ _ h => h) (Or.inr ⟨by kernel_rfl, rfl⟩) hH5 ?_
                simp only [Act.put, List.setIfInBounds_toArray, List.set_cons_zero, List.set_cons_succ]
                refine wpAnyS_take (i := 21) (v := undef) rfl (by kernel_rfl) (by kernel_rfl) (by kernel_rfl) (by kernel_rfl) (fun _ _ _ h => h) (Or.inr ⟨by kernel_rfl, rfl⟩) hH5 ?_
                simp only [Act.put, List.setIfInBounds_toArray, List.set_cons_zero, List.set_cons_succ]
                refine wpAnyS_ready (rs := [22]) (by kernel_rfl) (by simp) ?_
                refine AllReadyS.cons rfl (fun K hK => ?_) AllReadyS.nil
                go_simp
                refine hK.out _ _ (fun h => absurd h (by decide)) ?_
                clear hK
                try simp only [Act.put, List.setIfInBounds_toArray, List.set_cons_zero, List.set_cons_succ]
                refine wpAnyS_ready (rs := [23]) (by kernel_rfl) (by simp) ?_
                refine AllReadyS.cons rfl (fun K hK => ?_) AllReadyS.nil
                go_simp
                refine hK.out _ _ (fun h => absurd h (by decide)) ?_
                clear hK
                try simp only [Act.put, List.setIfInBounds_toArray, List.set_cons_zero, List.set_cons_succ]
                refine wpAnyS_ready (rs := [24]) (by kernel_rfl) (by simp) ?_
                refine AllReadyS.cons rfl (fun K hK => ?_) AllReadyS.nil
                go_simp
                refine hK.out _ _ (fun h => absurd h (by decide)) ?_
                clear hK
                try simp only [Act.put, List.setIfInBounds_toArray, List.set_cons_zero, List.set_cons_succ]
                refine wpAnyS_done (by kernel_rfl) ?_ _
                have HR4 := Lib.hid hRG4
                have HS4 := Lib.hid hSO4
                clear hRG4 hSO4 hgo2
                go_wp2_with fail
                go_ret
                exact ⟨ret_bool Hv.out.symm, _, HR4.out, HS4.out⟩
              · have hgt2 : decide (t > la) = false := decide_eq_false htl
                have hgo3 := hgo2.trans (and_yes HF.out (show f ≤ t by omega) (show t ≤ la by omega))
                have hone := one_c hPT f t wi sub As cs (fun W2 V2 os2 h1 h2 h3 => IH.out sub hsub W2 V2 os2 As cs h1 h2 h3 (by unfold maxLen at hs2; omega)) hSO4 Hlt.out (by omega) (by omega) (by omega) (by unfold maxLen at hs2; omega) hsr4
                refine wpAnyS_take (i := 17) (v := ?_) rfl (by kernel_rfl) (by kernel_rfl) (by kernel_rfl) (by kernel_rfl) (fun _ _ _ h => h) (Or.inl ⟨by kernel_rfl, ?_⟩) hH5 ?_
                rotate_left
                · intro w hSw
                  obtain ⟨hs0, hs1, hs2, hs3⟩ := hSw
                  go_simp
                  first | done | with_reducible rfl
                simp only [Act.put, List.setIfInBounds_toArray, List.set_cons_zero, List.set_cons_succ]
                refine wpAnyS_take (i := 18) (v := ?_) rfl (by kernel_rfl) (by kernel_rfl) (by kernel_rfl) (by kernel_rfl) (fun _ _ _ h => h) (Or.inl ⟨by kernel_rfl, ?_⟩) hH5 ?_
                rotate_left
                · intro w hSw
                  obtain ⟨hs0, hs1, hs2, hs3⟩ := hSw
                  go_simp
                  first | done | with_reducible rfl
                simp only [Act.put, List.setIfInBounds_toArray, List.set_cons_zero, List.set_cons_succ]
                refine wpAnyS_take (i := 19) (v := ?_) rfl (by kernel_rfl) (by kernel_rfl) (by kernel_rfl) (by kernel_rfl) (fun _ _ _ h => h) (Or.inl ⟨by kernel_rfl, ?_⟩) hH5 ?_
                rotate_left
                · intro w hSw
                  obtain ⟨hs0, hs1, hs2, hs3⟩ := hSw
                  go_simp
                  first | done | with_reducible rfl
                simp only [Act.put, List.setIfInBounds_toArray, List.set_cons_zero, List.set_cons_succ]
                refine wpAnyS_take (i := 20) (v := ?_) rfl (by kernel_rfl) (by kernel_rfl) (by kernel_rfl) (by kernel_rfl) (fun _ _ _ h => h) (Or.inl ⟨by kernel_rfl, ?_⟩) hH5 ?_
                rotate_left
                · intro w hSw
                  obtain ⟨hs0, hs1, hs2, hs3⟩ := hSw
                  go_simp
                  first | done | with_reducible rfl
                simp only [Act.put, List.setIfInBounds_toArray, List.set_cons_zero, List.set_cons_succ]
                refine wpAnyS_take (i := 21) (v := ?_) rfl (by kernel_rfl) (by kernel_rfl) (by kernel_rfl) (by kernel_rfl) (fun _ _ _ h => h) (Or.inl ⟨by kernel_rfl, ?_⟩) hH5 ?_
                rotate_left
                · intro w hSw
                  obtain ⟨hs0, hs1, hs2, hs3⟩ := hSw
                  go_simp
                  first | done | with_reducible rfl
                simp only [Act.put, List.setIfInBounds_toArray, List.set_cons_zero, List.set_cons_succ]
                refine wpAnyS_ready (rs := [22]) (by kernel_rfl) (by simp) ?_
                refine AllReadyS.cons rfl (fun K hK => ?_) AllReadyS.nil
                go_simp
                refine hone.mono ?_
                rintro e W6 ⟨rfl, V6, hRG6, hSO6⟩
                dsimp only
                refine hK.out _ _ (fun h => absurd h (by decide)) ?_
                have hbx6 : Blk W6 X 35 #[.int .i64 f, .int .i64 t, .int .i64 wi, .slice As sub.length cs] := (hRG6.gr.block X hz4 (fun e => by
                  rcases e with e | e
                  · omega
                  · have := hVX X e; omega)).trans hbx
                have hRG7 := hRG4.trans hRG6
                have hc1 : W6.cell? ⟨X, 1, none⟩ = some (.int .i64 t) := hbx6.cell 1
                have HR7 := Lib.hid hRG7
                have HS6 := Lib.hid hSO6
                have hwt := IntWalk.i64_in (t + 1) (by omega)
                clear hK hone hRG6 hRG4 hSO4 hbx hbx6 hRG7 hSO6 hsr4 hH5
                cases hq : oneP ps os (.mk f t wi sub) with
                | false =>
                  have Hv := Lib.hid (show rightP ps os l = false from Hrp.out.trans (hgo3.trans (by rw [hq]; rfl)))
                  clear hgo2 hgo3 hq
                  try simp only [Act.put, List.setIfInBounds_toArray, List.set_cons_zero, List.set_cons_succ]
                  refine wpAnyS_ready (rs := [23]) (by kernel_rfl) (by simp) ?_
                  refine AllReadyS.cons rfl (fun K hK => ?_) AllReadyS.nil
                  go_simp
                  refine hK.out _ _ (fun h => absurd h (by decide)) ?_
                  clear hK
                  try simp only [Act.put, List.setIfInBounds_toArray, List.set_cons_zero, List.set_cons_succ]
                  refine wpAnyS_ready (rs := [24]) (by kernel_rfl) (by simp) ?_
                  refine AllReadyS.cons rfl (fun K hK => ?_) AllReadyS.nil
                  go_simp
                  refine hK.out _ _ (fun h => absurd h (by decide)) ?_
                  clear hK
                  try simp only [Act.put, List.setIfInBounds_toArray, List.set_cons_zero, List.set_cons_succ]
                  refine wpAnyS_done (by kernel_rfl) ?_ _
                  go_wp2_with fail
                  go_ret
                  exact ⟨ret_bool Hv.out.symm, _, HR7.out, HS6.out⟩
                | true =>
                  have Hgo := Lib.hid (show goP ps os 0 l = goP ps os (t + 1) (l.drop (k + 1)) from hgo3.trans (by rw [hq]; rfl))
                  clear hgo2 hgo3 hq
                  try simp only [Act.put, List.setIfInBounds_toArray, List.set_cons_zero, List.set_cons_succ]
                  refine wpAnyS_ready (rs := [23]) (by kernel_rfl) (by simp) ?_
                  refine AllReadyS.cons rfl (fun K hK => ?_) AllReadyS.nil
                  go_simp
                  refine hK.out _ _ (fun h => absurd h (by decide)) ?_
                  clear hK
                  try simp only [Act.put, List.setIfInBounds_toArray, List.set_cons_zero, List.set_cons_succ]
                  refine wpAnyS_ready (rs := [24]) (by kernel_rfl) (by simp) ?_
                  refine AllReadyS.cons rfl (fun K hK => ?_) AllReadyS.nil
                  go_simp
                  refine hK.out _ _ (fun h => absurd h (by decide)) ?_
                  clear hK
                  try simp only [Act.put, List.setIfInBounds_toArray, List.set_cons_zero, List.set_cons_succ]
                  refine wpAnyS_done (by kernel_rfl) ?_ _
                  go_wp2_with fail
                  go_roundw
                  case rel => exact ⟨k + 1, t + 1, V6, by omega, by go_num, rfl, by omega, by omega, HR7.out, HS6.out, Hgo.out⟩
                  case measure => simp [intOf]; omega
          · have hne : (f != x) = true := by simp [hfx]
            have Hv := Lib.hid (show rightP ps os l = false from Hrp.out.trans (hgo2.trans (and_no1 hfx)))
            refine wpAnyS_take (i := 3) (v := ?_) rfl (by kernel_rfl) (by kernel_rfl) (by kernel_rfl) (by kernel_rfl) (fun _ _ _ h => h) (Or.inl ⟨by kernel_rfl, ?_⟩) hHeld ?_
            rotate_left
            · intro w hSw
              obtain ⟨hs0, hs1, hs2, hs3⟩ := hSw
              go_simp
              first | done | with_reducible rfl
            simp only [Act.put, List.setIfInBounds_toArray, List.set_cons_zero, List.set_cons_succ]
            refine wpAnyS_take (i := 4) (v := ?_) rfl (by kernel_rfl) (by kernel_rfl) (by kernel_rfl) (by kernel_rfl) (fun _ _ _ h => h) (Or.inl ⟨by kernel_rfl, ?_⟩) hHeld ?_
            rotate_left
            · intro w hSw
              obtain ⟨hs0, hs1, hs2, hs3⟩ := hSw
              go_simp
              first | done | with_reducible rfl
            simp only [Act.put, List.setIfInBounds_toArray, List.set_cons_zero, List.set_cons_succ]
            refine wpAnyS_take (i := 5) (v := undef) rfl (by kernel_rfl) (by kernel_rfl) (by kernel_rfl) (by kernel_rfl) (fun _ _ _ h => h) (Or.inr ⟨by kernel_rfl, rfl⟩) hHeld ?_
            simp only [Act.put, List.setIfInBounds_toArray, List.set_cons_zero, List.set_cons_succ]
            refine wpAnyS_take (i := 6) (v := undef) rfl (by kernel_rfl) (by kernel_rfl) (by kernel_rfl) (by kernel_rfl) (fun _ _ _ h => h) (Or.inr ⟨by kernel_rfl, rfl⟩) hHeld ?_
            simp only [Act.put, List.setIfInBounds_toArray, List.set_cons_zero, List.set_cons_succ]
            refine wpAnyS_take (i := 7) (v := undef) rfl (by kernel_rfl) (by kernel_rfl) (by kernel_rfl) (by kernel_rfl) (fun _ _ _ h => h) (Or.inr ⟨by kernel_rfl, rfl⟩) hHeld ?_
            simp only [Act.put, List.setIfInBounds_toArray, List.set_cons_zero, List.set_cons_succ]
            refine wpAnyS_take (i := 8) (v := undef) rfl (by kernel_rfl) (by kernel_rfl) (by kernel_rfl) (by kernel_rfl) (fun _ _ _ h => h) (Or.inr ⟨by kernel_rfl, rfl⟩) hHeld ?_
            simp only [Act.put, List.setIfInBounds_toArray, List.set_cons_zero, List.set_cons_succ]
            refine wpAnyS_take (i := 9) (v := undef) rfl (by kernel_rfl) (by kernel_rfl) (by kernel_rfl) (by kernel_rfl) (fun _ _ _ h => h) (Or.inr ⟨by kernel_rfl, rfl⟩) hHeld ?_
            simp only [Act.put, List.setIfInBounds_toArray, List.set_cons_zero, List.set_cons_succ]
            refine wpAnyS_take (i := 10) (v := ?_) rfl (by kernel_rfl) (by kernel_rfl) (by kernel_rfl) (by kernel_rfl) (fun _ _ _ h => h) (Or.inl ⟨by kernel_rfl, ?_⟩) hHeld ?_
            rotate_left
            · intro w hSw
              obtain ⟨hs0, hs1, hs2, hs3⟩ := hSw
              go_simp
              first | done | with_reducible rfl
            simp only [Act.put, List.setIfInBounds_toArray, List.set_cons_zero, List.set_cons_succ]
            refine wpAnyS_take (i := 11) (v := ?_) rfl (by kernel_rfl) (by kernel_rfl) (by kernel_rfl) (by kernel_rfl) (fun _ _ _ h => h) (Or.inl ⟨by kernel_rfl, ?_⟩) hHeld ?_
            rotate_left
            · intro w hSw
              obtain ⟨hs0, hs1, hs2, hs3⟩ := hSw
              go_simp
              first | done | with_reducible rfl
            simp only [Act.put, List.setIfInBounds_toArray, List.set_cons_zero, List.set_cons_succ]
            refine wpAnyS_take (i := 12) (v := undef) rfl (by kernel_rfl) (by kernel_rfl) (by kernel_rfl) (by kernel_rfl) (fun _ _ _ h => h) (Or.inr ⟨by kernel_rfl, rfl⟩) hHeld ?_
            simp only [Act.put, List.setIfInBounds_toArray, List.set_cons_zero, List.set_cons_succ]
            refine wpAnyS_take (i := 13) (v := undef) rfl (by kernel_rfl) (by kernel_rfl) (by kernel_rfl) (by kernel_rfl) (fun _ _ _ h => h) (Or.inr ⟨by kernel_rfl, rfl⟩) hHeld ?_
            simp only [Act.put, List.setIfInBounds_toArray, List.set_cons_zero, List.set_cons_succ]
            refine wpAnyS_take (i := 14) (v := undef) rfl (by kernel_rfl) (by kernel_rfl) (by kernel_rfl) (by kernel_rfl) (fun _ _ _ h => h) (Or.inr ⟨by kernel_rfl, rfl⟩) hHeld ?_
            simp only [Act.put, List.setIfInBounds_toArray, List.set_cons_zero, List.set_cons_succ]
            refine wpAnyS_take (i := 15) (v := undef) rfl (by kernel_rfl) (by kernel_rfl) (by kernel_rfl) (by kernel_rfl) (fun _ _ _ h => h) (Or.inr ⟨by kernel_rfl, rfl⟩) hHeld ?_
            simp only [Act.put, List.setIfInBounds_toArray, List.set_cons_zero, List.set_cons_succ]
            refine wpAnyS_take (i := 16) (v := undef) rfl (by kernel_rfl) (by kernel_rfl) (by kernel_rfl) (by kernel_rfl) (fun _ _ _ h => h) (Or.inr ⟨by kernel_rfl, rfl⟩) hHeld ?_
            simp only [Act.put, List.setIfInBounds_toArray, List.set_cons_zero, List.set_cons_succ]
            refine wpAnyS_take (i := 17) (v := undef) rfl (by kernel_rfl) (by kernel_rfl) (by kernel_rfl) (by kernel_rfl) (fun _ _ _ h => h) (Or.inr ⟨by kernel_rfl, rfl⟩) hHeld ?_
            simp only [Act.put, List.setIfInBounds_toArray, List.set_cons_zero, List.set_cons_succ]
            refine wpAnyS_take (i := 18) (v := ?_) rfl (by kernel_rfl) (by kernel_rfl) (by kernel_rfl) (by kernel_rfl) (fun _ _ _ h => h) (Or.inl ⟨by kernel_rfl, ?_⟩) hHeld ?_
            rotate_left
            · intro w hSw
              obtain ⟨hs0, hs1, hs2, hs3⟩ := hSw
              go_simp
              first | done | with_reducible rfl
            simp only [Act.put, List.setIfInBounds_toArray, List.set_cons_zero, List.set_cons_succ]
            refine wpAnyS_take (i := 19) (v := ?_) rfl (by kernel_rfl) (by kernel_rfl) (by kernel_rfl) (by kernel_rfl) (fun _ _ _ h => h) (Or.inl ⟨by kernel_rfl, ?_⟩) hHeld ?_
            rotate_left
            · intro w hSw
              obtain ⟨hs0, hs1, hs2, hs3⟩ := hSw
              go_simp
              first | done | with_reducible rfl
            simp only [Act.put, List.setIfInBounds_toArray, List.set_cons_zero, List.set_cons_succ]
            refine wpAnyS_take (i := 20) (v := undef) rfl (by kernel_rfl) (by kernel_rfl) (by kernel_rfl) (by kernel_rfl) (fun _ _ _ h => h) (Or.inr ⟨by kernel_rfl, rfl⟩) hHeld ?_
            simp only [Act.put, List.setIfInBounds_toArray, List.set_cons_zero, List.set_cons_succ]
            refine wpAnyS_take (i := 21) (v := undef) rfl (by kernel_rfl) (by kernel_rfl) (by kernel_rfl) (by kernel_rfl) (fun _ _ _ h => h) (Or.inr ⟨by kernel_rfl, rfl⟩) hHeld ?_
            simp only [Act.put, List.setIfInBounds_toArray, List.set_cons_zero, List.set_cons_succ]
            refine wpAnyS_ready (rs := [22]) (by kernel_rfl) (by simp) ?_
            refine AllReadyS.cons rfl (fun K hK => ?_) AllReadyS.nil
            go_simp
            refine hK.out _ _ (fun h => absurd h (by decide)) ?_
            clear hK
            try simp only [Act.put, List.setIfInBounds_toArray, List.set_cons_zero, List.set_cons_succ]
            refine wpAnyS_ready (rs := [23]) (by kernel_rfl) (by simp) ?_
            refine AllReadyS.cons rfl (fun K hK => ?_) AllReadyS.nil
            go_simp
            refine hK.out _ _ (fun h => absurd h (by decide)) ?_
            clear hK
            try simp only [Act.put, List.setIfInBounds_toArray, List.set_cons_zero, List.set_cons_succ]
            refine wpAnyS_ready (rs := [24]) (by kernel_rfl) (by simp) ?_
            refine AllReadyS.cons rfl (fun K hK => ?_) AllReadyS.nil
            go_simp
            refine hK.out _ _ (fun h => absurd h (by decide)) ?_
            clear hK
            try simp only [Act.put, List.setIfInBounds_toArray, List.set_cons_zero, List.set_cons_succ]
            refine wpAnyS_done (by kernel_rfl) ?_ _
            have HR4 := Lib.hid hRG4
            have HS4 := Lib.hid hSO4
            clear hRG4 hSO4 hgo2
            go_wp2_with fail
            go_ret
            exact ⟨ret_bool Hv.out.symm, _, HR4.out, HS4.out⟩
        · obtain rfl : k = l.length := by omega
          have hgo2 : goP ps os 0 l = decide (x = la + 1) := by rw [hgo.out, List.drop_length, goP, HLA.out]
          have Hv := Lib.hid (show rightP ps os l = decide (x = la + 1) from Hrp.out.trans hgo2)
          have hcall := Hla.out wr V' hSO.out
          have hwl := IntWalk.i64_in (la + 1) (by omega)
          have hxd : (x == la + 1) = decide (x = la + 1) := rfl
          clear hgo hgo2 hkl
          go_wp2_with fail
          refine hcall.mono ?_
          rintro e w2 ⟨rfl, nq, rfl⟩
          have hRG4 := hRG.out.trans (.of_below (below_drewN (Below.refl _ _) nq))
          have hSO4 := hSO.out.next (below_drewN (Below.refl _ _) nq)
          clear hcall
          go_wp2_with fail
          go_ret
          exact ⟨ret_bool Hv.out.symm, _, hRG4, hSO4⟩
    · have hd : decide ((os.length : Int) ≥ (ps.length : Int)) = true := decide_eq_true (by omega)
      have hd0 : ps.length ≤ os.length := by omega
      have Hv := Lib.hid (show rightP ps os l = false by simp [rightP, hlt])
      have H := Lib.hid h
      clear h hSB hrd hlt
      go_enter Try.func39, Try.ntmps39
      go_wp2_with fail
      go_ret
      exact ⟨ret_bool Hv.out.symm, _, .of_below (Below.refl _ _), H.out⟩
end Go.Proofs.Ytlmbffnmjfbglab
