/- Conflict. -/
import Derived.Test.YtlmbffnmjfbglabU3
import Derived.Test.YtlmbffnmjfbglabPA
import Derived.Deep.AppendLies
set_option linter.unusedSimpArgs false
set_option linter.unusedVariables false
namespace Go.Proofs.Ytlmbffnmjfbglab
open Go.ChangeShapes Go.WideShapes Go.ChangeAt Go.RowKit

/-- a drawn region, plain. -/
theorem wp_region_S {P : Program} {id : Nat} {ops : Array Oper} {Q : Exit → Act → World → Prop} {a : Act} {w : World} (S : World → Prop) (s : Nat) (hm : P.follows .mixedOrders = true) (hS : S w.drew)
    (h : S w.drew → wpAnyS P .any ops Q S s ops.size (Array.replicate ops.size false) a w.drew) : (Code.region id ops true).wp P Q a w :=
  wp_region_any hm (wpAny_of_S _ _ _ _ (h hS))

theorem cloneI_own (l : List Int) (A : Option Addr) (c : Nat) (w : World) (h : RdInt w w.heap.size A l) (hl : l.length * 8 ≤ 140737488351232) :
    Calls Try.prog 41 #[.slice A l.length c] w fun e w' => ∃ v, e = .returned v ∧ w'.ownsRow w.heap.size 3 1 v l.length (l.map (Value.int .i64)) ∧ Below w.heap.size w w' := by
  obtain ⟨i0, hi0, hz0, hz1, hz2⟩ := info_parts info3
  have hnil := fun (n c : Nat) W => Lib.run_eql_slice_nil (P := Try.prog) W 28 3 A n c 0 0 Try.underlying28
  have hread := (rdInt_reads h).alloc (Nat.le_refl _) (.cells #[] 3)
  have hone := ints_one l
  have Hread := Lib.hid hread
  have Hone := Lib.hid hone
  have Hh := Lib.hid h
  clear hread hone h
  cases A with
  | none =>
    have h0 : l = [] := by
      cases l with
      | nil => rfl
      | cons x r => obtain ⟨b, o, e, _⟩ := Hh.out (by simp); cases e
    subst h0
    simp only [List.length_nil] at hnil ⊢
    go_enter Try.func41, Try.ntmps41
    go_wp2
    go_ret
    exact ⟨_, rfl, World.ownsRow_nil _ _ _ _, Below.refl _ _⟩
  | some ad =>
    go_enter Try.func41, Try.ntmps41
    go_wp2_with (at_builtin; refine wpList_append_any _ rfl _ _ 28 rfl w.heap.size 3 i0 (.int .i64 0) 1 8 Try.underlying28 hi0 hz0 hz1 hz2 rfl (by decide) _ 0 [] rfl (World.ownsRow_made _ #[] 0 (Nat.le_refl _) (by simp [maxLen]) (by simp)) w.heap.size (some ad) l.length c (l.map (Value.int .i64)) rfl Hread.out Hone.out ?c3 ?c4 ?c5 ?_)
    case c3 => unfold maxLen; omega
    case c4 => omega
    case c5 => simp
    intro v' w2 hown2 hgrow hwhere
    have hB : Below w.heap.size w w2 := ((Below.refl _ w).alloc (Nat.le_refl _) _).grown hgrow (by simp) (fun k hk => by simp [Value.ownBlock] at hk; omega)
    try rw [List.nil_append, Nat.zero_add] at hown2
    have Ho := Lib.hid hown2
    clear hgrow hwhere Hread Hone hown2
    go_wp2
    go_ret
    exact ⟨_, rfl, Ho.out, hB⟩

/-- a search with other offsets. -/
theorem SB.setOff {W : World} {Bs : Nat} {name : ByteArray} {mem F : Int} {A : Option Addr} {ps : List Part} {c : Nat} {Ao Ao' : Option Addr} {os os' : List Int} {co co' : Nat} {t : Int} (h : SB W Bs name mem F A ps c Ao os co t) (ho : RdInt W W.heap.size Ao' os') (hne : ∀ b o, Ao' = some ⟨b, o, none⟩ → 0 < os'.length → b ≠ Bs) (hcap : os'.length ≤ co') :
    SB (W.setCell ⟨Bs, 4, none⟩ (.slice Ao' os'.length co')) Bs name mem F A ps c Ao' os' co' t := by
  have hz : (W.setCell ⟨Bs, 4, none⟩ (.slice Ao' os'.length co')).heap.size = W.heap.size := by simp [World.setCell]
  refine ⟨h.blk.set_ 4 _, fun hn => ?_, fun hn => ?_, hne, hcap⟩
  · obtain ⟨b, o, e, hb, hc⟩ := h.pt hn
    have hne : b ≠ Bs := by
      rintro rfl
      have h9 := hc 0 hn 9 _ rfl
      rw [h.blk.cell, Array.getElem?_eq_none (by simp)] at h9
      cases h9
    exact ⟨b, o, e, by rw [hz]; exact hb, fun i hi j v hv => by
      rw [World.cell?_setCell_other _ _ _ _ (fun e => hne (congrArg Addr.block e).symm)]; exact hc i hi j v hv⟩
  · obtain ⟨b, o, e, hb, hc⟩ := ho hn
    have hne := hne b o e hn
    exact ⟨b, o, e, by rw [hz]; exact hb, fun i hi => by
      rw [World.cell?_setCell_other _ _ _ _ (fun e => hne (congrArg Addr.block e).symm)]; exact hc i hi⟩
/-- what Conflict returns. -/
def conflV (F : Int) (ps : List Part) (os : List Int) (x : Int) : Int := if prefixOk F ps (os ++ [x]) = true then conflP ps os x else -1

set_option maxRecDepth 100000 in
set_option maxHeartbeats 4000000 in
theorem conflict_c (name : ByteArray) (mem F : Int) (ps : List Part) (A : Option Addr) (c : Nat) (os : List Int) (Ao : Option Addr) (co : Nat) (x : Int) (w : World) (h : RdPart w w.heap.size A ps) (ho : RdInt w w.heap.size Ao os) (hcap : os.length ≤ co) (hl : ps.length * 8 ≤ 140737488355328) (hlo : os.length * 8 ≤ 140737488351232) :
    Calls Try.prog 20 #[.agg #[.string name, .int .i64 mem, .int .i64 F, .slice A ps.length c], .slice Ao os.length co, .int .i64 x] w fun e w' => e = .returned (.tuple #[.int .i64 (conflV F ps os x), .bool (decide (0 ≤ conflV F ps os x))]) ∧ Below w.heap.size w w' := by
  obtain ⟨i0, hi0, hz0, hz1, hz2⟩ := info_parts info3
  have hB : Below w.heap.size w (w.alloc (.cells #[.string name, .int .i64 mem, .int .i64 F, .slice A ps.length c] 24)) := (Below.refl _ w).alloc (Nat.le_refl _) _
  have hb0 := Blk.new w 24 #[.string name, .int .i64 mem, .int .i64 F, .slice A ps.length c]
  have H := Lib.hid h
  have HO := Lib.hid ho
  clear h ho
  go_enter Try.func20, Try.ntmps20
  go_wp2_with fail
  revert hB hb0
  generalize hz0 : w.alloc (.cells #[.string name, .int .i64 mem, .int .i64 F, .slice A ps.length c] 24) = W1
  intro hB hb0
  have q0 : W1.cell? ⟨w.heap.size, 0, none⟩ = some (.string name) := hb0.cell 0
  have q1 : W1.cell? ⟨w.heap.size, 1, none⟩ = some (.int .i64 mem) := hb0.cell 1
  have q2 : W1.cell? ⟨w.heap.size, 2, none⟩ = some (.int .i64 F) := hb0.cell 2
  have q3 : W1.cell? ⟨w.heap.size, 3, none⟩ = some (.slice A ps.length c) := hb0.cell 3
  have hzw : w.heap.size < W1.heap.size := hb0.lt
  clear hz0
  refine wp_region_S (fun W' => W'.cell? ⟨w.heap.size, 0, none⟩ = some (.string name) ∧ W'.cell? ⟨w.heap.size, 1, none⟩ = some (.int .i64 mem) ∧ W'.cell? ⟨w.heap.size, 2, none⟩ = some (.int .i64 F) ∧ W'.cell? ⟨w.heap.size, 3, none⟩ = some (.slice A ps.length c)) 11 (by kernel_rfl) ⟨q0, q1, q2, q3⟩ (fun hHeld => ?_)
  have hB4 : Below w.heap.size w W1.drew := hB.drew
  have hS4 : ∀ W', Below W1.drew.heap.size W1.drew W' → (fun W' => W'.cell? ⟨w.heap.size, 0, none⟩ = some (.string name) ∧ W'.cell? ⟨w.heap.size, 1, none⟩ = some (.int .i64 mem) ∧ W'.cell? ⟨w.heap.size, 2, none⟩ = some (.int .i64 F) ∧ W'.cell? ⟨w.heap.size, 3, none⟩ = some (.slice A ps.length c)) W' := fun W' hb => ⟨(hb.cell (p := ⟨w.heap.size, 0, none⟩) hzw).trans q0, (hb.cell (p := ⟨w.heap.size, 1, none⟩) hzw).trans q1, (hb.cell (p := ⟨w.heap.size, 2, none⟩) hzw).trans q2, (hb.cell (p := ⟨w.heap.size, 3, none⟩) hzw).trans q3⟩
  have hzw4 : w.heap.size < W1.drew.heap.size := hzw
  have HS := Lib.hid hS4
  clear hS4 q0 q1 q2 q3 hB hb0 hzw
  generalize W1.drew = W4 at *
  refine wpAnyS_take (i := 0) (v := ?_) rfl (by kernel_rfl) (by kernel_rfl) (by kernel_rfl) (by kernel_rfl) (fun _ _ _ h => h) (Or.inl ⟨by rfl, ?_⟩) hHeld ?_
  rotate_left
  · intro w hSw
    obtain ⟨hs0, hs1, hs2, hs3⟩ := hSw
    go_simp
    first | done | with_reducible rfl
  simp only [Act.put, List.setIfInBounds_toArray, List.set_cons_zero, List.set_cons_succ]
  refine wpAnyS_take (i := 1) (v := ?_) rfl (by kernel_rfl) (by kernel_rfl) (by kernel_rfl) (by kernel_rfl) (fun _ _ _ h => h) (Or.inl ⟨by rfl, ?_⟩) hHeld ?_
  rotate_left
  · intro w hSw
    obtain ⟨hs0, hs1, hs2, hs3⟩ := hSw
    go_simp
    first | done | with_reducible rfl
  simp only [Act.put, List.setIfInBounds_toArray, List.set_cons_zero, List.set_cons_succ]
  refine wpAnyS_take (i := 3) (v := ?_) rfl (by kernel_rfl) (by kernel_rfl) (by kernel_rfl) (by kernel_rfl) (fun _ _ _ h => h) (Or.inl ⟨by rfl, ?_⟩) hHeld ?_
  rotate_left
  · intro w hSw
    obtain ⟨hs0, hs1, hs2, hs3⟩ := hSw
    go_simp
    first | done | with_reducible rfl
  simp only [Act.put, List.setIfInBounds_toArray, List.set_cons_zero, List.set_cons_succ]
  refine wpAnyS_ready (rs := [2, 4]) (by kernel_rfl) (by simp) ?_
  refine AllReadyS.cons rfl (fun K hK => ?_) (AllReadyS.cons rfl (fun K hK => ?_) AllReadyS.nil)
  · go_simp
    refine (cloneI_own os Ao co W4 (HO.out.below hB4) (by omega)).mono ?_
    rintro e W5 ⟨v, rfl, hown, hb5⟩
    dsimp only
    refine hK.out _ _ (fun _ => HS.out _ hb5) ?_
    have hb6 : Below W4.heap.size W4 (W5.alloc (.cells #[.int .i64 x] 3)) := hb5.alloc hb5.size _
    clear hK
    try simp only [Act.put, List.setIfInBounds_toArray, List.set_cons_zero, List.set_cons_succ]
    refine wpAnyS_ready (rs := [4]) (by kernel_rfl) (by simp) ?_
    refine AllReadyS.cons rfl (fun K hK => ?_) AllReadyS.nil
    go_simp
    refine hK.out _ _ (fun _ => HS.out _ hb6) ?_
    clear hK hHeld
    have hG0 : Blk (W5.alloc (.cells #[.int .i64 x] 3)) W5.heap.size 3 _ := Blk.new W5 3 #[.int .i64 x]
    replace hown := hown.kept (below_grown (row := none) ((Below.refl _ W5).alloc (Nat.le_refl _) (.cells #[.int .i64 x] 3))) (by cases v.ownBlock <;> simp)
    clear hb5
    generalize hG : W5.heap.size = G0 at *
    clear hG
    generalize W5.alloc (.cells #[.int .i64 x] 3) = W6 at *
    try simp only [Act.put, List.setIfInBounds_toArray, List.set_cons_zero, List.set_cons_succ]
    refine wpAnyS_ready (rs := [5]) (by kernel_rfl) (by simp) ?_
    refine AllReadyS.cons rfl (fun K hK => ?_) AllReadyS.nil
    refine step_append_lies _ (by rfl) (.tmp 14) (.tmp 16) 28 (by rfl) W4.heap.size 3 i0 _ 1 8 Try.underlying28 hi0 hz0 hz1 hz2 (by rfl) (by decide) v os.length _ (by rfl) hown ⟨G0, 0, none⟩ 1 1 [.int .i64 x] (by rfl) (by rfl) (World.news_of_block (cs := #[.int .i64 x]) (t := 3) (fr := (0, 0)) hG0) (by simp [Value.oneCell']) (by omega) (by unfold maxLen; omega) (by omega) hb6.size _ rfl ?_
    intro g cap w2 hown2 hgrow hg hgl
    have hb7 : Below W4.heap.size W4 w2 := hb6.grown hgrow hb6.size (fun k hk => (hown.lt k hk).1)
    refine hK.out _ _ (fun _ => HS.out _ hb7) ?_
    clear hK
    have hcap2 : os.length + 1 ≤ cap := by
      rcases hown2.2 with ⟨e, _⟩ | ⟨g', cap', cur, e, _, _, hc, _⟩
      · cases e
      · injection e with _ _ e
        subst e
        exact hc
    have hri : RdInt w2 w2.heap.size (some ⟨g, 0, none⟩) (os ++ [x]) := by
      obtain ⟨A2, c2, e, hr⟩ := RdInt.of_own (n := os.length + 1) (l := os ++ [x]) (by simp) (by simpa using hown2)
      injection e with e
      subst e
      exact hr
    have hpc := prefix_c name mem F ps A c (os ++ [x]) (some ⟨g, 0, none⟩) cap w2 (H.out.below (hB4.trans (hb7.mono (Nat.le_of_lt hzw4)))) hri (by simp; omega) hl (by simp; omega)
    have hB7 : Below w.heap.size w w2 := hB4.trans (hb7.mono (Nat.le_of_lt hzw4))
    have hs7 := HS.out _ hb7
    rw [show (os ++ [x]).length = os.length + 1 by simp] at hpc
    have Hpc := Lib.hid hpc
    clear hown hown2 hgrow hg hG0 hb6 hri hpc hb7
    try simp only [Act.put, List.setIfInBounds_toArray, List.set_cons_zero, List.set_cons_succ]
    refine wpAnyS_ready (rs := [6]) (by kernel_rfl) (by simp) ?_
    refine AllReadyS.cons rfl (fun K hK => ?_) AllReadyS.nil
    go_simp
    refine Hpc.out.mono ?_
    rintro e w3 ⟨Bs, rfl, hBs, hSB, hb8⟩
    dsimp only
    have hs8 : (fun W' => W'.cell? ⟨w.heap.size, 0, none⟩ = some (.string name) ∧ W'.cell? ⟨w.heap.size, 1, none⟩ = some (.int .i64 mem) ∧ W'.cell? ⟨w.heap.size, 2, none⟩ = some (.int .i64 F) ∧ W'.cell? ⟨w.heap.size, 3, none⟩ = some (.slice A ps.length c)) w3 := ⟨(hb8.cell (p := ⟨w.heap.size, 0, none⟩) (World.block_lt_of_cell? _ _ hs7.1)).trans hs7.1, (hb8.cell (p := ⟨w.heap.size, 1, none⟩) (World.block_lt_of_cell? _ _ hs7.2.1)).trans hs7.2.1, (hb8.cell (p := ⟨w.heap.size, 2, none⟩) (World.block_lt_of_cell? _ _ hs7.2.2.1)).trans hs7.2.2.1, (hb8.cell (p := ⟨w.heap.size, 3, none⟩) (World.block_lt_of_cell? _ _ hs7.2.2.2)).trans hs7.2.2.2⟩
    have hB8 : Below w.heap.size w w3 := hB7.trans (hb8.mono hB7.size)
    have hBs0 : w.heap.size < Bs := Nat.lt_of_lt_of_le (World.block_lt_of_cell? _ _ hs7.1) hBs
    refine hK.out _ _ (fun _ => hs8) ?_
    clear hK Hpc hs7 hB7 hb8 HS hB4
    try simp only [Act.put, List.setIfInBounds_toArray, List.set_cons_zero, List.set_cons_succ]
    refine wpAnyS_takeT (i := 7) (v := ?_) rfl (by kernel_rfl) (by kernel_rfl) (by kernel_rfl) (by kernel_rfl) (fun _ _ _ h => h) (Or.inl ⟨by rfl, ?_⟩) hs8 ?_
    rotate_left
    · intro w hSw
      (try dsimp only at hSw)
      go_simp
      first | done | with_reducible rfl
    simp only [Act.put, List.setIfInBounds_toArray, List.set_cons_zero, List.set_cons_succ]
    refine wpAnyS_takeT (i := 8) (v := ?_) rfl (by kernel_rfl) (by kernel_rfl) (by kernel_rfl) (by kernel_rfl) (fun _ _ _ h => h) (Or.inl ⟨by rfl, ?_⟩) hs8 ?_
    rotate_left
    · intro w hSw
      (try dsimp only at hSw)
      go_simp
      first | done | with_reducible rfl
    simp only [Act.put, List.setIfInBounds_toArray, List.set_cons_zero, List.set_cons_succ]
    refine wpAnyS_takeT (i := 9) (v := ?_) rfl (by kernel_rfl) (by kernel_rfl) (by kernel_rfl) (by kernel_rfl) (fun _ _ _ h => h) (Or.inl ⟨by rfl, ?_⟩) hs8 ?_
    rotate_left
    · intro w hSw
      (try dsimp only at hSw)
      go_simp
      first | done | with_reducible rfl
    simp only [Act.put, List.setIfInBounds_toArray, List.set_cons_zero, List.set_cons_succ]
    refine wpAnyS_takeT (i := 10) (v := ?_) rfl (by kernel_rfl) (by kernel_rfl) (by kernel_rfl) (by kernel_rfl) (fun _ _ _ h => h) (Or.inl ⟨by rfl, ?_⟩) hs8 ?_
    rotate_left
    · intro w hSw
      (try dsimp only at hSw)
      go_simp
      first | done | with_reducible rfl
    simp only [Act.put, List.setIfInBounds_toArray, List.set_cons_zero, List.set_cons_succ]
    refine wpAnyS_ready (rs := [11]) (by kernel_rfl) (by simp) ?_
    refine AllReadyS.cons rfl (fun K hK => ?_) AllReadyS.nil
    go_simp
    refine hK.out _ _ (fun h => absurd h (by decide)) ?_
    refine wpAnyS_done (by kernel_rfl) ?_ _
    clear hK hs8
    cases hpx : prefixOk F ps (os ++ [x]) with
    | false =>
      have Hv := Lib.hid (show conflV F ps os x = -1 by simp [conflV, hpx])
      clear hpx hSB
      go_wp2_with fail
      refine bodyPost_ret (v := .tuple #[.int .i64 (-1), .bool false]) (by simp [results, Try.results20, go_sem]) rfl ⟨by rw [Hv.out]; rfl, hB8⟩
    | true =>
      have Hv := Lib.hid (show conflV F ps os x = conflP ps os x by simp [conflV, hpx])
      have hlt : os.length < ps.length := by
        simp only [prefixOk, Bool.and_eq_true, decide_eq_true_eq, List.length_append, List.length_cons, List.length_nil] at hpx
        omega
      have hps : ps.length ≤ 6 := by
        simp only [prefixOk, Bool.and_eq_true] at hpx
        exact (timesV_ok hpx.2.1).few
      have hst := hSB.setOff (HO.out.below hB8) (fun b o e hn => by
        obtain ⟨b', o', e', hb, _⟩ := HO.out hn
        rw [e] at e'; cases e'
        omega) hcap
      have hB9 : Below w.heap.size w (w3.setCell ⟨Bs, 4, none⟩ (.slice Ao os.length co)) := ⟨hB8.os, hB8.tape, hB8.output, by simpa [World.setCell] using hB8.size, fun k hk => (Below.heap_setCell _ _ _ _ (by simp; omega)).trans (hB8.block k hk)⟩
      have hcf := conflict_m hst hlt hps x
      have hc4 : w3.cell? ⟨Bs, 4, none⟩ = some (.slice (some ⟨g, 0, none⟩) (os ++ [x]).length cap) := hSB.blk.cell 4
      have hf4 := hSB.blk.frozen 4
      clear hpx hSB hst
      generalize conflP ps os x = y at *
      go_wp2_with fail
      refine hcf.mono ?_
      rintro e w4 ⟨rfl, hb9⟩
      have hB10 := hB9.trans (hb9.mono hB9.size)
      clear hcf hc4 hf4 hb9 hB9 hB8
      have Hy : Hid (Ending.returned (.tuple #[.int .i64 y, .bool (decide (0 ≤ y))]) = .returned (.tuple #[.int .i64 (conflV F ps os x), .bool (decide (0 ≤ conflV F ps os x))])) := by unfold Hid; rw [Hv.out]
      clear Hv
      go_wp2_with fail
      refine bodyPost_ret (v := .tuple #[.int .i64 y, .bool (decide (0 ≤ y))]) (by simp [results, Try.results20, go_sem]) rfl ⟨Hy.out, hB10⟩
  · go_simp
    have hb5 : Below W4.heap.size W4 (W4.alloc (.cells #[.int .i64 x] 3)) := (Below.refl _ W4).alloc (Nat.le_refl _) _
    refine hK.out _ _ (fun _ => HS.out _ hb5) ?_
    clear hK hHeld
    have hG0 : Blk (W4.alloc (.cells #[.int .i64 x] 3)) W4.heap.size 3 _ := Blk.new W4 3 #[.int .i64 x]
    have hGz := hG0.lt
    generalize W4.alloc (.cells #[.int .i64 x] 3) = W5 at *
    generalize hG : W4.heap.size = G0 at hG0 ⊢
    try simp only [Act.put, List.setIfInBounds_toArray, List.set_cons_zero, List.set_cons_succ]
    refine wpAnyS_ready (rs := [2]) (by kernel_rfl) (by simp) ?_
    refine AllReadyS.cons rfl (fun K hK => ?_) AllReadyS.nil
    go_simp
    refine (cloneI_own os Ao co W5 (HO.out.below (hB4.trans (hb5.mono (Nat.le_of_lt hzw4)))) (by omega)).mono ?_
    rintro e W6 ⟨v, rfl, hown, hb6'⟩
    dsimp only
    have hb6 : Below W4.heap.size W4 W6 := hb5.trans (hb6'.mono hb5.size)
    replace hG0 := hG0.below hb6' hG0.lt
    replace hown : W6.ownsRow W4.heap.size 3 1 v os.length (os.map (Value.int .i64)) := ⟨hown.1, hown.2.imp id fun ⟨g, cap, cur, e, hg, r⟩ => ⟨g, cap, cur, e, Nat.le_trans hb5.size hg, r⟩⟩
    refine hK.out _ _ (fun _ => HS.out _ hb6) ?_
    clear hK hb6' hb5 hG hGz
    try simp only [Act.put, List.setIfInBounds_toArray, List.set_cons_zero, List.set_cons_succ]
    refine wpAnyS_ready (rs := [5]) (by kernel_rfl) (by simp) ?_
    refine AllReadyS.cons rfl (fun K hK => ?_) AllReadyS.nil
    refine step_append_lies _ (by rfl) (.tmp 14) (.tmp 16) 28 (by rfl) W4.heap.size 3 i0 _ 1 8 Try.underlying28 hi0 hz0 hz1 hz2 (by rfl) (by decide) v os.length _ (by rfl) hown ⟨G0, 0, none⟩ 1 1 [.int .i64 x] (by rfl) (by rfl) (World.news_of_block (cs := #[.int .i64 x]) (t := 3) (fr := (0, 0)) hG0) (by simp [Value.oneCell']) (by omega) (by unfold maxLen; omega) (by omega) hb6.size _ rfl ?_
    intro g cap w2 hown2 hgrow hg hgl
    have hb7 : Below W4.heap.size W4 w2 := hb6.grown hgrow hb6.size (fun k hk => (hown.lt k hk).1)
    refine hK.out _ _ (fun _ => HS.out _ hb7) ?_
    clear hK
    have hcap2 : os.length + 1 ≤ cap := by
      rcases hown2.2 with ⟨e, _⟩ | ⟨g', cap', cur, e, _, _, hc, _⟩
      · cases e
      · injection e with _ _ e
        subst e
        exact hc
    have hri : RdInt w2 w2.heap.size (some ⟨g, 0, none⟩) (os ++ [x]) := by
      obtain ⟨A2, c2, e, hr⟩ := RdInt.of_own (n := os.length + 1) (l := os ++ [x]) (by simp) (by simpa using hown2)
      injection e with e
      subst e
      exact hr
    have hpc := prefix_c name mem F ps A c (os ++ [x]) (some ⟨g, 0, none⟩) cap w2 (H.out.below (hB4.trans (hb7.mono (Nat.le_of_lt hzw4)))) hri (by simp; omega) hl (by simp; omega)
    have hB7 : Below w.heap.size w w2 := hB4.trans (hb7.mono (Nat.le_of_lt hzw4))
    have hs7 := HS.out _ hb7
    rw [show (os ++ [x]).length = os.length + 1 by simp] at hpc
    have Hpc := Lib.hid hpc
    clear hown hown2 hgrow hg hG0 hb6 hri hpc hb7
    try simp only [Act.put, List.setIfInBounds_toArray, List.set_cons_zero, List.set_cons_succ]
    refine wpAnyS_ready (rs := [6]) (by kernel_rfl) (by simp) ?_
    refine AllReadyS.cons rfl (fun K hK => ?_) AllReadyS.nil
    go_simp
    refine Hpc.out.mono ?_
    rintro e w3 ⟨Bs, rfl, hBs, hSB, hb8⟩
    dsimp only
    have hs8 : (fun W' => W'.cell? ⟨w.heap.size, 0, none⟩ = some (.string name) ∧ W'.cell? ⟨w.heap.size, 1, none⟩ = some (.int .i64 mem) ∧ W'.cell? ⟨w.heap.size, 2, none⟩ = some (.int .i64 F) ∧ W'.cell? ⟨w.heap.size, 3, none⟩ = some (.slice A ps.length c)) w3 := ⟨(hb8.cell (p := ⟨w.heap.size, 0, none⟩) (World.block_lt_of_cell? _ _ hs7.1)).trans hs7.1, (hb8.cell (p := ⟨w.heap.size, 1, none⟩) (World.block_lt_of_cell? _ _ hs7.2.1)).trans hs7.2.1, (hb8.cell (p := ⟨w.heap.size, 2, none⟩) (World.block_lt_of_cell? _ _ hs7.2.2.1)).trans hs7.2.2.1, (hb8.cell (p := ⟨w.heap.size, 3, none⟩) (World.block_lt_of_cell? _ _ hs7.2.2.2)).trans hs7.2.2.2⟩
    have hB8 : Below w.heap.size w w3 := hB7.trans (hb8.mono hB7.size)
    have hBs0 : w.heap.size < Bs := Nat.lt_of_lt_of_le (World.block_lt_of_cell? _ _ hs7.1) hBs
    refine hK.out _ _ (fun _ => hs8) ?_
    clear hK Hpc hs7 hB7 hb8 HS hB4
    try simp only [Act.put, List.setIfInBounds_toArray, List.set_cons_zero, List.set_cons_succ]
    refine wpAnyS_takeT (i := 7) (v := ?_) rfl (by kernel_rfl) (by kernel_rfl) (by kernel_rfl) (by kernel_rfl) (fun _ _ _ h => h) (Or.inl ⟨by rfl, ?_⟩) hs8 ?_
    rotate_left
    · intro w hSw
      (try dsimp only at hSw)
      go_simp
      first | done | with_reducible rfl
    simp only [Act.put, List.setIfInBounds_toArray, List.set_cons_zero, List.set_cons_succ]
    refine wpAnyS_takeT (i := 8) (v := ?_) rfl (by kernel_rfl) (by kernel_rfl) (by kernel_rfl) (by kernel_rfl) (fun _ _ _ h => h) (Or.inl ⟨by rfl, ?_⟩) hs8 ?_
    rotate_left
    · intro w hSw
      (try dsimp only at hSw)
      go_simp
      first | done | with_reducible rfl
    simp only [Act.put, List.setIfInBounds_toArray, List.set_cons_zero, List.set_cons_succ]
    refine wpAnyS_takeT (i := 9) (v := ?_) rfl (by kernel_rfl) (by kernel_rfl) (by kernel_rfl) (by kernel_rfl) (fun _ _ _ h => h) (Or.inl ⟨by rfl, ?_⟩) hs8 ?_
    rotate_left
    · intro w hSw
      (try dsimp only at hSw)
      go_simp
      first | done | with_reducible rfl
    simp only [Act.put, List.setIfInBounds_toArray, List.set_cons_zero, List.set_cons_succ]
    refine wpAnyS_takeT (i := 10) (v := ?_) rfl (by kernel_rfl) (by kernel_rfl) (by kernel_rfl) (by kernel_rfl) (fun _ _ _ h => h) (Or.inl ⟨by rfl, ?_⟩) hs8 ?_
    rotate_left
    · intro w hSw
      (try dsimp only at hSw)
      go_simp
      first | done | with_reducible rfl
    simp only [Act.put, List.setIfInBounds_toArray, List.set_cons_zero, List.set_cons_succ]
    refine wpAnyS_ready (rs := [11]) (by kernel_rfl) (by simp) ?_
    refine AllReadyS.cons rfl (fun K hK => ?_) AllReadyS.nil
    go_simp
    refine hK.out _ _ (fun h => absurd h (by decide)) ?_
    refine wpAnyS_done (by kernel_rfl) ?_ _
    clear hK hs8
    cases hpx : prefixOk F ps (os ++ [x]) with
    | false =>
      have Hv := Lib.hid (show conflV F ps os x = -1 by simp [conflV, hpx])
      clear hpx hSB
      go_wp2_with fail
      refine bodyPost_ret (v := .tuple #[.int .i64 (-1), .bool false]) (by simp [results, Try.results20, go_sem]) rfl ⟨by rw [Hv.out]; rfl, hB8⟩
    | true =>
      have Hv := Lib.hid (show conflV F ps os x = conflP ps os x by simp [conflV, hpx])
      have hlt : os.length < ps.length := by
        simp only [prefixOk, Bool.and_eq_true, decide_eq_true_eq, List.length_append, List.length_cons, List.length_nil] at hpx
        omega
      have hps : ps.length ≤ 6 := by
        simp only [prefixOk, Bool.and_eq_true] at hpx
        exact (timesV_ok hpx.2.1).few
      have hst := hSB.setOff (HO.out.below hB8) (fun b o e hn => by
        obtain ⟨b', o', e', hb, _⟩ := HO.out hn
        rw [e] at e'; cases e'
        omega) hcap
      have hB9 : Below w.heap.size w (w3.setCell ⟨Bs, 4, none⟩ (.slice Ao os.length co)) := ⟨hB8.os, hB8.tape, hB8.output, by simpa [World.setCell] using hB8.size, fun k hk => (Below.heap_setCell _ _ _ _ (by simp; omega)).trans (hB8.block k hk)⟩
      have hcf := conflict_m hst hlt hps x
      have hc4 : w3.cell? ⟨Bs, 4, none⟩ = some (.slice (some ⟨g, 0, none⟩) (os ++ [x]).length cap) := hSB.blk.cell 4
      have hf4 := hSB.blk.frozen 4
      clear hpx hSB hst
      generalize conflP ps os x = y at *
      go_wp2_with fail
      refine hcf.mono ?_
      rintro e w4 ⟨rfl, hb9⟩
      have hB10 := hB9.trans (hb9.mono hB9.size)
      clear hcf hc4 hf4 hb9 hB9 hB8
      have Hy : Hid (Ending.returned (.tuple #[.int .i64 y, .bool (decide (0 ≤ y))]) = .returned (.tuple #[.int .i64 (conflV F ps os x), .bool (decide (0 ≤ conflV F ps os x))])) := by unfold Hid; rw [Hv.out]
      clear Hv
      go_wp2_with fail
      refine bodyPost_ret (v := .tuple #[.int .i64 y, .bool (decide (0 ≤ y))]) (by simp [results, Try.results20, go_sem]) rfl ⟨Hy.out, hB10⟩
end Go.Proofs.Ytlmbffnmjfbglab
