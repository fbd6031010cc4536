/- The contract of slices.DeleteFunc at regions. -/
import Derived.Test.YtjgmdchlgabflaaS2
import Derived.Lib.SlBuf
namespace Go.Proofs.Ytjgmdchlgabflaa
open Go.ChangeShapes Go.WideShapes Go.ChangeAt Go.RowKit

theorem indexRgs_c (g : Nat) (lb : Array Value) (p : Reg → Bool) (eg : ∀ args w, (callFunc g args).run Try.prog w = .ok (.enter g args) w) (l : List Reg) (A : Option Addr) (c : Nat) (w : World)
    (hp : PredReg g lb p w) (h : RdReg w w.heap.size A l) (hl : l.length ≤ 4611686018427387904) :
    Calls Try.prog 55 #[.slice A l.length c, .func (.func g) #[] lb] w fun e w' => e = .returned (.int .i64 (idxI p l)) ∧ Below w.heap.size w w' := by
  go_enter Try.func55, Try.ntmps55
  go_wp2
  go_loopw [5, 8] (fun _ i wr => ∃ k : Nat, k ≤ l.length ∧ i = .int .i64 k ∧ Below w.heap.size w wr ∧ Hid (∀ j (h : j < l.length), j < k → p l[j] = false)) (fun _ i _ => l.length - (intOf i).toNat)
  case atStart => exact ⟨0, Nat.zero_le _, rfl, Below.refl _ _, fun j _ h => absurd h (by omega)⟩
  case round =>
    obtain ⟨k, hk, rfl, hB, hall⟩ := hrel
    by_cases hlt : k < l.length
    · obtain ⟨b, o, rfl, hb, hc⟩ := h.keep hB (by omega)
      obtain ⟨c0, c1, c2⟩ := hc k hlt
      have hcall := hp wr l[k] hB
      clear hc hp
      cases hq : p l[k] with
      | true =>
        have hfin := idxI_hit hlt hq hall.out
        have Hfin := Lib.hid hfin
        rw [hq] at hcall
        clear hfin hq
        have hs := hB.size
        generalize l[k] = r at c0 c1 c2 hcall
        go_wp2_with (go_at_fn g; refine hcall.mono ?_; rintro e w' ⟨rfl, hb'⟩)
        go_ret
        exact ⟨ret_int Hfin.out.symm, hB.trans (hb'.mono hs)⟩
      | false =>
        have hnext : ∀ j (h : j < l.length), j < k + 1 → p l[j] = false := fun j hj hjk => by
          by_cases hjk' : j = k
          · subst hjk'; exact hq
          · exact hall.out j hj (by omega)
        have Hnext := Lib.hid hnext
        rw [hq] at hcall
        clear hnext hq
        have hs := hB.size
        generalize l[k] = r at c0 c1 c2 hcall
        go_wp2_with (go_at_fn g; refine hcall.mono ?_; rintro e w' ⟨rfl, hb'⟩)
        go_roundw
        case rel => exact ⟨k + 1, by omega, by go_num, hB.trans (hb'.mono hs), Hnext⟩
        case measure => simp [intOf]; omega
    · go_wp2
      go_ret
      exact ⟨ret_int (idxI_miss fun j hj => hall.out j hj (by omega)).symm, hB⟩

theorem valid1_c (w : World) : PredReg 49 #[] (fun r => r.size == 0) w := fun W r hb => by
  clear hb
  go_enter Try.func49, Try.ntmps49
  go_wp2
  go_ret
  exact ⟨rfl, (Below.refl _ _).alloc (Nat.le_refl _) _⟩

/-- what has been kept of the first j. -/
def keepTo (l : List Reg) (j : Nat) : List Reg := (l.take j).filter fun r => !(r.size == 0)
theorem keepTo_no {l : List Reg} {j : Nat} (hj : j < l.length) (h : (l[j].size == 0) = true) : keepTo l (j + 1) = keepTo l j := by
  unfold keepTo
  rw [List.take_succ_eq_append_getElem hj, List.filter_append]
  simp [h]
theorem keepTo_yes {l : List Reg} {j : Nat} (hj : j < l.length) (h : (l[j].size == 0) = false) : keepTo l (j + 1) = keepTo l j ++ [l[j]] := by
  unfold keepTo
  rw [List.take_succ_eq_append_getElem hj, List.filter_append]
  simp [h]
theorem keepTo_le (l : List Reg) (j : Nat) : (keepTo l j).length ≤ j := by
  unfold keepTo
  exact Nat.le_trans (List.length_filter_le _ _) (List.length_take_le _ _)
theorem keepTo_all (l : List Reg) : keepTo l l.length = l.filter fun r => !(r.size == 0) := by simp [keepTo]

/-- The row in the middle of the loop: what is kept stands in front; from j on all is as it was. -/
def Mid (l M : List Reg) (j : Nat) : Prop := M.length = l.length ∧ M.take (keepTo l j).length = keepTo l j ∧ M.drop j = l.drop j
theorem Mid.get {l M : List Reg} {j : Nat} (h : Mid l M j) (hj : j < l.length) : ∃ hM : j < M.length, M[j] = l[j] := by
  have hM : j < M.length := by rw [h.1]; exact hj
  refine ⟨hM, ?_⟩
  have e : (M.drop j)[0]? = (l.drop j)[0]? := by rw [h.2.2]
  simp [hM, hj] at e
  exact e
theorem Mid.skip {l M : List Reg} {j : Nat} (h : Mid l M j) (hj : j < l.length) (hs : (l[j].size == 0) = true) : Mid l M (j + 1) := by
  refine ⟨h.1, by rw [keepTo_no hj hs]; exact h.2.1, ?_⟩
  have := congrArg (List.drop 1) h.2.2
  simpa [List.drop_drop, Nat.add_comm] using this
theorem Mid.keep {l M : List Reg} {j : Nat} (h : Mid l M j) (hj : j < l.length) (hlt : (keepTo l j).length ≤ j) (hs : (l[j].size == 0) = false) : Mid l (M.set (keepTo l j).length l[j]) (j + 1) := by
  refine ⟨by simp [h.1], ?_, ?_⟩
  · rw [keepTo_yes hj hs, List.length_append, List.length_singleton]
    have hk : (keepTo l j).length < M.length := by rw [h.1]; omega
    rw [List.take_succ_eq_append_getElem (by simpa using hk)]
    congr 1
    · rw [List.take_set_of_le (Nat.le_refl _)]; exact h.2.1
    · simp
  · rw [List.drop_set_of_lt (by omega)]
    have := congrArg (List.drop 1) h.2.2
    simpa [List.drop_drop, Nat.add_comm] using this

theorem find_cases2 {α : Type} (p : α → Bool) (l : List α) : (∃ k, ∃ h : k < l.length, idxI p l = k ∧ p l[k] = true ∧ ∀ j (h : j < l.length), j < k → p l[j] = false) ∨ (idxI p l = -1 ∧ l.find? p = none) := by
  rcases hf : l.findIdx? p with _ | i
  · refine .inr ⟨by simp [idxI, hf], ?_⟩
    rw [List.findIdx?_eq_none_iff] at hf
    rw [List.find?_eq_none]
    intro x hx; simp [hf x hx]
  · rw [List.findIdx?_eq_some_iff_getElem] at hf
    obtain ⟨h1, h2, h3⟩ := hf
    exact .inl ⟨i, h1, idxI_hit h1 h2 fun j hj hji => by simpa using h3 j hji, h2, fun j hj hji => by simpa using h3 j hji⟩
theorem keepTo_front {l : List Reg} {k : Nat} (hk : k ≤ l.length) (hall : ∀ j (h : j < l.length), j < k → (l[j].size == 0) = false) : keepTo l k = l.take k := by
  unfold keepTo
  rw [List.filter_eq_self]
  intro r hr
  obtain ⟨j, hj, rfl⟩ := List.getElem_of_mem hr
  rw [List.getElem_take]
  have hj' : j < k := by rw [List.length_take] at hj; omega
  rw [hall j (by omega) hj']; rfl

def Deleted (w : World) (B : Nat) (l : List Reg) (e : Ending) (w' : World) : Prop := ∃ v, e = .returned v ∧ OwnReg w' B v (l.filter fun r => !(r.size == 0)) ∧ Below B w w'

set_option maxRecDepth 100000 in
set_option maxHeartbeats 1000000 in
theorem delete_c (B : Nat) (v : Value) (l : List Reg) (w : World) (h : OwnReg w B v l) (hBw : B ≤ w.heap.size) (hl : l.length ≤ 1000) :
    Calls Try.prog 48 #[v, .func (.func 49) #[] #[]] w (Deleted w B l) := by
  have eg := enters_of (P := Try.prog) Try.func49 (by kernel_rfl) rfl
  rcases h with ⟨rfl, rfl⟩ | ⟨g, cap, rfl, hBg, hrow⟩
  · have hI := indexRgs_c 49 #[] _ eg [] none 0 w (valid1_c w) (fun h => absurd h (by simp)) (by simp)
    have hi : idxI (fun r : Reg => r.size == 0) [] = -1 := rfl
    rw [hi] at hI
    simp only [List.length_nil] at hI
    go_enter Try.func48, Try.ntmps48
    go_wp2_with fail
    refine hI.mono ?_
    rintro e w1 ⟨rfl, hb1⟩
    go_wp2
    go_ret
    exact ⟨_, rfl, .inl ⟨rfl, rfl⟩, hb1.mono hBw⟩
  · have hI := indexRgs_c 49 #[] _ eg l _ cap w (valid1_c w) hrow.rd (by omega)
    rcases find_cases2 (fun r : Reg => r.size == 0) l with ⟨k, hk, hi, hp, hbef⟩ | ⟨hi, hf⟩
    · rw [hi] at hI
      have hkf := keepTo_front (Nat.le_of_lt hk) hbef
      have hkl : (keepTo l (k + 1)).length = k := by rw [keepTo_no hk hp, hkf, List.length_take]; omega
      have hmid : Mid l l (k + 1) := ⟨rfl, by rw [hkl, keepTo_no hk hp, hkf], rfl⟩
      have hkne : ((k : Int) == -1) = false := beq_eq_false_iff_ne.2 (by omega)
      have Hkl := Lib.hid hkl
      have Hmid := Lib.hid hmid
      have hgl := hrow.lt
      have hcap : l.length ≤ cap := by obtain ⟨_, _, h, _⟩ := hrow; exact h
      have hcm : cap ≤ 9223372036854775807 := by obtain ⟨_, _, _, h, _⟩ := hrow; exact h
      clear hkl hmid hkf hp hbef hi
      go_enter Try.func48, Try.ntmps48
      go_wp2_with fail
      refine hI.mono ?_
      rintro e w1 ⟨rfl, hb1⟩
      clear hI
      have hrow1 := hrow.below hb1 hgl
      have hB1 := hb1.mono hBw
      clear hrow hb1
      go_wp2
      go_loopw [5, 6, 7] (fun i j _ wr => ∃ (m : Nat) (M : List Reg), m ≤ l.length ∧ k + 1 ≤ m ∧ j = .int .i64 m ∧ i = .int .i64 ((keepTo l m).length : Nat) ∧ (keepTo l m).length < m ∧ Row wr g cap M ∧ Hid (Mid l M m) ∧ Below B w wr) (fun _ j _ _ => l.length - (intOf j).toNat)
      case atStart => exact ⟨k + 1, l, by omega, by omega, by go_num, by rw [Hkl.out], by rw [Hkl.out]; omega, hrow1, Hmid, hB1⟩
      case round =>
        obtain ⟨m, M, hm, hkm, rfl, rfl, hlt, hr, hMid, hB⟩ := hrel
        by_cases hml : m < l.length
        · obtain ⟨hM, hget⟩ := hMid.out.get hml
          obtain ⟨c0, c1, c2⟩ := hr.cells m hM
          rw [hget] at c0 c1 c2
          have hz : B ≤ wr.heap.size := Nat.le_trans hBw hB.size
          have hgw := hr.lt
          have hi0 : (0 : Int) ≤ (m : Int) := by omega
          have hskip : (l[m].size == 0) = true → Mid l M (m + 1) ∧ keepTo l (m + 1) = keepTo l m := fun h => ⟨hMid.out.skip hml h, keepTo_no hml h⟩
          have hkeep : (l[m].size == 0) = false → Mid l (M.set (keepTo l m).length l[m]) (m + 1) ∧ (keepTo l (m + 1)).length = (keepTo l m).length + 1 := fun h => ⟨hMid.out.keep hml (by omega) h, by rw [keepTo_yes hml h]; simp⟩
          have Hskip := Lib.hid hskip
          have Hkeep := Lib.hid hkeep
          have hML : (keepTo l m).length < M.length := by rw [hMid.out.1]; omega
          clear hskip hkeep hget hMid
          generalize l[m] = r at c0 c1 c2 Hskip Hkeep
          generalize hq : (keepTo l m).length = q at *
          have hql : q < l.length := by omega
          cases hs : (r.size == 0) with
          | true =>
            have hcall : Calls Try.prog 49 #[.agg #[.int .i64 r.part, .int .i64 r.base, .int .i64 r.size]] (wr.alloc (.cells #[.int .i64 r.part, .int .i64 r.base, .int .i64 r.size] 42)) fun e w' => e = .returned (.bool (r.size == 0)) ∧ Below (wr.alloc (.cells #[.int .i64 r.part, .int .i64 r.base, .int .i64 r.size] 42)).heap.size (wr.alloc (.cells #[.int .i64 r.part, .int .i64 r.base, .int .i64 r.size] 42)) w' := valid1_c _ _ r (Below.refl _ _)
            rw [hs] at hcall
            go_wp2_with fail
            refine hcall.mono ?_
            rintro e w2 ⟨rfl, hb2⟩
            have hr2 := (hr.below ((Below.refl wr.heap.size wr).alloc (Nat.le_refl _) _) hgw).below hb2 (by simp; omega)
            have hB2 := (hB.alloc hz _).trans (hb2.mono (by simp; omega))
            go_wp2
            go_roundw
            case rel =>
              obtain ⟨hm2, hk2⟩ := Hskip.out hs
              exact ⟨m + 1, M, by omega, by omega, by go_num, by rw [hk2, hq], by rw [hk2, hq]; omega, hr2, hm2, hB2⟩
            case measure => simp [intOf]; omega
          | false =>
            have hcall : Calls Try.prog 49 #[.agg #[.int .i64 r.part, .int .i64 r.base, .int .i64 r.size]] (wr.alloc (.cells #[.int .i64 r.part, .int .i64 r.base, .int .i64 r.size] 42)) fun e w' => e = .returned (.bool (r.size == 0)) ∧ Below (wr.alloc (.cells #[.int .i64 r.part, .int .i64 r.base, .int .i64 r.size] 42)).heap.size (wr.alloc (.cells #[.int .i64 r.part, .int .i64 r.base, .int .i64 r.size] 42)) w' := valid1_c _ _ r (Below.refl _ _)
            rw [hs] at hcall
            have hb0 := Blk.new wr 42 #[.int .i64 r.part, .int .i64 r.base, .int .i64 r.size]
            go_wp2_with fail
            refine hcall.mono ?_
            rintro e w2 ⟨rfl, hb2⟩
            have hr2 := (hr.below ((Below.refl wr.heap.size wr).alloc (Nat.le_refl _) _) hgw).below hb2 (by simp; omega)
            have hB2 := (hB.alloc hz _).trans (hb2.mono (by simp; omega))
            have b2 := hb0.below hb2 (by simp)
            have q0 := b2.cell 0
            have q1 := b2.cell 1
            have q2 := b2.cell 2
            simp at q0 q1 q2
            obtain ⟨d0, d1, d2⟩ := hr2.cells q hML
            have f0 := hr2.frozen (q * 3)
            have f1 := hr2.frozen (q * 3 + 1)
            have f2 := hr2.frozen (q * 3 + 2)
            have hst := hr2.store q hML r
            clear hcall hb2 b2 hb0 hr c0 c1 c2 hB
            have Hst := Lib.hid hst
            clear hst hr2
            generalize M[q] = y at d0 d1 d2
            go_wp2
            go_roundw
            case rel =>
              obtain ⟨hm2, hk2⟩ := Hkeep.out hs
              exact ⟨m + 1, M.set q r, by omega, by omega, by go_num, by rw [hk2]; go_num, by rw [hk2]; omega, Hst.out, hm2, ((hB2.setCell (by simp; omega) _).setCell (by simp; omega) _).setCell (by simp; omega) _⟩
            case measure => simp [intOf]; omega
        · obtain rfl : m = l.length := by omega
          have hka := keepTo_all l
          have hMo := hMid.out
          have hq2 : (keepTo l l.length).length < l.length := hlt
          have htk : M.take (keepTo l l.length).length = keepTo l l.length := hMo.2.1
          have hrt := hr.take (keepTo l l.length).length
          rw [htk] at hrt
          rw [hka] at hrt hq2 ⊢
          generalize hF : (l.filter fun r => !(r.size == 0)) = F at hrt hq2 ⊢
          have HF := Lib.hid hF
          clear hF
          have hcl := fun ty c => run_clear_reg hrt ty F.length (l.length - F.length) c (by omega) (by omega)
          have hrc := hrt.setCells (Builtin.zeroCells #[.int .i64 0, .int .i64 0, .int .i64 0] (l.length - F.length)).toList (F.length * 3) wr (Nat.le_refl _)
          generalize (Builtin.zeroCells #[.int .i64 0, .int .i64 0, .int .i64 0] (l.length - F.length)).toList = zs at hcl hrc
          have hBz := Lib.below_setCells g hBg zs (F.length * 3) hB
          have Hrc := Lib.hid hrc
          have hcF : ¬ cap = F.length := by omega
          have hFc : F.length ≤ cap := by omega
          clear hMo htk hrt hka hrc hMid hr Hkl Hmid
          go_wp2
          go_ret
          refine ⟨.slice (some ⟨g, 0, none⟩) F.length cap, rfl, ?_, hBz⟩
          rw [HF.out]
          exact .inr ⟨g, cap, rfl, hBg, Hrc.out⟩
    · rw [hi] at hI
      have hall : l.filter (fun r => !(r.size == 0)) = l := by
        rw [List.filter_eq_self]
        rw [List.find?_eq_none] at hf
        intro r hr; simpa using hf r hr
      go_enter Try.func48, Try.ntmps48
      go_wp2_with fail
      refine hI.mono ?_
      rintro e w1 ⟨rfl, hb1⟩
      go_wp2
      go_ret
      exact ⟨.slice (some ⟨g, 0, none⟩) l.length cap, rfl, .inr ⟨g, cap, by rw [hall], hBg, by rw [hall]; exact hrow.below hb1 hrow.lt⟩, hb1.mono hBw⟩
end Go.Proofs.Ytjgmdchlgabflaa
