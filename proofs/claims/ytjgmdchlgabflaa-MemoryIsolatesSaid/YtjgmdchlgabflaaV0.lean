/- The contract of the program's Valid. -/
import Derived.Test.YtjgmdchlgabflaaS3
namespace Go.Proofs.Ytjgmdchlgabflaa
open Go.ChangeShapes Go.WideShapes Go.ChangeAt Go.RowKit

def apartR (r s : Reg) : Bool := decide (r.size = 0 ∨ s.size = 0 ∨ r.base + r.size ≤ s.base ∨ s.base + s.size ≤ r.base)
def apartL (l : List Reg) : Prop := l.Pairwise fun r s => apartR r s = true
instance (l : List Reg) : Decidable (apartL l) := by unfold apartL; infer_instance
def okR (mem : Int) (i : Nat) (r : Reg) : Bool := r.part == i && sizeB r.base && r.base % 8 == 0 && sizeB r.size && decide (r.base + r.size ≤ mem)
def okL (mem : Int) (l : List Reg) : Bool := (List.range l.length).all fun i => okR mem i (l[i]?.getD default)
def validV (l : List Reg) (mem : Int) : Bool := sizeB mem && decide (l.length ≤ 6) && okL mem l && decide (apartL l)

theorem okL_of {mem : Int} {l : List Reg} (h : ∀ j (h : j < l.length), okR mem j l[j] = true) : okL mem l = true := by
  unfold okL
  rw [List.all_eq_true]
  intro i hi
  have hi' : i < l.length := by simpa using hi
  simpa [hi'] using h i hi'
theorem okL_no {mem : Int} {l : List Reg} {j : Nat} (hj : j < l.length) (h : okR mem j l[j] = false) : okL mem l = false := by
  unfold okL
  rw [List.all_eq_false]
  exact ⟨j, by simpa using hj, by simp [hj, h]⟩
theorem okL_at {mem : Int} {l : List Reg} (h : okL mem l = true) (j : Nat) (hj : j < l.length) : okR mem j l[j] = true := by
  unfold okL at h
  rw [List.all_eq_true] at h
  have := h j (by simpa using hj)
  simpa [hj] using this

theorem apartR_symm {r s : Reg} (h : apartR r s = true) : apartR s r = true := by
  simp only [apartR, decide_eq_true_eq] at h ⊢; omega
theorem apartL_perm {l m : List Reg} (h : l.Perm m) : apartL l ↔ apartL m := by
  unfold apartL
  exact h.pairwise_iff (fun h => apartR_symm h)
theorem apartL_filter (l : List Reg) : apartL (l.filter fun r => !(r.size == 0)) ↔ apartL l := by
  unfold apartL
  induction l with
  | nil => simp
  | cons r l ih =>
    by_cases h : r.size = 0
    · rw [List.filter_cons_of_neg (by simp [h]), ih, List.pairwise_cons]
      constructor
      · exact fun hp => ⟨fun s _ => by simp [apartR, h], hp⟩
      · exact fun hp => hp.2
    · rw [List.filter_cons_of_pos (by simp [h]), List.pairwise_cons, List.pairwise_cons, ih]
      constructor
      · rintro ⟨h1, h2⟩
        refine ⟨fun s hs => ?_, h2⟩
        by_cases hz : s.size = 0
        · simp [apartR, hz]
        · exact h1 s (List.mem_filter.2 ⟨hs, by simp [hz]⟩)
      · rintro ⟨h1, h2⟩
        exact ⟨fun s hs => h1 s (List.mem_filter.1 hs).1, h2⟩

/-- in a list that is sorted by its bases neighbours decide. -/
theorem apart_of_next {l : List Reg} (hnz : ∀ j (h : j < l.length), 0 < l[j].size) (h : ∀ j (h : j + 1 < l.length), l[j].base + l[j].size ≤ l[j + 1].base) : apartL l := by
  unfold apartL
  rw [List.pairwise_iff_getElem]
  intro i j hi hj hij
  have key : ∀ d, ∀ (hd : i + 1 + d < l.length), l[i].base + l[i].size ≤ l[i + 1 + d].base := by
    intro d
    induction d with
    | zero => intro hd; exact h i hd
    | succ d ih =>
      intro hd
      have h1 := ih (by omega)
      have h2 := h (i + 1 + d) (by omega)
      have h3 := hnz (i + 1 + d) (by omega)
      simp only [← Nat.add_assoc]
      omega
  have := key (j - (i + 1)) (by omega)
  simp only [show i + 1 + (j - (i + 1)) = j from by omega] at this
  simp only [apartR, decide_eq_true_eq]
  omega
theorem not_apart_of_next {l : List Reg} (hnz : ∀ j (h : j < l.length), 0 < l[j].size) (hs : ∀ i j (h : i < j) (hj : j < l.length), l[i].base ≤ l[j].base) {j : Nat} (hj : j + 1 < l.length) (h : l[j + 1].base < l[j].base + l[j].size) : ¬ apartL l := by
  intro ha
  unfold apartL at ha
  rw [List.pairwise_iff_getElem] at ha
  have := ha j (j + 1) (by omega) hj (by omega)
  simp only [apartR, decide_eq_true_eq] at this
  have h1 := hnz j (by omega)
  have h2 := hnz (j + 1) hj
  have h3 := hs j (j + 1) (by omega) hj
  omega

set_option maxRecDepth 100000 in
set_option maxHeartbeats 2000000 in
theorem valid_c (mem : Int) (l : List Reg) (A : Option Addr) (c : Nat) (w : World) (h : RdReg w w.heap.size A l) (hA : A = none → l.length = 0) (hl : l.length ≤ 4611686018427387904) :
    Calls Try.prog 42 #[.slice A l.length c, .int .i64 mem] w fun e w' => e = .returned (.bool (validV l mem)) ∧ Below w.heap.size w w' := by
  have hz := fun n W => size_c n W
  cases hm : sizeB mem with
  | false =>
    have hv : Hid (validV l mem = false) := by simp [validV, hm, Hid]
    have hzm := fun W => size_c mem W
    rw [hm] at hzm
    clear h hz
    go_enter Try.func42, Try.ntmps42
    go_wp2_with (go_at_call 33; refine (hzm _).mono ?_; rintro e w' ⟨rfl, rfl⟩)
    go_ret
    exact ⟨ret_bool hv.out.symm, Below.refl _ _⟩
  | true =>
    have hzm := fun W => size_c mem W
    rw [hm] at hzm
    have hm0 : 0 ≤ mem ∧ mem ≤ 4096 := by simpa [sizeB] using hm
    obtain ⟨hm0, hm1⟩ := hm0
    by_cases h6 : 6 < l.length
    · have hv : Hid (validV l mem = false) := by
        have : ¬ l.length ≤ 6 := by omega
        simp [validV, Hid, this]
      clear h hz
      have h6i : decide ((6 : Int) < (l.length : Int)) = true := by simp; omega
      go_enter Try.func42, Try.ntmps42
      go_wp2_with (go_at_call 33; refine (hzm _).mono ?_; rintro e w' ⟨rfl, rfl⟩)
      go_ret
      exact ⟨ret_bool hv.out.symm, Below.refl _ _⟩
    · have h6i : decide ((6 : Int) < (l.length : Int)) = false := by simp; omega
      have hl6 : l.length ≤ 6 := by omega
      have hvv : validV l mem = (okL mem l && decide (apartL l)) := by simp [validV, hm, hl6]
      rw [hvv]
      generalize hres : (okL mem l && decide (apartL l)) = res
      have Hres := Lib.hid hres
      clear hres hvv hm h6
      go_enter Try.func42, Try.ntmps42
      go_wp2_with (go_at_call 33; refine (hzm _).mono ?_; rintro e w' ⟨rfl, rfl⟩)
      go_loopw [5, 6, 19] (fun _ _ i wr => ∃ k : Nat, k ≤ l.length ∧ i = .int .i64 k ∧ Below w.heap.size w wr ∧ Hid (∀ j (h : j < l.length), j < k → okR mem j l[j] = true)) (fun _ _ i _ => l.length - (intOf i).toNat)
      case atStart => exact ⟨0, Nat.zero_le _, rfl, Below.refl _ _, fun j _ h => absurd h (by omega)⟩
      case round =>
        obtain ⟨k, hk, rfl, hB, hall⟩ := hrel
        by_cases hlt : k < l.length
        · obtain ⟨b, o, rfl, hb, hc⟩ := h.keep hB (by omega)
          obtain ⟨c0, c1, c2⟩ := hc k hlt
          clear hc
          have hno : okR mem k l[k] = false → res = false := fun e => by rw [← Hres.out, okL_no hlt e]; rfl
          have hyes : okR mem k l[k] = true → ∀ j (h : j < l.length), j < k + 1 → okR mem j l[j] = true := fun e j hj hjk => by
            by_cases e' : j = k
            · subst e'; exact e
            · exact hall.out j hj (by omega)
          have Hno := Lib.hid hno
          have Hyes := Lib.hid hyes
          clear hno hyes hall
          generalize l[k] = r at c0 c1 c2 Hno Hyes
          have hzw := hB.size
          by_cases p1 : r.part = k
          · have q1 : (r.part != (k : Int)) = false := by simp [p1]
            have P1 := Lib.hid p1
            clear p1
            cases p2 : sizeB r.base with
            | false =>
              have hzb := fun W => size_c r.base W
              rw [p2] at hzb
              go_wp2_with (go_at_call 33; refine (hzb _).mono ?_; rintro e w' ⟨rfl, rfl⟩)
              go_ret
              exact ⟨ret_bool (Hno.out (by simp [okR, p2])).symm, hB.alloc hzw _⟩
            | true =>
              have hzb := fun W => size_c r.base W
              rw [p2] at hzb
              have hb0 : 0 ≤ r.base ∧ r.base ≤ 4096 := by simpa [sizeB] using p2
              obtain ⟨hb0, hb1⟩ := hb0
              by_cases p3 : r.base % 8 = 0
              · have q3 : (r.base % 8 != 0) = false := by simp [p3]
                have P3 := Lib.hid p3
                clear p3
                have hzs := fun W => size_c r.size W
                cases p4 : sizeB r.size with
                | false =>
                  rw [p4] at hzs
                  go_wp2_with fail
                  refine (hzb _).mono ?_
                  rintro e w' ⟨rfl, rfl⟩
                  go_wp2_with fail
                  refine (hzs _).mono ?_
                  rintro e w' ⟨rfl, rfl⟩
                  go_wp2
                  go_ret
                  exact ⟨ret_bool (Hno.out (by simp [okR, p4])).symm, hB.alloc hzw _⟩
                | true =>
                  rw [p4] at hzs
                  have hs0 : 0 ≤ r.size ∧ r.size ≤ 4096 := by simpa [sizeB] using p4
                  obtain ⟨hs0, hs1⟩ := hs0
                  have hend := end_c r (wr.alloc (.cells #[.int .i64 r.part, .int .i64 r.base, .int .i64 r.size] 42))
                  rw [IntWalk.wrap64_in (r.base + r.size) ⟨by omega, by omega⟩] at hend
                  have hW1 := hB.alloc hzw (.cells #[.int .i64 r.part, .int .i64 r.base, .int .i64 r.size] 42)
                  by_cases p5 : r.base + r.size ≤ mem
                  · have Hok := Lib.hid (Hyes.out (by simp [okR, P1.out, p2, P3.out, p4, p5]))
                    clear Hno Hyes
                    go_wp2_with fail
                    refine (hzb _).mono ?_
                    rintro e w' ⟨rfl, rfl⟩
                    go_wp2_with fail
                    refine (hzs _).mono ?_
                    rintro e w' ⟨rfl, rfl⟩
                    go_wp2_with fail
                    refine hend.mono ?_
                    rintro e w1 ⟨rfl, hb1⟩
                    go_wp2
                    go_roundw
                    case rel => exact ⟨k + 1, by omega, by go_num, hW1.trans (hb1.mono (by simp; omega)), Hok⟩
                    case measure => simp [intOf]; omega
                  · have Hno' := Lib.hid (Hno.out (by simp [okR, p5]))
                    clear Hno Hyes
                    go_wp2_with fail
                    refine (hzb _).mono ?_
                    rintro e w' ⟨rfl, rfl⟩
                    go_wp2_with fail
                    refine (hzs _).mono ?_
                    rintro e w' ⟨rfl, rfl⟩
                    go_wp2_with fail
                    refine hend.mono ?_
                    rintro e w1 ⟨rfl, hb1⟩
                    go_wp2
                    go_ret
                    exact ⟨ret_bool Hno'.out.symm, hW1.trans (hb1.mono (by simp; omega))⟩
              · have q3 : (r.base % 8 != 0) = true := by simp [p3]
                have P3 := Lib.hid p3
                clear p3
                go_wp2_with fail
                refine (hzb _).mono ?_
                rintro e w' ⟨rfl, rfl⟩
                go_wp2
                go_ret
                exact ⟨ret_bool (Hno.out (by simp [okR, P3.out])).symm, hB.alloc hzw _⟩
          · have q1 : (r.part != (k : Int)) = true := by simp [p1]
            have P1 := Lib.hid p1
            clear p1
            go_wp2
            go_ret
            exact ⟨ret_bool (Hno.out (by simp [okR, P1.out])).symm, hB.alloc hzw _⟩
        · have hok : okL mem l = true := okL_of fun j hj => hall.out j hj (by omega)
          have hfacts : ∀ r ∈ l, 0 ≤ r.base ∧ r.base ≤ 4096 ∧ 0 ≤ r.size ∧ r.size ≤ 4096 := fun r hr => by
            obtain ⟨j, hj, rfl⟩ := List.getElem_of_mem hr
            have := okL_at hok j hj
            simp only [okR, sizeB, Bool.and_eq_true, decide_eq_true_eq] at this
            omega
          rw [hok, Bool.true_and] at Hres
          have hcl := clone_c l A c wr (h.below hB) hA (by omega)
          have Hfacts := Lib.hid hfacts
          clear hok hfacts hall hz hzm h
          go_wp2_with fail
          refine hcl.mono ?_
          clear hcl
          rintro e w1 ⟨v1, rfl, hown, hb1⟩
          have hB1 := hB.trans (hb1.mono hB.size)
          have hdel := delete_c w.heap.size v1 l w1 (by
            rcases hown with h0 | ⟨g, cap, hv, hg, hr⟩
            · exact .inl h0
            · exact .inr ⟨g, cap, hv, Nat.le_trans hB.size hg, hr⟩) hB1.size (by omega)
          clear hown hb1
          go_wp2_with fail
          refine hdel.mono ?_
          clear hdel
          rintro e w2 ⟨v2, rfl, hown, hb2⟩
          have hB2 := hB1.trans hb2
          clear hb2
          have hfl := apartL_filter l
          have hFf : ∀ r ∈ l.filter (fun r => !(r.size == 0)), 0 ≤ r.base ∧ r.base ≤ 4096 ∧ 0 < r.size ∧ r.size ≤ 4096 := fun r hr => by
            have h1 := List.mem_filter.1 hr
            have := Hfacts.out r h1.1
            have h2 : r.size ≠ 0 := by simpa using h1.2
            omega
          have hFl : (l.filter fun r => !(r.size == 0)).length ≤ 6 := Nat.le_trans (List.length_filter_le _ _) hl6
          generalize (l.filter fun r => !(r.size == 0)) = F at hown hfl hFf hFl
          rcases hown with ⟨rfl, rfl⟩ | ⟨g, cap, rfl, hg, hr⟩
          · have hres : res = true := by
              rw [← Hres.out]
              have : apartL l := hfl.1 List.Pairwise.nil
              simp [this]
            have Hr := Lib.hid hres
            clear hres hfl hFf Hres
            go_wp2_with fail
            refine (sort_nil_c w2).mono ?_
            rintro e w3 ⟨rfl, rfl⟩
            go_wp2
            refine wp_loop_rounds 1 ?_
            rw [rounds_succ]
            go_wp2
            go_ret
            exact ⟨ret_bool Hr.out.symm, hB2⟩
          · have hsort := sort_c g cap F w2 hr (by omega)
            go_wp2_with fail
            refine hsort.mono ?_
            clear hsort
            rintro e w3 ⟨l', rfl, hperm, hso, hr3, hgr⟩
            have hB3 : Below w.heap.size w w3 := hB2.grown hgr hB2.size (fun k hk => by injection hk with hk; omega)
            have hlen : l'.length = F.length := hperm.length_eq
            have hap : apartL l' ↔ apartL l := (apartL_perm hperm).trans hfl
            have hF' : ∀ r ∈ l', 0 ≤ r.base ∧ r.base ≤ 4096 ∧ 0 < r.size ∧ r.size ≤ 4096 := fun r hr => hFf r (hperm.mem_iff.1 hr)
            have hnz : ∀ j (h : j < l'.length), 0 < l'[j].size := fun j hj => (hF' _ (List.getElem_mem hj)).2.2.1
            rw [← hlen]
            have Hres2 : Hid (decide (apartL l') = res) := by
              rw [← Hres.out]; exact decide_eq_decide.2 hap
            have hl' : l'.length ≤ 6 := by omega
            have HF := Lib.hid hF'
            have Hso := Lib.hid hso
            have Hnz := Lib.hid hnz
            clear hF' hso hnz hap hfl hFf hFl hlen hperm hr Hres Hfacts hgr hB2
            have hgl := hr3.lt
            go_wp2
            go_loopw [8] (fun i wr => ∃ k : Nat, 1 ≤ k ∧ k ≤ l'.length + 1 ∧ i = .int .i64 k ∧ Below w3.heap.size w3 wr ∧ Hid (∀ j (h : j + 1 < l'.length), j + 1 < k → l'[j].base + l'[j].size ≤ l'[j + 1].base)) (fun i _ => l'.length + 1 - (intOf i).toNat)
            case atStart => exact ⟨1, by omega, by omega, by go_num, Below.refl _ _, fun j _ h => absurd h (by omega)⟩
            case round =>
              obtain ⟨k, hk1, hk2, rfl, hB4, hnext⟩ := hrel
              obtain ⟨q, rfl⟩ : ∃ q, k = q + 1 := ⟨k - 1, by omega⟩
              have hBw := hB3.trans (hB4.mono hB3.size)
              by_cases hlt : q + 1 < l'.length
              · have hr4 := hr3.below hB4 hgl
                obtain ⟨c0, c1, c2⟩ := hr4.cells q (by omega)
                obtain ⟨d0, d1, d2⟩ := hr4.cells (q + 1) hlt
                have f1 := HF.out _ (List.getElem_mem (show q < l'.length by omega))
                have hno : l'[q + 1].base < l'[q].base + l'[q].size → res = false := fun h => by
                  rw [← Hres2.out]; exact decide_eq_false (not_apart_of_next Hnz.out Hso.out hlt h)
                have hyes : l'[q].base + l'[q].size ≤ l'[q + 1].base → ∀ j (h : j + 1 < l'.length), j + 1 < q + 1 + 1 → l'[j].base + l'[j].size ≤ l'[j + 1].base := fun h j hj hjk => by
                  by_cases e : j = q
                  · subst e; exact h
                  · exact hnext.out j hj (by omega)
                have Hno := Lib.hid hno
                have Hyes := Lib.hid hyes
                clear hno hyes hnext HF Hso Hnz hr3
                generalize l'[q] = r at c0 c1 c2 f1 Hno Hyes
                generalize l'[q + 1] = s at d0 d1 d2 Hno Hyes
                have hgw := hr4.lt
                obtain ⟨f1, f2, f3, f4⟩ := f1
                have hi0 : (0 : Int) ≤ (q : Int) := by omega
                have hi1 : (q : Int) < (l'.length : Int) := by omega
                have hi2 : (q : Int) + 1 < (l'.length : Int) := by omega
                go_wp2
                have hw1 : IntKind.i64.wrap ((q : Int) + 1 - 1) = q := by rw [show (q : Int) + 1 - 1 = q from by omega]; exact IntWalk.i64_in _ (by omega)
                have hw2 : IntKind.i64.wrap (q : Int) = q := IntWalk.i64_in _ (by omega)
                have hw3 : ((q : Int) + 1).toNat = q + 1 := by omega
                have hw4 : (0 : Int) ≤ (q : Int) + 1 := by omega
                have hendc := fun W => end_c r W
                rw [IntWalk.wrap64_in (r.base + r.size) ⟨by omega, by omega⟩] at hendc
                go_region_held3 (fun w' => (∀ b o, b < wr.heap.size → w'.cell? ⟨b, o, none⟩ = wr.cell? ⟨b, o, none⟩) ∧ wr.heap.size ≤ w'.heap.size ∧ Below wr.heap.size wr w') (first | exact sr_drew _ | exact sr_next (by assumption) (by assumption)) ((go_at_call 31; refine (hendc _).mono ?_; rintro e w' ⟨rfl, hb'⟩))
                rename_i hH
                have hB5 := hB4.trans (hH.2.2.mono hB4.size)
                clear hw1 hw2 hw3 hw4
                by_cases hcmp : r.base + r.size ≤ s.base
                · have Hy := Lib.hid (Hyes.out hcmp)
                  clear Hno Hyes hH
                  go_wp2
                  go_roundw
                  case rel => exact ⟨q + 1 + 1, by omega, by omega, by go_num, hB5, Hy⟩
                  case measure => simp [intOf]; omega
                · have Hn := Lib.hid (Hno.out (by omega))
                  clear Hno Hyes hH
                  go_wp2
                  go_ret
                  exact ⟨ret_bool Hn.out.symm, hB3.trans (hB5.mono hB3.size)⟩
              · have hy : res = true := by
                  rw [← Hres2.out]; exact decide_eq_true (apart_of_next Hnz.out fun j hj => hnext.out j hj (by omega))
                have Hy := Lib.hid hy
                clear hy hnext HF Hso Hnz hr3
                go_wp2
                go_ret
                exact ⟨ret_bool Hy.out.symm, hBw⟩
end Go.Proofs.Ytjgmdchlgabflaa
