/- MemoryTight: for every module the law returns true. No condition. -/
import Derived.Test.YtjgmdchlgabflaaC1
namespace Go.Proofs.Ytjgmdchlgabflaa
open Go.ChangeShapes Go.WideShapes Go.ChangeAt Go.RowKit

theorem layTo_end (ms : List Int) (hm : ∀ j (h : j < ms.length), 0 ≤ ms[j] ∧ ms[j] ≤ 4096) (k : Nat) (hk : k < ms.length) :
    (layTo ms (k + 1)).2 = (layTo ms k).2 + (8 - (layTo ms k).2 % 8) % 8 + ms[k] := by
  have hb := layTo_bd ms (fun m h => by obtain ⟨j, hj, rfl⟩ := List.getElem_of_mem h; exact hm j hj) k (by omega)
  rw [layTo_succ ms k hk]
  simp only [layStep]
  omega

set_option maxRecDepth 100000 in
set_option maxHeartbeats 2000000 in
theorem tight_walk (name : ByteArray) (mem frame : Int) (l : List Part) (A : Option Addr) (c : Nat) (w : World) (h : RdPart w w.heap.size A l) (hl : l.length ≤ maxLen) :
    Calls Try.prog 4 #[.agg #[.string name, .int .i64 mem, .int .i64 frame, .slice A l.length c]] w fun e w' => e = .returned (.bool true) ∧ Below w.heap.size w w' := by
  unfold maxLen at hl
  have hW1 : Below w.heap.size w (w.alloc (.cells #[.string name, .int .i64 mem, .int .i64 frame, .slice A l.length c] 33)) := (Below.refl _ w).alloc (Nat.le_refl _) _
  have hb0 := Blk.new w 33 #[.string name, .int .i64 mem, .int .i64 frame, .slice A l.length c]
  have haw := awake_c (w.alloc (.cells #[.string name, .int .i64 mem, .int .i64 frame, .slice A l.length c] 33))
  go_enter Try.func4, Try.ntmps4
  go_wp2_with fail
  refine haw.mono ?_
  rintro e w1 ⟨rfl, hb1⟩
  clear haw
  have hB1 := hW1.trans (hb1.mono (by simp))
  have B1 := hb0.below hb1 (by simp)
  have hlt1 := B1.lt
  have h1 := h.below hB1
  clear h hW1 hb0 hb1
  have q0 := B1.cell 0
  have q1 := B1.cell 1
  have q2 := B1.cell 2
  have q3 := B1.cell 3
  simp at q0 q1 q2 q3
  by_cases hbad : mem < 0 ∨ 4096 < mem ∨ 6 < l.length
  · by_cases b1 : mem < 0
    · go_wp2
      go_ret
      exact ⟨rfl, hB1⟩
    by_cases b2 : 4096 < mem
    · go_wp2
      go_ret
      exact ⟨rfl, hB1⟩
    · have b3 : (6 : Int) < (l.length : Int) := by omega
      go_wp2
      go_ret
      exact ⟨rfl, hB1⟩
  have hm0 : 0 ≤ mem := by omega
  have hm1 : mem ≤ 4096 := by omega
  have hl6 : (l.length : Int) ≤ 6 := by omega
  clear hbad
  generalize hms : l.map Part.mem = ms
  have hlen : Hid (ms.length = l.length) := by rw [← hms]; simp [Hid]
  have hgetm : Hid (∀ k (hk : k < l.length), ∃ hk' : k < ms.length, ms[k] = l[k].mem) := fun k hk => ⟨by have := hlen.out; omega, by subst hms; simp⟩
  have Hms := Lib.hid hms
  clear hms
  go_wp2
  go_loop [3, 4] (fun e i => ∃ k : Nat, k ≤ l.length ∧ i = .int .i64 k ∧ e = .int .i64 (layTo ms k).2 ∧ Hid (∀ j (h : j < ms.length), j < k → 0 ≤ ms[j] ∧ ms[j] ≤ 4096)) (fun _ i => l.length - (intOf i).toNat)
  case atStart => exact ⟨0, Nat.zero_le _, rfl, rfl, fun j _ h => absurd h (by omega)⟩
  case round =>
    obtain ⟨k, hk, rfl, rfl, hall⟩ := hrel
    by_cases hlt : k < l.length
    · obtain ⟨b, o, rfl, hb, hc⟩ := h1 (by omega)
      have c3 := hc k hlt 3 _ rfl
      obtain ⟨hkm, hkg⟩ := hgetm.out k hlt
      rw [← hkg] at c3
      clear hc h1
      have hend : (0 ≤ ms[k] ∧ ms[k] ≤ 4096) → (layTo ms (k + 1)).2 = (layTo ms k).2 + (8 - (layTo ms k).2 % 8) % 8 + ms[k] := fun hok => by
        have hbd : 0 ≤ (layTo ms k).2 := by
          have : ∀ k' ≤ k, 0 ≤ (layTo ms k').2 ∧ (layTo ms k').2 ≤ 4104 * k' := by
            intro k' hk'
            induction k' with
            | zero => simp [layTo_zero]
            | succ k' ih =>
              rw [layTo_succ ms k' (by omega)]
              have := ih (by omega)
              have := hall.out k' (by omega) (by omega)
              simp only [layStep]
              omega
          exact (this k (Nat.le_refl _)).1
        rw [layTo_succ ms k hkm]
        simp only [layStep]
        omega
      have hbd : 0 ≤ (layTo ms k).2 ∧ (layTo ms k).2 ≤ 4104 * k := by
        have : ∀ k' ≤ k, 0 ≤ (layTo ms k').2 ∧ (layTo ms k').2 ≤ 4104 * k' := by
          intro k' hk'
          induction k' with
          | zero => simp [layTo_zero]
          | succ k' ih =>
            rw [layTo_succ ms k' (by omega)]
            have := ih (by omega)
            have := hall.out k' (by omega) (by omega)
            simp only [layStep]
            omega
        exact this k (Nat.le_refl _)
      have Hend := Lib.hid hend
      have hnext : (0 ≤ ms[k] ∧ ms[k] ≤ 4096) → ∀ j (h : j < ms.length), j < k + 1 → 0 ≤ ms[j] ∧ ms[j] ≤ 4096 := fun hok => forall_succ (p := fun m : Int => 0 ≤ m ∧ m ≤ 4096) hall.out hok
      have Hnext := Lib.hid hnext
      clear hend hnext hall hkg
      generalize ms[k] = m at c3 Hend Hnext
      generalize (layTo ms k).2 = en at hbd Hend ⊢
      obtain ⟨hbd1, hbd2⟩ := hbd
      by_cases m1 : m < 0
      · go_wp2
        go_ret
        exact ⟨rfl, hB1⟩
      by_cases m2 : 4096 < m
      · go_wp2
        go_ret
        exact ⟨rfl, hB1⟩
      have m1' : 0 ≤ m := by omega
      have m2' : m ≤ 4096 := by omega
      clear m1 m2
      go_wp2
      go_round
      case rel => exact ⟨k + 1, by omega, by go_num, by rw [Hend.out ⟨m1', m2'⟩]; exact congrArg (Value.int .i64) (by omega), Hnext.out ⟨m1', m2'⟩⟩
      case measure => simp [intOf]; omega
    · obtain rfl : k = l.length := by omega
      have hok : ∀ j (h : j < ms.length), 0 ≤ ms[j] ∧ ms[j] ≤ 4096 := fun j hj => hall.out j hj (by have := hlen.out; omega)
      have hbd := layTo_bd ms (fun m h => by obtain ⟨j, hj, rfl⟩ := List.getElem_of_mem h; exact hok j hj) l.length (by have := hlen.out; omega)
      have hbv : ∀ m ∈ ms, sizeB m = true := fun m h => by
        obtain ⟨j, hj, rfl⟩ := List.getElem_of_mem h
        have := hok j hj
        simp only [sizeB, Bool.and_eq_true, decide_eq_true_eq]; exact this
      have hall2 : ms.all sizeB = true := List.all_eq_true.2 hbv
      have hlay := layout_c name mem frame l A c w1 h1 (by omega)
      rw [Hms.out] at hlay
      have hlv : layV mem ms = if mem < (layTo ms l.length).2 then ([], 4) else ((layTo ms l.length).1, 0) := by
        have e1 : sizeB mem = true := by simp only [sizeB, Bool.and_eq_true, decide_eq_true_eq]; exact ⟨hm0, hm1⟩
        have e2 : ms.length ≤ 6 := by have := hlen.out; omega
        simp only [layV, e1, hall2, e2]
        simp [hlen.out]
      have Hok := Lib.hid hok
      clear hok hall hall2 hbv
      by_cases hen : mem < (layTo ms l.length).2
      · rw [hlv, if_pos hen] at hlay
        clear hlv h1 Hok hgetm
        generalize (layTo ms l.length).2 = en at hen hbd ⊢
        go_wp2_with fail
        refine hlay.mono ?_
        clear hlay
        rintro e w2 ⟨A2, c2, rfl, _, hb2⟩
        have g1 := (hb2.cell (p := ⟨w.heap.size, 1, none⟩) hlt1).trans q1
        go_wp2
        go_ret
        exact ⟨rfl, hB1.trans (hb2.mono hB1.size)⟩
      · rw [hlv, if_neg hen] at hlay
        have hln := layTo_len ms l.length (by have := hlen.out; omega)
        have hget := layTo_get ms l.length (by have := hlen.out; omega)
        have hends : ∀ k, k < l.length → ∃ hk : k < ms.length, (layTo ms (k + 1)).2 = ((layTo ms k).2 + 8 - 1) / 8 * 8 + ms[k] ∧ 0 ≤ (layTo ms k).2 ∧ (layTo ms k).2 ≤ 4104 * k := fun k hk => by
          have hkm : k < ms.length := by have := hlen.out; omega
          exact ⟨hkm, by rw [layTo_succ ms k hkm]; rfl, layTo_bd ms (fun m h => by obtain ⟨j, hj, rfl⟩ := List.getElem_of_mem h; exact Hok.out j hj) k (by omega)⟩
        have Hln := Lib.hid hln
        have Hget := Lib.hid hget
        have Hends := Lib.hid hends
        clear hlv hln hget hends
        have hle : (layTo ms l.length).2 ≤ mem := by omega
        obtain ⟨hbd1, hbd2⟩ := hbd
        go_wp2_with fail
        refine hlay.mono ?_
        clear hlay
        rintro e w2 ⟨A2, c2, rfl, hr2, hb2⟩
        replace hr2 : RdReg w2 w2.heap.size A2 (layTo ms l.length).1 := hr2
        have g1 := (hb2.cell (p := ⟨w.heap.size, 1, none⟩) hlt1).trans q1
        have g3 := (hb2.cell (p := ⟨w.heap.size, 3, none⟩) hlt1).trans q3
        have h2 := h1.below hb2
        have hB2 := hB1.trans (hb2.mono hB1.size)
        clear hb2 h1 q0 q1 q2 q3 B1 hB1
        simp only
        rw [Hln.out]
        go_wp2
        go_loopw [7, 8] (fun la i wr => ∃ k : Nat, k ≤ l.length ∧ i = .int .i64 k ∧ la = .int .i64 (layTo ms k).2 ∧ Below w2.heap.size w2 wr) (fun _ i _ => l.length - (intOf i).toNat)
        case atStart => exact ⟨0, Nat.zero_le _, rfl, rfl, Below.refl _ _⟩
        case round =>
          obtain ⟨k, hk, rfl, rfl, hB⟩ := hrel
          have hw1z : w.heap.size < w2.heap.size := by
            have := World.block_lt_of_cell? w2 ⟨w.heap.size, 1, none⟩ g1
            exact this
          have e1 := (hB.cell (p := ⟨w.heap.size, 1, none⟩) hw1z).trans g1
          have e3 := (hB.cell (p := ⟨w.heap.size, 3, none⟩) hw1z).trans g3
          have hBf := hB2.trans (hB.mono hB2.size)
          by_cases hlt : k < l.length
          · obtain ⟨b, o, rfl, hb, hc⟩ := (h2.keep hB) (by omega)
            obtain ⟨b', o', rfl, hb', hc'⟩ := (hr2.keep hB) (by rw [Hln.out]; omega)
            obtain ⟨hkm, hend, hbd3, hbd4⟩ := Hends.out k hlt
            have hk2 : k < (layTo ms l.length).1.length := by rw [Hln.out]; exact hlt
            obtain ⟨d0, d1, d2⟩ := hc' k hk2
            obtain ⟨m, hm'⟩ : ∃ m, ms[k]'hkm = m := ⟨_, rfl⟩
            have hgk : (layTo ms l.length).1[k] = ⟨k, ((layTo ms k).2 + 8 - 1) / 8 * 8, m⟩ := by rw [← hm']; exact (Hget.out k hk2).2
            rw [hgk] at d0 d1 d2
            have hmk : l[k].mem = m := by rw [← hm']; exact (hgetm.out k hlt).2.symm
            have c3 := hc k hlt 3 _ rfl
            rw [hmk] at c3
            have hmk2 := Hok.out k hkm
            rw [hm'] at hmk2 hend
            have Hend := Lib.hid hend
            clear hc hc' h2 hr2 hgk hmk hm' Hget Hends hgetm Hok hend g1 g3
            generalize hba : ((layTo ms k).2 + 8 - 1) / 8 * 8 = ba at d0 d1 d2 Hend
            simp only at d0 d1 d2
            have hb1 : (layTo ms k).2 ≤ ba := by omega
            have hb2 : ba ≤ (layTo ms k).2 + 7 := by omega
            have hb3 : (ba % 8 != 0) = false := by simp; omega
            have hb0 : 0 ≤ ba := by omega
            clear hba
            generalize (layTo ms k).2 = en at *
            have t1 : ((k : Int) != (k : Int)) = false := by simp
            have t2 : (m != m) = false := by simp
            have t3 : decide (ba < en) = false := by simp; omega
            have t4 : decide (en + 7 < ba) = false := by simp; omega
            have hi0 : (0 : Int) ≤ (k : Int) := by omega
            have hi1 : (k : Int) < (l.length : Int) := by omega
            obtain ⟨hmk2, hmk3⟩ := hmk2
            go_wp2
            go_quiet (fail)
            go_wp2
            go_quiet (fail)
            go_wp2
            go_roundw
            case rel => exact ⟨k + 1, by omega, by go_num, by rw [Hend.out], below_drewN hB _⟩
            case measure => simp [intOf]; omega
          · obtain rfl : k = l.length := by omega
            have t1 : ((layTo ms l.length).2 == (layTo ms l.length).2) = true := by simp
            generalize (layTo ms l.length).2 = en at *
            go_wp2
            go_ret
            exact ⟨rfl, hBf⟩
set_option maxRecDepth 100000 in
theorem memoryTight_lifted (os : Os) (started : os.Started) (H : Type) (enc : TypeId × Value → H) :
    ReturnsInHanded {} Try.checked os 4 .any (Rows.memoryTightSpec.pre6 enc Try.prog Try.f4 Rows.memoryTightRow.domain false) (Rows.memoryTightSpec.post enc Try.prog Try.f4 false true false false) := by
  refine returnsInHanded_of_change (C := Try.checked) own started (by kernel_rfl) Try.func4
    (ChangeSpec.witness6 (enc := enc) (C := Try.checked) false ⟨#[], #[.agg #[.string ⟨#[]⟩, .int .i64 0, .int .i64 0, .slice none 0 0]], []⟩ 8 (by kernel_rfl) (by kernel_rfl) (by kernel_rfl) (by kernel_rfl)) ?_
  intro W base args ds gs before hval0 hW hcnd _
  have hval : ∀ (j : Nat) t v, Try.f4.params[j]? = some t → args[j]? = some v → Value.okWide Try.prog W .any base t v := hval0
  have hW' := hW
  obtain ⟨p, q, hA0, hV, rfl, hfz, hnd⟩ := hW
  have hA : DataW.TrodAll enc Try.prog W 0 (fun _ => true) true Try.f4.params.toList args.toList ds p := hA0
  rw [Try.params4] at hA hval
  obtain ⟨v0, vs0, d0, ds0, p0, q0, hargs, rfl, rfl, h0, r0⟩ := trodAll_cons hA
  obtain ⟨rfl, rfl, rfl⟩ := trodAll_nil r0
  obtain rfl : args = #[v0] := by cases args; simp_all
  obtain ⟨name0, mem0, frame0, A0, c0, l0, rfl, km0, kf0, hlc0, hcm0, hR0, hP0⟩ := open_module (hval 0 33 v0 rfl rfl) h0
  clear hA0 hval0
  refine (tight_walk name0 mem0 frame0 l0 A0 c0 W hR0 (Nat.le_trans hlc0 hcm0)).mono fun e W' ⟨he, hg⟩ => ?_
  subst he
  refine ⟨_, rfl, law_post (tb := 4) laid ?_ ?_ Try.underlying4 rfl hW' ⟨rfl, rfl, rfl⟩ hg⟩
  · rw [Try.params4]; intro t ht; simp at ht; subst ht; exact ⟨by kernel_rfl, of_decide_eq_true (by kernel_rfl)⟩
  · kernel_rfl

theorem memoryTight_holds : Rows.MemoryTightSaid :=
  OpenClaim.holds_of_wide 4 Try.f4 rfl rfl rfl rfl rfl rfl rfl ⟨rfl, rfl, rfl, rfl, rfl⟩ rfl rfl rfl rfl rfl (by kernel_rfl) Try.func4 (by kernel_rfl)
    (of_decide_eq_true (by kernel_rfl)) (by unfold Func.isWrapper; first | (rw [if_pos (by decide +kernel)]; kernel_rfl) | (rw [if_neg (by decide +kernel)]; exact ⟨rfl, rfl⟩))
    (fun os started H enc _ => memoryTight_lifted os started H enc)
#print axioms memoryTight_holds
end Go.Proofs.Ytjgmdchlgabflaa
