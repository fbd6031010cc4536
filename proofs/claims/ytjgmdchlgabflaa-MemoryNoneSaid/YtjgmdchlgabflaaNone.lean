/- MemoryNone: for all numbers the law returns true. No condition. -/
import Derived.Test.YtjgmdchlgabflaaC0
namespace Go.Proofs.Ytjgmdchlgabflaa
open Go.ChangeShapes Go.WideShapes Go.ChangeAt Go.RowKit

/-- no memory: nil, or a zero object. -/
def NoMem (w : World) (v : Value) : Prop := v = .pointer none ∨ ∃ b, v = .pointer (some ⟨b, 0, none⟩) ∧ w.cell? ⟨b, 2, none⟩ = some (.bool false)

theorem bytes_none (v : Value) (part : Int) (w : World) (h : NoMem w v) : Calls Try.prog 37 #[v, .int .i64 part] w fun e w' => e = .returned (.tuple #[.slice none 0 0, .int .i64 1]) ∧ w = w' := by
  rcases h with rfl | ⟨b, rfl, hc⟩
  · go_enter Try.func37, Try.ntmps37
    go_wp2
    go_ret2
    exact ⟨rfl, rfl⟩
  · go_enter Try.func37, Try.ntmps37
    go_wp2
    go_ret2
    exact ⟨rfl, rfl⟩

theorem at_none (v : Value) (part addr : Int) (w : World) (h : NoMem w v) : Calls Try.prog 36 #[v, .int .i64 part, .int .i64 addr] w fun e w' => e = .returned (.tuple #[.pointer none, .int .i64 1]) ∧ w = w' := by
  have hI := bytes_none v part w h
  clear h
  go_enter Try.func36, Try.ntmps36
  go_wp2_with fail
  refine hI.mono ?_
  rintro e w' ⟨rfl, rfl⟩
  go_wp2
  go_ret2
  exact ⟨rfl, rfl⟩

theorem load_none (v : Value) (part addr : Int) (w : World) (h : NoMem w v) : Calls Try.prog 17 #[v, .int .i64 part, .int .i64 addr] w fun e w' => e = .returned (.tuple #[.int .u8 0, .int .i64 1]) ∧ w = w' := by
  have hI := at_none v part addr w h
  clear h
  go_enter Try.func17, Try.ntmps17
  go_wp2_with fail
  refine hI.mono ?_
  rintro e w' ⟨rfl, rfl⟩
  go_wp2
  go_ret2
  exact ⟨rfl, rfl⟩

theorem store_none (v : Value) (part addr x : Int) (w : World) (h : NoMem w v) : Calls Try.prog 18 #[v, .int .i64 part, .int .i64 addr, .int .u8 x] w fun e w' => e = .returned (.int .i64 1) ∧ w = w' := by
  have hI := at_none v part addr w h
  clear h
  go_enter Try.func18, Try.ntmps18
  go_wp2_with fail
  refine hI.mono ?_
  rintro e w' ⟨rfl, rfl⟩
  go_wp2
  go_ret
  exact ⟨rfl, rfl⟩

theorem run_clear_none (ty : TypeId) (n c : Nat) (W : World) : (Builtin.clear_ #[46] ty #[.slice none n c]).run Try.prog W = .ok (.tuple #[]) W := by
  simp [Builtin.clear_, run_underlying Try.underlying46]

theorem clear_none (v : Value) (part : Int) (w : World) (h : NoMem w v) : Calls Try.prog 19 #[v, .int .i64 part] w fun e w' => e = .returned (.int .i64 1) ∧ w = w' := by
  have hI := bytes_none v part w h
  clear h
  have hcl := run_clear_none
  go_enter Try.func19, Try.ntmps19
  go_wp2_with fail
  refine hI.mono ?_
  rintro e w' ⟨rfl, rfl⟩
  go_wp2
  go_ret
  exact ⟨rfl, rfl⟩

theorem all_none (v : Value) (w : World) (h : NoMem w v) : Calls Try.prog 20 #[v] w fun e w' => e = .returned (.slice none 0 0) ∧ w = w' := by
  rcases h with rfl | ⟨b, rfl, hc⟩
  · go_enter Try.func20, Try.ntmps20
    go_wp2
    go_ret
    exact ⟨rfl, rfl⟩
  · go_enter Try.func20, Try.ntmps20
    go_wp2
    go_ret
    exact ⟨rfl, rfl⟩

set_option maxRecDepth 100000 in
set_option maxHeartbeats 1000000 in
theorem none_walk (part addr x : Int) (w : World) : Calls Try.prog 5 #[.int .i64 part, .int .i64 addr, .int .u8 x] w fun e w' => e = .returned (.bool true) ∧ Below w.heap.size w w' := by
  go_enter Try.func5, Try.ntmps5
  go_wp2_with fail
  refine (awake_c w).mono ?_
  rintro e w1 ⟨rfl, hb1⟩
  go_wp2
  go_loopw [7] (fun i wr => ∃ k : Nat, k ≤ 2 ∧ i = .int .i64 k ∧ Below w.heap.size w wr) (fun i _ => 2 - (intOf i).toNat)
  case atStart => exact ⟨0, Nat.zero_le _, rfl, hb1⟩
  case round =>
    obtain ⟨k, hk, rfl, hB⟩ := hrel
    by_cases hlt : k < 2
    · have hmem : ∃ v : Value, (k = 0 ∧ v = .pointer none ∨ k = 1 ∧ v = .pointer (some ⟨wr.heap.size, 0, none⟩)) := by
        match k, hlt with
        | 0, _ => exact ⟨_, .inl ⟨rfl, rfl⟩⟩
        | 1, _ => exact ⟨_, .inr ⟨rfl, rfl⟩⟩
      obtain ⟨v, hv⟩ := hmem
      rcases hv with ⟨rfl, rfl⟩ | ⟨rfl, rfl⟩
      all_goals
        go_wp2_with fail
        refine nameC fun W0 hW0 => ?_
        have hBW : Below w.heap.size w W0 := by subst hW0; exact (hB.alloc hB.size _).alloc (by have := hB.size; simp; omega) _
      · have hN : NoMem W0 (.pointer none) := .inl rfl
        clear hW0
        refine (load_none _ _ _ W0 hN).mono ?_
        rintro e w' ⟨rfl, rfl⟩
        go_wp2_with fail
        refine (store_none _ _ _ _ W0 hN).mono ?_
        rintro e w' ⟨rfl, rfl⟩
        go_wp2_with fail
        refine (clear_none _ _ W0 hN).mono ?_
        rintro e w' ⟨rfl, rfl⟩
        go_wp2_with fail
        refine (all_none _ W0 hN).mono ?_
        rintro e w' ⟨rfl, rfl⟩
        go_wp2
        go_roundw
        case rel => exact ⟨1, by omega, by go_num, hBW⟩
        case measure => simp [intOf]
      · have hN : NoMem W0 (.pointer (some ⟨wr.heap.size, 0, none⟩)) := .inr ⟨_, rfl, by
          subst hW0; rw [World.cell?_alloc_lt _ _ _ (by simp)]; rw [(Blk.new wr 48 _).cell]; rfl⟩
        clear hW0
        refine (load_none _ _ _ W0 hN).mono ?_
        rintro e w' ⟨rfl, rfl⟩
        go_wp2_with fail
        refine (store_none _ _ _ _ W0 hN).mono ?_
        rintro e w' ⟨rfl, rfl⟩
        go_wp2_with fail
        refine (clear_none _ _ W0 hN).mono ?_
        rintro e w' ⟨rfl, rfl⟩
        go_wp2_with fail
        refine (all_none _ W0 hN).mono ?_
        rintro e w' ⟨rfl, rfl⟩
        go_wp2
        go_roundw
        case rel => exact ⟨2, by omega, by go_num, hBW⟩
        case measure => simp [intOf]
    · obtain rfl : k = 2 := by omega
      go_wp2
      go_ret
      exact ⟨rfl, hB⟩

-- THE ROW
set_option maxRecDepth 100000 in
theorem memoryNone_lifted (os : Os) (started : os.Started) (H : Type) (enc : TypeId × Value → H) :
    ReturnsInHanded {} Try.checked os 5 .any (Rows.memoryNoneSpec.pre6 enc Try.prog Try.f5 Rows.memoryNoneRow.domain false) (Rows.memoryNoneSpec.post enc Try.prog Try.f5 false true false false) := by
  refine returnsInHanded_of_change (C := Try.checked) own started (by kernel_rfl) Try.func5
    (ChangeSpec.witness6 (enc := enc) (C := Try.checked) false ⟨#[], #[.int .i64 0, .int .i64 0, .int .u8 0], []⟩ 8 (by kernel_rfl) (by kernel_rfl) (by kernel_rfl) (by kernel_rfl)) ?_
  intro W base args ds gs before hval0 hW hcnd _
  have hval : ∀ (j : Nat) t v, Try.f5.params[j]? = some t → args[j]? = some v → Value.okWide Try.prog W .any base t v := hval0
  have hW' := hW
  obtain ⟨p, q, hA0, hV, rfl, hfz, hnd⟩ := hW
  have hA : DataW.TrodAll enc Try.prog W 0 (fun _ => true) true Try.f5.params.toList args.toList ds p := hA0
  rw [Try.params5] at hA hval
  obtain ⟨v0, vs0, d0, ds0, p0, q0, hargs, rfl, rfl, h0, r0⟩ := trodAll_cons hA
  obtain ⟨v1, vs1, d1, ds1, p1, q1, rfl, rfl, rfl, h1, r1⟩ := trodAll_cons r0
  obtain ⟨v2, vs2, d2, ds2, p2, q2, rfl, rfl, rfl, h2, r2⟩ := trodAll_cons r1
  obtain ⟨rfl, rfl, rfl⟩ := trodAll_nil r2
  obtain rfl : args = #[v0, v1, v2] := by cases args; simp_all
  obtain ⟨a0, rfl, rfl, rfl, w0⟩ := open_int Try.underlying3 (hval 0 3 v0 rfl rfl) h0
  obtain ⟨a1, rfl, rfl, rfl, w1⟩ := open_int Try.underlying3 (hval 1 3 v1 rfl rfl) h1
  obtain ⟨a2, rfl, rfl, rfl, w2⟩ := open_int Try.underlying5 (hval 2 5 v2 rfl rfl) h2
  clear hA0 hval0
  refine (none_walk a0 a1 a2 W).mono fun e W' ⟨he, hg⟩ => ?_
  subst he
  refine ⟨_, rfl, law_post (tb := 4) laid ?_ ?_ Try.underlying4 rfl hW' ⟨rfl, rfl, rfl⟩ hg⟩
  · rw [Try.params5]; intro t ht; simp at ht; rcases ht with rfl | rfl <;> exact ⟨by kernel_rfl, of_decide_eq_true (by kernel_rfl)⟩
  · kernel_rfl

theorem memoryNone_holds : Rows.MemoryNoneSaid :=
  OpenClaim.holds_of_wide 5 Try.f5 rfl rfl rfl rfl rfl rfl rfl ⟨rfl, rfl, rfl, rfl, rfl⟩ rfl rfl rfl rfl rfl (by kernel_rfl) Try.func5 (by kernel_rfl)
    (of_decide_eq_true (by kernel_rfl)) (by unfold Func.isWrapper; first | (rw [if_pos (by decide +kernel)]; kernel_rfl) | (rw [if_neg (by decide +kernel)]; exact ⟨rfl, rfl⟩))
    (fun os started H enc _ => memoryNone_lifted os started H enc)
#print axioms memoryNone_holds
end Go.Proofs.Ytjgmdchlgabflaa
