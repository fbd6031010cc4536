/- The contracts of far, clock and Owner. -/
import Derived.Test.YtlmbffnmjfbglaaG0
namespace Go.Proofs.Ytlmbffnmjfbglaa
open Go.ChangeShapes Go.WideShapes Go.ChangeAt Go.RowKit

def nearP (w : Win) : Prop := -1073741824 ≤ w.start ∧ w.start ≤ 1073741824 ∧ -1073741824 ≤ w.len ∧ w.len ≤ 1073741824
instance (w : Win) : Decidable (nearP w) := by unfold nearP; infer_instance
def nearB (w : Win) : Bool := decide (nearP w)
def clockB (F t : Int) : Bool := decide (1 ≤ F ∧ F ≤ 2000 ∧ 0 ≤ t ∧ t ≤ 1073741824)

set_option maxHeartbeats 400000 in
theorem far_c (x : Win) (w : World) : Calls Try.prog 40 #[.agg #[.int .i64 x.part, .int .i64 x.start, .int .i64 x.len]] w fun e w' => e = .returned (.bool (!nearB x)) ∧ Below w.heap.size w w' := by
  have hB : Below w.heap.size w (w.alloc (.cells #[.int .i64 x.part, .int .i64 x.start, .int .i64 x.len] 31)) := (Below.refl _ _).alloc (Nat.le_refl _) _
  obtain ⟨p, s, l⟩ := x
  simp only at *
  go_enter Try.func40, Try.ntmps40
  go_wp2
  all_goals
    go_ret
    refine ⟨ret_bool ?_, hB⟩
    rw [Bool.eq_iff_iff]
    show _ = true ↔ _
    simp only [nearB, Bool.not_eq_true', decide_eq_false_iff_not, decide_eq_true_iff, Bool.or_eq_true]
    simp only [nearP]
    first | omega | (refine ⟨fun _ => by omega, fun _ => trivial⟩)

theorem clock_c (F t : Int) (w : World) : Calls Try.prog 37 #[.int .i64 F, .int .i64 t] w fun e w' => e = .returned (.bool (clockB F t)) ∧ w = w' := by
  by_cases h1 : 1 ≤ F
  · by_cases h2 : F ≤ 2000
    · by_cases h3 : 0 ≤ t
      · by_cases h4 : t ≤ 1073741824
        · have hv : clockB F t = true := by simp [clockB, h1, h2, h3, h4]
          rw [hv]; clear hv
          go_enter Try.func37, Try.ntmps37
          go_wp2
          go_ret
          exact ⟨rfl, rfl⟩
        · have hv : clockB F t = false := by simp [clockB, h4]
          rw [hv]; clear hv
          go_enter Try.func37, Try.ntmps37
          go_wp2
          go_ret
          exact ⟨rfl, rfl⟩
      · have hv : clockB F t = false := by simp [clockB, h3]
        rw [hv]; clear hv
        go_enter Try.func37, Try.ntmps37
        go_wp2
        go_ret
        exact ⟨rfl, rfl⟩
    · have hv : clockB F t = false := by simp [clockB, h2]
      rw [hv]; clear hv
      go_enter Try.func37, Try.ntmps37
      go_wp2
      go_ret
      exact ⟨rfl, rfl⟩
  · have hv : clockB F t = false := by simp [clockB, h1]
    rw [hv]; clear hv
    go_enter Try.func37, Try.ntmps37
    go_wp2
    go_ret
    exact ⟨rfl, rfl⟩

def ownP (u : Int) (x : Win) : Bool := nearB x && (decide (x.start ≤ u) && decide (u < x.start + x.len))
theorem owner1_c (u : Int) (Bn : Nat) (w : World) (hb0 : Blk w Bn 3 #[.int .i64 u]) : PredWin 39 #[.pointer (some ⟨Bn, 0, none⟩)] (ownP u) w := fun W x hb => by
  change Calls _ _ _ _ fun e w' => e = .returned (.bool (ownP u x)) ∧ Below W.heap.size W w'
  have hB : Below W.heap.size W (W.alloc (.cells #[.int .i64 x.part, .int .i64 x.start, .int .i64 x.len] 31)) := (Below.refl _ _).alloc (Nat.le_refl _) _
  have hbW := (hb0.below hb hb0.lt).alloc (.cells #[.int .i64 x.part, .int .i64 x.start, .int .i64 x.len] 31)
  have hbn := (hb0.below hb hb0.lt).lt
  have hx := Blk.new W 31 #[.int .i64 x.part, .int .i64 x.start, .int .i64 x.len]
  have hf := fun W => far_c x W
  clear hb0 hb
  cases hn : nearB x with
  | false =>
    have hv : ownP u x = false := by simp [ownP, hn]
    rw [hv]
    rw [hn] at hf
    clear hv hn hbW hx
    go_enter Try.func39, Try.ntmps39
    go_wp2_with fail
    refine (hf _).mono ?_
    rintro e w' ⟨rfl, hb'⟩
    have hB' := hB.trans (hb'.mono hB.size)
    clear hf hB hb'
    go_wp2
    go_ret
    exact ⟨rfl, hB'⟩
  | true =>
    have hnp : nearP x := of_decide_eq_true hn
    rw [hn] at hf
    have hv : ownP u x = (decide (x.start ≤ u) && decide (u < x.start + x.len)) := by simp [ownP, hn]
    rw [hv]
    clear hv hn
    obtain ⟨n1, n2, n3, n4⟩ := hnp
    obtain ⟨p, s, l⟩ := x
    simp only at *
    by_cases h1 : s ≤ u
    · have d1 : decide (s ≤ u) = true := by simpa using h1
      rw [d1]
      by_cases h2 : u < s + l
      · have d2 : decide (u < s + l) = true := by simpa using h2
        rw [d2]
        go_enter Try.func39, Try.ntmps39
        go_wp2_with fail
        refine (hf _).mono ?_
        rintro e w' ⟨rfl, hb'⟩
        have hB' := hB.trans (hb'.mono hB.size)
        have q1 : w'.cell? ⟨Bn, 0, none⟩ = some (.int .i64 u) := (hbW.below hb' hbW.lt).cell 0
        have q2 : w'.cell? ⟨W.heap.size, 1, none⟩ = some (.int .i64 s) := (hx.below hb' hx.lt).cell 1
        have q3 : w'.cell? ⟨W.heap.size, 2, none⟩ = some (.int .i64 l) := (hx.below hb' hx.lt).cell 2
        clear hf hB hb' hbW hx d1 d2
        go_wp2
        go_ret
        exact ⟨ret_bool (by simp <;> omega), hB'⟩
      · have d2 : decide (u < s + l) = false := by simpa using h2
        rw [d2]
        go_enter Try.func39, Try.ntmps39
        go_wp2_with fail
        refine (hf _).mono ?_
        rintro e w' ⟨rfl, hb'⟩
        have hB' := hB.trans (hb'.mono hB.size)
        have q1 : w'.cell? ⟨Bn, 0, none⟩ = some (.int .i64 u) := (hbW.below hb' hbW.lt).cell 0
        have q2 : w'.cell? ⟨W.heap.size, 1, none⟩ = some (.int .i64 s) := (hx.below hb' hx.lt).cell 1
        have q3 : w'.cell? ⟨W.heap.size, 2, none⟩ = some (.int .i64 l) := (hx.below hb' hx.lt).cell 2
        clear hf hB hb' hbW hx d1 d2
        go_wp2
        go_ret
        exact ⟨ret_bool (by simp <;> omega), hB'⟩
    · have d1 : decide (s ≤ u) = false := by simpa using h1
      rw [d1]
      go_enter Try.func39, Try.ntmps39
      go_wp2_with fail
      refine (hf _).mono ?_
      rintro e w' ⟨rfl, hb'⟩
      have hB' := hB.trans (hb'.mono hB.size)
      have q1 : w'.cell? ⟨Bn, 0, none⟩ = some (.int .i64 u) := (hbW.below hb' hbW.lt).cell 0
      have q2 : w'.cell? ⟨W.heap.size, 1, none⟩ = some (.int .i64 s) := (hx.below hb' hx.lt).cell 1
      have q3 : w'.cell? ⟨W.heap.size, 2, none⟩ = some (.int .i64 l) := (hx.below hb' hx.lt).cell 2
      clear hf hB hb' hbW hx d1
      go_wp2
      go_ret
      exact ⟨rfl, hB'⟩

def ownerV (tb : List Win) (F t : Int) : Int × Bool :=
  if clockB F t then (match tb.find? (ownP (t % F)) with | some x => (x.part, true) | none => (0, false)) else (0, false)

theorem owner_c (tb : List Win) (A : Option Addr) (c : Nat) (F t : Int) (w : World) (h : RdG Win.tri w w.heap.size A tb) (hl : tb.length ≤ 9223372036854775807) :
    Calls Try.prog 15 #[.slice A tb.length c, .int .i64 F, .int .i64 t] w fun e w' => e = .returned (.tuple #[.int .i64 (ownerV tb F t).1, .bool (ownerV tb F t).2]) ∧ Below w.heap.size w w' := by
  have hB : Below w.heap.size w (w.alloc (.cells #[.int .i64 t] 3)) := (Below.refl _ _).alloc (Nat.le_refl _) _
  have hck := fun W => clock_c F t W
  cases hc : clockB F t with
  | false =>
    have hv : ownerV tb F t = (0, false) := by simp [ownerV, hc]
    rw [hv]
    rw [hc] at hck
    clear hv hc h
    go_enter Try.func15, Try.ntmps15
    go_wp2_with (go_at_call 37; refine (hck _).mono ?_; rintro e w' ⟨rfl, rfl⟩)
    go_ret2
    exact ⟨rfl, hB⟩
  | true =>
    rw [hc] at hck
    obtain ⟨h1, h2, h3, h4⟩ : 1 ≤ F ∧ F ≤ 2000 ∧ 0 ≤ t ∧ t ≤ 1073741824 := of_decide_eq_true hc
    have hF0 : F ≠ 0 := by omega
    have hv : ownerV tb F t = (match tb.find? (ownP (t % F)) with | some x => (x.part, true) | none => (0, false)) := by simp [ownerV, hc]
    have Hv := Lib.hid hv
    clear hv hc
    have hb0 := Blk.new w 3 #[.int .i64 (t % F)]
    have hidx := indexWin_c 39 #[.pointer (some ⟨w.heap.size, 0, none⟩)] (ownP (t % F)) (enters_of Try.func39 (by kernel_rfl) rfl) tb A c _ (owner1_c (t % F) w.heap.size _ hb0) (h.below ((Below.refl _ w).alloc (Nat.le_refl _) _)) hl
    have hB' : Below w.heap.size w (w.alloc (.cells #[.int .i64 (t % F)] 3)) := (Below.refl _ _).alloc (Nat.le_refl _) _
    have hfc := find_cases (ownP (t % F)) tb
    have Hfc := Lib.hid hfc
    clear hfc hB
    generalize idxI (ownP (t % F)) tb = ix at hidx Hfc
    go_enter Try.func15, Try.ntmps15
    go_wp2_with (go_at_call 37; refine (hck _).mono ?_; rintro e w' ⟨rfl, rfl⟩)
    refine hidx.mono ?_
    rintro e w1 ⟨rfl, hb1⟩
    have hB1 := hB'.trans (hb1.mono hB'.size)
    have hrd := h.keep hB1
    clear hidx hB' hb1 hck hb0 h
    rcases Hfc.out with ⟨k, hk, rfl, hf, _⟩ | ⟨rfl, hf⟩
    · obtain ⟨b, o, rfl, hb, hcc⟩ := hrd (by omega)
      obtain ⟨c0, _, _⟩ := hcc k hk
      change _ = some (Value.int .i64 tb[k].part) at c0
      have Hv2 := Lib.hid (show ownerV tb F t = (tb[k].part, true) by rw [Hv.out, hf])
      clear hcc hf Hv Hfc hrd
      generalize tb[k] = x at c0 Hv2
      have hi0 : (0 : Int) ≤ (k : Int) := by omega
      have hi1 : (k : Int) < (tb.length : Int) := by omega
      go_wp2
      go_ret2
      rw [Hv2.out]
      exact ⟨rfl, hB1⟩
    · have Hv2 := Lib.hid (show ownerV tb F t = (0, false) by rw [Hv.out, hf])
      clear hf Hv Hfc hrd
      go_wp2
      go_ret2
      rw [Hv2.out]
      exact ⟨rfl, hB1⟩
end Go.Proofs.Ytlmbffnmjfbglaa
