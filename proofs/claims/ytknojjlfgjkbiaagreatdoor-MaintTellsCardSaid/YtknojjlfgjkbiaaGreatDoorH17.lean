/- Texts K4 K14 R1, joined. -/
import Derived.StillTailTactics
import Derived.Test.YtknojjlfgjkbiaaGreatDoorH04
import Derived.Test.YtknojjlfgjkbiaaGreatDoorH16
import Derived.Test.YtknojjlfgjkbiaaGreatDoorH07
set_option linter.unusedSimpArgs false
set_option linter.unusedVariables false
set_option linter.unusedSectionVars false
/- lex: tests, the cursor, on words of one letter. -/
namespace Go.Proofs.YtknojjlfgjkbiaaGreatDoor
open Go.ChangeShapes Go.WideShapes Go.ChangeAt Go.RowKit
attribute [local go_sem] Oper.semAt_some

/-- what a test says of a byte; it changes nothing. -/
def TestAt (w : World) (f : Nat) (lb : Array Value) (b : Int) (r : Bool) : Prop :=
  ∀ W, Below w.heap.size w W → Calls Tryz.prog f (#[.int .u8 b] ++ lb) W fun e w' => e = .returned (.bool r) ∧ w' = W
theorem TestAt.next {w w' : World} {f : Nat} {lb : Array Value} {b : Int} {r : Bool} (h : TestAt w f lb b r) (hb : Below w.heap.size w w') : TestAt w' f lb b r :=
  fun W hW => h W (hb.trans (hW.mono hb.size))
theorem between_c (lo hi : Int) (w : World) : Calls Tryz.prog 345 #[.int .u8 lo, .int .u8 hi] w fun e w' => e = .returned (.func (.func 359) #[] #[.pointer (some ⟨w.heap.size, 0, none⟩), .pointer (some ⟨w.heap.size + 1, 0, none⟩)]) ∧ w' = (w.alloc (.cells #[.int .u8 lo] 5)).alloc (.cells #[.int .u8 hi] 5) := by
  go_enter Tryz.func345, Tryz.ntmps345
  go_wp2
  go_ret
  exact ⟨by simp, rfl⟩
theorem among_c (s : ByteArray) (w : World) : Calls Tryz.prog 346 #[.string s] w fun e w' => e = .returned (.func (.func 360) #[] #[.pointer (some ⟨w.heap.size, 0, none⟩)]) ∧ w' = w.alloc (.cells #[.string s] 9) := by
  go_enter Tryz.func346, Tryz.ntmps346
  go_wp2
  go_ret
  exact ⟨rfl, rfl⟩
theorem either_c (A : Option Addr) (n c : Nat) (w : World) : Calls Tryz.prog 344 #[.slice A n c] w fun e w' => e = .returned (.func (.func 358) #[] #[.pointer (some ⟨w.heap.size, 0, none⟩)]) ∧ w' = w.alloc (.cells #[.slice A n c] 365) := by
  go_enter Tryz.func344, Tryz.ntmps344
  go_wp2
  go_ret
  exact ⟨rfl, rfl⟩
theorem between_at {lo hi b : Int} {B1 B2 : Nat} {w : World} (h1 : Blk w B1 5 #[.int .u8 lo]) (h2 : Blk w B2 5 #[.int .u8 hi]) (hlo : decide (b ≥ lo) = true) (hhi : decide (b ≤ hi) = true) :
    TestAt w 359 #[.pointer (some ⟨B1, 0, none⟩), .pointer (some ⟨B2, 0, none⟩)] b true := by
  intro W hW
  have c1 : W.cell? ⟨B1, 0, none⟩ = some (.int .u8 lo) := (h1.below hW h1.lt).cell 0
  have c2 : W.cell? ⟨B2, 0, none⟩ = some (.int .u8 hi) := (h2.below hW h2.lt).cell 0
  clear h1 h2 hW
  go_enter Tryz.func359, Tryz.ntmps359
  go_wp2
  go_ret
  exact ⟨rfl, rfl⟩
theorem index360 (s : ByteArray) (c : Int) (W : World) : (callFunc 382 #[.string s, .int .u8 c]).run Tryz.prog W = .ok (.value (.int .i64 (firstIdx s c.toNat.toUInt8))) W := by
  rw [run_callFunc_extern Tryz.func382 (by kernel_rfl) (by kernel_rfl) (by kernel_rfl) (e := Extern.BytealgIndexByte.indexByte) (by kernel_rfl), run_indexByte_string]
  rfl
theorem index349 (s : ByteArray) (c : Int) (w : World) : Calls Tryz.prog 371 #[.string s, .int .u8 c] w fun e w' => e = .returned (.int .i64 (firstIdx s c.toNat.toUInt8)) ∧ w = w' := by
  have h := fun W => index360 s c W
  generalize firstIdx s c.toNat.toUInt8 = q at *
  go_enter Tryz.func371, Tryz.ntmps371
  go_wp2
  go_ret
  exact ⟨rfl, rfl⟩
theorem index339 (s : ByteArray) (c : Int) (w : World) : Calls Tryz.prog 361 #[.string s, .int .u8 c] w fun e w' => e = .returned (.int .i64 (firstIdx s c.toNat.toUInt8)) ∧ w = w' := by
  have h := index349 s c w
  generalize firstIdx s c.toNat.toUInt8 = q at *
  go_enter Tryz.func361, Tryz.ntmps361
  go_wp2_with (go_at_call 371; refine h.mono ?_; rintro e w' ⟨rfl, rfl⟩)
  go_ret
  exact ⟨rfl, rfl⟩
theorem among_at {s : ByteArray} {b : Int} {r : Bool} {B : Nat} {w : World} (h : Blk w B 9 #[.string s]) (hr : decide (firstIdx s b.toNat.toUInt8 ≥ 0) = r) :
    TestAt w 360 #[.pointer (some ⟨B, 0, none⟩)] b r := by
  intro W hW
  have c1 : W.cell? ⟨B, 0, none⟩ = some (.string s) := (h.below hW h.lt).cell 0
  have hI := index339 s b W
  subst hr
  generalize firstIdx s b.toNat.toUInt8 = q at *
  clear h hW
  go_enter Tryz.func360, Tryz.ntmps360
  go_wp2_with (go_at_call 361; refine hI.mono ?_; rintro e w' ⟨rfl, rfl⟩)
  go_ret
  exact ⟨rfl, rfl⟩
/-- the first test says yes. -/
theorem either_at {w : World} {B br : Nat} {n c : Nat} {f : Nat} {lb : Array Value} {b : Int} (h : Blk w B 365 #[.slice (some ⟨br, 0, none⟩) n c]) (hn : 0 < n) (hc : w.cell? ⟨br, 0, none⟩ = some (.func (.func f) #[] lb)) (hbr : br < w.heap.size)
    (eg : ∀ args w, (callFunc f args).run Tryz.prog w = .ok (.enter f args) w) (ht : TestAt w f lb b true) : TestAt w 358 #[.pointer (some ⟨B, 0, none⟩)] b true := by
  intro W hW
  have c1 : W.cell? ⟨B, 0, none⟩ = some (.slice (some ⟨br, 0, none⟩) n c) := (h.below hW h.lt).cell 0
  have c2 : W.cell? ⟨br, 0, none⟩ = some (.func (.func f) #[] lb) := (hW.cell (p := ⟨br, 0, none⟩) hbr).trans hc
  have ht := ht W hW
  clear h hW hc
  go_enter Tryz.func358, Tryz.ntmps358
  go_wp2
  go_loopw [8] (fun t wr => t = .int .i64 0 ∧ wr = W) (fun t wr => 0)
  case atStart => exact ⟨rfl, rfl⟩
  case round =>
    obtain ⟨rfl, rfl⟩ := hrel
    go_wp2_with (go_at_fn f; refine ht.mono ?_; rintro e w' ⟨rfl, rfl⟩)
    go_ret
    exact ⟨rfl, rfl⟩
/-- the scanner's block. -/
def ScB (w : World) (g : Nat) (s : ByteArray) (k : Nat) (v0 v1 v2 v3 : Value) : Prop := Blk w g 345 #[.string s, .int .i64 k, v0, v1, v2, v3]
section
variable {g : Nat} {s : ByteArray} {k : Nat} {v0 v1 v2 v3 : Value}
set_option maxRecDepth 100000 in
/-- at the end: no more. -/
theorem more_end (v : Value) (w : World) (h : ScB w g s k v0 v1 v2 v3) (hk : s.size ≤ k) : Calls Tryz.prog 363 #[.pointer (some ⟨g, 0, none⟩), v] w fun e w' => e = .returned (.bool false) ∧ ∃ m, w' = w.drewN m := by
  have c0 : w.cell? ⟨g, 0, none⟩ = some (.string s) := Blk.cell h 0
  have c1 : w.cell? ⟨g, 1, none⟩ = some (.int .i64 k) := Blk.cell h 1
  have hd : decide ((k : Int) < (s.size : Int)) = false := by rw [decide_eq_false_iff_not]; omega
  generalize (k : Int) = K at *
  clear h hk
  go_enter Tryz.func363, Tryz.ntmps363
  go_wp2_with fail
  go_quiet (fail)
  go_wp2_with fail
  go_ret
  exact ⟨rfl, _, rfl⟩
set_option maxRecDepth 100000 in
/-- what the test says of the byte that stands there. -/
theorem more_at (f : Nat) (lb : Array Value) (b : Int) (r : Bool) (w : World) (h : ScB w g s k v0 v1 v2 v3) (hk : k < s.size) (hb : bAt s k = b) (eg : ∀ args w, (callFunc f args).run Tryz.prog w = .ok (.enter f args) w) (ht : TestAt w f lb b r) :
    Calls Tryz.prog 363 #[.pointer (some ⟨g, 0, none⟩), .func (.func f) #[] lb] w fun e w' => e = .returned (.bool r) ∧ ∃ m, w' = w.drewN m := by
  have c0 : w.cell? ⟨g, 0, none⟩ = some (.string s) := Blk.cell h 0
  have c1 : w.cell? ⟨g, 1, none⟩ = some (.int .i64 k) := Blk.cell h 1
  have ht := fun n => ht (w.drewN n) (only_below (Below.refl _ _))
  rw [← hb, ← bAt_eq hk] at ht
  clear h hb
  go_enter Tryz.func363, Tryz.ntmps363
  go_wp2_with fail
  go_quiet ((go_at_fn f; exact Calls.quiet_of_same (ht _)))
  go_wp2_with fail
  go_ret
  exact ⟨rfl, _, rfl⟩
theorem while_end (v : Value) (w : World) (h : ScB w g s k v0 v1 v2 v3) (hk : s.size ≤ k) : Calls Tryz.prog 362 #[.pointer (some ⟨g, 0, none⟩), v] w fun e w' => (∃ v, e = .returned v) ∧ Below w.heap.size w w' := by
  have hm := more_end v w h hk
  clear h
  go_enter Tryz.func362, Tryz.ntmps362
  go_wp2_with fail
  go_loopw [] (fun wr => wr = w) (fun wr => 0)
  case atStart => rfl
  case round =>
    subst hrel
    go_wp2_with (go_at_call 363; refine hm.mono ?_; rintro e w' ⟨rfl, m, rfl⟩)
    go_end0
    exact ⟨⟨_, rfl⟩, only_below (Below.refl _ _)⟩
theorem while_at (f : Nat) (lb : Array Value) (b : Int) (w : World) (h : ScB w g s k v0 v1 v2 v3) (hk : k < s.size) (hb : bAt s k = b) (eg : ∀ args w, (callFunc f args).run Tryz.prog w = .ok (.enter f args) w) (ht : TestAt w f lb b false) :
    Calls Tryz.prog 362 #[.pointer (some ⟨g, 0, none⟩), .func (.func f) #[] lb] w fun e w' => (∃ v, e = .returned v) ∧ Below w.heap.size w w' := by
  have hm := more_at f lb b false w h hk hb eg ht
  clear h ht
  go_enter Tryz.func362, Tryz.ntmps362
  go_wp2_with fail
  go_loopw [] (fun wr => wr = w) (fun wr => 0)
  case atStart => rfl
  case round =>
    subst hrel
    go_wp2_with (go_at_call 363; refine hm.mono ?_; rintro e w' ⟨rfl, m, rfl⟩)
    go_end0
    exact ⟨⟨_, rfl⟩, only_below (Below.refl _ _)⟩
end
end Go.Proofs.YtknojjlfgjkbiaaGreatDoor
/- lex: the scanner's skip, and the table of tests. -/
namespace Go.Proofs.YtknojjlfgjkbiaaGreatDoor
open Go.ChangeShapes Go.WideShapes Go.ChangeAt Go.RowKit
attribute [local go_sem] Oper.semAt_some

theorem blk_at' (w : World) (s : Nat) (t : TypeId) (cs : Array Value) (h : w.heap.size = s) : Blk (w.alloc (.cells cs t)) s t cs := by subst h; exact Blk.new w t cs
set_option maxRecDepth 100000 in
set_option maxHeartbeats 1000000 in
theorem skip_c (g : Nat) (w : World)
    (hm : ∀ W Bs, Below w.heap.size w W → Blk W Bs 9 #[.string ⟨#[35]⟩] → Calls Tryz.prog 363 #[.pointer (some ⟨g, 0, none⟩), .func (.func 360) #[] #[.pointer (some ⟨Bs, 0, none⟩)]] W fun e w' => e = .returned (.bool false) ∧ Below W.heap.size W w')
    (hw : ∀ W Bs, Below w.heap.size w W → Blk W Bs 9 #[.string ⟨#[32, 9, 10, 13]⟩] → Calls Tryz.prog 362 #[.pointer (some ⟨g, 0, none⟩), .func (.func 360) #[] #[.pointer (some ⟨Bs, 0, none⟩)]] W fun e w' => (∃ v, e = .returned v) ∧ Below W.heap.size W w') :
    Calls Tryz.prog 348 #[.pointer (some ⟨g, 0, none⟩)] w fun e w' => (∃ v, e = .returned v) ∧ Below w.heap.size w w' := by
  have hB1 : Below w.heap.size w (w.drew.alloc (.cells #[.string ⟨#[32, 9, 10, 13]⟩] 9)) := (Below.refl _ _).drew.alloc (Nat.le_refl _) _
  have h1 := hw _ w.heap.size hB1 (Blk.new w.drew 9 #[.string ⟨#[32, 9, 10, 13]⟩])
  have H1 := Lib.hid h1
  have HB1 := Lib.hid hB1
  have Hm := Lib.hid hm
  clear h1 hB1 hm hw
  go_enter Tryz.func348, Tryz.ntmps348
  go_wp2_with fail
  refine wp_region_S (fun _ => True) 4 (by kernel_rfl) trivial (fun _ => ?_)
  refine wpAnyS_takeT (i := 0) (v := ?_) rfl (by kernel_rfl) (by kernel_rfl) (by kernel_rfl) (by kernel_rfl) (fun c a w h => h) (Or.inl ⟨by rfl, ?_⟩) trivial ?_
  rotate_left
  · intro w hSw
    go_simp
    first | done | with_reducible rfl
  simp only [Act.put, List.setIfInBounds_toArray, List.set_cons_zero, List.set_cons_succ]
  refine wpAnyS_takeT (i := 1) (v := ?_) rfl (by kernel_rfl) (by kernel_rfl) (by kernel_rfl) (by kernel_rfl) (fun c a w h => h) (Or.inl ⟨by rfl, ?_⟩) trivial ?_
  rotate_left
  · intro w hSw
    go_simp
    first | done | with_reducible rfl
  simp only [Act.put, List.setIfInBounds_toArray, List.set_cons_zero, List.set_cons_succ]
  refine wpAnyS_takeT (i := 2) (v := ?_) rfl (by kernel_rfl) (by kernel_rfl) (by kernel_rfl) (by kernel_rfl) (fun c a w h => h) (Or.inl ⟨by rfl, ?_⟩) trivial ?_
  rotate_left
  · intro w hSw
    go_simp
    first | done | with_reducible rfl
  simp only [Act.put, List.setIfInBounds_toArray, List.set_cons_zero, List.set_cons_succ]
  refine wpAnyS_ready (rs := [3]) (by kernel_rfl) (by simp) ?_
  refine AllReadyS.cons rfl (fun K hK => ?_) AllReadyS.nil
  go_simp
  refine (among_c _ _).mono ?_
  rintro e w' ⟨rfl, rfl⟩
  refine hK.out _ _ (fun _ => trivial) ?_
  clear hK
  refine wpAnyS_ready (rs := [4]) (by kernel_rfl) (by simp) ?_
  refine AllReadyS.cons rfl (fun K hK => ?_) AllReadyS.nil
  go_simp
  refine H1.out.mono ?_
  rintro e w1 ⟨⟨v, rfl⟩, hb1⟩
  refine hK.out _ _ (fun _ => trivial) ?_
  clear hK
  refine wpAnyS_done (by kernel_rfl) ?_ _
  have HB2 := Lib.hid (HB1.out.trans (hb1.mono HB1.out.size))
  clear hb1 H1
  go_wp2_with fail
  go_loopw [] (fun wr => wr = w1) (fun wr => 0)
  case atStart => rfl
  case round =>
    subst hrel
    have hB3 : Below w.heap.size w (wr.drew.alloc (.cells #[.string ⟨#[35]⟩] 9)) := HB2.out.drew.alloc HB2.out.size _
    have h3 := Hm.out _ wr.drew.heap.size hB3 (Blk.new wr.drew 9 #[.string ⟨#[35]⟩])
    have H3 := Lib.hid h3
    have HB3 := Lib.hid hB3
    clear h3 hB3
    go_wp2_with fail
    refine wp_region_S (fun _ => True) 4 (by kernel_rfl) trivial (fun _ => ?_)
    refine wpAnyS_takeT (i := 0) (v := ?_) rfl (by kernel_rfl) (by kernel_rfl) (by kernel_rfl) (by kernel_rfl) (fun c a w h => h) (Or.inl ⟨by rfl, ?_⟩) trivial ?_
    rotate_left
    · intro w hSw
      go_simp
      first | done | with_reducible rfl
    simp only [Act.put, List.setIfInBounds_toArray, List.set_cons_zero, List.set_cons_succ]
    refine wpAnyS_takeT (i := 1) (v := ?_) rfl (by kernel_rfl) (by kernel_rfl) (by kernel_rfl) (by kernel_rfl) (fun c a w h => h) (Or.inl ⟨by rfl, ?_⟩) trivial ?_
    rotate_left
    · intro w hSw
      go_simp
      first | done | with_reducible rfl
    simp only [Act.put, List.setIfInBounds_toArray, List.set_cons_zero, List.set_cons_succ]
    refine wpAnyS_takeT (i := 2) (v := ?_) rfl (by kernel_rfl) (by kernel_rfl) (by kernel_rfl) (by kernel_rfl) (fun c a w h => h) (Or.inl ⟨by rfl, ?_⟩) trivial ?_
    rotate_left
    · intro w hSw
      go_simp
      first | done | with_reducible rfl
    simp only [Act.put, List.setIfInBounds_toArray, List.set_cons_zero, List.set_cons_succ]
    refine wpAnyS_ready (rs := [3]) (by kernel_rfl) (by simp) ?_
    refine AllReadyS.cons rfl (fun K hK => ?_) AllReadyS.nil
    go_simp
    refine (among_c _ _).mono ?_
    rintro e w' ⟨rfl, rfl⟩
    refine hK.out _ _ (fun _ => trivial) ?_
    clear hK
    refine wpAnyS_ready (rs := [4]) (by kernel_rfl) (by simp) ?_
    refine AllReadyS.cons rfl (fun K hK => ?_) AllReadyS.nil
    go_simp
    refine H3.out.mono ?_
    rintro e w4 ⟨rfl, hb4⟩
    refine hK.out _ _ (fun _ => trivial) ?_
    clear hK
    refine wpAnyS_done (by kernel_rfl) ?_ _
    have HB4 := Lib.hid (HB3.out.trans (hb4.mono HB3.out.size))
    clear hb4
    go_wp2_with fail
    go_end0
    exact ⟨⟨_, rfl⟩, HB4.out⟩
/-- the tests as values; what the first says of a small letter. -/
structure TabT (w : World) (v1 : Value) : Prop where
  ex : ∃ Be, v1 = .func (.func 358) #[] #[.pointer (some ⟨Be, 0, none⟩)] ∧ ∀ b : Int, decide (b ≥ 97) = true → decide (b ≤ 122) = true → TestAt w 358 #[.pointer (some ⟨Be, 0, none⟩)] b true
set_option maxRecDepth 100000 in
set_option maxHeartbeats 1000000 in
theorem starts_c (w : World) : Calls Tryz.prog 331 #[] w fun e w' => ∃ v1 f2 lb2 f3 lb3, e = .returned (.agg #[.nilFunc, v1, .func f2 #[] lb2, .func f3 #[] lb3]) ∧ TabT w' v1 ∧ Below w.heap.size w w' := by
  go_enter Tryz.func331, Tryz.ntmps331
  go_wp2_with (first | (go_at_call 345; refine (between_c _ _ _).mono ?_; rintro e w' ⟨rfl, rfl⟩) | (go_at_call 344; refine (either_c _ _ _ _).mono ?_; rintro e w' ⟨rfl, rfl⟩) | (go_at_call 346; refine (among_c _ _).mono ?_; rintro e w' ⟨rfl, rfl⟩))
  have hr := ((((((((((blk_at' w (w.heap.size) 342 #[.nilFunc, .func (.func 358) #[] #[.pointer (some ⟨w.heap.size + 1 + 1 + 1 + 1 + 1 + 1, 0, none⟩)], .func (.func 359) #[] #[.pointer (some ⟨w.heap.size + 1 + 1 + 1 + 1 + 1 + 1 + 1, 0, none⟩), .pointer (some ⟨w.heap.size + 1 + 1 + 1 + 1 + 1 + 1 + 1 + 1, 0, none⟩)], .func (.func 360) #[] #[.pointer (some ⟨w.heap.size + 1 + 1 + 1 + 1 + 1 + 1 + 1 + 1 + 1, 0, none⟩)]] (by simp)).alloc (.cells #[.int .u8 97] 5)).alloc (.cells #[.int .u8 122] 5)).alloc (.cells #[.int .u8 65] 5)).alloc (.cells #[.int .u8 90] 5)).alloc (.cells #[.func (.func 359) #[] #[.pointer (some ⟨w.heap.size + 1, 0, none⟩), .pointer (some ⟨w.heap.size + 1 + 1, 0, none⟩)], .func (.func 359) #[] #[.pointer (some ⟨w.heap.size + 1 + 1 + 1, 0, none⟩), .pointer (some ⟨w.heap.size + 1 + 1 + 1 + 1, 0, none⟩)]] 265)).alloc (.cells #[.slice (some ⟨w.heap.size + 1 + 1 + 1 + 1 + 1, 0, none⟩) 2 2] 365)).alloc (.cells #[.int .u8 48] 5)).alloc (.cells #[.int .u8 57] 5)).alloc (.cells #[.string ⟨#[123, 125, 59, 44, 46, 58]⟩] 9))
  have h1 := (((((((((blk_at' (w.alloc (.cells #[.nilFunc, .func (.func 358) #[] #[.pointer (some ⟨w.heap.size + 1 + 1 + 1 + 1 + 1 + 1, 0, none⟩)], .func (.func 359) #[] #[.pointer (some ⟨w.heap.size + 1 + 1 + 1 + 1 + 1 + 1 + 1, 0, none⟩), .pointer (some ⟨w.heap.size + 1 + 1 + 1 + 1 + 1 + 1 + 1 + 1, 0, none⟩)], .func (.func 360) #[] #[.pointer (some ⟨w.heap.size + 1 + 1 + 1 + 1 + 1 + 1 + 1 + 1 + 1, 0, none⟩)]] 342)) (w.heap.size + 1) 5 #[.int .u8 97] (by simp)).alloc (.cells #[.int .u8 122] 5)).alloc (.cells #[.int .u8 65] 5)).alloc (.cells #[.int .u8 90] 5)).alloc (.cells #[.func (.func 359) #[] #[.pointer (some ⟨w.heap.size + 1, 0, none⟩), .pointer (some ⟨w.heap.size + 1 + 1, 0, none⟩)], .func (.func 359) #[] #[.pointer (some ⟨w.heap.size + 1 + 1 + 1, 0, none⟩), .pointer (some ⟨w.heap.size + 1 + 1 + 1 + 1, 0, none⟩)]] 265)).alloc (.cells #[.slice (some ⟨w.heap.size + 1 + 1 + 1 + 1 + 1, 0, none⟩) 2 2] 365)).alloc (.cells #[.int .u8 48] 5)).alloc (.cells #[.int .u8 57] 5)).alloc (.cells #[.string ⟨#[123, 125, 59, 44, 46, 58]⟩] 9))
  have h2 := ((((((((blk_at' ((w.alloc (.cells #[.nilFunc, .func (.func 358) #[] #[.pointer (some ⟨w.heap.size + 1 + 1 + 1 + 1 + 1 + 1, 0, none⟩)], .func (.func 359) #[] #[.pointer (some ⟨w.heap.size + 1 + 1 + 1 + 1 + 1 + 1 + 1, 0, none⟩), .pointer (some ⟨w.heap.size + 1 + 1 + 1 + 1 + 1 + 1 + 1 + 1, 0, none⟩)], .func (.func 360) #[] #[.pointer (some ⟨w.heap.size + 1 + 1 + 1 + 1 + 1 + 1 + 1 + 1 + 1, 0, none⟩)]] 342)).alloc (.cells #[.int .u8 97] 5)) (w.heap.size + 1 + 1) 5 #[.int .u8 122] (by simp)).alloc (.cells #[.int .u8 65] 5)).alloc (.cells #[.int .u8 90] 5)).alloc (.cells #[.func (.func 359) #[] #[.pointer (some ⟨w.heap.size + 1, 0, none⟩), .pointer (some ⟨w.heap.size + 1 + 1, 0, none⟩)], .func (.func 359) #[] #[.pointer (some ⟨w.heap.size + 1 + 1 + 1, 0, none⟩), .pointer (some ⟨w.heap.size + 1 + 1 + 1 + 1, 0, none⟩)]] 265)).alloc (.cells #[.slice (some ⟨w.heap.size + 1 + 1 + 1 + 1 + 1, 0, none⟩) 2 2] 365)).alloc (.cells #[.int .u8 48] 5)).alloc (.cells #[.int .u8 57] 5)).alloc (.cells #[.string ⟨#[123, 125, 59, 44, 46, 58]⟩] 9))
  have h5 := (((((blk_at' (((((w.alloc (.cells #[.nilFunc, .func (.func 358) #[] #[.pointer (some ⟨w.heap.size + 1 + 1 + 1 + 1 + 1 + 1, 0, none⟩)], .func (.func 359) #[] #[.pointer (some ⟨w.heap.size + 1 + 1 + 1 + 1 + 1 + 1 + 1, 0, none⟩), .pointer (some ⟨w.heap.size + 1 + 1 + 1 + 1 + 1 + 1 + 1 + 1, 0, none⟩)], .func (.func 360) #[] #[.pointer (some ⟨w.heap.size + 1 + 1 + 1 + 1 + 1 + 1 + 1 + 1 + 1, 0, none⟩)]] 342)).alloc (.cells #[.int .u8 97] 5)).alloc (.cells #[.int .u8 122] 5)).alloc (.cells #[.int .u8 65] 5)).alloc (.cells #[.int .u8 90] 5)) (w.heap.size + 1 + 1 + 1 + 1 + 1) 265 #[.func (.func 359) #[] #[.pointer (some ⟨w.heap.size + 1, 0, none⟩), .pointer (some ⟨w.heap.size + 1 + 1, 0, none⟩)], .func (.func 359) #[] #[.pointer (some ⟨w.heap.size + 1 + 1 + 1, 0, none⟩), .pointer (some ⟨w.heap.size + 1 + 1 + 1 + 1, 0, none⟩)]] (by simp)).alloc (.cells #[.slice (some ⟨w.heap.size + 1 + 1 + 1 + 1 + 1, 0, none⟩) 2 2] 365)).alloc (.cells #[.int .u8 48] 5)).alloc (.cells #[.int .u8 57] 5)).alloc (.cells #[.string ⟨#[123, 125, 59, 44, 46, 58]⟩] 9))
  have h6 := ((((blk_at' ((((((w.alloc (.cells #[.nilFunc, .func (.func 358) #[] #[.pointer (some ⟨w.heap.size + 1 + 1 + 1 + 1 + 1 + 1, 0, none⟩)], .func (.func 359) #[] #[.pointer (some ⟨w.heap.size + 1 + 1 + 1 + 1 + 1 + 1 + 1, 0, none⟩), .pointer (some ⟨w.heap.size + 1 + 1 + 1 + 1 + 1 + 1 + 1 + 1, 0, none⟩)], .func (.func 360) #[] #[.pointer (some ⟨w.heap.size + 1 + 1 + 1 + 1 + 1 + 1 + 1 + 1 + 1, 0, none⟩)]] 342)).alloc (.cells #[.int .u8 97] 5)).alloc (.cells #[.int .u8 122] 5)).alloc (.cells #[.int .u8 65] 5)).alloc (.cells #[.int .u8 90] 5)).alloc (.cells #[.func (.func 359) #[] #[.pointer (some ⟨w.heap.size + 1, 0, none⟩), .pointer (some ⟨w.heap.size + 1 + 1, 0, none⟩)], .func (.func 359) #[] #[.pointer (some ⟨w.heap.size + 1 + 1 + 1, 0, none⟩), .pointer (some ⟨w.heap.size + 1 + 1 + 1 + 1, 0, none⟩)]] 265)) (w.heap.size + 1 + 1 + 1 + 1 + 1 + 1) 365 #[.slice (some ⟨w.heap.size + 1 + 1 + 1 + 1 + 1, 0, none⟩) 2 2] (by simp)).alloc (.cells #[.int .u8 48] 5)).alloc (.cells #[.int .u8 57] 5)).alloc (.cells #[.string ⟨#[123, 125, 59, 44, 46, 58]⟩] 9))
  have hB : Below w.heap.size w ((((((((((w.alloc (.cells #[.nilFunc, .func (.func 358) #[] #[.pointer (some ⟨w.heap.size + 1 + 1 + 1 + 1 + 1 + 1, 0, none⟩)], .func (.func 359) #[] #[.pointer (some ⟨w.heap.size + 1 + 1 + 1 + 1 + 1 + 1 + 1, 0, none⟩), .pointer (some ⟨w.heap.size + 1 + 1 + 1 + 1 + 1 + 1 + 1 + 1, 0, none⟩)], .func (.func 360) #[] #[.pointer (some ⟨w.heap.size + 1 + 1 + 1 + 1 + 1 + 1 + 1 + 1 + 1, 0, none⟩)]] 342)).alloc (.cells #[.int .u8 97] 5)).alloc (.cells #[.int .u8 122] 5)).alloc (.cells #[.int .u8 65] 5)).alloc (.cells #[.int .u8 90] 5)).alloc (.cells #[.func (.func 359) #[] #[.pointer (some ⟨w.heap.size + 1, 0, none⟩), .pointer (some ⟨w.heap.size + 1 + 1, 0, none⟩)], .func (.func 359) #[] #[.pointer (some ⟨w.heap.size + 1 + 1 + 1, 0, none⟩), .pointer (some ⟨w.heap.size + 1 + 1 + 1 + 1, 0, none⟩)]] 265)).alloc (.cells #[.slice (some ⟨w.heap.size + 1 + 1 + 1 + 1 + 1, 0, none⟩) 2 2] 365)).alloc (.cells #[.int .u8 48] 5)).alloc (.cells #[.int .u8 57] 5)).alloc (.cells #[.string ⟨#[123, 125, 59, 44, 46, 58]⟩] 9)) := (((((((((((Below.refl _ w).alloc (by simp <;> omega) (.cells #[.nilFunc, .func (.func 358) #[] #[.pointer (some ⟨w.heap.size + 1 + 1 + 1 + 1 + 1 + 1, 0, none⟩)], .func (.func 359) #[] #[.pointer (some ⟨w.heap.size + 1 + 1 + 1 + 1 + 1 + 1 + 1, 0, none⟩), .pointer (some ⟨w.heap.size + 1 + 1 + 1 + 1 + 1 + 1 + 1 + 1, 0, none⟩)], .func (.func 360) #[] #[.pointer (some ⟨w.heap.size + 1 + 1 + 1 + 1 + 1 + 1 + 1 + 1 + 1, 0, none⟩)]] 342)).alloc (by simp <;> omega) (.cells #[.int .u8 97] 5)).alloc (by simp <;> omega) (.cells #[.int .u8 122] 5)).alloc (by simp <;> omega) (.cells #[.int .u8 65] 5)).alloc (by simp <;> omega) (.cells #[.int .u8 90] 5)).alloc (by simp <;> omega) (.cells #[.func (.func 359) #[] #[.pointer (some ⟨w.heap.size + 1, 0, none⟩), .pointer (some ⟨w.heap.size + 1 + 1, 0, none⟩)], .func (.func 359) #[] #[.pointer (some ⟨w.heap.size + 1 + 1 + 1, 0, none⟩), .pointer (some ⟨w.heap.size + 1 + 1 + 1 + 1, 0, none⟩)]] 265)).alloc (by simp <;> omega) (.cells #[.slice (some ⟨w.heap.size + 1 + 1 + 1 + 1 + 1, 0, none⟩) 2 2] 365)).alloc (by simp <;> omega) (.cells #[.int .u8 48] 5)).alloc (by simp <;> omega) (.cells #[.int .u8 57] 5)).alloc (by simp <;> omega) (.cells #[.string ⟨#[123, 125, 59, 44, 46, 58]⟩] 9))
  generalize ((((((((((w.alloc (.cells #[.nilFunc, .func (.func 358) #[] #[.pointer (some ⟨w.heap.size + 1 + 1 + 1 + 1 + 1 + 1, 0, none⟩)], .func (.func 359) #[] #[.pointer (some ⟨w.heap.size + 1 + 1 + 1 + 1 + 1 + 1 + 1, 0, none⟩), .pointer (some ⟨w.heap.size + 1 + 1 + 1 + 1 + 1 + 1 + 1 + 1, 0, none⟩)], .func (.func 360) #[] #[.pointer (some ⟨w.heap.size + 1 + 1 + 1 + 1 + 1 + 1 + 1 + 1 + 1, 0, none⟩)]] 342)).alloc (.cells #[.int .u8 97] 5)).alloc (.cells #[.int .u8 122] 5)).alloc (.cells #[.int .u8 65] 5)).alloc (.cells #[.int .u8 90] 5)).alloc (.cells #[.func (.func 359) #[] #[.pointer (some ⟨w.heap.size + 1, 0, none⟩), .pointer (some ⟨w.heap.size + 1 + 1, 0, none⟩)], .func (.func 359) #[] #[.pointer (some ⟨w.heap.size + 1 + 1 + 1, 0, none⟩), .pointer (some ⟨w.heap.size + 1 + 1 + 1 + 1, 0, none⟩)]] 265)).alloc (.cells #[.slice (some ⟨w.heap.size + 1 + 1 + 1 + 1 + 1, 0, none⟩) 2 2] 365)).alloc (.cells #[.int .u8 48] 5)).alloc (.cells #[.int .u8 57] 5)).alloc (.cells #[.string ⟨#[123, 125, 59, 44, 46, 58]⟩] 9)) = W at *
  have z0 : W.cell? ⟨w.heap.size, 0, none⟩ = some .nilFunc := hr.cell 0
  have z1 : W.cell? ⟨w.heap.size, 1, none⟩ = some (.func (.func 358) #[] #[.pointer (some ⟨w.heap.size + 1 + 1 + 1 + 1 + 1 + 1, 0, none⟩)]) := hr.cell 1
  have z2 : W.cell? ⟨w.heap.size, 2, none⟩ = some (.func (.func 359) #[] #[.pointer (some ⟨w.heap.size + 1 + 1 + 1 + 1 + 1 + 1 + 1, 0, none⟩), .pointer (some ⟨w.heap.size + 1 + 1 + 1 + 1 + 1 + 1 + 1 + 1, 0, none⟩)]) := hr.cell 2
  have z3 : W.cell? ⟨w.heap.size, 3, none⟩ = some (.func (.func 360) #[] #[.pointer (some ⟨w.heap.size + 1 + 1 + 1 + 1 + 1 + 1 + 1 + 1 + 1, 0, none⟩)]) := hr.cell 3
  refine bodyPost_ret (v := .agg #[.nilFunc, .func (.func 358) #[] #[.pointer (some ⟨w.heap.size + 1 + 1 + 1 + 1 + 1 + 1, 0, none⟩)], .func (.func 359) #[] #[.pointer (some ⟨w.heap.size + 1 + 1 + 1 + 1 + 1 + 1 + 1, 0, none⟩), .pointer (some ⟨w.heap.size + 1 + 1 + 1 + 1 + 1 + 1 + 1 + 1, 0, none⟩)], .func (.func 360) #[] #[.pointer (some ⟨w.heap.size + 1 + 1 + 1 + 1 + 1 + 1 + 1 + 1 + 1, 0, none⟩)]]) (by simp [results, Tryz.results331, go_sem, z0, z1, z2, z3]) rfl ⟨_, _, _, _, _, rfl, ⟨_, rfl, fun b hb1 hb2 => ?_⟩, hB⟩
  exact either_at h6 (by omega) (h5.cell 0) h5.lt (enters_of Tryz.func359 (by kernel_rfl) rfl) (between_at h1 h2 hb1 hb2)
end Go.Proofs.YtknojjlfgjkbiaaGreatDoor
/- Tokens in memory; the reference's tokens in plain Lean. -/
namespace Go.Proofs.YtknojjlfgjkbiaaGreatDoor
open Go.ChangeShapes Go.WideShapes Go.ChangeAt Go.RowKit
attribute [local go_sem] Oper.semAt_some

/-- a token. -/
structure Tok where
  kind : Int
  text : ByteArray
  at_ : Int
instance : Inhabited Tok := ⟨⟨0, ⟨#[]⟩, 0⟩⟩
abbrev Tok.val (t : Tok) : Value := .agg #[.int .i64 t.kind, .string t.text, .int .i64 t.at_]
def Tok.cells (t : Tok) : List Value := [.int .i64 t.kind, .string t.text, .int .i64 t.at_]
theorem info250 : (Tryz.prog.info? 267).map (fun i => (i.zero, i.size, i.bytes)) = some (some (.agg #[.int .i64 0, .string ⟨#[]⟩, .int .i64 0]), 3, 32) := by kernel_rfl
theorem cellsT_length (l : List Tok) : (l.flatMap Tok.cells).length = l.length * 3 := by
  induction l with
  | nil => rfl
  | cons r l ih => simp [Tok.cells, ih]; omega
theorem cellsT_get : ∀ (l : List Tok) (i : Nat) (h : i < l.length), (l.flatMap Tok.cells)[i * 3]? = some (.int .i64 l[i].kind) ∧ (l.flatMap Tok.cells)[i * 3 + 1]? = some (.string l[i].text) ∧ (l.flatMap Tok.cells)[i * 3 + 2]? = some (.int .i64 l[i].at_)
  | r :: l, 0, _ => ⟨rfl, rfl, rfl⟩
  | r :: l, i + 1, h => by
    have ih := cellsT_get l i (by simpa using h)
    have e : ∀ j, (List.flatMap Tok.cells (r :: l))[j + 3]? = (List.flatMap Tok.cells l)[j]? := fun j => by simp [Tok.cells]
    rw [show (i + 1) * 3 = i * 3 + 3 from by omega, show i * 3 + 3 + 1 = i * 3 + 1 + 3 from by omega, show i * 3 + 3 + 2 = i * 3 + 2 + 3 from by omega, e, e, e]
    simpa using ih
/-- a slice of tokens. -/
def RdTok (w : World) (B : Nat) (A : Option Addr) (l : List Tok) : Prop :=
  0 < l.length → ∃ b o, A = some ⟨b, o, none⟩ ∧ b < B ∧ ∀ i (h : i < l.length), w.cell? ⟨b, o + i * 3, none⟩ = some (.int .i64 l[i].kind) ∧ w.cell? ⟨b, o + i * 3 + 1, none⟩ = some (.string l[i].text) ∧ w.cell? ⟨b, o + i * 3 + 2, none⟩ = some (.int .i64 l[i].at_)
theorem RdTok.to_ {w w' : World} {B B' : Nat} {A : Option Addr} {l : List Tok} (h : RdTok w B A l) (hB : B ≤ B') (hk : ∀ b o, b < B → w'.cell? ⟨b, o, none⟩ = w.cell? ⟨b, o, none⟩) : RdTok w' B' A l := fun hn => by
  obtain ⟨b, o, rfl, hbB, hc⟩ := h hn
  exact ⟨b, o, rfl, by omega, fun i hi => ⟨(hk b _ hbB).trans (hc i hi).1, (hk b _ hbB).trans (hc i hi).2.1, (hk b _ hbB).trans (hc i hi).2.2⟩⟩
theorem rdTok_of_own {W : World} {base c : Nat} {A : Option Addr} {l : List Tok} (h : W.ownsRow base 267 3 (.slice A l.length c) l.length (l.flatMap Tok.cells)) : RdTok W W.heap.size A l := fun hn => by
  obtain ⟨g, cap, hv, _, hlt⟩ := h.form hn
  have hA : A = some ⟨g, 0, none⟩ := by injection hv
  subst hA
  refine ⟨g, 0, rfl, hlt, fun i hi => ?_⟩
  obtain ⟨q0, q1, q2⟩ := cellsT_get l i hi
  have c0 := h.cells (g := g) rfl _ _ q0
  have c1 := h.cells (g := g) rfl _ _ q1
  have c2 := h.cells (g := g) rfl _ _ q2
  rw [add_none] at c0 c1 c2
  simpa using And.intro c0 (And.intro c1 c2)

/-- the end of the bytes that may stand inside a word. -/
def wordEnd (s : ByteArray) : Nat → Nat → Nat
  | 0, q => q
  | f + 1, q => if q < s.size then (if innerN (bAt s q) = true then wordEnd s f (q + 1) else q) else q
theorem wordEnd_more {s : ByteArray} {f q : Nat} (h : q < s.size) (hi : innerN (bAt s q) = true) : wordEnd s (f + 1) q = wordEnd s f (q + 1) := by
  rw [wordEnd, if_pos h, if_pos hi]
theorem wordEnd_stop {s : ByteArray} {f q : Nat} (hi : innerN (bAt s q) = false) : wordEnd s f q = q := by
  cases f with
  | zero => rfl
  | succ f => rw [wordEnd, hi]; simp
theorem wordEnd_end {s : ByteArray} {f q : Nat} (h : ¬ q < s.size) : wordEnd s f q = q := by
  cases f with
  | zero => rfl
  | succ f => rw [wordEnd, if_neg h]
/-- tokens from a place on; none where a byte stands there that our texts do not have. -/
def lexO (s : ByteArray) : Nat → Nat → List Tok → Option (List Tok)
  | 0, _, _ => none
  | f + 1, p, out =>
    if p < s.size then
      (if (bAt s p == 32) = true then lexO s f (p + 1) out
       else if ((bAt s p == 9) || ((bAt s p == 10) || ((bAt s p == 13) || (bAt s p == 35)))) = true then none
       else if signN (bAt s p) = true then lexO s f (p + 1) (out ++ [⟨3, s.extract p (p + 1), p⟩])
       else if letterN (bAt s p) = true then
         (if nameB (s.extract p (wordEnd s s.size (p + 1))) = true then lexO s f (wordEnd s s.size (p + 1)) (out ++ [⟨1, s.extract p (wordEnd s s.size (p + 1)), p⟩]) else none)
       else if digitN (bAt s p) = true then
         (if figB (s.extract p (wordEnd s s.size (p + 1))) 1 = true ∨ figB (s.extract p (wordEnd s s.size (p + 1))) 2 = true then lexO s f (wordEnd s s.size (p + 1)) (out ++ [⟨2, s.extract p (wordEnd s s.size (p + 1)), p⟩]) else none)
       else none)
    else some out
theorem lex_pos {s : ByteArray} {f p : Nat} {out ts : List Tok} (h : lexO s f p out = some ts) : ∃ f', f = f' + 1 := by
  cases f with
  | zero => cases h
  | succ f => exact ⟨f, rfl⟩
theorem lex_end {s : ByteArray} {f p : Nat} {out ts : List Tok} (h : lexO s f p out = some ts) (hp : ¬ p < s.size) : out = ts := by
  obtain ⟨f, rfl⟩ := lex_pos h
  rw [lexO, if_neg hp] at h
  exact Option.some.inj h
theorem lex_blank {s : ByteArray} {f p : Nat} {out ts : List Tok} (h : lexO s (f + 1) p out = some ts) (hp : p < s.size) (hb : (bAt s p == 32) = true) : lexO s f (p + 1) out = some ts := by
  rw [lexO, if_pos hp, if_pos hb] at h; exact h
theorem lex_other {s : ByteArray} {f p : Nat} {out ts : List Tok} (h : lexO s (f + 1) p out = some ts) (hp : p < s.size) (hb : (bAt s p == 32) = false) : (bAt s p == 9) = false ∧ (bAt s p == 10) = false ∧ (bAt s p == 13) = false ∧ (bAt s p == 35) = false := by
  rw [lexO, if_pos hp, if_neg (by rw [hb]; simp)] at h
  cases h1 : (bAt s p == 9) <;> cases h2 : (bAt s p == 10) <;> cases h3 : (bAt s p == 13) <;> cases h4 : (bAt s p == 35) <;> simp [h1, h2, h3, h4] at h ⊢
theorem lex_past {s : ByteArray} {f p : Nat} {out ts : List Tok} (h : lexO s (f + 1) p out = some ts) (hp : p < s.size) (hb : (bAt s p == 32) = false) :
    (if signN (bAt s p) = true then lexO s f (p + 1) (out ++ [⟨3, s.extract p (p + 1), p⟩])
       else if letterN (bAt s p) = true then
         (if nameB (s.extract p (wordEnd s s.size (p + 1))) = true then lexO s f (wordEnd s s.size (p + 1)) (out ++ [⟨1, s.extract p (wordEnd s s.size (p + 1)), p⟩]) else none)
       else if digitN (bAt s p) = true then
         (if figB (s.extract p (wordEnd s s.size (p + 1))) 1 = true ∨ figB (s.extract p (wordEnd s s.size (p + 1))) 2 = true then lexO s f (wordEnd s s.size (p + 1)) (out ++ [⟨2, s.extract p (wordEnd s s.size (p + 1)), p⟩]) else none)
       else none) = some ts := by
  obtain ⟨h1, h2, h3, h4⟩ := lex_other h hp hb
  rw [lexO, if_pos hp, if_neg (by rw [hb]; simp), h1, h2, h3, h4] at h
  simpa using h
theorem lex_sign {s : ByteArray} {f p : Nat} {out ts : List Tok} (h : lexO s (f + 1) p out = some ts) (hp : p < s.size) (hb : (bAt s p == 32) = false) (hs : signN (bAt s p) = true) : lexO s f (p + 1) (out ++ [⟨3, s.extract p (p + 1), p⟩]) = some ts := by
  have := lex_past h hp hb
  rwa [if_pos hs] at this
theorem lex_word {s : ByteArray} {f p : Nat} {out ts : List Tok} (h : lexO s (f + 1) p out = some ts) (hp : p < s.size) (hb : (bAt s p == 32) = false) (hs : signN (bAt s p) = false) (hl : letterN (bAt s p) = true) :
    nameB (s.extract p (wordEnd s s.size (p + 1))) = true ∧ lexO s f (wordEnd s s.size (p + 1)) (out ++ [⟨1, s.extract p (wordEnd s s.size (p + 1)), p⟩]) = some ts := by
  have := lex_past h hp hb
  rw [if_neg (by rw [hs]; simp), if_pos hl] at this
  split at this
  · exact ⟨by assumption, this⟩
  · cases this
theorem lex_num {s : ByteArray} {f p : Nat} {out ts : List Tok} (h : lexO s (f + 1) p out = some ts) (hp : p < s.size) (hb : (bAt s p == 32) = false) (hs : signN (bAt s p) = false) (hl : letterN (bAt s p) = false) :
    digitN (bAt s p) = true ∧ (∃ n, figB (s.extract p (wordEnd s s.size (p + 1))) n = true) ∧ lexO s f (wordEnd s s.size (p + 1)) (out ++ [⟨2, s.extract p (wordEnd s s.size (p + 1)), p⟩]) = some ts := by
  have := lex_past h hp hb
  rw [if_neg (by rw [hs]; simp), if_neg (by rw [hl]; simp)] at this
  split at this
  · split at this
    · rename_i h1 h2
      exact ⟨h1, h2.elim (fun h => ⟨1, h⟩) (fun h => ⟨2, h⟩), this⟩
    · cases this
  · cases this
end Go.Proofs.YtknojjlfgjkbiaaGreatDoor
