/- Texts I3 K0 K1, joined. -/
import Derived.Test.YtnbnkhockoflgaaGreatDoorJ23
set_option linter.unusedSimpArgs false
set_option linter.unusedVariables false
set_option linter.unusedSectionVars false
/- units. -/
namespace Go.Proofs.YtnbnkhockoflgaaGreatDoor
open Go.ChangeShapes Go.WideShapes Go.ChangeAt Go.RowKit
attribute [local go_sem] Oper.semAt_some

theorem units_snoc (l : List Cs) (c : Cs) : unitsV (l ++ [c]) = addU (unitsV l) c.unit := by simp [unitsV]
theorem addU_B {ν : Type} [DecidableEq ν] (l : List ν) (u : ν) : addU l u = if memB u l = true then l else l ++ [u] := by
  unfold addU memB
  by_cases h : u ∈ l
  · rw [if_pos h, if_pos (decide_eq_true h)]
  · rw [if_neg h, if_neg (by rw [decide_eq_false h]; simp)]
set_option maxRecDepth 100000 in
set_option maxHeartbeats 1000000 in
theorem units_c (L : List CsV) (A : Option Addr) (c : Nat) (w : World) (h : RdCs w w.heap.size A L) (hl : L.length ≤ 2199023255552) :
    Calls Tryz.prog 11 #[.slice A L.length c] w fun e w' => ∃ A' c', e = .returned (.slice A' (unitsV (csOf L)).length c') ∧ RdStr w' w'.heap.size A' (unitsV (csOf L)) ∧ Below w.heap.size w w' := by
  have H := Lib.hid h
  obtain ⟨i0, hi0, hz0, hz1, hz2⟩ := info_parts info9
  clear h
  go_enter Tryz.func11, Tryz.ntmps11
  go_wp2
  go_loopw [3, 8] (fun v t wr => ∃ k : Nat, k ≤ L.length ∧ t = .int .i64 k ∧ Below w.heap.size w wr ∧ wr.ownsRow w.heap.size 9 1 v (unitsV (csOf (L.take k))).length ((unitsV (csOf (L.take k))).map Value.string)) (fun _ t wr => L.length - (intOf t).toNat)
  case atStart => exact ⟨0, Nat.zero_le _, rfl, Below.refl _ _, World.ownsRow_nil _ _ _ _⟩
  case round =>
    obtain ⟨k, hk, rfl, hB, hown⟩ := hrel
    obtain ⟨Av, cv, rfl, _⟩ := own_caps hown
    by_cases hlt : k < L.length
    · obtain ⟨bo, oo, rfl, hb, hc⟩ := (H.out.keep hB) (by omega)
      obtain ⟨d0, d1, d2, _⟩ := hc k hlt
      have hbw : bo < wr.heap.size := World.block_lt_of_cell? wr _ d0
      have hll : (unitsV (csOf (L.take k))).length ≤ 2199023255552 := by
        have h1 := len_units (csOf (L.take k))
        have h2 : (csOf (L.take k)).length ≤ L.length := by simp; omega
        omega
      have htk : unitsV (csOf (L.take (k + 1))) = addU (unitsV (csOf (L.take k))) L[k].c.unit := by
        rw [← units_snoc]; congr 1; unfold csOf; rw [List.take_succ_eq_append_getElem hlt, List.map_append]; rfl
      rw [addU_B] at htk
      have Htk := Lib.hid htk
      have hrd := rdStr_of_own hown
      have Hown := Lib.hid hown
      have HB := Lib.hid hB
      have hsB := hB.size
      clear hc htk hown hB
      generalize unitsV (csOf (L.take k)) = us at *
      generalize L[k] = x at *
      have hhas := has_c us Av cv x.c.unit (wr.alloc (.cells #[.string x.c.unit, .slice x.n.a x.n.n x.n.c, .slice x.x.a x.x.n x.x.c] 33)) (hrd.below ((Below.refl _ _).alloc (Nat.le_refl _) _)) (by omega)
      have Hhas := Lib.hid hhas
      have hownB := Hown.out.alloc (.cells #[.string x.c.unit, .slice x.n.a x.n.n x.n.c, .slice x.x.a x.x.n x.x.c] 33)
      have HownB := Lib.hid hownB
      have hBB := HB.out.alloc hsB (.cells #[.string x.c.unit, .slice x.n.a x.n.n x.n.c, .slice x.x.a x.x.n x.x.c] 33)
      have HBB := Lib.hid hBB
      clear hhas hrd hownB hBB
      cases hq : memB x.c.unit us with
      | true =>
        rw [hq] at Hhas Htk
        have Hks : Hid (unitsV (csOf (L.take (k + 1))) = us) := by
          have := Htk.out
          simp only [if_true] at this
          exact Lib.hid this
        clear hq Htk
        go_wp2_with fail
        refine Hhas.out.mono ?_
        rintro e w' ⟨rfl, rfl⟩
        go_wp2_with fail
        go_roundw
        case rel => exact ⟨k + 1, by omega, by go_num, HBB.out, by rw [Hks.out]; exact HownB.out⟩
        case measure => simp [intOf]; omega
      | false =>
        rw [hq] at Hhas Htk
        have Hks : Hid (unitsV (csOf (L.take (k + 1))) = us ++ [x.c.unit]) := by
          have := Htk.out
          simp only [Bool.false_eq_true, if_false] at this
          exact Lib.hid this
        clear hq Htk
        go_wp2_with fail
        refine Hhas.out.mono ?_
        rintro e w' ⟨rfl, rfl⟩
        go_wp2_with (at_builtin; refine wpList_append_own _ rfl (.tmp 17) (.tmp 20) 25 rfl w.heap.size 9 i0 (.string ⟨#[]⟩) 1 16 Tryz.underlying25 hi0 hz0 hz1 hz2 rfl (by decide) _ _ _ rfl (HownB.out.alloc _) ⟨wr.heap.size + 1, 0, none⟩ 1 1 [.string x.c.unit] rfl rfl ?c1 ?c2 ?c3 ?c4 ?c5 ?_)
        case c1 =>
          intro j u' hj
          rcases j with _ | j
          · simp at hj
            subst hj
            have := (Blk.new (wr.alloc (.cells #[.string x.c.unit, .slice x.n.a x.n.n x.n.c, .slice x.x.a x.x.n x.x.c] 33)) 9 #[.string x.c.unit]).cell 0
            rw [World.size_alloc] at this
            exact this
          · simp at hj
        case c2 => simp [Value.oneCell']
        case c3 => unfold maxLen; omega
        case c4 => omega
        case c5 => simp; omega
        intro v5 w5 hown5 hg5 _
        have hb5 := (HBB.out.alloc HBB.out.size (.cells #[.string x.c.unit] 9)).grown hg5 (by have := HBB.out.size; simp at this; simp; omega) (fun g hg => ((HownB.out.alloc (.cells #[.string x.c.unit] 9)).lt g hg).1)
        have HR := Lib.hid (And.intro hb5 hown5)
        clear hown5 hg5 hb5
        go_wp2_with fail
        go_roundw
        case rel => exact ⟨k + 1, by omega, by go_num, HR.out.1, by rw [Hks.out]; simpa using HR.out.2⟩
        case measure => simp [intOf]; omega
    · obtain rfl : k = L.length := by omega
      rw [List.take_length] at hown ⊢
      have HR := Lib.hid (And.intro (rdStr_of_own hown) hB)
      clear hown hB
      go_wp2_with fail
      go_ret
      exact ⟨Av, cv, rfl, HR.out⟩
end Go.Proofs.YtnbnkhockoflgaaGreatDoor
/- 'all', ContainsFunc, IndexFunc over empty lists. -/
namespace Go.Proofs.YtnbnkhockoflgaaGreatDoor
open Go.ChangeShapes Go.WideShapes Go.ChangeAt Go.RowKit
attribute [local go_sem] Oper.semAt_some

theorem idx0_70 (A : Option Addr) (c : Nat) (g : Fn) (p q : Array Value) (w : World) : Calls Tryz.prog 70 #[.slice A 0 c, .func g p q] w fun e w' => e = .returned (.int .i64 (-1)) ∧ w = w' := by
  go_enter Tryz.func70, Tryz.ntmps70
  go_wp2
  go_loopw [8] (fun t wr => t = .int .i64 0 ∧ wr = w) (fun t wr => 0)
  case atStart => exact ⟨rfl, rfl⟩
  case round =>
    obtain ⟨rfl, rfl⟩ := hrel
    go_wp2
    go_ret
    exact ⟨rfl, rfl⟩

theorem idx0_71 (A : Option Addr) (c : Nat) (g : Fn) (p q : Array Value) (w : World) : Calls Tryz.prog 71 #[.slice A 0 c, .func g p q] w fun e w' => e = .returned (.int .i64 (-1)) ∧ w = w' := by
  go_enter Tryz.func71, Tryz.ntmps71
  go_wp2
  go_loopw [8] (fun t wr => t = .int .i64 0 ∧ wr = w) (fun t wr => 0)
  case atStart => exact ⟨rfl, rfl⟩
  case round =>
    obtain ⟨rfl, rfl⟩ := hrel
    go_wp2
    go_ret
    exact ⟨rfl, rfl⟩

theorem idx0_187 (A : Option Addr) (c : Nat) (g : Fn) (p q : Array Value) (w : World) : Calls Tryz.prog 187 #[.slice A 0 c, .func g p q] w fun e w' => e = .returned (.int .i64 (-1)) ∧ w = w' := by
  go_enter Tryz.func187, Tryz.ntmps187
  go_wp2
  go_loopw [8] (fun t wr => t = .int .i64 0 ∧ wr = w) (fun t wr => 0)
  case atStart => exact ⟨rfl, rfl⟩
  case round =>
    obtain ⟨rfl, rfl⟩ := hrel
    go_wp2
    go_ret
    exact ⟨rfl, rfl⟩

theorem idx0_205 (A : Option Addr) (c : Nat) (g : Fn) (p q : Array Value) (w : World) : Calls Tryz.prog 205 #[.slice A 0 c, .func g p q] w fun e w' => e = .returned (.int .i64 (-1)) ∧ w = w' := by
  go_enter Tryz.func205, Tryz.ntmps205
  go_wp2
  go_loopw [8] (fun t wr => t = .int .i64 0 ∧ wr = w) (fun t wr => 0)
  case atStart => exact ⟨rfl, rfl⟩
  case round =>
    obtain ⟨rfl, rfl⟩ := hrel
    go_wp2
    go_ret
    exact ⟨rfl, rfl⟩

theorem idx0_211 (A : Option Addr) (c : Nat) (g : Fn) (p q : Array Value) (w : World) : Calls Tryz.prog 211 #[.slice A 0 c, .func g p q] w fun e w' => e = .returned (.int .i64 (-1)) ∧ w = w' := by
  go_enter Tryz.func211, Tryz.ntmps211
  go_wp2
  go_loopw [8] (fun t wr => t = .int .i64 0 ∧ wr = w) (fun t wr => 0)
  case atStart => exact ⟨rfl, rfl⟩
  case round =>
    obtain ⟨rfl, rfl⟩ := hrel
    go_wp2
    go_ret
    exact ⟨rfl, rfl⟩

theorem idx0_254 (A : Option Addr) (c : Nat) (g : Fn) (p q : Array Value) (w : World) : Calls Tryz.prog 254 #[.slice A 0 c, .func g p q] w fun e w' => e = .returned (.int .i64 (-1)) ∧ w = w' := by
  go_enter Tryz.func254, Tryz.ntmps254
  go_wp2
  go_loopw [8] (fun t wr => t = .int .i64 0 ∧ wr = w) (fun t wr => 0)
  case atStart => exact ⟨rfl, rfl⟩
  case round =>
    obtain ⟨rfl, rfl⟩ := hrel
    go_wp2
    go_ret
    exact ⟨rfl, rfl⟩

theorem idx0_255 (A : Option Addr) (c : Nat) (g : Fn) (p q : Array Value) (w : World) : Calls Tryz.prog 255 #[.slice A 0 c, .func g p q] w fun e w' => e = .returned (.int .i64 (-1)) ∧ w = w' := by
  go_enter Tryz.func255, Tryz.ntmps255
  go_wp2
  go_loopw [8] (fun t wr => t = .int .i64 0 ∧ wr = w) (fun t wr => 0)
  case atStart => exact ⟨rfl, rfl⟩
  case round =>
    obtain ⟨rfl, rfl⟩ := hrel
    go_wp2
    go_ret
    exact ⟨rfl, rfl⟩

theorem idx0_256 (A : Option Addr) (c : Nat) (g : Fn) (p q : Array Value) (w : World) : Calls Tryz.prog 256 #[.slice A 0 c, .func g p q] w fun e w' => e = .returned (.int .i64 (-1)) ∧ w = w' := by
  go_enter Tryz.func256, Tryz.ntmps256
  go_wp2
  go_loopw [8] (fun t wr => t = .int .i64 0 ∧ wr = w) (fun t wr => 0)
  case atStart => exact ⟨rfl, rfl⟩
  case round =>
    obtain ⟨rfl, rfl⟩ := hrel
    go_wp2
    go_ret
    exact ⟨rfl, rfl⟩

theorem idx0_257 (A : Option Addr) (c : Nat) (g : Fn) (p q : Array Value) (w : World) : Calls Tryz.prog 257 #[.slice A 0 c, .func g p q] w fun e w' => e = .returned (.int .i64 (-1)) ∧ w = w' := by
  go_enter Tryz.func257, Tryz.ntmps257
  go_wp2
  go_loopw [8] (fun t wr => t = .int .i64 0 ∧ wr = w) (fun t wr => 0)
  case atStart => exact ⟨rfl, rfl⟩
  case round =>
    obtain ⟨rfl, rfl⟩ := hrel
    go_wp2
    go_ret
    exact ⟨rfl, rfl⟩

theorem idx0_258 (A : Option Addr) (c : Nat) (g : Fn) (p q : Array Value) (w : World) : Calls Tryz.prog 258 #[.slice A 0 c, .func g p q] w fun e w' => e = .returned (.int .i64 (-1)) ∧ w = w' := by
  go_enter Tryz.func258, Tryz.ntmps258
  go_wp2
  go_loopw [8] (fun t wr => t = .int .i64 0 ∧ wr = w) (fun t wr => 0)
  case atStart => exact ⟨rfl, rfl⟩
  case round =>
    obtain ⟨rfl, rfl⟩ := hrel
    go_wp2
    go_ret
    exact ⟨rfl, rfl⟩

theorem idx0_259 (A : Option Addr) (c : Nat) (g : Fn) (p q : Array Value) (w : World) : Calls Tryz.prog 259 #[.slice A 0 c, .func g p q] w fun e w' => e = .returned (.int .i64 (-1)) ∧ w = w' := by
  go_enter Tryz.func259, Tryz.ntmps259
  go_wp2
  go_loopw [8] (fun t wr => t = .int .i64 0 ∧ wr = w) (fun t wr => 0)
  case atStart => exact ⟨rfl, rfl⟩
  case round =>
    obtain ⟨rfl, rfl⟩ := hrel
    go_wp2
    go_ret
    exact ⟨rfl, rfl⟩

theorem idx0_268 (A : Option Addr) (c : Nat) (g : Fn) (p q : Array Value) (w : World) : Calls Tryz.prog 268 #[.slice A 0 c, .func g p q] w fun e w' => e = .returned (.int .i64 (-1)) ∧ w = w' := by
  go_enter Tryz.func268, Tryz.ntmps268
  go_wp2
  go_loopw [8] (fun t wr => t = .int .i64 0 ∧ wr = w) (fun t wr => 0)
  case atStart => exact ⟨rfl, rfl⟩
  case round =>
    obtain ⟨rfl, rfl⟩ := hrel
    go_wp2
    go_ret
    exact ⟨rfl, rfl⟩

theorem idx0_269 (A : Option Addr) (c : Nat) (g : Fn) (p q : Array Value) (w : World) : Calls Tryz.prog 269 #[.slice A 0 c, .func g p q] w fun e w' => e = .returned (.int .i64 (-1)) ∧ w = w' := by
  go_enter Tryz.func269, Tryz.ntmps269
  go_wp2
  go_loopw [8] (fun t wr => t = .int .i64 0 ∧ wr = w) (fun t wr => 0)
  case atStart => exact ⟨rfl, rfl⟩
  case round =>
    obtain ⟨rfl, rfl⟩ := hrel
    go_wp2
    go_ret
    exact ⟨rfl, rfl⟩

theorem idx0_270 (A : Option Addr) (c : Nat) (g : Fn) (p q : Array Value) (w : World) : Calls Tryz.prog 270 #[.slice A 0 c, .func g p q] w fun e w' => e = .returned (.int .i64 (-1)) ∧ w = w' := by
  go_enter Tryz.func270, Tryz.ntmps270
  go_wp2
  go_loopw [8] (fun t wr => t = .int .i64 0 ∧ wr = w) (fun t wr => 0)
  case atStart => exact ⟨rfl, rfl⟩
  case round =>
    obtain ⟨rfl, rfl⟩ := hrel
    go_wp2
    go_ret
    exact ⟨rfl, rfl⟩

theorem idx0_288 (A : Option Addr) (c : Nat) (g : Fn) (p q : Array Value) (w : World) : Calls Tryz.prog 288 #[.slice A 0 c, .func g p q] w fun e w' => e = .returned (.int .i64 (-1)) ∧ w = w' := by
  go_enter Tryz.func288, Tryz.ntmps288
  go_wp2
  go_loopw [8] (fun t wr => t = .int .i64 0 ∧ wr = w) (fun t wr => 0)
  case atStart => exact ⟨rfl, rfl⟩
  case round =>
    obtain ⟨rfl, rfl⟩ := hrel
    go_wp2
    go_ret
    exact ⟨rfl, rfl⟩

theorem idx0_328 (A : Option Addr) (c : Nat) (g : Fn) (p q : Array Value) (w : World) : Calls Tryz.prog 328 #[.slice A 0 c, .func g p q] w fun e w' => e = .returned (.int .i64 (-1)) ∧ w = w' := by
  go_enter Tryz.func328, Tryz.ntmps328
  go_wp2
  go_loopw [8] (fun t wr => t = .int .i64 0 ∧ wr = w) (fun t wr => 0)
  case atStart => exact ⟨rfl, rfl⟩
  case round =>
    obtain ⟨rfl, rfl⟩ := hrel
    go_wp2
    go_ret
    exact ⟨rfl, rfl⟩

theorem con0_47 (A : Option Addr) (c : Nat) (g : Fn) (p q : Array Value) (w : World) : Calls Tryz.prog 47 #[.slice A 0 c, .func g p q] w fun e w' => e = .returned (.bool false) ∧ w = w' := by
  go_enter Tryz.func47, Tryz.ntmps47
  go_wp2_with (go_at_call 70; refine (idx0_70 _ _ _ _ _ _).mono ?_; rintro e w' ⟨rfl, rfl⟩)
  go_ret
  exact ⟨rfl, rfl⟩

theorem con0_48 (A : Option Addr) (c : Nat) (g : Fn) (p q : Array Value) (w : World) : Calls Tryz.prog 48 #[.slice A 0 c, .func g p q] w fun e w' => e = .returned (.bool false) ∧ w = w' := by
  go_enter Tryz.func48, Tryz.ntmps48
  go_wp2_with (go_at_call 71; refine (idx0_71 _ _ _ _ _ _).mono ?_; rintro e w' ⟨rfl, rfl⟩)
  go_ret
  exact ⟨rfl, rfl⟩

theorem con0_126 (A : Option Addr) (c : Nat) (g : Fn) (p q : Array Value) (w : World) : Calls Tryz.prog 126 #[.slice A 0 c, .func g p q] w fun e w' => e = .returned (.bool false) ∧ w = w' := by
  go_enter Tryz.func126, Tryz.ntmps126
  go_wp2_with (go_at_call 211; refine (idx0_211 _ _ _ _ _ _).mono ?_; rintro e w' ⟨rfl, rfl⟩)
  go_ret
  exact ⟨rfl, rfl⟩

theorem con0_166 (A : Option Addr) (c : Nat) (g : Fn) (p q : Array Value) (w : World) : Calls Tryz.prog 166 #[.slice A 0 c, .func g p q] w fun e w' => e = .returned (.bool false) ∧ w = w' := by
  go_enter Tryz.func166, Tryz.ntmps166
  go_wp2_with (go_at_call 254; refine (idx0_254 _ _ _ _ _ _).mono ?_; rintro e w' ⟨rfl, rfl⟩)
  go_ret
  exact ⟨rfl, rfl⟩

theorem con0_168 (A : Option Addr) (c : Nat) (g : Fn) (p q : Array Value) (w : World) : Calls Tryz.prog 168 #[.slice A 0 c, .func g p q] w fun e w' => e = .returned (.bool false) ∧ w = w' := by
  go_enter Tryz.func168, Tryz.ntmps168
  go_wp2_with (go_at_call 255; refine (idx0_255 _ _ _ _ _ _).mono ?_; rintro e w' ⟨rfl, rfl⟩)
  go_ret
  exact ⟨rfl, rfl⟩

theorem con0_170 (A : Option Addr) (c : Nat) (g : Fn) (p q : Array Value) (w : World) : Calls Tryz.prog 170 #[.slice A 0 c, .func g p q] w fun e w' => e = .returned (.bool false) ∧ w = w' := by
  go_enter Tryz.func170, Tryz.ntmps170
  go_wp2_with (go_at_call 256; refine (idx0_256 _ _ _ _ _ _).mono ?_; rintro e w' ⟨rfl, rfl⟩)
  go_ret
  exact ⟨rfl, rfl⟩

theorem con0_172 (A : Option Addr) (c : Nat) (g : Fn) (p q : Array Value) (w : World) : Calls Tryz.prog 172 #[.slice A 0 c, .func g p q] w fun e w' => e = .returned (.bool false) ∧ w = w' := by
  go_enter Tryz.func172, Tryz.ntmps172
  go_wp2_with (go_at_call 257; refine (idx0_257 _ _ _ _ _ _).mono ?_; rintro e w' ⟨rfl, rfl⟩)
  go_ret
  exact ⟨rfl, rfl⟩

theorem con0_176 (A : Option Addr) (c : Nat) (g : Fn) (p q : Array Value) (w : World) : Calls Tryz.prog 176 #[.slice A 0 c, .func g p q] w fun e w' => e = .returned (.bool false) ∧ w = w' := by
  go_enter Tryz.func176, Tryz.ntmps176
  go_wp2_with (go_at_call 205; refine (idx0_205 _ _ _ _ _ _).mono ?_; rintro e w' ⟨rfl, rfl⟩)
  go_ret
  exact ⟨rfl, rfl⟩

theorem con0_178 (A : Option Addr) (c : Nat) (g : Fn) (p q : Array Value) (w : World) : Calls Tryz.prog 178 #[.slice A 0 c, .func g p q] w fun e w' => e = .returned (.bool false) ∧ w = w' := by
  go_enter Tryz.func178, Tryz.ntmps178
  go_wp2_with (go_at_call 187; refine (idx0_187 _ _ _ _ _ _).mono ?_; rintro e w' ⟨rfl, rfl⟩)
  go_ret
  exact ⟨rfl, rfl⟩

theorem con0_180 (A : Option Addr) (c : Nat) (g : Fn) (p q : Array Value) (w : World) : Calls Tryz.prog 180 #[.slice A 0 c, .func g p q] w fun e w' => e = .returned (.bool false) ∧ w = w' := by
  go_enter Tryz.func180, Tryz.ntmps180
  go_wp2_with (go_at_call 258; refine (idx0_258 _ _ _ _ _ _).mono ?_; rintro e w' ⟨rfl, rfl⟩)
  go_ret
  exact ⟨rfl, rfl⟩

theorem con0_192 (A : Option Addr) (c : Nat) (g : Fn) (p q : Array Value) (w : World) : Calls Tryz.prog 192 #[.slice A 0 c, .func g p q] w fun e w' => e = .returned (.bool false) ∧ w = w' := by
  go_enter Tryz.func192, Tryz.ntmps192
  go_wp2_with (go_at_call 259; refine (idx0_259 _ _ _ _ _ _).mono ?_; rintro e w' ⟨rfl, rfl⟩)
  go_ret
  exact ⟨rfl, rfl⟩

theorem con0_203 (A : Option Addr) (c : Nat) (g : Fn) (p q : Array Value) (w : World) : Calls Tryz.prog 203 #[.slice A 0 c, .func g p q] w fun e w' => e = .returned (.bool false) ∧ w = w' := by
  go_enter Tryz.func203, Tryz.ntmps203
  go_wp2_with (go_at_call 268; refine (idx0_268 _ _ _ _ _ _).mono ?_; rintro e w' ⟨rfl, rfl⟩)
  go_ret
  exact ⟨rfl, rfl⟩

theorem con0_207 (A : Option Addr) (c : Nat) (g : Fn) (p q : Array Value) (w : World) : Calls Tryz.prog 207 #[.slice A 0 c, .func g p q] w fun e w' => e = .returned (.bool false) ∧ w = w' := by
  go_enter Tryz.func207, Tryz.ntmps207
  go_wp2_with (go_at_call 269; refine (idx0_269 _ _ _ _ _ _).mono ?_; rintro e w' ⟨rfl, rfl⟩)
  go_ret
  exact ⟨rfl, rfl⟩

theorem con0_209 (A : Option Addr) (c : Nat) (g : Fn) (p q : Array Value) (w : World) : Calls Tryz.prog 209 #[.slice A 0 c, .func g p q] w fun e w' => e = .returned (.bool false) ∧ w = w' := by
  go_enter Tryz.func209, Tryz.ntmps209
  go_wp2_with (go_at_call 270; refine (idx0_270 _ _ _ _ _ _).mono ?_; rintro e w' ⟨rfl, rfl⟩)
  go_ret
  exact ⟨rfl, rfl⟩

theorem con0_238 (A : Option Addr) (c : Nat) (g : Fn) (p q : Array Value) (w : World) : Calls Tryz.prog 238 #[.slice A 0 c, .func g p q] w fun e w' => e = .returned (.bool false) ∧ w = w' := by
  go_enter Tryz.func238, Tryz.ntmps238
  go_wp2_with (go_at_call 288; refine (idx0_288 _ _ _ _ _ _).mono ?_; rintro e w' ⟨rfl, rfl⟩)
  go_ret
  exact ⟨rfl, rfl⟩

theorem con0_313 (A : Option Addr) (c : Nat) (g : Fn) (p q : Array Value) (w : World) : Calls Tryz.prog 313 #[.slice A 0 c, .func g p q] w fun e w' => e = .returned (.bool false) ∧ w = w' := by
  go_enter Tryz.func313, Tryz.ntmps313
  go_wp2_with (go_at_call 328; refine (idx0_328 _ _ _ _ _ _).mono ?_; rintro e w' ⟨rfl, rfl⟩)
  go_ret
  exact ⟨rfl, rfl⟩

theorem all0_82 (A : Option Addr) (c : Nat) (g : Fn) (p q : Array Value) (w : World) : Calls Tryz.prog 82 #[.slice A 0 c, .func g p q] w fun e w' => e = .returned (.bool true) ∧ Below w.heap.size w w' := by
  go_enter Tryz.func82, Tryz.ntmps82
  go_wp2_with (go_at_call 168; refine (con0_168 _ _ _ _ _ _).mono ?_; rintro e w' ⟨rfl, rfl⟩)
  go_ret
  exact ⟨rfl, (Below.refl _ _).alloc (Nat.le_refl _) _⟩

theorem all0_83 (A : Option Addr) (c : Nat) (g : Fn) (p q : Array Value) (w : World) : Calls Tryz.prog 83 #[.slice A 0 c, .func g p q] w fun e w' => e = .returned (.bool true) ∧ Below w.heap.size w w' := by
  go_enter Tryz.func83, Tryz.ntmps83
  go_wp2_with (go_at_call 170; refine (con0_170 _ _ _ _ _ _).mono ?_; rintro e w' ⟨rfl, rfl⟩)
  go_ret
  exact ⟨rfl, (Below.refl _ _).alloc (Nat.le_refl _) _⟩

theorem all0_85 (A : Option Addr) (c : Nat) (g : Fn) (p q : Array Value) (w : World) : Calls Tryz.prog 85 #[.slice A 0 c, .func g p q] w fun e w' => e = .returned (.bool true) ∧ Below w.heap.size w w' := by
  go_enter Tryz.func85, Tryz.ntmps85
  go_wp2_with (go_at_call 172; refine (con0_172 _ _ _ _ _ _).mono ?_; rintro e w' ⟨rfl, rfl⟩)
  go_ret
  exact ⟨rfl, (Below.refl _ _).alloc (Nat.le_refl _) _⟩

theorem all0_90 (A : Option Addr) (c : Nat) (g : Fn) (p q : Array Value) (w : World) : Calls Tryz.prog 90 #[.slice A 0 c, .func g p q] w fun e w' => e = .returned (.bool true) ∧ Below w.heap.size w w' := by
  go_enter Tryz.func90, Tryz.ntmps90
  go_wp2_with (go_at_call 47; refine (con0_47 _ _ _ _ _ _).mono ?_; rintro e w' ⟨rfl, rfl⟩)
  go_ret
  exact ⟨rfl, (Below.refl _ _).alloc (Nat.le_refl _) _⟩

theorem all0_92 (A : Option Addr) (c : Nat) (g : Fn) (p q : Array Value) (w : World) : Calls Tryz.prog 92 #[.slice A 0 c, .func g p q] w fun e w' => e = .returned (.bool true) ∧ Below w.heap.size w w' := by
  go_enter Tryz.func92, Tryz.ntmps92
  go_wp2_with (go_at_call 176; refine (con0_176 _ _ _ _ _ _).mono ?_; rintro e w' ⟨rfl, rfl⟩)
  go_ret
  exact ⟨rfl, (Below.refl _ _).alloc (Nat.le_refl _) _⟩

theorem all0_93 (A : Option Addr) (c : Nat) (g : Fn) (p q : Array Value) (w : World) : Calls Tryz.prog 93 #[.slice A 0 c, .func g p q] w fun e w' => e = .returned (.bool true) ∧ Below w.heap.size w w' := by
  go_enter Tryz.func93, Tryz.ntmps93
  go_wp2_with (go_at_call 178; refine (con0_178 _ _ _ _ _ _).mono ?_; rintro e w' ⟨rfl, rfl⟩)
  go_ret
  exact ⟨rfl, (Below.refl _ _).alloc (Nat.le_refl _) _⟩

theorem all0_94 (A : Option Addr) (c : Nat) (g : Fn) (p q : Array Value) (w : World) : Calls Tryz.prog 94 #[.slice A 0 c, .func g p q] w fun e w' => e = .returned (.bool true) ∧ Below w.heap.size w w' := by
  go_enter Tryz.func94, Tryz.ntmps94
  go_wp2_with (go_at_call 180; refine (con0_180 _ _ _ _ _ _).mono ?_; rintro e w' ⟨rfl, rfl⟩)
  go_ret
  exact ⟨rfl, (Below.refl _ _).alloc (Nat.le_refl _) _⟩

theorem all0_95 (A : Option Addr) (c : Nat) (g : Fn) (p q : Array Value) (w : World) : Calls Tryz.prog 95 #[.slice A 0 c, .func g p q] w fun e w' => e = .returned (.bool true) ∧ Below w.heap.size w w' := by
  go_enter Tryz.func95, Tryz.ntmps95
  go_wp2_with (go_at_call 126; refine (con0_126 _ _ _ _ _ _).mono ?_; rintro e w' ⟨rfl, rfl⟩)
  go_ret
  exact ⟨rfl, (Below.refl _ _).alloc (Nat.le_refl _) _⟩

theorem all0_112 (A : Option Addr) (c : Nat) (g : Fn) (p q : Array Value) (w : World) : Calls Tryz.prog 112 #[.slice A 0 c, .func g p q] w fun e w' => e = .returned (.bool true) ∧ Below w.heap.size w w' := by
  go_enter Tryz.func112, Tryz.ntmps112
  go_wp2_with (go_at_call 192; refine (con0_192 _ _ _ _ _ _).mono ?_; rintro e w' ⟨rfl, rfl⟩)
  go_ret
  exact ⟨rfl, (Below.refl _ _).alloc (Nat.le_refl _) _⟩

theorem all0_118 (A : Option Addr) (c : Nat) (g : Fn) (p q : Array Value) (w : World) : Calls Tryz.prog 118 #[.slice A 0 c, .func g p q] w fun e w' => e = .returned (.bool true) ∧ Below w.heap.size w w' := by
  go_enter Tryz.func118, Tryz.ntmps118
  go_wp2_with (go_at_call 203; refine (con0_203 _ _ _ _ _ _).mono ?_; rintro e w' ⟨rfl, rfl⟩)
  go_ret
  exact ⟨rfl, (Below.refl _ _).alloc (Nat.le_refl _) _⟩

theorem all0_123 (A : Option Addr) (c : Nat) (g : Fn) (p q : Array Value) (w : World) : Calls Tryz.prog 123 #[.slice A 0 c, .func g p q] w fun e w' => e = .returned (.bool true) ∧ Below w.heap.size w w' := by
  go_enter Tryz.func123, Tryz.ntmps123
  go_wp2_with (go_at_call 207; refine (con0_207 _ _ _ _ _ _).mono ?_; rintro e w' ⟨rfl, rfl⟩)
  go_ret
  exact ⟨rfl, (Below.refl _ _).alloc (Nat.le_refl _) _⟩

theorem all0_124 (A : Option Addr) (c : Nat) (g : Fn) (p q : Array Value) (w : World) : Calls Tryz.prog 124 #[.slice A 0 c, .func g p q] w fun e w' => e = .returned (.bool true) ∧ Below w.heap.size w w' := by
  go_enter Tryz.func124, Tryz.ntmps124
  go_wp2_with (go_at_call 209; refine (con0_209 _ _ _ _ _ _).mono ?_; rintro e w' ⟨rfl, rfl⟩)
  go_ret
  exact ⟨rfl, (Below.refl _ _).alloc (Nat.le_refl _) _⟩

theorem all0_132 (A : Option Addr) (c : Nat) (g : Fn) (p q : Array Value) (w : World) : Calls Tryz.prog 132 #[.slice A 0 c, .func g p q] w fun e w' => e = .returned (.bool true) ∧ Below w.heap.size w w' := by
  go_enter Tryz.func132, Tryz.ntmps132
  go_wp2_with (go_at_call 48; refine (con0_48 _ _ _ _ _ _).mono ?_; rintro e w' ⟨rfl, rfl⟩)
  go_ret
  exact ⟨rfl, (Below.refl _ _).alloc (Nat.le_refl _) _⟩

theorem all0_150 (A : Option Addr) (c : Nat) (g : Fn) (p q : Array Value) (w : World) : Calls Tryz.prog 150 #[.slice A 0 c, .func g p q] w fun e w' => e = .returned (.bool true) ∧ Below w.heap.size w w' := by
  go_enter Tryz.func150, Tryz.ntmps150
  go_wp2_with (go_at_call 176; refine (con0_176 _ _ _ _ _ _).mono ?_; rintro e w' ⟨rfl, rfl⟩)
  go_ret
  exact ⟨rfl, (Below.refl _ _).alloc (Nat.le_refl _) _⟩

theorem all0_152 (A : Option Addr) (c : Nat) (g : Fn) (p q : Array Value) (w : World) : Calls Tryz.prog 152 #[.slice A 0 c, .func g p q] w fun e w' => e = .returned (.bool true) ∧ Below w.heap.size w w' := by
  go_enter Tryz.func152, Tryz.ntmps152
  go_wp2_with (go_at_call 238; refine (con0_238 _ _ _ _ _ _).mono ?_; rintro e w' ⟨rfl, rfl⟩)
  go_ret
  exact ⟨rfl, (Below.refl _ _).alloc (Nat.le_refl _) _⟩

theorem all0_154 (A : Option Addr) (c : Nat) (g : Fn) (p q : Array Value) (w : World) : Calls Tryz.prog 154 #[.slice A 0 c, .func g p q] w fun e w' => e = .returned (.bool true) ∧ Below w.heap.size w w' := by
  go_enter Tryz.func154, Tryz.ntmps154
  go_wp2_with (go_at_call 178; refine (con0_178 _ _ _ _ _ _).mono ?_; rintro e w' ⟨rfl, rfl⟩)
  go_ret
  exact ⟨rfl, (Below.refl _ _).alloc (Nat.le_refl _) _⟩

theorem all0_156 (A : Option Addr) (c : Nat) (g : Fn) (p q : Array Value) (w : World) : Calls Tryz.prog 156 #[.slice A 0 c, .func g p q] w fun e w' => e = .returned (.bool true) ∧ Below w.heap.size w w' := by
  go_enter Tryz.func156, Tryz.ntmps156
  go_wp2_with (go_at_call 180; refine (con0_180 _ _ _ _ _ _).mono ?_; rintro e w' ⟨rfl, rfl⟩)
  go_ret
  exact ⟨rfl, (Below.refl _ _).alloc (Nat.le_refl _) _⟩

theorem all0_158 (A : Option Addr) (c : Nat) (g : Fn) (p q : Array Value) (w : World) : Calls Tryz.prog 158 #[.slice A 0 c, .func g p q] w fun e w' => e = .returned (.bool true) ∧ Below w.heap.size w w' := by
  go_enter Tryz.func158, Tryz.ntmps158
  go_wp2_with (go_at_call 203; refine (con0_203 _ _ _ _ _ _).mono ?_; rintro e w' ⟨rfl, rfl⟩)
  go_ret
  exact ⟨rfl, (Below.refl _ _).alloc (Nat.le_refl _) _⟩

theorem all0_160 (A : Option Addr) (c : Nat) (g : Fn) (p q : Array Value) (w : World) : Calls Tryz.prog 160 #[.slice A 0 c, .func g p q] w fun e w' => e = .returned (.bool true) ∧ Below w.heap.size w w' := by
  go_enter Tryz.func160, Tryz.ntmps160
  go_wp2_with (go_at_call 207; refine (con0_207 _ _ _ _ _ _).mono ?_; rintro e w' ⟨rfl, rfl⟩)
  go_ret
  exact ⟨rfl, (Below.refl _ _).alloc (Nat.le_refl _) _⟩

theorem all0_162 (A : Option Addr) (c : Nat) (g : Fn) (p q : Array Value) (w : World) : Calls Tryz.prog 162 #[.slice A 0 c, .func g p q] w fun e w' => e = .returned (.bool true) ∧ Below w.heap.size w w' := by
  go_enter Tryz.func162, Tryz.ntmps162
  go_wp2_with (go_at_call 126; refine (con0_126 _ _ _ _ _ _).mono ?_; rintro e w' ⟨rfl, rfl⟩)
  go_ret
  exact ⟨rfl, (Below.refl _ _).alloc (Nat.le_refl _) _⟩

theorem all0_164 (A : Option Addr) (c : Nat) (g : Fn) (p q : Array Value) (w : World) : Calls Tryz.prog 164 #[.slice A 0 c, .func g p q] w fun e w' => e = .returned (.bool true) ∧ Below w.heap.size w w' := by
  go_enter Tryz.func164, Tryz.ntmps164
  go_wp2_with (go_at_call 209; refine (con0_209 _ _ _ _ _ _).mono ?_; rintro e w' ⟨rfl, rfl⟩)
  go_ret
  exact ⟨rfl, (Below.refl _ _).alloc (Nat.le_refl _) _⟩

theorem all0_236 (A : Option Addr) (c : Nat) (g : Fn) (p q : Array Value) (w : World) : Calls Tryz.prog 236 #[.slice A 0 c, .func g p q] w fun e w' => e = .returned (.bool true) ∧ Below w.heap.size w w' := by
  go_enter Tryz.func236, Tryz.ntmps236
  go_wp2_with (go_at_call 172; refine (con0_172 _ _ _ _ _ _).mono ?_; rintro e w' ⟨rfl, rfl⟩)
  go_ret
  exact ⟨rfl, (Below.refl _ _).alloc (Nat.le_refl _) _⟩

theorem all0_251 (A : Option Addr) (c : Nat) (g : Fn) (p q : Array Value) (w : World) : Calls Tryz.prog 251 #[.slice A 0 c, .func g p q] w fun e w' => e = .returned (.bool true) ∧ Below w.heap.size w w' := by
  go_enter Tryz.func251, Tryz.ntmps251
  go_wp2_with (go_at_call 47; refine (con0_47 _ _ _ _ _ _).mono ?_; rintro e w' ⟨rfl, rfl⟩)
  go_ret
  exact ⟨rfl, (Below.refl _ _).alloc (Nat.le_refl _) _⟩

theorem all0_260 (A : Option Addr) (c : Nat) (g : Fn) (p q : Array Value) (w : World) : Calls Tryz.prog 260 #[.slice A 0 c, .func g p q] w fun e w' => e = .returned (.bool true) ∧ Below w.heap.size w w' := by
  go_enter Tryz.func260, Tryz.ntmps260
  go_wp2_with (go_at_call 192; refine (con0_192 _ _ _ _ _ _).mono ?_; rintro e w' ⟨rfl, rfl⟩)
  go_ret
  exact ⟨rfl, (Below.refl _ _).alloc (Nat.le_refl _) _⟩

theorem all0_284 (A : Option Addr) (c : Nat) (g : Fn) (p q : Array Value) (w : World) : Calls Tryz.prog 284 #[.slice A 0 c, .func g p q] w fun e w' => e = .returned (.bool true) ∧ Below w.heap.size w w' := by
  go_enter Tryz.func284, Tryz.ntmps284
  go_wp2_with (go_at_call 168; refine (con0_168 _ _ _ _ _ _).mono ?_; rintro e w' ⟨rfl, rfl⟩)
  go_ret
  exact ⟨rfl, (Below.refl _ _).alloc (Nat.le_refl _) _⟩

theorem all0_286 (A : Option Addr) (c : Nat) (g : Fn) (p q : Array Value) (w : World) : Calls Tryz.prog 286 #[.slice A 0 c, .func g p q] w fun e w' => e = .returned (.bool true) ∧ Below w.heap.size w w' := by
  go_enter Tryz.func286, Tryz.ntmps286
  go_wp2_with (go_at_call 170; refine (con0_170 _ _ _ _ _ _).mono ?_; rintro e w' ⟨rfl, rfl⟩)
  go_ret
  exact ⟨rfl, (Below.refl _ _).alloc (Nat.le_refl _) _⟩

theorem all0_290 (A : Option Addr) (c : Nat) (g : Fn) (p q : Array Value) (w : World) : Calls Tryz.prog 290 #[.slice A 0 c, .func g p q] w fun e w' => e = .returned (.bool true) ∧ Below w.heap.size w w' := by
  go_enter Tryz.func290, Tryz.ntmps290
  go_wp2_with (go_at_call 313; refine (con0_313 _ _ _ _ _ _).mono ?_; rintro e w' ⟨rfl, rfl⟩)
  go_ret
  exact ⟨rfl, (Below.refl _ _).alloc (Nat.le_refl _) _⟩

theorem all0_297 (A : Option Addr) (c : Nat) (g : Fn) (p q : Array Value) (w : World) : Calls Tryz.prog 297 #[.slice A 0 c, .func g p q] w fun e w' => e = .returned (.bool true) ∧ Below w.heap.size w w' := by
  go_enter Tryz.func297, Tryz.ntmps297
  go_wp2_with (go_at_call 166; refine (con0_166 _ _ _ _ _ _).mono ?_; rintro e w' ⟨rfl, rfl⟩)
  go_ret
  exact ⟨rfl, (Below.refl _ _).alloc (Nat.le_refl _) _⟩

end Go.Proofs.YtnbnkhockoflgaaGreatDoor
/- The checker's rules on a configuration that holds causes alone. -/
namespace Go.Proofs.YtnbnkhockoflgaaGreatDoor
open Go.ChangeShapes Go.WideShapes Go.ChangeAt Go.RowKit
attribute [local go_sem] Oper.semAt_some
/-- the checker's block. -/
def CkB (w : World) (g : Nat) (A : Option Addr) (n c : Nat) : Prop := Blk w g 116 #[.slice none 0 0, .slice none 0 0, .slice none 0 0, .slice none 0 0, .slice none 0 0, .slice none 0 0, .slice A n c, .slice none 0 0]
theorem CkB.cell {w : World} {g : Nat} {A : Option Addr} {n c : Nat} (h : CkB w g A n c) (i : Nat) : w.cell? ⟨g, i, none⟩ = (#[.slice none 0 0, .slice none 0 0, .slice none 0 0, .slice none 0 0, .slice none 0 0, .slice none 0 0, .slice A n c, .slice none 0 0] : Array Value)[i]? := Blk.cell h i
set_option maxRecDepth 100000 in
theorem vls_c (g : Nat) (A : Option Addr) (n c : Nat) (w : World) (h : CkB w g A n c) : Calls Tryz.prog 65 #[.pointer (some ⟨g, 0, none⟩)] w fun e w' => e = .returned (.bool true) ∧ Below w.heap.size w w' := by
  have k0 : w.cell? ⟨g, 0, none⟩ = some (.slice none 0 0) := h.cell 0
  have k1 : w.cell? ⟨g, 1, none⟩ = some (.slice none 0 0) := h.cell 1
  have k2 : w.cell? ⟨g, 2, none⟩ = some (.slice none 0 0) := h.cell 2
  have k3 : w.cell? ⟨g, 3, none⟩ = some (.slice none 0 0) := h.cell 3
  have k4 : w.cell? ⟨g, 4, none⟩ = some (.slice none 0 0) := h.cell 4
  have k5 : w.cell? ⟨g, 5, none⟩ = some (.slice none 0 0) := h.cell 5
  have k7 : w.cell? ⟨g, 7, none⟩ = some (.slice none 0 0) := h.cell 7
  have hlt : g < w.heap.size := Blk.lt h
  clear h
  go_enter Tryz.func65, Tryz.ntmps65
  go_wp2_with (go_at_call 118; refine (all0_118 _ _ _ _ _ _).mono ?_; rintro e w' ⟨rfl, hb⟩)
  go_ret
  exact ⟨rfl, ((Below.refl _ w).alloc (Nat.le_refl _) (.cells #[.pointer (some ⟨g, 0, none⟩)] 114)).trans (hb.mono (by simp))⟩
set_option maxRecDepth 100000 in
theorem links_c (g : Nat) (A : Option Addr) (n c : Nat) (w : World) (h : CkB w g A n c) : Calls Tryz.prog 63 #[.pointer (some ⟨g, 0, none⟩)] w fun e w' => e = .returned (.bool true) ∧ Below w.heap.size w w' := by
  have k3 : (((w.alloc (.cells #[.pointer (some ⟨g, 0, none⟩)] 114)).alloc (.map #[] 0)).alloc (.cells #[.map (some (w.heap.size + 1))] 194)).cell? ⟨g, 3, none⟩ = some (.slice none 0 0) := (((Blk.alloc h _).alloc _).alloc _).cell 3
  have hlt : g < w.heap.size := Blk.lt h
  have hmk := @run_makeMap Tryz.prog
  clear h
  go_enter Tryz.func63, Tryz.ntmps63
  go_wp2_with (go_at_call 94; refine (all0_94 _ _ _ _ _ _).mono ?_; rintro e w' ⟨rfl, hb⟩)
  go_ret
  exact ⟨rfl, ((((Below.refl _ w).alloc (Nat.le_refl _) (.cells #[.pointer (some ⟨g, 0, none⟩)] 114)).alloc (by simp) (.map #[] 0)).alloc (by simp; omega) (.cells #[.map (some (w.heap.size + 1))] 194)).trans (hb.mono (by simp; omega))⟩
end Go.Proofs.YtnbnkhockoflgaaGreatDoor
