/- Texts I1 I2 C0, joined. -/
import Derived.Test.YtnbnkhockoflgaaGreatDoorJ22
import Derived.Test.YtnbnkhockoflgaaGreatDoorJ02
set_option linter.unusedSimpArgs false
set_option linter.unusedVariables false
set_option linter.unusedSectionVars false
/- example. -/
namespace Go.Proofs.YtnbnkhockoflgaaGreatDoor
open Go.ChangeShapes Go.WideShapes Go.ChangeAt Go.RowKit
attribute [local go_sem] Oper.semAt_some

def bs (l : List UInt8) : ByteArray := ⟨l.toArray⟩
def rX : Rep := ⟨⟨#[120]⟩, 1⟩
def rY : Rep := ⟨⟨#[121]⟩, 2⟩
def sU : ByteArray := ⟨#[117]⟩
def sW : ByteArray := ⟨#[119]⟩
def sZ : ByteArray := ⟨#[122]⟩
/-- the chapter's example. -/
def exL : List Cs := [⟨sU, [rX, rY], [sZ]⟩, ⟨sZ, [rX], []⟩, ⟨sW, [rY], [sU]⟩]
/-- .. with its slices, laid from block s on. -/
def exV (s : Nat) : List CsV := [⟨⟨sU, [rX, rY], [sZ]⟩, ⟨some ⟨s + 2, 0, none⟩, 2, 2⟩, ⟨some ⟨s + 3, 0, none⟩, 1, 1⟩⟩, ⟨⟨sZ, [rX], []⟩, ⟨some ⟨s + 4, 0, none⟩, 1, 1⟩, ⟨none, 0, 0⟩⟩, ⟨⟨sW, [rY], [sU]⟩, ⟨some ⟨s + 5, 0, none⟩, 1, 1⟩, ⟨some ⟨s + 6, 0, none⟩, 1, 1⟩⟩]
theorem exV_cs (s : Nat) : csOf (exV s) = exL := rfl
theorem blk_at (w : World) (s : Nat) (t : TypeId) (cs : Array Value) (h : w.heap.size = s) : Blk (w.alloc (.cells cs t)) s t cs := by subst h; exact Blk.new w t cs
set_option maxRecDepth 100000 in
theorem example_c (w : World) : Calls Tryz.prog 24 #[] w fun e w' => e = .returned (.slice (some ⟨w.heap.size + 7, 0, none⟩) 3 3) ∧ RdCs w' w'.heap.size (some ⟨w.heap.size + 7, 0, none⟩) (exV w.heap.size) ∧ Below w.heap.size w w' := by
  go_enter Tryz.func24, Tryz.ntmps24
  go_wp2
  go_ret
  obtain ⟨s, hs⟩ : ∃ s, s = w.heap.size := ⟨_, rfl⟩
  rw [← hs]
  have k2 := ((((blk_at ((w.alloc (.cells #[.string ⟨#[120]⟩, .int .i64 1] 46)).alloc (.cells #[.string ⟨#[121]⟩, .int .i64 2] 46)) (s + 2) 46 #[.string ⟨#[120]⟩, .int .i64 1, .string ⟨#[121]⟩, .int .i64 2] (by simp [hs])).alloc (.cells #[.string ⟨#[122]⟩] 9)).alloc (.cells #[.string ⟨#[120]⟩, .int .i64 1] 46)).alloc (.cells #[.string ⟨#[121]⟩, .int .i64 2] 46)).alloc (.cells #[.string ⟨#[117]⟩] 9)
  have k3 := (((blk_at (((w.alloc (.cells #[.string ⟨#[120]⟩, .int .i64 1] 46)).alloc (.cells #[.string ⟨#[121]⟩, .int .i64 2] 46)).alloc (.cells #[.string ⟨#[120]⟩, .int .i64 1, .string ⟨#[121]⟩, .int .i64 2] 46)) (s + 3) 9 #[.string ⟨#[122]⟩] (by simp [hs])).alloc (.cells #[.string ⟨#[120]⟩, .int .i64 1] 46)).alloc (.cells #[.string ⟨#[121]⟩, .int .i64 2] 46)).alloc (.cells #[.string ⟨#[117]⟩] 9)
  have k4 := ((blk_at ((((w.alloc (.cells #[.string ⟨#[120]⟩, .int .i64 1] 46)).alloc (.cells #[.string ⟨#[121]⟩, .int .i64 2] 46)).alloc (.cells #[.string ⟨#[120]⟩, .int .i64 1, .string ⟨#[121]⟩, .int .i64 2] 46)).alloc (.cells #[.string ⟨#[122]⟩] 9)) (s + 4) 46 #[.string ⟨#[120]⟩, .int .i64 1] (by simp [hs])).alloc (.cells #[.string ⟨#[121]⟩, .int .i64 2] 46)).alloc (.cells #[.string ⟨#[117]⟩] 9)
  have k5 := (blk_at (((((w.alloc (.cells #[.string ⟨#[120]⟩, .int .i64 1] 46)).alloc (.cells #[.string ⟨#[121]⟩, .int .i64 2] 46)).alloc (.cells #[.string ⟨#[120]⟩, .int .i64 1, .string ⟨#[121]⟩, .int .i64 2] 46)).alloc (.cells #[.string ⟨#[122]⟩] 9)).alloc (.cells #[.string ⟨#[120]⟩, .int .i64 1] 46)) (s + 5) 46 #[.string ⟨#[121]⟩, .int .i64 2] (by simp [hs])).alloc (.cells #[.string ⟨#[117]⟩] 9)
  have k6 := blk_at ((((((w.alloc (.cells #[.string ⟨#[120]⟩, .int .i64 1] 46)).alloc (.cells #[.string ⟨#[121]⟩, .int .i64 2] 46)).alloc (.cells #[.string ⟨#[120]⟩, .int .i64 1, .string ⟨#[121]⟩, .int .i64 2] 46)).alloc (.cells #[.string ⟨#[122]⟩] 9)).alloc (.cells #[.string ⟨#[120]⟩, .int .i64 1] 46)).alloc (.cells #[.string ⟨#[121]⟩, .int .i64 2] 46)) (s + 6) 9 #[.string ⟨#[117]⟩] (by simp [hs])
  have hB : Below w.heap.size w (((((((w.alloc (.cells #[.string ⟨#[120]⟩, .int .i64 1] 46)).alloc (.cells #[.string ⟨#[121]⟩, .int .i64 2] 46)).alloc (.cells #[.string ⟨#[120]⟩, .int .i64 1, .string ⟨#[121]⟩, .int .i64 2] 46)).alloc (.cells #[.string ⟨#[122]⟩] 9)).alloc (.cells #[.string ⟨#[120]⟩, .int .i64 1] 46)).alloc (.cells #[.string ⟨#[121]⟩, .int .i64 2] 46)).alloc (.cells #[.string ⟨#[117]⟩] 9)) :=
    ((((((((Below.refl _ w).alloc (Nat.le_refl _) _).alloc (by simp) _).alloc (by simp; omega) _).alloc (by simp; omega) _).alloc (by simp; omega) _).alloc (by simp; omega) _).alloc (by simp; omega) _)
  have hz : (((((((w.alloc (.cells #[.string ⟨#[120]⟩, .int .i64 1] 46)).alloc (.cells #[.string ⟨#[121]⟩, .int .i64 2] 46)).alloc (.cells #[.string ⟨#[120]⟩, .int .i64 1, .string ⟨#[121]⟩, .int .i64 2] 46)).alloc (.cells #[.string ⟨#[122]⟩] 9)).alloc (.cells #[.string ⟨#[120]⟩, .int .i64 1] 46)).alloc (.cells #[.string ⟨#[121]⟩, .int .i64 2] 46)).alloc (.cells #[.string ⟨#[117]⟩] 9)).heap.size = s + 7 := by simp [hs]
  generalize (((((((w.alloc (.cells #[.string ⟨#[120]⟩, .int .i64 1] 46)).alloc (.cells #[.string ⟨#[121]⟩, .int .i64 2] 46)).alloc (.cells #[.string ⟨#[120]⟩, .int .i64 1, .string ⟨#[121]⟩, .int .i64 2] 46)).alloc (.cells #[.string ⟨#[122]⟩] 9)).alloc (.cells #[.string ⟨#[120]⟩, .int .i64 1] 46)).alloc (.cells #[.string ⟨#[121]⟩, .int .i64 2] 46)).alloc (.cells #[.string ⟨#[117]⟩] 9)) = W at *
  have k7 := blk_at W (s + 7) 33 #[.string ⟨#[117]⟩, .slice (some ⟨s + 2, 0, none⟩) 2 2, .slice (some ⟨s + 3, 0, none⟩) 1 1, .string ⟨#[122]⟩, .slice (some ⟨s + 4, 0, none⟩) 1 1, .slice none 0 0, .string ⟨#[119]⟩, .slice (some ⟨s + 5, 0, none⟩) 1 1, .slice (some ⟨s + 6, 0, none⟩) 1 1] hz
  replace k2 := k2.alloc (.cells #[.string ⟨#[117]⟩, .slice (some ⟨s + 2, 0, none⟩) 2 2, .slice (some ⟨s + 3, 0, none⟩) 1 1, .string ⟨#[122]⟩, .slice (some ⟨s + 4, 0, none⟩) 1 1, .slice none 0 0, .string ⟨#[119]⟩, .slice (some ⟨s + 5, 0, none⟩) 1 1, .slice (some ⟨s + 6, 0, none⟩) 1 1] 33)
  replace k3 := k3.alloc (.cells #[.string ⟨#[117]⟩, .slice (some ⟨s + 2, 0, none⟩) 2 2, .slice (some ⟨s + 3, 0, none⟩) 1 1, .string ⟨#[122]⟩, .slice (some ⟨s + 4, 0, none⟩) 1 1, .slice none 0 0, .string ⟨#[119]⟩, .slice (some ⟨s + 5, 0, none⟩) 1 1, .slice (some ⟨s + 6, 0, none⟩) 1 1] 33)
  replace k4 := k4.alloc (.cells #[.string ⟨#[117]⟩, .slice (some ⟨s + 2, 0, none⟩) 2 2, .slice (some ⟨s + 3, 0, none⟩) 1 1, .string ⟨#[122]⟩, .slice (some ⟨s + 4, 0, none⟩) 1 1, .slice none 0 0, .string ⟨#[119]⟩, .slice (some ⟨s + 5, 0, none⟩) 1 1, .slice (some ⟨s + 6, 0, none⟩) 1 1] 33)
  replace k5 := k5.alloc (.cells #[.string ⟨#[117]⟩, .slice (some ⟨s + 2, 0, none⟩) 2 2, .slice (some ⟨s + 3, 0, none⟩) 1 1, .string ⟨#[122]⟩, .slice (some ⟨s + 4, 0, none⟩) 1 1, .slice none 0 0, .string ⟨#[119]⟩, .slice (some ⟨s + 5, 0, none⟩) 1 1, .slice (some ⟨s + 6, 0, none⟩) 1 1] 33)
  replace k6 := k6.alloc (.cells #[.string ⟨#[117]⟩, .slice (some ⟨s + 2, 0, none⟩) 2 2, .slice (some ⟨s + 3, 0, none⟩) 1 1, .string ⟨#[122]⟩, .slice (some ⟨s + 4, 0, none⟩) 1 1, .slice none 0 0, .string ⟨#[119]⟩, .slice (some ⟨s + 5, 0, none⟩) 1 1, .slice (some ⟨s + 6, 0, none⟩) 1 1] 33)
  rw [← hs] at hB
  have hB8 := hB.alloc (by omega) (.cells #[.string ⟨#[117]⟩, .slice (some ⟨s + 2, 0, none⟩) 2 2, .slice (some ⟨s + 3, 0, none⟩) 1 1, .string ⟨#[122]⟩, .slice (some ⟨s + 4, 0, none⟩) 1 1, .slice none 0 0, .string ⟨#[119]⟩, .slice (some ⟨s + 5, 0, none⟩) 1 1, .slice (some ⟨s + 6, 0, none⟩) 1 1] 33)
  have hlt := k7.lt
  have m1 : 1 ≤ maxLen := by simp [maxLen]
  have m2 : 2 ≤ maxLen := by simp [maxLen]
  refine ⟨rfl, fun _ => ⟨s + 7, 0, rfl, hlt, fun i hi => ?_⟩, hB8⟩
  have hi3 : i = 0 ∨ i = 1 ∨ i = 2 := by simp [exV] at hi; omega
  rcases hi3 with rfl | rfl | rfl
  · refine ⟨k7.cell 0, k7.cell 1, k7.cell 2, rfl, Nat.le_refl _, m2, fun _ => ⟨s + 2, 0, rfl, k2.lt, fun j hj => ?_⟩, rfl, Nat.le_refl _, m1, fun _ => ⟨s + 3, 0, rfl, k3.lt, fun j hj => ?_⟩⟩
    · have : j = 0 ∨ j = 1 := by have : j < 2 := hj; omega
      rcases this with rfl | rfl
      · exact ⟨k2.cell 0, k2.cell 1⟩
      · exact ⟨k2.cell 2, k2.cell 3⟩
    · have : j = 0 := by have : j < 1 := hj; omega
      subst this
      exact k3.cell 0
  · refine ⟨k7.cell 3, k7.cell 4, k7.cell 5, rfl, Nat.le_refl _, m1, fun _ => ⟨s + 4, 0, rfl, k4.lt, fun j hj => ?_⟩, rfl, Nat.le_refl _, Nat.zero_le _, fun h => absurd h (by simp [exV])⟩
    have : j = 0 := by have : j < 1 := hj; omega
    subst this
    exact ⟨k4.cell 0, k4.cell 1⟩
  · refine ⟨k7.cell 6, k7.cell 7, k7.cell 8, rfl, Nat.le_refl _, m1, fun _ => ⟨s + 5, 0, rfl, k5.lt, fun j hj => ?_⟩, rfl, Nat.le_refl _, m1, fun _ => ⟨s + 6, 0, rfl, k6.lt, fun j hj => ?_⟩⟩
    · have : j = 0 := by have : j < 1 := hj; omega
      subst this
      exact ⟨k5.cell 0, k5.cell 1⟩
    · have : j = 0 := by have : j < 1 := hj; omega
      subst this
      exact k6.cell 0
end Go.Proofs.YtnbnkhockoflgaaGreatDoor
/- Large. -/
namespace Go.Proofs.YtnbnkhockoflgaaGreatDoor
open Go.ChangeShapes Go.WideShapes Go.ChangeAt Go.RowKit
attribute [local go_sem] Oper.semAt_some

def bigC (c : Cs) : Bool := decide (20 < c.needs.length) || decide (20 < c.excl.length)
def largeV (l : List Cs) (n : Nat) : Bool := (decide (60 < l.length) || decide (60 < n)) || l.any bigC
set_option maxRecDepth 100000 in
theorem Large_c (L : List CsV) (A : Option Addr) (c : Nat) (A1 : Option Addr) (n c1 : Nat) (w : World) (h : RdCs w w.heap.size A L) (hl : L.length ≤ 2199023255552) (hn : n ≤ 10000000000000) :
    Calls Tryz.prog 9 #[.slice A L.length c, .slice A1 n c1] w fun e w' => e = .returned (.bool (largeV (csOf L) n)) ∧ w = w' := by
  have H := Lib.hid h
  clear h
  have hcl : (csOf L).length = L.length := by simp
  by_cases h1 : 60 < L.length
  · have hr : Hid (largeV (csOf L) n = true) := by show largeV (csOf L) n = true; unfold largeV; rw [hcl, decide_eq_true h1]; rfl
    have h1' : decide (60 < L.length) = true := decide_eq_true h1
    clear hcl
    go_enter Tryz.func9, Tryz.ntmps9
    go_wp2
    go_ret
    exact ⟨ret_bool hr.out.symm, rfl⟩
  · by_cases h2 : 60 < n
    · have hr : Hid (largeV (csOf L) n = true) := by show largeV (csOf L) n = true; unfold largeV; rw [decide_eq_true h2, Bool.or_true]; rfl
      clear hcl
      go_enter Tryz.func9, Tryz.ntmps9
      go_wp2
      go_ret
      exact ⟨ret_bool hr.out.symm, rfl⟩
    · have hr : Hid (largeV (csOf L) n = (csOf L).any bigC) := by show largeV (csOf L) n = _; unfold largeV; rw [hcl, decide_eq_false h1, decide_eq_false h2]; rfl
      clear hcl
      go_enter Tryz.func9, Tryz.ntmps9
      go_wp2
      go_loopw [5] (fun t wr => ∃ k : Nat, k ≤ L.length ∧ t = .int .i64 k ∧ wr = w ∧ Hid ((csOf (L.take k)).any bigC = false)) (fun t wr => L.length - (intOf t).toNat)
      case atStart => exact ⟨0, Nat.zero_le _, rfl, rfl, rfl⟩
      case round =>
        obtain ⟨k, hk, rfl, rfl, hall⟩ := hrel
        by_cases hlt : k < L.length
        · obtain ⟨bo, oo, rfl, hb, hc⟩ := H.out (by omega)
          obtain ⟨d0, d1, d2, hx⟩ := hc k hlt
          have hnl := hx.nl
          have hxl := hx.xl
          have htk : csOf (L.take (k + 1)) = csOf (L.take k) ++ [L[k].c] := by unfold csOf; rw [List.take_succ_eq_append_getElem hlt, List.map_append]; rfl
          have hm : bigC L[k].c = true → (csOf L).any bigC = true := fun hq => List.any_eq_true.2 ⟨_, List.mem_map_of_mem (List.getElem_mem hlt), hq⟩
          have hnx : bigC L[k].c = false → (csOf (L.take (k + 1))).any bigC = false := fun hq => by rw [htk, List.any_append, hall.out]; simp [hq]
          have Hm := Lib.hid hm
          have Hnx := Lib.hid hnx
          have hbg : bigC L[k].c = (decide (20 < L[k].n.n) || decide (20 < L[k].x.n)) := by unfold bigC; rw [hnl, hxl]
          have Hbg := Lib.hid hbg
          clear hc hx hnl hxl htk hm hnx hbg hall
          generalize L[k] = x at *
          by_cases q1 : 20 < x.n.n
          · have hf := Lib.hid (Hm.out (by rw [Hbg.out, decide_eq_true q1]; rfl))
            clear Hm Hnx Hbg
            go_wp2
            go_ret
            exact ⟨ret_bool (hr.out.trans hf.out).symm, rfl⟩
          · by_cases q2 : 20 < x.x.n
            · have hf := Lib.hid (Hm.out (by rw [Hbg.out, decide_eq_true q2, Bool.or_true]))
              clear Hm Hnx Hbg
              go_wp2
              go_ret
              exact ⟨ret_bool (hr.out.trans hf.out).symm, rfl⟩
            · have hf := Lib.hid (Hnx.out (by rw [Hbg.out, decide_eq_false q1, decide_eq_false q2]; rfl))
              clear Hm Hnx Hbg
              go_wp2
              go_roundw
              case rel => exact ⟨k + 1, by omega, by go_num, trivial, hf⟩
              case measure => simp [intOf]; omega
        · obtain rfl : k = L.length := by omega
          rw [List.take_length] at hall
          go_wp2
          go_ret
          exact ⟨ret_bool (hr.out.trans hall.out).symm, rfl⟩
end Go.Proofs.YtnbnkhockoflgaaGreatDoor
/- Contracts of the leaves: has, sameTexts, the closures of holds, the searches. -/
namespace Go.Proofs.YtnbnkhockoflgaaGreatDoor
open Go.ChangeShapes Go.WideShapes Go.ChangeAt Go.RowKit

theorem has_c (l : List ByteArray) (A : Option Addr) (c : Nat) (s : ByteArray) (w : World) (h : RdStr w w.heap.size A l) (hl : l.length ≤ 9223372036854775807) :
    Calls Tryz.prog 12 #[.slice A l.length c, .string s] w fun e w' => e = .returned (.bool (memB s l)) ∧ w = w' := by
  have H := Lib.hid h
  clear h
  go_enter Tryz.func12, Tryz.ntmps12
  go_wp2
  go_loop [6, 9] (fun _ i => ∃ k : Nat, k ≤ l.length ∧ i = .int .i64 k ∧ Hid (∀ j (h : j < l.length), j < k → l[j] ≠ s)) (fun _ i => l.length - (intOf i).toNat)
  case atStart => exact ⟨0, Nat.zero_le _, rfl, fun j _ h => absurd h (by omega)⟩
  case round =>
    obtain ⟨k, hk, rfl, hall⟩ := hrel
    by_cases hlt : k < l.length
    · obtain ⟨b, o, rfl, hb, hc⟩ := H.out (by omega)
      have c0 := hc k hlt
      have hm := List.getElem_mem hlt
      have hnext : l[k] ≠ s → ∀ j (h : j < l.length), j < k + 1 → l[j] ≠ s := fun hq => forall_succ (p := fun r => r ≠ s) hall.out hq
      have Hm := Lib.hid hm
      have Hnext := Lib.hid hnext
      clear hc hm hnext hall
      generalize l[k] = x at c0 Hm Hnext
      by_cases e : x = s
      · have hq := Lib.hid (show true = memB s l from (memB_iff.2 (e ▸ Hm.out)).symm)
        clear Hm Hnext
        go_wp2_with fail
        go_ret
        exact ⟨ret_bool hq.out, rfl⟩
      · have hn := Lib.hid (Hnext.out e)
        have hse := str_ne e
        clear Hm Hnext e
        go_wp2_with fail
        go_round
        case rel => exact ⟨k + 1, by omega, by go_num, hn⟩
        case measure => simp [intOf]; omega
    · have hq := Lib.hid (show false = memB s l from (memB_false fun hm => by
        obtain ⟨j, hj, e⟩ := List.getElem_of_mem hm
        exact hall.out j hj (by omega) e).symm)
      clear hall
      go_wp2_with fail
      go_ret
      exact ⟨ret_bool hq.out, rfl⟩
end Go.Proofs.YtnbnkhockoflgaaGreatDoor
