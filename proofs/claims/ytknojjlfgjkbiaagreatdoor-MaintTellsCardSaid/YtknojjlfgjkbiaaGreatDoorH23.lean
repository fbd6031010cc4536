/- Texts I1 I2 K0, joined. -/
import Derived.Test.YtknojjlfgjkbiaaGreatDoorH22
set_option linter.unusedSimpArgs false
set_option linter.unusedVariables false
set_option linter.unusedSectionVars false
/- example. -/
namespace Go.Proofs.YtknojjlfgjkbiaaGreatDoor
open Go.ChangeShapes Go.WideShapes Go.ChangeAt Go.RowKit
attribute [local go_sem] Oper.semAt_some

def bs (l : List UInt8) : ByteArray := ⟨l.toArray⟩
def rX : Rep := ⟨⟨#[120]⟩, 1⟩
def rY : Rep := ⟨⟨#[121]⟩, 2⟩
def sU : ByteArray := ⟨#[117]⟩
def sW : ByteArray := ⟨#[119]⟩
def sZ : ByteArray := ⟨#[122]⟩
/-- the chapter's example. -/
def exL : List Cs := [⟨sU, [rX, rY], [sZ]⟩, ⟨sZ, [rX], []⟩, ⟨sW, [rY], [sU]⟩]
/-- .. with its slices, laid from block s on. -/
def exV (s : Nat) : List CsV := [⟨⟨sU, [rX, rY], [sZ]⟩, ⟨some ⟨s + 2, 0, none⟩, 2, 2⟩, ⟨some ⟨s + 3, 0, none⟩, 1, 1⟩⟩, ⟨⟨sZ, [rX], []⟩, ⟨some ⟨s + 4, 0, none⟩, 1, 1⟩, ⟨none, 0, 0⟩⟩, ⟨⟨sW, [rY], [sU]⟩, ⟨some ⟨s + 5, 0, none⟩, 1, 1⟩, ⟨some ⟨s + 6, 0, none⟩, 1, 1⟩⟩]
theorem exV_cs (s : Nat) : csOf (exV s) = exL := rfl
theorem blk_at (w : World) (s : Nat) (t : TypeId) (cs : Array Value) (h : w.heap.size = s) : Blk (w.alloc (.cells cs t)) s t cs := by subst h; exact Blk.new w t cs
set_option maxRecDepth 100000 in
theorem example_c (w : World) : Calls Tryz.prog 7 #[] w fun e w' => e = .returned (.slice (some ⟨w.heap.size + 7, 0, none⟩) 3 3) ∧ RdCs w' w'.heap.size (some ⟨w.heap.size + 7, 0, none⟩) (exV w.heap.size) ∧ Below w.heap.size w w' := by
  go_enter Tryz.func7, Tryz.ntmps7
  go_wp2
  go_ret
  obtain ⟨s, hs⟩ : ∃ s, s = w.heap.size := ⟨_, rfl⟩
  rw [← hs]
  have k2 := ((((blk_at ((w.alloc (.cells #[.string ⟨#[120]⟩, .int .i64 1] 32)).alloc (.cells #[.string ⟨#[121]⟩, .int .i64 2] 32)) (s + 2) 32 #[.string ⟨#[120]⟩, .int .i64 1, .string ⟨#[121]⟩, .int .i64 2] (by simp [hs])).alloc (.cells #[.string ⟨#[122]⟩] 9)).alloc (.cells #[.string ⟨#[120]⟩, .int .i64 1] 32)).alloc (.cells #[.string ⟨#[121]⟩, .int .i64 2] 32)).alloc (.cells #[.string ⟨#[117]⟩] 9)
  have k3 := (((blk_at (((w.alloc (.cells #[.string ⟨#[120]⟩, .int .i64 1] 32)).alloc (.cells #[.string ⟨#[121]⟩, .int .i64 2] 32)).alloc (.cells #[.string ⟨#[120]⟩, .int .i64 1, .string ⟨#[121]⟩, .int .i64 2] 32)) (s + 3) 9 #[.string ⟨#[122]⟩] (by simp [hs])).alloc (.cells #[.string ⟨#[120]⟩, .int .i64 1] 32)).alloc (.cells #[.string ⟨#[121]⟩, .int .i64 2] 32)).alloc (.cells #[.string ⟨#[117]⟩] 9)
  have k4 := ((blk_at ((((w.alloc (.cells #[.string ⟨#[120]⟩, .int .i64 1] 32)).alloc (.cells #[.string ⟨#[121]⟩, .int .i64 2] 32)).alloc (.cells #[.string ⟨#[120]⟩, .int .i64 1, .string ⟨#[121]⟩, .int .i64 2] 32)).alloc (.cells #[.string ⟨#[122]⟩] 9)) (s + 4) 32 #[.string ⟨#[120]⟩, .int .i64 1] (by simp [hs])).alloc (.cells #[.string ⟨#[121]⟩, .int .i64 2] 32)).alloc (.cells #[.string ⟨#[117]⟩] 9)
  have k5 := (blk_at (((((w.alloc (.cells #[.string ⟨#[120]⟩, .int .i64 1] 32)).alloc (.cells #[.string ⟨#[121]⟩, .int .i64 2] 32)).alloc (.cells #[.string ⟨#[120]⟩, .int .i64 1, .string ⟨#[121]⟩, .int .i64 2] 32)).alloc (.cells #[.string ⟨#[122]⟩] 9)).alloc (.cells #[.string ⟨#[120]⟩, .int .i64 1] 32)) (s + 5) 32 #[.string ⟨#[121]⟩, .int .i64 2] (by simp [hs])).alloc (.cells #[.string ⟨#[117]⟩] 9)
  have k6 := blk_at ((((((w.alloc (.cells #[.string ⟨#[120]⟩, .int .i64 1] 32)).alloc (.cells #[.string ⟨#[121]⟩, .int .i64 2] 32)).alloc (.cells #[.string ⟨#[120]⟩, .int .i64 1, .string ⟨#[121]⟩, .int .i64 2] 32)).alloc (.cells #[.string ⟨#[122]⟩] 9)).alloc (.cells #[.string ⟨#[120]⟩, .int .i64 1] 32)).alloc (.cells #[.string ⟨#[121]⟩, .int .i64 2] 32)) (s + 6) 9 #[.string ⟨#[117]⟩] (by simp [hs])
  have hB : Below w.heap.size w (((((((w.alloc (.cells #[.string ⟨#[120]⟩, .int .i64 1] 32)).alloc (.cells #[.string ⟨#[121]⟩, .int .i64 2] 32)).alloc (.cells #[.string ⟨#[120]⟩, .int .i64 1, .string ⟨#[121]⟩, .int .i64 2] 32)).alloc (.cells #[.string ⟨#[122]⟩] 9)).alloc (.cells #[.string ⟨#[120]⟩, .int .i64 1] 32)).alloc (.cells #[.string ⟨#[121]⟩, .int .i64 2] 32)).alloc (.cells #[.string ⟨#[117]⟩] 9)) :=
    ((((((((Below.refl _ w).alloc (Nat.le_refl _) _).alloc (by simp) _).alloc (by simp; omega) _).alloc (by simp; omega) _).alloc (by simp; omega) _).alloc (by simp; omega) _).alloc (by simp; omega) _)
  have hz : (((((((w.alloc (.cells #[.string ⟨#[120]⟩, .int .i64 1] 32)).alloc (.cells #[.string ⟨#[121]⟩, .int .i64 2] 32)).alloc (.cells #[.string ⟨#[120]⟩, .int .i64 1, .string ⟨#[121]⟩, .int .i64 2] 32)).alloc (.cells #[.string ⟨#[122]⟩] 9)).alloc (.cells #[.string ⟨#[120]⟩, .int .i64 1] 32)).alloc (.cells #[.string ⟨#[121]⟩, .int .i64 2] 32)).alloc (.cells #[.string ⟨#[117]⟩] 9)).heap.size = s + 7 := by simp [hs]
  generalize (((((((w.alloc (.cells #[.string ⟨#[120]⟩, .int .i64 1] 32)).alloc (.cells #[.string ⟨#[121]⟩, .int .i64 2] 32)).alloc (.cells #[.string ⟨#[120]⟩, .int .i64 1, .string ⟨#[121]⟩, .int .i64 2] 32)).alloc (.cells #[.string ⟨#[122]⟩] 9)).alloc (.cells #[.string ⟨#[120]⟩, .int .i64 1] 32)).alloc (.cells #[.string ⟨#[121]⟩, .int .i64 2] 32)).alloc (.cells #[.string ⟨#[117]⟩] 9)) = W at *
  have k7 := blk_at W (s + 7) 29 #[.string ⟨#[117]⟩, .slice (some ⟨s + 2, 0, none⟩) 2 2, .slice (some ⟨s + 3, 0, none⟩) 1 1, .string ⟨#[122]⟩, .slice (some ⟨s + 4, 0, none⟩) 1 1, .slice none 0 0, .string ⟨#[119]⟩, .slice (some ⟨s + 5, 0, none⟩) 1 1, .slice (some ⟨s + 6, 0, none⟩) 1 1] hz
  replace k2 := k2.alloc (.cells #[.string ⟨#[117]⟩, .slice (some ⟨s + 2, 0, none⟩) 2 2, .slice (some ⟨s + 3, 0, none⟩) 1 1, .string ⟨#[122]⟩, .slice (some ⟨s + 4, 0, none⟩) 1 1, .slice none 0 0, .string ⟨#[119]⟩, .slice (some ⟨s + 5, 0, none⟩) 1 1, .slice (some ⟨s + 6, 0, none⟩) 1 1] 29)
  replace k3 := k3.alloc (.cells #[.string ⟨#[117]⟩, .slice (some ⟨s + 2, 0, none⟩) 2 2, .slice (some ⟨s + 3, 0, none⟩) 1 1, .string ⟨#[122]⟩, .slice (some ⟨s + 4, 0, none⟩) 1 1, .slice none 0 0, .string ⟨#[119]⟩, .slice (some ⟨s + 5, 0, none⟩) 1 1, .slice (some ⟨s + 6, 0, none⟩) 1 1] 29)
  replace k4 := k4.alloc (.cells #[.string ⟨#[117]⟩, .slice (some ⟨s + 2, 0, none⟩) 2 2, .slice (some ⟨s + 3, 0, none⟩) 1 1, .string ⟨#[122]⟩, .slice (some ⟨s + 4, 0, none⟩) 1 1, .slice none 0 0, .string ⟨#[119]⟩, .slice (some ⟨s + 5, 0, none⟩) 1 1, .slice (some ⟨s + 6, 0, none⟩) 1 1] 29)
  replace k5 := k5.alloc (.cells #[.string ⟨#[117]⟩, .slice (some ⟨s + 2, 0, none⟩) 2 2, .slice (some ⟨s + 3, 0, none⟩) 1 1, .string ⟨#[122]⟩, .slice (some ⟨s + 4, 0, none⟩) 1 1, .slice none 0 0, .string ⟨#[119]⟩, .slice (some ⟨s + 5, 0, none⟩) 1 1, .slice (some ⟨s + 6, 0, none⟩) 1 1] 29)
  replace k6 := k6.alloc (.cells #[.string ⟨#[117]⟩, .slice (some ⟨s + 2, 0, none⟩) 2 2, .slice (some ⟨s + 3, 0, none⟩) 1 1, .string ⟨#[122]⟩, .slice (some ⟨s + 4, 0, none⟩) 1 1, .slice none 0 0, .string ⟨#[119]⟩, .slice (some ⟨s + 5, 0, none⟩) 1 1, .slice (some ⟨s + 6, 0, none⟩) 1 1] 29)
  rw [← hs] at hB
  have hB8 := hB.alloc (by omega) (.cells #[.string ⟨#[117]⟩, .slice (some ⟨s + 2, 0, none⟩) 2 2, .slice (some ⟨s + 3, 0, none⟩) 1 1, .string ⟨#[122]⟩, .slice (some ⟨s + 4, 0, none⟩) 1 1, .slice none 0 0, .string ⟨#[119]⟩, .slice (some ⟨s + 5, 0, none⟩) 1 1, .slice (some ⟨s + 6, 0, none⟩) 1 1] 29)
  have hlt := k7.lt
  have m1 : 1 ≤ maxLen := by simp [maxLen]
  have m2 : 2 ≤ maxLen := by simp [maxLen]
  refine ⟨rfl, fun _ => ⟨s + 7, 0, rfl, hlt, fun i hi => ?_⟩, hB8⟩
  have hi3 : i = 0 ∨ i = 1 ∨ i = 2 := by simp [exV] at hi; omega
  rcases hi3 with rfl | rfl | rfl
  · refine ⟨k7.cell 0, k7.cell 1, k7.cell 2, rfl, Nat.le_refl _, m2, fun _ => ⟨s + 2, 0, rfl, k2.lt, fun j hj => ?_⟩, rfl, Nat.le_refl _, m1, fun _ => ⟨s + 3, 0, rfl, k3.lt, fun j hj => ?_⟩⟩
    · have : j = 0 ∨ j = 1 := by have : j < 2 := hj; omega
      rcases this with rfl | rfl
      · exact ⟨k2.cell 0, k2.cell 1⟩
      · exact ⟨k2.cell 2, k2.cell 3⟩
    · have : j = 0 := by have : j < 1 := hj; omega
      subst this
      exact k3.cell 0
  · refine ⟨k7.cell 3, k7.cell 4, k7.cell 5, rfl, Nat.le_refl _, m1, fun _ => ⟨s + 4, 0, rfl, k4.lt, fun j hj => ?_⟩, rfl, Nat.le_refl _, Nat.zero_le _, fun h => absurd h (by simp [exV])⟩
    have : j = 0 := by have : j < 1 := hj; omega
    subst this
    exact ⟨k4.cell 0, k4.cell 1⟩
  · refine ⟨k7.cell 6, k7.cell 7, k7.cell 8, rfl, Nat.le_refl _, m1, fun _ => ⟨s + 5, 0, rfl, k5.lt, fun j hj => ?_⟩, rfl, Nat.le_refl _, m1, fun _ => ⟨s + 6, 0, rfl, k6.lt, fun j hj => ?_⟩⟩
    · have : j = 0 := by have : j < 1 := hj; omega
      subst this
      exact ⟨k5.cell 0, k5.cell 1⟩
    · have : j = 0 := by have : j < 1 := hj; omega
      subst this
      exact k6.cell 0
end Go.Proofs.YtknojjlfgjkbiaaGreatDoor
/- Large. -/
namespace Go.Proofs.YtknojjlfgjkbiaaGreatDoor
open Go.ChangeShapes Go.WideShapes Go.ChangeAt Go.RowKit
attribute [local go_sem] Oper.semAt_some

def bigC (c : Cs) : Bool := decide (20 < c.needs.length) || decide (20 < c.excl.length)
def largeV (l : List Cs) (n : Nat) : Bool := (decide (60 < l.length) || decide (60 < n)) || l.any bigC
set_option maxRecDepth 100000 in
theorem Large_c (L : List CsV) (A : Option Addr) (c : Nat) (A1 : Option Addr) (n c1 : Nat) (w : World) (h : RdCs w w.heap.size A L) (hl : L.length ≤ 2199023255552) (hn : n ≤ 10000000000000) :
    Calls Tryz.prog 4 #[.slice A L.length c, .slice A1 n c1] w fun e w' => e = .returned (.bool (largeV (csOf L) n)) ∧ w = w' := by
  have H := Lib.hid h
  clear h
  have hcl : (csOf L).length = L.length := by simp
  by_cases h1 : 60 < L.length
  · have hr : Hid (largeV (csOf L) n = true) := by show largeV (csOf L) n = true; unfold largeV; rw [hcl, decide_eq_true h1]; rfl
    have h1' : decide (60 < L.length) = true := decide_eq_true h1
    clear hcl
    go_enter Tryz.func4, Tryz.ntmps4
    go_wp2
    go_ret
    exact ⟨ret_bool hr.out.symm, rfl⟩
  · by_cases h2 : 60 < n
    · have hr : Hid (largeV (csOf L) n = true) := by show largeV (csOf L) n = true; unfold largeV; rw [decide_eq_true h2, Bool.or_true]; rfl
      clear hcl
      go_enter Tryz.func4, Tryz.ntmps4
      go_wp2
      go_ret
      exact ⟨ret_bool hr.out.symm, rfl⟩
    · have hr : Hid (largeV (csOf L) n = (csOf L).any bigC) := by show largeV (csOf L) n = _; unfold largeV; rw [hcl, decide_eq_false h1, decide_eq_false h2]; rfl
      clear hcl
      go_enter Tryz.func4, Tryz.ntmps4
      go_wp2
      go_loopw [5] (fun t wr => ∃ k : Nat, k ≤ L.length ∧ t = .int .i64 k ∧ wr = w ∧ Hid ((csOf (L.take k)).any bigC = false)) (fun t wr => L.length - (intOf t).toNat)
      case atStart => exact ⟨0, Nat.zero_le _, rfl, rfl, rfl⟩
      case round =>
        obtain ⟨k, hk, rfl, rfl, hall⟩ := hrel
        by_cases hlt : k < L.length
        · obtain ⟨bo, oo, rfl, hb, hc⟩ := H.out (by omega)
          obtain ⟨d0, d1, d2, hx⟩ := hc k hlt
          have hnl := hx.nl
          have hxl := hx.xl
          have htk : csOf (L.take (k + 1)) = csOf (L.take k) ++ [L[k].c] := by unfold csOf; rw [List.take_succ_eq_append_getElem hlt, List.map_append]; rfl
          have hm : bigC L[k].c = true → (csOf L).any bigC = true := fun hq => List.any_eq_true.2 ⟨_, List.mem_map_of_mem (List.getElem_mem hlt), hq⟩
          have hnx : bigC L[k].c = false → (csOf (L.take (k + 1))).any bigC = false := fun hq => by rw [htk, List.any_append, hall.out]; simp [hq]
          have Hm := Lib.hid hm
          have Hnx := Lib.hid hnx
          have hbg : bigC L[k].c = (decide (20 < L[k].n.n) || decide (20 < L[k].x.n)) := by unfold bigC; rw [hnl, hxl]
          have Hbg := Lib.hid hbg
          clear hc hx hnl hxl htk hm hnx hbg hall
          generalize L[k] = x at *
          by_cases q1 : 20 < x.n.n
          · have hf := Lib.hid (Hm.out (by rw [Hbg.out, decide_eq_true q1]; rfl))
            clear Hm Hnx Hbg
            go_wp2
            go_ret
            exact ⟨ret_bool (hr.out.trans hf.out).symm, rfl⟩
          · by_cases q2 : 20 < x.x.n
            · have hf := Lib.hid (Hm.out (by rw [Hbg.out, decide_eq_true q2, Bool.or_true]))
              clear Hm Hnx Hbg
              go_wp2
              go_ret
              exact ⟨ret_bool (hr.out.trans hf.out).symm, rfl⟩
            · have hf := Lib.hid (Hnx.out (by rw [Hbg.out, decide_eq_false q1, decide_eq_false q2]; rfl))
              clear Hm Hnx Hbg
              go_wp2
              go_roundw
              case rel => exact ⟨k + 1, by omega, by go_num, trivial, hf⟩
              case measure => simp [intOf]; omega
        · obtain rfl : k = L.length := by omega
          rw [List.take_length] at hall
          go_wp2
          go_ret
          exact ⟨ret_bool (hr.out.trans hall.out).symm, rfl⟩
end Go.Proofs.YtknojjlfgjkbiaaGreatDoor
/- 'all', ContainsFunc, IndexFunc over empty lists. -/
namespace Go.Proofs.YtknojjlfgjkbiaaGreatDoor
open Go.ChangeShapes Go.WideShapes Go.ChangeAt Go.RowKit
attribute [local go_sem] Oper.semAt_some

theorem idx0_70 (A : Option Addr) (c : Nat) (g : Fn) (p q : Array Value) (w : World) : Calls Tryz.prog 92 #[.slice A 0 c, .func g p q] w fun e w' => e = .returned (.int .i64 (-1)) ∧ w = w' := by
  go_enter Tryz.func92, Tryz.ntmps92
  go_wp2
  go_loopw [8] (fun t wr => t = .int .i64 0 ∧ wr = w) (fun t wr => 0)
  case atStart => exact ⟨rfl, rfl⟩
  case round =>
    obtain ⟨rfl, rfl⟩ := hrel
    go_wp2
    go_ret
    exact ⟨rfl, rfl⟩

theorem idx0_71 (A : Option Addr) (c : Nat) (g : Fn) (p q : Array Value) (w : World) : Calls Tryz.prog 93 #[.slice A 0 c, .func g p q] w fun e w' => e = .returned (.int .i64 (-1)) ∧ w = w' := by
  go_enter Tryz.func93, Tryz.ntmps93
  go_wp2
  go_loopw [8] (fun t wr => t = .int .i64 0 ∧ wr = w) (fun t wr => 0)
  case atStart => exact ⟨rfl, rfl⟩
  case round =>
    obtain ⟨rfl, rfl⟩ := hrel
    go_wp2
    go_ret
    exact ⟨rfl, rfl⟩

theorem idx0_187 (A : Option Addr) (c : Nat) (g : Fn) (p q : Array Value) (w : World) : Calls Tryz.prog 209 #[.slice A 0 c, .func g p q] w fun e w' => e = .returned (.int .i64 (-1)) ∧ w = w' := by
  go_enter Tryz.func209, Tryz.ntmps209
  go_wp2
  go_loopw [8] (fun t wr => t = .int .i64 0 ∧ wr = w) (fun t wr => 0)
  case atStart => exact ⟨rfl, rfl⟩
  case round =>
    obtain ⟨rfl, rfl⟩ := hrel
    go_wp2
    go_ret
    exact ⟨rfl, rfl⟩

theorem idx0_205 (A : Option Addr) (c : Nat) (g : Fn) (p q : Array Value) (w : World) : Calls Tryz.prog 227 #[.slice A 0 c, .func g p q] w fun e w' => e = .returned (.int .i64 (-1)) ∧ w = w' := by
  go_enter Tryz.func227, Tryz.ntmps227
  go_wp2
  go_loopw [8] (fun t wr => t = .int .i64 0 ∧ wr = w) (fun t wr => 0)
  case atStart => exact ⟨rfl, rfl⟩
  case round =>
    obtain ⟨rfl, rfl⟩ := hrel
    go_wp2
    go_ret
    exact ⟨rfl, rfl⟩

theorem idx0_211 (A : Option Addr) (c : Nat) (g : Fn) (p q : Array Value) (w : World) : Calls Tryz.prog 233 #[.slice A 0 c, .func g p q] w fun e w' => e = .returned (.int .i64 (-1)) ∧ w = w' := by
  go_enter Tryz.func233, Tryz.ntmps233
  go_wp2
  go_loopw [8] (fun t wr => t = .int .i64 0 ∧ wr = w) (fun t wr => 0)
  case atStart => exact ⟨rfl, rfl⟩
  case round =>
    obtain ⟨rfl, rfl⟩ := hrel
    go_wp2
    go_ret
    exact ⟨rfl, rfl⟩

theorem idx0_254 (A : Option Addr) (c : Nat) (g : Fn) (p q : Array Value) (w : World) : Calls Tryz.prog 276 #[.slice A 0 c, .func g p q] w fun e w' => e = .returned (.int .i64 (-1)) ∧ w = w' := by
  go_enter Tryz.func276, Tryz.ntmps276
  go_wp2
  go_loopw [8] (fun t wr => t = .int .i64 0 ∧ wr = w) (fun t wr => 0)
  case atStart => exact ⟨rfl, rfl⟩
  case round =>
    obtain ⟨rfl, rfl⟩ := hrel
    go_wp2
    go_ret
    exact ⟨rfl, rfl⟩

theorem idx0_255 (A : Option Addr) (c : Nat) (g : Fn) (p q : Array Value) (w : World) : Calls Tryz.prog 277 #[.slice A 0 c, .func g p q] w fun e w' => e = .returned (.int .i64 (-1)) ∧ w = w' := by
  go_enter Tryz.func277, Tryz.ntmps277
  go_wp2
  go_loopw [8] (fun t wr => t = .int .i64 0 ∧ wr = w) (fun t wr => 0)
  case atStart => exact ⟨rfl, rfl⟩
  case round =>
    obtain ⟨rfl, rfl⟩ := hrel
    go_wp2
    go_ret
    exact ⟨rfl, rfl⟩

theorem idx0_256 (A : Option Addr) (c : Nat) (g : Fn) (p q : Array Value) (w : World) : Calls Tryz.prog 278 #[.slice A 0 c, .func g p q] w fun e w' => e = .returned (.int .i64 (-1)) ∧ w = w' := by
  go_enter Tryz.func278, Tryz.ntmps278
  go_wp2
  go_loopw [8] (fun t wr => t = .int .i64 0 ∧ wr = w) (fun t wr => 0)
  case atStart => exact ⟨rfl, rfl⟩
  case round =>
    obtain ⟨rfl, rfl⟩ := hrel
    go_wp2
    go_ret
    exact ⟨rfl, rfl⟩

theorem idx0_257 (A : Option Addr) (c : Nat) (g : Fn) (p q : Array Value) (w : World) : Calls Tryz.prog 279 #[.slice A 0 c, .func g p q] w fun e w' => e = .returned (.int .i64 (-1)) ∧ w = w' := by
  go_enter Tryz.func279, Tryz.ntmps279
  go_wp2
  go_loopw [8] (fun t wr => t = .int .i64 0 ∧ wr = w) (fun t wr => 0)
  case atStart => exact ⟨rfl, rfl⟩
  case round =>
    obtain ⟨rfl, rfl⟩ := hrel
    go_wp2
    go_ret
    exact ⟨rfl, rfl⟩

theorem idx0_258 (A : Option Addr) (c : Nat) (g : Fn) (p q : Array Value) (w : World) : Calls Tryz.prog 280 #[.slice A 0 c, .func g p q] w fun e w' => e = .returned (.int .i64 (-1)) ∧ w = w' := by
  go_enter Tryz.func280, Tryz.ntmps280
  go_wp2
  go_loopw [8] (fun t wr => t = .int .i64 0 ∧ wr = w) (fun t wr => 0)
  case atStart => exact ⟨rfl, rfl⟩
  case round =>
    obtain ⟨rfl, rfl⟩ := hrel
    go_wp2
    go_ret
    exact ⟨rfl, rfl⟩

theorem idx0_259 (A : Option Addr) (c : Nat) (g : Fn) (p q : Array Value) (w : World) : Calls Tryz.prog 281 #[.slice A 0 c, .func g p q] w fun e w' => e = .returned (.int .i64 (-1)) ∧ w = w' := by
  go_enter Tryz.func281, Tryz.ntmps281
  go_wp2
  go_loopw [8] (fun t wr => t = .int .i64 0 ∧ wr = w) (fun t wr => 0)
  case atStart => exact ⟨rfl, rfl⟩
  case round =>
    obtain ⟨rfl, rfl⟩ := hrel
    go_wp2
    go_ret
    exact ⟨rfl, rfl⟩

theorem idx0_268 (A : Option Addr) (c : Nat) (g : Fn) (p q : Array Value) (w : World) : Calls Tryz.prog 290 #[.slice A 0 c, .func g p q] w fun e w' => e = .returned (.int .i64 (-1)) ∧ w = w' := by
  go_enter Tryz.func290, Tryz.ntmps290
  go_wp2
  go_loopw [8] (fun t wr => t = .int .i64 0 ∧ wr = w) (fun t wr => 0)
  case atStart => exact ⟨rfl, rfl⟩
  case round =>
    obtain ⟨rfl, rfl⟩ := hrel
    go_wp2
    go_ret
    exact ⟨rfl, rfl⟩

theorem idx0_269 (A : Option Addr) (c : Nat) (g : Fn) (p q : Array Value) (w : World) : Calls Tryz.prog 291 #[.slice A 0 c, .func g p q] w fun e w' => e = .returned (.int .i64 (-1)) ∧ w = w' := by
  go_enter Tryz.func291, Tryz.ntmps291
  go_wp2
  go_loopw [8] (fun t wr => t = .int .i64 0 ∧ wr = w) (fun t wr => 0)
  case atStart => exact ⟨rfl, rfl⟩
  case round =>
    obtain ⟨rfl, rfl⟩ := hrel
    go_wp2
    go_ret
    exact ⟨rfl, rfl⟩

theorem idx0_270 (A : Option Addr) (c : Nat) (g : Fn) (p q : Array Value) (w : World) : Calls Tryz.prog 292 #[.slice A 0 c, .func g p q] w fun e w' => e = .returned (.int .i64 (-1)) ∧ w = w' := by
  go_enter Tryz.func292, Tryz.ntmps292
  go_wp2
  go_loopw [8] (fun t wr => t = .int .i64 0 ∧ wr = w) (fun t wr => 0)
  case atStart => exact ⟨rfl, rfl⟩
  case round =>
    obtain ⟨rfl, rfl⟩ := hrel
    go_wp2
    go_ret
    exact ⟨rfl, rfl⟩

theorem idx0_288 (A : Option Addr) (c : Nat) (g : Fn) (p q : Array Value) (w : World) : Calls Tryz.prog 310 #[.slice A 0 c, .func g p q] w fun e w' => e = .returned (.int .i64 (-1)) ∧ w = w' := by
  go_enter Tryz.func310, Tryz.ntmps310
  go_wp2
  go_loopw [8] (fun t wr => t = .int .i64 0 ∧ wr = w) (fun t wr => 0)
  case atStart => exact ⟨rfl, rfl⟩
  case round =>
    obtain ⟨rfl, rfl⟩ := hrel
    go_wp2
    go_ret
    exact ⟨rfl, rfl⟩

theorem idx0_328 (A : Option Addr) (c : Nat) (g : Fn) (p q : Array Value) (w : World) : Calls Tryz.prog 350 #[.slice A 0 c, .func g p q] w fun e w' => e = .returned (.int .i64 (-1)) ∧ w = w' := by
  go_enter Tryz.func350, Tryz.ntmps350
  go_wp2
  go_loopw [8] (fun t wr => t = .int .i64 0 ∧ wr = w) (fun t wr => 0)
  case atStart => exact ⟨rfl, rfl⟩
  case round =>
    obtain ⟨rfl, rfl⟩ := hrel
    go_wp2
    go_ret
    exact ⟨rfl, rfl⟩

theorem con0_47 (A : Option Addr) (c : Nat) (g : Fn) (p q : Array Value) (w : World) : Calls Tryz.prog 63 #[.slice A 0 c, .func g p q] w fun e w' => e = .returned (.bool false) ∧ w = w' := by
  go_enter Tryz.func63, Tryz.ntmps63
  go_wp2_with (go_at_call 92; refine (idx0_70 _ _ _ _ _ _).mono ?_; rintro e w' ⟨rfl, rfl⟩)
  go_ret
  exact ⟨rfl, rfl⟩

theorem con0_48 (A : Option Addr) (c : Nat) (g : Fn) (p q : Array Value) (w : World) : Calls Tryz.prog 64 #[.slice A 0 c, .func g p q] w fun e w' => e = .returned (.bool false) ∧ w = w' := by
  go_enter Tryz.func64, Tryz.ntmps64
  go_wp2_with (go_at_call 93; refine (idx0_71 _ _ _ _ _ _).mono ?_; rintro e w' ⟨rfl, rfl⟩)
  go_ret
  exact ⟨rfl, rfl⟩

theorem con0_126 (A : Option Addr) (c : Nat) (g : Fn) (p q : Array Value) (w : World) : Calls Tryz.prog 148 #[.slice A 0 c, .func g p q] w fun e w' => e = .returned (.bool false) ∧ w = w' := by
  go_enter Tryz.func148, Tryz.ntmps148
  go_wp2_with (go_at_call 233; refine (idx0_211 _ _ _ _ _ _).mono ?_; rintro e w' ⟨rfl, rfl⟩)
  go_ret
  exact ⟨rfl, rfl⟩

theorem con0_166 (A : Option Addr) (c : Nat) (g : Fn) (p q : Array Value) (w : World) : Calls Tryz.prog 188 #[.slice A 0 c, .func g p q] w fun e w' => e = .returned (.bool false) ∧ w = w' := by
  go_enter Tryz.func188, Tryz.ntmps188
  go_wp2_with (go_at_call 276; refine (idx0_254 _ _ _ _ _ _).mono ?_; rintro e w' ⟨rfl, rfl⟩)
  go_ret
  exact ⟨rfl, rfl⟩

theorem con0_168 (A : Option Addr) (c : Nat) (g : Fn) (p q : Array Value) (w : World) : Calls Tryz.prog 190 #[.slice A 0 c, .func g p q] w fun e w' => e = .returned (.bool false) ∧ w = w' := by
  go_enter Tryz.func190, Tryz.ntmps190
  go_wp2_with (go_at_call 277; refine (idx0_255 _ _ _ _ _ _).mono ?_; rintro e w' ⟨rfl, rfl⟩)
  go_ret
  exact ⟨rfl, rfl⟩

theorem con0_170 (A : Option Addr) (c : Nat) (g : Fn) (p q : Array Value) (w : World) : Calls Tryz.prog 192 #[.slice A 0 c, .func g p q] w fun e w' => e = .returned (.bool false) ∧ w = w' := by
  go_enter Tryz.func192, Tryz.ntmps192
  go_wp2_with (go_at_call 278; refine (idx0_256 _ _ _ _ _ _).mono ?_; rintro e w' ⟨rfl, rfl⟩)
  go_ret
  exact ⟨rfl, rfl⟩

theorem con0_172 (A : Option Addr) (c : Nat) (g : Fn) (p q : Array Value) (w : World) : Calls Tryz.prog 194 #[.slice A 0 c, .func g p q] w fun e w' => e = .returned (.bool false) ∧ w = w' := by
  go_enter Tryz.func194, Tryz.ntmps194
  go_wp2_with (go_at_call 279; refine (idx0_257 _ _ _ _ _ _).mono ?_; rintro e w' ⟨rfl, rfl⟩)
  go_ret
  exact ⟨rfl, rfl⟩

theorem con0_176 (A : Option Addr) (c : Nat) (g : Fn) (p q : Array Value) (w : World) : Calls Tryz.prog 198 #[.slice A 0 c, .func g p q] w fun e w' => e = .returned (.bool false) ∧ w = w' := by
  go_enter Tryz.func198, Tryz.ntmps198
  go_wp2_with (go_at_call 227; refine (idx0_205 _ _ _ _ _ _).mono ?_; rintro e w' ⟨rfl, rfl⟩)
  go_ret
  exact ⟨rfl, rfl⟩

theorem con0_178 (A : Option Addr) (c : Nat) (g : Fn) (p q : Array Value) (w : World) : Calls Tryz.prog 200 #[.slice A 0 c, .func g p q] w fun e w' => e = .returned (.bool false) ∧ w = w' := by
  go_enter Tryz.func200, Tryz.ntmps200
  go_wp2_with (go_at_call 209; refine (idx0_187 _ _ _ _ _ _).mono ?_; rintro e w' ⟨rfl, rfl⟩)
  go_ret
  exact ⟨rfl, rfl⟩

theorem con0_180 (A : Option Addr) (c : Nat) (g : Fn) (p q : Array Value) (w : World) : Calls Tryz.prog 202 #[.slice A 0 c, .func g p q] w fun e w' => e = .returned (.bool false) ∧ w = w' := by
  go_enter Tryz.func202, Tryz.ntmps202
  go_wp2_with (go_at_call 280; refine (idx0_258 _ _ _ _ _ _).mono ?_; rintro e w' ⟨rfl, rfl⟩)
  go_ret
  exact ⟨rfl, rfl⟩

theorem con0_192 (A : Option Addr) (c : Nat) (g : Fn) (p q : Array Value) (w : World) : Calls Tryz.prog 214 #[.slice A 0 c, .func g p q] w fun e w' => e = .returned (.bool false) ∧ w = w' := by
  go_enter Tryz.func214, Tryz.ntmps214
  go_wp2_with (go_at_call 281; refine (idx0_259 _ _ _ _ _ _).mono ?_; rintro e w' ⟨rfl, rfl⟩)
  go_ret
  exact ⟨rfl, rfl⟩

theorem con0_203 (A : Option Addr) (c : Nat) (g : Fn) (p q : Array Value) (w : World) : Calls Tryz.prog 225 #[.slice A 0 c, .func g p q] w fun e w' => e = .returned (.bool false) ∧ w = w' := by
  go_enter Tryz.func225, Tryz.ntmps225
  go_wp2_with (go_at_call 290; refine (idx0_268 _ _ _ _ _ _).mono ?_; rintro e w' ⟨rfl, rfl⟩)
  go_ret
  exact ⟨rfl, rfl⟩

theorem con0_207 (A : Option Addr) (c : Nat) (g : Fn) (p q : Array Value) (w : World) : Calls Tryz.prog 229 #[.slice A 0 c, .func g p q] w fun e w' => e = .returned (.bool false) ∧ w = w' := by
  go_enter Tryz.func229, Tryz.ntmps229
  go_wp2_with (go_at_call 291; refine (idx0_269 _ _ _ _ _ _).mono ?_; rintro e w' ⟨rfl, rfl⟩)
  go_ret
  exact ⟨rfl, rfl⟩

theorem con0_209 (A : Option Addr) (c : Nat) (g : Fn) (p q : Array Value) (w : World) : Calls Tryz.prog 231 #[.slice A 0 c, .func g p q] w fun e w' => e = .returned (.bool false) ∧ w = w' := by
  go_enter Tryz.func231, Tryz.ntmps231
  go_wp2_with (go_at_call 292; refine (idx0_270 _ _ _ _ _ _).mono ?_; rintro e w' ⟨rfl, rfl⟩)
  go_ret
  exact ⟨rfl, rfl⟩

theorem con0_238 (A : Option Addr) (c : Nat) (g : Fn) (p q : Array Value) (w : World) : Calls Tryz.prog 260 #[.slice A 0 c, .func g p q] w fun e w' => e = .returned (.bool false) ∧ w = w' := by
  go_enter Tryz.func260, Tryz.ntmps260
  go_wp2_with (go_at_call 310; refine (idx0_288 _ _ _ _ _ _).mono ?_; rintro e w' ⟨rfl, rfl⟩)
  go_ret
  exact ⟨rfl, rfl⟩

theorem con0_313 (A : Option Addr) (c : Nat) (g : Fn) (p q : Array Value) (w : World) : Calls Tryz.prog 335 #[.slice A 0 c, .func g p q] w fun e w' => e = .returned (.bool false) ∧ w = w' := by
  go_enter Tryz.func335, Tryz.ntmps335
  go_wp2_with (go_at_call 350; refine (idx0_328 _ _ _ _ _ _).mono ?_; rintro e w' ⟨rfl, rfl⟩)
  go_ret
  exact ⟨rfl, rfl⟩

theorem all0_82 (A : Option Addr) (c : Nat) (g : Fn) (p q : Array Value) (w : World) : Calls Tryz.prog 104 #[.slice A 0 c, .func g p q] w fun e w' => e = .returned (.bool true) ∧ Below w.heap.size w w' := by
  go_enter Tryz.func104, Tryz.ntmps104
  go_wp2_with (go_at_call 190; refine (con0_168 _ _ _ _ _ _).mono ?_; rintro e w' ⟨rfl, rfl⟩)
  go_ret
  exact ⟨rfl, (Below.refl _ _).alloc (Nat.le_refl _) _⟩

theorem all0_83 (A : Option Addr) (c : Nat) (g : Fn) (p q : Array Value) (w : World) : Calls Tryz.prog 105 #[.slice A 0 c, .func g p q] w fun e w' => e = .returned (.bool true) ∧ Below w.heap.size w w' := by
  go_enter Tryz.func105, Tryz.ntmps105
  go_wp2_with (go_at_call 192; refine (con0_170 _ _ _ _ _ _).mono ?_; rintro e w' ⟨rfl, rfl⟩)
  go_ret
  exact ⟨rfl, (Below.refl _ _).alloc (Nat.le_refl _) _⟩

theorem all0_85 (A : Option Addr) (c : Nat) (g : Fn) (p q : Array Value) (w : World) : Calls Tryz.prog 107 #[.slice A 0 c, .func g p q] w fun e w' => e = .returned (.bool true) ∧ Below w.heap.size w w' := by
  go_enter Tryz.func107, Tryz.ntmps107
  go_wp2_with (go_at_call 194; refine (con0_172 _ _ _ _ _ _).mono ?_; rintro e w' ⟨rfl, rfl⟩)
  go_ret
  exact ⟨rfl, (Below.refl _ _).alloc (Nat.le_refl _) _⟩

theorem all0_90 (A : Option Addr) (c : Nat) (g : Fn) (p q : Array Value) (w : World) : Calls Tryz.prog 112 #[.slice A 0 c, .func g p q] w fun e w' => e = .returned (.bool true) ∧ Below w.heap.size w w' := by
  go_enter Tryz.func112, Tryz.ntmps112
  go_wp2_with (go_at_call 63; refine (con0_47 _ _ _ _ _ _).mono ?_; rintro e w' ⟨rfl, rfl⟩)
  go_ret
  exact ⟨rfl, (Below.refl _ _).alloc (Nat.le_refl _) _⟩

theorem all0_92 (A : Option Addr) (c : Nat) (g : Fn) (p q : Array Value) (w : World) : Calls Tryz.prog 114 #[.slice A 0 c, .func g p q] w fun e w' => e = .returned (.bool true) ∧ Below w.heap.size w w' := by
  go_enter Tryz.func114, Tryz.ntmps114
  go_wp2_with (go_at_call 198; refine (con0_176 _ _ _ _ _ _).mono ?_; rintro e w' ⟨rfl, rfl⟩)
  go_ret
  exact ⟨rfl, (Below.refl _ _).alloc (Nat.le_refl _) _⟩

theorem all0_93 (A : Option Addr) (c : Nat) (g : Fn) (p q : Array Value) (w : World) : Calls Tryz.prog 115 #[.slice A 0 c, .func g p q] w fun e w' => e = .returned (.bool true) ∧ Below w.heap.size w w' := by
  go_enter Tryz.func115, Tryz.ntmps115
  go_wp2_with (go_at_call 200; refine (con0_178 _ _ _ _ _ _).mono ?_; rintro e w' ⟨rfl, rfl⟩)
  go_ret
  exact ⟨rfl, (Below.refl _ _).alloc (Nat.le_refl _) _⟩

theorem all0_94 (A : Option Addr) (c : Nat) (g : Fn) (p q : Array Value) (w : World) : Calls Tryz.prog 116 #[.slice A 0 c, .func g p q] w fun e w' => e = .returned (.bool true) ∧ Below w.heap.size w w' := by
  go_enter Tryz.func116, Tryz.ntmps116
  go_wp2_with (go_at_call 202; refine (con0_180 _ _ _ _ _ _).mono ?_; rintro e w' ⟨rfl, rfl⟩)
  go_ret
  exact ⟨rfl, (Below.refl _ _).alloc (Nat.le_refl _) _⟩

theorem all0_95 (A : Option Addr) (c : Nat) (g : Fn) (p q : Array Value) (w : World) : Calls Tryz.prog 117 #[.slice A 0 c, .func g p q] w fun e w' => e = .returned (.bool true) ∧ Below w.heap.size w w' := by
  go_enter Tryz.func117, Tryz.ntmps117
  go_wp2_with (go_at_call 148; refine (con0_126 _ _ _ _ _ _).mono ?_; rintro e w' ⟨rfl, rfl⟩)
  go_ret
  exact ⟨rfl, (Below.refl _ _).alloc (Nat.le_refl _) _⟩

theorem all0_112 (A : Option Addr) (c : Nat) (g : Fn) (p q : Array Value) (w : World) : Calls Tryz.prog 134 #[.slice A 0 c, .func g p q] w fun e w' => e = .returned (.bool true) ∧ Below w.heap.size w w' := by
  go_enter Tryz.func134, Tryz.ntmps134
  go_wp2_with (go_at_call 214; refine (con0_192 _ _ _ _ _ _).mono ?_; rintro e w' ⟨rfl, rfl⟩)
  go_ret
  exact ⟨rfl, (Below.refl _ _).alloc (Nat.le_refl _) _⟩

theorem all0_118 (A : Option Addr) (c : Nat) (g : Fn) (p q : Array Value) (w : World) : Calls Tryz.prog 140 #[.slice A 0 c, .func g p q] w fun e w' => e = .returned (.bool true) ∧ Below w.heap.size w w' := by
  go_enter Tryz.func140, Tryz.ntmps140
  go_wp2_with (go_at_call 225; refine (con0_203 _ _ _ _ _ _).mono ?_; rintro e w' ⟨rfl, rfl⟩)
  go_ret
  exact ⟨rfl, (Below.refl _ _).alloc (Nat.le_refl _) _⟩

theorem all0_123 (A : Option Addr) (c : Nat) (g : Fn) (p q : Array Value) (w : World) : Calls Tryz.prog 145 #[.slice A 0 c, .func g p q] w fun e w' => e = .returned (.bool true) ∧ Below w.heap.size w w' := by
  go_enter Tryz.func145, Tryz.ntmps145
  go_wp2_with (go_at_call 229; refine (con0_207 _ _ _ _ _ _).mono ?_; rintro e w' ⟨rfl, rfl⟩)
  go_ret
  exact ⟨rfl, (Below.refl _ _).alloc (Nat.le_refl _) _⟩

theorem all0_124 (A : Option Addr) (c : Nat) (g : Fn) (p q : Array Value) (w : World) : Calls Tryz.prog 146 #[.slice A 0 c, .func g p q] w fun e w' => e = .returned (.bool true) ∧ Below w.heap.size w w' := by
  go_enter Tryz.func146, Tryz.ntmps146
  go_wp2_with (go_at_call 231; refine (con0_209 _ _ _ _ _ _).mono ?_; rintro e w' ⟨rfl, rfl⟩)
  go_ret
  exact ⟨rfl, (Below.refl _ _).alloc (Nat.le_refl _) _⟩

theorem all0_132 (A : Option Addr) (c : Nat) (g : Fn) (p q : Array Value) (w : World) : Calls Tryz.prog 154 #[.slice A 0 c, .func g p q] w fun e w' => e = .returned (.bool true) ∧ Below w.heap.size w w' := by
  go_enter Tryz.func154, Tryz.ntmps154
  go_wp2_with (go_at_call 64; refine (con0_48 _ _ _ _ _ _).mono ?_; rintro e w' ⟨rfl, rfl⟩)
  go_ret
  exact ⟨rfl, (Below.refl _ _).alloc (Nat.le_refl _) _⟩

theorem all0_150 (A : Option Addr) (c : Nat) (g : Fn) (p q : Array Value) (w : World) : Calls Tryz.prog 172 #[.slice A 0 c, .func g p q] w fun e w' => e = .returned (.bool true) ∧ Below w.heap.size w w' := by
  go_enter Tryz.func172, Tryz.ntmps172
  go_wp2_with (go_at_call 198; refine (con0_176 _ _ _ _ _ _).mono ?_; rintro e w' ⟨rfl, rfl⟩)
  go_ret
  exact ⟨rfl, (Below.refl _ _).alloc (Nat.le_refl _) _⟩

theorem all0_152 (A : Option Addr) (c : Nat) (g : Fn) (p q : Array Value) (w : World) : Calls Tryz.prog 174 #[.slice A 0 c, .func g p q] w fun e w' => e = .returned (.bool true) ∧ Below w.heap.size w w' := by
  go_enter Tryz.func174, Tryz.ntmps174
  go_wp2_with (go_at_call 260; refine (con0_238 _ _ _ _ _ _).mono ?_; rintro e w' ⟨rfl, rfl⟩)
  go_ret
  exact ⟨rfl, (Below.refl _ _).alloc (Nat.le_refl _) _⟩

theorem all0_154 (A : Option Addr) (c : Nat) (g : Fn) (p q : Array Value) (w : World) : Calls Tryz.prog 176 #[.slice A 0 c, .func g p q] w fun e w' => e = .returned (.bool true) ∧ Below w.heap.size w w' := by
  go_enter Tryz.func176, Tryz.ntmps176
  go_wp2_with (go_at_call 200; refine (con0_178 _ _ _ _ _ _).mono ?_; rintro e w' ⟨rfl, rfl⟩)
  go_ret
  exact ⟨rfl, (Below.refl _ _).alloc (Nat.le_refl _) _⟩

theorem all0_156 (A : Option Addr) (c : Nat) (g : Fn) (p q : Array Value) (w : World) : Calls Tryz.prog 178 #[.slice A 0 c, .func g p q] w fun e w' => e = .returned (.bool true) ∧ Below w.heap.size w w' := by
  go_enter Tryz.func178, Tryz.ntmps178
  go_wp2_with (go_at_call 202; refine (con0_180 _ _ _ _ _ _).mono ?_; rintro e w' ⟨rfl, rfl⟩)
  go_ret
  exact ⟨rfl, (Below.refl _ _).alloc (Nat.le_refl _) _⟩

theorem all0_158 (A : Option Addr) (c : Nat) (g : Fn) (p q : Array Value) (w : World) : Calls Tryz.prog 180 #[.slice A 0 c, .func g p q] w fun e w' => e = .returned (.bool true) ∧ Below w.heap.size w w' := by
  go_enter Tryz.func180, Tryz.ntmps180
  go_wp2_with (go_at_call 225; refine (con0_203 _ _ _ _ _ _).mono ?_; rintro e w' ⟨rfl, rfl⟩)
  go_ret
  exact ⟨rfl, (Below.refl _ _).alloc (Nat.le_refl _) _⟩

theorem all0_160 (A : Option Addr) (c : Nat) (g : Fn) (p q : Array Value) (w : World) : Calls Tryz.prog 182 #[.slice A 0 c, .func g p q] w fun e w' => e = .returned (.bool true) ∧ Below w.heap.size w w' := by
  go_enter Tryz.func182, Tryz.ntmps182
  go_wp2_with (go_at_call 229; refine (con0_207 _ _ _ _ _ _).mono ?_; rintro e w' ⟨rfl, rfl⟩)
  go_ret
  exact ⟨rfl, (Below.refl _ _).alloc (Nat.le_refl _) _⟩

theorem all0_162 (A : Option Addr) (c : Nat) (g : Fn) (p q : Array Value) (w : World) : Calls Tryz.prog 184 #[.slice A 0 c, .func g p q] w fun e w' => e = .returned (.bool true) ∧ Below w.heap.size w w' := by
  go_enter Tryz.func184, Tryz.ntmps184
  go_wp2_with (go_at_call 148; refine (con0_126 _ _ _ _ _ _).mono ?_; rintro e w' ⟨rfl, rfl⟩)
  go_ret
  exact ⟨rfl, (Below.refl _ _).alloc (Nat.le_refl _) _⟩

theorem all0_164 (A : Option Addr) (c : Nat) (g : Fn) (p q : Array Value) (w : World) : Calls Tryz.prog 186 #[.slice A 0 c, .func g p q] w fun e w' => e = .returned (.bool true) ∧ Below w.heap.size w w' := by
  go_enter Tryz.func186, Tryz.ntmps186
  go_wp2_with (go_at_call 231; refine (con0_209 _ _ _ _ _ _).mono ?_; rintro e w' ⟨rfl, rfl⟩)
  go_ret
  exact ⟨rfl, (Below.refl _ _).alloc (Nat.le_refl _) _⟩

theorem all0_236 (A : Option Addr) (c : Nat) (g : Fn) (p q : Array Value) (w : World) : Calls Tryz.prog 258 #[.slice A 0 c, .func g p q] w fun e w' => e = .returned (.bool true) ∧ Below w.heap.size w w' := by
  go_enter Tryz.func258, Tryz.ntmps258
  go_wp2_with (go_at_call 194; refine (con0_172 _ _ _ _ _ _).mono ?_; rintro e w' ⟨rfl, rfl⟩)
  go_ret
  exact ⟨rfl, (Below.refl _ _).alloc (Nat.le_refl _) _⟩

theorem all0_251 (A : Option Addr) (c : Nat) (g : Fn) (p q : Array Value) (w : World) : Calls Tryz.prog 273 #[.slice A 0 c, .func g p q] w fun e w' => e = .returned (.bool true) ∧ Below w.heap.size w w' := by
  go_enter Tryz.func273, Tryz.ntmps273
  go_wp2_with (go_at_call 63; refine (con0_47 _ _ _ _ _ _).mono ?_; rintro e w' ⟨rfl, rfl⟩)
  go_ret
  exact ⟨rfl, (Below.refl _ _).alloc (Nat.le_refl _) _⟩

theorem all0_260 (A : Option Addr) (c : Nat) (g : Fn) (p q : Array Value) (w : World) : Calls Tryz.prog 282 #[.slice A 0 c, .func g p q] w fun e w' => e = .returned (.bool true) ∧ Below w.heap.size w w' := by
  go_enter Tryz.func282, Tryz.ntmps282
  go_wp2_with (go_at_call 214; refine (con0_192 _ _ _ _ _ _).mono ?_; rintro e w' ⟨rfl, rfl⟩)
  go_ret
  exact ⟨rfl, (Below.refl _ _).alloc (Nat.le_refl _) _⟩

theorem all0_284 (A : Option Addr) (c : Nat) (g : Fn) (p q : Array Value) (w : World) : Calls Tryz.prog 306 #[.slice A 0 c, .func g p q] w fun e w' => e = .returned (.bool true) ∧ Below w.heap.size w w' := by
  go_enter Tryz.func306, Tryz.ntmps306
  go_wp2_with (go_at_call 190; refine (con0_168 _ _ _ _ _ _).mono ?_; rintro e w' ⟨rfl, rfl⟩)
  go_ret
  exact ⟨rfl, (Below.refl _ _).alloc (Nat.le_refl _) _⟩

theorem all0_286 (A : Option Addr) (c : Nat) (g : Fn) (p q : Array Value) (w : World) : Calls Tryz.prog 308 #[.slice A 0 c, .func g p q] w fun e w' => e = .returned (.bool true) ∧ Below w.heap.size w w' := by
  go_enter Tryz.func308, Tryz.ntmps308
  go_wp2_with (go_at_call 192; refine (con0_170 _ _ _ _ _ _).mono ?_; rintro e w' ⟨rfl, rfl⟩)
  go_ret
  exact ⟨rfl, (Below.refl _ _).alloc (Nat.le_refl _) _⟩

theorem all0_290 (A : Option Addr) (c : Nat) (g : Fn) (p q : Array Value) (w : World) : Calls Tryz.prog 312 #[.slice A 0 c, .func g p q] w fun e w' => e = .returned (.bool true) ∧ Below w.heap.size w w' := by
  go_enter Tryz.func312, Tryz.ntmps312
  go_wp2_with (go_at_call 335; refine (con0_313 _ _ _ _ _ _).mono ?_; rintro e w' ⟨rfl, rfl⟩)
  go_ret
  exact ⟨rfl, (Below.refl _ _).alloc (Nat.le_refl _) _⟩

theorem all0_297 (A : Option Addr) (c : Nat) (g : Fn) (p q : Array Value) (w : World) : Calls Tryz.prog 319 #[.slice A 0 c, .func g p q] w fun e w' => e = .returned (.bool true) ∧ Below w.heap.size w w' := by
  go_enter Tryz.func319, Tryz.ntmps319
  go_wp2_with (go_at_call 188; refine (con0_166 _ _ _ _ _ _).mono ?_; rintro e w' ⟨rfl, rfl⟩)
  go_ret
  exact ⟨rfl, (Below.refl _ _).alloc (Nat.le_refl _) _⟩

end Go.Proofs.YtknojjlfgjkbiaaGreatDoor
