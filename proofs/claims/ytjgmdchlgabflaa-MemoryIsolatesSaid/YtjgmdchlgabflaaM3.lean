/- A Memory is made. -/
import Derived.Test.YtjgmdchlgabflaaM2
import Derived.Deep.RegionWith
namespace Go.Proofs.Ytjgmdchlgabflaa
open Go.ChangeShapes Go.WideShapes Go.ChangeAt Go.RowKit

theorem RdReg.nil_of {w : World} {B : Nat} {A : Option Addr} {l : List Reg} (h : RdReg w B A l) (hA : A = none) : l.length = 0 := by
  rcases Nat.eq_zero_or_pos l.length with e | e
  · exact e
  · obtain ⟨b, o, e, _⟩ := h e; rw [hA] at e; cases e

def ClonedR (w : World) (l : List Reg) (e : Ending) (w' : World) : Prop := ∃ Ar cr, e = .returned (.slice Ar l.length cr) ∧ RdReg w' w'.heap.size Ar l ∧ (∀ a, Ar = some a → w.heap.size ≤ a.block ∧ a.block < w'.heap.size) ∧ Below w.heap.size w w'
theorem clone_r (l : List Reg) (A : Option Addr) (c : Nat) (w : World) (h : RdReg w w.heap.size A l) (hl : l.length ≤ 1000) :
    Calls Try.prog 43 #[.slice A l.length c] w (ClonedR w l) := by
  refine (clone_c l A c w h h.nil_of hl).mono ?_
  rintro e w' ⟨v, rfl, ⟨rfl, rfl⟩ | ⟨g, cap, rfl, hg, hr⟩, hb⟩
  · exact ⟨none, 0, rfl, fun h => absurd h (by simp), fun a h => (by cases h), hb⟩
  · exact ⟨_, cap, rfl, hr.rd, fun a h => (by cases h; exact ⟨hg, hr.lt⟩), hb⟩

def NewPost (w : World) (rs : List Reg) (n : Nat) (e : Ending) (w' : World) : Prop :=
  ∃ m gb Ar cr, e = .returned (.tuple #[.pointer (some ⟨m, 0, none⟩), .int .i64 0]) ∧ MemAt w' m gb Ar cr rs n (fun _ => 0) ∧ w.heap.size ≤ m ∧ w.heap.size ≤ gb ∧ (∀ a, Ar = some a → w.heap.size ≤ a.block ∧ a.block < w'.heap.size) ∧ Below w.heap.size w w'

set_option maxRecDepth 100000 in
set_option maxHeartbeats 2000000 in
theorem New_c (rs : List Reg) (A : Option Addr) (c n : Nat) (w : World) (h : RdReg w w.heap.size A rs) (hL : Laid rs n) :
    Calls Try.prog 24 #[.slice A rs.length c, .int .i64 n] w (NewPost w rs n) := by
  have hlen := hL.len
  have hm1 := hL.mem1
  have hv := valid_c n rs A c w h h.nil_of (by omega)
  rw [hL.valid] at hv
  obtain ⟨i0, hi0, hz0, hz1, hz2⟩ := info_parts info5
  have hmk : ∀ W, (Instr.makeSlice 46 (.int .i64 (n : Int)) (.int .i64 (n : Int))).run Try.prog W = .ok (.slice (some ⟨W.heap.size, 0, none⟩) n n) (W.alloc (.cells (madeCells #[.int .u8 0] n) 5)) := fun W => by
    have e := run_make_rowN (P := Try.prog) 46 5 i0 _ Try.underlying46 hi0 hz0 .i64 .i64 n n (by omega) (by rw [hz2]; omega) (by omega) W
    rw [hz1] at e
    simpa [Value.cells] using e
  have hcl := fun W (hh : RdReg W W.heap.size A rs) => clone_r rs A c W hh (by omega)
  clear hL hi0 hz0 hz1 hz2
  go_enter Try.func24, Try.ntmps24
  go_wp2_with fail
  refine hv.mono ?_
  clear hv
  rintro e w1 ⟨rfl, hb1⟩
  have h1 := h.below hb1
  clear h
  go_wp2_with fail
  have hcl0 := hcl _ (h1.below (Below.refl _ w1).drew)
  have hcl1 := hcl _ (h1.below ((Below.refl _ w1).drew.alloc (Nat.le_refl _) (.cells (madeCells #[.int .u8 0] n) 5)))
  clear hcl
  have hmk0 := hmk w1.drew
  go_region_with (go_at_call 43; (first | refine hcl0.mono ?_ | refine hcl1.mono ?_); rintro e w2 ⟨Ar, cr, rfl, hR, hown, hb2⟩)
  · go_wp2_with fail
    go_ret2
    have hb1' : Below w.heap.size w w2 := hb1.trans ((Below.refl _ w1).drew.trans hb2 |>.mono hb1.size)
    have hB2 : Below w2.heap.size w2 (w2.alloc (.cells (madeCells #[.int .u8 0] n) 5)) := (Below.refl _ _).alloc (Nat.le_refl _) _
    have hB3 : Below w2.heap.size w2 ((w2.alloc (.cells (madeCells #[.int .u8 0] n) 5)).alloc (.cells #[.slice Ar rs.length cr, .slice (some ⟨w2.heap.size, 0, none⟩) n n, .bool true] 48)) := hB2.alloc hB2.size _
    have hsz := hb1'.size
    have hs2 : w1.heap.size ≤ w2.heap.size := hb2.size
    have hs1 := hb1.size
    refine ⟨w2.heap.size + 1, w2.heap.size, Ar, cr, rfl, ⟨?_, ?_, by omega, hR.below hB3, ?_⟩, by omega, by omega, ?_, hb1'.trans (hB3.mono hsz)⟩
    · have := Blk.new (w2.alloc (.cells (madeCells #[.int .u8 0] n) 5)) 48 #[.slice Ar rs.length cr, .slice (some ⟨w2.heap.size, 0, none⟩) n n, .bool true]
      simpa using this
    · exact (Cells.made w2 5 n (.int .u8 0)).below ((Below.refl (w2.heap.size + 1) _).alloc (by simp) _) (by omega)
    · intro a ha; have := (hown a ha).2; omega
    · intro a ha
      have h1 : w1.heap.size ≤ a.block := (hown a ha).1
      have h2 := (hown a ha).2
      have h3 := hB3.size
      exact ⟨by omega, Nat.lt_of_lt_of_le h2 h3⟩
  · go_wp2_with fail
    go_ret2
    have hBm : Below w1.heap.size w1 (w1.drew.alloc (.cells (madeCells #[.int .u8 0] n) 5)) := (Below.refl _ w1).drew.alloc (Nat.le_refl _) _
    have hs1 := hb1.size
    have hszm : (w1.drew.alloc (.cells (madeCells #[.int .u8 0] n) 5)).heap.size = w1.heap.size + 1 := by simp
    have hcm : Cells (w1.drew.alloc (.cells (madeCells #[.int .u8 0] n) 5)) w1.heap.size 5 n (fun _ => .int .u8 0) := Cells.made w1.drew 5 n (.int .u8 0)
    have hc2 := hcm.below hb2 (by rw [hszm]; omega)
    have hs2 := hb2.size
    rw [hszm] at hs2
    have hb1' : Below w.heap.size w w2 := hb1.trans ((hBm.trans (hb2.mono (by rw [hszm]; omega))).mono hs1)
    have hB3 : Below w2.heap.size w2 (w2.alloc (.cells #[.slice Ar rs.length cr, .slice (some ⟨w1.heap.size, 0, none⟩) n n, .bool true] 48)) := (Below.refl _ _).alloc (Nat.le_refl _) _
    have hsz := hb1'.size
    refine ⟨w2.heap.size, w1.heap.size, Ar, cr, rfl, ⟨Blk.new w2 48 _, hc2.below hB3 hc2.lt, by omega, hR.below hB3, ?_⟩, by omega, by omega, ?_, hb1'.trans (hB3.mono hsz)⟩
    · intro a ha
      have := (hown a ha).1
      rw [hszm] at this
      omega
    · intro a ha
      have h1 := (hown a ha).1
      have h2 := (hown a ha).2
      have h3 := hB3.size
      rw [hszm] at h1
      exact ⟨by omega, Nat.lt_of_lt_of_le h2 h3⟩
end Go.Proofs.Ytjgmdchlgabflaa
