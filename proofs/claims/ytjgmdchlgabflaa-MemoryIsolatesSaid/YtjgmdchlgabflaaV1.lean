/- The contracts of mark, markRegion, LentRegions and KeptRegions. -/
import Derived.Test.YtjgmdchlgabflaaV0
import Derived.Test.YtjgmdchlgabflaaB0
namespace Go.Proofs.Ytjgmdchlgabflaa
open Go.ChangeShapes Go.WideShapes Go.ChangeAt Go.RowKit

theorem mark_c (i : Int) (w : World) (h0 : 0 ≤ i) (h1 : i ≤ 1000000) : Calls Try.prog 54 #[.int .i64 1, .int .i64 i] w fun e w' => e = .returned (.int .i64 (8000024 + i)) ∧ w = w' := by
  go_enter Try.func54, Try.ntmps54
  go_wp2
  go_ret
  exact ⟨rfl, rfl⟩
def markR (i : Nat) : Reg := ⟨0, 8000024 + i, 0⟩
theorem markRegion_c (i : Nat) (w : World) (h1 : i ≤ 1000000) : Calls Try.prog 47 #[.int .i64 1, .int .i64 i] w fun e w' => e = .returned (.agg #[.int .i64 (markR i).part, .int .i64 (markR i).base, .int .i64 (markR i).size]) ∧ Below w.heap.size w w' := by
  have hI := fun W => mark_c i W (by omega) (by omega)
  have hb0 := Blk.new w 42 #[.int .i64 0, .int .i64 0, .int .i64 0]
  go_enter Try.func47, Try.ntmps47
  go_wp2_with (go_at_call 54; refine (hI _).mono ?_; rintro e w' ⟨rfl, rfl⟩)
  refine bodyPost_ret (v := .agg #[.int .i64 0, .int .i64 (8000024 + i), .int .i64 0]) (by simp [results, Try.results47, go_sem]) rfl ⟨rfl, ?_⟩
  exact (Below.refl _ _).alloc (Nat.le_refl _) _

/-- a copy of l with twelve marks behind it. -/
def Lent (w : World) (v : Value) (l : List Reg) : Prop := ∃ g cap, v = .slice (some ⟨g, 0, none⟩) l.length cap ∧ Row w g cap (l ++ (List.range 12).map markR)
theorem Lent.below {w w' : World} {v : Value} {l : List Reg} (h : Lent w v l) (hb : Below w.heap.size w w') : Lent w' v l := by
  obtain ⟨g, cap, rfl, hr⟩ := h
  exact ⟨g, cap, rfl, hr.below hb hr.lt⟩
def LentPost (w : World) (l : List Reg) (e : Ending) (w' : World) : Prop := ∃ v, e = .returned v ∧ Lent w' v l ∧ Below w.heap.size w w'

theorem rdReg_reads {w : World} {B : Nat} {A : Option Addr} {l : List Reg} (h : RdReg w B A l) : Reads w B 3 A l.length (l.flatMap Reg.cells) :=
  ⟨cells3_length l, fun hn => by
    obtain ⟨b, o, rfl, hb, hc⟩ := h hn
    exact ⟨_, rfl, hb, rd_flat (B := B) (fun _ => ⟨b, o, rfl, hb, hc⟩) hn⟩⟩
theorem cells3_one (l : List Reg) : ∀ u ∈ l.flatMap Reg.cells, u.oneCell' = true := fun u hu => by
  obtain ⟨r, _, hr⟩ := List.mem_flatMap.1 hu; simp [Reg.cells] at hr; rcases hr with rfl | rfl | rfl <;> rfl

def lentTo (l : List Reg) (k : Nat) : List Value := (l ++ (List.range k).map markR).flatMap Reg.cells
theorem lentTo_zero (l : List Reg) : lentTo l 0 = l.flatMap Reg.cells := by simp [lentTo]
theorem lentTo_succ (l : List Reg) (k : Nat) : lentTo l (k + 1) = lentTo l k ++ [.int .i64 (markR k).part, .int .i64 (markR k).base, .int .i64 (markR k).size] := by
  unfold lentTo
  rw [List.range_succ, List.map_append, ← List.append_assoc, List.flatMap_append (xs := l ++ _)]; rfl

set_option maxRecDepth 100000 in
set_option maxHeartbeats 1000000 in
theorem lent_c (l : List Reg) (A : Option Addr) (c : Nat) (w : World) (h : RdReg w w.heap.size A l) (hl : l.length ≤ 1000) :
    Calls Try.prog 38 #[.slice A l.length c] w (LentPost w l) := by
  obtain ⟨i0, hi0, hz0, hz1, hz2⟩ := info_parts info42
  have hmk : ∀ W, (Instr.makeSlice 22 (.int .i64 0) (.int .i64 ((l.length : Int) + 12))).run Try.prog W = .ok (.slice (some ⟨W.heap.size, 0, none⟩) 0 (l.length + 12)) (W.alloc (.cells (madeCells #[.int .i64 0, .int .i64 0, .int .i64 0] ((l.length + 12) * 3)) 42)) := fun W => by
    have e := run_make_rowN (P := Try.prog) 22 42 i0 _ Try.underlying22 hi0 hz0 .i64 .i64 0 (l.length + 12) (by omega) (by rw [hz2]; omega) (by omega) W
    rw [hz1] at e
    simpa [Value.cells] using e
  have hread := (rdReg_reads h).alloc (Nat.le_refl _) (.cells (madeCells #[.int .i64 0, .int .i64 0, .int .i64 0] ((l.length + 12) * 3)) 42)
  have hone := cells3_one l
  have Hread := Lib.hid hread
  have Hone := Lib.hid hone
  clear hread hone h
  go_enter Try.func38, Try.ntmps38
  go_wp2_with (at_builtin; refine wpList_append_any _ rfl _ _ 22 rfl w.heap.size 42 i0 (.agg #[.int .i64 0, .int .i64 0, .int .i64 0]) 3 24 Try.underlying22 hi0 hz0 hz1 hz2 rfl (by decide) _ 0 [] rfl (World.ownsRow_made _ _ (l.length + 12) (Nat.le_refl _) (by simp [maxLen]; omega) (by simp [size_madeCells])) w.heap.size A l.length c (l.flatMap Reg.cells) rfl Hread.out Hone.out ?c3 ?c4 ?c5 ?_)
  case c3 => unfold maxLen; omega
  case c4 => omega
  case c5 => simp
  intro v' w2 hown2 hgrow hwhere
  have hB : Below w.heap.size w w2 := ((Below.refl _ w).alloc (Nat.le_refl _) _).grown hgrow (by simp) (fun k hk => by simp [Value.ownBlock] at hk; omega)
  try rw [List.nil_append, Nat.zero_add] at hown2
  clear hgrow hwhere Hread Hone hmk
  have hbig : (l.length : Int) ≤ 1000 := by omega
  go_wp2
  go_loopw [3, 4] (fun v i wr => ∃ k : Nat, k ≤ 12 ∧ i = .int .i64 k ∧ Below w.heap.size w wr ∧ wr.ownsRow w.heap.size 42 3 v (l.length + k) (lentTo l k)) (fun _ i _ => 12 - (intOf i).toNat)
  case atStart => exact ⟨0, by omega, rfl, hB, by rw [lentTo_zero]; exact hown2⟩
  case round =>
    obtain ⟨k, hk, rfl, hB3, hown⟩ := hrel
    by_cases hlt : k < 12
    · have hmark := markRegion_c k wr (by omega)
      have hz := hB3.size
      go_wp2_with fail
      refine hmark.mono ?_
      rintro e w3 ⟨rfl, hb3⟩
      have hown3 : w3.ownsRow w.heap.size 42 3 u3 (l.length + k) (lentTo l k) := hown.kept (only_of_below hb3 none) (by
        rcases hown.2 with ⟨h0, _⟩ | ⟨g, cap, cur, h0, _⟩
        · left; rw [h0]; rfl
        · right; rw [h0]; simp [Value.ownBlock])
      have hB4 := hB3.trans (hb3.mono hz)
      have hz4 := hB4.size
      clear hmark hb3 hown
      go_wp2_with (at_builtin; refine wpList_append_own _ rfl _ _ 22 rfl w.heap.size 42 i0 (.agg #[.int .i64 0, .int .i64 0, .int .i64 0]) 3 24 Try.underlying22 hi0 hz0 hz1 hz2 rfl (by decide) _ _ _ rfl (hown3.alloc _) ⟨w3.heap.size, 0, none⟩ 1 1 [.int .i64 (markR k).part, .int .i64 (markR k).base, .int .i64 (markR k).size] rfl rfl ?c1 ?c2 ?c3 ?c4 ?c5 ?_)
      case c1 => exact World.news_of_block (cs := #[.int .i64 (markR k).part, .int .i64 (markR k).base, .int .i64 (markR k).size]) (t := 42) (fr := (0, 0)) (heap_alloc_new w3 _)
      case c2 => simp [Value.oneCell']
      case c3 => unfold maxLen; omega
      case c4 => omega
      case c5 => simp; omega
      intro v4 w4 hown4 hgrow4 _
      have hB5 : Below w.heap.size w w4 := (hB4.alloc hz4 _).grown hgrow4 (by simp; omega) (fun g hg => (hown3.lt g hg).1)
      have heq := lentTo_succ l k
      rw [← heq] at hown4
      have Hown4 := Lib.hid hown4
      clear hgrow4 hown3 heq hown4
      go_wp2
      go_roundw
      case rel => exact ⟨k + 1, by omega, by go_num, hB5, Hown4.out⟩
      case measure => simp [intOf]; omega
    · obtain rfl : k = 12 := by omega
      have hlen : (l ++ (List.range 12).map markR).length = l.length + 12 := by simp
      have hex : ∃ g cap, u3 = .slice (some ⟨g, 0, none⟩) (l.length + 12) cap ∧ l.length + 12 ≤ cap ∧ cap ≤ 9223372036854775807 := by
        rcases hown.2 with ⟨_, h0⟩ | ⟨g, cap, cur, h0, _, _, h1, h2, _⟩
        · omega
        · exact ⟨g, cap, h0, h1, h2⟩
      obtain ⟨g, cap, rfl, hcap, hcm⟩ := hex
      have hrow := Row.of_own (l := l ++ (List.range 12).map markR) (by rw [hlen]) hown
      have Hrow := Lib.hid hrow
      clear hrow hown hlen hown2
      go_wp2
      go_ret
      exact ⟨.slice (some ⟨g, 0, none⟩) l.length cap, by simp, ⟨g, cap, rfl, Hrow.out⟩, hB3⟩
end Go.Proofs.Ytjgmdchlgabflaa
