/- A module that the statements made, as data. -/
import Derived.Test.YtlmbffnmjfbglabDo
import Derived.Test.YtlmbffnmjfbglabS2
set_option linter.unusedSimpArgs false
set_option linter.unusedVariables false
namespace Go.Proofs.Ytlmbffnmjfbglab
open Go.ChangeShapes Go.WideShapes Go.ChangeAt Go.RowKit

/-- a module that the statements made, and how much room its parts have. -/
def RetModG (w : World) (frame : Int) (ps : List Part) (e : Ending) (w' : World) : Prop := ∃ A c, e = .returned (.agg #[.string ⟨#[]⟩, .int .i64 0, .int .i64 frame, .slice A ps.length c]) ∧ RdPart w' w'.heap.size A ps ∧ (ps.length ≤ c ∧ c ≤ maxLen) ∧ Below w.heap.size w w'

set_option maxRecDepth 100000 in
set_option maxHeartbeats 2000000 in
theorem moduleG_c (frame : Int) (ss : List Int) (A : Option Addr) (c : Nat) (w : World) (h : RdInt w w.heap.size A ss) (hl : ss.length ≤ 1000) :
    Calls Try.prog 25 #[.int .i64 frame, .slice A ss.length c] w (RetModG w frame (pairs ss)) := by
  obtain ⟨i0, hi0, hz0, hz1, hz2⟩ := info_parts info53
  have hBa : Below w.heap.size w ((w.alloc (.cells #[.string ⟨#[]⟩, .int .i64 0, .int .i64 0, .slice none 0 0] 24)).alloc (.cells #[.string ⟨#[]⟩, .int .i64 0, .int .i64 frame, .slice none 0 0] 24)) := ((Below.refl _ w).alloc (Nat.le_refl _) _).alloc (by simp) _
  have hb1 := Blk.new (w.alloc (.cells #[.string ⟨#[]⟩, .int .i64 0, .int .i64 0, .slice none 0 0] 24)) 24 #[.string ⟨#[]⟩, .int .i64 0, .int .i64 frame, .slice none 0 0]
  have hb0 := (Blk.new w 24 #[.string ⟨#[]⟩, .int .i64 0, .int .i64 0, .slice none 0 0]).alloc (.cells #[.string ⟨#[]⟩, .int .i64 0, .int .i64 frame, .slice none 0 0] 24)
  simp only [World.size_alloc] at hb1
  go_enter Try.func25, Try.ntmps25
  go_wp2
  refine nameW fun W0 hW0 => ?_
  rw [← hW0] at hBa hb1 hb0
  have hz : W0.heap.size = w.heap.size + 2 := by subst hW0; simp
  clear hW0
  have hz2' : w.heap.size + 2 ≤ W0.heap.size := by omega
  clear hz
  have hpl := Lib.hid (pairs_len ss)
  go_loopw [6] (fun i wr => ∃ k : Nat, k ≤ ss.length / 2 ∧ i = .int .i64 (2 * k : Nat) ∧ Below w.heap.size w wr ∧ w.heap.size + 2 ≤ wr.heap.size ∧ Blk wr w.heap.size 24 #[.string ⟨#[]⟩, .int .i64 0, .int .i64 0, .slice none 0 0] ∧
    ∃ v, Blk wr (w.heap.size + 1) 24 #[.string ⟨#[]⟩, .int .i64 0, .int .i64 frame, v] ∧ wr.ownsRow (w.heap.size + 2) 56 10 v k (((pairs ss).take k).flatMap Part.cells)) (fun i _ => ss.length - (intOf i).toNat)
  case atStart => exact ⟨0, Nat.zero_le _, rfl, hBa, hz2', hb0, _, hb1, World.ownsRow_nil _ _ _ _⟩
  case round =>
    obtain ⟨k, hk, rfl, hB, hzr, hb0, v, hb1, hown⟩ := hrel
    have hex : ∃ A' c', v = .slice A' k c' := by
      rcases hown.2 with ⟨rfl, rfl⟩ | ⟨g, cap, cur, rfl, _⟩
      · exact ⟨none, 0, rfl⟩
      · exact ⟨_, _, rfl⟩
    obtain ⟨A', c', rfl⟩ := hex
    by_cases hlt : 2 * k + 1 < ss.length
    · obtain ⟨b, o, rfl, hb, hc⟩ := h.keep hB (by omega)
      have c0 := hc (2 * k) (by omega)
      have c1 := hc (2 * k + 1) hlt
      clear hc h
      have q3 := hb1.cell 3
      have f3 := hb1.frozen 3
      simp at q3
      have htk : Hid (((pairs ss).take (k + 1)).flatMap Part.cells = ((pairs ss).take k).flatMap Part.cells ++ [.string ⟨#[]⟩, .int .i64 ss[2 * k], .int .i64 ss[2 * k + 1], .int .i64 0, .slice none 0 0, .int .i64 0, .int .i64 0, .slice none 0 0, .slice none 0 0, .slice none 0 0]) := by
        have hkz : k < (pairs ss).length := by rw [pairs_len]; omega
        rw [List.take_succ_eq_append_getElem hkz, List.flatMap_append, pairs_get ss k hkz (by omega) hlt]; rfl
      generalize ss[2 * k] = s at c0 htk
      generalize ss[2 * k + 1] = s' at c1 htk
      obtain ⟨j, hj⟩ : ∃ j, j = 2 * k := ⟨_, rfl⟩
      rw [← hj] at c0 c1 hlt ⊢
      have Hj := Lib.hid hj
      have hi0' : (0 : Int) ≤ (j : Int) := by omega
      have hi1 : (j : Int) < (ss.length : Int) := by omega
      have hi2 : (j : Int) + 1 < (ss.length : Int) := by omega
      have hi3 : (0 : Int) ≤ (j : Int) + 1 := by omega
      have hkn : k ≤ 500 := by omega
      have hk1 : k + 1 ≤ ss.length / 2 := by omega
      have m1 : IntKind.i64.wrap ((j : Int) + 1) = (j : Int) + 1 := IntWalk.i64_in _ (by omega)
      have m2 : ((j : Int) + 1).toNat = j + 1 := by omega
      clear hj
      have hne1 : some (w.heap.size + 1) ≠ (Value.slice A' k c').ownBlock := fun e => by have := hown.lt _ e.symm; omega
      have hne0 : some w.heap.size ≠ (Value.slice A' k c').ownBlock := fun e => by have := hown.lt _ e.symm; omega
      have hnew : ∀ g, (Value.slice A' k c').ownBlock = some g → w.heap.size ≤ g := fun g hg => by have := hown.lt g hg; omega
      have Hne1 := Lib.hid hne1
      have Hne0 := Lib.hid hne0
      have Hnew := Lib.hid hnew
      clear hne1 hne0 hnew
      have q3a : ∀ o, (wr.alloc o).cell? ⟨w.heap.size + 1, 3, none⟩ = some (.slice A' k c') := fun o => by rw [World.cell?_alloc_lt _ _ _ (by simp; omega)]; exact q3
      have c0a : ∀ o', (wr.alloc o').cell? ⟨b, o + j, none⟩ = some (.int .i64 s) := fun o' => by rw [World.cell?_alloc_lt _ _ _ (by simp; have := hB.size; omega)]; exact c0
      have c1a : ∀ o', (wr.alloc o').cell? ⟨b, o + (j + 1), none⟩ = some (.int .i64 s') := fun o' => by rw [World.cell?_alloc_lt _ _ _ (by simp; have := hB.size; omega)]; exact c1
      go_wp2
      go_region_law (refine step_append_lies _ rfl (.tmp 17) (.tmp 28) 22 rfl (w.heap.size + 2) 56 i0 _ 10 152 Try.underlying22 hi0 hz0 hz1 hz2 rfl (by decide) (.slice A' k c') k _ (by simp [Act.eval]) ((hown.alloc _).drew) ⟨wr.heap.size, 0, none⟩ 1 1 [.string ⟨#[]⟩, .int .i64 s, .int .i64 s', .int .i64 0, .slice none 0 0, .int .i64 0, .int .i64 0, .slice none 0 0, .slice none 0 0, .slice none 0 0] (by simp [Act.eval]) rfl (World.news_of_block (cs := #[.string ⟨#[]⟩, .int .i64 s, .int .i64 s', .int .i64 0, .slice none 0 0, .int .i64 0, .int .i64 0, .slice none 0 0, .slice none 0 0, .slice none 0 0]) (t := 56) (fr := (0, 0)) (heap_alloc_new wr _)) (by simp [Value.oneCell']) (by omega) (by unfold maxLen; omega) (by omega) (by simp; omega) (wr.heap.size + 1) (by simp) ?_; intro g cap w2 hown2 hgrow hg hgl; have B1 := (Blk.drew (hb1.alloc _)).grown hgrow Hne1.out; have q1 := B1.cell 3; have f1 := B1.frozen 3; simp at q1)
      all_goals
        have B0 := (Blk.drew (hb0.alloc _)).grown hgrow Hne0.out
        have hB2 := (((hB.alloc (by omega) _).drew).grown hgrow (by simp; omega) Hnew.out)
        go_wp2
        go_roundw
        case rel =>
          refine ⟨k + 1, hk1, by rw [Hj.out]; go_num, hB2.setCell (by simp) _, by have := hgrow.size; simp at this ⊢; omega, B0.far (by simp) _, _, B1.set_ 3 _, ?_⟩
          rw [htk.out]
          exact ownsRow_setCell_below hown2 (by simp) _
        case measure => simp [intOf]; omega
    · obtain rfl : k = ss.length / 2 := by omega
      have hle : ss.length ≤ 2 * (ss.length / 2) + 1 := by omega
      have hj9 : 2 * (ss.length / 2) ≤ 1000 := by omega
      clear hlt hk
      rw [List.take_of_length_le (by rw [hpl.out]; exact Nat.le_refl _)] at hown
      have q0 := hb1.cell 0
      have q1 := hb1.cell 1
      have q2 := hb1.cell 2
      have q3 := hb1.cell 3
      have p0 := hb0.cell 0
      have p1 := hb0.cell 1
      have p2 := hb0.cell 2
      have p3 := hb0.cell 3
      have f0 := hb0.frozen 0
      have f1 := hb0.frozen 1
      have f2 := hb0.frozen 2
      have f3 := hb0.frozen 3
      simp at q0 q1 q2 q3 p0 p1 p2 p3
      generalize hk2 : ss.length / 2 = k at *
      generalize hj2 : 2 * k = j at *
      have Hk2 := Lib.hid hk2
      clear hk2 hj2
      go_wp2_with fail
      refine bodyPost_ret (v := .agg #[.string ⟨#[]⟩, .int .i64 0, .int .i64 frame, .slice A' k c']) ?_ rfl ⟨A', c', by rw [hpl.out], ?_, ?_, ?_⟩
      · simp [results, Try.results25, go_sem, p0, p1, p2, p3]
      · have hown4 := ownsRow_setCell_below (a := ⟨w.heap.size, 3, none⟩) (ownsRow_setCell_below (a := ⟨w.heap.size, 2, none⟩) (ownsRow_setCell_below (a := ⟨w.heap.size, 1, none⟩) (ownsRow_setCell_below (a := ⟨w.heap.size, 0, none⟩) hown (by simp) (.string ⟨#[]⟩)) (by simp) (.int .i64 0)) (by simp) (.int .i64 frame)) (by simp) (.slice A' k c')
        obtain ⟨A2, c2, hv, hrd⟩ := RdPart.of_own hpl.out.symm hown4
        injection hv with e1 e2 e3
        rw [← e1] at hrd; exact hrd
      · obtain ⟨A3, c3, e, h1, h2⟩ := ownsRow_form hown
        injection e with _ _ e3
        rw [hpl.out]
        omega
      · exact (((hB.setCell (by simp) _).setCell (by simp) _).setCell (by simp) _).setCell (by simp) _

/-- a part without slices, as data. -/
def gPart (p : Part) : List G := [.one (.string p.name), .one (.int .i64 p.period), .one (.int .i64 p.length), .one (.int .i64 p.mem), .row 0 [], .one (.int .i64 p.events), .one (.int .i64 p.boards), .row 0 [], .row 2 [], .row 3 []]
/-- parts without slices. -/
def bare (p : Part) : Prop := p.semas = ⟨none, 0, 0⟩ ∧ p.bufs = ⟨none, 0, 0⟩ ∧ p.ports = ⟨none, 0, 0⟩ ∧ p.procs = ⟨none, 0, 0⟩
theorem bare_pairs : ∀ (ss : List Int) (p : Part), p ∈ pairs ss → bare p
  | [], p, h => by simp [pairs] at h
  | [_], p, h => by simp [pairs] at h
  | a :: b :: r, p, h => by
    simp only [pairs, List.mem_cons] at h
    rcases h with rfl | h
    · exact ⟨rfl, rfl, rfl, rfl⟩
    · exact bare_pairs r p h
theorem rd_nil (w : World) (Q : Nat → Prop) (t : Nat) : G.rd w Q (.slice none 0 0) (.row t []) := by
  simp only [G.rd]
  exact ⟨none, 0, rfl, Nat.le_refl _, Nat.zero_le _, fun h => absurd h (by simp)⟩
theorem cf_gPart (p : Part) : cfE KS KN (KS 4) (gPart p) := by
  have h0 := cf_nil 0
  have h2 := cf_nil 2
  have h3 := cf_nil 3
  simp only [KS, gPart, cfE]
  exact ⟨⟨_, rfl⟩, ⟨_, rfl⟩, ⟨_, rfl⟩, ⟨_, rfl⟩, h0, ⟨_, rfl⟩, ⟨_, rfl⟩, h0, h2, h3, trivial⟩
theorem rd_gPart {w : World} {Q : Nat → Prop} {b o : Nat} {p : Part} (hb : bare p) (h : ∀ j v, p.cells[j]? = some v → w.cell? ⟨b, o + j, none⟩ = some v) : rdE w Q b o (gPart p) := by
  obtain ⟨h1, h2, h3, h4⟩ := hb
  refine rdE_of fun j hj => ?_
  have hj : j < 10 := hj
  match j, hj with
  | 0, _ => exact ⟨_, h 0 _ rfl, by simp only [gPart, List.getElem_cons_zero, G.rd]⟩
  | 1, _ => exact ⟨_, h 1 _ rfl, by simp only [gPart, List.getElem_cons_succ, List.getElem_cons_zero, G.rd]⟩
  | 2, _ => exact ⟨_, h 2 _ rfl, by simp only [gPart, List.getElem_cons_succ, List.getElem_cons_zero, G.rd]⟩
  | 3, _ => exact ⟨_, h 3 _ rfl, by simp only [gPart, List.getElem_cons_succ, List.getElem_cons_zero, G.rd]⟩
  | 4, _ => exact ⟨_, h 4 _ rfl, by rw [h1]; exact rd_nil w Q 0⟩
  | 5, _ => exact ⟨_, h 5 _ rfl, by simp only [gPart, List.getElem_cons_succ, List.getElem_cons_zero, G.rd]⟩
  | 6, _ => exact ⟨_, h 6 _ rfl, by simp only [gPart, List.getElem_cons_succ, List.getElem_cons_zero, G.rd]⟩
  | 7, _ => exact ⟨_, h 7 _ rfl, by rw [h2]; exact rd_nil w Q 0⟩
  | 8, _ => exact ⟨_, h 8 _ rfl, by rw [h3]; exact rd_nil w Q 2⟩
  | 9, _ => exact ⟨_, h 9 _ rfl, by rw [h4]; exact rd_nil w Q 3⟩
/-- such parts in memory, as data. -/
theorem parts_G {w : World} {A : Option Addr} {c : Nat} {ps : List Part} (h : RdPart w w.heap.size A ps) (hb : ∀ p ∈ ps, bare p) (hn : ps.length ≤ 1000) (hc : ps.length ≤ c ∧ c ≤ maxLen) :
    G.cf KS KN (.sl 4) (.row 4 (ps.map gPart)) ∧ G.rdW w (.slice A ps.length c) (.row 4 (ps.map gPart)) := by
  have hN : KN 4 = 925904528626 := rfl
  refine ⟨?_, ?_⟩
  · simp only [G.cf]
    refine ⟨trivial, by rw [hN, List.length_map]; omega, cfR_of fun i hi => ?_⟩
    rw [List.getElem_map]
    exact cf_gPart _
  · simp only [G.rdW, G.rd]
    refine ⟨A, c, by rw [List.length_map], by rw [List.length_map]; exact hc.1, hc.2, fun h0 => ?_⟩
    obtain ⟨b, o, e, hlt, hcs⟩ := h (by simpa using h0)
    refine ⟨b, o, e, hlt, rdR_of (n := 10) (fun j hj => by rw [List.getElem_map]; rfl) fun i hi => ?_⟩
    rw [List.getElem_map]
    exact rd_gPart (hb _ (List.getElem_mem _)) fun j v hv => hcs i (by simpa using hi) j v hv
end Go.Proofs.Ytlmbffnmjfbglab
